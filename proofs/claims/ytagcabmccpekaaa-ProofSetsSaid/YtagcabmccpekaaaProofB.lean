/- proof.write and proof.Encode. -/
import Derived.Test.YtagcabmccpekaaaProofA
import Derived.Test.YtagcabmccpekaaaSpanE
namespace Go.Proofs.Ytagcabmccpekaaa.M
open Go.RowKit Go.Proofs.YtagcabmccpekaaaW.PrintWords Go.Proofs.YtagcabmccpekaaaW.PrintLast Go.Proofs.YtagcabmccpekaaaW.PrintMore Go.Proofs.Ytagcabmccpekaaa.Leaf

def writeB (kd a b : Nat) (ns : List Hsh) : List Int := [(kd : Int)] ++ shortI a ++ shortI b ++ nodesI ns

set_option maxHeartbeats 2000000 in
set_option maxRecDepth 100000 in
theorem proof_write (kd x y c : Nat) (ns : List Hsh) (A : Option Addr) (w : World) (hx : x < 18446744073709551616) (hy : y < 18446744073709551616) (hA : kH.C w A ns.length ns) (hle : ns.length ≤ 100000) :
    Calls Try.prog 76 #[.int .u8 kd, .int .u64 x, .int .u64 y, .slice A ns.length c] w fun e w' => ∃ v, e = .returned v ∧ Kd.R (Kd.int .u8) 5 w' w.heap.size (fun _ => True) v (writeB kd x y ns) ∧ Below w.heap.size w w' := by
  have HN := Aside0.mk hA
  have hns := hle
  clear hA hle
  go_enter Try.func76, Try.ntmps76
  go_wp2_with fail
  refine (short_calls x hx _).mono ?_
  rintro e wa ⟨va, rfl, hra, hba⟩
  obtain ⟨Aa, ca, ea⟩ := Kd.R_slice hra
  rw [ea] at hra ⊢
  have ra := Aside0.mk (Rd.of_R hra)
  have ba := Aside0.mk hba
  clear hra hba ea
  go_wp2_with fail
  refine (short_calls y hy _).mono ?_
  rintro e wb ⟨vb, rfl, hrb, hbb⟩
  obtain ⟨Ab, cb, eb⟩ := Kd.R_slice hrb
  rw [eb] at hrb ⊢
  have rb := Aside0.mk (Rd.of_R hrb)
  have bb := Aside0.mk hbb
  clear hrb hbb eb
  go_wp2_with fail
  refine (concat_rows (some ⟨_, 0, none⟩) 3 [[(kd : Int)], shortI x, shortI y] _ (C_rows3 .u8 5 _ _ _ _ 46 _ _ _ (Rd.below (Rd.below (Rd.one _ _ _ _ rfl) ba.out) bb.out) (Rd.below ra.out bb.out) rb.out (by simp [World.drew])) (by simp) (by have := shortI_len x; have := shortI_len y; simp; omega)).mono ?_
  rintro e wd ⟨vd, rfl, hrd, hbd⟩
  obtain ⟨Ad, ld, cd, ed⟩ : ∃ A l c, vd = .slice A l c := (by obtain ⟨A, c, h⟩ := Kd.R_slice hrd; exact ⟨A, _, c, h⟩)
  rw [ed] at hrd ⊢
  obtain ⟨P0, hP⟩ : ∃ P, P = [(kd : Int)] ++ shortI x ++ shortI y := ⟨_, rfl⟩
  have hfl : [[(kd : Int)], shortI x, shortI y].flatten = P0 := by rw [hP]; simp
  rw [hfl] at hrd
  have hPl : P0.length ≤ 31 := by have := shortI_len x; have := shortI_len y; rw [hP]; simp only [List.length_append, List.length_singleton]; omega
  have hB0 : Below w.heap.size w wd := blt (blt (blt (bl_new w _) ba.out) bb.out) (below_on (bl_new wb _) (by simp) (Below.refl _ _)) |>.trans (hbd.mono (by have := ba.out.size; have := bb.out.size; simp at *; omega))
  have HP := Aside0.mk hP
  have G1 := Aside0.mk (Kd.R_lower hrd (by have := ba.out.size; have := bb.out.size; simp at *; omega : w.heap.size ≤ _))
  have G2 := Aside0.mk hB0
  clear hrd hbd ed hP hfl hB0
  go_wp2_with fail
  go_loopw [9, 22] (fun s i wr => ∃ j : Nat, j ≤ ns.length ∧ i = .int .i64 j ∧ Aside0 (Kd.R (Kd.int .u8) 5 wr w.heap.size (fun _ => True) s (P0 ++ nodesI (ns.take j))) ∧ Aside0 (Below w.heap.size w wr)) (fun _ i _ => ns.length - (intOf i).toNat)
  case atStart => exact ⟨0, Nat.zero_le _, rfl, by rw [List.take_zero]; simp only [nodesI, List.flatMap_nil, List.append_nil]; exact G1, G2⟩
  case round =>
    obtain ⟨j, hj, rfl, HR, HW⟩ := hrel
    clear G1 G2
    by_cases hlt : j < ns.length
    · obtain ⟨ad, ea, hh⟩ := C_hash (Kd.C_below HN.out HW.out) j hlt
      subst ea
      have HH := Aside0.mk hh
      clear hh
      obtain ⟨hv, hhv⟩ : ∃ h, h = ns[j] := ⟨_, rfl⟩
      rw [← hhv] at HH
      have hcat : nodesI (ns.take (j + 1)) = nodesI (ns.take j) ++ hv.b := by
        rw [List.take_add_one, List.getElem?_eq_getElem hlt, ← hhv]
        show nodesI (ns.take j ++ [hv]) = _
        unfold nodesI
        rw [List.flatMap_append]
        simp only [List.flatMap_cons, List.flatMap_nil, List.append_nil]
      have hlen : (nodesI (ns.take (j + 1))).length ≤ 32 * 100000 := by
        have h1 : ∀ l : List Hsh, (nodesI l).length = 32 * l.length := by
          intro l
          induction l with
          | nil => rfl
          | cons x l ih =>
            rw [show nodesI (x :: l) = x.b ++ nodesI l from rfl, List.length_append, ih, x.len, List.length_cons]
            omega
        rw [h1]
        have := List.length_take_le (j + 1) ns
        omega
      rw [hcat, List.length_append, hv.len] at hlen
      have HCat := Aside0.mk hcat
      clear hcat hhv
      have hsz := HW.out.size
      obtain ⟨P1, hP1⟩ : ∃ P, P = P0 ++ nodesI (ns.take j) := ⟨_, rfl⟩
      have hP1l : P1.length ≤ 3200100 := by rw [hP1, List.length_append]; omega
      rw [← hP1] at HR
      have HP1 := Aside0.mk hP1
      clear hP1
      go_wp2_with (first | ((with_reducible refine gate_dst (N := 25) rfl ?_); go_loud (refine load_hash rfl (.tmp 24) rfl _ _ rfl HH.out ?_)) | ((with_reducible refine gate_store (t := 73) (p := 11) (v := .tmp 25) rfl ?_); go_loud (refine store_hash rfl rfl (.tmp 11) (.tmp 25) rfl _ rfl _ _ rfl hv rfl rfl ?_)) | ((with_reducible refine gate_builtin (b := .append) (xs := #[.tmp 26, .tmp 27]) rfl ?_); at_builtin; go_loud (refine app_row .u8 w.heap.size rfl (.tmp 26) (.tmp 27) 46 5 (.int .u8 0) 1 rfl Try.underlying46 info5 rfl (by omega) _ P1 hv.b _ 32 32 rfl rfl (Kd.R_alloc HR.out _) (C_hash_row wr hv _ rfl) (by simp; omega) (by omega) ?_; intro A2 c2 w2 hr2 hf2 hat2; have HR2 := Aside0.mk hr2; have HF2 := Aside0.mk hf2; clear hr2 hf2 hat2)))
      go_roundw
      case rel => exact ⟨j + 1, by omega, by go_num, ⟨by rw [HCat.out, ← List.append_assoc, ← HP1.out]; exact HR2.out⟩, ⟨(below_alloc HW.out _).trans (HF2.out.below (by simp; omega) (fun k hk => Kd.R_base HR.out k hk.symm))⟩⟩
      case measure => simp [intOf]; omega
    · have hjl : j = ns.length := by omega
      subst hjl
      obtain ⟨A6, l6, c6, e6⟩ : ∃ A l c, u9 = .slice A l c := (by obtain ⟨A, c, h⟩ := Kd.R_slice HR.out; exact ⟨A, _, c, h⟩)
      have HE6 := Aside0.mk e6
      clear e6
      go_wp2_with fail
      go_ret
      refine ⟨_, rfl, ?_, HW.out⟩
      have hq := HR.out
      rw [List.take_length, HP.out] at hq
      exact hq


/-- What proof.Encode answers. -/
def pencAns (i n : Nat) (ns : List Hsh) : List Int × Int := if (proofAns i n).2 ≠ 0 then ([], (proofAns i n).2) else if (proofAns i n).1.length ≠ ns.length then ([], 70) else (writeB 77 n i ns, 0)
theorem proofAns_len (i n : Nat) : (proofAns i n).1.length ≤ 124 := by
  unfold proofAns
  split
  · simp
  · split
    · simp
    · have := proof_length (i := i) (n := n) (by omega) (by omega)
      simpa [placesOf] using this
set_option maxHeartbeats 2000000 in
set_option maxRecDepth 100000 in
theorem proof_encode (i n c : Nat) (ns : List Hsh) (A : Option Addr) (w : World) (hi : i < 18446744073709551616) (hn : n < 18446744073709551616) (hA : kH.C w A ns.length ns) :
    Calls Try.prog 49 #[.agg #[.int .u64 n, .int .u64 i, .slice A ns.length c]] w fun e w' => ∃ v, e = .returned (.tuple #[v, .int .i64 (pencAns i n ns).2]) ∧ Kd.R (Kd.int .u8) 5 w' w.heap.size (fun _ => True) v (pencAns i n ns).1 ∧ Below w.heap.size w w' := by
  have hp := proof_places i n
  have hlen := proofAns_len i n
  have hdef : pencAns i n ns = if (proofAns i n).2 ≠ 0 then ([], (proofAns i n).2) else if (proofAns i n).1.length ≠ ns.length then ([], 70) else (writeB 77 n i ns, 0) := rfl
  generalize pencAns i n ns = E at *
  generalize (proofAns i n).1 = L at *
  generalize (proofAns i n).2 = er at *
  have HP := Aside0.mk hp
  have HE := Aside0.mk hdef
  have HN := Aside0.mk hA
  clear hp hdef hA
  go_enter Try.func49, Try.ntmps49
  go_wp2_with fail
  refine (HP.out _).mono ?_
  rintro e w1 ⟨v1, rfl, hr, hb⟩
  obtain ⟨A1, cap1, e1⟩ := Kd.R_slice hr
  rw [e1]
  have hb0 : Below w.heap.size w w1 := (bl_new w _).trans (hb.mono (by simp))
  have hbx : w1.heap[w.heap.size]? = some (.cells #[.int .u64 n, .int .u64 i, .slice A ns.length c] 79 (0, 0)) := (hb.block _ (by simp)).trans (heap_new w _)
  have hx0 : w1.cell? ⟨w.heap.size, 0, none⟩ = some (.int .u64 n) := (blk_cell hbx 0).trans rfl
  have hx1 : w1.cell? ⟨w.heap.size, 1, none⟩ = some (.int .u64 i) := (blk_cell hbx 1).trans rfl
  have hx2 : w1.cell? ⟨w.heap.size, 2, none⟩ = some (.slice A ns.length c) := (blk_cell hbx 2).trans rfl
  have HB := Aside0.mk hb0
  clear hr hb hb0 hbx e1
  by_cases h0 : er = 0
  · subst h0
    by_cases hk2 : L.length = ns.length
    · have hd : ((L.length : Int) != (ns.length : Int)) = false := by rw [bne_eq_false_iff_eq]; omega
      have HK := Aside0.mk hk2
      have hle : ns.length ≤ 100000 := by omega
      clear hk2
      go_wp2_with fail
      refine (proof_write 77 n i c ns A w1 hn hi (Kd.C_below HN.out HB.out) hle).mono ?_
      rintro e w2 ⟨v2, rfl, hr2, hb2⟩
      obtain ⟨A2, l2, c2, e2⟩ : ∃ A l c, v2 = .slice A l c := (by obtain ⟨A, c, h⟩ := Kd.R_slice hr2; exact ⟨A, _, c, h⟩)
      have HR2 := Aside0.mk hr2
      have HE2 := Aside0.mk e2
      have HB2 := Aside0.mk hb2
      clear hr2 hb2 e2
      go_wp2_with fail
      go_ret2
      have he := HE.out
      rw [if_neg (by simp), if_neg (fun h => h HK.out)] at he
      rw [he]
      exact ⟨_, rfl, Kd.R_lower HR2.out HB.out.size, HB.out.trans (HB2.out.mono HB.out.size)⟩
    · have hd : ((L.length : Int) != (ns.length : Int)) = true := by rw [bne_iff_ne]; omega
      have HK := Aside0.mk hk2
      clear hk2
      go_wp2
      go_ret2
      have he := HE.out
      rw [if_neg (by simp), if_pos HK.out] at he
      rw [he]
      exact ⟨_, rfl, Kd.R_nil _ _ _ _ _, HB.out⟩
  · have hd : (er != 0) = true := by rw [bne_iff_ne]; exact h0
    have HK := Aside0.mk h0
    clear h0
    go_wp2
    go_ret2
    have he := HE.out
    rw [if_pos HK.out] at he
    rw [he]
    exact ⟨_, rfl, Kd.R_nil _ _ _ _ _, HB.out⟩
end Go.Proofs.Ytagcabmccpekaaa.M
