/- slices.Grow of nil, slices.Concat of byte rows. proof.write and proof.Encode. massiflaw7.awake. Rows of numbers: SameNumbers; massiflaw7.numbers, all; a row of one's own within a range of blocks. massiflaw7.ProofPlaces returns true: the walk. -/
import Derived.Test.YtefnonlhepekdaaDoorPP0
import Derived.Test.YtefnonlhepekdaaDoorPP1
set_option linter.unusedVariables false
set_option linter.unusedSimpArgs false
set_option linter.unusedVariables false
set_option linter.unusedSimpArgs false
namespace Go.Proofs.YtefnonlhepekdaaDoor.M
open Go.RowKit Go.Proofs.YtefnonlhepekdaaDoorW.PrintWords Go.Proofs.YtefnonlhepekdaaDoorW.PrintLast Go.Proofs.YtefnonlhepekdaaDoorW.PrintMore Go.Proofs.YtefnonlhepekdaaDoor.Leaf

set_option maxHeartbeats 1000000 in
set_option maxRecDepth 100000 in
theorem grow_nil (n : Nat) (w : World) (hn : n ≤ 140737488355328) :
    Calls Tryd.prog 127 #[.slice none 0 0, .int .i64 n] w fun e w' => ∃ v, e = .returned v ∧ Kd.R (Kd.int .u8) 5 w' w.heap.size (fun _ => True) v [] ∧ Below w.heap.size w w' := by
  by_cases h0 : n = 0
  · subst h0
    go_enter Tryd.func127, Tryd.ntmps127
    go_wp2
    go_ret
    exact ⟨_, rfl, Kd.R_nil _ _ _ _ _, Below.refl _ _⟩
  · have hp : 0 < n := by omega
    go_enter Tryd.func127, Tryd.ntmps127
    go_wp2_with (at_builtin; go_loud (refine Kd.R_append_zeros (Kd.int .u8) (w0 := w) w.heap.size rfl (.tmp 20) (.tmp 21) 22 3 5 (.int .u8 0) 1 rfl Tryd.underlying22 Tryd.underlying3 info5 rfl (by decide) (by omega) (.slice none 0 0) [] (0 : Int) (kx := .i64) (n : Int) (fun _ => True) rfl rfl rfl (fun _ _ => trivial) (Kd.R_nil _ _ _ _ _) (by omega) (Below.refl _ _) (Nat.le_refl _) (by simp; omega) ?_; intro v1 w1 hr hb hg hat; obtain ⟨A1, c1, e1⟩ := Kd.R_slice hr; have HR := Aside0.mk hr; have HB := Aside0.mk hb; have HE := Aside0.mk e1; clear hr hb hg hat e1; rw [HE.out]))
    go_ret
    have hr := HR.out
    rw [HE.out] at hr
    exact ⟨_, rfl, by have := Kd.R_take hr (Nat.zero_le _); rwa [List.take_zero] at this, HB.out⟩

theorem rd_rows {w : World} {A : Option Addr} {n : Nat} {LL : List (List Int)} (h : Kd.C (Kd.slice 5 (Kd.int .u8)) w A n LL) (j : Nat) (hj : j < LL.length) : ∃ ad A0 c0, A = some ad ∧ w.cell? (ad.add j) = some (.slice A0 (LL[j]).length c0) ∧ (LL[j]).length ≤ c0 ∧ (Kd.int .u8).C w A0 (LL[j]).length (LL[j]) := by
  have hl := Kd.C_len h
  obtain ⟨ad, c, e, _, hK, hc0⟩ := Kd.C_get h ([] : List Int) (j : Int) (by omega) (by omega)
  have hc : ∀ i u, c[i]? = some u → w.cell? (ad.add (j * 1 + i)) = some u := hc0
  rw [Int.toNat_natCast, List.getD_eq_getElem?_getD, List.getElem?_eq_getElem hj] at hK
  obtain ⟨A0, c0, rfl, l0, g0⟩ := hK
  exact ⟨ad, A0, c0, e, by have hq := hc 0 _ rfl; rwa [Nat.mul_one, Nat.add_zero] at hq, l0, g0⟩
theorem flat_take_le (LL : List (List Int)) (j : Nat) : (LL.take j).flatten.length ≤ LL.flatten.length := by
  conv => rhs; rw [← List.take_append_drop j LL]
  rw [List.flatten_append, List.length_append]
  omega
theorem flat_take_succ (LL : List (List Int)) (j : Nat) (hj : j < LL.length) : (LL.take (j + 1)).flatten = (LL.take j).flatten ++ LL[j] := by
  rw [List.take_add_one, List.getElem?_eq_getElem hj, List.flatten_append]
  simp

/-- The first j rows, one behind the other. -/
def fcat (LL : List (List Int)) (j : Nat) : List Int := (LL.take j).flatten
theorem fcat_zero (LL : List (List Int)) : fcat LL 0 = [] := by simp [fcat]
theorem fcat_all (LL : List (List Int)) : fcat LL LL.length = LL.flatten := by simp [fcat]
theorem fcat_le (LL : List (List Int)) (j : Nat) : (fcat LL j).length ≤ LL.flatten.length := flat_take_le LL j
theorem fcat_succ (LL : List (List Int)) (j : Nat) (hj : j < LL.length) : fcat LL (j + 1) = fcat LL j ++ LL[j] := flat_take_succ LL j hj
/-- How long the first j rows are together. -/
def flen (LL : List (List Int)) (j : Nat) : Nat := (LL.take j).flatten.length
theorem flen_zero (LL : List (List Int)) : flen LL 0 = 0 := by simp [flen]
theorem flen_le (LL : List (List Int)) (j : Nat) : flen LL j ≤ LL.flatten.length := flat_take_le LL j
theorem flen_succ (LL : List (List Int)) (j : Nat) (hj : j < LL.length) : flen LL (j + 1) = flen LL j + (LL[j]).length := by
  unfold flen
  rw [flat_take_succ LL j hj, List.length_append]
set_option maxHeartbeats 1000000 in
set_option maxRecDepth 100000 in
theorem concat_rows (A : Option Addr) (c : Nat) (LL : List (List Int)) (w : World) (hC : Kd.C (Kd.slice 5 (Kd.int .u8)) w A LL.length LL) (hl : LL.length ≤ 1000000) (hn : LL.flatten.length ≤ 140737488355328) :
    Calls Tryd.prog 104 #[.slice A LL.length c] w fun e w' => ∃ v, e = .returned v ∧ Kd.R (Kd.int .u8) 5 w' w.heap.size (fun _ => True) v LL.flatten ∧ Below w.heap.size w w' := by
  have HC := Aside0.mk hC
  clear hC
  go_enter Tryd.func104, Tryd.ntmps104
  go_wp2_with fail
  go_loop [3, 11] (fun s i => ∃ j : Nat, j ≤ LL.length ∧ i = .int .i64 j ∧ s = .int .i64 ((flen LL j : Nat) : Int)) (fun _ i => LL.length - (intOf i).toNat)
  case atStart => exact ⟨0, Nat.zero_le _, rfl, by rw [flen_zero]; rfl⟩
  case round =>
    obtain ⟨j, hj, rfl, rfl⟩ := hrel
    by_cases hlt : j < LL.length
    · obtain ⟨ad, A0, c0, ea, hx, hc0, hC0⟩ := rd_rows HC.out j hlt
      subst ea
      have hb1 := flen_le LL (j + 1)
      have hs := flen_succ LL j hlt
      have HS := Aside0.mk hs
      have hb2 : flen LL j + (LL[j]).length ≤ 140737488355328 := by omega
      clear hs hC0
      go_wp2_with fail
      go_round
      case rel => exact ⟨j + 1, by omega, by go_num, by rw [HS.out]; go_num⟩
      case measure => simp [intOf]; omega
    · have hjl : j = LL.length := by omega
      subst hjl
      have hn' : flen LL LL.length ≤ 140737488355328 := Nat.le_trans (flen_le _ _) hn
      go_wp2_with fail
      refine (grow_nil _ w hn').mono ?_
      rintro e w1 ⟨v1, rfl, hr, hb⟩
      obtain ⟨A1, cap1, e1⟩ := Kd.R_slice hr
      rw [e1] at hr ⊢
      have HR := Aside0.mk hr
      have HB := Aside0.mk hb
      clear hr hb e1
      go_wp2_with fail
      go_loopw [6, 27] (fun s i wr => ∃ j : Nat, j ≤ LL.length ∧ i = .int .i64 j ∧ Aside0 (Kd.R (Kd.int .u8) 5 wr w.heap.size (fun _ => True) s (fcat LL j)) ∧ Aside0 (Below w.heap.size w wr)) (fun _ i _ => LL.length - (intOf i).toNat)
      case atStart => exact ⟨0, Nat.zero_le _, rfl, by rw [fcat_zero]; exact HR, HB⟩
      case round =>
        obtain ⟨j, hj, rfl, HR2, HB2⟩ := hrel
        clear HR HB
        by_cases hlt : j < LL.length
        · obtain ⟨ad, A0, c0, ea, hx, hc0, hC0⟩ := rd_rows (Kd.C_below HC.out HB2.out) j hlt
          subst ea
          have hb1 := fcat_le LL (j + 1)
          have hs := fcat_succ LL j hlt
          rw [hs, List.length_append] at hb1
          have HS := Aside0.mk hs
          have HC0 := Aside0.mk hC0
          clear hs hC0
          have hbs := HB2.out.size
          go_wp2_with (at_builtin; go_loud (refine app_row .u8 w.heap.size rfl (.tmp 31) (.tmp 32) 22 5 (.int .u8 0) 1 rfl Tryd.underlying22 info5 rfl (by omega) _ _ _ _ _ _ rfl rfl HR2.out HC0.out hbs (by omega) ?_; intro A2 c2 w2 hr2 hf2 hat2; have HR3 := Aside0.mk hr2; have HF := Aside0.mk hf2; clear hr2 hf2 hat2))
          go_roundw
          case rel => exact ⟨j + 1, by omega, by go_num, ⟨by rw [HS.out]; exact HR3.out⟩, ⟨HB2.out.trans (HF.out.below hbs (fun k hk => Kd.R_base HR2.out k hk.symm))⟩⟩
          case measure => simp [intOf]; omega
        · have hjl : j = LL.length := by omega
          subst hjl
          obtain ⟨A2, cap2, e2⟩ := Kd.R_slice HR2.out
          have HE := Aside0.mk e2
          clear e2
          go_wp2_with fail
          go_ret
          exact ⟨_, rfl, by have := HR2.out; rwa [fcat_all] at this, HB2.out⟩
end Go.Proofs.YtefnonlhepekdaaDoor.M

set_option linter.unusedVariables false
set_option linter.unusedSimpArgs false
namespace Go.Proofs.YtefnonlhepekdaaDoor.M
open Go.RowKit Go.Proofs.YtefnonlhepekdaaDoorW.PrintWords Go.Proofs.YtefnonlhepekdaaDoorW.PrintLast Go.Proofs.YtefnonlhepekdaaDoorW.PrintMore Go.Proofs.YtefnonlhepekdaaDoor.Leaf

theorem short_calls (x : Nat) (hx : x < 18446744073709551616) (w : World) :
    Calls Tryd.prog 105 #[.int .u64 x] w fun e w' => ∃ v, e = .returned v ∧ Kd.R (Kd.int .u8) 5 w' w.heap.size (fun _ => True) v (shortI x) ∧ Below w.heap.size w w' := by
  obtain ⟨k, hk⟩ := (short_val x hx).rounds
  exact num_Short.calls k x _ w hk

def writeB (kd a b : Nat) (ns : List Hsh) : List Int := [(kd : Int)] ++ shortI a ++ shortI b ++ nodesI ns

set_option maxHeartbeats 2000000 in
set_option maxRecDepth 100000 in
theorem proof_write (kd x y c : Nat) (ns : List Hsh) (A : Option Addr) (w : World) (hx : x < 18446744073709551616) (hy : y < 18446744073709551616) (hA : kH.C w A ns.length ns) (hle : ns.length ≤ 100000) :
    Calls Tryd.prog 72 #[.int .u8 kd, .int .u64 x, .int .u64 y, .slice A ns.length c] w fun e w' => ∃ v, e = .returned v ∧ Kd.R (Kd.int .u8) 5 w' w.heap.size (fun _ => True) v (writeB kd x y ns) ∧ Below w.heap.size w w' := by
  have HN := Aside0.mk hA
  have hns := hle
  clear hA hle
  go_enter Tryd.func72, Tryd.ntmps72
  go_wp2_with fail
  refine (short_calls x hx _).mono ?_
  rintro e wa ⟨va, rfl, hra, hba⟩
  obtain ⟨Aa, ca, ea⟩ := Kd.R_slice hra
  rw [ea] at hra ⊢
  have ra := Aside0.mk (Rd.of_R hra)
  have ba := Aside0.mk hba
  clear hra hba ea
  go_wp2_with fail
  refine (short_calls y hy _).mono ?_
  rintro e wb ⟨vb, rfl, hrb, hbb⟩
  obtain ⟨Ab, cb, eb⟩ := Kd.R_slice hrb
  rw [eb] at hrb ⊢
  have rb := Aside0.mk (Rd.of_R hrb)
  have bb := Aside0.mk hbb
  clear hrb hbb eb
  go_wp2_with fail
  refine (concat_rows (some ⟨_, 0, none⟩) 3 [[(kd : Int)], shortI x, shortI y] _ (C_rows3 .u8 5 _ _ _ _ 22 _ _ _ (Rd.below (Rd.below (Rd.one _ _ _ _ rfl) ba.out) bb.out) (Rd.below ra.out bb.out) rb.out (by simp [World.drew])) (by simp) (by have := shortI_len x; have := shortI_len y; simp; omega)).mono ?_
  rintro e wd ⟨vd, rfl, hrd, hbd⟩
  obtain ⟨Ad, ld, cd, ed⟩ : ∃ A l c, vd = .slice A l c := (by obtain ⟨A, c, h⟩ := Kd.R_slice hrd; exact ⟨A, _, c, h⟩)
  rw [ed] at hrd ⊢
  obtain ⟨P0, hP⟩ : ∃ P, P = [(kd : Int)] ++ shortI x ++ shortI y := ⟨_, rfl⟩
  have hfl : [[(kd : Int)], shortI x, shortI y].flatten = P0 := by rw [hP]; simp
  rw [hfl] at hrd
  have hPl : P0.length ≤ 31 := by have := shortI_len x; have := shortI_len y; rw [hP]; simp only [List.length_append, List.length_singleton]; omega
  have hB0 : Below w.heap.size w wd := blt (blt (blt (bl_new w _) ba.out) bb.out) (below_on (bl_new wb _) (by simp) (Below.refl _ _)) |>.trans (hbd.mono (by have := ba.out.size; have := bb.out.size; simp at *; omega))
  have HP := Aside0.mk hP
  have G1 := Aside0.mk (Kd.R_lower hrd (by have := ba.out.size; have := bb.out.size; simp at *; omega : w.heap.size ≤ _))
  have G2 := Aside0.mk hB0
  clear hrd hbd ed hP hfl hB0
  go_wp2_with fail
  go_loopw [9, 22] (fun s i wr => ∃ j : Nat, j ≤ ns.length ∧ i = .int .i64 j ∧ Aside0 (Kd.R (Kd.int .u8) 5 wr w.heap.size (fun _ => True) s (P0 ++ nodesI (ns.take j))) ∧ Aside0 (Below w.heap.size w wr)) (fun _ i _ => ns.length - (intOf i).toNat)
  case atStart => exact ⟨0, Nat.zero_le _, rfl, by rw [List.take_zero]; simp only [nodesI, List.flatMap_nil, List.append_nil]; exact G1, G2⟩
  case round =>
    obtain ⟨j, hj, rfl, HR, HW⟩ := hrel
    clear G1 G2
    by_cases hlt : j < ns.length
    · obtain ⟨ad, ea, hh⟩ := C_hash (Kd.C_below HN.out HW.out) j hlt
      subst ea
      have HH := Aside0.mk hh
      clear hh
      obtain ⟨hv, hhv⟩ : ∃ h, h = ns[j] := ⟨_, rfl⟩
      rw [← hhv] at HH
      have hcat : nodesI (ns.take (j + 1)) = nodesI (ns.take j) ++ hv.b := by
        rw [List.take_add_one, List.getElem?_eq_getElem hlt, ← hhv]
        show nodesI (ns.take j ++ [hv]) = _
        unfold nodesI
        rw [List.flatMap_append]
        simp only [List.flatMap_cons, List.flatMap_nil, List.append_nil]
      have hlen : (nodesI (ns.take (j + 1))).length ≤ 32 * 100000 := by
        have h1 : ∀ l : List Hsh, (nodesI l).length = 32 * l.length := by
          intro l
          induction l with
          | nil => rfl
          | cons x l ih =>
            rw [show nodesI (x :: l) = x.b ++ nodesI l from rfl, List.length_append, ih, x.len, List.length_cons]
            omega
        rw [h1]
        have := List.length_take_le (j + 1) ns
        omega
      rw [hcat, List.length_append, hv.len] at hlen
      have HCat := Aside0.mk hcat
      clear hcat hhv
      have hsz := HW.out.size
      obtain ⟨P1, hP1⟩ : ∃ P, P = P0 ++ nodesI (ns.take j) := ⟨_, rfl⟩
      have hP1l : P1.length ≤ 3200100 := by rw [hP1, List.length_append]; omega
      rw [← hP1] at HR
      have HP1 := Aside0.mk hP1
      clear hP1
      go_wp2_with (first | ((with_reducible refine gate_dst (N := 25) rfl ?_); go_loud (refine load_hash rfl (.tmp 24) rfl _ _ rfl HH.out ?_)) | ((with_reducible refine gate_store (t := 63) (p := 11) (v := .tmp 25) rfl ?_); go_loud (refine store_hash rfl rfl (.tmp 11) (.tmp 25) rfl _ rfl _ _ rfl hv rfl rfl ?_)) | ((with_reducible refine gate_builtin (b := .append) (xs := #[.tmp 26, .tmp 27]) rfl ?_); at_builtin; go_loud (refine app_row .u8 w.heap.size rfl (.tmp 26) (.tmp 27) 22 5 (.int .u8 0) 1 rfl Tryd.underlying22 info5 rfl (by omega) _ P1 hv.b _ 32 32 rfl rfl (Kd.R_alloc HR.out _) (C_hash_row wr hv _ rfl) (by simp; omega) (by omega) ?_; intro A2 c2 w2 hr2 hf2 hat2; have HR2 := Aside0.mk hr2; have HF2 := Aside0.mk hf2; clear hr2 hf2 hat2)))
      go_roundw
      case rel => exact ⟨j + 1, by omega, by go_num, ⟨by rw [HCat.out, ← List.append_assoc, ← HP1.out]; exact HR2.out⟩, ⟨(below_alloc HW.out _).trans (HF2.out.below (by simp; omega) (fun k hk => Kd.R_base HR.out k hk.symm))⟩⟩
      case measure => simp [intOf]; omega
    · have hjl : j = ns.length := by omega
      subst hjl
      obtain ⟨A6, l6, c6, e6⟩ : ∃ A l c, u9 = .slice A l c := (by obtain ⟨A, c, h⟩ := Kd.R_slice HR.out; exact ⟨A, _, c, h⟩)
      have HE6 := Aside0.mk e6
      clear e6
      go_wp2_with fail
      go_ret
      refine ⟨_, rfl, ?_, HW.out⟩
      have hq := HR.out
      rw [List.take_length, HP.out] at hq
      exact hq


/-- What proof.Encode answers. -/
def pencAns (i n : Nat) (ns : List Hsh) : List Int × Int := if (proofAns i n).2 ≠ 0 then ([], (proofAns i n).2) else if (proofAns i n).1.length ≠ ns.length then ([], 70) else (writeB 77 n i ns, 0)
set_option maxHeartbeats 2000000 in
set_option maxRecDepth 100000 in
theorem proof_encode (i n c : Nat) (ns : List Hsh) (A : Option Addr) (w : World) (hi : i < 18446744073709551616) (hn : n < 18446744073709551616) (hA : kH.C w A ns.length ns) :
    Calls Tryd.prog 27 #[.agg #[.int .u64 n, .int .u64 i, .slice A ns.length c]] w fun e w' => ∃ v, e = .returned (.tuple #[v, .int .i64 (pencAns i n ns).2]) ∧ Kd.R (Kd.int .u8) 5 w' w.heap.size (fun _ => True) v (pencAns i n ns).1 ∧ Below w.heap.size w w' := by
  have hp := proof_places i n
  have hlen := proofAns_len i n
  have hdef : pencAns i n ns = if (proofAns i n).2 ≠ 0 then ([], (proofAns i n).2) else if (proofAns i n).1.length ≠ ns.length then ([], 70) else (writeB 77 n i ns, 0) := rfl
  generalize pencAns i n ns = E at *
  generalize (proofAns i n).1 = L at *
  generalize (proofAns i n).2 = er at *
  have HP := Aside0.mk hp
  have HE := Aside0.mk hdef
  have HN := Aside0.mk hA
  clear hp hdef hA
  go_enter Tryd.func27, Tryd.ntmps27
  go_wp2_with fail
  refine (HP.out _).mono ?_
  rintro e w1 ⟨v1, rfl, hr, hb⟩
  obtain ⟨A1, cap1, e1⟩ := Kd.R_slice hr
  rw [e1]
  have hb0 : Below w.heap.size w w1 := (bl_new w _).trans (hb.mono (by simp))
  have hbx : w1.heap[w.heap.size]? = some (.cells #[.int .u64 n, .int .u64 i, .slice A ns.length c] 41 (0, 0)) := (hb.block _ (by simp)).trans (heap_new w _)
  have hx0 : w1.cell? ⟨w.heap.size, 0, none⟩ = some (.int .u64 n) := (blk_cell hbx 0).trans rfl
  have hx1 : w1.cell? ⟨w.heap.size, 1, none⟩ = some (.int .u64 i) := (blk_cell hbx 1).trans rfl
  have hx2 : w1.cell? ⟨w.heap.size, 2, none⟩ = some (.slice A ns.length c) := (blk_cell hbx 2).trans rfl
  have HB := Aside0.mk hb0
  clear hr hb hb0 hbx e1
  by_cases h0 : er = 0
  · subst h0
    by_cases hk2 : L.length = ns.length
    · have hd : ((L.length : Int) != (ns.length : Int)) = false := by rw [bne_eq_false_iff_eq]; omega
      have HK := Aside0.mk hk2
      have hle : ns.length ≤ 100000 := by omega
      clear hk2
      go_wp2_with fail
      refine (proof_write 77 n i c ns A w1 hn hi (Kd.C_below HN.out HB.out) hle).mono ?_
      rintro e w2 ⟨v2, rfl, hr2, hb2⟩
      obtain ⟨A2, l2, c2, e2⟩ : ∃ A l c, v2 = .slice A l c := (by obtain ⟨A, c, h⟩ := Kd.R_slice hr2; exact ⟨A, _, c, h⟩)
      have HR2 := Aside0.mk hr2
      have HE2 := Aside0.mk e2
      have HB2 := Aside0.mk hb2
      clear hr2 hb2 e2
      go_wp2_with fail
      go_ret2
      have he := HE.out
      rw [if_neg (by simp), if_neg (fun h => h HK.out)] at he
      rw [he]
      exact ⟨_, rfl, Kd.R_lower HR2.out HB.out.size, HB.out.trans (HB2.out.mono HB.out.size)⟩
    · have hd : ((L.length : Int) != (ns.length : Int)) = true := by rw [bne_iff_ne]; omega
      have HK := Aside0.mk hk2
      clear hk2
      go_wp2
      go_ret2
      have he := HE.out
      rw [if_neg (by simp), if_pos HK.out] at he
      rw [he]
      exact ⟨_, rfl, Kd.R_nil _ _ _ _ _, HB.out⟩
  · have hd : (er != 0) = true := by rw [bne_iff_ne]; exact h0
    have HK := Aside0.mk h0
    clear h0
    go_wp2
    go_ret2
    have he := HE.out
    rw [if_pos HK.out] at he
    rw [he]
    exact ⟨_, rfl, Kd.R_nil _ _ _ _ _, HB.out⟩
end Go.Proofs.YtefnonlhepekdaaDoor.M

set_option linter.unusedVariables false
set_option linter.unusedSimpArgs false
namespace Go.Proofs.YtefnonlhepekdaaDoor.M
open Go.RowKit Go.Proofs.YtefnonlhepekdaaDoorW.PrintWords Go.Proofs.YtefnonlhepekdaaDoorW.PrintLast Go.Proofs.YtefnonlhepekdaaDoorW.PrintMore Go.Proofs.YtefnonlhepekdaaDoor.Leaf

theorem awake7_places : proofAns 1 7 = ([0, 5, 9, 10], 0) := by decide +kernel
theorem awake7_bytes : pencAns 0 1 [] = ([77, 1, 0], 0) := by decide +kernel

set_option maxHeartbeats 1000000 in
set_option maxRecDepth 100000 in
theorem awake7 (w : World) : Calls Tryd.prog 23 #[] w fun e w' => e = .returned (.bool true) ∧ Below w.heap.size w w' := by
  have hp := proof_places 1 7
  rw [awake7_places] at hp
  have HP := Aside0.mk hp
  clear hp
  go_enter Tryd.func23, Tryd.ntmps23
  go_wp2_with fail
  refine (HP.out _).mono ?_
  rintro e w1 ⟨v1, rfl, hr, hb⟩
  obtain ⟨A1, c1, e1, _, hC⟩ := Kd.R_reads hr
  obtain ⟨ad, ea, _⟩ := Kd.at_int hC 0 (by omega) (by simp)
  subst ea
  rw [e1]
  have HC := Aside0.mk hC
  have HB := Aside0.mk hb
  clear hr hb hC e1
  have he := proof_encode 0 1 0 [] none w1 (by omega) (by omega) ⟨rfl, by simp, fun h => absurd h (by simp)⟩
  rw [awake7_bytes] at he
  have HEn := Aside0.mk he
  clear he
  go_wp2_with fail
  refine HEn.out.mono ?_
  rintro e w2 ⟨v2, rfl, hr2, hb2⟩
  have hb3 : Below w1.heap.size w1 w2 := hb2
  obtain ⟨A2, c2, e2, _, hC2⟩ := Kd.R_reads hr2
  obtain ⟨ad2, ea2, k5⟩ := Kd.at_int hC2 0 (by omega) (by simp)
  subst ea2
  rw [e2]
  have at1 : ∀ i : Nat, i < 4 → w2.cell? (ad.add i) = some (.int .u64 (rd [0, 5, 9, 10] i)) := fun i hi => by
    obtain ⟨ad', ea', hx⟩ := Kd.at_int (Kd.C_below HC.out hb3) (i : Int) (by omega) (by simp; omega)
    injection ea' with ea'
    subst ea'
    exact hx
  have at2 : ∀ i : Nat, i < 3 → w2.cell? (ad2.add i) = some (.int .u8 (rd [77, 1, 0] i)) := fun i hi => by
    obtain ⟨ad', ea', hx⟩ := Kd.at_int hC2 (i : Int) (by omega) (by simp; omega)
    injection ea' with ea'
    subst ea'
    exact hx
  have a0 : w2.cell? (ad.add 0) = some (.int .u64 0) := at1 0 (by omega)
  have a1 : w2.cell? ⟨ad.block, ad.off + 1, none⟩ = some (.int .u64 5) := at1 1 (by omega)
  have a2 : w2.cell? ⟨ad.block, ad.off + 2, none⟩ = some (.int .u64 9) := at1 2 (by omega)
  have b0 : w2.cell? (ad2.add 0) = some (.int .u8 77) := at2 0 (by omega)
  have b1 : w2.cell? ⟨ad2.block, ad2.off + 1, none⟩ = some (.int .u8 1) := at2 1 (by omega)
  have a0' : w2.cell? ad = some (.int .u64 0) := by have := a0; rwa [show ad.add 0 = ad by simp [Addr.add]] at this
  have b0' : w2.cell? ad2 = some (.int .u8 77) := by have := b0; rwa [show ad2.add 0 = ad2 by simp [Addr.add]] at this
  have HB3 := Aside0.mk hb3
  clear hr2 hb2 hb3 hC2 e2 at1 at2 HC HEn
  go_wp2
  go_ret
  exact ⟨rfl, HB.out.trans (HB3.out.mono HB.out.size)⟩
end Go.Proofs.YtefnonlhepekdaaDoor.M

set_option linter.unusedVariables false
set_option linter.unusedSimpArgs false
namespace Go.Proofs.YtefnonlhepekdaaDoor.M
open Go.RowKit Go.Proofs.YtefnonlhepekdaaDoorW.PrintWords Go.Proofs.YtefnonlhepekdaaDoorW.PrintLast Go.Proofs.YtefnonlhepekdaaDoorW.PrintMore Go.Proofs.YtefnonlhepekdaaDoor.Leaf

theorem same_loop (xs ys : List Int) (hl : xs.length = ys.length) (hb : xs.length < 9223372036854775807) : ∀ (d i : Nat), i + d = xs.length → Ev (fun k => massifref7_SameNumbers.l0 k xs ys (i : Int)) (decide (xs.drop i = ys.drop i))
  | 0, i, hi => by
    rw [List.drop_of_length_le (by omega), List.drop_of_length_le (by omega)]
    exact Ev.step (f := fun _ => some (decide (([] : List Int) = []))) (fun k => by simp only [massifref7_SameNumbers.l0]; rw [if_neg (by omega)]; rfl) (Ev.now _)
  | d + 1, i, hi => by
    have h1 : i < xs.length := by omega
    have h2 : i < ys.length := by omega
    have ih := same_loop xs ys hl hb d (i + 1) (by omega)
    have e1 : wrap64 ((i : Int) + 1) = ((i + 1 : Nat) : Int) := by rw [i64_of _ (by omega) (by omega)]; omega
    have r1 : rd xs (i : Int) = xs[i] := by simp [rd, List.getD_eq_getElem?_getD, List.getElem?_eq_getElem h1]
    have r2 : rd ys (i : Int) = ys[i] := by simp [rd, List.getD_eq_getElem?_getD, List.getElem?_eq_getElem h2]
    rw [List.drop_eq_getElem_cons h1, List.drop_eq_getElem_cons h2]
    refine Ev.step (fun k => by simp only [massifref7_SameNumbers.l0]; rw [if_pos (by omega), if_pos (by omega), if_pos (by omega), r1, r2, e1]) ?_
    by_cases c : xs[i] = ys[i]
    · refine Ev.congr (fun k => if_pos c) ?_
      rw [show decide (xs[i] :: xs.drop (i + 1) = ys[i] :: ys.drop (i + 1)) = decide (xs.drop (i + 1) = ys.drop (i + 1)) by apply decide_eq_decide.2; rw [List.cons.injEq]; exact ⟨fun h => h.2, fun h => ⟨c, h⟩⟩]
      exact ih
    · refine Ev.congr (fun k => if_neg c) ?_
      rw [decide_eq_false (by rw [List.cons.injEq]; exact fun h => c h.1)]
      exact Ev.now _
theorem same_val (xs ys : List Int) (hb : xs.length < 9223372036854775807) : Ev (fun k => massifref7_SameNumbers.f k xs ys) (decide (xs = ys)) := by
  unfold massifref7_SameNumbers.f
  by_cases c : xs.length = ys.length
  · exact Ev.congr (fun k => if_pos (by omega)) (same_loop xs ys c hb _ 0 (Nat.zero_add _))
  · refine Ev.congr (fun k => if_neg (by omega)) ?_
    rw [decide_eq_false (fun e => c (by rw [e]))]
    exact Ev.now _
theorem same_calls {A0 A1 : Option Addr} {n0 n1 c0 c1 : Nat} {xs ys : List Int} {w : World} (h0 : Rd .u64 w (.slice A0 n0 c0) xs) (h1 : Rd .u64 w (.slice A1 n1 c1) ys) (hl : xs.length ≤ 1000000000) :
    Calls Tryd.prog 20 #[.slice A0 n0 c0, .slice A1 n1 c1] w fun e w' => e = .returned (.bool (decide (xs = ys))) ∧ Drawn0 w w' := by
  obtain ⟨_, _, e0, hl0, hc0⟩ := h0
  obtain ⟨_, _, e1, hl1, hc1⟩ := h1
  injection e0 with a0 b0 d0
  injection e1 with a1 b1 d1
  subst a0 b0 d0 a1 b1 d1
  obtain ⟨k, hk⟩ := (same_val xs ys (by omega)).rounds
  exact massifref7_SameNumbers.calls k _ _ _ _ _ _ _ w hc0 hl0 hc1 hl1 hk
theorem same_true {A0 A1 : Option Addr} {n0 n1 c0 c1 : Nat} {xs : List Int} {w : World} (h0 : Rd .u64 w (.slice A0 n0 c0) xs) (h1 : Rd .u64 w (.slice A1 n1 c1) xs) (hl : xs.length ≤ 1000000000) :
    Calls Tryd.prog 20 #[.slice A0 n0 c0, .slice A1 n1 c1] w fun e w' => e = .returned (.bool true) ∧ Drawn0 w w' := by
  refine (same_calls h0 h1 hl).mono ?_
  rintro e w' ⟨he, hd⟩
  rw [decide_eq_true rfl] at he
  exact ⟨he, hd⟩


/-- A row of numbers of the call's own, whose block is one of S. -/
def RwS {α : Type} (d : Kd α) (e : Nat) (w0 w : World) (S : Nat → Prop) (v : Value) (L : List α) : Prop :=
  d.R e w w0.heap.size (fun _ => True) v L ∧ ∀ k, v.ownBlock = some k → S k
theorem RwS.below {α : Type} {d : Kd α} {e : Nat} {w0 w w1 : World} {S : Nat → Prop} {v : Value} {L : List α} (h : RwS d e w0 w S v L) (hb : Below w.heap.size w w1) : RwS d e w0 w1 S v L := ⟨Kd.R_below h.1 hb, h.2⟩
theorem RwS.frm {α : Type} {d : Kd α} (hd : Flat d) {e : Nat} {w0 w w1 : World} {S T : Nat → Prop} {v : Value} {L : List α} (h : RwS d e w0 w S v L) (hf : Frm T w w1) (hs : ∀ k, S k → ¬ T k) : RwS d e w0 w1 S v L := ⟨R_frm hd h.1 hf (fun k hk => hs k (h.2 k hk)), h.2⟩
theorem RwS.mono {α : Type} {d : Kd α} {e : Nat} {w0 w : World} {S T : Nat → Prop} {v : Value} {L : List α} (h : RwS d e w0 w S v L) (hs : ∀ k, S k → T k) : RwS d e w0 w T v L := ⟨h.1, fun k hk => hs k (h.2 k hk)⟩
/-- What a call has made lies between the heap's ends. -/
theorem RwS.new {α : Type} {d : Kd α} {e : Nat} {w0 w w1 : World} {v : Value} {L : List α} (h : d.R e w1 w.heap.size (fun _ => True) v L) (hs : w0.heap.size ≤ w.heap.size) : RwS d e w0 w1 (fun k => w.heap.size ≤ k ∧ k < w1.heap.size) v L :=
  ⟨Kd.R_lower h hs, fun k hk => ⟨Kd.R_base h k hk, Kd.R_lt h k hk⟩⟩
theorem RwS.rd {k : IntKind} {e : Nat} {w0 w : World} {S : Nat → Prop} {v : Value} {L : List Int} (h : RwS (Kd.int k) e w0 w S v L) : Rd k w v L := Rd.of_R h.1

theorem numbers7_loop (m : Int) (xs : List Int) (hl : xs.length ≤ 1000000) : ∀ (d j : Nat), j + d = xs.length → Ev (fun k => massiflaw7_numbers.l0 k (mkA m xs j) m (j : Int)) (List.replicate (xs.length + 2) m)
  | 0, j, hj => by
    obtain rfl : j = xs.length := by omega
    rw [mkA_all]
    have e1 : List.replicate xs.length m ++ [m] ++ [m] = List.replicate (xs.length + 2) m := by rw [← List.replicate_succ', ← List.replicate_succ']
    refine Ev.step (f := fun _ => some (List.replicate (xs.length + 2) m)) (fun k => ?_) (Ev.now _)
    simp only [massiflaw7_numbers.l0]
    rw [if_neg (by simp), if_pos (by simp; omega), Option.bind_some, if_pos (by simp; omega), e1]
  | d + 1, j, hj => by
    have hjl : j < xs.length := by omega
    have ih := numbers7_loop m xs hl d (j + 1) (by omega)
    rw [← mkA_set m xs j hjl] at ih
    have e1 : wrap64 ((j : Int) + 1) = ((j + 1 : Nat) : Int) := by rw [i64_of _ (by omega) (by omega)]; omega
    have hml := mkA_len m xs j (by omega)
    exact Ev.step (fun k => by simp only [massiflaw7_numbers.l0]; rw [if_pos (by omega), if_pos (by omega), e1, Int.toNat_natCast]) ih
theorem numbers7_val (m : Int) (xs : List Int) (hl : xs.length ≤ 1000000) : Ev (fun k => massiflaw7_numbers.f k xs m) (List.replicate (xs.length + 2) m) := by
  have := numbers7_loop m xs hl xs.length 0 (by omega)
  rw [mkA_zero] at this
  exact this
theorem all7_loop (m : Int) (n : Nat) (hl : n ≤ 1000000) : ∀ (d j : Nat), j + d = n → Ev (fun k => massiflaw7_all.l0 k (List.replicate n m) m (j : Int)) true
  | 0, j, hj => Ev.step (f := fun _ => some true) (fun k => by simp only [massiflaw7_all.l0]; rw [if_neg (by simp; omega)]) (Ev.now _)
  | d + 1, j, hj => by
    have ih := all7_loop m n hl d (j + 1) (by omega)
    have e1 : wrap64 ((j : Int) + 1) = ((j + 1 : Nat) : Int) := by rw [i64_of _ (by omega) (by omega)]; omega
    have r1 : rd (List.replicate n m) (j : Int) = m := by simp [rd, List.getD_eq_getElem?_getD, List.getElem?_replicate, show j < n by omega]
    exact Ev.step (fun k => by simp only [massiflaw7_all.l0]; rw [if_pos (by simp; omega), if_pos (by omega), r1, if_pos rfl, e1]) ih
theorem numbers7_calls (m : Int) (xs : List Int) (hl : xs.length ≤ 1000000) (v : Value) (w0 w : World) (S : Nat → Prop) (hB : Below w0.heap.size w0 w) (h : RwS (Kd.int .u64) 30 w0 w S v xs) :
    Calls Tryd.prog 21 #[v, .int .u64 m] w fun e w' => ∃ v', e = .returned v' ∧ RwS (Kd.int .u64) 30 w0 w' (fun k => S k ∨ w.heap.size ≤ k) v' (List.replicate (xs.length + 2) m) ∧ Frm S w w' ∧ Below w0.heap.size w0 w' := by
  obtain ⟨k, hk⟩ := (numbers7_val m xs hl).rounds
  refine (massiflaw7_numbers.calls k S v xs m _ w0 w hB (Kd.R_mono (R_self (flat_int .u64) h.1) (fun k hk => h.2 k hk.symm)) hk).mono ?_
  rintro e w' ⟨v', rfl, hr, hb, hkp⟩
  refine ⟨v', rfl, ⟨Kd.R_mono hr (fun _ _ => trivial), fun k hk => hr.1 k hk⟩, ⟨hb.os.trans hB.os.symm, hb.tape.trans hB.tape.symm, hb.output.trans hB.output.symm, hkp.1, hkp.2⟩, hb⟩
theorem all7_calls (m : Int) (n : Nat) (hl : n ≤ 1000000) (A : Option Addr) (q c : Nat) (w : World) (h : Rd .u64 w (.slice A q c) (List.replicate n m)) :
    Calls Tryd.prog 22 #[.slice A q c, .int .u64 m] w fun e w' => e = .returned (.bool true) ∧ Drawn0 w w' := by
  obtain ⟨A', c', e, hc, hC⟩ := h
  injection e with e1 e2 e3
  subst e1 e2 e3
  obtain ⟨k, hk⟩ := (all7_loop m n hl n 0 (by omega)).rounds
  exact massiflaw7_all.calls k _ _ _ m true w hC hc hk
end Go.Proofs.YtefnonlhepekdaaDoor.M

set_option linter.unusedVariables false
set_option linter.unusedSimpArgs false
namespace Go.Proofs.YtefnonlhepekdaaDoor.M
open Go.RowKit Go.Proofs.YtefnonlhepekdaaDoorW.PrintWords Go.Proofs.YtefnonlhepekdaaDoorW.PrintLast Go.Proofs.YtefnonlhepekdaaDoorW.PrintMore Go.Proofs.YtefnonlhepekdaaDoor.Leaf

/-- A call that answers a new row of numbers and a code. -/
def Gives (f : FuncId) (args : Array Value) (L : List Int) (er : Int) (P : World → Prop) : Prop :=
  ∀ w0 w, w0.heap.size ≤ w.heap.size → P w → Calls Tryd.prog f args w fun e w' => ∃ A n c, e = .returned (.tuple #[.slice A n c, .int .i64 er]) ∧ RwS (Kd.int .u64) 30 w0 w' (fun k => w.heap.size ≤ k ∧ k < w'.heap.size) (.slice A n c) L ∧ Below w.heap.size w w'
theorem gives_of {f : FuncId} {args : Array Value} {L : List Int} {er : Int} {P : World → Prop} (h : ∀ w, P w → Calls Tryd.prog f args w fun e w' => ∃ v, e = .returned (.tuple #[v, .int .i64 er]) ∧ Kd.R (Kd.int .u64) 30 w' w.heap.size (fun _ => True) v L ∧ Below w.heap.size w w') : Gives f args L er P := by
  intro w0 w hs hp
  refine (h w hp).mono ?_
  rintro e w' ⟨v, rfl, hr, hb⟩
  obtain ⟨A, c, rfl⟩ := Kd.R_slice hr
  exact ⟨A, _, c, rfl, RwS.new hr hs, hb⟩
set_option maxHeartbeats 4000000 in
set_option maxRecDepth 100000 in
theorem proof_places_law (i m n : Nat) (w : World) (hT : DB w) :
    Calls Tryd.prog 4 #[.int .u64 i, .int .u64 m, .int .u64 n] w fun e w' => e = .returned (.bool true) ∧ Below w.heap.size w w' := by
  have hr1 := gives_of (P := fun _ => True) (fun w _ => places7_calls i n w)
  have hr2 := gives_of (P := fun _ => True) (fun w _ => pref7_calls m n w)
  have hp1 := gives_of (P := fun _ => True) (fun w _ => proof_places i n w)
  have hp2 := gives_of (P := DB) (fun w h => pref_calls m n w h)
  have hl1 := proofAns_len i n
  have hl2 := prefAns_len m n
  generalize (proofAns i n).1 = L at *
  generalize (proofAns i n).2 = er at *
  generalize (prefAns m n).1 = M at *
  generalize (prefAns m n).2 = fr at *
  have HR1 := Aside0.mk hr1
  have HR2 := Aside0.mk hr2
  have HP1 := Aside0.mk hp1
  have HP2 := Aside0.mk hp2
  have HT := Aside0.mk hT
  clear hr1 hr2 hp1 hp2 hT
  have he1 : (er != er) = false := by simp
  have he2 : (er == er) = true := by simp
  have hf1 : (fr != fr) = false := by simp
  have hf2 : (fr == fr) = true := by simp
  go_enter Tryd.func4, Tryd.ntmps4
  go_wp2_with fail
  have HB := Aside0.mk (Below.refl w.heap.size w)
  refine (HR1.out w _ HB.out.size trivial).mono ?_
  rintro e w1 ⟨A1, n1, c1, rfl, hv, hb⟩
  have z1 := Aside0.mk hb.size
  try replace V1 := Aside0.mk (V1.out.below hb)
  try replace V2 := Aside0.mk (V2.out.below hb)
  try replace V3 := Aside0.mk (V3.out.below hb)
  try replace V4 := Aside0.mk (V4.out.below hb)
  try replace V5 := Aside0.mk (V5.out.below hb)
  try replace V6 := Aside0.mk (V6.out.below hb)
  try replace V7 := Aside0.mk (V7.out.below hb)
  try replace V8 := Aside0.mk (V8.out.below hb)
  try replace V9 := Aside0.mk (V9.out.below hb)
  try replace V10 := Aside0.mk (V10.out.below hb)
  try replace V11 := Aside0.mk (V11.out.below hb)
  try replace V12 := Aside0.mk (V12.out.below hb)
  try replace U1 := Aside0.mk (U1.out.below hb)
  try replace U2 := Aside0.mk (U2.out.below hb)
  try replace U3 := Aside0.mk (U3.out.below hb)
  try replace U4 := Aside0.mk (U4.out.below hb)
  replace HB := Aside0.mk (blt HB.out hb)
  have V1 := Aside0.mk hv
  clear hb hv
  go_wp2_with fail
  refine (HR2.out w _ HB.out.size trivial).mono ?_
  rintro e w2 ⟨A2, n2, c2, rfl, hv, hb⟩
  have z2 := Aside0.mk hb.size
  try replace V1 := Aside0.mk (V1.out.below hb)
  try replace V2 := Aside0.mk (V2.out.below hb)
  try replace V3 := Aside0.mk (V3.out.below hb)
  try replace V4 := Aside0.mk (V4.out.below hb)
  try replace V5 := Aside0.mk (V5.out.below hb)
  try replace V6 := Aside0.mk (V6.out.below hb)
  try replace V7 := Aside0.mk (V7.out.below hb)
  try replace V8 := Aside0.mk (V8.out.below hb)
  try replace V9 := Aside0.mk (V9.out.below hb)
  try replace V10 := Aside0.mk (V10.out.below hb)
  try replace V11 := Aside0.mk (V11.out.below hb)
  try replace V12 := Aside0.mk (V12.out.below hb)
  try replace U1 := Aside0.mk (U1.out.below hb)
  try replace U2 := Aside0.mk (U2.out.below hb)
  try replace U3 := Aside0.mk (U3.out.below hb)
  try replace U4 := Aside0.mk (U4.out.below hb)
  replace HB := Aside0.mk (blt HB.out hb)
  have V2 := Aside0.mk hv
  clear hb hv
  go_wp2_with fail
  refine (HP1.out w _ HB.out.size trivial).mono ?_
  rintro e w3 ⟨A3, n3, c3, rfl, hv, hb⟩
  have z3 := Aside0.mk hb.size
  try replace V1 := Aside0.mk (V1.out.below hb)
  try replace V2 := Aside0.mk (V2.out.below hb)
  try replace V3 := Aside0.mk (V3.out.below hb)
  try replace V4 := Aside0.mk (V4.out.below hb)
  try replace V5 := Aside0.mk (V5.out.below hb)
  try replace V6 := Aside0.mk (V6.out.below hb)
  try replace V7 := Aside0.mk (V7.out.below hb)
  try replace V8 := Aside0.mk (V8.out.below hb)
  try replace V9 := Aside0.mk (V9.out.below hb)
  try replace V10 := Aside0.mk (V10.out.below hb)
  try replace V11 := Aside0.mk (V11.out.below hb)
  try replace V12 := Aside0.mk (V12.out.below hb)
  try replace U1 := Aside0.mk (U1.out.below hb)
  try replace U2 := Aside0.mk (U2.out.below hb)
  try replace U3 := Aside0.mk (U3.out.below hb)
  try replace U4 := Aside0.mk (U4.out.below hb)
  replace HB := Aside0.mk (blt HB.out hb)
  have V3 := Aside0.mk hv
  clear hb hv
  go_wp2_with fail
  refine (HP1.out w _ HB.out.size trivial).mono ?_
  rintro e w4 ⟨A4, n4, c4, rfl, hv, hb⟩
  have z4 := Aside0.mk hb.size
  try replace V1 := Aside0.mk (V1.out.below hb)
  try replace V2 := Aside0.mk (V2.out.below hb)
  try replace V3 := Aside0.mk (V3.out.below hb)
  try replace V4 := Aside0.mk (V4.out.below hb)
  try replace V5 := Aside0.mk (V5.out.below hb)
  try replace V6 := Aside0.mk (V6.out.below hb)
  try replace V7 := Aside0.mk (V7.out.below hb)
  try replace V8 := Aside0.mk (V8.out.below hb)
  try replace V9 := Aside0.mk (V9.out.below hb)
  try replace V10 := Aside0.mk (V10.out.below hb)
  try replace V11 := Aside0.mk (V11.out.below hb)
  try replace V12 := Aside0.mk (V12.out.below hb)
  try replace U1 := Aside0.mk (U1.out.below hb)
  try replace U2 := Aside0.mk (U2.out.below hb)
  try replace U3 := Aside0.mk (U3.out.below hb)
  try replace U4 := Aside0.mk (U4.out.below hb)
  replace HB := Aside0.mk (blt HB.out hb)
  have V4 := Aside0.mk hv
  clear hb hv
  go_wp2_with fail
  refine (HP2.out w _ HB.out.size (HT.out.below HB.out)).mono ?_
  rintro e w5 ⟨A5, n5, c5, rfl, hv, hb⟩
  have z5 := Aside0.mk hb.size
  try replace V1 := Aside0.mk (V1.out.below hb)
  try replace V2 := Aside0.mk (V2.out.below hb)
  try replace V3 := Aside0.mk (V3.out.below hb)
  try replace V4 := Aside0.mk (V4.out.below hb)
  try replace V5 := Aside0.mk (V5.out.below hb)
  try replace V6 := Aside0.mk (V6.out.below hb)
  try replace V7 := Aside0.mk (V7.out.below hb)
  try replace V8 := Aside0.mk (V8.out.below hb)
  try replace V9 := Aside0.mk (V9.out.below hb)
  try replace V10 := Aside0.mk (V10.out.below hb)
  try replace V11 := Aside0.mk (V11.out.below hb)
  try replace V12 := Aside0.mk (V12.out.below hb)
  try replace U1 := Aside0.mk (U1.out.below hb)
  try replace U2 := Aside0.mk (U2.out.below hb)
  try replace U3 := Aside0.mk (U3.out.below hb)
  try replace U4 := Aside0.mk (U4.out.below hb)
  replace HB := Aside0.mk (blt HB.out hb)
  have V5 := Aside0.mk hv
  clear hb hv
  go_wp2_with fail
  refine (HP2.out w _ HB.out.size (HT.out.below HB.out)).mono ?_
  rintro e w6 ⟨A6, n6, c6, rfl, hv, hb⟩
  have z6 := Aside0.mk hb.size
  try replace V1 := Aside0.mk (V1.out.below hb)
  try replace V2 := Aside0.mk (V2.out.below hb)
  try replace V3 := Aside0.mk (V3.out.below hb)
  try replace V4 := Aside0.mk (V4.out.below hb)
  try replace V5 := Aside0.mk (V5.out.below hb)
  try replace V6 := Aside0.mk (V6.out.below hb)
  try replace V7 := Aside0.mk (V7.out.below hb)
  try replace V8 := Aside0.mk (V8.out.below hb)
  try replace V9 := Aside0.mk (V9.out.below hb)
  try replace V10 := Aside0.mk (V10.out.below hb)
  try replace V11 := Aside0.mk (V11.out.below hb)
  try replace V12 := Aside0.mk (V12.out.below hb)
  try replace U1 := Aside0.mk (U1.out.below hb)
  try replace U2 := Aside0.mk (U2.out.below hb)
  try replace U3 := Aside0.mk (U3.out.below hb)
  try replace U4 := Aside0.mk (U4.out.below hb)
  replace HB := Aside0.mk (blt HB.out hb)
  have V6 := Aside0.mk hv
  clear hb hv
  go_wp2_with fail
  refine (same_true (xs := L) V3.out.rd V1.out.rd (by omega)).mono ?_
  rintro e w7 ⟨rfl, hd⟩
  have hb := hd.below
  have z7 := Aside0.mk hb.size
  try replace V1 := Aside0.mk (V1.out.below hb)
  try replace V2 := Aside0.mk (V2.out.below hb)
  try replace V3 := Aside0.mk (V3.out.below hb)
  try replace V4 := Aside0.mk (V4.out.below hb)
  try replace V5 := Aside0.mk (V5.out.below hb)
  try replace V6 := Aside0.mk (V6.out.below hb)
  try replace V7 := Aside0.mk (V7.out.below hb)
  try replace V8 := Aside0.mk (V8.out.below hb)
  try replace V9 := Aside0.mk (V9.out.below hb)
  try replace V10 := Aside0.mk (V10.out.below hb)
  try replace V11 := Aside0.mk (V11.out.below hb)
  try replace V12 := Aside0.mk (V12.out.below hb)
  try replace U1 := Aside0.mk (U1.out.below hb)
  try replace U2 := Aside0.mk (U2.out.below hb)
  try replace U3 := Aside0.mk (U3.out.below hb)
  try replace U4 := Aside0.mk (U4.out.below hb)
  replace HB := Aside0.mk (blt HB.out hb)
  clear hd hb
  go_wp2_with fail
  refine (same_true (xs := L) V4.out.rd V1.out.rd (by omega)).mono ?_
  rintro e w8 ⟨rfl, hd⟩
  have hb := hd.below
  have z8 := Aside0.mk hb.size
  try replace V1 := Aside0.mk (V1.out.below hb)
  try replace V2 := Aside0.mk (V2.out.below hb)
  try replace V3 := Aside0.mk (V3.out.below hb)
  try replace V4 := Aside0.mk (V4.out.below hb)
  try replace V5 := Aside0.mk (V5.out.below hb)
  try replace V6 := Aside0.mk (V6.out.below hb)
  try replace V7 := Aside0.mk (V7.out.below hb)
  try replace V8 := Aside0.mk (V8.out.below hb)
  try replace V9 := Aside0.mk (V9.out.below hb)
  try replace V10 := Aside0.mk (V10.out.below hb)
  try replace V11 := Aside0.mk (V11.out.below hb)
  try replace V12 := Aside0.mk (V12.out.below hb)
  try replace U1 := Aside0.mk (U1.out.below hb)
  try replace U2 := Aside0.mk (U2.out.below hb)
  try replace U3 := Aside0.mk (U3.out.below hb)
  try replace U4 := Aside0.mk (U4.out.below hb)
  replace HB := Aside0.mk (blt HB.out hb)
  clear hd hb
  go_wp2_with fail
  refine (same_true (xs := M) V5.out.rd V2.out.rd (by omega)).mono ?_
  rintro e w9 ⟨rfl, hd⟩
  have hb := hd.below
  have z9 := Aside0.mk hb.size
  try replace V1 := Aside0.mk (V1.out.below hb)
  try replace V2 := Aside0.mk (V2.out.below hb)
  try replace V3 := Aside0.mk (V3.out.below hb)
  try replace V4 := Aside0.mk (V4.out.below hb)
  try replace V5 := Aside0.mk (V5.out.below hb)
  try replace V6 := Aside0.mk (V6.out.below hb)
  try replace V7 := Aside0.mk (V7.out.below hb)
  try replace V8 := Aside0.mk (V8.out.below hb)
  try replace V9 := Aside0.mk (V9.out.below hb)
  try replace V10 := Aside0.mk (V10.out.below hb)
  try replace V11 := Aside0.mk (V11.out.below hb)
  try replace V12 := Aside0.mk (V12.out.below hb)
  try replace U1 := Aside0.mk (U1.out.below hb)
  try replace U2 := Aside0.mk (U2.out.below hb)
  try replace U3 := Aside0.mk (U3.out.below hb)
  try replace U4 := Aside0.mk (U4.out.below hb)
  replace HB := Aside0.mk (blt HB.out hb)
  clear hd hb
  go_wp2_with fail
  refine (same_true (xs := M) V6.out.rd V2.out.rd (by omega)).mono ?_
  rintro e w10 ⟨rfl, hd⟩
  have hb := hd.below
  have z10 := Aside0.mk hb.size
  try replace V1 := Aside0.mk (V1.out.below hb)
  try replace V2 := Aside0.mk (V2.out.below hb)
  try replace V3 := Aside0.mk (V3.out.below hb)
  try replace V4 := Aside0.mk (V4.out.below hb)
  try replace V5 := Aside0.mk (V5.out.below hb)
  try replace V6 := Aside0.mk (V6.out.below hb)
  try replace V7 := Aside0.mk (V7.out.below hb)
  try replace V8 := Aside0.mk (V8.out.below hb)
  try replace V9 := Aside0.mk (V9.out.below hb)
  try replace V10 := Aside0.mk (V10.out.below hb)
  try replace V11 := Aside0.mk (V11.out.below hb)
  try replace V12 := Aside0.mk (V12.out.below hb)
  try replace U1 := Aside0.mk (U1.out.below hb)
  try replace U2 := Aside0.mk (U2.out.below hb)
  try replace U3 := Aside0.mk (U3.out.below hb)
  try replace U4 := Aside0.mk (U4.out.below hb)
  replace HB := Aside0.mk (blt HB.out hb)
  clear hd hb
  go_wp2_with fail
  refine (numbers7_calls 201 L (by omega) _ w _ _ HB.out V3.out).mono ?_
  rintro e w11 ⟨v11, rfl, hv, hf, hb⟩
  obtain ⟨A11, n11, c11, e9⟩ : ∃ A m c, v11 = .slice A m c := by obtain ⟨A, c, h⟩ := Kd.R_slice hv.1; exact ⟨A, _, c, h⟩
  subst e9
  have z11 := Aside0.mk hf.size
  clear V3
  try replace V1 := Aside0.mk (V1.out.frm (flat_int .u64) hf (fun k h1 h2 => by
      try dsimp only at h1
      try dsimp only at h2
      try have q1 := z1.out
      try have q2 := z2.out
      try have q3 := z3.out
      try have q4 := z4.out
      try have q5 := z5.out
      try have q6 := z6.out
      try have q7 := z7.out
      try have q8 := z8.out
      try have q9 := z9.out
      try have q10 := z10.out
      try have q11 := z11.out
      try have q12 := z12.out
      try have q13 := z13.out
      try have q14 := z14.out
      try have q15 := z15.out
      omega))
  try replace V2 := Aside0.mk (V2.out.frm (flat_int .u64) hf (fun k h1 h2 => by
      try dsimp only at h1
      try dsimp only at h2
      try have q1 := z1.out
      try have q2 := z2.out
      try have q3 := z3.out
      try have q4 := z4.out
      try have q5 := z5.out
      try have q6 := z6.out
      try have q7 := z7.out
      try have q8 := z8.out
      try have q9 := z9.out
      try have q10 := z10.out
      try have q11 := z11.out
      try have q12 := z12.out
      try have q13 := z13.out
      try have q14 := z14.out
      try have q15 := z15.out
      omega))
  try replace V3 := Aside0.mk (V3.out.frm (flat_int .u64) hf (fun k h1 h2 => by
      try dsimp only at h1
      try dsimp only at h2
      try have q1 := z1.out
      try have q2 := z2.out
      try have q3 := z3.out
      try have q4 := z4.out
      try have q5 := z5.out
      try have q6 := z6.out
      try have q7 := z7.out
      try have q8 := z8.out
      try have q9 := z9.out
      try have q10 := z10.out
      try have q11 := z11.out
      try have q12 := z12.out
      try have q13 := z13.out
      try have q14 := z14.out
      try have q15 := z15.out
      omega))
  try replace V4 := Aside0.mk (V4.out.frm (flat_int .u64) hf (fun k h1 h2 => by
      try dsimp only at h1
      try dsimp only at h2
      try have q1 := z1.out
      try have q2 := z2.out
      try have q3 := z3.out
      try have q4 := z4.out
      try have q5 := z5.out
      try have q6 := z6.out
      try have q7 := z7.out
      try have q8 := z8.out
      try have q9 := z9.out
      try have q10 := z10.out
      try have q11 := z11.out
      try have q12 := z12.out
      try have q13 := z13.out
      try have q14 := z14.out
      try have q15 := z15.out
      omega))
  try replace V5 := Aside0.mk (V5.out.frm (flat_int .u64) hf (fun k h1 h2 => by
      try dsimp only at h1
      try dsimp only at h2
      try have q1 := z1.out
      try have q2 := z2.out
      try have q3 := z3.out
      try have q4 := z4.out
      try have q5 := z5.out
      try have q6 := z6.out
      try have q7 := z7.out
      try have q8 := z8.out
      try have q9 := z9.out
      try have q10 := z10.out
      try have q11 := z11.out
      try have q12 := z12.out
      try have q13 := z13.out
      try have q14 := z14.out
      try have q15 := z15.out
      omega))
  try replace V6 := Aside0.mk (V6.out.frm (flat_int .u64) hf (fun k h1 h2 => by
      try dsimp only at h1
      try dsimp only at h2
      try have q1 := z1.out
      try have q2 := z2.out
      try have q3 := z3.out
      try have q4 := z4.out
      try have q5 := z5.out
      try have q6 := z6.out
      try have q7 := z7.out
      try have q8 := z8.out
      try have q9 := z9.out
      try have q10 := z10.out
      try have q11 := z11.out
      try have q12 := z12.out
      try have q13 := z13.out
      try have q14 := z14.out
      try have q15 := z15.out
      omega))
  try replace U1 := Aside0.mk (U1.out.frm (flat_int .u64) hf (fun k h1 h2 => by
      try dsimp only at h1
      try dsimp only at h2
      try have q1 := z1.out
      try have q2 := z2.out
      try have q3 := z3.out
      try have q4 := z4.out
      try have q5 := z5.out
      try have q6 := z6.out
      try have q7 := z7.out
      try have q8 := z8.out
      try have q9 := z9.out
      try have q10 := z10.out
      try have q11 := z11.out
      try have q12 := z12.out
      try have q13 := z13.out
      try have q14 := z14.out
      try have q15 := z15.out
      omega))
  try replace U2 := Aside0.mk (U2.out.frm (flat_int .u64) hf (fun k h1 h2 => by
      try dsimp only at h1
      try dsimp only at h2
      try have q1 := z1.out
      try have q2 := z2.out
      try have q3 := z3.out
      try have q4 := z4.out
      try have q5 := z5.out
      try have q6 := z6.out
      try have q7 := z7.out
      try have q8 := z8.out
      try have q9 := z9.out
      try have q10 := z10.out
      try have q11 := z11.out
      try have q12 := z12.out
      try have q13 := z13.out
      try have q14 := z14.out
      try have q15 := z15.out
      omega))
  try replace U3 := Aside0.mk (U3.out.frm (flat_int .u64) hf (fun k h1 h2 => by
      try dsimp only at h1
      try dsimp only at h2
      try have q1 := z1.out
      try have q2 := z2.out
      try have q3 := z3.out
      try have q4 := z4.out
      try have q5 := z5.out
      try have q6 := z6.out
      try have q7 := z7.out
      try have q8 := z8.out
      try have q9 := z9.out
      try have q10 := z10.out
      try have q11 := z11.out
      try have q12 := z12.out
      try have q13 := z13.out
      try have q14 := z14.out
      try have q15 := z15.out
      omega))
  have U1 := Aside0.mk hv
  replace HB := Aside0.mk hb
  clear hv hf hb
  go_wp2_with fail
  refine (numbers7_calls 202 L (by omega) _ w _ _ HB.out V4.out).mono ?_
  rintro e w12 ⟨v12, rfl, hv, hf, hb⟩
  obtain ⟨A12, n12, c12, e9⟩ : ∃ A m c, v12 = .slice A m c := by obtain ⟨A, c, h⟩ := Kd.R_slice hv.1; exact ⟨A, _, c, h⟩
  subst e9
  have z12 := Aside0.mk hf.size
  clear V4
  try replace V1 := Aside0.mk (V1.out.frm (flat_int .u64) hf (fun k h1 h2 => by
      try dsimp only at h1
      try dsimp only at h2
      try have q1 := z1.out
      try have q2 := z2.out
      try have q3 := z3.out
      try have q4 := z4.out
      try have q5 := z5.out
      try have q6 := z6.out
      try have q7 := z7.out
      try have q8 := z8.out
      try have q9 := z9.out
      try have q10 := z10.out
      try have q11 := z11.out
      try have q12 := z12.out
      try have q13 := z13.out
      try have q14 := z14.out
      try have q15 := z15.out
      omega))
  try replace V2 := Aside0.mk (V2.out.frm (flat_int .u64) hf (fun k h1 h2 => by
      try dsimp only at h1
      try dsimp only at h2
      try have q1 := z1.out
      try have q2 := z2.out
      try have q3 := z3.out
      try have q4 := z4.out
      try have q5 := z5.out
      try have q6 := z6.out
      try have q7 := z7.out
      try have q8 := z8.out
      try have q9 := z9.out
      try have q10 := z10.out
      try have q11 := z11.out
      try have q12 := z12.out
      try have q13 := z13.out
      try have q14 := z14.out
      try have q15 := z15.out
      omega))
  try replace V3 := Aside0.mk (V3.out.frm (flat_int .u64) hf (fun k h1 h2 => by
      try dsimp only at h1
      try dsimp only at h2
      try have q1 := z1.out
      try have q2 := z2.out
      try have q3 := z3.out
      try have q4 := z4.out
      try have q5 := z5.out
      try have q6 := z6.out
      try have q7 := z7.out
      try have q8 := z8.out
      try have q9 := z9.out
      try have q10 := z10.out
      try have q11 := z11.out
      try have q12 := z12.out
      try have q13 := z13.out
      try have q14 := z14.out
      try have q15 := z15.out
      omega))
  try replace V4 := Aside0.mk (V4.out.frm (flat_int .u64) hf (fun k h1 h2 => by
      try dsimp only at h1
      try dsimp only at h2
      try have q1 := z1.out
      try have q2 := z2.out
      try have q3 := z3.out
      try have q4 := z4.out
      try have q5 := z5.out
      try have q6 := z6.out
      try have q7 := z7.out
      try have q8 := z8.out
      try have q9 := z9.out
      try have q10 := z10.out
      try have q11 := z11.out
      try have q12 := z12.out
      try have q13 := z13.out
      try have q14 := z14.out
      try have q15 := z15.out
      omega))
  try replace V5 := Aside0.mk (V5.out.frm (flat_int .u64) hf (fun k h1 h2 => by
      try dsimp only at h1
      try dsimp only at h2
      try have q1 := z1.out
      try have q2 := z2.out
      try have q3 := z3.out
      try have q4 := z4.out
      try have q5 := z5.out
      try have q6 := z6.out
      try have q7 := z7.out
      try have q8 := z8.out
      try have q9 := z9.out
      try have q10 := z10.out
      try have q11 := z11.out
      try have q12 := z12.out
      try have q13 := z13.out
      try have q14 := z14.out
      try have q15 := z15.out
      omega))
  try replace V6 := Aside0.mk (V6.out.frm (flat_int .u64) hf (fun k h1 h2 => by
      try dsimp only at h1
      try dsimp only at h2
      try have q1 := z1.out
      try have q2 := z2.out
      try have q3 := z3.out
      try have q4 := z4.out
      try have q5 := z5.out
      try have q6 := z6.out
      try have q7 := z7.out
      try have q8 := z8.out
      try have q9 := z9.out
      try have q10 := z10.out
      try have q11 := z11.out
      try have q12 := z12.out
      try have q13 := z13.out
      try have q14 := z14.out
      try have q15 := z15.out
      omega))
  try replace U1 := Aside0.mk (U1.out.frm (flat_int .u64) hf (fun k h1 h2 => by
      try dsimp only at h1
      try dsimp only at h2
      try have q1 := z1.out
      try have q2 := z2.out
      try have q3 := z3.out
      try have q4 := z4.out
      try have q5 := z5.out
      try have q6 := z6.out
      try have q7 := z7.out
      try have q8 := z8.out
      try have q9 := z9.out
      try have q10 := z10.out
      try have q11 := z11.out
      try have q12 := z12.out
      try have q13 := z13.out
      try have q14 := z14.out
      try have q15 := z15.out
      omega))
  try replace U2 := Aside0.mk (U2.out.frm (flat_int .u64) hf (fun k h1 h2 => by
      try dsimp only at h1
      try dsimp only at h2
      try have q1 := z1.out
      try have q2 := z2.out
      try have q3 := z3.out
      try have q4 := z4.out
      try have q5 := z5.out
      try have q6 := z6.out
      try have q7 := z7.out
      try have q8 := z8.out
      try have q9 := z9.out
      try have q10 := z10.out
      try have q11 := z11.out
      try have q12 := z12.out
      try have q13 := z13.out
      try have q14 := z14.out
      try have q15 := z15.out
      omega))
  try replace U3 := Aside0.mk (U3.out.frm (flat_int .u64) hf (fun k h1 h2 => by
      try dsimp only at h1
      try dsimp only at h2
      try have q1 := z1.out
      try have q2 := z2.out
      try have q3 := z3.out
      try have q4 := z4.out
      try have q5 := z5.out
      try have q6 := z6.out
      try have q7 := z7.out
      try have q8 := z8.out
      try have q9 := z9.out
      try have q10 := z10.out
      try have q11 := z11.out
      try have q12 := z12.out
      try have q13 := z13.out
      try have q14 := z14.out
      try have q15 := z15.out
      omega))
  have U2 := Aside0.mk hv
  replace HB := Aside0.mk hb
  clear hv hf hb
  go_wp2_with fail
  refine (numbers7_calls 203 M (by omega) _ w _ _ HB.out V5.out).mono ?_
  rintro e w13 ⟨v13, rfl, hv, hf, hb⟩
  obtain ⟨A13, n13, c13, e9⟩ : ∃ A m c, v13 = .slice A m c := by obtain ⟨A, c, h⟩ := Kd.R_slice hv.1; exact ⟨A, _, c, h⟩
  subst e9
  have z13 := Aside0.mk hf.size
  clear V5
  try replace V1 := Aside0.mk (V1.out.frm (flat_int .u64) hf (fun k h1 h2 => by
      try dsimp only at h1
      try dsimp only at h2
      try have q1 := z1.out
      try have q2 := z2.out
      try have q3 := z3.out
      try have q4 := z4.out
      try have q5 := z5.out
      try have q6 := z6.out
      try have q7 := z7.out
      try have q8 := z8.out
      try have q9 := z9.out
      try have q10 := z10.out
      try have q11 := z11.out
      try have q12 := z12.out
      try have q13 := z13.out
      try have q14 := z14.out
      try have q15 := z15.out
      omega))
  try replace V2 := Aside0.mk (V2.out.frm (flat_int .u64) hf (fun k h1 h2 => by
      try dsimp only at h1
      try dsimp only at h2
      try have q1 := z1.out
      try have q2 := z2.out
      try have q3 := z3.out
      try have q4 := z4.out
      try have q5 := z5.out
      try have q6 := z6.out
      try have q7 := z7.out
      try have q8 := z8.out
      try have q9 := z9.out
      try have q10 := z10.out
      try have q11 := z11.out
      try have q12 := z12.out
      try have q13 := z13.out
      try have q14 := z14.out
      try have q15 := z15.out
      omega))
  try replace V3 := Aside0.mk (V3.out.frm (flat_int .u64) hf (fun k h1 h2 => by
      try dsimp only at h1
      try dsimp only at h2
      try have q1 := z1.out
      try have q2 := z2.out
      try have q3 := z3.out
      try have q4 := z4.out
      try have q5 := z5.out
      try have q6 := z6.out
      try have q7 := z7.out
      try have q8 := z8.out
      try have q9 := z9.out
      try have q10 := z10.out
      try have q11 := z11.out
      try have q12 := z12.out
      try have q13 := z13.out
      try have q14 := z14.out
      try have q15 := z15.out
      omega))
  try replace V4 := Aside0.mk (V4.out.frm (flat_int .u64) hf (fun k h1 h2 => by
      try dsimp only at h1
      try dsimp only at h2
      try have q1 := z1.out
      try have q2 := z2.out
      try have q3 := z3.out
      try have q4 := z4.out
      try have q5 := z5.out
      try have q6 := z6.out
      try have q7 := z7.out
      try have q8 := z8.out
      try have q9 := z9.out
      try have q10 := z10.out
      try have q11 := z11.out
      try have q12 := z12.out
      try have q13 := z13.out
      try have q14 := z14.out
      try have q15 := z15.out
      omega))
  try replace V5 := Aside0.mk (V5.out.frm (flat_int .u64) hf (fun k h1 h2 => by
      try dsimp only at h1
      try dsimp only at h2
      try have q1 := z1.out
      try have q2 := z2.out
      try have q3 := z3.out
      try have q4 := z4.out
      try have q5 := z5.out
      try have q6 := z6.out
      try have q7 := z7.out
      try have q8 := z8.out
      try have q9 := z9.out
      try have q10 := z10.out
      try have q11 := z11.out
      try have q12 := z12.out
      try have q13 := z13.out
      try have q14 := z14.out
      try have q15 := z15.out
      omega))
  try replace V6 := Aside0.mk (V6.out.frm (flat_int .u64) hf (fun k h1 h2 => by
      try dsimp only at h1
      try dsimp only at h2
      try have q1 := z1.out
      try have q2 := z2.out
      try have q3 := z3.out
      try have q4 := z4.out
      try have q5 := z5.out
      try have q6 := z6.out
      try have q7 := z7.out
      try have q8 := z8.out
      try have q9 := z9.out
      try have q10 := z10.out
      try have q11 := z11.out
      try have q12 := z12.out
      try have q13 := z13.out
      try have q14 := z14.out
      try have q15 := z15.out
      omega))
  try replace U1 := Aside0.mk (U1.out.frm (flat_int .u64) hf (fun k h1 h2 => by
      try dsimp only at h1
      try dsimp only at h2
      try have q1 := z1.out
      try have q2 := z2.out
      try have q3 := z3.out
      try have q4 := z4.out
      try have q5 := z5.out
      try have q6 := z6.out
      try have q7 := z7.out
      try have q8 := z8.out
      try have q9 := z9.out
      try have q10 := z10.out
      try have q11 := z11.out
      try have q12 := z12.out
      try have q13 := z13.out
      try have q14 := z14.out
      try have q15 := z15.out
      omega))
  try replace U2 := Aside0.mk (U2.out.frm (flat_int .u64) hf (fun k h1 h2 => by
      try dsimp only at h1
      try dsimp only at h2
      try have q1 := z1.out
      try have q2 := z2.out
      try have q3 := z3.out
      try have q4 := z4.out
      try have q5 := z5.out
      try have q6 := z6.out
      try have q7 := z7.out
      try have q8 := z8.out
      try have q9 := z9.out
      try have q10 := z10.out
      try have q11 := z11.out
      try have q12 := z12.out
      try have q13 := z13.out
      try have q14 := z14.out
      try have q15 := z15.out
      omega))
  try replace U3 := Aside0.mk (U3.out.frm (flat_int .u64) hf (fun k h1 h2 => by
      try dsimp only at h1
      try dsimp only at h2
      try have q1 := z1.out
      try have q2 := z2.out
      try have q3 := z3.out
      try have q4 := z4.out
      try have q5 := z5.out
      try have q6 := z6.out
      try have q7 := z7.out
      try have q8 := z8.out
      try have q9 := z9.out
      try have q10 := z10.out
      try have q11 := z11.out
      try have q12 := z12.out
      try have q13 := z13.out
      try have q14 := z14.out
      try have q15 := z15.out
      omega))
  have U3 := Aside0.mk hv
  replace HB := Aside0.mk hb
  clear hv hf hb
  go_wp2_with fail
  refine (numbers7_calls 204 M (by omega) _ w _ _ HB.out V6.out).mono ?_
  rintro e w14 ⟨v14, rfl, hv, hf, hb⟩
  obtain ⟨A14, n14, c14, e9⟩ : ∃ A m c, v14 = .slice A m c := by obtain ⟨A, c, h⟩ := Kd.R_slice hv.1; exact ⟨A, _, c, h⟩
  subst e9
  have z14 := Aside0.mk hf.size
  clear V6
  try replace V1 := Aside0.mk (V1.out.frm (flat_int .u64) hf (fun k h1 h2 => by
      try dsimp only at h1
      try dsimp only at h2
      try have q1 := z1.out
      try have q2 := z2.out
      try have q3 := z3.out
      try have q4 := z4.out
      try have q5 := z5.out
      try have q6 := z6.out
      try have q7 := z7.out
      try have q8 := z8.out
      try have q9 := z9.out
      try have q10 := z10.out
      try have q11 := z11.out
      try have q12 := z12.out
      try have q13 := z13.out
      try have q14 := z14.out
      try have q15 := z15.out
      omega))
  try replace V2 := Aside0.mk (V2.out.frm (flat_int .u64) hf (fun k h1 h2 => by
      try dsimp only at h1
      try dsimp only at h2
      try have q1 := z1.out
      try have q2 := z2.out
      try have q3 := z3.out
      try have q4 := z4.out
      try have q5 := z5.out
      try have q6 := z6.out
      try have q7 := z7.out
      try have q8 := z8.out
      try have q9 := z9.out
      try have q10 := z10.out
      try have q11 := z11.out
      try have q12 := z12.out
      try have q13 := z13.out
      try have q14 := z14.out
      try have q15 := z15.out
      omega))
  try replace V3 := Aside0.mk (V3.out.frm (flat_int .u64) hf (fun k h1 h2 => by
      try dsimp only at h1
      try dsimp only at h2
      try have q1 := z1.out
      try have q2 := z2.out
      try have q3 := z3.out
      try have q4 := z4.out
      try have q5 := z5.out
      try have q6 := z6.out
      try have q7 := z7.out
      try have q8 := z8.out
      try have q9 := z9.out
      try have q10 := z10.out
      try have q11 := z11.out
      try have q12 := z12.out
      try have q13 := z13.out
      try have q14 := z14.out
      try have q15 := z15.out
      omega))
  try replace V4 := Aside0.mk (V4.out.frm (flat_int .u64) hf (fun k h1 h2 => by
      try dsimp only at h1
      try dsimp only at h2
      try have q1 := z1.out
      try have q2 := z2.out
      try have q3 := z3.out
      try have q4 := z4.out
      try have q5 := z5.out
      try have q6 := z6.out
      try have q7 := z7.out
      try have q8 := z8.out
      try have q9 := z9.out
      try have q10 := z10.out
      try have q11 := z11.out
      try have q12 := z12.out
      try have q13 := z13.out
      try have q14 := z14.out
      try have q15 := z15.out
      omega))
  try replace V5 := Aside0.mk (V5.out.frm (flat_int .u64) hf (fun k h1 h2 => by
      try dsimp only at h1
      try dsimp only at h2
      try have q1 := z1.out
      try have q2 := z2.out
      try have q3 := z3.out
      try have q4 := z4.out
      try have q5 := z5.out
      try have q6 := z6.out
      try have q7 := z7.out
      try have q8 := z8.out
      try have q9 := z9.out
      try have q10 := z10.out
      try have q11 := z11.out
      try have q12 := z12.out
      try have q13 := z13.out
      try have q14 := z14.out
      try have q15 := z15.out
      omega))
  try replace V6 := Aside0.mk (V6.out.frm (flat_int .u64) hf (fun k h1 h2 => by
      try dsimp only at h1
      try dsimp only at h2
      try have q1 := z1.out
      try have q2 := z2.out
      try have q3 := z3.out
      try have q4 := z4.out
      try have q5 := z5.out
      try have q6 := z6.out
      try have q7 := z7.out
      try have q8 := z8.out
      try have q9 := z9.out
      try have q10 := z10.out
      try have q11 := z11.out
      try have q12 := z12.out
      try have q13 := z13.out
      try have q14 := z14.out
      try have q15 := z15.out
      omega))
  try replace U1 := Aside0.mk (U1.out.frm (flat_int .u64) hf (fun k h1 h2 => by
      try dsimp only at h1
      try dsimp only at h2
      try have q1 := z1.out
      try have q2 := z2.out
      try have q3 := z3.out
      try have q4 := z4.out
      try have q5 := z5.out
      try have q6 := z6.out
      try have q7 := z7.out
      try have q8 := z8.out
      try have q9 := z9.out
      try have q10 := z10.out
      try have q11 := z11.out
      try have q12 := z12.out
      try have q13 := z13.out
      try have q14 := z14.out
      try have q15 := z15.out
      omega))
  try replace U2 := Aside0.mk (U2.out.frm (flat_int .u64) hf (fun k h1 h2 => by
      try dsimp only at h1
      try dsimp only at h2
      try have q1 := z1.out
      try have q2 := z2.out
      try have q3 := z3.out
      try have q4 := z4.out
      try have q5 := z5.out
      try have q6 := z6.out
      try have q7 := z7.out
      try have q8 := z8.out
      try have q9 := z9.out
      try have q10 := z10.out
      try have q11 := z11.out
      try have q12 := z12.out
      try have q13 := z13.out
      try have q14 := z14.out
      try have q15 := z15.out
      omega))
  try replace U3 := Aside0.mk (U3.out.frm (flat_int .u64) hf (fun k h1 h2 => by
      try dsimp only at h1
      try dsimp only at h2
      try have q1 := z1.out
      try have q2 := z2.out
      try have q3 := z3.out
      try have q4 := z4.out
      try have q5 := z5.out
      try have q6 := z6.out
      try have q7 := z7.out
      try have q8 := z8.out
      try have q9 := z9.out
      try have q10 := z10.out
      try have q11 := z11.out
      try have q12 := z12.out
      try have q13 := z13.out
      try have q14 := z14.out
      try have q15 := z15.out
      omega))
  have U4 := Aside0.mk hv
  replace HB := Aside0.mk hb
  clear hv hf hb
  go_wp2_with fail
  refine (all7_calls 201 (L.length + 2) (by omega) _ _ _ _ U1.out.rd).mono ?_
  rintro e w15 ⟨rfl, hd⟩
  have hb := hd.below
  have z15 := Aside0.mk hb.size
  try replace V1 := Aside0.mk (V1.out.below hb)
  try replace V2 := Aside0.mk (V2.out.below hb)
  try replace V3 := Aside0.mk (V3.out.below hb)
  try replace V4 := Aside0.mk (V4.out.below hb)
  try replace V5 := Aside0.mk (V5.out.below hb)
  try replace V6 := Aside0.mk (V6.out.below hb)
  try replace V7 := Aside0.mk (V7.out.below hb)
  try replace V8 := Aside0.mk (V8.out.below hb)
  try replace V9 := Aside0.mk (V9.out.below hb)
  try replace V10 := Aside0.mk (V10.out.below hb)
  try replace V11 := Aside0.mk (V11.out.below hb)
  try replace V12 := Aside0.mk (V12.out.below hb)
  try replace U1 := Aside0.mk (U1.out.below hb)
  try replace U2 := Aside0.mk (U2.out.below hb)
  try replace U3 := Aside0.mk (U3.out.below hb)
  try replace U4 := Aside0.mk (U4.out.below hb)
  replace HB := Aside0.mk (blt HB.out hb)
  clear hd hb
  go_wp2_with fail
  refine (all7_calls 202 (L.length + 2) (by omega) _ _ _ _ U2.out.rd).mono ?_
  rintro e w16 ⟨rfl, hd⟩
  have hb := hd.below
  have z16 := Aside0.mk hb.size
  try replace V1 := Aside0.mk (V1.out.below hb)
  try replace V2 := Aside0.mk (V2.out.below hb)
  try replace V3 := Aside0.mk (V3.out.below hb)
  try replace V4 := Aside0.mk (V4.out.below hb)
  try replace V5 := Aside0.mk (V5.out.below hb)
  try replace V6 := Aside0.mk (V6.out.below hb)
  try replace V7 := Aside0.mk (V7.out.below hb)
  try replace V8 := Aside0.mk (V8.out.below hb)
  try replace V9 := Aside0.mk (V9.out.below hb)
  try replace V10 := Aside0.mk (V10.out.below hb)
  try replace V11 := Aside0.mk (V11.out.below hb)
  try replace V12 := Aside0.mk (V12.out.below hb)
  try replace U1 := Aside0.mk (U1.out.below hb)
  try replace U2 := Aside0.mk (U2.out.below hb)
  try replace U3 := Aside0.mk (U3.out.below hb)
  try replace U4 := Aside0.mk (U4.out.below hb)
  replace HB := Aside0.mk (blt HB.out hb)
  clear hd hb
  go_wp2_with fail
  refine (all7_calls 203 (M.length + 2) (by omega) _ _ _ _ U3.out.rd).mono ?_
  rintro e w17 ⟨rfl, hd⟩
  have hb := hd.below
  have z17 := Aside0.mk hb.size
  try replace V1 := Aside0.mk (V1.out.below hb)
  try replace V2 := Aside0.mk (V2.out.below hb)
  try replace V3 := Aside0.mk (V3.out.below hb)
  try replace V4 := Aside0.mk (V4.out.below hb)
  try replace V5 := Aside0.mk (V5.out.below hb)
  try replace V6 := Aside0.mk (V6.out.below hb)
  try replace V7 := Aside0.mk (V7.out.below hb)
  try replace V8 := Aside0.mk (V8.out.below hb)
  try replace V9 := Aside0.mk (V9.out.below hb)
  try replace V10 := Aside0.mk (V10.out.below hb)
  try replace V11 := Aside0.mk (V11.out.below hb)
  try replace V12 := Aside0.mk (V12.out.below hb)
  try replace U1 := Aside0.mk (U1.out.below hb)
  try replace U2 := Aside0.mk (U2.out.below hb)
  try replace U3 := Aside0.mk (U3.out.below hb)
  try replace U4 := Aside0.mk (U4.out.below hb)
  replace HB := Aside0.mk (blt HB.out hb)
  clear hd hb
  go_wp2_with fail
  refine (all7_calls 204 (M.length + 2) (by omega) _ _ _ _ U4.out.rd).mono ?_
  rintro e w18 ⟨rfl, hd⟩
  have hb := hd.below
  have z18 := Aside0.mk hb.size
  try replace V1 := Aside0.mk (V1.out.below hb)
  try replace V2 := Aside0.mk (V2.out.below hb)
  try replace V3 := Aside0.mk (V3.out.below hb)
  try replace V4 := Aside0.mk (V4.out.below hb)
  try replace V5 := Aside0.mk (V5.out.below hb)
  try replace V6 := Aside0.mk (V6.out.below hb)
  try replace V7 := Aside0.mk (V7.out.below hb)
  try replace V8 := Aside0.mk (V8.out.below hb)
  try replace V9 := Aside0.mk (V9.out.below hb)
  try replace V10 := Aside0.mk (V10.out.below hb)
  try replace V11 := Aside0.mk (V11.out.below hb)
  try replace V12 := Aside0.mk (V12.out.below hb)
  try replace U1 := Aside0.mk (U1.out.below hb)
  try replace U2 := Aside0.mk (U2.out.below hb)
  try replace U3 := Aside0.mk (U3.out.below hb)
  try replace U4 := Aside0.mk (U4.out.below hb)
  replace HB := Aside0.mk (blt HB.out hb)
  clear hd hb
  go_wp2_with fail
  clear U1 U2 U3 U4
  refine (HP1.out w _ HB.out.size trivial).mono ?_
  rintro e w19 ⟨A19, n19, c19, rfl, hv, hb⟩
  have z19 := Aside0.mk hb.size
  try replace V1 := Aside0.mk (V1.out.below hb)
  try replace V2 := Aside0.mk (V2.out.below hb)
  try replace V3 := Aside0.mk (V3.out.below hb)
  try replace V4 := Aside0.mk (V4.out.below hb)
  try replace V5 := Aside0.mk (V5.out.below hb)
  try replace V6 := Aside0.mk (V6.out.below hb)
  try replace V7 := Aside0.mk (V7.out.below hb)
  try replace V8 := Aside0.mk (V8.out.below hb)
  try replace V9 := Aside0.mk (V9.out.below hb)
  try replace V10 := Aside0.mk (V10.out.below hb)
  try replace V11 := Aside0.mk (V11.out.below hb)
  try replace V12 := Aside0.mk (V12.out.below hb)
  try replace U1 := Aside0.mk (U1.out.below hb)
  try replace U2 := Aside0.mk (U2.out.below hb)
  try replace U3 := Aside0.mk (U3.out.below hb)
  try replace U4 := Aside0.mk (U4.out.below hb)
  replace HB := Aside0.mk (blt HB.out hb)
  have V3 := Aside0.mk hv
  clear hb hv
  go_wp2_with fail
  refine (HP2.out w _ HB.out.size (HT.out.below HB.out)).mono ?_
  rintro e w20 ⟨A20, n20, c20, rfl, hv, hb⟩
  have z20 := Aside0.mk hb.size
  try replace V1 := Aside0.mk (V1.out.below hb)
  try replace V2 := Aside0.mk (V2.out.below hb)
  try replace V3 := Aside0.mk (V3.out.below hb)
  try replace V4 := Aside0.mk (V4.out.below hb)
  try replace V5 := Aside0.mk (V5.out.below hb)
  try replace V6 := Aside0.mk (V6.out.below hb)
  try replace V7 := Aside0.mk (V7.out.below hb)
  try replace V8 := Aside0.mk (V8.out.below hb)
  try replace V9 := Aside0.mk (V9.out.below hb)
  try replace V10 := Aside0.mk (V10.out.below hb)
  try replace V11 := Aside0.mk (V11.out.below hb)
  try replace V12 := Aside0.mk (V12.out.below hb)
  try replace U1 := Aside0.mk (U1.out.below hb)
  try replace U2 := Aside0.mk (U2.out.below hb)
  try replace U3 := Aside0.mk (U3.out.below hb)
  try replace U4 := Aside0.mk (U4.out.below hb)
  replace HB := Aside0.mk (blt HB.out hb)
  have V5 := Aside0.mk hv
  clear hb hv
  go_wp2_with fail
  refine (same_true (xs := L) V3.out.rd V1.out.rd (by omega)).mono ?_
  rintro e w21 ⟨rfl, hd⟩
  have hb := hd.below
  have z21 := Aside0.mk hb.size
  try replace V1 := Aside0.mk (V1.out.below hb)
  try replace V2 := Aside0.mk (V2.out.below hb)
  try replace V3 := Aside0.mk (V3.out.below hb)
  try replace V4 := Aside0.mk (V4.out.below hb)
  try replace V5 := Aside0.mk (V5.out.below hb)
  try replace V6 := Aside0.mk (V6.out.below hb)
  try replace V7 := Aside0.mk (V7.out.below hb)
  try replace V8 := Aside0.mk (V8.out.below hb)
  try replace V9 := Aside0.mk (V9.out.below hb)
  try replace V10 := Aside0.mk (V10.out.below hb)
  try replace V11 := Aside0.mk (V11.out.below hb)
  try replace V12 := Aside0.mk (V12.out.below hb)
  try replace U1 := Aside0.mk (U1.out.below hb)
  try replace U2 := Aside0.mk (U2.out.below hb)
  try replace U3 := Aside0.mk (U3.out.below hb)
  try replace U4 := Aside0.mk (U4.out.below hb)
  replace HB := Aside0.mk (blt HB.out hb)
  clear hd hb
  go_wp2_with fail
  refine (same_true (xs := M) V5.out.rd V2.out.rd (by omega)).mono ?_
  rintro e w22 ⟨rfl, hd⟩
  have hb := hd.below
  have z22 := Aside0.mk hb.size
  try replace V1 := Aside0.mk (V1.out.below hb)
  try replace V2 := Aside0.mk (V2.out.below hb)
  try replace V3 := Aside0.mk (V3.out.below hb)
  try replace V4 := Aside0.mk (V4.out.below hb)
  try replace V5 := Aside0.mk (V5.out.below hb)
  try replace V6 := Aside0.mk (V6.out.below hb)
  try replace V7 := Aside0.mk (V7.out.below hb)
  try replace V8 := Aside0.mk (V8.out.below hb)
  try replace V9 := Aside0.mk (V9.out.below hb)
  try replace V10 := Aside0.mk (V10.out.below hb)
  try replace V11 := Aside0.mk (V11.out.below hb)
  try replace V12 := Aside0.mk (V12.out.below hb)
  try replace U1 := Aside0.mk (U1.out.below hb)
  try replace U2 := Aside0.mk (U2.out.below hb)
  try replace U3 := Aside0.mk (U3.out.below hb)
  try replace U4 := Aside0.mk (U4.out.below hb)
  replace HB := Aside0.mk (blt HB.out hb)
  clear hd hb
  go_wp2_with fail
  refine (awake7 _).mono ?_
  rintro e w23 ⟨rfl, hb⟩
  replace HB := Aside0.mk (blt HB.out hb)
  clear hb
  go_wp2_with fail
  go_ret
  exact ⟨rfl, HB.out⟩
end Go.Proofs.YtefnonlhepekdaaDoor.M
