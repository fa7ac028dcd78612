/- proof.write and proof.Encode. massifref7.Put: hashes behind bytes. cut.Span. massifref4.Span. proof.PrefixPlaces, massifref7.PrefixPlaces. massifref7.PrefixPlaces. massifref7.Encode. proof.EncodePrefix. massifref7.EncodePrefix. massiflaw7.awake. Rows of numbers: SameNumbers; massiflaw7.numbers, all; a row of one's own within a range of blocks. massiflaw7.row, text, marked, still, bytes; massifref7.SameHashes and massifref2.SameBytes of what is the same. -/
import Derived.Test.YtefnonlhepekdaaDoorPW1
import Derived.Test.YtefnonlhepekdaaDoorPW0
set_option linter.unusedVariables false
set_option linter.unusedSimpArgs false
set_option linter.unusedVariables false
set_option linter.unusedSimpArgs false
namespace Go.Proofs.YtefnonlhepekdaaDoor.M
open Go.RowKit Go.Proofs.YtefnonlhepekdaaDoorW.PrintWords Go.Proofs.YtefnonlhepekdaaDoorW.PrintLast Go.Proofs.YtefnonlhepekdaaDoorW.PrintMore Go.Proofs.YtefnonlhepekdaaDoor.Leaf

theorem short_calls (x : Nat) (hx : x < 18446744073709551616) (w : World) :
    Calls Tryd.prog 105 #[.int .u64 x] w fun e w' => ∃ v, e = .returned v ∧ Kd.R (Kd.int .u8) 5 w' w.heap.size (fun _ => True) v (shortI x) ∧ Below w.heap.size w w' := by
  obtain ⟨k, hk⟩ := (short_val x hx).rounds
  exact num_Short.calls k x _ w hk

def writeB (kd a b : Nat) (ns : List Hsh) : List Int := [(kd : Int)] ++ shortI a ++ shortI b ++ nodesI ns

set_option maxHeartbeats 2000000 in
set_option maxRecDepth 100000 in
theorem proof_write (kd x y c : Nat) (ns : List Hsh) (A : Option Addr) (w : World) (hx : x < 18446744073709551616) (hy : y < 18446744073709551616) (hA : kH.C w A ns.length ns) (hle : ns.length ≤ 100000) :
    Calls Tryd.prog 72 #[.int .u8 kd, .int .u64 x, .int .u64 y, .slice A ns.length c] w fun e w' => ∃ v, e = .returned v ∧ Kd.R (Kd.int .u8) 5 w' w.heap.size (fun _ => True) v (writeB kd x y ns) ∧ Below w.heap.size w w' := by
  have HN := Aside0.mk hA
  have hns := hle
  clear hA hle
  go_enter Tryd.func72, Tryd.ntmps72
  go_wp2_with fail
  refine (short_calls x hx _).mono ?_
  rintro e wa ⟨va, rfl, hra, hba⟩
  obtain ⟨Aa, ca, ea⟩ := Kd.R_slice hra
  rw [ea] at hra ⊢
  have ra := Aside0.mk (Rd.of_R hra)
  have ba := Aside0.mk hba
  clear hra hba ea
  go_wp2_with fail
  refine (short_calls y hy _).mono ?_
  rintro e wb ⟨vb, rfl, hrb, hbb⟩
  obtain ⟨Ab, cb, eb⟩ := Kd.R_slice hrb
  rw [eb] at hrb ⊢
  have rb := Aside0.mk (Rd.of_R hrb)
  have bb := Aside0.mk hbb
  clear hrb hbb eb
  go_wp2_with fail
  refine (concat_rows (some ⟨_, 0, none⟩) 3 [[(kd : Int)], shortI x, shortI y] _ (C_rows3 .u8 5 _ _ _ _ 22 _ _ _ (Rd.below (Rd.below (Rd.one _ _ _ _ rfl) ba.out) bb.out) (Rd.below ra.out bb.out) rb.out (by simp [World.drew])) (by simp) (by have := shortI_len x; have := shortI_len y; simp; omega)).mono ?_
  rintro e wd ⟨vd, rfl, hrd, hbd⟩
  obtain ⟨Ad, ld, cd, ed⟩ : ∃ A l c, vd = .slice A l c := (by obtain ⟨A, c, h⟩ := Kd.R_slice hrd; exact ⟨A, _, c, h⟩)
  rw [ed] at hrd ⊢
  obtain ⟨P0, hP⟩ : ∃ P, P = [(kd : Int)] ++ shortI x ++ shortI y := ⟨_, rfl⟩
  have hfl : [[(kd : Int)], shortI x, shortI y].flatten = P0 := by rw [hP]; simp
  rw [hfl] at hrd
  have hPl : P0.length ≤ 31 := by have := shortI_len x; have := shortI_len y; rw [hP]; simp only [List.length_append, List.length_singleton]; omega
  have hB0 : Below w.heap.size w wd := blt (blt (blt (bl_new w _) ba.out) bb.out) (below_on (bl_new wb _) (by simp) (Below.refl _ _)) |>.trans (hbd.mono (by have := ba.out.size; have := bb.out.size; simp at *; omega))
  have HP := Aside0.mk hP
  have G1 := Aside0.mk (Kd.R_lower hrd (by have := ba.out.size; have := bb.out.size; simp at *; omega : w.heap.size ≤ _))
  have G2 := Aside0.mk hB0
  clear hrd hbd ed hP hfl hB0
  go_wp2_with fail
  go_loopw [9, 22] (fun s i wr => ∃ j : Nat, j ≤ ns.length ∧ i = .int .i64 j ∧ Aside0 (Kd.R (Kd.int .u8) 5 wr w.heap.size (fun _ => True) s (P0 ++ nodesI (ns.take j))) ∧ Aside0 (Below w.heap.size w wr)) (fun _ i _ => ns.length - (intOf i).toNat)
  case atStart => exact ⟨0, Nat.zero_le _, rfl, by rw [List.take_zero]; simp only [nodesI, List.flatMap_nil, List.append_nil]; exact G1, G2⟩
  case round =>
    obtain ⟨j, hj, rfl, HR, HW⟩ := hrel
    clear G1 G2
    by_cases hlt : j < ns.length
    · obtain ⟨ad, ea, hh⟩ := C_hash (Kd.C_below HN.out HW.out) j hlt
      subst ea
      have HH := Aside0.mk hh
      clear hh
      obtain ⟨hv, hhv⟩ : ∃ h, h = ns[j] := ⟨_, rfl⟩
      rw [← hhv] at HH
      have hcat : nodesI (ns.take (j + 1)) = nodesI (ns.take j) ++ hv.b := by
        rw [List.take_add_one, List.getElem?_eq_getElem hlt, ← hhv]
        show nodesI (ns.take j ++ [hv]) = _
        unfold nodesI
        rw [List.flatMap_append]
        simp only [List.flatMap_cons, List.flatMap_nil, List.append_nil]
      have hlen : (nodesI (ns.take (j + 1))).length ≤ 32 * 100000 := by
        have h1 : ∀ l : List Hsh, (nodesI l).length = 32 * l.length := by
          intro l
          induction l with
          | nil => rfl
          | cons x l ih =>
            rw [show nodesI (x :: l) = x.b ++ nodesI l from rfl, List.length_append, ih, x.len, List.length_cons]
            omega
        rw [h1]
        have := List.length_take_le (j + 1) ns
        omega
      rw [hcat, List.length_append, hv.len] at hlen
      have HCat := Aside0.mk hcat
      clear hcat hhv
      have hsz := HW.out.size
      obtain ⟨P1, hP1⟩ : ∃ P, P = P0 ++ nodesI (ns.take j) := ⟨_, rfl⟩
      have hP1l : P1.length ≤ 3200100 := by rw [hP1, List.length_append]; omega
      rw [← hP1] at HR
      have HP1 := Aside0.mk hP1
      clear hP1
      go_wp2_with (first | ((with_reducible refine gate_dst (N := 25) rfl ?_); go_loud (refine load_hash rfl (.tmp 24) rfl _ _ rfl HH.out ?_)) | ((with_reducible refine gate_store (t := 63) (p := 11) (v := .tmp 25) rfl ?_); go_loud (refine store_hash rfl rfl (.tmp 11) (.tmp 25) rfl _ rfl _ _ rfl hv rfl rfl ?_)) | ((with_reducible refine gate_builtin (b := .append) (xs := #[.tmp 26, .tmp 27]) rfl ?_); at_builtin; go_loud (refine app_row .u8 w.heap.size rfl (.tmp 26) (.tmp 27) 22 5 (.int .u8 0) 1 rfl Tryd.underlying22 info5 rfl (by omega) _ P1 hv.b _ 32 32 rfl rfl (Kd.R_alloc HR.out _) (C_hash_row wr hv _ rfl) (by simp; omega) (by omega) ?_; intro A2 c2 w2 hr2 hf2 hat2; have HR2 := Aside0.mk hr2; have HF2 := Aside0.mk hf2; clear hr2 hf2 hat2)))
      go_roundw
      case rel => exact ⟨j + 1, by omega, by go_num, ⟨by rw [HCat.out, ← List.append_assoc, ← HP1.out]; exact HR2.out⟩, ⟨(below_alloc HW.out _).trans (HF2.out.below (by simp; omega) (fun k hk => Kd.R_base HR.out k hk.symm))⟩⟩
      case measure => simp [intOf]; omega
    · have hjl : j = ns.length := by omega
      subst hjl
      obtain ⟨A6, l6, c6, e6⟩ : ∃ A l c, u9 = .slice A l c := (by obtain ⟨A, c, h⟩ := Kd.R_slice HR.out; exact ⟨A, _, c, h⟩)
      have HE6 := Aside0.mk e6
      clear e6
      go_wp2_with fail
      go_ret
      refine ⟨_, rfl, ?_, HW.out⟩
      have hq := HR.out
      rw [List.take_length, HP.out] at hq
      exact hq


/-- What proof.Encode answers. -/
def pencAns (i n : Nat) (ns : List Hsh) : List Int × Int := if (proofAns i n).2 ≠ 0 then ([], (proofAns i n).2) else if (proofAns i n).1.length ≠ ns.length then ([], 70) else (writeB 77 n i ns, 0)
set_option maxHeartbeats 2000000 in
set_option maxRecDepth 100000 in
theorem proof_encode (i n c : Nat) (ns : List Hsh) (A : Option Addr) (w : World) (hi : i < 18446744073709551616) (hn : n < 18446744073709551616) (hA : kH.C w A ns.length ns) :
    Calls Tryd.prog 27 #[.agg #[.int .u64 n, .int .u64 i, .slice A ns.length c]] w fun e w' => ∃ v, e = .returned (.tuple #[v, .int .i64 (pencAns i n ns).2]) ∧ Kd.R (Kd.int .u8) 5 w' w.heap.size (fun _ => True) v (pencAns i n ns).1 ∧ Below w.heap.size w w' := by
  have hp := proof_places i n
  have hlen := proofAns_len i n
  have hdef : pencAns i n ns = if (proofAns i n).2 ≠ 0 then ([], (proofAns i n).2) else if (proofAns i n).1.length ≠ ns.length then ([], 70) else (writeB 77 n i ns, 0) := rfl
  generalize pencAns i n ns = E at *
  generalize (proofAns i n).1 = L at *
  generalize (proofAns i n).2 = er at *
  have HP := Aside0.mk hp
  have HE := Aside0.mk hdef
  have HN := Aside0.mk hA
  clear hp hdef hA
  go_enter Tryd.func27, Tryd.ntmps27
  go_wp2_with fail
  refine (HP.out _).mono ?_
  rintro e w1 ⟨v1, rfl, hr, hb⟩
  obtain ⟨A1, cap1, e1⟩ := Kd.R_slice hr
  rw [e1]
  have hb0 : Below w.heap.size w w1 := (bl_new w _).trans (hb.mono (by simp))
  have hbx : w1.heap[w.heap.size]? = some (.cells #[.int .u64 n, .int .u64 i, .slice A ns.length c] 41 (0, 0)) := (hb.block _ (by simp)).trans (heap_new w _)
  have hx0 : w1.cell? ⟨w.heap.size, 0, none⟩ = some (.int .u64 n) := (blk_cell hbx 0).trans rfl
  have hx1 : w1.cell? ⟨w.heap.size, 1, none⟩ = some (.int .u64 i) := (blk_cell hbx 1).trans rfl
  have hx2 : w1.cell? ⟨w.heap.size, 2, none⟩ = some (.slice A ns.length c) := (blk_cell hbx 2).trans rfl
  have HB := Aside0.mk hb0
  clear hr hb hb0 hbx e1
  by_cases h0 : er = 0
  · subst h0
    by_cases hk2 : L.length = ns.length
    · have hd : ((L.length : Int) != (ns.length : Int)) = false := by rw [bne_eq_false_iff_eq]; omega
      have HK := Aside0.mk hk2
      have hle : ns.length ≤ 100000 := by omega
      clear hk2
      go_wp2_with fail
      refine (proof_write 77 n i c ns A w1 hn hi (Kd.C_below HN.out HB.out) hle).mono ?_
      rintro e w2 ⟨v2, rfl, hr2, hb2⟩
      obtain ⟨A2, l2, c2, e2⟩ : ∃ A l c, v2 = .slice A l c := (by obtain ⟨A, c, h⟩ := Kd.R_slice hr2; exact ⟨A, _, c, h⟩)
      have HR2 := Aside0.mk hr2
      have HE2 := Aside0.mk e2
      have HB2 := Aside0.mk hb2
      clear hr2 hb2 e2
      go_wp2_with fail
      go_ret2
      have he := HE.out
      rw [if_neg (by simp), if_neg (fun h => h HK.out)] at he
      rw [he]
      exact ⟨_, rfl, Kd.R_lower HR2.out HB.out.size, HB.out.trans (HB2.out.mono HB.out.size)⟩
    · have hd : ((L.length : Int) != (ns.length : Int)) = true := by rw [bne_iff_ne]; omega
      have HK := Aside0.mk hk2
      clear hk2
      go_wp2
      go_ret2
      have he := HE.out
      rw [if_neg (by simp), if_pos HK.out] at he
      rw [he]
      exact ⟨_, rfl, Kd.R_nil _ _ _ _ _, HB.out⟩
  · have hd : (er != 0) = true := by rw [bne_iff_ne]; exact h0
    have HK := Aside0.mk h0
    clear h0
    go_wp2
    go_ret2
    have he := HE.out
    rw [if_pos HK.out] at he
    rw [he]
    exact ⟨_, rfl, Kd.R_nil _ _ _ _ _, HB.out⟩
end Go.Proofs.YtefnonlhepekdaaDoor.M

set_option linter.unusedVariables false
set_option linter.unusedSimpArgs false
namespace Go.Proofs.YtefnonlhepekdaaDoor.M
open Go.RowKit Go.Proofs.YtefnonlhepekdaaDoorW.PrintWords Go.Proofs.YtefnonlhepekdaaDoorW.PrintLast Go.Proofs.YtefnonlhepekdaaDoorW.PrintMore Go.Proofs.YtefnonlhepekdaaDoor.Leaf

theorem nodes_snoc (ns : List Hsh) (j : Nat) (h : j < ns.length) : nodesI (ns.take (j + 1)) = nodesI (ns.take j) ++ ns[j].b := by
  rw [List.take_add_one, List.getElem?_eq_getElem h]
  show nodesI (ns.take j ++ [ns[j]]) = _
  unfold nodesI
  rw [List.flatMap_append]
  simp only [List.flatMap_cons, List.flatMap_nil, List.append_nil]
theorem nodes_size : ∀ l : List Hsh, (nodesI l).length = 32 * l.length
  | [] => rfl
  | x :: l => by
    rw [show nodesI (x :: l) = x.b ++ nodesI l from rfl, List.length_append, nodes_size l, x.len, List.length_cons]
    omega
theorem hash_byte {w : World} {ad : Addr} {h : Hsh} (hh : HashAt w ad h) (j : Nat) (hj : j < 32) : w.cell? (ad.add j) = some (.int .u8 (h.b.getD j 0)) := by
  obtain ⟨b, o, rfl, hr⟩ := hh
  have hl := h.len
  rw [show (⟨b, o, none⟩ : Addr).add j = ⟨b, o + j, none⟩ from Go.WideShapes.add_plain _ _ _]
  refine hr j _ ?_
  unfold Hsh.cells
  rw [List.getElem?_map, List.getElem?_eq_getElem (by omega), List.getD_eq_getElem?_getD, List.getElem?_eq_getElem (by omega)]
  rfl
set_option maxHeartbeats 4000000 in
set_option maxRecDepth 100000 in
theorem put_calls (ns : List Hsh) (A : Option Addr) (c : Nat) (w W : World) (v : Value) (bs : List Int) (hb : Below w.heap.size w W) (hR : Kd.R (Kd.int .u8) 5 W w.heap.size (fun _ => True) v bs) (hA : kH.C w A ns.length ns) (hns : ns.length ≤ 100000) (hbs : bs.length ≤ 1000000) :
    Calls Tryd.prog 70 #[v, .slice A ns.length c] W fun e w' => ∃ v', e = .returned v' ∧ Kd.R (Kd.int .u8) 5 w' w.heap.size (fun _ => True) v' (bs ++ nodesI ns) ∧ Below w.heap.size w w' := by
  obtain ⟨A0, c0, e0⟩ := Kd.R_slice hR
  subst e0
  have HA := Aside0.mk hA
  have HR0 := Aside0.mk hR
  have HB0 := Aside0.mk hb
  clear hA hR hb
  go_enter Tryd.func70, Tryd.ntmps70
  go_wp2_with fail
  go_loopw [0, 5] (fun s k wr => ∃ (i l : Nat) (A1 : Option Addr) (c1 : Nat), i ≤ ns.length ∧ s = .slice A1 l c1 ∧ k = .int .i64 i ∧ Aside0 (Kd.R (Kd.int .u8) 5 wr w.heap.size (fun _ => True) (.slice A1 l c1) (bs ++ nodesI (ns.take i))) ∧ Aside0 (Below w.heap.size w wr)) (fun _ k _ => ns.length - (intOf k).toNat)
  case atStart => exact ⟨0, _, A0, c0, Nat.zero_le _, rfl, rfl, ⟨by rw [List.take_zero]; simp only [nodesI, List.flatMap_nil, List.append_nil]; exact HR0.out⟩, HB0⟩
  case round =>
    obtain ⟨i, l, A1, c1, hi, rfl, rfl, HR, HW⟩ := hrel
    clear HR0 HB0
    by_cases hlt : i < ns.length
    · have HSn := Aside0.mk (nodes_snoc ns i hlt)
      have HLen := Aside0.mk (nodes_size (ns.take i))
      obtain ⟨hv, hhv⟩ : ∃ h, h = ns[i] := ⟨_, rfl⟩
      rw [← hhv] at HSn
      go_wp2_with fail
      go_loopw [0, 6] (fun s k wr => ∃ (j l : Nat) (A1 : Option Addr) (c1 : Nat), j ≤ 32 ∧ s = .slice A1 l c1 ∧ k = .int .i64 j ∧ Aside0 (Kd.R (Kd.int .u8) 5 wr w.heap.size (fun _ => True) (.slice A1 l c1) (bs ++ nodesI (ns.take i) ++ hv.b.take j)) ∧ Aside0 (Below w.heap.size w wr)) (fun _ k _ => 32 - (intOf k).toNat)
      case atStart => exact ⟨0, _, A1, c1, Nat.zero_le _, rfl, rfl, ⟨by rw [List.take_zero, List.append_nil]; exact HR.out⟩, HW⟩
      case round =>
        obtain ⟨j, l2, A2, c2, hj, rfl, rfl, HR2, HW2⟩ := hrel
        by_cases hjt : j < 32
        · obtain ⟨ad, ea, hh⟩ := C_hash (Kd.C_below HA.out HW2.out) i hlt
          subst ea
          rw [← hhv] at hh
          have hx := hash_byte hh j hjt
          obtain ⟨x, hxv⟩ : ∃ x, x = hv.b.getD j 0 := ⟨_, rfl⟩
          rw [← hxv] at hx
          obtain ⟨P, hP⟩ : ∃ P, P = bs ++ nodesI (ns.take i) ++ hv.b.take j := ⟨_, rfl⟩
          have hl32 := hv.len
          have hPl : P.length ≤ 5000000 := by rw [hP]; simp only [List.length_append, List.length_take]; have := HLen.out; rw [List.length_take] at this; omega
          have HP := Aside0.mk hP
          rw [← hP] at HR2
          have hnext : bs ++ nodesI (ns.take i) ++ hv.b.take (j + 1) = P ++ [x] := by
            rw [hP, hxv, List.take_add_one, List.getElem?_eq_getElem (by omega), List.append_assoc (bs ++ nodesI (ns.take i)), List.getD_eq_getElem?_getD, List.getElem?_eq_getElem (by omega)]
            rfl
          have HNx := Aside0.mk hnext
          have hbase := HW2.out.size
          clear hh hxv hP hnext hl32
          go_wp2_with ((with_reducible refine gate_builtin (b := .append) (xs := #[.tmp 17, .tmp 24]) rfl ?_); at_builtin; go_loud (refine app_one (Kd.int .u8) w.heap.size rfl (.tmp 17) (.tmp 24) 22 5 (.int .u8 0) 1 rfl Tryd.underlying22 info5 rfl (by decide) (by omega) _ P x [.int .u8 x] rfl rfl rfl HR2.out hbase (by omega) ?_; intro A9 c9 w9 hr9 hf9 ha9; have HR9 := Aside0.mk hr9; have HF9 := Aside0.mk hf9; clear hr9 hf9 ha9))
          go_roundw
          case rel => exact ⟨j + 1, _, A9, c9, by omega, rfl, by go_num, ⟨by rw [HNx.out]; exact HR9.out⟩, ⟨HW2.out.trans (HF9.out.below hbase (fun k hk => Kd.R_base HR2.out k hk.symm))⟩⟩
          case measure => simp [intOf]; omega
        · have hj32 : j = 32 := by omega
          subst hj32
          have hend : bs ++ nodesI (ns.take i) ++ hv.b.take 32 = bs ++ nodesI (ns.take (i + 1)) := by
            rw [show hv.b.take 32 = hv.b from List.take_of_length_le (by rw [hv.len]; exact Nat.le_refl _), HSn.out, List.append_assoc]
          rw [hend] at HR2
          clear hend
          go_wp2_with fail
          go_roundw
          case rel => exact ⟨i + 1, l2, A2, c2, by omega, rfl, by go_num, HR2, HW2⟩
          case measure => simp [intOf]; omega
    · have hin : i = ns.length := by omega
      subst hin
      go_wp2_with fail
      go_ret
      exact ⟨_, rfl, by have := HR.out; rwa [List.take_length] at this, HW.out⟩
theorem short1_calls (x : Nat) (hx : x < 18446744073709551616) (w : World) :
    Calls Tryd.prog 69 #[.int .u64 x] w fun e w' => ∃ v, e = .returned v ∧ Kd.R (Kd.int .u8) 5 w' w.heap.size (fun _ => True) v (shortI x) ∧ Below w.heap.size w w' := by
  obtain ⟨k, hk⟩ := (short1_val x hx).rounds
  exact massifref1_Short.calls k x _ w hk
/-- One's own list has grown: a box of another kind is as it was. -/
theorem grown_box {w W w1 : World} {e : Nat} {v : Value} {xs : List Int} {cs : Array Value} {t : Nat} (hr : (Kd.int .u8).R e W w.heap.size (fun _ => True) v xs) (hx : W.heap[w.heap.size]? = some (.cells cs t (0, 0))) (ht : e ≠ t) (hb : Below w.heap.size w W) (hf : Frm (fun k => some k = v.ownBlock) W w1) :
    w1.heap[w.heap.size]? = some (.cells cs t (0, 0)) ∧ Below w.heap.size w w1 :=
  ⟨(hf.block _ (blk_lt hx) (Kd.R_ne hr hx ht)).trans hx, hb.trans (hf.below hb.size (fun k hk => Kd.R_base hr k hk.symm))⟩
end Go.Proofs.YtefnonlhepekdaaDoor.M

set_option linter.unusedVariables false
set_option linter.unusedSimpArgs false
namespace Go.Proofs.YtefnonlhepekdaaDoor.M
open Go.RowKit Go.Proofs.YtefnonlhepekdaaDoorW.PrintWords Go.Proofs.YtefnonlhepekdaaDoorW.PrintLast Go.Proofs.YtefnonlhepekdaaDoorW.PrintMore Go.Proofs.YtefnonlhepekdaaDoor.Leaf

set_option maxHeartbeats 1000000 in
set_option maxRecDepth 100000 in
theorem span_calls (a b : Nat) (w : World) (ha : a < 18446744073709551616) (hb : b ≤ 4611686018427387904) (hT : DB w) :
    Calls Tryd.prog 43 #[.int .u64 a, .int .u64 b] w fun e w' => ∃ v, e = .returned v ∧ kS.R 74 w' w.heap.size (fun _ => True) v (spanN a b) ∧ Below w.heap.size w w' := by
  have HT := Aside0.mk hT
  have hlen := span_len a b hb
  have HL := Aside0.mk hlen
  clear hT hlen
  have hd : ¬ ((b : Int) > 4611686018427387904) := by omega
  go_enter Tryd.func43, Tryd.ntmps43
  go_wp2_with fail
  go_loopw [0, 5] (fun q s wr => ∃ (c : Nat) (P : List (Nat × Nat)), c < 18446744073709551616 ∧ q = .int .u64 c ∧ Aside0 (P ++ spanN c b = spanN a b) ∧ Aside0 (kS.R 74 wr w.heap.size (fun _ => True) s P) ∧ Aside0 (Below w.heap.size w wr)) (fun q _ _ => b - (intOf q).toNat)
  case atStart => exact ⟨a, [], ha, rfl, ⟨rfl⟩, ⟨Kd.R_nil _ _ _ _ _⟩, ⟨Below.refl _ _⟩⟩
  case round =>
    obtain ⟨c, P, hc, rfl, HP, HS, HB⟩ := hrel
    by_cases hlt : c < b
    · obtain ⟨k1, k2, k3⟩ := h_facts hlt hb
      have hstep := span_step hlt hb
      have hPl : P.length ≤ 127 := by have := HL.out; rw [← HP.out, List.length_append] at this; omega
      have hsub : IntKind.u64.wrap ((b : Int) - (c : Int)) = ((b - c : Nat) : Int) := by rw [IntKind.wrap_u64]; omega
      have hp := p2_pos (hN c b)
      have hmin : min (loN c : Int) ((Lib.bitLen (b - c) - 1 : Nat) : Int) = (hN c b : Int) := by unfold hN; omega
      have hu8 : IntKind.u8.wrap (hN c b : Int) = (hN c b : Int) := by rw [IntKind.wrap_u8]; omega
      have hshr := shr_nat c (hN c b) (by omega)
      have hshl : shl .u64 1 (hN c b : Int) = ((2 ^ hN c b : Nat) : Int) := by have := shl_nat 1 (hN c b) (by omega) (by omega); rwa [Nat.one_mul] at this
      have hadd : IntKind.u64.wrap ((c : Int) + ((2 ^ hN c b : Nat) : Int)) = ((c + 2 ^ hN c b : Nat) : Int) := by rw [IntKind.wrap_u64]; omega
      have hne : b - c ≠ 0 := by omega
      have hble : b - c ≤ 4611686018427387904 := by omega
      obtain ⟨dd, hdd⟩ : ∃ d, d = b - c := ⟨_, rfl⟩
      rw [← hdd] at hsub hne hble hmin
      have HHI := Aside0.mk (high_calls dd hne hble)
      have HLO := Aside0.mk (low_calls c hc)
      have HST := Aside0.mk hstep
      have HK := Aside0.mk (show c + 2 ^ hN c b ≤ b by omega)
      have hs5 := HB.out.size
      have HHC := Aside0.mk (show ((hN c b : Nat) : Int) = (hN c b : Int) from rfl)
      clear hstep hne hble hdd k2 k3
      generalize Lib.bitLen dd - 1 = uu at *
      generalize hN c b = hh at *
      generalize loN c = lo at *
      obtain ⟨qq, hqq⟩ : ∃ q, q = c / 2 ^ hh := ⟨_, rfl⟩
      obtain ⟨pp, hpp⟩ : ∃ p, p = 2 ^ hh := ⟨_, rfl⟩
      obtain ⟨c2, hc2⟩ : ∃ z, z = c + pp := ⟨_, rfl⟩
      have hq2 : (c : Int) / 2 ^ hh = (qq : Int) := by rw [hqq]; push_cast; rfl
      have hp2 : IntKind.u64.wrap ((2 : Int) ^ hh) = (pp : Int) := by
        have h2 : ((2 : Int) ^ hh) = (pp : Int) := by rw [hpp]; push_cast; rfl
        have hk := HK.out
        rw [← hpp] at hk
        rw [h2, IntKind.wrap_u64]
        omega
      rw [← hqq] at hshr HST
      rw [← hpp] at hshl hadd HK hp HST
      rw [← hc2] at hadd HK HST
      have HC2 := Aside0.mk hc2
      clear hqq hpp hc2
      obtain ⟨As, ms, cs, e9⟩ : ∃ A m c, u5 = .slice A m c := by obtain ⟨A, c, h⟩ := Kd.R_slice HS.out; exact ⟨A, _, c, h⟩
      subst e9
      go_wp2_with fail
      refine (HLO.out _ (HT.out.below HB.out)).mono ?_
      rintro e w1 ⟨rfl, rfl⟩
      go_wp2_with fail
      refine (HHI.out _).mono ?_
      rintro e w2 ⟨rfl, hd2⟩
      have hs7 := hd2.below.size
      have HR2 := Aside0.mk (Kd.R_below HS.out hd2.below)
      have HB2 := Aside0.mk (blt HB.out hd2.below)
      have hbase : w.heap.size ≤ w2.heap.size := by omega
      clear hd2 HS HB hs5 hs7
      go_wp2_with ((with_reducible refine gate_builtin (b := .append) (xs := #[.tmp 19, .tmp 26]) rfl ?_); at_builtin; go_loud (refine app_oneN kS w.heap.size rfl (.tmp 19) (.tmp 26) 70 74 (.agg #[.int .u8 0, .int .u64 0]) 16 rfl Tryd.underlying70 infoS rfl (by decide) (by decide) (.slice As ms cs) P (hh, qq) (spCells (hh, qq)) rfl rfl rfl HR2.out hbase (by omega) ?_; intro A9 n9 c9 w9 hr9 hf9 ha9; have HR9 := Aside0.mk hr9; have HF9 := Aside0.mk hf9; have HA9 := Aside0.mk ha9; clear hr9 hf9 ha9))
      go_roundw
      case rel => exact ⟨c2, P ++ [(hh, qq)], by have := HK.out; omega, by go_num, ⟨by rw [List.append_assoc, List.singleton_append, ← HST.out]; exact HP.out⟩, HR9, ⟨HB2.out.trans (HF9.out.below hbase (fun k hk => Kd.R_base HR2.out k hk.symm))⟩⟩
      case measure => have := HC2.out; have := HK.out; simp [intOf]; omega
    · have hcb : b ≤ c := by omega
      have hPf := HP.out
      rw [span_stop hcb, List.append_nil] at hPf
      have HPf := Aside0.mk hPf
      clear hPf hcb
      obtain ⟨As, ms, cs, e9⟩ : ∃ A m c, u5 = .slice A m c := by obtain ⟨A, c, h⟩ := Kd.R_slice HS.out; exact ⟨A, _, c, h⟩
      subst e9
      go_wp2_with fail
      go_ret
      exact ⟨_, rfl, HPf.out ▸ HS.out, HB.out⟩
end Go.Proofs.YtefnonlhepekdaaDoor.M

set_option linter.unusedVariables false
set_option linter.unusedSimpArgs false
namespace Go.Proofs.YtefnonlhepekdaaDoor.M
open Go.RowKit Go.Proofs.YtefnonlhepekdaaDoorW.PrintWords Go.Proofs.YtefnonlhepekdaaDoorW.PrintLast Go.Proofs.YtefnonlhepekdaaDoorW.PrintMore Go.Proofs.YtefnonlhepekdaaDoor.Leaf

theorem h_go {a b t : Nat} (hab : a < b) (hb : b ≤ 4611686018427387904) (ht : t < hN a b) : t < 62 ∧ a % 2 ^ (t + 1) = 0 ∧ 2 ^ (t + 1) ≤ b - a := by
  obtain ⟨h1, h2, h3⟩ := h_facts hab hb
  exact ⟨by omega, Nat.mod_eq_zero_of_dvd (Nat.dvd_trans (Nat.pow_dvd_pow 2 ht) h3), Nat.le_trans (Nat.pow_le_pow_right (by omega) ht) h2⟩
theorem h_stop {a b : Nat} (hab : a < b) (hb : b ≤ 4611686018427387904) (h0 : a % 2 ^ (hN a b + 1) = 0) : b - a < 2 ^ (hN a b + 1) := by
  have hl := len_facts (x := b - a) (by omega) (by omega)
  rcases Nat.lt_or_ge (loN a) (Lib.bitLen (b - a) - 1) with h | h
  · have e : hN a b = loN a := Nat.min_eq_left (by omega)
    rw [e] at h0
    by_cases hz : a = 0
    · subst hz
      have : loN 0 = 64 := rfl
      omega
    · exact absurd (Nat.dvd_of_mod_eq_zero h0) (lo_not hz (by omega) (by omega))
  · have e : hN a b = Lib.bitLen (b - a) - 1 := Nat.min_eq_right h
    rw [e, show Lib.bitLen (b - a) - 1 + 1 = Lib.bitLen (b - a) by omega]
    exact hl.2.2.1
theorem power_calls (h : Nat) (hh : h ≤ 63) (w : World) :
    Calls Tryd.prog 100 #[.int .i64 h] w fun e w' => e = .returned (.int .u64 ((2 ^ h : Nat) : Int)) ∧ Drawn0 w w' := by
  obtain ⟨k, hk⟩ := (power_val h hh).rounds
  exact massifref3_Power.calls k _ _ w hk

set_option maxHeartbeats 1000000 in
set_option maxRecDepth 100000 in
theorem span4_calls (a b : Nat) (w : World) (ha : a < 18446744073709551616) (hb : b ≤ 4611686018427387904) :
    Calls Tryd.prog 61 #[.int .u64 a, .int .u64 b] w fun e w' => ∃ v, e = .returned v ∧ kS.R 74 w' w.heap.size (fun _ => True) v (spanN a b) ∧ Below w.heap.size w w' := by
  have hlen := span_len a b hb
  have HL := Aside0.mk hlen
  clear hlen
  have hd : ¬ ((b : Int) > 4611686018427387904) := by omega
  by_cases hab : a < b
  · have hge : ¬ ((a : Int) ≥ (b : Int)) := by omega
    go_enter Tryd.func61, Tryd.ntmps61
    go_wp2_with fail
    clear hge
    go_loopw [0, 5] (fun q s wr => ∃ (c : Nat) (P : List (Nat × Nat)), c < 18446744073709551616 ∧ q = .int .u64 c ∧ Aside0 (P ++ spanN c b = spanN a b) ∧ Aside0 (kS.R 74 wr w.heap.size (fun _ => True) s P) ∧ Aside0 (Below w.heap.size w wr)) (fun q _ _ => b - (intOf q).toNat)
    case atStart => exact ⟨a, [], ha, rfl, ⟨rfl⟩, ⟨Kd.R_nil _ _ _ _ _⟩, ⟨Below.refl _ _⟩⟩
    case round =>
      obtain ⟨c, P, hc, rfl, HP, HS, HB⟩ := hrel
      by_cases hlt : c < b
      · obtain ⟨k1, k2, k3⟩ := h_facts hlt hb
        have hstep := span_step hlt hb
        have hPl : P.length ≤ 127 := by have := HL.out; rw [← HP.out, List.length_append] at this; omega
        have hgo : ∀ t, t < hN c b → t < 62 ∧ c % 2 ^ (t + 1) = 0 ∧ 2 ^ (t + 1) ≤ b - c := fun t ht => h_go hlt hb ht
        have hst : c % 2 ^ (hN c b + 1) = 0 → b - c < 2 ^ (hN c b + 1) := h_stop hlt hb
        have hsub : IntKind.u64.wrap ((b : Int) - (c : Int)) = ((b - c : Nat) : Int) := by rw [IntKind.wrap_u64]; omega
        obtain ⟨dd, hdd⟩ : ∃ d, d = b - c := ⟨_, rfl⟩
        rw [← hdd] at hsub
        have HGO := Aside0.mk hgo
        have HST := Aside0.mk hstep
        have HSP := Aside0.mk hst
        have HDD := Aside0.mk hdd
        have HK := Aside0.mk (show c + 2 ^ hN c b ≤ b by omega)
        clear hgo hstep hst hdd k2 k3
        generalize hN c b = hh at *
        obtain ⟨As, ms, cs, e9⟩ : ∃ A m c, u5 = .slice A m c := by obtain ⟨A, c, h⟩ := Kd.R_slice HS.out; exact ⟨A, _, c, h⟩
        subst e9
        go_upto_block 2 with (fail)
        go_cut [6] from 15 to 52 (fun q wc => q = .int .i64 hh ∧ Aside0 (Below wr.heap.size wr wc))
        case first =>
          go_wp2_with fail
          go_loopw [6] (fun q w3 => ∃ t : Nat, t ≤ hh ∧ q = .int .i64 t ∧ Aside0 (Below wr.heap.size wr w3)) (fun q _ => hh - (intOf q).toNat)
          case atStart => exact ⟨0, Nat.zero_le _, rfl, ⟨Below.refl _ _⟩⟩
          case round =>
            obtain ⟨t, ht, rfl, HB3⟩ := hrel
            by_cases hth : t < hh
            · obtain ⟨g1, g2, g3⟩ := HGO.out t hth
              have hpw : ∀ w, Calls Tryd.prog 100 #[.int .i64 ((t : Int) + 1)] w fun e w' => e = .returned (.int .u64 ((2 ^ (t + 1) : Nat) : Int)) ∧ Drawn0 w w' := power_calls (t + 1) (Nat.le_trans g1 (by decide))
              have hp := p2_pos (t + 1)
              have e1 : wrap64 ((t : Int) + 1) = ((t + 1 : Nat) : Int) := by rw [i64_of _ (by omega) (by omega)]; omega
              rw [← HDD.out] at g3
              have hpl := p2_le (show t + 1 ≤ 63 from Nat.le_trans g1 (by decide))
              generalize 2 ^ (t + 1) = pp at *
              have HPW := Aside0.mk hpw
              clear hpw
              have hmod : (c : Int) % (pp : Int) = 0 := by omega
              go_wp2_with fail
              refine (HPW.out _).mono ?_
              rintro e w4 ⟨rfl, hd4⟩
              have HB4 := Aside0.mk (blt HB3.out hd4.below)
              clear hd4
              go_wp2_with fail
              refine (HPW.out _).mono ?_
              rintro e w5 ⟨rfl, hd5⟩
              have HB5 := Aside0.mk (blt HB4.out hd5.below)
              clear hd5
              go_wp2_with fail
              go_roundw
              case rel => exact ⟨t + 1, by omega, by go_num, HB5⟩
              case measure => simp [intOf]; omega
            · obtain rfl : t = hh := by omega
              by_cases h62 : t < 62
              · have hpw : ∀ w, Calls Tryd.prog 100 #[.int .i64 ((t : Int) + 1)] w fun e w' => e = .returned (.int .u64 ((2 ^ (t + 1) : Nat) : Int)) ∧ Drawn0 w w' := power_calls (t + 1) (by omega)
                have hp := p2_pos (t + 1)
                have e1 : wrap64 ((t : Int) + 1) = ((t + 1 : Nat) : Int) := by rw [i64_of _ (by omega) (by omega)]; omega
                have hsp := HSP.out
                rw [← HDD.out] at hsp
                generalize 2 ^ (t + 1) = pp at *
                have HPW := Aside0.mk hpw
                clear hpw
                by_cases hm : c % pp = 0
                · have hmod : (c : Int) % (pp : Int) = 0 := by omega
                  have hle := hsp hm
                  clear hsp
                  go_wp2_with fail
                  refine (HPW.out _).mono ?_
                  rintro e w4 ⟨rfl, hd4⟩
                  have HB4 := Aside0.mk (blt HB3.out hd4.below)
                  clear hd4
                  go_wp2_with fail
                  refine (HPW.out _).mono ?_
                  rintro e w5 ⟨rfl, hd5⟩
                  have HB5 := Aside0.mk (blt HB4.out hd5.below)
                  clear hd5
                  go_wp2_with fail
                  go_meet
                  case rel => exact ⟨rfl, HB5⟩
                · have hmod : ¬ ((c : Int) % (pp : Int) = 0) := by omega
                  clear hsp
                  go_wp2_with fail
                  refine (HPW.out _).mono ?_
                  rintro e w4 ⟨rfl, hd4⟩
                  have HB4 := Aside0.mk (blt HB3.out hd4.below)
                  clear hd4
                  go_wp2_with fail
                  go_meet
                  case rel => exact ⟨rfl, HB4⟩
              · have h62' : ¬ ((t : Int) < 62) := by omega
                go_wp2_with fail
                go_meet
                case rel => exact ⟨rfl, HB3⟩
        case rest =>
          obtain ⟨rfl, HBc⟩ := hcut
          have hpw : ∀ w, Calls Tryd.prog 100 #[.int .i64 (hh : Int)] w fun e w' => e = .returned (.int .u64 ((2 ^ hh : Nat) : Int)) ∧ Drawn0 w w' := power_calls hh (by omega)
          have hp := p2_pos hh
          obtain ⟨qq, hqq⟩ : ∃ q, q = c / 2 ^ hh := ⟨_, rfl⟩
          obtain ⟨pp, hpp⟩ : ∃ p, p = 2 ^ hh := ⟨_, rfl⟩
          obtain ⟨c2, hc2⟩ : ∃ z, z = c + pp := ⟨_, rfl⟩
          have hst := HST.out
          have hk := HK.out
          rw [← hqq] at hst
          rw [← hpp] at hst hk hpw hp hqq
          rw [← hc2] at hst hk
          have hq2 : (c : Int) / (pp : Int) = (qq : Int) := by rw [hqq]; push_cast; rfl
          have hadd : IntKind.u64.wrap ((c : Int) + (pp : Int)) = (c2 : Int) := by rw [IntKind.wrap_u64]; omega
          have hqc : qq ≤ c := by rw [hqq]; exact Nat.div_le_self _ _
          have hwq : IntKind.u64.wrap (qq : Int) = (qq : Int) := w64_nat qq (Nat.lt_of_le_of_lt hqc hc)
          have hu8 : IntKind.u8.wrap (hh : Int) = (hh : Int) := by rw [IntKind.wrap_u8]; omega
          have HPW := Aside0.mk hpw
          have HST2 := Aside0.mk hst
          have HK2 := Aside0.mk hk
          have HC2 := Aside0.mk hc2
          have HR2 := Aside0.mk (Kd.R_below HS.out HBc.out)
          have HB2 := Aside0.mk (blt HB.out HBc.out)
          clear hpw hst hk hc2 hqq hpp HST HK HGO HSP HDD hsub
          go_wp2_with fail
          refine (HPW.out _).mono ?_
          rintro e w4 ⟨rfl, hd4⟩
          have HR4 := Aside0.mk (Kd.R_below HR2.out hd4.below)
          have HB4 := Aside0.mk (blt HB2.out hd4.below)
          have hbase : w.heap.size ≤ w4.heap.size := HB4.out.size
          clear hd4 HS HR2 HB2
          go_wp2_with ((with_reducible refine gate_builtin (b := .append) (xs := #[.tmp 39, .tmp 47]) rfl ?_); at_builtin; go_loud (refine app_oneN kS w.heap.size rfl (.tmp 39) (.tmp 47) 70 74 (.agg #[.int .u8 0, .int .u64 0]) 16 rfl Tryd.underlying70 infoS rfl (by decide) (by decide) (.slice As ms cs) P (hh, qq) (spCells (hh, qq)) rfl rfl rfl HR4.out hbase (by omega) ?_; intro A9 n9 c9 w9 hr9 hf9 ha9; have HR9 := Aside0.mk hr9; have HF9 := Aside0.mk hf9; have HA9 := Aside0.mk ha9; clear hr9 hf9 ha9))
          refine (HPW.out _).mono ?_
          rintro e w6 ⟨rfl, hd6⟩
          have HR6 := Aside0.mk (Kd.R_below HR9.out hd6.below)
          have HB6 := Aside0.mk (blt (HB4.out.trans (HF9.out.below hbase (fun k hk => Kd.R_base HR4.out k hk.symm))) hd6.below)
          clear hd6
          go_wp2_with fail
          go_roundw
          case rel => exact ⟨c2, P ++ [(hh, qq)], by have := HK2.out; omega, by go_num, ⟨by rw [List.append_assoc, List.singleton_append, ← HST2.out]; exact HP.out⟩, HR6, HB6⟩
          case measure => have := HC2.out; have := HK2.out; simp [intOf]; omega
      · have hcb : b ≤ c := by omega
        have hPf := HP.out
        rw [span_stop hcb, List.append_nil] at hPf
        have HPf := Aside0.mk hPf
        clear hPf hcb
        obtain ⟨As, ms, cs, e9⟩ : ∃ A m c, u5 = .slice A m c := by obtain ⟨A, c, h⟩ := Kd.R_slice HS.out; exact ⟨A, _, c, h⟩
        subst e9
        go_wp2_with fail
        go_ret
        exact ⟨_, rfl, HPf.out ▸ HS.out, HB.out⟩
  · have hge : (a : Int) ≥ (b : Int) := by omega
    go_enter Tryd.func61, Tryd.ntmps61
    go_wp2_with fail
    go_ret
    exact ⟨_, rfl, by rw [span_stop (by omega)]; exact Kd.R_nil _ _ _ _ _, Below.refl _ _⟩
end Go.Proofs.YtefnonlhepekdaaDoor.M

set_option linter.unusedVariables false
set_option linter.unusedSimpArgs false
namespace Go.Proofs.YtefnonlhepekdaaDoor.M
open Go.RowKit Go.Proofs.YtefnonlhepekdaaDoorW.PrintWords Go.Proofs.YtefnonlhepekdaaDoorW.PrintLast Go.Proofs.YtefnonlhepekdaaDoorW.PrintMore Go.Proofs.YtefnonlhepekdaaDoor.Leaf

theorem at_spot {w : World} {A : Option Addr} {n : Nat} {xs : List (Nat × Nat)} (h : kS.C w A n xs) (j : Nat) (hj : j < n) : ∃ ad : Addr, A = some ad ∧ w.cell? (ad.add (j * 2)) = some (.int .u8 ((xs.getD j (0, 0)).1 : Int)) ∧ w.cell? ⟨(ad.add (j * 2)).block, (ad.add (j * 2)).off + 1, none⟩ = some (.int .u64 ((xs.getD j (0, 0)).2 : Int)) := by
  obtain ⟨ad, c, e, _, hK, hc0⟩ := Kd.C_get h (0, 0) (j : Int) (by omega) (by omega)
  have hc : ∀ k u, c[k]? = some u → w.cell? (ad.add (j * 2 + k)) = some u := hc0
  have hK : c = spCells (xs.getD j (0, 0)) := hK
  subst hK
  exact ⟨ad, e, hc 0 _ rfl, by rw [← add_field _ _ 1 (by omega)]; exact hc 1 _ rfl⟩
theorem place_calls (h i : Nat) (w : World) (hi : (i + 1) * 2 ^ h ≤ 4611686018427387904) :
    Calls Tryd.prog 67 #[.agg #[.int .u8 h, .int .u64 i]] w fun e w' => e = .returned (.tuple #[.int .u64 ((placeN h i : Nat) : Int), .bool true]) ∧ Below w.heap.size w w' :=
  pos_Place.calls _ _ _ _ w (place_val h i hi)
theorem peaks_calls (n : Nat) (w : World) (hn : n ≤ 4611686018427387904) :
    Calls Tryd.prog 66 #[.int .u64 n] w fun e w' => ∃ v, e = .returned v ∧ Kd.R (Kd.int .u64) 30 w' w.heap.size (fun _ => True) v (placesOf (topsN n)) ∧ Below w.heap.size w w' := by
  obtain ⟨k, hk⟩ := (peaks_val n hn).rounds
  exact pos_Peaks.calls k n _ w hk
theorem pref_none (m n : Nat) (w : World) (h : 4611686018427387904 < n ∨ n < m) :
    Calls Tryd.prog 19 #[.int .u64 m, .int .u64 n] w fun e w' => e = .returned (.tuple #[.slice none 0 0, .int .i64 30]) ∧ Below w.heap.size w w' := by
  by_cases hn : 4611686018427387904 < n
  · have hd : ((n : Int) > 4611686018427387904) := by omega
    clear h
    go_enter Tryd.func19, Tryd.ntmps19
    go_wp2
    go_ret2
    exact ⟨rfl, Below.refl _ _⟩
  · have hd : ¬ ((n : Int) > 4611686018427387904) := by omega
    have hm : (m : Int) > (n : Int) := by omega
    clear h
    go_enter Tryd.func19, Tryd.ntmps19
    go_wp2
    go_ret2
    exact ⟨rfl, Below.refl _ _⟩
set_option maxHeartbeats 1000000 in
set_option maxRecDepth 100000 in
theorem pref_some (m n : Nat) (w : World) (hmn : m ≤ n) (hn : n ≤ 4611686018427387904) (hT : DB w) :
    Calls Tryd.prog 19 #[.int .u64 m, .int .u64 n] w fun e w' => ∃ v, e = .returned (.tuple #[v, .int .i64 0]) ∧ Kd.R (Kd.int .u64) 30 w' w.heap.size (fun _ => True) v (placesOf (prefN m n)) ∧ Below w.heap.size w w' := by
  have hd : ¬ ((n : Int) > 4611686018427387904) := by omega
  have hd2 : ¬ ((m : Int) > (n : Int)) := by omega
  have HT := Aside0.mk hT
  have HPK := Aside0.mk (fun W => peaks_calls m W (Nat.le_trans hmn hn))
  have HSP := Aside0.mk (fun W => span_calls m n W (by omega) hn)
  have hL1 : (placesOf (topsN m)).length ≤ 63 := by simp only [placesOf, List.length_map]; exact topsF_len 63 m
  have HL := Aside0.mk hL1
  have HS1 := Aside0.mk (span_len m n hn)
  have HF := Aside0.mk (fun s hs => Nat.le_trans (span_fit n hn (n - m) m (Nat.le_refl _) s hs).1 hn)
  have HN := Aside0.mk (show placesOf (prefN m n) = placesOf (topsN m) ++ placesOf (spanN m n) by unfold prefN placesOf; rw [List.map_append])
  clear hT hmn hn hL1
  generalize spanN m n = L at *
  generalize placesOf (topsN m) = P0 at *
  go_enter Tryd.func19, Tryd.ntmps19
  go_wp2_with fail
  refine (HPK.out _).mono ?_
  rintro e w1 ⟨v1, rfl, hr1, hb1⟩
  have HR1 := Aside0.mk hr1
  have HB1 := Aside0.mk hb1
  clear hr1 hb1
  obtain ⟨A1, n1, c1, e9⟩ : ∃ A m c, v1 = .slice A m c := by obtain ⟨A, c, h⟩ := Kd.R_slice HR1.out; exact ⟨A, _, c, h⟩
  subst e9
  go_wp2_with fail
  refine (HSP.out _ (HT.out.below HB1.out)).mono ?_
  rintro e w2 ⟨v2, rfl, hr2, hb2⟩
  obtain ⟨A2, c2, e2⟩ := Kd.R_slice hr2
  subst e2
  have hbA := HB1.out.size
  have HC2 := Aside0.mk (Kd.R_lower hr2 hbA)
  have HR2 := Aside0.mk (Kd.R_below HR1.out hb2)
  have HB2 := Aside0.mk (blt HB1.out hb2)
  clear hr2 hb2 HR1 HSP HPK HT HB1 hbA
  go_wp2_with fail
  go_loopw [6, 24] (fun s q wr => ∃ j : Nat, j ≤ L.length ∧ q = .int .i64 j ∧ Aside0 (Kd.R (Kd.int .u64) 30 wr w.heap.size (fun _ => True) s (P0 ++ placesOf (L.take j))) ∧ Aside0 (kS.R 74 wr w.heap.size (fun _ => True) (.slice A2 L.length c2) L) ∧ Aside0 (Below w.heap.size w wr)) (fun _ q _ => L.length - (intOf q).toNat)
  case atStart => exact ⟨0, Nat.zero_le _, rfl, ⟨by rw [List.take_zero, show placesOf [] = [] from rfl, List.append_nil]; exact HR2.out⟩, HC2, HB2⟩
  case round =>
    obtain ⟨j, hj, rfl, HS, HC, HB⟩ := hrel
    have hL127 := HS1.out
    clear HC2 HB2 HR2
    obtain ⟨As, ms, cs, e9⟩ : ∃ A m c, u6 = .slice A m c := by obtain ⟨A, c, h⟩ := Kd.R_slice HS.out; exact ⟨A, _, c, h⟩
    subst e9
    by_cases hlt : j < L.length
    · obtain ⟨ad, ea, hx, hy⟩ := at_spot (R_C HC.out) j hlt
      subst ea
      have hfit := HF.out (L[j]) (List.getElem_mem hlt)
      have hcat : placesOf (L.take (j + 1)) = placesOf (L.take j) ++ [((placeN (L[j]).1 (L[j]).2 : Nat) : Int)] := by
        unfold placesOf
        rw [List.take_add_one, List.getElem?_eq_getElem hlt, List.map_append]
        rfl
      rw [List.getD_eq_getElem?_getD, List.getElem?_eq_getElem hlt] at hx hy
      simp only [Option.getD_some] at hx hy
      obtain ⟨sp, hsp⟩ : ∃ s, s = L[j] := ⟨_, rfl⟩
      rw [← hsp] at hfit hcat hx hy
      clear hsp
      obtain ⟨hh, ii⟩ := sp
      simp only at hfit hcat hx hy
      have HPL := Aside0.mk (fun W => place_calls hh ii W hfit)
      have HCat := Aside0.mk hcat
      have hlen : (placesOf (L.take j)).length ≤ 127 := by
        have := HS1.out
        simp only [placesOf, List.length_map, List.length_take]
        omega
      have hl0 := HL.out
      clear hfit hcat
      generalize placeN hh ii = pl at *
      obtain ⟨P1, hP1⟩ : ∃ P, P = P0 ++ placesOf (L.take j) := ⟨_, rfl⟩
      have hP1l : P1.length ≤ 190 := by rw [hP1, List.length_append]; omega
      rw [← hP1] at HS
      have HP1 := Aside0.mk hP1
      clear hP1 hlen hl0
      go_wp2_with fail
      refine (HPL.out _).mono ?_
      rintro e w4 ⟨rfl, hb4⟩
      have HB4 := Aside0.mk ((bl_new wr _).trans (hb4.mono (by simp)))
      have HR4 := Aside0.mk (Kd.R_below HS.out HB4.out)
      have HBW := Aside0.mk (blt HB.out HB4.out)
      have HC4 := Aside0.mk (Kd.R_below HC.out HB4.out)
      have HAP := Aside0.mk (show ∀ k, (Value.slice As ms cs).ownBlock = some k → (Value.slice (some ad) L.length c2).ownBlock = some k → False from fun k h1 h2 => own_types HR4.out HC4.out (by decide) h1 h2)
      have hbase : w.heap.size ≤ w4.heap.size := HBW.out.size
      clear hb4 HS HC
      go_wp2_with ((with_reducible refine gate_builtin (b := .append) (xs := #[.tmp 33, .tmp 35]) rfl ?_); at_builtin; go_loud (refine app_oneN (Kd.int .u64) w.heap.size rfl (.tmp 33) (.tmp 35) 31 30 (.int .u64 0) 8 rfl Tryd.underlying31 info30 rfl (by decide) (by omega) (.slice As ms cs) P1 (pl : Int) [.int .u64 (pl : Int)] rfl rfl rfl HR4.out hbase (by omega) ?_; intro A9 n9 c9 w9 hr9 hf9 ha9; have HR9 := Aside0.mk hr9; have HF9 := Aside0.mk hf9; have HA9 := Aside0.mk ha9; clear hr9 hf9 ha9))
      go_roundw
      case rel => exact ⟨j + 1, by omega, by go_num, ⟨by rw [HCat.out, ← List.append_assoc, ← HP1.out]; exact HR9.out⟩, ⟨R_frm flat_kS HC4.out HF9.out (fun k hk hs => HAP.out k hs.symm hk)⟩, ⟨HBW.out.trans (HF9.out.below hbase (fun k hk => Kd.R_base HR4.out k hk.symm))⟩⟩
      case measure => simp [intOf]; omega
    · have hjl : j = L.length := by omega
      subst hjl
      have hS := HS.out
      rw [List.take_length, ← HN.out] at hS
      have HS2 := Aside0.mk hS
      clear hS HS
      go_wp2_with fail
      go_ret2
      exact ⟨_, rfl, HS2.out, HB.out⟩
end Go.Proofs.YtefnonlhepekdaaDoor.M

set_option linter.unusedVariables false
set_option linter.unusedSimpArgs false
namespace Go.Proofs.YtefnonlhepekdaaDoor.M
open Go.RowKit Go.Proofs.YtefnonlhepekdaaDoorW.PrintWords Go.Proofs.YtefnonlhepekdaaDoorW.PrintLast Go.Proofs.YtefnonlhepekdaaDoorW.PrintMore Go.Proofs.YtefnonlhepekdaaDoor.Leaf

theorem place3_calls (h i : Nat) (w : World) (hi : (i + 1) * 2 ^ h ≤ 4611686018427387904) :
    Calls Tryd.prog 62 #[.agg #[.int .u8 h, .int .u64 i]] w fun e w' => e = .returned (.tuple #[.int .u64 ((placeN h i : Nat) : Int), .bool true]) ∧ Below w.heap.size w w' := by
  obtain ⟨k, hk⟩ := (place3_val h i hi).rounds
  exact massifref3_Place.calls k _ _ _ _ w hk
theorem peaks3_calls (n : Nat) (w : World) (hn : n ≤ 4611686018427387904) :
    Calls Tryd.prog 60 #[.int .u64 n] w fun e w' => ∃ v, e = .returned v ∧ Kd.R (Kd.int .u64) 30 w' w.heap.size (fun _ => True) v (placesOf (topsN n)) ∧ Below w.heap.size w w' := by
  obtain ⟨k, hk⟩ := (peaks3_val n hn).rounds
  exact massifref3_Peaks.calls k n _ w hk
theorem pref7_none (m n : Nat) (w : World) (h : 4611686018427387904 < n ∨ n < m) :
    Calls Tryd.prog 17 #[.int .u64 m, .int .u64 n] w fun e w' => e = .returned (.tuple #[.slice none 0 0, .int .i64 30]) ∧ Below w.heap.size w w' := by
  by_cases hn : 4611686018427387904 < n
  · have hd : ((n : Int) > 4611686018427387904) := by omega
    clear h
    go_enter Tryd.func17, Tryd.ntmps17
    go_wp2
    go_ret2
    exact ⟨rfl, Below.refl _ _⟩
  · have hd : ¬ ((n : Int) > 4611686018427387904) := by omega
    have hm : (m : Int) > (n : Int) := by omega
    clear h
    go_enter Tryd.func17, Tryd.ntmps17
    go_wp2
    go_ret2
    exact ⟨rfl, Below.refl _ _⟩
set_option maxHeartbeats 1000000 in
set_option maxRecDepth 100000 in
theorem pref7_some (m n : Nat) (w : World) (hmn : m ≤ n) (hn : n ≤ 4611686018427387904) :
    Calls Tryd.prog 17 #[.int .u64 m, .int .u64 n] w fun e w' => ∃ v, e = .returned (.tuple #[v, .int .i64 0]) ∧ Kd.R (Kd.int .u64) 30 w' w.heap.size (fun _ => True) v (placesOf (prefN m n)) ∧ Below w.heap.size w w' := by
  have hd : ¬ ((n : Int) > 4611686018427387904) := by omega
  have hd2 : ¬ ((m : Int) > (n : Int)) := by omega
  have HPK := Aside0.mk (fun W => peaks3_calls m W (Nat.le_trans hmn hn))
  have HSP := Aside0.mk (fun W => span4_calls m n W (by omega) hn)
  have hL1 : (placesOf (topsN m)).length ≤ 63 := by simp only [placesOf, List.length_map]; exact topsF_len 63 m
  have HL := Aside0.mk hL1
  have HS1 := Aside0.mk (span_len m n hn)
  have HF := Aside0.mk (fun s hs => Nat.le_trans (span_fit n hn (n - m) m (Nat.le_refl _) s hs).1 hn)
  have HN := Aside0.mk (show placesOf (prefN m n) = placesOf (topsN m) ++ placesOf (spanN m n) by unfold prefN placesOf; rw [List.map_append])
  clear hmn hn hL1
  generalize spanN m n = L at *
  generalize placesOf (topsN m) = P0 at *
  go_enter Tryd.func17, Tryd.ntmps17
  go_wp2_with fail
  refine (HPK.out _).mono ?_
  rintro e w1 ⟨v1, rfl, hr1, hb1⟩
  have HR1 := Aside0.mk hr1
  have HB1 := Aside0.mk hb1
  clear hr1 hb1
  obtain ⟨A1, n1, c1, e9⟩ : ∃ A m c, v1 = .slice A m c := by obtain ⟨A, c, h⟩ := Kd.R_slice HR1.out; exact ⟨A, _, c, h⟩
  subst e9
  go_wp2_with fail
  refine (HSP.out _).mono ?_
  rintro e w2 ⟨v2, rfl, hr2, hb2⟩
  obtain ⟨A2, c2, e2⟩ := Kd.R_slice hr2
  subst e2
  have hbA := HB1.out.size
  have HC2 := Aside0.mk (Kd.R_lower hr2 hbA)
  have HR2 := Aside0.mk (Kd.R_below HR1.out hb2)
  have HB2 := Aside0.mk (blt HB1.out hb2)
  clear hr2 hb2 HR1 HSP HPK HB1 hbA
  go_wp2_with fail
  go_loopw [6, 8] (fun s q wr => ∃ j : Nat, j ≤ L.length ∧ q = .int .i64 j ∧ Aside0 (Kd.R (Kd.int .u64) 30 wr w.heap.size (fun _ => True) s (P0 ++ placesOf (L.take j))) ∧ Aside0 (kS.R 74 wr w.heap.size (fun _ => True) (.slice A2 L.length c2) L) ∧ Aside0 (Below w.heap.size w wr)) (fun _ q _ => L.length - (intOf q).toNat)
  case atStart => exact ⟨0, Nat.zero_le _, rfl, ⟨by rw [List.take_zero, show placesOf [] = [] from rfl, List.append_nil]; exact HR2.out⟩, HC2, HB2⟩
  case round =>
    obtain ⟨j, hj, rfl, HS, HC, HB⟩ := hrel
    have hL127 := HS1.out
    clear HC2 HB2 HR2
    obtain ⟨As, ms, cs, e9⟩ : ∃ A m c, u6 = .slice A m c := by obtain ⟨A, c, h⟩ := Kd.R_slice HS.out; exact ⟨A, _, c, h⟩
    subst e9
    by_cases hlt : j < L.length
    · obtain ⟨ad, ea, hx, hy⟩ := at_spot (R_C HC.out) j hlt
      subst ea
      have hfit := HF.out (L[j]) (List.getElem_mem hlt)
      have hcat : placesOf (L.take (j + 1)) = placesOf (L.take j) ++ [((placeN (L[j]).1 (L[j]).2 : Nat) : Int)] := by
        unfold placesOf
        rw [List.take_add_one, List.getElem?_eq_getElem hlt, List.map_append]
        rfl
      rw [List.getD_eq_getElem?_getD, List.getElem?_eq_getElem hlt] at hx hy
      simp only [Option.getD_some] at hx hy
      obtain ⟨sp, hsp⟩ : ∃ s, s = L[j] := ⟨_, rfl⟩
      rw [← hsp] at hfit hcat hx hy
      clear hsp
      obtain ⟨hh, ii⟩ := sp
      simp only at hfit hcat hx hy
      have HPL := Aside0.mk (fun W => place3_calls hh ii W hfit)
      have HCat := Aside0.mk hcat
      have hlen : (placesOf (L.take j)).length ≤ 127 := by
        have := HS1.out
        simp only [placesOf, List.length_map, List.length_take]
        omega
      have hl0 := HL.out
      clear hfit hcat
      generalize placeN hh ii = pl at *
      obtain ⟨P1, hP1⟩ : ∃ P, P = P0 ++ placesOf (L.take j) := ⟨_, rfl⟩
      have hP1l : P1.length ≤ 190 := by rw [hP1, List.length_append]; omega
      rw [← hP1] at HS
      have HP1 := Aside0.mk hP1
      clear hP1 hlen hl0
      go_wp2_with fail
      refine (HPL.out _).mono ?_
      rintro e w4 ⟨rfl, hb4⟩
      have HB4 := Aside0.mk hb4
      have HR4 := Aside0.mk (Kd.R_below HS.out HB4.out)
      have HBW := Aside0.mk (blt HB.out HB4.out)
      have HC4 := Aside0.mk (Kd.R_below HC.out HB4.out)
      have HAP := Aside0.mk (show ∀ k, (Value.slice As ms cs).ownBlock = some k → (Value.slice (some ad) L.length c2).ownBlock = some k → False from fun k h1 h2 => own_types HR4.out HC4.out (by decide) h1 h2)
      have hbase : w.heap.size ≤ w4.heap.size := HBW.out.size
      clear hb4 HS HC
      go_wp2_with ((with_reducible refine gate_builtin (b := .append) (xs := #[.tmp 37, .tmp 39]) rfl ?_); at_builtin; go_loud (refine app_oneN (Kd.int .u64) w.heap.size rfl (.tmp 37) (.tmp 39) 31 30 (.int .u64 0) 8 rfl Tryd.underlying31 info30 rfl (by decide) (by omega) (.slice As ms cs) P1 (pl : Int) [.int .u64 (pl : Int)] rfl rfl rfl HR4.out hbase (by omega) ?_; intro A9 n9 c9 w9 hr9 hf9 ha9; have HR9 := Aside0.mk hr9; have HF9 := Aside0.mk hf9; have HA9 := Aside0.mk ha9; clear hr9 hf9 ha9))
      go_roundw
      case rel => exact ⟨j + 1, by omega, by go_num, ⟨by rw [HCat.out, ← List.append_assoc, ← HP1.out]; exact HR9.out⟩, ⟨R_frm flat_kS HC4.out HF9.out (fun k hk hs => HAP.out k hs.symm hk)⟩, ⟨HBW.out.trans (HF9.out.below hbase (fun k hk => Kd.R_base HR4.out k hk.symm))⟩⟩
      case measure => simp [intOf]; omega
    · have hjl : j = L.length := by omega
      subst hjl
      have hS := HS.out
      rw [List.take_length, ← HN.out] at hS
      have HS2 := Aside0.mk hS
      clear hS HS
      go_wp2_with fail
      go_ret2
      exact ⟨_, rfl, HS2.out, HB.out⟩
/-- Both answer alike. -/
theorem pref7_calls (m n : Nat) (w : World) :
    Calls Tryd.prog 17 #[.int .u64 m, .int .u64 n] w fun e w' => ∃ v, e = .returned (.tuple #[v, .int .i64 (prefAns m n).2]) ∧ Kd.R (Kd.int .u64) 30 w' w.heap.size (fun _ => True) v (prefAns m n).1 ∧ Below w.heap.size w w' := by
  by_cases h : 4611686018427387904 < n ∨ n < m
  · refine (pref7_none m n w h).mono ?_
    rintro e w' ⟨he, hb⟩
    have e1 : prefAns m n = ([], 30) := if_pos h
    rw [e1]
    exact ⟨_, he, Kd.R_nil _ _ _ _ _, hb⟩
  · have e1 : prefAns m n = (placesOf (prefN m n), 0) := if_neg h
    rw [e1]
    exact pref7_some m n w (by omega) (by omega)
theorem pref_calls (m n : Nat) (w : World) (hT : DB w) :
    Calls Tryd.prog 19 #[.int .u64 m, .int .u64 n] w fun e w' => ∃ v, e = .returned (.tuple #[v, .int .i64 (prefAns m n).2]) ∧ Kd.R (Kd.int .u64) 30 w' w.heap.size (fun _ => True) v (prefAns m n).1 ∧ Below w.heap.size w w' := by
  by_cases h : 4611686018427387904 < n ∨ n < m
  · refine (pref_none m n w h).mono ?_
    rintro e w' ⟨he, hb⟩
    have e1 : prefAns m n = ([], 30) := if_pos h
    rw [e1]
    exact ⟨_, he, Kd.R_nil _ _ _ _ _, hb⟩
  · have e1 : prefAns m n = (placesOf (prefN m n), 0) := if_neg h
    rw [e1]
    exact pref_some m n w (by omega) (by omega) hT
end Go.Proofs.YtefnonlhepekdaaDoor.M

set_option linter.unusedVariables false
set_option linter.unusedSimpArgs false
namespace Go.Proofs.YtefnonlhepekdaaDoor.M
open Go.RowKit Go.Proofs.YtefnonlhepekdaaDoorW.PrintWords Go.Proofs.YtefnonlhepekdaaDoorW.PrintLast Go.Proofs.YtefnonlhepekdaaDoorW.PrintMore Go.Proofs.YtefnonlhepekdaaDoor.Leaf

theorem wants_Encode (x y c : Nat) (V : Value) (w : World) :
    Calls Tryd.prog 68 #[.agg #[.int .u64 x, .int .u64 y, V]] w fun e w' => e = .returned (.tuple #[.int .i64 ((proofAns y x).1.length : Nat), .int .i64 (proofAns y x).2]) ∧ Below w.heap.size w w' := by
  have HP := Aside0.mk (fun W => places7_calls y x W)
  generalize proofAns y x = sa at *
  obtain ⟨L, er⟩ := sa
  go_enter Tryd.func68, Tryd.ntmps68
  go_wp2_with fail
  refine (HP.out _).mono ?_
  rintro e w1 ⟨v1, rfl, hr, hb⟩
  obtain ⟨A1, c1, e1⟩ := Kd.R_slice hr
  subst e1
  have HB := Aside0.mk (blt (bl_new w _) hb)
  clear hr hb
  go_wp2_with fail
  go_ret2
  exact ⟨rfl, HB.out⟩
set_option maxHeartbeats 4000000 in
set_option maxRecDepth 100000 in
theorem ref7_Encode (x y c : Nat) (ns : List Hsh) (A : Option Addr) (w : World) (hx : x < 18446744073709551616) (hy : y < 18446744073709551616) (hA : kH.C w A ns.length ns) :
    Calls Tryd.prog 25 #[.agg #[.int .u64 x, .int .u64 y, .slice A ns.length c]] w fun e w' => ∃ v, e = .returned (.tuple #[v, .int .i64 (pencAns y x ns).2]) ∧ Kd.R (Kd.int .u8) 5 w' w.heap.size (fun _ => True) v (pencAns y x ns).1 ∧ Below w.heap.size w w' := by
  have HA := Aside0.mk hA
  have hp := wants_Encode x y c (.slice A ns.length c)
  have hlen := proofAns_len y x
  have hdef : pencAns y x ns = if (proofAns y x).2 ≠ 0 then ([], (proofAns y x).2) else if (proofAns y x).1.length ≠ ns.length then ([], 70) else (writeB 77 x y ns, 0) := rfl
  generalize pencAns y x ns = E at *
  generalize (proofAns y x).1.length = L at *
  generalize (proofAns y x).2 = er at *
  have HP := Aside0.mk hp
  have HE := Aside0.mk hdef
  clear hA hp hdef
  go_enter Tryd.func25, Tryd.ntmps25
  go_wp2_with fail
  refine (HP.out _).mono ?_
  rintro e w1 ⟨rfl, hb1⟩
  have hbx := (hb1.block _ (by simp)).trans (heap_new w _)
  have x0 : w1.cell? ⟨w.heap.size, 0, none⟩ = some (.int .u64 x) := (blk_cell hbx 0).trans rfl
  have x1 : w1.cell? ⟨w.heap.size, 1, none⟩ = some (.int .u64 y) := (blk_cell hbx 1).trans rfl
  have x2 : w1.cell? ⟨w.heap.size, 2, none⟩ = some (.slice A ns.length c) := (blk_cell hbx 2).trans rfl
  have HX1 := Aside0.mk hbx
  have HB1 := Aside0.mk (blt (bl_new w _) hb1)
  clear hb1 hbx
  by_cases h0 : er = 0
  · subst h0
    by_cases hk2 : L = ns.length
    · subst hk2
      have hle : ns.length ≤ 100000 := by omega
      have hans : E = (writeB 77 x y ns, 0) := by rw [HE.out, if_neg (by simp), if_neg (fun h => h rfl)]
      have HAns := Aside0.mk hans
      clear hans HE HP
      have xa : ∀ o : Obj, (w1.alloc o).cell? ⟨w.heap.size, 0, none⟩ = some (.int .u64 x) := fun o => pw_cell_below (bl_new w1 o) x0
      go_wp2_with fail
      refine (short1_calls x hx _).mono ?_
      rintro e w2 ⟨v2, rfl, hr2, hb2⟩
      obtain ⟨A2, m2, c2, e2⟩ : ∃ A m c, v2 = .slice A m c := by obtain ⟨A, c, h⟩ := Kd.R_slice hr2; exact ⟨A, _, c, h⟩
      subst e2
      have hs1 := HB1.out.size
      have hm2 : m2 ≤ 10 := by rw [(Kd.R_reads' hr2).1]; exact shortI_len x
      have HR1 := Aside0.mk (Kd.R_below (R_oneK .u8 w1 77 5 (base := w.heap.size) rfl hs1) hb2)
      have HD2 := Aside0.mk (Rd.of_R hr2).row
      have HX2 := Aside0.mk ((hb2.block _ (Nat.lt_of_lt_of_le (blk_lt HX1.out) (by simp))).trans ((Below.heap_alloc _ _ _ (blk_lt HX1.out)).trans HX1.out))
      have HB2 := Aside0.mk (blt HB1.out ((bl_new w1 _).trans (hb2.mono (by simp))))
      have hs2 := HB2.out.size
      obtain ⟨P1, hP1⟩ : ∃ P, P = [(77 : Int)] := ⟨_, rfl⟩
      have hl1 : P1.length ≤ 1 := by rw [hP1]; exact Nat.le_refl _
      rw [← hP1] at HR1
      have HP1 := Aside0.mk hP1
      obtain ⟨S1, hS1⟩ : ∃ S, S = shortI x := ⟨_, rfl⟩
      have hls1 : S1.length ≤ 10 := by rw [hS1]; exact shortI_len x
      rw [← hS1] at HD2
      have HS1 := Aside0.mk hS1
      clear hr2 hb2 xa x0 x1 x2 hP1 hS1
      go_wp2_with ((with_reducible refine gate_builtin (b := .append) (xs := #[.tmp 20, .tmp 23]) rfl ?_); at_builtin; go_loud (refine app_rowN .u8 w.heap.size rfl (.tmp 20) (.tmp 23) 22 5 (.int .u8 0) 1 rfl Tryd.underlying22 info5 rfl (by omega) (.slice (some ⟨w1.heap.size, 0, none⟩) 1 1) P1 S1 A2 m2 c2 rfl rfl HR1.out HD2.out hs2 (by omega) ?_; intro A3 n3 c3 w3 hr3 hf3 ha3; have HG3 := Aside0.mk (grown_box HR1.out HX2.out (by decide) HB2.out hf3); have y1 : w3.cell? ⟨w.heap.size, 1, none⟩ = some (.int .u64 y) := (blk_cell HG3.out.1 1).trans rfl; have HR3 := Aside0.mk hr3; have HF3 := Aside0.mk hf3; have HA3 := Aside0.mk ha3; clear hr3 hf3 ha3))
      refine (short1_calls y hy _).mono ?_
      rintro e w4 ⟨v4, rfl, hr4, hb4⟩
      obtain ⟨A4, m4, c4, e4⟩ : ∃ A m c, v4 = .slice A m c := by obtain ⟨A, c, h⟩ := Kd.R_slice hr4; exact ⟨A, _, c, h⟩
      subst e4
      have hm4 : m4 ≤ 10 := by rw [(Kd.R_reads' hr4).1]; exact shortI_len y
      obtain ⟨P2, hP2⟩ : ∃ P, P = P1 ++ S1 := ⟨_, rfl⟩
      have hl2 : P2.length ≤ 11 := by rw [hP2, List.length_append]; omega
      have hR4 := Kd.R_below HR3.out hb4
      rw [← hP2] at hR4
      have HR4 := Aside0.mk hR4
      have HP2 := Aside0.mk hP2
      have HD4 := Aside0.mk (Rd.of_R hr4).row
      have HX4 := Aside0.mk ((hb4.block _ (blk_lt HG3.out.1)).trans HG3.out.1)
      have HB4 := Aside0.mk (blt HG3.out.2 hb4)
      have hs4 := HB4.out.size
      obtain ⟨S2, hS2⟩ : ∃ S, S = shortI y := ⟨_, rfl⟩
      have hls2 : S2.length ≤ 10 := by rw [hS2]; exact shortI_len y
      rw [← hS2] at HD4
      have HS2 := Aside0.mk hS2
      clear hr4 hb4 y1 hP2 hS2 hR4 HR3
      go_wp2_with ((with_reducible refine gate_builtin (b := .append) (xs := #[.tmp 25, .tmp 28]) rfl ?_); at_builtin; go_loud (refine app_rowN .u8 w.heap.size rfl (.tmp 25) (.tmp 28) 22 5 (.int .u8 0) 1 rfl Tryd.underlying22 info5 rfl (by omega) (.slice A3 n3 c3) P2 S2 A4 m4 c4 rfl rfl HR4.out HD4.out hs4 (by omega) ?_; intro A5 n5 c5 w5 hr5 hf5 ha5; have HG5 := Aside0.mk (grown_box HR4.out HX4.out (by decide) HB4.out hf5); have y2 : w5.cell? ⟨w.heap.size, 2, none⟩ = some (.slice A ns.length c) := (blk_cell HG5.out.1 2).trans rfl; have HR5 := Aside0.mk hr5; have HF5 := Aside0.mk hf5; have HA5 := Aside0.mk ha5; clear hr5 hf5 ha5))
      refine (put_calls ns A c w w5 _ (P2 ++ S2) HG5.out.2 HR5.out HA.out hle (by rw [List.length_append]; omega)).mono ?_
      rintro e w8 ⟨v8, rfl, hr8, hb8⟩
      obtain ⟨A8, m8, c8, e8⟩ : ∃ A m c, v8 = .slice A m c := by obtain ⟨A, c, h⟩ := Kd.R_slice hr8; exact ⟨A, _, c, h⟩
      subst e8
      have HR8 := Aside0.mk hr8
      have HB8 := Aside0.mk hb8
      clear hr8 hb8 y2
      go_wp2_with fail
      go_ret2
      rw [HAns.out]
      refine ⟨_, rfl, ?_, HB8.out⟩
      have h9 := HR8.out
      rw [HP2.out, HP1.out, HS1.out, HS2.out] at h9
      exact h9
    · have hd : ((L : Int) != (ns.length : Int)) = true := by rw [bne_iff_ne]; omega
      have hd2 : ((ns.length : Int) != (L : Int)) = true := by rw [bne_iff_ne]; omega
      have hans : E = ([], 70) := by rw [HE.out, if_neg (by simp), if_pos hk2]
      have HAns := Aside0.mk hans
      clear hans HE HP
      go_wp2_with fail
      go_ret2
      rw [HAns.out]
      exact ⟨_, rfl, Kd.R_nil _ _ _ _ _, HB1.out⟩
  · have hd : (er != 0) = true := by rw [bne_iff_ne]; exact h0
    have hans : E = ([], er) := by rw [HE.out, if_pos h0]
    have HAns := Aside0.mk hans
    clear hans HE HP h0
    go_wp2_with fail
    go_ret2
    rw [HAns.out]
    exact ⟨_, rfl, Kd.R_nil _ _ _ _ _, HB1.out⟩
end Go.Proofs.YtefnonlhepekdaaDoor.M

set_option linter.unusedVariables false
set_option linter.unusedSimpArgs false
namespace Go.Proofs.YtefnonlhepekdaaDoor.M
open Go.RowKit Go.Proofs.YtefnonlhepekdaaDoorW.PrintWords Go.Proofs.YtefnonlhepekdaaDoorW.PrintLast Go.Proofs.YtefnonlhepekdaaDoorW.PrintMore Go.Proofs.YtefnonlhepekdaaDoor.Leaf

/-- What proof.EncodePrefix answers. -/
def xencAns (m n : Nat) (ns : List Hsh) : List Int × Int := if (prefAns m n).2 ≠ 0 then ([], (prefAns m n).2) else if (prefAns m n).1.length ≠ ns.length then ([], 70) else (writeB 80 m n ns, 0)
set_option maxHeartbeats 2000000 in
set_option maxRecDepth 100000 in
theorem pref_encode (m n c : Nat) (ns : List Hsh) (A : Option Addr) (w : World) (hm : m < 18446744073709551616) (hn : n < 18446744073709551616) (hA : kH.C w A ns.length ns) (hT : DB w) :
    Calls Tryd.prog 28 #[.agg #[.int .u64 m, .int .u64 n, .slice A ns.length c]] w fun e w' => ∃ v, e = .returned (.tuple #[v, .int .i64 (xencAns m n ns).2]) ∧ Kd.R (Kd.int .u8) 5 w' w.heap.size (fun _ => True) v (xencAns m n ns).1 ∧ Below w.heap.size w w' := by
  have hp := fun W (hW : Below w.heap.size w W) => pref_calls m n W (hT.below hW)
  have hlen := prefAns_len m n
  have hdef : xencAns m n ns = if (prefAns m n).2 ≠ 0 then ([], (prefAns m n).2) else if (prefAns m n).1.length ≠ ns.length then ([], 70) else (writeB 80 m n ns, 0) := rfl
  generalize xencAns m n ns = E at *
  generalize (prefAns m n).1 = L at *
  generalize (prefAns m n).2 = er at *
  have HP := Aside0.mk hp
  have HE := Aside0.mk hdef
  have HN := Aside0.mk hA
  clear hp hdef hA hT
  go_enter Tryd.func28, Tryd.ntmps28
  go_wp2_with fail
  refine (HP.out _ (bl_new w _)).mono ?_
  rintro e w1 ⟨v1, rfl, hr, hb⟩
  obtain ⟨A1, cap1, e1⟩ := Kd.R_slice hr
  rw [e1]
  have hb0 : Below w.heap.size w w1 := (bl_new w _).trans (hb.mono (by simp))
  have hbx : w1.heap[w.heap.size]? = some (.cells #[.int .u64 m, .int .u64 n, .slice A ns.length c] 43 (0, 0)) := (hb.block _ (by simp)).trans (heap_new w _)
  have hx0 : w1.cell? ⟨w.heap.size, 0, none⟩ = some (.int .u64 m) := (blk_cell hbx 0).trans rfl
  have hx1 : w1.cell? ⟨w.heap.size, 1, none⟩ = some (.int .u64 n) := (blk_cell hbx 1).trans rfl
  have hx2 : w1.cell? ⟨w.heap.size, 2, none⟩ = some (.slice A ns.length c) := (blk_cell hbx 2).trans rfl
  have HB := Aside0.mk hb0
  clear hr hb hb0 hbx e1
  by_cases h0 : er = 0
  · subst h0
    by_cases hk2 : L.length = ns.length
    · have hd : ((L.length : Int) != (ns.length : Int)) = false := by rw [bne_eq_false_iff_eq]; omega
      have HK := Aside0.mk hk2
      have hle : ns.length ≤ 100000 := by omega
      clear hk2
      go_wp2_with fail
      refine (proof_write 80 m n c ns A w1 hm hn (Kd.C_below HN.out HB.out) hle).mono ?_
      rintro e w2 ⟨v2, rfl, hr2, hb2⟩
      obtain ⟨A2, l2, c2, e2⟩ : ∃ A l c, v2 = .slice A l c := (by obtain ⟨A, c, h⟩ := Kd.R_slice hr2; exact ⟨A, _, c, h⟩)
      have HR2 := Aside0.mk hr2
      have HE2 := Aside0.mk e2
      have HB2 := Aside0.mk hb2
      clear hr2 hb2 e2
      go_wp2_with fail
      go_ret2
      have he := HE.out
      rw [if_neg (by simp), if_neg (fun h => h HK.out)] at he
      rw [he]
      exact ⟨_, rfl, Kd.R_lower HR2.out HB.out.size, HB.out.trans (HB2.out.mono HB.out.size)⟩
    · have hd : ((L.length : Int) != (ns.length : Int)) = true := by rw [bne_iff_ne]; omega
      have HK := Aside0.mk hk2
      clear hk2
      go_wp2
      go_ret2
      have he := HE.out
      rw [if_neg (by simp), if_pos HK.out] at he
      rw [he]
      exact ⟨_, rfl, Kd.R_nil _ _ _ _ _, HB.out⟩
  · have hd : (er != 0) = true := by rw [bne_iff_ne]; exact h0
    have HK := Aside0.mk h0
    clear h0
    go_wp2
    go_ret2
    have he := HE.out
    rw [if_pos HK.out] at he
    rw [he]
    exact ⟨_, rfl, Kd.R_nil _ _ _ _ _, HB.out⟩
end Go.Proofs.YtefnonlhepekdaaDoor.M

set_option linter.unusedVariables false
set_option linter.unusedSimpArgs false
namespace Go.Proofs.YtefnonlhepekdaaDoor.M
open Go.RowKit Go.Proofs.YtefnonlhepekdaaDoorW.PrintWords Go.Proofs.YtefnonlhepekdaaDoorW.PrintLast Go.Proofs.YtefnonlhepekdaaDoorW.PrintMore Go.Proofs.YtefnonlhepekdaaDoor.Leaf

theorem wants_EncodePrefix (x y c : Nat) (V : Value) (w : World) :
    Calls Tryd.prog 71 #[.agg #[.int .u64 x, .int .u64 y, V]] w fun e w' => e = .returned (.tuple #[.int .i64 ((prefAns x y).1.length : Nat), .int .i64 (prefAns x y).2]) ∧ Below w.heap.size w w' := by
  have HP := Aside0.mk (fun W => pref7_calls x y W)
  generalize prefAns x y = sa at *
  obtain ⟨L, er⟩ := sa
  go_enter Tryd.func71, Tryd.ntmps71
  go_wp2_with fail
  refine (HP.out _).mono ?_
  rintro e w1 ⟨v1, rfl, hr, hb⟩
  obtain ⟨A1, c1, e1⟩ := Kd.R_slice hr
  subst e1
  have HB := Aside0.mk (blt (bl_new w _) hb)
  clear hr hb
  go_wp2_with fail
  go_ret2
  exact ⟨rfl, HB.out⟩
set_option maxHeartbeats 4000000 in
set_option maxRecDepth 100000 in
theorem ref7_EncodePrefix (x y c : Nat) (ns : List Hsh) (A : Option Addr) (w : World) (hx : x < 18446744073709551616) (hy : y < 18446744073709551616) (hA : kH.C w A ns.length ns) :
    Calls Tryd.prog 26 #[.agg #[.int .u64 x, .int .u64 y, .slice A ns.length c]] w fun e w' => ∃ v, e = .returned (.tuple #[v, .int .i64 (xencAns x y ns).2]) ∧ Kd.R (Kd.int .u8) 5 w' w.heap.size (fun _ => True) v (xencAns x y ns).1 ∧ Below w.heap.size w w' := by
  have HA := Aside0.mk hA
  have hp := wants_EncodePrefix x y c (.slice A ns.length c)
  have hlen := prefAns_len x y
  have hdef : xencAns x y ns = if (prefAns x y).2 ≠ 0 then ([], (prefAns x y).2) else if (prefAns x y).1.length ≠ ns.length then ([], 70) else (writeB 80 x y ns, 0) := rfl
  generalize xencAns x y ns = E at *
  generalize (prefAns x y).1.length = L at *
  generalize (prefAns x y).2 = er at *
  have HP := Aside0.mk hp
  have HE := Aside0.mk hdef
  clear hA hp hdef
  go_enter Tryd.func26, Tryd.ntmps26
  go_wp2_with fail
  refine (HP.out _).mono ?_
  rintro e w1 ⟨rfl, hb1⟩
  have hbx := (hb1.block _ (by simp)).trans (heap_new w _)
  have x0 : w1.cell? ⟨w.heap.size, 0, none⟩ = some (.int .u64 x) := (blk_cell hbx 0).trans rfl
  have x1 : w1.cell? ⟨w.heap.size, 1, none⟩ = some (.int .u64 y) := (blk_cell hbx 1).trans rfl
  have x2 : w1.cell? ⟨w.heap.size, 2, none⟩ = some (.slice A ns.length c) := (blk_cell hbx 2).trans rfl
  have HX1 := Aside0.mk hbx
  have HB1 := Aside0.mk (blt (bl_new w _) hb1)
  clear hb1 hbx
  by_cases h0 : er = 0
  · subst h0
    by_cases hk2 : L = ns.length
    · subst hk2
      have hle : ns.length ≤ 100000 := by omega
      have hans : E = (writeB 80 x y ns, 0) := by rw [HE.out, if_neg (by simp), if_neg (fun h => h rfl)]
      have HAns := Aside0.mk hans
      clear hans HE HP
      have xa : ∀ o : Obj, (w1.alloc o).cell? ⟨w.heap.size, 0, none⟩ = some (.int .u64 x) := fun o => pw_cell_below (bl_new w1 o) x0
      go_wp2_with fail
      refine (short1_calls x hx _).mono ?_
      rintro e w2 ⟨v2, rfl, hr2, hb2⟩
      obtain ⟨A2, m2, c2, e2⟩ : ∃ A m c, v2 = .slice A m c := by obtain ⟨A, c, h⟩ := Kd.R_slice hr2; exact ⟨A, _, c, h⟩
      subst e2
      have hs1 := HB1.out.size
      have hm2 : m2 ≤ 10 := by rw [(Kd.R_reads' hr2).1]; exact shortI_len x
      have HR1 := Aside0.mk (Kd.R_below (R_oneK .u8 w1 80 5 (base := w.heap.size) rfl hs1) hb2)
      have HD2 := Aside0.mk (Rd.of_R hr2).row
      have HX2 := Aside0.mk ((hb2.block _ (Nat.lt_of_lt_of_le (blk_lt HX1.out) (by simp))).trans ((Below.heap_alloc _ _ _ (blk_lt HX1.out)).trans HX1.out))
      have HB2 := Aside0.mk (blt HB1.out ((bl_new w1 _).trans (hb2.mono (by simp))))
      have hs2 := HB2.out.size
      obtain ⟨P1, hP1⟩ : ∃ P, P = [(80 : Int)] := ⟨_, rfl⟩
      have hl1 : P1.length ≤ 1 := by rw [hP1]; exact Nat.le_refl _
      rw [← hP1] at HR1
      have HP1 := Aside0.mk hP1
      obtain ⟨S1, hS1⟩ : ∃ S, S = shortI x := ⟨_, rfl⟩
      have hls1 : S1.length ≤ 10 := by rw [hS1]; exact shortI_len x
      rw [← hS1] at HD2
      have HS1 := Aside0.mk hS1
      clear hr2 hb2 xa x0 x1 x2 hP1 hS1
      go_wp2_with ((with_reducible refine gate_builtin (b := .append) (xs := #[.tmp 20, .tmp 23]) rfl ?_); at_builtin; go_loud (refine app_rowN .u8 w.heap.size rfl (.tmp 20) (.tmp 23) 22 5 (.int .u8 0) 1 rfl Tryd.underlying22 info5 rfl (by omega) (.slice (some ⟨w1.heap.size, 0, none⟩) 1 1) P1 S1 A2 m2 c2 rfl rfl HR1.out HD2.out hs2 (by omega) ?_; intro A3 n3 c3 w3 hr3 hf3 ha3; have HG3 := Aside0.mk (grown_box HR1.out HX2.out (by decide) HB2.out hf3); have y1 : w3.cell? ⟨w.heap.size, 1, none⟩ = some (.int .u64 y) := (blk_cell HG3.out.1 1).trans rfl; have HR3 := Aside0.mk hr3; have HF3 := Aside0.mk hf3; have HA3 := Aside0.mk ha3; clear hr3 hf3 ha3))
      refine (short1_calls y hy _).mono ?_
      rintro e w4 ⟨v4, rfl, hr4, hb4⟩
      obtain ⟨A4, m4, c4, e4⟩ : ∃ A m c, v4 = .slice A m c := by obtain ⟨A, c, h⟩ := Kd.R_slice hr4; exact ⟨A, _, c, h⟩
      subst e4
      have hm4 : m4 ≤ 10 := by rw [(Kd.R_reads' hr4).1]; exact shortI_len y
      obtain ⟨P2, hP2⟩ : ∃ P, P = P1 ++ S1 := ⟨_, rfl⟩
      have hl2 : P2.length ≤ 11 := by rw [hP2, List.length_append]; omega
      have hR4 := Kd.R_below HR3.out hb4
      rw [← hP2] at hR4
      have HR4 := Aside0.mk hR4
      have HP2 := Aside0.mk hP2
      have HD4 := Aside0.mk (Rd.of_R hr4).row
      have HX4 := Aside0.mk ((hb4.block _ (blk_lt HG3.out.1)).trans HG3.out.1)
      have HB4 := Aside0.mk (blt HG3.out.2 hb4)
      have hs4 := HB4.out.size
      obtain ⟨S2, hS2⟩ : ∃ S, S = shortI y := ⟨_, rfl⟩
      have hls2 : S2.length ≤ 10 := by rw [hS2]; exact shortI_len y
      rw [← hS2] at HD4
      have HS2 := Aside0.mk hS2
      clear hr4 hb4 y1 hP2 hS2 hR4 HR3
      go_wp2_with ((with_reducible refine gate_builtin (b := .append) (xs := #[.tmp 25, .tmp 28]) rfl ?_); at_builtin; go_loud (refine app_rowN .u8 w.heap.size rfl (.tmp 25) (.tmp 28) 22 5 (.int .u8 0) 1 rfl Tryd.underlying22 info5 rfl (by omega) (.slice A3 n3 c3) P2 S2 A4 m4 c4 rfl rfl HR4.out HD4.out hs4 (by omega) ?_; intro A5 n5 c5 w5 hr5 hf5 ha5; have HG5 := Aside0.mk (grown_box HR4.out HX4.out (by decide) HB4.out hf5); have y2 : w5.cell? ⟨w.heap.size, 2, none⟩ = some (.slice A ns.length c) := (blk_cell HG5.out.1 2).trans rfl; have HR5 := Aside0.mk hr5; have HF5 := Aside0.mk hf5; have HA5 := Aside0.mk ha5; clear hr5 hf5 ha5))
      refine (put_calls ns A c w w5 _ (P2 ++ S2) HG5.out.2 HR5.out HA.out hle (by rw [List.length_append]; omega)).mono ?_
      rintro e w8 ⟨v8, rfl, hr8, hb8⟩
      obtain ⟨A8, m8, c8, e8⟩ : ∃ A m c, v8 = .slice A m c := by obtain ⟨A, c, h⟩ := Kd.R_slice hr8; exact ⟨A, _, c, h⟩
      subst e8
      have HR8 := Aside0.mk hr8
      have HB8 := Aside0.mk hb8
      clear hr8 hb8 y2
      go_wp2_with fail
      go_ret2
      rw [HAns.out]
      refine ⟨_, rfl, ?_, HB8.out⟩
      have h9 := HR8.out
      rw [HP2.out, HP1.out, HS1.out, HS2.out] at h9
      exact h9
    · have hd : ((L : Int) != (ns.length : Int)) = true := by rw [bne_iff_ne]; omega
      have hd2 : ((ns.length : Int) != (L : Int)) = true := by rw [bne_iff_ne]; omega
      have hans : E = ([], 70) := by rw [HE.out, if_neg (by simp), if_pos hk2]
      have HAns := Aside0.mk hans
      clear hans HE HP
      go_wp2_with fail
      go_ret2
      rw [HAns.out]
      exact ⟨_, rfl, Kd.R_nil _ _ _ _ _, HB1.out⟩
  · have hd : (er != 0) = true := by rw [bne_iff_ne]; exact h0
    have hans : E = ([], er) := by rw [HE.out, if_pos h0]
    have HAns := Aside0.mk hans
    clear hans HE HP h0
    go_wp2_with fail
    go_ret2
    rw [HAns.out]
    exact ⟨_, rfl, Kd.R_nil _ _ _ _ _, HB1.out⟩
end Go.Proofs.YtefnonlhepekdaaDoor.M

set_option linter.unusedVariables false
set_option linter.unusedSimpArgs false
namespace Go.Proofs.YtefnonlhepekdaaDoor.M
open Go.RowKit Go.Proofs.YtefnonlhepekdaaDoorW.PrintWords Go.Proofs.YtefnonlhepekdaaDoorW.PrintLast Go.Proofs.YtefnonlhepekdaaDoorW.PrintMore Go.Proofs.YtefnonlhepekdaaDoor.Leaf

theorem awake7_places : proofAns 1 7 = ([0, 5, 9, 10], 0) := by decide +kernel
theorem awake7_bytes : pencAns 0 1 [] = ([77, 1, 0], 0) := by decide +kernel

set_option maxHeartbeats 1000000 in
set_option maxRecDepth 100000 in
theorem awake7 (w : World) : Calls Tryd.prog 23 #[] w fun e w' => e = .returned (.bool true) ∧ Below w.heap.size w w' := by
  have hp := proof_places 1 7
  rw [awake7_places] at hp
  have HP := Aside0.mk hp
  clear hp
  go_enter Tryd.func23, Tryd.ntmps23
  go_wp2_with fail
  refine (HP.out _).mono ?_
  rintro e w1 ⟨v1, rfl, hr, hb⟩
  obtain ⟨A1, c1, e1, _, hC⟩ := Kd.R_reads hr
  obtain ⟨ad, ea, _⟩ := Kd.at_int hC 0 (by omega) (by simp)
  subst ea
  rw [e1]
  have HC := Aside0.mk hC
  have HB := Aside0.mk hb
  clear hr hb hC e1
  have he := proof_encode 0 1 0 [] none w1 (by omega) (by omega) ⟨rfl, by simp, fun h => absurd h (by simp)⟩
  rw [awake7_bytes] at he
  have HEn := Aside0.mk he
  clear he
  go_wp2_with fail
  refine HEn.out.mono ?_
  rintro e w2 ⟨v2, rfl, hr2, hb2⟩
  have hb3 : Below w1.heap.size w1 w2 := hb2
  obtain ⟨A2, c2, e2, _, hC2⟩ := Kd.R_reads hr2
  obtain ⟨ad2, ea2, k5⟩ := Kd.at_int hC2 0 (by omega) (by simp)
  subst ea2
  rw [e2]
  have at1 : ∀ i : Nat, i < 4 → w2.cell? (ad.add i) = some (.int .u64 (rd [0, 5, 9, 10] i)) := fun i hi => by
    obtain ⟨ad', ea', hx⟩ := Kd.at_int (Kd.C_below HC.out hb3) (i : Int) (by omega) (by simp; omega)
    injection ea' with ea'
    subst ea'
    exact hx
  have at2 : ∀ i : Nat, i < 3 → w2.cell? (ad2.add i) = some (.int .u8 (rd [77, 1, 0] i)) := fun i hi => by
    obtain ⟨ad', ea', hx⟩ := Kd.at_int hC2 (i : Int) (by omega) (by simp; omega)
    injection ea' with ea'
    subst ea'
    exact hx
  have a0 : w2.cell? (ad.add 0) = some (.int .u64 0) := at1 0 (by omega)
  have a1 : w2.cell? ⟨ad.block, ad.off + 1, none⟩ = some (.int .u64 5) := at1 1 (by omega)
  have a2 : w2.cell? ⟨ad.block, ad.off + 2, none⟩ = some (.int .u64 9) := at1 2 (by omega)
  have b0 : w2.cell? (ad2.add 0) = some (.int .u8 77) := at2 0 (by omega)
  have b1 : w2.cell? ⟨ad2.block, ad2.off + 1, none⟩ = some (.int .u8 1) := at2 1 (by omega)
  have a0' : w2.cell? ad = some (.int .u64 0) := by have := a0; rwa [show ad.add 0 = ad by simp [Addr.add]] at this
  have b0' : w2.cell? ad2 = some (.int .u8 77) := by have := b0; rwa [show ad2.add 0 = ad2 by simp [Addr.add]] at this
  have HB3 := Aside0.mk hb3
  clear hr2 hb2 hb3 hC2 e2 at1 at2 HC HEn
  go_wp2
  go_ret
  exact ⟨rfl, HB.out.trans (HB3.out.mono HB.out.size)⟩
end Go.Proofs.YtefnonlhepekdaaDoor.M

set_option linter.unusedVariables false
set_option linter.unusedSimpArgs false
namespace Go.Proofs.YtefnonlhepekdaaDoor.M
open Go.RowKit Go.Proofs.YtefnonlhepekdaaDoorW.PrintWords Go.Proofs.YtefnonlhepekdaaDoorW.PrintLast Go.Proofs.YtefnonlhepekdaaDoorW.PrintMore Go.Proofs.YtefnonlhepekdaaDoor.Leaf

/-- A row of numbers of the call's own, whose block is one of S. -/
def RwS {α : Type} (d : Kd α) (e : Nat) (w0 w : World) (S : Nat → Prop) (v : Value) (L : List α) : Prop :=
  d.R e w w0.heap.size (fun _ => True) v L ∧ ∀ k, v.ownBlock = some k → S k
theorem RwS.below {α : Type} {d : Kd α} {e : Nat} {w0 w w1 : World} {S : Nat → Prop} {v : Value} {L : List α} (h : RwS d e w0 w S v L) (hb : Below w.heap.size w w1) : RwS d e w0 w1 S v L := ⟨Kd.R_below h.1 hb, h.2⟩
theorem RwS.frm {α : Type} {d : Kd α} (hd : Flat d) {e : Nat} {w0 w w1 : World} {S T : Nat → Prop} {v : Value} {L : List α} (h : RwS d e w0 w S v L) (hf : Frm T w w1) (hs : ∀ k, S k → ¬ T k) : RwS d e w0 w1 S v L := ⟨R_frm hd h.1 hf (fun k hk => hs k (h.2 k hk)), h.2⟩
theorem RwS.mono {α : Type} {d : Kd α} {e : Nat} {w0 w : World} {S T : Nat → Prop} {v : Value} {L : List α} (h : RwS d e w0 w S v L) (hs : ∀ k, S k → T k) : RwS d e w0 w T v L := ⟨h.1, fun k hk => hs k (h.2 k hk)⟩
/-- What a call has made lies between the heap's ends. -/
theorem RwS.new {α : Type} {d : Kd α} {e : Nat} {w0 w w1 : World} {v : Value} {L : List α} (h : d.R e w1 w.heap.size (fun _ => True) v L) (hs : w0.heap.size ≤ w.heap.size) : RwS d e w0 w1 (fun k => w.heap.size ≤ k ∧ k < w1.heap.size) v L :=
  ⟨Kd.R_lower h hs, fun k hk => ⟨Kd.R_base h k hk, Kd.R_lt h k hk⟩⟩
theorem RwS.rd {k : IntKind} {e : Nat} {w0 w : World} {S : Nat → Prop} {v : Value} {L : List Int} (h : RwS (Kd.int k) e w0 w S v L) : Rd k w v L := Rd.of_R h.1

end Go.Proofs.YtefnonlhepekdaaDoor.M

set_option linter.unusedVariables false
set_option linter.unusedSimpArgs false
namespace Go.Proofs.YtefnonlhepekdaaDoor.M
open Go.RowKit Go.Proofs.YtefnonlhepekdaaDoorW.PrintWords Go.Proofs.YtefnonlhepekdaaDoorW.PrintLast Go.Proofs.YtefnonlhepekdaaDoorW.PrintMore Go.Proofs.YtefnonlhepekdaaDoor.Leaf

set_option maxHeartbeats 1000000 in
set_option maxRecDepth 100000 in
/-- The same hashes in a list of their own that goes on behind them. -/
theorem row_calls (l : List Hsh) (A : Option Addr) (c : Nat) (w : World) (hl : l.length ≤ 1000000) (hC : kH.C w A l.length l) :
    Calls Tryd.prog 24 #[.slice A l.length c] w fun e w' => ∃ A' c', e = .returned (.slice A' l.length c') ∧ kH.R 63 w' w.heap.size (fun _ => True) (.slice A' (l.length + 1) c') (l ++ [hash1 171]) ∧ Below w.heap.size w w' := by
  have HC := Aside0.mk hC
  clear hC
  go_enter Tryd.func24, Tryd.ntmps24
  have HE := Aside0.mk (R_emptyK kH (e := 63) (base := w.heap.size) rfl (heap_new w (.cells #[] 63)) (Nat.le_refl _))
  have hz1 := (hash1 171).one
  have sz := sizeH
  go_wp2_with (first | ((with_reducible refine gate_builtin (b := .append) (xs := #[.tmp 3, .tmp 4]) rfl ?_); at_builtin; go_loud (refine app_rows kH (fun _ _ _ _ _ h => h) w.heap.size rfl (.tmp 3) (.tmp 4) 39 63 _ 32 rfl Tryd.underlying39 infoH rfl (by decide) (by decide) (.slice (some ⟨w.heap.size, 0, none⟩) 0 0) [] l A l.length c rfl rfl HE.out (Kd.C_below HC.out (bl_new w _)) (by simp) (by simp; omega) ?_; intro A2 c2 w2 hr2 hf2 hat2; simp only [List.length_nil, Nat.zero_add, List.nil_append] at hr2 ⊢; have HR2 := Aside0.mk hr2; have hb2 := Aside0.mk ((bl_new w _).trans (hf2.below (by simp) (fun k hk => Kd.R_base HE.out k hk.symm))); clear hr2 hf2 hat2)) | ((with_reducible refine gate_builtin (b := .append) (xs := #[.tmp 5, .tmp 7]) rfl ?_); at_builtin; go_loud (refine app_one kH w.heap.size rfl (.tmp 5) (.tmp 7) 39 63 _ 32 rfl Tryd.underlying39 infoH rfl (by decide) (by decide) _ l (hash1 171) (hash1 171).cells rfl rfl rfl HR2.out hb2.out.size (by omega) ?_; intro A3 c3 w3 hr3 hf3 hat3; have hle := (Kd.R_reads' hr3).2.1; have hle2 : l.length ≤ c3 := Nat.le_trans (Nat.le_succ _) hle; have HR3 := Aside0.mk hr3; have hb3 := Aside0.mk (hb2.out.trans (hf3.below hb2.out.size (fun k hk => Kd.R_base HR2.out k hk.symm))); clear hr3 hf3 hat3)))
  go_ret
  exact ⟨A3, c3, rfl, HR3.out, hb3.out⟩
theorem Hd.of_R {e base : Nat} {w : World} {v : Value} {xs : List Hsh} (h : kH.R e w base (fun _ => True) v xs) : Hd w v xs := by
  obtain ⟨A, c, e1, hl, hc⟩ := Kd.R_reads h
  exact ⟨A, c, e1, hc⟩
set_option maxHeartbeats 2000000 in
set_option maxRecDepth 100000 in
theorem sameH_true (xs : List Hsh) (A B : Option Addr) (c d : Nat) (w : World) (hl : xs.length ≤ 1000000000) (hA : kH.C w A xs.length xs) (hB : kH.C w B xs.length xs) :
    Calls Tryd.prog 30 #[.slice A xs.length c, .slice B xs.length d] w fun e w' => e = .returned (.bool true) ∧ Below w.heap.size w w' := by
  have HA := Aside0.mk hA
  have HB := Aside0.mk hB
  clear hA hB
  go_enter Tryd.func30, Tryd.ntmps30
  go_wp2_with fail
  go_loopw [5] (fun k wr => ∃ j : Nat, j ≤ xs.length ∧ k = .int .i64 j ∧ Aside0 (Below w.heap.size w wr)) (fun k _ => xs.length - (intOf k).toNat)
  case atStart => exact ⟨0, Nat.zero_le _, rfl, ⟨Below.refl _ _⟩⟩
  case round =>
    obtain ⟨j, hj, rfl, HW⟩ := hrel
    by_cases hlt : j < xs.length
    · obtain ⟨ad, ea, hh⟩ := C_hash (Kd.C_below HA.out HW.out) j hlt
      obtain ⟨bd, eb, hg⟩ := C_hash (Kd.C_below HB.out HW.out) j hlt
      subst ea eb
      generalize xs[j] = h at *
      have HH := Aside0.mk hh
      have HG := Aside0.mk hg
      clear hh hg
      go_wp2_with fail
      refine wp_region_quiet_lit (by kernel_rfl) (by kernel_rfl) ?_
      go_big_quiet_step (fail)
      go_big_quiet_step (fail)
      go_big_quiet_step (fail)
      refine quiet_hash rfl (.tmp 19) rfl rfl h HH.out ?_
      simp only [Act.put, List.setIfInBounds_toArray, List.set_cons_zero, List.set_cons_succ]
      go_big_quiet_step (fail)
      go_big_quiet_step (fail)
      go_big_quiet_step (fail)
      refine quiet_hash rfl (.tmp 23) rfl rfl h HG.out ?_
      refine quiet_neq rfl (.tmp 20) (.tmp 24) _ rfl h h rfl rfl ?_
      rw [decide_eq_true rfl]
      refine wpQuiet_nil ?_
      intro _ hw'
      obtain ⟨nq, hw''⟩ := hw'
      subst hw''
      go_wp2_with fail
      go_roundw
      case rel => exact ⟨j + 1, by omega, by go_num, ⟨pw_below_drewN HW.out _⟩⟩
      case measure => simp [intOf]; omega
    · have hjl : j = xs.length := by omega
      subst hjl
      go_wp2_with fail
      go_ret
      exact ⟨rfl, HW.out⟩
theorem sameB_loop (xs ys : List Int) (hl : xs.length = ys.length) (hb : xs.length < 9223372036854775807) : ∀ (d i : Nat), i + d = xs.length → Ev (fun k => massifref2_SameBytes.l0 k xs ys (i : Int)) (decide (xs.drop i = ys.drop i))
  | 0, i, hi => by
    rw [List.drop_of_length_le (by omega), List.drop_of_length_le (by omega)]
    exact Ev.step (f := fun _ => some (decide (([] : List Int) = []))) (fun k => by simp only [massifref2_SameBytes.l0]; rw [if_neg (by omega)]; rfl) (Ev.now _)
  | d + 1, i, hi => by
    have h1 : i < xs.length := by omega
    have h2 : i < ys.length := by omega
    have ih := sameB_loop xs ys hl hb d (i + 1) (by omega)
    have e1 : wrap64 ((i : Int) + 1) = ((i + 1 : Nat) : Int) := by rw [i64_of _ (by omega) (by omega)]; omega
    have r1 : rd xs (i : Int) = xs[i] := by simp [rd, List.getD_eq_getElem?_getD, List.getElem?_eq_getElem h1]
    have r2 : rd ys (i : Int) = ys[i] := by simp [rd, List.getD_eq_getElem?_getD, List.getElem?_eq_getElem h2]
    rw [List.drop_eq_getElem_cons h1, List.drop_eq_getElem_cons h2]
    refine Ev.step (fun k => by simp only [massifref2_SameBytes.l0]; rw [if_pos (by omega), if_pos (by omega), if_pos (by omega), r1, r2, e1]) ?_
    by_cases c : xs[i] = ys[i]
    · refine Ev.congr (fun k => if_pos c) ?_
      rw [show decide (xs[i] :: xs.drop (i + 1) = ys[i] :: ys.drop (i + 1)) = decide (xs.drop (i + 1) = ys.drop (i + 1)) by apply decide_eq_decide.2; rw [List.cons.injEq]; exact ⟨fun h => h.2, fun h => ⟨c, h⟩⟩]
      exact ih
    · refine Ev.congr (fun k => if_neg c) ?_
      rw [decide_eq_false (fun h => c (List.cons.inj h).1)]
      exact Ev.now _
theorem sameB_val (xs ys : List Int) (hb : xs.length < 9223372036854775807) : Ev (fun k => massifref2_SameBytes.f k xs ys) (decide (xs = ys)) := by
  unfold massifref2_SameBytes.f
  by_cases c : xs.length = ys.length
  · exact Ev.congr (fun k => if_pos (by omega)) (sameB_loop xs ys c hb _ 0 (Nat.zero_add _))
  · refine Ev.congr (fun k => if_neg (by omega)) ?_
    rw [decide_eq_false (fun e => c (by rw [e]))]
    exact Ev.now _
theorem bytes7_true {A0 A1 : Option Addr} {n0 n1 c0 c1 : Nat} {xs : List Int} {w : World} (h0 : Rd .u8 w (.slice A0 n0 c0) xs) (h1 : Rd .u8 w (.slice A1 n1 c1) xs) (hl : xs.length < 9223372036854775807) :
    Calls Tryd.prog 29 #[.slice A0 n0 c0, .slice A1 n1 c1] w fun e w' => e = .returned (.bool true) ∧ Drawn0 w w' := by
  obtain ⟨_, _, e0, hl0, hc0⟩ := h0
  obtain ⟨_, _, e1, hl1, hc1⟩ := h1
  injection e0 with a0 b0 d0
  injection e1 with a1 b1 d1
  subst a0 b0 d0 a1 b1 d1
  have hv : Ev (fun k => massiflaw7_bytes.f k xs xs) true := by
    unfold massiflaw7_bytes.f
    have := sameB_val xs xs hl
    rw [decide_eq_true rfl] at this
    exact Ev.bind this (Ev.now _)
  obtain ⟨k, hk⟩ := hv.rounds
  exact massiflaw7_bytes.calls k _ _ _ _ _ _ _ w hc0 hl0 hc1 hl1 hk
set_option maxHeartbeats 4000000 in
set_option maxRecDepth 100000 in
theorem marked7_calls (xs : List Hsh) (A : Option Addr) (c : Nat) (w : World) (hl : xs.length ≤ 1000000) (hc : xs.length + 1 ≤ c) (hc2 : c ≤ 9223372036854775807) (hA : kH.C w A (xs.length + 1) (xs ++ [hash1 171])) :
    Calls Tryd.prog 31 #[.slice A xs.length c] w fun e w' => e = .returned (.bool true) ∧ Below w.heap.size w w' := by
  obtain ⟨ad, ea, hx⟩ := C_hash hA xs.length (by simp)
  have e1 : (xs ++ [hash1 171])[xs.length]'(by simp) = hash1 171 := by simp
  rw [e1] at hx
  subst ea
  have HX := Aside0.mk hx
  have hz1 := (hash1 171).one
  have sz := sizeH
  clear hA hx e1
  go_enter Tryd.func31, Tryd.ntmps31
  go_wp2_with (first | ((with_reducible refine gate_dst (N := 11) rfl ?_); go_loud (refine load_hash rfl (.tmp 10) rfl _ _ rfl HX.out ?_)) | ((with_reducible refine gate_dst (N := 13) rfl ?_); go_loud (refine eql_hash rfl (.tmp 11) (.tmp 12) _ rfl (hash1 171) (hash1 171) rfl rfl true (by simp) ?_)))
  go_ret
  exact ⟨rfl, Below.refl _ _⟩
end Go.Proofs.YtefnonlhepekdaaDoor.M
