/- proof.write and proof.Encode. massiflaw7.awake. massiflaw7.ProofAsks: the law. -/
import Derived.Test.YtefnonlhepekdaaDoorPA2
import Derived.Test.YtefnonlhepekdaaDoorPA1
set_option linter.unusedVariables false
set_option linter.unusedSimpArgs false
set_option linter.unusedVariables false
set_option linter.unusedSimpArgs false
namespace Go.Proofs.YtefnonlhepekdaaDoor.M
open Go.RowKit Go.Proofs.YtefnonlhepekdaaDoorW.PrintWords Go.Proofs.YtefnonlhepekdaaDoorW.PrintLast Go.Proofs.YtefnonlhepekdaaDoorW.PrintMore Go.Proofs.YtefnonlhepekdaaDoor.Leaf

theorem short_calls (x : Nat) (hx : x < 18446744073709551616) (w : World) :
    Calls Tryd.prog 105 #[.int .u64 x] w fun e w' => ∃ v, e = .returned v ∧ Kd.R (Kd.int .u8) 5 w' w.heap.size (fun _ => True) v (shortI x) ∧ Below w.heap.size w w' := by
  obtain ⟨k, hk⟩ := (short_val x hx).rounds
  exact num_Short.calls k x _ w hk

def writeB (kd a b : Nat) (ns : List Hsh) : List Int := [(kd : Int)] ++ shortI a ++ shortI b ++ nodesI ns

set_option maxHeartbeats 2000000 in
set_option maxRecDepth 100000 in
theorem proof_write (kd x y c : Nat) (ns : List Hsh) (A : Option Addr) (w : World) (hx : x < 18446744073709551616) (hy : y < 18446744073709551616) (hA : kH.C w A ns.length ns) (hle : ns.length ≤ 100000) :
    Calls Tryd.prog 72 #[.int .u8 kd, .int .u64 x, .int .u64 y, .slice A ns.length c] w fun e w' => ∃ v, e = .returned v ∧ Kd.R (Kd.int .u8) 5 w' w.heap.size (fun _ => True) v (writeB kd x y ns) ∧ Below w.heap.size w w' := by
  have HN := Aside0.mk hA
  have hns := hle
  clear hA hle
  go_enter Tryd.func72, Tryd.ntmps72
  go_wp2_with fail
  refine (short_calls x hx _).mono ?_
  rintro e wa ⟨va, rfl, hra, hba⟩
  obtain ⟨Aa, ca, ea⟩ := Kd.R_slice hra
  rw [ea] at hra ⊢
  have ra := Aside0.mk (Rd.of_R hra)
  have ba := Aside0.mk hba
  clear hra hba ea
  go_wp2_with fail
  refine (short_calls y hy _).mono ?_
  rintro e wb ⟨vb, rfl, hrb, hbb⟩
  obtain ⟨Ab, cb, eb⟩ := Kd.R_slice hrb
  rw [eb] at hrb ⊢
  have rb := Aside0.mk (Rd.of_R hrb)
  have bb := Aside0.mk hbb
  clear hrb hbb eb
  go_wp2_with fail
  refine (concat_rows (some ⟨_, 0, none⟩) 3 [[(kd : Int)], shortI x, shortI y] _ (C_rows3 .u8 5 _ _ _ _ 22 _ _ _ (Rd.below (Rd.below (Rd.one _ _ _ _ rfl) ba.out) bb.out) (Rd.below ra.out bb.out) rb.out (by simp [World.drew])) (by simp) (by have := shortI_len x; have := shortI_len y; simp; omega)).mono ?_
  rintro e wd ⟨vd, rfl, hrd, hbd⟩
  obtain ⟨Ad, ld, cd, ed⟩ : ∃ A l c, vd = .slice A l c := (by obtain ⟨A, c, h⟩ := Kd.R_slice hrd; exact ⟨A, _, c, h⟩)
  rw [ed] at hrd ⊢
  obtain ⟨P0, hP⟩ : ∃ P, P = [(kd : Int)] ++ shortI x ++ shortI y := ⟨_, rfl⟩
  have hfl : [[(kd : Int)], shortI x, shortI y].flatten = P0 := by rw [hP]; simp
  rw [hfl] at hrd
  have hPl : P0.length ≤ 31 := by have := shortI_len x; have := shortI_len y; rw [hP]; simp only [List.length_append, List.length_singleton]; omega
  have hB0 : Below w.heap.size w wd := blt (blt (blt (bl_new w _) ba.out) bb.out) (below_on (bl_new wb _) (by simp) (Below.refl _ _)) |>.trans (hbd.mono (by have := ba.out.size; have := bb.out.size; simp at *; omega))
  have HP := Aside0.mk hP
  have G1 := Aside0.mk (Kd.R_lower hrd (by have := ba.out.size; have := bb.out.size; simp at *; omega : w.heap.size ≤ _))
  have G2 := Aside0.mk hB0
  clear hrd hbd ed hP hfl hB0
  go_wp2_with fail
  go_loopw [9, 22] (fun s i wr => ∃ j : Nat, j ≤ ns.length ∧ i = .int .i64 j ∧ Aside0 (Kd.R (Kd.int .u8) 5 wr w.heap.size (fun _ => True) s (P0 ++ nodesI (ns.take j))) ∧ Aside0 (Below w.heap.size w wr)) (fun _ i _ => ns.length - (intOf i).toNat)
  case atStart => exact ⟨0, Nat.zero_le _, rfl, by rw [List.take_zero]; simp only [nodesI, List.flatMap_nil, List.append_nil]; exact G1, G2⟩
  case round =>
    obtain ⟨j, hj, rfl, HR, HW⟩ := hrel
    clear G1 G2
    by_cases hlt : j < ns.length
    · obtain ⟨ad, ea, hh⟩ := C_hash (Kd.C_below HN.out HW.out) j hlt
      subst ea
      have HH := Aside0.mk hh
      clear hh
      obtain ⟨hv, hhv⟩ : ∃ h, h = ns[j] := ⟨_, rfl⟩
      rw [← hhv] at HH
      have hcat : nodesI (ns.take (j + 1)) = nodesI (ns.take j) ++ hv.b := by
        rw [List.take_add_one, List.getElem?_eq_getElem hlt, ← hhv]
        show nodesI (ns.take j ++ [hv]) = _
        unfold nodesI
        rw [List.flatMap_append]
        simp only [List.flatMap_cons, List.flatMap_nil, List.append_nil]
      have hlen : (nodesI (ns.take (j + 1))).length ≤ 32 * 100000 := by
        have h1 : ∀ l : List Hsh, (nodesI l).length = 32 * l.length := by
          intro l
          induction l with
          | nil => rfl
          | cons x l ih =>
            rw [show nodesI (x :: l) = x.b ++ nodesI l from rfl, List.length_append, ih, x.len, List.length_cons]
            omega
        rw [h1]
        have := List.length_take_le (j + 1) ns
        omega
      rw [hcat, List.length_append, hv.len] at hlen
      have HCat := Aside0.mk hcat
      clear hcat hhv
      have hsz := HW.out.size
      obtain ⟨P1, hP1⟩ : ∃ P, P = P0 ++ nodesI (ns.take j) := ⟨_, rfl⟩
      have hP1l : P1.length ≤ 3200100 := by rw [hP1, List.length_append]; omega
      rw [← hP1] at HR
      have HP1 := Aside0.mk hP1
      clear hP1
      go_wp2_with (first | ((with_reducible refine gate_dst (N := 25) rfl ?_); go_loud (refine load_hash rfl (.tmp 24) rfl _ _ rfl HH.out ?_)) | ((with_reducible refine gate_store (t := 63) (p := 11) (v := .tmp 25) rfl ?_); go_loud (refine store_hash rfl rfl (.tmp 11) (.tmp 25) rfl _ rfl _ _ rfl hv rfl rfl ?_)) | ((with_reducible refine gate_builtin (b := .append) (xs := #[.tmp 26, .tmp 27]) rfl ?_); at_builtin; go_loud (refine app_row .u8 w.heap.size rfl (.tmp 26) (.tmp 27) 22 5 (.int .u8 0) 1 rfl Tryd.underlying22 info5 rfl (by omega) _ P1 hv.b _ 32 32 rfl rfl (Kd.R_alloc HR.out _) (C_hash_row wr hv _ rfl) (by simp; omega) (by omega) ?_; intro A2 c2 w2 hr2 hf2 hat2; have HR2 := Aside0.mk hr2; have HF2 := Aside0.mk hf2; clear hr2 hf2 hat2)))
      go_roundw
      case rel => exact ⟨j + 1, by omega, by go_num, ⟨by rw [HCat.out, ← List.append_assoc, ← HP1.out]; exact HR2.out⟩, ⟨(below_alloc HW.out _).trans (HF2.out.below (by simp; omega) (fun k hk => Kd.R_base HR.out k hk.symm))⟩⟩
      case measure => simp [intOf]; omega
    · have hjl : j = ns.length := by omega
      subst hjl
      obtain ⟨A6, l6, c6, e6⟩ : ∃ A l c, u9 = .slice A l c := (by obtain ⟨A, c, h⟩ := Kd.R_slice HR.out; exact ⟨A, _, c, h⟩)
      have HE6 := Aside0.mk e6
      clear e6
      go_wp2_with fail
      go_ret
      refine ⟨_, rfl, ?_, HW.out⟩
      have hq := HR.out
      rw [List.take_length, HP.out] at hq
      exact hq


/-- What proof.Encode answers. -/
def pencAns (i n : Nat) (ns : List Hsh) : List Int × Int := if (proofAns i n).2 ≠ 0 then ([], (proofAns i n).2) else if (proofAns i n).1.length ≠ ns.length then ([], 70) else (writeB 77 n i ns, 0)
set_option maxHeartbeats 2000000 in
set_option maxRecDepth 100000 in
theorem proof_encode (i n c : Nat) (ns : List Hsh) (A : Option Addr) (w : World) (hi : i < 18446744073709551616) (hn : n < 18446744073709551616) (hA : kH.C w A ns.length ns) :
    Calls Tryd.prog 27 #[.agg #[.int .u64 n, .int .u64 i, .slice A ns.length c]] w fun e w' => ∃ v, e = .returned (.tuple #[v, .int .i64 (pencAns i n ns).2]) ∧ Kd.R (Kd.int .u8) 5 w' w.heap.size (fun _ => True) v (pencAns i n ns).1 ∧ Below w.heap.size w w' := by
  have hp := proof_places i n
  have hlen := proofAns_len i n
  have hdef : pencAns i n ns = if (proofAns i n).2 ≠ 0 then ([], (proofAns i n).2) else if (proofAns i n).1.length ≠ ns.length then ([], 70) else (writeB 77 n i ns, 0) := rfl
  generalize pencAns i n ns = E at *
  generalize (proofAns i n).1 = L at *
  generalize (proofAns i n).2 = er at *
  have HP := Aside0.mk hp
  have HE := Aside0.mk hdef
  have HN := Aside0.mk hA
  clear hp hdef hA
  go_enter Tryd.func27, Tryd.ntmps27
  go_wp2_with fail
  refine (HP.out _).mono ?_
  rintro e w1 ⟨v1, rfl, hr, hb⟩
  obtain ⟨A1, cap1, e1⟩ := Kd.R_slice hr
  rw [e1]
  have hb0 : Below w.heap.size w w1 := (bl_new w _).trans (hb.mono (by simp))
  have hbx : w1.heap[w.heap.size]? = some (.cells #[.int .u64 n, .int .u64 i, .slice A ns.length c] 41 (0, 0)) := (hb.block _ (by simp)).trans (heap_new w _)
  have hx0 : w1.cell? ⟨w.heap.size, 0, none⟩ = some (.int .u64 n) := (blk_cell hbx 0).trans rfl
  have hx1 : w1.cell? ⟨w.heap.size, 1, none⟩ = some (.int .u64 i) := (blk_cell hbx 1).trans rfl
  have hx2 : w1.cell? ⟨w.heap.size, 2, none⟩ = some (.slice A ns.length c) := (blk_cell hbx 2).trans rfl
  have HB := Aside0.mk hb0
  clear hr hb hb0 hbx e1
  by_cases h0 : er = 0
  · subst h0
    by_cases hk2 : L.length = ns.length
    · have hd : ((L.length : Int) != (ns.length : Int)) = false := by rw [bne_eq_false_iff_eq]; omega
      have HK := Aside0.mk hk2
      have hle : ns.length ≤ 100000 := by omega
      clear hk2
      go_wp2_with fail
      refine (proof_write 77 n i c ns A w1 hn hi (Kd.C_below HN.out HB.out) hle).mono ?_
      rintro e w2 ⟨v2, rfl, hr2, hb2⟩
      obtain ⟨A2, l2, c2, e2⟩ : ∃ A l c, v2 = .slice A l c := (by obtain ⟨A, c, h⟩ := Kd.R_slice hr2; exact ⟨A, _, c, h⟩)
      have HR2 := Aside0.mk hr2
      have HE2 := Aside0.mk e2
      have HB2 := Aside0.mk hb2
      clear hr2 hb2 e2
      go_wp2_with fail
      go_ret2
      have he := HE.out
      rw [if_neg (by simp), if_neg (fun h => h HK.out)] at he
      rw [he]
      exact ⟨_, rfl, Kd.R_lower HR2.out HB.out.size, HB.out.trans (HB2.out.mono HB.out.size)⟩
    · have hd : ((L.length : Int) != (ns.length : Int)) = true := by rw [bne_iff_ne]; omega
      have HK := Aside0.mk hk2
      clear hk2
      go_wp2
      go_ret2
      have he := HE.out
      rw [if_neg (by simp), if_pos HK.out] at he
      rw [he]
      exact ⟨_, rfl, Kd.R_nil _ _ _ _ _, HB.out⟩
  · have hd : (er != 0) = true := by rw [bne_iff_ne]; exact h0
    have HK := Aside0.mk h0
    clear h0
    go_wp2
    go_ret2
    have he := HE.out
    rw [if_pos HK.out] at he
    rw [he]
    exact ⟨_, rfl, Kd.R_nil _ _ _ _ _, HB.out⟩
end Go.Proofs.YtefnonlhepekdaaDoor.M

set_option linter.unusedVariables false
set_option linter.unusedSimpArgs false
namespace Go.Proofs.YtefnonlhepekdaaDoor.M
open Go.RowKit Go.Proofs.YtefnonlhepekdaaDoorW.PrintWords Go.Proofs.YtefnonlhepekdaaDoorW.PrintLast Go.Proofs.YtefnonlhepekdaaDoorW.PrintMore Go.Proofs.YtefnonlhepekdaaDoor.Leaf

theorem awake7_places : proofAns 1 7 = ([0, 5, 9, 10], 0) := by decide +kernel
theorem awake7_bytes : pencAns 0 1 [] = ([77, 1, 0], 0) := by decide +kernel

set_option maxHeartbeats 1000000 in
set_option maxRecDepth 100000 in
theorem awake7 (w : World) : Calls Tryd.prog 23 #[] w fun e w' => e = .returned (.bool true) ∧ Below w.heap.size w w' := by
  have hp := proof_places 1 7
  rw [awake7_places] at hp
  have HP := Aside0.mk hp
  clear hp
  go_enter Tryd.func23, Tryd.ntmps23
  go_wp2_with fail
  refine (HP.out _).mono ?_
  rintro e w1 ⟨v1, rfl, hr, hb⟩
  obtain ⟨A1, c1, e1, _, hC⟩ := Kd.R_reads hr
  obtain ⟨ad, ea, _⟩ := Kd.at_int hC 0 (by omega) (by simp)
  subst ea
  rw [e1]
  have HC := Aside0.mk hC
  have HB := Aside0.mk hb
  clear hr hb hC e1
  have he := proof_encode 0 1 0 [] none w1 (by omega) (by omega) ⟨rfl, by simp, fun h => absurd h (by simp)⟩
  rw [awake7_bytes] at he
  have HEn := Aside0.mk he
  clear he
  go_wp2_with fail
  refine HEn.out.mono ?_
  rintro e w2 ⟨v2, rfl, hr2, hb2⟩
  have hb3 : Below w1.heap.size w1 w2 := hb2
  obtain ⟨A2, c2, e2, _, hC2⟩ := Kd.R_reads hr2
  obtain ⟨ad2, ea2, k5⟩ := Kd.at_int hC2 0 (by omega) (by simp)
  subst ea2
  rw [e2]
  have at1 : ∀ i : Nat, i < 4 → w2.cell? (ad.add i) = some (.int .u64 (rd [0, 5, 9, 10] i)) := fun i hi => by
    obtain ⟨ad', ea', hx⟩ := Kd.at_int (Kd.C_below HC.out hb3) (i : Int) (by omega) (by simp; omega)
    injection ea' with ea'
    subst ea'
    exact hx
  have at2 : ∀ i : Nat, i < 3 → w2.cell? (ad2.add i) = some (.int .u8 (rd [77, 1, 0] i)) := fun i hi => by
    obtain ⟨ad', ea', hx⟩ := Kd.at_int hC2 (i : Int) (by omega) (by simp; omega)
    injection ea' with ea'
    subst ea'
    exact hx
  have a0 : w2.cell? (ad.add 0) = some (.int .u64 0) := at1 0 (by omega)
  have a1 : w2.cell? ⟨ad.block, ad.off + 1, none⟩ = some (.int .u64 5) := at1 1 (by omega)
  have a2 : w2.cell? ⟨ad.block, ad.off + 2, none⟩ = some (.int .u64 9) := at1 2 (by omega)
  have b0 : w2.cell? (ad2.add 0) = some (.int .u8 77) := at2 0 (by omega)
  have b1 : w2.cell? ⟨ad2.block, ad2.off + 1, none⟩ = some (.int .u8 1) := at2 1 (by omega)
  have a0' : w2.cell? ad = some (.int .u64 0) := by have := a0; rwa [show ad.add 0 = ad by simp [Addr.add]] at this
  have b0' : w2.cell? ad2 = some (.int .u8 77) := by have := b0; rwa [show ad2.add 0 = ad2 by simp [Addr.add]] at this
  have HB3 := Aside0.mk hb3
  clear hr2 hb2 hb3 hC2 e2 at1 at2 HC HEn
  go_wp2
  go_ret
  exact ⟨rfl, HB.out.trans (HB3.out.mono HB.out.size)⟩
end Go.Proofs.YtefnonlhepekdaaDoor.M

set_option linter.unusedVariables false
set_option linter.unusedSimpArgs false
namespace Go.Proofs.YtefnonlhepekdaaDoor.M
open Go.RowKit Go.Proofs.YtefnonlhepekdaaDoorW.PrintWords Go.Proofs.YtefnonlhepekdaaDoorW.PrintLast Go.Proofs.YtefnonlhepekdaaDoorW.PrintMore Go.Proofs.YtefnonlhepekdaaDoor.Leaf

/-- Behind the making of a proof by a spy that stands in the block behind w1. -/
theorem law_mid {w w1 w2 w3 w7 : World} {n c nB cB : Nat} {R : Int} {A B : Option Addr} {ask P : List Int} {v : Value} {hs : List Hsh} {o : Obj} (hB : Below w.heap.size w w1) (hV : (Kd.int .u64).R 30 w1 w.heap.size (fun _ => True) (.slice B nB cB) P) (h2 : Below w1.heap.size w1 w2)
    (hf : Frm (fun q => q = w1.heap.size) w2 w3) (hS : Spy w2 w3 w1.heap.size R A n c ask) (hH : kH.R 63 w3 w2.heap.size (fun _ => True) v hs) (h7 : Frm (fun k => k = w3.heap.size) (w3.alloc o) w7) :
    (Kd.int .u64).R 30 w7 w.heap.size (fun _ => True) (.slice B nB cB) P ∧ Spy w2 w7 w1.heap.size R A n c ask ∧ kH.R 63 w7 w2.heap.size (fun _ => True) v hs ∧ Below w.heap.size w w7 := by
  have hs3 : w1.heap.size < w3.heap.size := blk_lt hS.1
  have ha : Below w3.heap.size w3 (w3.alloc o) := bl_new _ _
  have h37 : ∀ i, i < w3.heap.size → w7.heap[i]? = w3.heap[i]? := fun i hi => (h7.block i (Nat.lt_of_lt_of_le hi ha.size) (by show ¬ (i = w3.heap.size); omega)).trans (ha.block i hi)
  have hV3 := R_frm (flat_int .u64) (Kd.R_below hV h2) hf (fun k hk h => by
    have := Kd.R_lt hV k hk
    have h : k = w1.heap.size := h
    omega)
  have hV4 := R_frm (flat_int .u64) (Kd.R_below hV3 ha) h7 (fun k hk h => by
    have := Kd.R_lt hV k hk
    have h : k = w3.heap.size := h
    omega)
  have hS4 := R_frm (flat_int .u64) (Kd.R_below hS.2 ha) h7 (fun k hk h => by
    have := Kd.R_lt hS.2 k hk
    have h : k = w3.heap.size := h
    omega)
  have hH4 := R_frm flat_kH (Kd.R_below hH ha) h7 (fun k hk h => by
    have := Kd.R_lt hH k hk
    have h : k = w3.heap.size := h
    omega)
  refine ⟨hV4, ⟨(h37 _ hs3).trans hS.1, hS4⟩, hH4, ?_⟩
  have b2 := blt hB h2
  have b3 := b2.trans (hf.below b2.size (fun i hi => by have h : i = w1.heap.size := hi; have := hB.size; omega))
  exact (blt b3 ha).trans (h7.below (blt b3 ha).size (fun i hi => by have h : i = w3.heap.size := hi; have := b3.size; omega))
set_option maxHeartbeats 4000000 in
set_option maxRecDepth 100000 in
theorem proof_asks_law (i m n : Nat) (R : Int) (w : World) (hT : DB w) :
    Calls Tryd.prog 6 #[.int .u64 i, .int .u64 m, .int .u64 n, .int .i64 R] w fun e w' => e = .returned (.bool true) ∧ Below w.heap.size w w' := by
  have hr1 := fun w => places7_calls i n w
  have hr2 := fun w => pref7_calls m n w
  have hf1 := fits_proof i n
  have hf2 := fits_pref m n
  obtain ⟨er1, hs1, ask1, ht1⟩ := told_of (proofAns i n) R hf1
  obtain ⟨er2, hs2, ask2, ht2⟩ := told_of (prefAns m n) R hf2
  have hm1 := fun b w => make_calls i n b R er1 hs1 ask1 w ht1
  have hm2 := fun b w => makep_calls m n b R er2 hs2 ask2 w ht2
  have ha1 := fun w0 w b na c c1 cB A A1 B => asked_calls (proofAns i n) R er1 hs1 ask1 w0 w b na c c1 cB A A1 B ht1 hf1
  have ha2 := fun w0 w b na c c1 cB A A1 B => asked_calls (prefAns m n) R er2 hs2 ask2 w0 w b na c c1 cB A A1 B ht2 hf2
  generalize proofAns i n = P at *
  generalize prefAns m n = X at *
  have HR1 := Aside0.mk hr1
  have HR2 := Aside0.mk hr2
  have HM1 := Aside0.mk hm1
  have HM2 := Aside0.mk hm2
  have HA1 := Aside0.mk ha1
  have HA2 := Aside0.mk ha2
  have HT := Aside0.mk hT
  clear hr1 hr2 hm1 hm2 ha1 ha2 hf1 hf2 ht1 ht2 hT
  go_enter Tryd.func6, Tryd.ntmps6
  go_wp2_with fail
  refine (HR1.out w).mono ?_
  rintro e w1 ⟨v, rfl, hr, hb⟩
  obtain ⟨B, nB, cB, e9⟩ : ∃ A m c, v = .slice A m c := by obtain ⟨A, c, h⟩ := Kd.R_slice hr; exact ⟨A, _, c, h⟩
  subst e9
  have HV1 := Aside0.mk hr
  have HB1 := Aside0.mk hb
  clear hr hb
  go_upto_region 3 with (fail)
  generalize hw2 : w1.alloc _ = w2
  have hs2 : Spy w2 w2 w1.heap.size R none 0 0 [] := by
    rw [← hw2]
    exact ⟨heap_new w1 _, Kd.R_nil _ _ _ _ _⟩
  have hb2 : Below w1.heap.size w1 w2 := by rw [← hw2]; exact bl_new w1 _
  have HS2 := Aside0.mk hs2
  have HB2 := Aside0.mk hb2
  clear hs2 hb2 hw2
  go_wp2_with fail
  refine (HM1.out w1.heap.size w2 HS2.out (blk_lt HS2.out.1)).mono ?_
  rintro e w3 ⟨A1, n1, c1, A, na, c, rfl, hh, hs3, hf3⟩
  have HL3 := Aside0.mk (fun (o : Obj) w7 h7 => law_mid (o := o) (w7 := w7) HB1.out HV1.out HB2.out hf3 hs3 hh h7)
  have hc3 := (Kd.R_reads' hh).1
  clear hh hs3 hf3
  obtain ⟨x1, hx1⟩ : ∃ x : Int, x = if er1 = 0 then (n : Int) else 0 := ⟨_, rfl⟩
  obtain ⟨x2, hx2⟩ : ∃ x : Int, x = if er1 = 0 then (i : Int) else 0 := ⟨_, rfl⟩
  rw [← hx1, ← hx2]
  have HX1 := Aside0.mk hx1
  have HX2 := Aside0.mk hx2
  subst hc3
  clear hx1 hx2
  go_upto_region 4 with ((with_reducible refine gate_store (t := 41) (p := 12) (v := .tmp 30) rfl ?_); go_loud (refine store_var 41 [Value.int .u64 x1, .int .u64 x2, .slice A1 hs1.length c1] rfl rfl (.tmp 12) (.tmp 30) rfl zero3_sz (one3 _ _ _ _ _) w3.heap.size 41 zero3 (heap_new w3 _) rfl rfl rfl ?_; intro w7 hz7 hf7; have HZ7 := Aside0.mk hz7; have HF7 := Aside0.mk hf7; clear hz7 hf7))
  obtain ⟨f1, f2, f3, f4⟩ := HL3.out _ _ HF7.out
  have HB7 := Aside0.mk f4
  have hnP := (Kd.R_reads' f1).1
  subst hnP
  have ha := HA1.out w2 w7 w1.heap.size na c c1 cB A A1 B f2 (Kd.R_reads' f1).2.2 (Kd.R_reads' f3).2.2
  have HA := Aside0.mk ha
  have c0_ := (blk_cell HZ7.out 0).trans (rfl : _ = some (Value.int .u64 x1))
  have c1_ := (blk_cell HZ7.out 1).trans (rfl : _ = some (Value.int .u64 x2))
  have c2_ := (blk_cell HZ7.out 2).trans (rfl : _ = some (Value.slice A1 hs1.length c1))
  clear f1 f2 f3 f4 ha HL3 HA1 HS2 HV1 HB2 HB1
  by_cases he : er1 = 0
  · have e1 := HX1.out
    have e2 := HX2.out
    rw [if_pos he] at e1 e2
    subst e1 e2 he
    go_wp2_with fail
    refine (HA.out).mono ?_
    rintro e w8 ⟨rfl, d8, rfl⟩
    have hb8 : Below w7.heap.size w7 (w7.drewN d8) := pw_below_drewN (Below.refl _ _) d8
    have c0_ := pw_cell_below hb8 c0_
    have c1_ := pw_cell_below hb8 c1_
    have HB8 := Aside0.mk (blt HB7.out hb8)
    clear hb8 HA HZ7 HF7 HB7
    generalize w7.drewN d8 = w8 at *
    go_wp2_with fail
    refine (HR2.out w8 ).mono ?_
    rintro e wa ⟨v, rfl, hr, hb⟩
    clear c0_ c1_ c2_
    obtain ⟨Ba, nBa, cBa, e9⟩ : ∃ A m c, v = .slice A m c := by obtain ⟨A, c, h⟩ := Kd.R_slice hr; exact ⟨A, _, c, h⟩
    subst e9
    have HVa := Aside0.mk hr
    have HBa := Aside0.mk hb
    clear hr hb
    go_upto_region 8 with (fail)
    generalize hwb : wa.alloc _ = wb
    have hsb : Spy wb wb wa.heap.size R none 0 0 [] := by
      rw [← hwb]
      exact ⟨heap_new wa _, Kd.R_nil _ _ _ _ _⟩
    have hbb : Below wa.heap.size wa wb := by rw [← hwb]; exact bl_new wa _
    have HSb := Aside0.mk hsb
    have HBb := Aside0.mk hbb
    clear hsb hbb hwb
    go_wp2_with fail
    refine (HM2.out wa.heap.size wb HSb.out (blk_lt HSb.out.1) (HT.out.below (blt (blt HB8.out HBa.out) HBb.out))).mono ?_
    rintro e wc ⟨A2, n2, c2, A3, na3, c3, rfl, hh, hs3, hf3⟩
    have HL4 := Aside0.mk (fun (o : Obj) w7 h7 => law_mid (o := o) (w7 := w7) HBa.out HVa.out HBb.out hf3 hs3 hh h7)
    have hc3 := (Kd.R_reads' hh).1
    clear hh hs3 hf3
    obtain ⟨y1, hy1⟩ : ∃ x : Int, x = if er2 = 0 then (m : Int) else 0 := ⟨_, rfl⟩
    obtain ⟨y2, hy2⟩ : ∃ x : Int, x = if er2 = 0 then (n : Int) else 0 := ⟨_, rfl⟩
    rw [← hy1, ← hy2]
    have HY1 := Aside0.mk hy1
    have HY2 := Aside0.mk hy2
    subst hc3
    clear hy1 hy2
    go_upto_region 9 with ((with_reducible refine gate_store (t := 43) (p := 14) (v := .tmp 85) rfl ?_); go_loud (refine store_var 43 [Value.int .u64 y1, .int .u64 y2, .slice A2 hs2.length c2] rfl rfl (.tmp 14) (.tmp 85) rfl zero3_sx (one3 _ _ _ _ _) wc.heap.size 43 zero3 (heap_new wc _) rfl rfl rfl ?_; intro w7 hz7 hf7; have HZ7 := Aside0.mk hz7; have HF7 := Aside0.mk hf7; clear hz7 hf7))
    obtain ⟨f1, f2, f3, f4⟩ := HL4.out _ _ HF7.out
    have HBt := Aside0.mk (blt HB8.out f4)
    have hnP := (Kd.R_reads' f1).1
    subst hnP
    have ha := HA2.out wb w7 wa.heap.size na3 c3 c2 cBa A3 A2 Ba f2 (Kd.R_reads' f1).2.2 (Kd.R_reads' f3).2.2
    have HA := Aside0.mk ha
    have c0_ := (blk_cell HZ7.out 0).trans (rfl : _ = some (Value.int .u64 y1))
    have c1_ := (blk_cell HZ7.out 1).trans (rfl : _ = some (Value.int .u64 y2))
    have c2_ := (blk_cell HZ7.out 2).trans (rfl : _ = some (Value.slice A2 hs2.length c2))
    clear f1 f2 f3 f4 ha HL4 HBa HVa HBb HSb
    by_cases he : er2 = 0
    · have e1 := HY1.out
      have e2 := HY2.out
      rw [if_pos he] at e1 e2
      subst e1 e2 he
      go_wp2_with fail
      refine (HA.out).mono ?_
      rintro e w9 ⟨rfl, d9, rfl⟩
      have hb9 : Below w7.heap.size w7 (w7.drewN d9) := pw_below_drewN (Below.refl _ _) d9
      have c0_ := pw_cell_below hb9 c0_
      have c1_ := pw_cell_below hb9 c1_
      have HB9 := Aside0.mk (blt HBt.out hb9)
      clear hb9 HA HZ7 HF7 HBt
      generalize w7.drewN d9 = w9 at *
      go_wp2_with fail
      refine (awake7 _).mono ?_
      rintro e w23 ⟨rfl, hb⟩
      have HBz := Aside0.mk (blt HB9.out hb)
      clear hb
      go_wp2_with fail
      go_ret
      exact ⟨rfl, HBz.out⟩
    · have e1 := HY1.out
      have e2 := HY2.out
      rw [if_neg he] at e1 e2
      subst e1 e2
      have he1 : (er2 != 0) = true := by rw [bne_iff_ne]; exact he
      have he2 : (er2 == 0) = false := by rw [beq_eq_false_iff_ne]; exact he
      go_wp2_with fail
      refine (HA.out).mono ?_
      rintro e w9 ⟨rfl, d9, rfl⟩
      have hb9 : Below w7.heap.size w7 (w7.drewN d9) := pw_below_drewN (Below.refl _ _) d9
      have c0_ := pw_cell_below hb9 c0_
      have c1_ := pw_cell_below hb9 c1_
      have HB9 := Aside0.mk (blt HBt.out hb9)
      clear hb9 HA HZ7 HF7 HBt
      generalize w7.drewN d9 = w9 at *
      go_wp2_with fail
      refine (awake7 _).mono ?_
      rintro e w23 ⟨rfl, hb⟩
      have HBz := Aside0.mk (blt HB9.out hb)
      clear hb
      go_wp2_with fail
      go_ret
      exact ⟨rfl, HBz.out⟩
  · have e1 := HX1.out
    have e2 := HX2.out
    rw [if_neg he] at e1 e2
    subst e1 e2
    have he1 : (er1 != 0) = true := by rw [bne_iff_ne]; exact he
    have he2 : (er1 == 0) = false := by rw [beq_eq_false_iff_ne]; exact he
    go_wp2_with fail
    refine (HA.out).mono ?_
    rintro e w8 ⟨rfl, d8, rfl⟩
    have hb8 : Below w7.heap.size w7 (w7.drewN d8) := pw_below_drewN (Below.refl _ _) d8
    have c0_ := pw_cell_below hb8 c0_
    have c1_ := pw_cell_below hb8 c1_
    have HB8 := Aside0.mk (blt HB7.out hb8)
    clear hb8 HA HZ7 HF7 HB7
    generalize w7.drewN d8 = w8 at *
    go_wp2_with fail
    refine (HR2.out w8 ).mono ?_
    rintro e wa ⟨v, rfl, hr, hb⟩
    clear c0_ c1_ c2_
    obtain ⟨Ba, nBa, cBa, e9⟩ : ∃ A m c, v = .slice A m c := by obtain ⟨A, c, h⟩ := Kd.R_slice hr; exact ⟨A, _, c, h⟩
    subst e9
    have HVa := Aside0.mk hr
    have HBa := Aside0.mk hb
    clear hr hb
    go_upto_region 8 with (fail)
    generalize hwb : wa.alloc _ = wb
    have hsb : Spy wb wb wa.heap.size R none 0 0 [] := by
      rw [← hwb]
      exact ⟨heap_new wa _, Kd.R_nil _ _ _ _ _⟩
    have hbb : Below wa.heap.size wa wb := by rw [← hwb]; exact bl_new wa _
    have HSb := Aside0.mk hsb
    have HBb := Aside0.mk hbb
    clear hsb hbb hwb
    go_wp2_with fail
    refine (HM2.out wa.heap.size wb HSb.out (blk_lt HSb.out.1) (HT.out.below (blt (blt HB8.out HBa.out) HBb.out))).mono ?_
    rintro e wc ⟨A2, n2, c2, A3, na3, c3, rfl, hh, hs3, hf3⟩
    have HL4 := Aside0.mk (fun (o : Obj) w7 h7 => law_mid (o := o) (w7 := w7) HBa.out HVa.out HBb.out hf3 hs3 hh h7)
    have hc3 := (Kd.R_reads' hh).1
    clear hh hs3 hf3
    obtain ⟨y1, hy1⟩ : ∃ x : Int, x = if er2 = 0 then (m : Int) else 0 := ⟨_, rfl⟩
    obtain ⟨y2, hy2⟩ : ∃ x : Int, x = if er2 = 0 then (n : Int) else 0 := ⟨_, rfl⟩
    rw [← hy1, ← hy2]
    have HY1 := Aside0.mk hy1
    have HY2 := Aside0.mk hy2
    subst hc3
    clear hy1 hy2
    go_upto_region 9 with ((with_reducible refine gate_store (t := 43) (p := 14) (v := .tmp 85) rfl ?_); go_loud (refine store_var 43 [Value.int .u64 y1, .int .u64 y2, .slice A2 hs2.length c2] rfl rfl (.tmp 14) (.tmp 85) rfl zero3_sx (one3 _ _ _ _ _) wc.heap.size 43 zero3 (heap_new wc _) rfl rfl rfl ?_; intro w7 hz7 hf7; have HZ7 := Aside0.mk hz7; have HF7 := Aside0.mk hf7; clear hz7 hf7))
    obtain ⟨f1, f2, f3, f4⟩ := HL4.out _ _ HF7.out
    have HBt := Aside0.mk (blt HB8.out f4)
    have hnP := (Kd.R_reads' f1).1
    subst hnP
    have ha := HA2.out wb w7 wa.heap.size na3 c3 c2 cBa A3 A2 Ba f2 (Kd.R_reads' f1).2.2 (Kd.R_reads' f3).2.2
    have HA := Aside0.mk ha
    have c0_ := (blk_cell HZ7.out 0).trans (rfl : _ = some (Value.int .u64 y1))
    have c1_ := (blk_cell HZ7.out 1).trans (rfl : _ = some (Value.int .u64 y2))
    have c2_ := (blk_cell HZ7.out 2).trans (rfl : _ = some (Value.slice A2 hs2.length c2))
    clear f1 f2 f3 f4 ha HL4 HBa HVa HBb HSb
    by_cases he : er2 = 0
    · have e1 := HY1.out
      have e2 := HY2.out
      rw [if_pos he] at e1 e2
      subst e1 e2 he
      go_wp2_with fail
      refine (HA.out).mono ?_
      rintro e w9 ⟨rfl, d9, rfl⟩
      have hb9 : Below w7.heap.size w7 (w7.drewN d9) := pw_below_drewN (Below.refl _ _) d9
      have c0_ := pw_cell_below hb9 c0_
      have c1_ := pw_cell_below hb9 c1_
      have HB9 := Aside0.mk (blt HBt.out hb9)
      clear hb9 HA HZ7 HF7 HBt
      generalize w7.drewN d9 = w9 at *
      go_wp2_with fail
      refine (awake7 _).mono ?_
      rintro e w23 ⟨rfl, hb⟩
      have HBz := Aside0.mk (blt HB9.out hb)
      clear hb
      go_wp2_with fail
      go_ret
      exact ⟨rfl, HBz.out⟩
    · have e1 := HY1.out
      have e2 := HY2.out
      rw [if_neg he] at e1 e2
      subst e1 e2
      have he1 : (er2 != 0) = true := by rw [bne_iff_ne]; exact he
      have he2 : (er2 == 0) = false := by rw [beq_eq_false_iff_ne]; exact he
      go_wp2_with fail
      refine (HA.out).mono ?_
      rintro e w9 ⟨rfl, d9, rfl⟩
      have hb9 : Below w7.heap.size w7 (w7.drewN d9) := pw_below_drewN (Below.refl _ _) d9
      have c0_ := pw_cell_below hb9 c0_
      have c1_ := pw_cell_below hb9 c1_
      have HB9 := Aside0.mk (blt HBt.out hb9)
      clear hb9 HA HZ7 HF7 HBt
      generalize w7.drewN d9 = w9 at *
      go_wp2_with fail
      refine (awake7 _).mono ?_
      rintro e w23 ⟨rfl, hb⟩
      have HBz := Aside0.mk (blt HB9.out hb)
      clear hb
      go_wp2_with fail
      go_ret
      exact ⟨rfl, HBz.out⟩
end Go.Proofs.YtefnonlhepekdaaDoor.M
