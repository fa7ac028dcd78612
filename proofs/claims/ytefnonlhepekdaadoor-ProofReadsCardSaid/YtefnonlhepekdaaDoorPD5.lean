/- massiflaw7.ProofReads returns true: the walk. -/
import Derived.Test.YtefnonlhepekdaaDoorPD4
import Derived.Deep.RegionHeld3
import Derived.BigQuiet
set_option linter.unusedVariables false
set_option linter.unusedSimpArgs false
set_option linter.unusedVariables false
set_option linter.unusedSimpArgs false
namespace Go.Proofs.YtefnonlhepekdaaDoor.M
open Go.RowKit Go.Proofs.YtefnonlhepekdaaDoorW.PrintWords Go.Proofs.YtefnonlhepekdaaDoorW.PrintLast Go.Proofs.YtefnonlhepekdaaDoorW.PrintMore Go.Proofs.YtefnonlhepekdaaDoor.Leaf

theorem decP_err {bs : List Int} (h : (decP bs).2 ≠ 0) : (decP bs).1 = noPr := by
  cases bs with
  | nil => rfl
  | cons b r =>
    rw [decP] at h ⊢
    split
    · rfl
    · next c1 =>
      rw [if_neg c1] at h
      split
      · rfl
      · next c2 =>
        rw [if_neg c2] at h
        split
        · rfl
        · next c3 =>
          rw [if_neg c3] at h
          split
          · rfl
          · next c4 =>
            rw [if_neg c4] at h
            unfold decP2 at h ⊢
            split
            · rfl
            · next c5 =>
              rw [if_neg c5] at h
              unfold tailP at h ⊢
              split
              · rfl
              · next c6 =>
                rw [if_neg c6] at h
                exact absurd rfl h
theorem decX_err {bs : List Int} (h : (decX bs).2 ≠ 0) : (decX bs).1 = noPr := by
  cases bs with
  | nil => rfl
  | cons b r =>
    rw [decX] at h ⊢
    split
    · rfl
    · next c1 =>
      rw [if_neg c1] at h
      split
      · rfl
      · next c2 =>
        rw [if_neg c2] at h
        split
        · rfl
        · next c4 =>
          rw [if_neg c4] at h
          unfold decX2 at h ⊢
          split
          · rfl
          · next c5 =>
            rw [if_neg c5] at h
            unfold tailP at h ⊢
            split
            · rfl
            · next c6 =>
              rw [if_neg c6] at h
              exact absurd rfl h
theorem decP_len {bs : List Int} (hb : Bytes bs) : (decP bs).1.2.2.length ≤ 300 := by
  by_cases h : (decP bs).2 = 0
  · obtain ⟨n, i, ns, d1, d2, d3, d4, d5, d6⟩ := decP_back hb h
    have := proofAns_len i n
    rw [d1]
    show ns.length ≤ 300
    omega
  · rw [decP_err h]
    exact Nat.zero_le _
theorem decX_len {bs : List Int} (hb : Bytes bs) : (decX bs).1.2.2.length ≤ 300 := by
  by_cases h : (decX bs).2 = 0
  · obtain ⟨n, i, ns, d1, d2, d4, d5, d6⟩ := decX_back hb h
    have := prefAns_len n i
    rw [d1]
    show ns.length ≤ 300
    omega
  · rw [decX_err h]
    exact Nat.zero_le _
theorem bytes_set {M : List Int} (h : Bytes M) (j : Nat) (z : Int) : Bytes (M.set j (IntKind.u8.wrap z)) := fun y hy => by
  rcases List.mem_or_eq_of_mem_set hy with h1 | h1
  · exact h y h1
  · subst h1
    rw [IntKind.wrap_u8]
    omega
/-- A variable that holds a proof: its box lies right behind the row that was made for it. -/
def Vr (w0 w : World) (T : TypeId) (lo hi a b : Nat) (v : Value) (ns : List Hsh) : Prop :=
  w.heap[hi]? = some (.cells #[.int .u64 a, .int .u64 b, v] T (0, 0)) ∧ RwS kH 63 w0 w (fun k => lo ≤ k ∧ k < hi) v ns
theorem Vr.below {w0 w w1 : World} {T : TypeId} {lo hi a b : Nat} {v : Value} {ns : List Hsh} (h : Vr w0 w T lo hi a b v ns) (hb : Below w.heap.size w w1) : Vr w0 w1 T lo hi a b v ns :=
  ⟨(hb.block _ (blk_lt h.1)).trans h.1, h.2.below hb⟩
theorem Vr.frm {w0 w w1 : World} {T : TypeId} {lo hi a b : Nat} {v : Value} {ns : List Hsh} {S : Nat → Prop} (h : Vr w0 w T lo hi a b v ns) (hf : Frm S w w1) (hs : ∀ k, lo ≤ k → k ≤ hi → ¬ S k) (hlo : lo ≤ hi) : Vr w0 w1 T lo hi a b v ns :=
  ⟨(hf.block _ (blk_lt h.1) (hs _ hlo (Nat.le_refl _))).trans h.1, h.2.frm flat_kH hf (fun k hk => hs k hk.1 (Nat.le_of_lt hk.2))⟩
theorem vr_new {w0 W w1 : World} (T : TypeId) {a b : Nat} {v : Value} {ns : List Hsh} (hs : w0.heap.size ≤ W.heap.size) (hr : kH.R 63 w1 W.heap.size (fun _ => True) v ns) (hb : Below W.heap.size W w1) :
    Vr w0 (w1.alloc (.cells #[.int .u64 a, .int .u64 b, v] T)) T W.heap.size w1.heap.size a b v ns ∧ Below W.heap.size W (w1.alloc (.cells #[.int .u64 a, .int .u64 b, v] T)) ∧ (w1.alloc (.cells #[.int .u64 a, .int .u64 b, v] T)).heap.size = w1.heap.size + 1 ∧ W.heap.size ≤ w1.heap.size :=
  ⟨⟨heap_new w1 _, (RwS.new hr hs).below (bl_new w1 _)⟩, blt hb (bl_new w1 _), by simp, hb.size⟩
/-- Hashes of the call's own are marked, and two are set behind them. -/
theorem mark_S (m : Int) (xs : List Hsh) (A : Option Addr) (n c : Nat) (w0 w : World) (S : Nat → Prop) (h : RwS kH 63 w0 w S (.slice A n c) xs) (hB : Below w0.heap.size w0 w) (hl : xs.length ≤ 1000000) :
    Calls Tryd.prog 52 #[.slice A n c, .int .u8 m] w fun e w' => ∃ A1 c1, e = .returned (.slice A1 (xs.length + 2) c1) ∧ RwS kH 63 w0 w' (fun k => S k ∨ w.heap.size ≤ k) (.slice A1 (xs.length + 2) c1) (List.replicate (xs.length + 2) (hash1 m)) ∧ Frm S w w' ∧ Below w0.heap.size w0 w' := by
  refine (mark_calls7 m xs A n c w0.heap.size w h.1 hB.size hl).mono ?_
  rintro e w' ⟨A1, c1, rfl, hr, hf, ho⟩
  refine ⟨A1, c1, rfl, ⟨hr, fun k hk => ?_⟩, ⟨hf.os, hf.tape, hf.output, hf.size, fun k hk hS => hf.block k hk (fun he => hS (h.2 k he.symm))⟩, hB.trans (hf.below hB.size (fun k hk => Kd.R_base h.1 k hk.symm))⟩
  rcases ho with ho | ⟨b, ho, hb⟩
  · exact .inl (h.2 k (ho ▸ hk))
  · rw [ho] at hk
    injection hk with hk
    exact .inr (hk ▸ hb)
set_option maxHeartbeats 40000000 in
set_option maxRecDepth 100000 in
theorem proof_reads_law (cC : Nat) (bs : List Int) (C : Option Addr) (w : World) (hC : Kd.C (Kd.int .u8) w C bs.length bs) (hcC : bs.length ≤ cC) (hbs : Bytes bs) (hT : DB w) :
    Calls Tryd.prog 9 #[.slice C bs.length cC] w fun e w' => e = .returned (.bool true) ∧ Below w.heap.size w w' := by
  by_cases hl3 : bs.length ≤ 9600
  · have HBs := Aside0.mk hC
    have HYs := Aside0.mk hbs
    have HT := Aside0.mk hT
    have hlp := decP_len hbs
    have hlx := decX_len hbs
    obtain ⟨⟨⟨na, ia, nsa⟩, ea⟩, hDa⟩ : ∃ x, decP bs = x := ⟨_, rfl⟩
    obtain ⟨⟨⟨mb, qb, xsb⟩, eb⟩, hDb⟩ : ∃ x, decX bs = x := ⟨_, rfl⟩
    rw [hDa] at hlp
    rw [hDb] at hlx
    dsimp only at hlp hlx
    have HDa := Aside0.mk hDa
    have HDb := Aside0.mk hDb
    have hea : (ea != ea) = false := by simp
    have heb : (eb != eb) = false := by simp
    have HRef := Aside0.mk (fun W (hW : Below w.heap.size w W) => ref7_Decode bs C bs.length cC W hbs rfl (by omega) hcC (Kd.C_below hC hW))
    have HRfx := Aside0.mk (fun W (hW : Below w.heap.size w W) => ref7_DecodePrefix bs C bs.length cC W hbs rfl (by omega) hcC (Kd.C_below hC hW))
    have HDec := Aside0.mk (fun W A c (hc : bs.length ≤ c) (hC : Kd.C (Kd.int .u8) W A bs.length bs) => proof_decode bs A bs.length c W hbs rfl (by omega) hc hC)
    have HDex := Aside0.mk (fun W A c (hc : bs.length ≤ c) (hC : Kd.C (Kd.int .u8) W A bs.length bs) (hT : DB W) => pref_decode bs A bs.length c W hbs rfl (by omega) hc hC hT)
    have htx := text_calls bs C cC w (by omega) hC
    clear hC hbs hT hDa hDb
    go_enter Tryd.func9, Tryd.ntmps9
    go_wp2_with fail
    refine htx.mono ?_
    rintro e w3 ⟨A3, c3, rfl, hr, hb⟩
    have V0 := Aside0.mk (RwS.new hr (Nat.le_refl _))
    have HB := Aside0.mk hb
    have Z3 := Aside0.mk hb.size
    have hcap := R_capk hr
    rw [List.length_append, List.length_singleton] at hcap
    have HCap := Aside0.mk hcap
    clear hr hb htx hcap
    go_wp2_with fail
    refine (HRef.out _ HB.out).mono ?_
    intro e w4 hd
    obtain ⟨v, he, hr, hb⟩ := hd
    rw [HDa.out] at he hr
    dsimp only at he hr
    subst he
    obtain ⟨A4, n4, c4, e9⟩ : ∃ A m c, v = .slice A m c := by obtain ⟨A, c, h⟩ := Kd.R_slice hr; exact ⟨A, _, c, h⟩
    subst e9
    have hq := (Kd.R_reads' hr).1
    subst hq
    obtain ⟨hv, hb2, hz1, hz2⟩ := vr_new (a := na) (b := ia) 41 HB.out.size hr hb
    try replace V0 := Aside0.mk (V0.out.below hb2)
    try replace X4 := Aside0.mk (X4.out.below hb2)
    try replace X6 := Aside0.mk (X6.out.below hb2)
    try replace X8 := Aside0.mk (X8.out.below hb2)
    try replace X10 := Aside0.mk (X10.out.below hb2)
    try replace X12 := Aside0.mk (X12.out.below hb2)
    try replace X14 := Aside0.mk (X14.out.below hb2)
    try replace U8 := Aside0.mk (U8.out.below hb2)
    try replace U10 := Aside0.mk (U10.out.below hb2)
    try replace U12 := Aside0.mk (U12.out.below hb2)
    try replace U14 := Aside0.mk (U14.out.below hb2)
    try replace E4 := Aside0.mk ((hb2.block _ (blk_lt E4.out)).trans E4.out)
    try replace E8 := Aside0.mk ((hb2.block _ (blk_lt E8.out)).trans E8.out)
    try replace E10 := Aside0.mk ((hb2.block _ (blk_lt E10.out)).trans E10.out)
    try replace E12 := Aside0.mk ((hb2.block _ (blk_lt E12.out)).trans E12.out)
    try replace E14 := Aside0.mk ((hb2.block _ (blk_lt E14.out)).trans E14.out)
    replace HB := Aside0.mk (blt HB.out hb2)
    have X4 := Aside0.mk hv
    have Z4 := Aside0.mk (And.intro hz1 hz2)
    clear hv hb hb2 hr hz1 hz2
    go_wp2_with fail
    generalize w4.alloc (.cells #[.int .u64 na, .int .u64 ia, .slice A4 nsa.length c4] 41) = W4 at *
    generalize w4.heap.size = g4 at *
    refine (HRfx.out _ HB.out).mono ?_
    intro e w6 hd
    obtain ⟨v, he, hr, hb⟩ := hd
    rw [HDb.out] at he hr
    dsimp only at he hr
    subst he
    obtain ⟨A6, n6, c6, e9⟩ : ∃ A m c, v = .slice A m c := by obtain ⟨A, c, h⟩ := Kd.R_slice hr; exact ⟨A, _, c, h⟩
    subst e9
    have hq := (Kd.R_reads' hr).1
    subst hq
    obtain ⟨hv, hb2, hz1, hz2⟩ := vr_new (a := mb) (b := qb) 43 HB.out.size hr hb
    try replace V0 := Aside0.mk (V0.out.below hb2)
    try replace X4 := Aside0.mk (X4.out.below hb2)
    try replace X6 := Aside0.mk (X6.out.below hb2)
    try replace X8 := Aside0.mk (X8.out.below hb2)
    try replace X10 := Aside0.mk (X10.out.below hb2)
    try replace X12 := Aside0.mk (X12.out.below hb2)
    try replace X14 := Aside0.mk (X14.out.below hb2)
    try replace U8 := Aside0.mk (U8.out.below hb2)
    try replace U10 := Aside0.mk (U10.out.below hb2)
    try replace U12 := Aside0.mk (U12.out.below hb2)
    try replace U14 := Aside0.mk (U14.out.below hb2)
    try replace E4 := Aside0.mk ((hb2.block _ (blk_lt E4.out)).trans E4.out)
    try replace E8 := Aside0.mk ((hb2.block _ (blk_lt E8.out)).trans E8.out)
    try replace E10 := Aside0.mk ((hb2.block _ (blk_lt E10.out)).trans E10.out)
    try replace E12 := Aside0.mk ((hb2.block _ (blk_lt E12.out)).trans E12.out)
    try replace E14 := Aside0.mk ((hb2.block _ (blk_lt E14.out)).trans E14.out)
    replace HB := Aside0.mk (blt HB.out hb2)
    have X6 := Aside0.mk hv
    have Z6 := Aside0.mk (And.intro hz1 hz2)
    clear hv hb hb2 hr hz1 hz2
    go_wp2_with fail
    generalize w6.alloc (.cells #[.int .u64 mb, .int .u64 qb, .slice A6 xsb.length c6] 43) = W6 at *
    generalize w6.heap.size = g6 at *
    refine (HDec.out _ A3 c3 (by have := HCap.out; omega) (C_cut (R_C V0.out.1) bs.length rfl)).mono ?_
    intro e w8 hd
    obtain ⟨v, he, hr, hb⟩ := hd
    rw [HDa.out] at he hr
    dsimp only at he hr
    subst he
    obtain ⟨A8, n8, c8, e9⟩ : ∃ A m c, v = .slice A m c := by obtain ⟨A, c, h⟩ := Kd.R_slice hr; exact ⟨A, _, c, h⟩
    subst e9
    have hq := (Kd.R_reads' hr).1
    subst hq
    obtain ⟨hv, hb2, hz1, hz2⟩ := vr_new (a := na) (b := ia) 41 HB.out.size hr hb
    try replace V0 := Aside0.mk (V0.out.below hb2)
    try replace X4 := Aside0.mk (X4.out.below hb2)
    try replace X6 := Aside0.mk (X6.out.below hb2)
    try replace X8 := Aside0.mk (X8.out.below hb2)
    try replace X10 := Aside0.mk (X10.out.below hb2)
    try replace X12 := Aside0.mk (X12.out.below hb2)
    try replace X14 := Aside0.mk (X14.out.below hb2)
    try replace U8 := Aside0.mk (U8.out.below hb2)
    try replace U10 := Aside0.mk (U10.out.below hb2)
    try replace U12 := Aside0.mk (U12.out.below hb2)
    try replace U14 := Aside0.mk (U14.out.below hb2)
    try replace E4 := Aside0.mk ((hb2.block _ (blk_lt E4.out)).trans E4.out)
    try replace E8 := Aside0.mk ((hb2.block _ (blk_lt E8.out)).trans E8.out)
    try replace E10 := Aside0.mk ((hb2.block _ (blk_lt E10.out)).trans E10.out)
    try replace E12 := Aside0.mk ((hb2.block _ (blk_lt E12.out)).trans E12.out)
    try replace E14 := Aside0.mk ((hb2.block _ (blk_lt E14.out)).trans E14.out)
    replace HB := Aside0.mk (blt HB.out hb2)
    have X8 := Aside0.mk hv
    have Z8 := Aside0.mk (And.intro hz1 hz2)
    clear hv hb hb2 hr hz1 hz2
    go_wp2_with fail
    generalize w8.alloc (.cells #[.int .u64 na, .int .u64 ia, .slice A8 nsa.length c8] 41) = W8 at *
    generalize w8.heap.size = g8 at *
    refine (HDec.out _ A3 c3 (by have := HCap.out; omega) (C_cut (R_C V0.out.1) bs.length rfl)).mono ?_
    intro e w10 hd
    obtain ⟨v, he, hr, hb⟩ := hd
    rw [HDa.out] at he hr
    dsimp only at he hr
    subst he
    obtain ⟨A10, n10, c10, e9⟩ : ∃ A m c, v = .slice A m c := by obtain ⟨A, c, h⟩ := Kd.R_slice hr; exact ⟨A, _, c, h⟩
    subst e9
    have hq := (Kd.R_reads' hr).1
    subst hq
    obtain ⟨hv, hb2, hz1, hz2⟩ := vr_new (a := na) (b := ia) 41 HB.out.size hr hb
    try replace V0 := Aside0.mk (V0.out.below hb2)
    try replace X4 := Aside0.mk (X4.out.below hb2)
    try replace X6 := Aside0.mk (X6.out.below hb2)
    try replace X8 := Aside0.mk (X8.out.below hb2)
    try replace X10 := Aside0.mk (X10.out.below hb2)
    try replace X12 := Aside0.mk (X12.out.below hb2)
    try replace X14 := Aside0.mk (X14.out.below hb2)
    try replace U8 := Aside0.mk (U8.out.below hb2)
    try replace U10 := Aside0.mk (U10.out.below hb2)
    try replace U12 := Aside0.mk (U12.out.below hb2)
    try replace U14 := Aside0.mk (U14.out.below hb2)
    try replace E4 := Aside0.mk ((hb2.block _ (blk_lt E4.out)).trans E4.out)
    try replace E8 := Aside0.mk ((hb2.block _ (blk_lt E8.out)).trans E8.out)
    try replace E10 := Aside0.mk ((hb2.block _ (blk_lt E10.out)).trans E10.out)
    try replace E12 := Aside0.mk ((hb2.block _ (blk_lt E12.out)).trans E12.out)
    try replace E14 := Aside0.mk ((hb2.block _ (blk_lt E14.out)).trans E14.out)
    replace HB := Aside0.mk (blt HB.out hb2)
    have X10 := Aside0.mk hv
    have Z10 := Aside0.mk (And.intro hz1 hz2)
    clear hv hb hb2 hr hz1 hz2
    go_wp2_with fail
    generalize w10.alloc (.cells #[.int .u64 na, .int .u64 ia, .slice A10 nsa.length c10] 41) = W10 at *
    generalize w10.heap.size = g10 at *
    refine (HDex.out _ A3 c3 (by have := HCap.out; omega) (C_cut (R_C V0.out.1) bs.length rfl) (HT.out.below HB.out)).mono ?_
    intro e w12 hd
    obtain ⟨v, he, hr, hb⟩ := hd
    rw [HDb.out] at he hr
    dsimp only at he hr
    subst he
    obtain ⟨A12, n12, c12, e9⟩ : ∃ A m c, v = .slice A m c := by obtain ⟨A, c, h⟩ := Kd.R_slice hr; exact ⟨A, _, c, h⟩
    subst e9
    have hq := (Kd.R_reads' hr).1
    subst hq
    obtain ⟨hv, hb2, hz1, hz2⟩ := vr_new (a := mb) (b := qb) 43 HB.out.size hr hb
    try replace V0 := Aside0.mk (V0.out.below hb2)
    try replace X4 := Aside0.mk (X4.out.below hb2)
    try replace X6 := Aside0.mk (X6.out.below hb2)
    try replace X8 := Aside0.mk (X8.out.below hb2)
    try replace X10 := Aside0.mk (X10.out.below hb2)
    try replace X12 := Aside0.mk (X12.out.below hb2)
    try replace X14 := Aside0.mk (X14.out.below hb2)
    try replace U8 := Aside0.mk (U8.out.below hb2)
    try replace U10 := Aside0.mk (U10.out.below hb2)
    try replace U12 := Aside0.mk (U12.out.below hb2)
    try replace U14 := Aside0.mk (U14.out.below hb2)
    try replace E4 := Aside0.mk ((hb2.block _ (blk_lt E4.out)).trans E4.out)
    try replace E8 := Aside0.mk ((hb2.block _ (blk_lt E8.out)).trans E8.out)
    try replace E10 := Aside0.mk ((hb2.block _ (blk_lt E10.out)).trans E10.out)
    try replace E12 := Aside0.mk ((hb2.block _ (blk_lt E12.out)).trans E12.out)
    try replace E14 := Aside0.mk ((hb2.block _ (blk_lt E14.out)).trans E14.out)
    replace HB := Aside0.mk (blt HB.out hb2)
    have X12 := Aside0.mk hv
    have Z12 := Aside0.mk (And.intro hz1 hz2)
    clear hv hb hb2 hr hz1 hz2
    go_wp2_with fail
    generalize w12.alloc (.cells #[.int .u64 mb, .int .u64 qb, .slice A12 xsb.length c12] 43) = W12 at *
    generalize w12.heap.size = g12 at *
    refine (HDex.out _ A3 c3 (by have := HCap.out; omega) (C_cut (R_C V0.out.1) bs.length rfl) (HT.out.below HB.out)).mono ?_
    intro e w14 hd
    obtain ⟨v, he, hr, hb⟩ := hd
    rw [HDb.out] at he hr
    dsimp only at he hr
    subst he
    obtain ⟨A14, n14, c14, e9⟩ : ∃ A m c, v = .slice A m c := by obtain ⟨A, c, h⟩ := Kd.R_slice hr; exact ⟨A, _, c, h⟩
    subst e9
    have hq := (Kd.R_reads' hr).1
    subst hq
    obtain ⟨hv, hb2, hz1, hz2⟩ := vr_new (a := mb) (b := qb) 43 HB.out.size hr hb
    try replace V0 := Aside0.mk (V0.out.below hb2)
    try replace X4 := Aside0.mk (X4.out.below hb2)
    try replace X6 := Aside0.mk (X6.out.below hb2)
    try replace X8 := Aside0.mk (X8.out.below hb2)
    try replace X10 := Aside0.mk (X10.out.below hb2)
    try replace X12 := Aside0.mk (X12.out.below hb2)
    try replace X14 := Aside0.mk (X14.out.below hb2)
    try replace U8 := Aside0.mk (U8.out.below hb2)
    try replace U10 := Aside0.mk (U10.out.below hb2)
    try replace U12 := Aside0.mk (U12.out.below hb2)
    try replace U14 := Aside0.mk (U14.out.below hb2)
    try replace E4 := Aside0.mk ((hb2.block _ (blk_lt E4.out)).trans E4.out)
    try replace E8 := Aside0.mk ((hb2.block _ (blk_lt E8.out)).trans E8.out)
    try replace E10 := Aside0.mk ((hb2.block _ (blk_lt E10.out)).trans E10.out)
    try replace E12 := Aside0.mk ((hb2.block _ (blk_lt E12.out)).trans E12.out)
    try replace E14 := Aside0.mk ((hb2.block _ (blk_lt E14.out)).trans E14.out)
    replace HB := Aside0.mk (blt HB.out hb2)
    have X14 := Aside0.mk hv
    have Z14 := Aside0.mk (And.intro hz1 hz2)
    clear hv hb hb2 hr hz1 hz2
    go_upto_region 10 with (fail)
    generalize w14.alloc (.cells #[.int .u64 mb, .int .u64 qb, .slice A14 xsb.length c14] 43) = W14 at *
    generalize w14.heap.size = g14 at *
    have c0_ := (blk_cell X8.out.1 0).trans (rfl : _ = some (Value.int .u64 na))
    have c1_ := (blk_cell X8.out.1 1).trans (rfl : _ = some (Value.int .u64 ia))
    have c2_ := (blk_cell X8.out.1 2).trans (rfl : _ = some (Value.slice A8 nsa.length c8))
    have d0_ := (blk_cell X4.out.1 0).trans (rfl : _ = some (Value.int .u64 na))
    have d1_ := (blk_cell X4.out.1 1).trans (rfl : _ = some (Value.int .u64 ia))
    have d2_ := (blk_cell X4.out.1 2).trans (rfl : _ = some (Value.slice A4 nsa.length c4))
    go_wp2_with fail
    refine (same_proofs _ _ _ _ _ _ _ _ (by omega) (R_C X8.out.2.1) (R_C X4.out.2.1)).mono ?_
    rintro e w20 ⟨rfl, hb⟩
    try replace V0 := Aside0.mk (V0.out.below hb)
    try replace X4 := Aside0.mk (X4.out.below hb)
    try replace X6 := Aside0.mk (X6.out.below hb)
    try replace X8 := Aside0.mk (X8.out.below hb)
    try replace X10 := Aside0.mk (X10.out.below hb)
    try replace X12 := Aside0.mk (X12.out.below hb)
    try replace X14 := Aside0.mk (X14.out.below hb)
    try replace U8 := Aside0.mk (U8.out.below hb)
    try replace U10 := Aside0.mk (U10.out.below hb)
    try replace U12 := Aside0.mk (U12.out.below hb)
    try replace U14 := Aside0.mk (U14.out.below hb)
    try replace E4 := Aside0.mk ((hb.block _ (blk_lt E4.out)).trans E4.out)
    try replace E8 := Aside0.mk ((hb.block _ (blk_lt E8.out)).trans E8.out)
    try replace E10 := Aside0.mk ((hb.block _ (blk_lt E10.out)).trans E10.out)
    try replace E12 := Aside0.mk ((hb.block _ (blk_lt E12.out)).trans E12.out)
    try replace E14 := Aside0.mk ((hb.block _ (blk_lt E14.out)).trans E14.out)
    replace HB := Aside0.mk (blt HB.out hb)
    clear hb c0_ c1_ c2_ d0_ d1_ d2_
    have c0_ := (blk_cell X10.out.1 0).trans (rfl : _ = some (Value.int .u64 na))
    have c1_ := (blk_cell X10.out.1 1).trans (rfl : _ = some (Value.int .u64 ia))
    have c2_ := (blk_cell X10.out.1 2).trans (rfl : _ = some (Value.slice A10 nsa.length c10))
    have d0_ := (blk_cell X4.out.1 0).trans (rfl : _ = some (Value.int .u64 na))
    have d1_ := (blk_cell X4.out.1 1).trans (rfl : _ = some (Value.int .u64 ia))
    have d2_ := (blk_cell X4.out.1 2).trans (rfl : _ = some (Value.slice A4 nsa.length c4))
    go_wp2_with fail
    refine (same_proofs _ _ _ _ _ _ _ _ (by omega) (R_C X10.out.2.1) (R_C X4.out.2.1)).mono ?_
    rintro e w21 ⟨rfl, hb⟩
    try replace V0 := Aside0.mk (V0.out.below hb)
    try replace X4 := Aside0.mk (X4.out.below hb)
    try replace X6 := Aside0.mk (X6.out.below hb)
    try replace X8 := Aside0.mk (X8.out.below hb)
    try replace X10 := Aside0.mk (X10.out.below hb)
    try replace X12 := Aside0.mk (X12.out.below hb)
    try replace X14 := Aside0.mk (X14.out.below hb)
    try replace U8 := Aside0.mk (U8.out.below hb)
    try replace U10 := Aside0.mk (U10.out.below hb)
    try replace U12 := Aside0.mk (U12.out.below hb)
    try replace U14 := Aside0.mk (U14.out.below hb)
    try replace E4 := Aside0.mk ((hb.block _ (blk_lt E4.out)).trans E4.out)
    try replace E8 := Aside0.mk ((hb.block _ (blk_lt E8.out)).trans E8.out)
    try replace E10 := Aside0.mk ((hb.block _ (blk_lt E10.out)).trans E10.out)
    try replace E12 := Aside0.mk ((hb.block _ (blk_lt E12.out)).trans E12.out)
    try replace E14 := Aside0.mk ((hb.block _ (blk_lt E14.out)).trans E14.out)
    replace HB := Aside0.mk (blt HB.out hb)
    clear hb c0_ c1_ c2_ d0_ d1_ d2_
    have c0_ := (blk_cell X12.out.1 0).trans (rfl : _ = some (Value.int .u64 mb))
    have c1_ := (blk_cell X12.out.1 1).trans (rfl : _ = some (Value.int .u64 qb))
    have c2_ := (blk_cell X12.out.1 2).trans (rfl : _ = some (Value.slice A12 xsb.length c12))
    have d0_ := (blk_cell X6.out.1 0).trans (rfl : _ = some (Value.int .u64 mb))
    have d1_ := (blk_cell X6.out.1 1).trans (rfl : _ = some (Value.int .u64 qb))
    have d2_ := (blk_cell X6.out.1 2).trans (rfl : _ = some (Value.slice A6 xsb.length c6))
    go_wp2_with fail
    refine (same_prefs _ _ _ _ _ _ _ _ (by omega) (R_C X12.out.2.1) (R_C X6.out.2.1)).mono ?_
    rintro e w22 ⟨rfl, hb⟩
    try replace V0 := Aside0.mk (V0.out.below hb)
    try replace X4 := Aside0.mk (X4.out.below hb)
    try replace X6 := Aside0.mk (X6.out.below hb)
    try replace X8 := Aside0.mk (X8.out.below hb)
    try replace X10 := Aside0.mk (X10.out.below hb)
    try replace X12 := Aside0.mk (X12.out.below hb)
    try replace X14 := Aside0.mk (X14.out.below hb)
    try replace U8 := Aside0.mk (U8.out.below hb)
    try replace U10 := Aside0.mk (U10.out.below hb)
    try replace U12 := Aside0.mk (U12.out.below hb)
    try replace U14 := Aside0.mk (U14.out.below hb)
    try replace E4 := Aside0.mk ((hb.block _ (blk_lt E4.out)).trans E4.out)
    try replace E8 := Aside0.mk ((hb.block _ (blk_lt E8.out)).trans E8.out)
    try replace E10 := Aside0.mk ((hb.block _ (blk_lt E10.out)).trans E10.out)
    try replace E12 := Aside0.mk ((hb.block _ (blk_lt E12.out)).trans E12.out)
    try replace E14 := Aside0.mk ((hb.block _ (blk_lt E14.out)).trans E14.out)
    replace HB := Aside0.mk (blt HB.out hb)
    clear hb c0_ c1_ c2_ d0_ d1_ d2_
    have c0_ := (blk_cell X14.out.1 0).trans (rfl : _ = some (Value.int .u64 mb))
    have c1_ := (blk_cell X14.out.1 1).trans (rfl : _ = some (Value.int .u64 qb))
    have c2_ := (blk_cell X14.out.1 2).trans (rfl : _ = some (Value.slice A14 xsb.length c14))
    have d0_ := (blk_cell X6.out.1 0).trans (rfl : _ = some (Value.int .u64 mb))
    have d1_ := (blk_cell X6.out.1 1).trans (rfl : _ = some (Value.int .u64 qb))
    have d2_ := (blk_cell X6.out.1 2).trans (rfl : _ = some (Value.slice A6 xsb.length c6))
    go_wp2_with fail
    refine (same_prefs _ _ _ _ _ _ _ _ (by omega) (R_C X14.out.2.1) (R_C X6.out.2.1)).mono ?_
    rintro e w23 ⟨rfl, hb⟩
    try replace V0 := Aside0.mk (V0.out.below hb)
    try replace X4 := Aside0.mk (X4.out.below hb)
    try replace X6 := Aside0.mk (X6.out.below hb)
    try replace X8 := Aside0.mk (X8.out.below hb)
    try replace X10 := Aside0.mk (X10.out.below hb)
    try replace X12 := Aside0.mk (X12.out.below hb)
    try replace X14 := Aside0.mk (X14.out.below hb)
    try replace U8 := Aside0.mk (U8.out.below hb)
    try replace U10 := Aside0.mk (U10.out.below hb)
    try replace U12 := Aside0.mk (U12.out.below hb)
    try replace U14 := Aside0.mk (U14.out.below hb)
    try replace E4 := Aside0.mk ((hb.block _ (blk_lt E4.out)).trans E4.out)
    try replace E8 := Aside0.mk ((hb.block _ (blk_lt E8.out)).trans E8.out)
    try replace E10 := Aside0.mk ((hb.block _ (blk_lt E10.out)).trans E10.out)
    try replace E12 := Aside0.mk ((hb.block _ (blk_lt E12.out)).trans E12.out)
    try replace E14 := Aside0.mk ((hb.block _ (blk_lt E14.out)).trans E14.out)
    replace HB := Aside0.mk (blt HB.out hb)
    clear hb c0_ c1_ c2_ d0_ d1_ d2_
    go_wp2_with fail
    have hrd : Rd .u8 w23 (.slice A3 bs.length c3) bs := ⟨A3, c3, rfl, by have := HCap.out; omega, C_cut (R_C V0.out.1) bs.length rfl⟩
    have hrd2 : Rd .u8 w23 (.slice C bs.length cC) bs := ⟨C, cC, rfl, hcC, Kd.C_below HBs.out HB.out⟩
    refine (bytes7_true hrd hrd2 (by omega)).mono ?_
    rintro e w24 ⟨rfl, hd⟩
    have hb := hd.below
    try replace V0 := Aside0.mk (V0.out.below hb)
    try replace X4 := Aside0.mk (X4.out.below hb)
    try replace X6 := Aside0.mk (X6.out.below hb)
    try replace X8 := Aside0.mk (X8.out.below hb)
    try replace X10 := Aside0.mk (X10.out.below hb)
    try replace X12 := Aside0.mk (X12.out.below hb)
    try replace X14 := Aside0.mk (X14.out.below hb)
    try replace U8 := Aside0.mk (U8.out.below hb)
    try replace U10 := Aside0.mk (U10.out.below hb)
    try replace U12 := Aside0.mk (U12.out.below hb)
    try replace U14 := Aside0.mk (U14.out.below hb)
    try replace E4 := Aside0.mk ((hb.block _ (blk_lt E4.out)).trans E4.out)
    try replace E8 := Aside0.mk ((hb.block _ (blk_lt E8.out)).trans E8.out)
    try replace E10 := Aside0.mk ((hb.block _ (blk_lt E10.out)).trans E10.out)
    try replace E12 := Aside0.mk ((hb.block _ (blk_lt E12.out)).trans E12.out)
    try replace E14 := Aside0.mk ((hb.block _ (blk_lt E14.out)).trans E14.out)
    replace HB := Aside0.mk (blt HB.out hb)
    clear hb hd hrd hrd2
    go_wp2_with fail
    refine (still7_calls bs A3 c3 _ (by omega) HCap.out.2.1 HCap.out.2.2 (R_C V0.out.1)).mono ?_
    rintro e w25 ⟨rfl, hb⟩
    try replace V0 := Aside0.mk (V0.out.below hb)
    try replace X4 := Aside0.mk (X4.out.below hb)
    try replace X6 := Aside0.mk (X6.out.below hb)
    try replace X8 := Aside0.mk (X8.out.below hb)
    try replace X10 := Aside0.mk (X10.out.below hb)
    try replace X12 := Aside0.mk (X12.out.below hb)
    try replace X14 := Aside0.mk (X14.out.below hb)
    try replace U8 := Aside0.mk (U8.out.below hb)
    try replace U10 := Aside0.mk (U10.out.below hb)
    try replace U12 := Aside0.mk (U12.out.below hb)
    try replace U14 := Aside0.mk (U14.out.below hb)
    try replace E4 := Aside0.mk ((hb.block _ (blk_lt E4.out)).trans E4.out)
    try replace E8 := Aside0.mk ((hb.block _ (blk_lt E8.out)).trans E8.out)
    try replace E10 := Aside0.mk ((hb.block _ (blk_lt E10.out)).trans E10.out)
    try replace E12 := Aside0.mk ((hb.block _ (blk_lt E12.out)).trans E12.out)
    try replace E14 := Aside0.mk ((hb.block _ (blk_lt E14.out)).trans E14.out)
    replace HB := Aside0.mk (blt HB.out hb)
    clear hb
    go_wp2_with fail
    have HF0 := Aside0.mk (Frm.refl (fun k => w.heap.size ≤ k ∧ k < w3.heap.size) w25)
    have HOwn := Aside0.mk V0.out.2
    have HM0 := Aside0.mk (show (bs ++ [(171 : Int)]).length = bs.length + 1 ∧ Bytes (bs ++ [171]) from ⟨by simp, fun y hy => by
      rcases List.mem_append.1 hy with hy | hy
      · exact HYs.out y hy
      · simp only [List.mem_singleton] at hy; omega⟩)
    have HRow := Aside0.mk V0.out.1
    clear V0
    go_loopw [16] (fun s wr => ∃ (j : Nat) (M : List Int), j ≤ bs.length ∧ s = .int .i64 j ∧ Aside0 (M.length = bs.length + 1 ∧ Bytes M) ∧ Aside0 (Kd.R (Kd.int .u8) 5 wr w.heap.size (fun _ => True) (.slice A3 (bs.length + 1) c3) M) ∧ Aside0 (Frm (fun k => w.heap.size ≤ k ∧ k < w3.heap.size) w25 wr)) (fun s _ => bs.length - (intOf s).toNat)
    case atStart => exact ⟨0, bs ++ [171], Nat.zero_le _, rfl, HM0, HRow, HF0⟩
    case round =>
      obtain ⟨j, M, hj, rfl, HM, HX, HF⟩ := hrel
      clear HF0 HM0 HRow
      by_cases hlt : j < bs.length
      · obtain ⟨g, cap, ea', _, _, _⟩ := Kd.R_form HX.out (by rw [HM.out.1]; omega)
        injection ea' with ea1 ea2 ea3
        subst ea1 ea3
        obtain ⟨⟨z, k1⟩, k2, k3⟩ := row_round HX.out j (by omega)
        have HPut := Aside0.mk k3
        have HG := Aside0.mk (HOwn.out g (by simp [Value.ownBlock]))
        clear ea2 k3
        go_wp2_with fail
        go_roundw
        case rel => exact ⟨j + 1, _, by omega, by go_num, ⟨by rw [List.length_set]; exact HM.out.1, bytes_set HM.out.2 j _⟩, ⟨HPut.out _⟩, ⟨HF.out.trans (Frm.of_set _ _ _) (fun i _ h => by have h : i = g := h; subst h; exact HG.out)⟩⟩
        case measure => simp [intOf]; omega
      · have hjl : j = bs.length := by omega
        subst hjl
        have hf := HF.out
        try replace X4 := Aside0.mk (X4.out.frm hf (fun k h1 h2 h3 => by
            try dsimp only at h3
            have q3 := Z3.out
            have q4 := Z4.out
            have q6 := Z6.out
            have q8 := Z8.out
            have q10 := Z10.out
            have q12 := Z12.out
            have q14 := Z14.out
            try have q20 := Z20.out
            try have q21 := Z21.out
            try have q22 := Z22.out
            try have q23 := Z23.out
            omega) Z4.out.2)
        try replace X6 := Aside0.mk (X6.out.frm hf (fun k h1 h2 h3 => by
            try dsimp only at h3
            have q3 := Z3.out
            have q4 := Z4.out
            have q6 := Z6.out
            have q8 := Z8.out
            have q10 := Z10.out
            have q12 := Z12.out
            have q14 := Z14.out
            try have q20 := Z20.out
            try have q21 := Z21.out
            try have q22 := Z22.out
            try have q23 := Z23.out
            omega) Z6.out.2)
        try replace X8 := Aside0.mk (X8.out.frm hf (fun k h1 h2 h3 => by
            try dsimp only at h3
            have q3 := Z3.out
            have q4 := Z4.out
            have q6 := Z6.out
            have q8 := Z8.out
            have q10 := Z10.out
            have q12 := Z12.out
            have q14 := Z14.out
            try have q20 := Z20.out
            try have q21 := Z21.out
            try have q22 := Z22.out
            try have q23 := Z23.out
            omega) Z8.out.2)
        try replace X10 := Aside0.mk (X10.out.frm hf (fun k h1 h2 h3 => by
            try dsimp only at h3
            have q3 := Z3.out
            have q4 := Z4.out
            have q6 := Z6.out
            have q8 := Z8.out
            have q10 := Z10.out
            have q12 := Z12.out
            have q14 := Z14.out
            try have q20 := Z20.out
            try have q21 := Z21.out
            try have q22 := Z22.out
            try have q23 := Z23.out
            omega) Z10.out.2)
        try replace X12 := Aside0.mk (X12.out.frm hf (fun k h1 h2 h3 => by
            try dsimp only at h3
            have q3 := Z3.out
            have q4 := Z4.out
            have q6 := Z6.out
            have q8 := Z8.out
            have q10 := Z10.out
            have q12 := Z12.out
            have q14 := Z14.out
            try have q20 := Z20.out
            try have q21 := Z21.out
            try have q22 := Z22.out
            try have q23 := Z23.out
            omega) Z12.out.2)
        try replace X14 := Aside0.mk (X14.out.frm hf (fun k h1 h2 h3 => by
            try dsimp only at h3
            have q3 := Z3.out
            have q4 := Z4.out
            have q6 := Z6.out
            have q8 := Z8.out
            have q10 := Z10.out
            have q12 := Z12.out
            have q14 := Z14.out
            try have q20 := Z20.out
            try have q21 := Z21.out
            try have q22 := Z22.out
            try have q23 := Z23.out
            omega) Z14.out.2)
        replace HB := Aside0.mk (HB.out.trans (hf.below HB.out.size (fun k hk => hk.1)))
        have V0 := Aside0.mk (show RwS (Kd.int .u8) 5 w wr (fun k => w.heap.size ≤ k ∧ k < w3.heap.size) (.slice A3 (bs.length + 1) c3) M from ⟨HX.out, HOwn.out⟩)
        clear hf HF hlt HX
        have c0_ := (blk_cell X8.out.1 0).trans (rfl : _ = some (Value.int .u64 na))
        have c1_ := (blk_cell X8.out.1 1).trans (rfl : _ = some (Value.int .u64 ia))
        have c2_ := (blk_cell X8.out.1 2).trans (rfl : _ = some (Value.slice A8 nsa.length c8))
        have d0_ := (blk_cell X4.out.1 0).trans (rfl : _ = some (Value.int .u64 na))
        have d1_ := (blk_cell X4.out.1 1).trans (rfl : _ = some (Value.int .u64 ia))
        have d2_ := (blk_cell X4.out.1 2).trans (rfl : _ = some (Value.slice A4 nsa.length c4))
        go_wp2_with fail
        refine (same_proofs _ _ _ _ _ _ _ _ (by omega) (R_C X8.out.2.1) (R_C X4.out.2.1)).mono ?_
        rintro e w26 ⟨rfl, hb⟩
        try replace V0 := Aside0.mk (V0.out.below hb)
        try replace X4 := Aside0.mk (X4.out.below hb)
        try replace X6 := Aside0.mk (X6.out.below hb)
        try replace X8 := Aside0.mk (X8.out.below hb)
        try replace X10 := Aside0.mk (X10.out.below hb)
        try replace X12 := Aside0.mk (X12.out.below hb)
        try replace X14 := Aside0.mk (X14.out.below hb)
        try replace U8 := Aside0.mk (U8.out.below hb)
        try replace U10 := Aside0.mk (U10.out.below hb)
        try replace U12 := Aside0.mk (U12.out.below hb)
        try replace U14 := Aside0.mk (U14.out.below hb)
        try replace E4 := Aside0.mk ((hb.block _ (blk_lt E4.out)).trans E4.out)
        try replace E8 := Aside0.mk ((hb.block _ (blk_lt E8.out)).trans E8.out)
        try replace E10 := Aside0.mk ((hb.block _ (blk_lt E10.out)).trans E10.out)
        try replace E12 := Aside0.mk ((hb.block _ (blk_lt E12.out)).trans E12.out)
        try replace E14 := Aside0.mk ((hb.block _ (blk_lt E14.out)).trans E14.out)
        replace HB := Aside0.mk (blt HB.out hb)
        clear hb c0_ c1_ c2_ d0_ d1_ d2_
        have c0_ := (blk_cell X12.out.1 0).trans (rfl : _ = some (Value.int .u64 mb))
        have c1_ := (blk_cell X12.out.1 1).trans (rfl : _ = some (Value.int .u64 qb))
        have c2_ := (blk_cell X12.out.1 2).trans (rfl : _ = some (Value.slice A12 xsb.length c12))
        have d0_ := (blk_cell X6.out.1 0).trans (rfl : _ = some (Value.int .u64 mb))
        have d1_ := (blk_cell X6.out.1 1).trans (rfl : _ = some (Value.int .u64 qb))
        have d2_ := (blk_cell X6.out.1 2).trans (rfl : _ = some (Value.slice A6 xsb.length c6))
        go_wp2_with fail
        refine (same_prefs _ _ _ _ _ _ _ _ (by omega) (R_C X12.out.2.1) (R_C X6.out.2.1)).mono ?_
        rintro e w27 ⟨rfl, hb⟩
        try replace V0 := Aside0.mk (V0.out.below hb)
        try replace X4 := Aside0.mk (X4.out.below hb)
        try replace X6 := Aside0.mk (X6.out.below hb)
        try replace X8 := Aside0.mk (X8.out.below hb)
        try replace X10 := Aside0.mk (X10.out.below hb)
        try replace X12 := Aside0.mk (X12.out.below hb)
        try replace X14 := Aside0.mk (X14.out.below hb)
        try replace U8 := Aside0.mk (U8.out.below hb)
        try replace U10 := Aside0.mk (U10.out.below hb)
        try replace U12 := Aside0.mk (U12.out.below hb)
        try replace U14 := Aside0.mk (U14.out.below hb)
        try replace E4 := Aside0.mk ((hb.block _ (blk_lt E4.out)).trans E4.out)
        try replace E8 := Aside0.mk ((hb.block _ (blk_lt E8.out)).trans E8.out)
        try replace E10 := Aside0.mk ((hb.block _ (blk_lt E10.out)).trans E10.out)
        try replace E12 := Aside0.mk ((hb.block _ (blk_lt E12.out)).trans E12.out)
        try replace E14 := Aside0.mk ((hb.block _ (blk_lt E14.out)).trans E14.out)
        replace HB := Aside0.mk (blt HB.out hb)
        clear hb c0_ c1_ c2_ d0_ d1_ d2_
        go_upto_region 18 with (fail)
        clear X6
        have hdr : Below w27.heap.size w27 w27.drew := below_drew (Below.refl _ _)
        try replace V0 := Aside0.mk (V0.out.below hdr)
        try replace X4 := Aside0.mk (X4.out.below hdr)
        try replace X6 := Aside0.mk (X6.out.below hdr)
        try replace X8 := Aside0.mk (X8.out.below hdr)
        try replace X10 := Aside0.mk (X10.out.below hdr)
        try replace X12 := Aside0.mk (X12.out.below hdr)
        try replace X14 := Aside0.mk (X14.out.below hdr)
        try replace U8 := Aside0.mk (U8.out.below hdr)
        try replace U10 := Aside0.mk (U10.out.below hdr)
        try replace U12 := Aside0.mk (U12.out.below hdr)
        try replace U14 := Aside0.mk (U14.out.below hdr)
        try replace E4 := Aside0.mk ((hdr.block _ (blk_lt E4.out)).trans E4.out)
        try replace E8 := Aside0.mk ((hdr.block _ (blk_lt E8.out)).trans E8.out)
        try replace E10 := Aside0.mk ((hdr.block _ (blk_lt E10.out)).trans E10.out)
        try replace E12 := Aside0.mk ((hdr.block _ (blk_lt E12.out)).trans E12.out)
        try replace E14 := Aside0.mk ((hdr.block _ (blk_lt E14.out)).trans E14.out)
        replace HB := Aside0.mk (blt HB.out hdr)
        have E4 := Aside0.mk X4.out.1
        have E8 := Aside0.mk X8.out.1
        have E10 := Aside0.mk X10.out.1
        have E12 := Aside0.mk X12.out.1
        have E14 := Aside0.mk X14.out.1
        have ZD := Aside0.mk (blk_lt X14.out.1)
        have U8 := Aside0.mk X8.out.2
        have U10 := Aside0.mk X10.out.2
        have U12 := Aside0.mk X12.out.2
        have U14 := Aside0.mk X14.out.2
        have hlp6 : nsa.length ≤ 1000000 := by omega
        have hlx6 : xsb.length ≤ 1000000 := by omega
        clear X4 X8 X10 X12 X14 hdr
        have y0a := (blk_cell E8.out 2).trans (rfl : _ = some (Value.slice A8 nsa.length c8))
        have y0b := (blk_cell E10.out 2).trans (rfl : _ = some (Value.slice A10 nsa.length c10))
        have y0c := (blk_cell E12.out 2).trans (rfl : _ = some (Value.slice A12 xsb.length c12))
        have y0d := (blk_cell E14.out 2).trans (rfl : _ = some (Value.slice A14 xsb.length c14))
        go_region_held3 (fun w' => w'.cell? ⟨g8, 2, none⟩ = some (.slice A8 nsa.length c8) ∧ w'.cell? ⟨g10, 2, none⟩ = some (.slice A10 nsa.length c10) ∧ w'.cell? ⟨g12, 2, none⟩ = some (.slice A12 xsb.length c12) ∧ w'.cell? ⟨g14, 2, none⟩ = some (.slice A14 xsb.length c14)) (first | exact ⟨y0a, y0b, y0c, y0d⟩ | exact ⟨y30a, y30b, y30c, y30d⟩ | exact ⟨y31a, y31b, y31c, y31d⟩ | exact ⟨y32a, y32b, y32c, y32d⟩ | exact ⟨y33a, y33b, y33c, y33d⟩) ((go_at_call 52; first | ((with_reducible refine (mark_S 201 nsa A8 (nsa).length c8 w _ _ U8.out HB.out hlp6).mono ?_); rintro e w30 ⟨B30, d30, rfl, hv, hf, hb⟩; clear U8; replace V0 := Aside0.mk (V0.out.frm (flat_int .u8) hf (fun k h1 h3 => by (try dsimp only at h1); (try dsimp only at h3); have qZ3 := Z3.out; have qZ4 := Z4.out; have qZ6 := Z6.out; have qZ8 := Z8.out; have qZ10 := Z10.out; have qZ12 := Z12.out; have qZ14 := Z14.out; have qZD := ZD.out; omega)); replace U10 := Aside0.mk (U10.out.frm flat_kH hf (fun k h1 h3 => by (try dsimp only at h1); (try dsimp only at h3); have qZ3 := Z3.out; have qZ4 := Z4.out; have qZ6 := Z6.out; have qZ8 := Z8.out; have qZ10 := Z10.out; have qZ12 := Z12.out; have qZ14 := Z14.out; have qZD := ZD.out; omega)); replace U12 := Aside0.mk (U12.out.frm flat_kH hf (fun k h1 h3 => by (try dsimp only at h1); (try dsimp only at h3); have qZ3 := Z3.out; have qZ4 := Z4.out; have qZ6 := Z6.out; have qZ8 := Z8.out; have qZ10 := Z10.out; have qZ12 := Z12.out; have qZ14 := Z14.out; have qZD := ZD.out; omega)); replace U14 := Aside0.mk (U14.out.frm flat_kH hf (fun k h1 h3 => by (try dsimp only at h1); (try dsimp only at h3); have qZ3 := Z3.out; have qZ4 := Z4.out; have qZ6 := Z6.out; have qZ8 := Z8.out; have qZ10 := Z10.out; have qZ12 := Z12.out; have qZ14 := Z14.out; have qZD := ZD.out; omega)); replace E4 := Aside0.mk ((hf.block _ (blk_lt E4.out) (by (try dsimp only); have qZ3 := Z3.out; have qZ4 := Z4.out; have qZ6 := Z6.out; have qZ8 := Z8.out; have qZ10 := Z10.out; have qZ12 := Z12.out; have qZ14 := Z14.out; have qZD := ZD.out; omega)).trans E4.out); replace E8 := Aside0.mk ((hf.block _ (blk_lt E8.out) (by (try dsimp only); have qZ3 := Z3.out; have qZ4 := Z4.out; have qZ6 := Z6.out; have qZ8 := Z8.out; have qZ10 := Z10.out; have qZ12 := Z12.out; have qZ14 := Z14.out; have qZD := ZD.out; omega)).trans E8.out); replace E10 := Aside0.mk ((hf.block _ (blk_lt E10.out) (by (try dsimp only); have qZ3 := Z3.out; have qZ4 := Z4.out; have qZ6 := Z6.out; have qZ8 := Z8.out; have qZ10 := Z10.out; have qZ12 := Z12.out; have qZ14 := Z14.out; have qZD := ZD.out; omega)).trans E10.out); replace E12 := Aside0.mk ((hf.block _ (blk_lt E12.out) (by (try dsimp only); have qZ3 := Z3.out; have qZ4 := Z4.out; have qZ6 := Z6.out; have qZ8 := Z8.out; have qZ10 := Z10.out; have qZ12 := Z12.out; have qZ14 := Z14.out; have qZD := ZD.out; omega)).trans E12.out); replace E14 := Aside0.mk ((hf.block _ (blk_lt E14.out) (by (try dsimp only); have qZ3 := Z3.out; have qZ4 := Z4.out; have qZ6 := Z6.out; have qZ8 := Z8.out; have qZ10 := Z10.out; have qZ12 := Z12.out; have qZ14 := Z14.out; have qZD := ZD.out; omega)).trans E14.out); have U8 := Aside0.mk hv; replace HB := Aside0.mk hb; have Z30 := Aside0.mk hf.size; clear hv hf hb; have y30a := (blk_cell E8.out 2).trans (rfl : _ = some (Value.slice A8 nsa.length c8)); have y30b := (blk_cell E10.out 2).trans (rfl : _ = some (Value.slice A10 nsa.length c10)); have y30c := (blk_cell E12.out 2).trans (rfl : _ = some (Value.slice A12 xsb.length c12)); have y30d := (blk_cell E14.out 2).trans (rfl : _ = some (Value.slice A14 xsb.length c14))) | ((with_reducible refine (mark_S 202 nsa A10 (nsa).length c10 w _ _ U10.out HB.out hlp6).mono ?_); rintro e w31 ⟨B31, d31, rfl, hv, hf, hb⟩; clear U10; replace V0 := Aside0.mk (V0.out.frm (flat_int .u8) hf (fun k h1 h3 => by (try dsimp only at h1); (try dsimp only at h3); have qZ3 := Z3.out; have qZ4 := Z4.out; have qZ6 := Z6.out; have qZ8 := Z8.out; have qZ10 := Z10.out; have qZ12 := Z12.out; have qZ14 := Z14.out; have qZD := ZD.out; have qZ30 := Z30.out; omega)); replace U8 := Aside0.mk (U8.out.frm flat_kH hf (fun k h1 h3 => by (try dsimp only at h1); (try dsimp only at h3); have qZ3 := Z3.out; have qZ4 := Z4.out; have qZ6 := Z6.out; have qZ8 := Z8.out; have qZ10 := Z10.out; have qZ12 := Z12.out; have qZ14 := Z14.out; have qZD := ZD.out; have qZ30 := Z30.out; omega)); replace U12 := Aside0.mk (U12.out.frm flat_kH hf (fun k h1 h3 => by (try dsimp only at h1); (try dsimp only at h3); have qZ3 := Z3.out; have qZ4 := Z4.out; have qZ6 := Z6.out; have qZ8 := Z8.out; have qZ10 := Z10.out; have qZ12 := Z12.out; have qZ14 := Z14.out; have qZD := ZD.out; have qZ30 := Z30.out; omega)); replace U14 := Aside0.mk (U14.out.frm flat_kH hf (fun k h1 h3 => by (try dsimp only at h1); (try dsimp only at h3); have qZ3 := Z3.out; have qZ4 := Z4.out; have qZ6 := Z6.out; have qZ8 := Z8.out; have qZ10 := Z10.out; have qZ12 := Z12.out; have qZ14 := Z14.out; have qZD := ZD.out; have qZ30 := Z30.out; omega)); replace E4 := Aside0.mk ((hf.block _ (blk_lt E4.out) (by (try dsimp only); have qZ3 := Z3.out; have qZ4 := Z4.out; have qZ6 := Z6.out; have qZ8 := Z8.out; have qZ10 := Z10.out; have qZ12 := Z12.out; have qZ14 := Z14.out; have qZD := ZD.out; have qZ30 := Z30.out; omega)).trans E4.out); replace E8 := Aside0.mk ((hf.block _ (blk_lt E8.out) (by (try dsimp only); have qZ3 := Z3.out; have qZ4 := Z4.out; have qZ6 := Z6.out; have qZ8 := Z8.out; have qZ10 := Z10.out; have qZ12 := Z12.out; have qZ14 := Z14.out; have qZD := ZD.out; have qZ30 := Z30.out; omega)).trans E8.out); replace E10 := Aside0.mk ((hf.block _ (blk_lt E10.out) (by (try dsimp only); have qZ3 := Z3.out; have qZ4 := Z4.out; have qZ6 := Z6.out; have qZ8 := Z8.out; have qZ10 := Z10.out; have qZ12 := Z12.out; have qZ14 := Z14.out; have qZD := ZD.out; have qZ30 := Z30.out; omega)).trans E10.out); replace E12 := Aside0.mk ((hf.block _ (blk_lt E12.out) (by (try dsimp only); have qZ3 := Z3.out; have qZ4 := Z4.out; have qZ6 := Z6.out; have qZ8 := Z8.out; have qZ10 := Z10.out; have qZ12 := Z12.out; have qZ14 := Z14.out; have qZD := ZD.out; have qZ30 := Z30.out; omega)).trans E12.out); replace E14 := Aside0.mk ((hf.block _ (blk_lt E14.out) (by (try dsimp only); have qZ3 := Z3.out; have qZ4 := Z4.out; have qZ6 := Z6.out; have qZ8 := Z8.out; have qZ10 := Z10.out; have qZ12 := Z12.out; have qZ14 := Z14.out; have qZD := ZD.out; have qZ30 := Z30.out; omega)).trans E14.out); have U10 := Aside0.mk hv; replace HB := Aside0.mk hb; have Z31 := Aside0.mk hf.size; clear hv hf hb; have y31a := (blk_cell E8.out 2).trans (rfl : _ = some (Value.slice A8 nsa.length c8)); have y31b := (blk_cell E10.out 2).trans (rfl : _ = some (Value.slice A10 nsa.length c10)); have y31c := (blk_cell E12.out 2).trans (rfl : _ = some (Value.slice A12 xsb.length c12)); have y31d := (blk_cell E14.out 2).trans (rfl : _ = some (Value.slice A14 xsb.length c14))) | ((with_reducible refine (mark_S 203 xsb A12 (xsb).length c12 w _ _ U12.out HB.out hlx6).mono ?_); rintro e w32 ⟨B32, d32, rfl, hv, hf, hb⟩; clear U12; replace V0 := Aside0.mk (V0.out.frm (flat_int .u8) hf (fun k h1 h3 => by (try dsimp only at h1); (try dsimp only at h3); have qZ3 := Z3.out; have qZ4 := Z4.out; have qZ6 := Z6.out; have qZ8 := Z8.out; have qZ10 := Z10.out; have qZ12 := Z12.out; have qZ14 := Z14.out; have qZD := ZD.out; have qZ30 := Z30.out; have qZ31 := Z31.out; omega)); replace U8 := Aside0.mk (U8.out.frm flat_kH hf (fun k h1 h3 => by (try dsimp only at h1); (try dsimp only at h3); have qZ3 := Z3.out; have qZ4 := Z4.out; have qZ6 := Z6.out; have qZ8 := Z8.out; have qZ10 := Z10.out; have qZ12 := Z12.out; have qZ14 := Z14.out; have qZD := ZD.out; have qZ30 := Z30.out; have qZ31 := Z31.out; omega)); replace U10 := Aside0.mk (U10.out.frm flat_kH hf (fun k h1 h3 => by (try dsimp only at h1); (try dsimp only at h3); have qZ3 := Z3.out; have qZ4 := Z4.out; have qZ6 := Z6.out; have qZ8 := Z8.out; have qZ10 := Z10.out; have qZ12 := Z12.out; have qZ14 := Z14.out; have qZD := ZD.out; have qZ30 := Z30.out; have qZ31 := Z31.out; omega)); replace U14 := Aside0.mk (U14.out.frm flat_kH hf (fun k h1 h3 => by (try dsimp only at h1); (try dsimp only at h3); have qZ3 := Z3.out; have qZ4 := Z4.out; have qZ6 := Z6.out; have qZ8 := Z8.out; have qZ10 := Z10.out; have qZ12 := Z12.out; have qZ14 := Z14.out; have qZD := ZD.out; have qZ30 := Z30.out; have qZ31 := Z31.out; omega)); replace E4 := Aside0.mk ((hf.block _ (blk_lt E4.out) (by (try dsimp only); have qZ3 := Z3.out; have qZ4 := Z4.out; have qZ6 := Z6.out; have qZ8 := Z8.out; have qZ10 := Z10.out; have qZ12 := Z12.out; have qZ14 := Z14.out; have qZD := ZD.out; have qZ30 := Z30.out; have qZ31 := Z31.out; omega)).trans E4.out); replace E8 := Aside0.mk ((hf.block _ (blk_lt E8.out) (by (try dsimp only); have qZ3 := Z3.out; have qZ4 := Z4.out; have qZ6 := Z6.out; have qZ8 := Z8.out; have qZ10 := Z10.out; have qZ12 := Z12.out; have qZ14 := Z14.out; have qZD := ZD.out; have qZ30 := Z30.out; have qZ31 := Z31.out; omega)).trans E8.out); replace E10 := Aside0.mk ((hf.block _ (blk_lt E10.out) (by (try dsimp only); have qZ3 := Z3.out; have qZ4 := Z4.out; have qZ6 := Z6.out; have qZ8 := Z8.out; have qZ10 := Z10.out; have qZ12 := Z12.out; have qZ14 := Z14.out; have qZD := ZD.out; have qZ30 := Z30.out; have qZ31 := Z31.out; omega)).trans E10.out); replace E12 := Aside0.mk ((hf.block _ (blk_lt E12.out) (by (try dsimp only); have qZ3 := Z3.out; have qZ4 := Z4.out; have qZ6 := Z6.out; have qZ8 := Z8.out; have qZ10 := Z10.out; have qZ12 := Z12.out; have qZ14 := Z14.out; have qZD := ZD.out; have qZ30 := Z30.out; have qZ31 := Z31.out; omega)).trans E12.out); replace E14 := Aside0.mk ((hf.block _ (blk_lt E14.out) (by (try dsimp only); have qZ3 := Z3.out; have qZ4 := Z4.out; have qZ6 := Z6.out; have qZ8 := Z8.out; have qZ10 := Z10.out; have qZ12 := Z12.out; have qZ14 := Z14.out; have qZD := ZD.out; have qZ30 := Z30.out; have qZ31 := Z31.out; omega)).trans E14.out); have U12 := Aside0.mk hv; replace HB := Aside0.mk hb; have Z32 := Aside0.mk hf.size; clear hv hf hb; have y32a := (blk_cell E8.out 2).trans (rfl : _ = some (Value.slice A8 nsa.length c8)); have y32b := (blk_cell E10.out 2).trans (rfl : _ = some (Value.slice A10 nsa.length c10)); have y32c := (blk_cell E12.out 2).trans (rfl : _ = some (Value.slice A12 xsb.length c12)); have y32d := (blk_cell E14.out 2).trans (rfl : _ = some (Value.slice A14 xsb.length c14))) | ((with_reducible refine (mark_S 204 xsb A14 (xsb).length c14 w _ _ U14.out HB.out hlx6).mono ?_); rintro e w33 ⟨B33, d33, rfl, hv, hf, hb⟩; clear U14; replace V0 := Aside0.mk (V0.out.frm (flat_int .u8) hf (fun k h1 h3 => by (try dsimp only at h1); (try dsimp only at h3); have qZ3 := Z3.out; have qZ4 := Z4.out; have qZ6 := Z6.out; have qZ8 := Z8.out; have qZ10 := Z10.out; have qZ12 := Z12.out; have qZ14 := Z14.out; have qZD := ZD.out; have qZ30 := Z30.out; have qZ31 := Z31.out; have qZ32 := Z32.out; omega)); replace U8 := Aside0.mk (U8.out.frm flat_kH hf (fun k h1 h3 => by (try dsimp only at h1); (try dsimp only at h3); have qZ3 := Z3.out; have qZ4 := Z4.out; have qZ6 := Z6.out; have qZ8 := Z8.out; have qZ10 := Z10.out; have qZ12 := Z12.out; have qZ14 := Z14.out; have qZD := ZD.out; have qZ30 := Z30.out; have qZ31 := Z31.out; have qZ32 := Z32.out; omega)); replace U10 := Aside0.mk (U10.out.frm flat_kH hf (fun k h1 h3 => by (try dsimp only at h1); (try dsimp only at h3); have qZ3 := Z3.out; have qZ4 := Z4.out; have qZ6 := Z6.out; have qZ8 := Z8.out; have qZ10 := Z10.out; have qZ12 := Z12.out; have qZ14 := Z14.out; have qZD := ZD.out; have qZ30 := Z30.out; have qZ31 := Z31.out; have qZ32 := Z32.out; omega)); replace U12 := Aside0.mk (U12.out.frm flat_kH hf (fun k h1 h3 => by (try dsimp only at h1); (try dsimp only at h3); have qZ3 := Z3.out; have qZ4 := Z4.out; have qZ6 := Z6.out; have qZ8 := Z8.out; have qZ10 := Z10.out; have qZ12 := Z12.out; have qZ14 := Z14.out; have qZD := ZD.out; have qZ30 := Z30.out; have qZ31 := Z31.out; have qZ32 := Z32.out; omega)); replace E4 := Aside0.mk ((hf.block _ (blk_lt E4.out) (by (try dsimp only); have qZ3 := Z3.out; have qZ4 := Z4.out; have qZ6 := Z6.out; have qZ8 := Z8.out; have qZ10 := Z10.out; have qZ12 := Z12.out; have qZ14 := Z14.out; have qZD := ZD.out; have qZ30 := Z30.out; have qZ31 := Z31.out; have qZ32 := Z32.out; omega)).trans E4.out); replace E8 := Aside0.mk ((hf.block _ (blk_lt E8.out) (by (try dsimp only); have qZ3 := Z3.out; have qZ4 := Z4.out; have qZ6 := Z6.out; have qZ8 := Z8.out; have qZ10 := Z10.out; have qZ12 := Z12.out; have qZ14 := Z14.out; have qZD := ZD.out; have qZ30 := Z30.out; have qZ31 := Z31.out; have qZ32 := Z32.out; omega)).trans E8.out); replace E10 := Aside0.mk ((hf.block _ (blk_lt E10.out) (by (try dsimp only); have qZ3 := Z3.out; have qZ4 := Z4.out; have qZ6 := Z6.out; have qZ8 := Z8.out; have qZ10 := Z10.out; have qZ12 := Z12.out; have qZ14 := Z14.out; have qZD := ZD.out; have qZ30 := Z30.out; have qZ31 := Z31.out; have qZ32 := Z32.out; omega)).trans E10.out); replace E12 := Aside0.mk ((hf.block _ (blk_lt E12.out) (by (try dsimp only); have qZ3 := Z3.out; have qZ4 := Z4.out; have qZ6 := Z6.out; have qZ8 := Z8.out; have qZ10 := Z10.out; have qZ12 := Z12.out; have qZ14 := Z14.out; have qZD := ZD.out; have qZ30 := Z30.out; have qZ31 := Z31.out; have qZ32 := Z32.out; omega)).trans E12.out); replace E14 := Aside0.mk ((hf.block _ (blk_lt E14.out) (by (try dsimp only); have qZ3 := Z3.out; have qZ4 := Z4.out; have qZ6 := Z6.out; have qZ8 := Z8.out; have qZ10 := Z10.out; have qZ12 := Z12.out; have qZ14 := Z14.out; have qZD := ZD.out; have qZ30 := Z30.out; have qZ31 := Z31.out; have qZ32 := Z32.out; omega)).trans E14.out); have U14 := Aside0.mk hv; replace HB := Aside0.mk hb; have Z33 := Aside0.mk hf.size; clear hv hf hb; have y33a := (blk_cell E8.out 2).trans (rfl : _ = some (Value.slice A8 nsa.length c8)); have y33b := (blk_cell E10.out 2).trans (rfl : _ = some (Value.slice A10 nsa.length c10)); have y33c := (blk_cell E12.out 2).trans (rfl : _ = some (Value.slice A12 xsb.length c12)); have y33d := (blk_cell E14.out 2).trans (rfl : _ = some (Value.slice A14 xsb.length c14)))))
        clear y0a y0b y0c y0d y30a y30b y30c y30d y31a y31b y31c y31d y32a y32b y32c y32d y33a y33b y33c y33d
        have hn2 : nsa.length + 2 ≤ 1000000 := by omega
        have hx2 : xsb.length + 2 ≤ 1000000 := by omega
        go_wp2_with fail
        refine (all_calls7 201 (nsa.length + 2) B30 d30 _ hn2 (R_C U8.out.1)).mono ?_
        rintro e w34 ⟨rfl, hb⟩
        try replace V0 := Aside0.mk (V0.out.below hb)
        try replace X4 := Aside0.mk (X4.out.below hb)
        try replace X6 := Aside0.mk (X6.out.below hb)
        try replace X8 := Aside0.mk (X8.out.below hb)
        try replace X10 := Aside0.mk (X10.out.below hb)
        try replace X12 := Aside0.mk (X12.out.below hb)
        try replace X14 := Aside0.mk (X14.out.below hb)
        try replace U8 := Aside0.mk (U8.out.below hb)
        try replace U10 := Aside0.mk (U10.out.below hb)
        try replace U12 := Aside0.mk (U12.out.below hb)
        try replace U14 := Aside0.mk (U14.out.below hb)
        try replace E4 := Aside0.mk ((hb.block _ (blk_lt E4.out)).trans E4.out)
        try replace E8 := Aside0.mk ((hb.block _ (blk_lt E8.out)).trans E8.out)
        try replace E10 := Aside0.mk ((hb.block _ (blk_lt E10.out)).trans E10.out)
        try replace E12 := Aside0.mk ((hb.block _ (blk_lt E12.out)).trans E12.out)
        try replace E14 := Aside0.mk ((hb.block _ (blk_lt E14.out)).trans E14.out)
        replace HB := Aside0.mk (blt HB.out hb)
        clear hb U8
        go_wp2_with fail
        refine (all_calls7 202 (nsa.length + 2) B31 d31 _ hn2 (R_C U10.out.1)).mono ?_
        rintro e w35 ⟨rfl, hb⟩
        try replace V0 := Aside0.mk (V0.out.below hb)
        try replace X4 := Aside0.mk (X4.out.below hb)
        try replace X6 := Aside0.mk (X6.out.below hb)
        try replace X8 := Aside0.mk (X8.out.below hb)
        try replace X10 := Aside0.mk (X10.out.below hb)
        try replace X12 := Aside0.mk (X12.out.below hb)
        try replace X14 := Aside0.mk (X14.out.below hb)
        try replace U8 := Aside0.mk (U8.out.below hb)
        try replace U10 := Aside0.mk (U10.out.below hb)
        try replace U12 := Aside0.mk (U12.out.below hb)
        try replace U14 := Aside0.mk (U14.out.below hb)
        try replace E4 := Aside0.mk ((hb.block _ (blk_lt E4.out)).trans E4.out)
        try replace E8 := Aside0.mk ((hb.block _ (blk_lt E8.out)).trans E8.out)
        try replace E10 := Aside0.mk ((hb.block _ (blk_lt E10.out)).trans E10.out)
        try replace E12 := Aside0.mk ((hb.block _ (blk_lt E12.out)).trans E12.out)
        try replace E14 := Aside0.mk ((hb.block _ (blk_lt E14.out)).trans E14.out)
        replace HB := Aside0.mk (blt HB.out hb)
        clear hb U10
        go_wp2_with fail
        refine (all_calls7 203 (xsb.length + 2) B32 d32 _ hx2 (R_C U12.out.1)).mono ?_
        rintro e w36 ⟨rfl, hb⟩
        try replace V0 := Aside0.mk (V0.out.below hb)
        try replace X4 := Aside0.mk (X4.out.below hb)
        try replace X6 := Aside0.mk (X6.out.below hb)
        try replace X8 := Aside0.mk (X8.out.below hb)
        try replace X10 := Aside0.mk (X10.out.below hb)
        try replace X12 := Aside0.mk (X12.out.below hb)
        try replace X14 := Aside0.mk (X14.out.below hb)
        try replace U8 := Aside0.mk (U8.out.below hb)
        try replace U10 := Aside0.mk (U10.out.below hb)
        try replace U12 := Aside0.mk (U12.out.below hb)
        try replace U14 := Aside0.mk (U14.out.below hb)
        try replace E4 := Aside0.mk ((hb.block _ (blk_lt E4.out)).trans E4.out)
        try replace E8 := Aside0.mk ((hb.block _ (blk_lt E8.out)).trans E8.out)
        try replace E10 := Aside0.mk ((hb.block _ (blk_lt E10.out)).trans E10.out)
        try replace E12 := Aside0.mk ((hb.block _ (blk_lt E12.out)).trans E12.out)
        try replace E14 := Aside0.mk ((hb.block _ (blk_lt E14.out)).trans E14.out)
        replace HB := Aside0.mk (blt HB.out hb)
        clear hb U12
        go_wp2_with fail
        refine (all_calls7 204 (xsb.length + 2) B33 d33 _ hx2 (R_C U14.out.1)).mono ?_
        rintro e w37 ⟨rfl, hb⟩
        try replace V0 := Aside0.mk (V0.out.below hb)
        try replace X4 := Aside0.mk (X4.out.below hb)
        try replace X6 := Aside0.mk (X6.out.below hb)
        try replace X8 := Aside0.mk (X8.out.below hb)
        try replace X10 := Aside0.mk (X10.out.below hb)
        try replace X12 := Aside0.mk (X12.out.below hb)
        try replace X14 := Aside0.mk (X14.out.below hb)
        try replace U8 := Aside0.mk (U8.out.below hb)
        try replace U10 := Aside0.mk (U10.out.below hb)
        try replace U12 := Aside0.mk (U12.out.below hb)
        try replace U14 := Aside0.mk (U14.out.below hb)
        try replace E4 := Aside0.mk ((hb.block _ (blk_lt E4.out)).trans E4.out)
        try replace E8 := Aside0.mk ((hb.block _ (blk_lt E8.out)).trans E8.out)
        try replace E10 := Aside0.mk ((hb.block _ (blk_lt E10.out)).trans E10.out)
        try replace E12 := Aside0.mk ((hb.block _ (blk_lt E12.out)).trans E12.out)
        try replace E14 := Aside0.mk ((hb.block _ (blk_lt E14.out)).trans E14.out)
        replace HB := Aside0.mk (blt HB.out hb)
        clear hb U14
        obtain ⟨M2, hM2⟩ : ∃ M2, M2 = M.take bs.length := ⟨_, rfl⟩
        have hM2l : M2.length = bs.length := by rw [hM2, List.length_take, HM.out.1]; omega
        have hM2b : Bytes M2 := fun y hy => HM.out.2 y (List.mem_of_mem_take (hM2 ▸ hy))
        have V2 := Aside0.mk (show RwS (Kd.int .u8) 5 w w37 (fun k => w.heap.size ≤ k ∧ k < w3.heap.size) (.slice A3 bs.length c3) M2 from ⟨by rw [hM2]; exact Kd.R_take V0.out.1 (by rw [HM.out.1]; omega), fun k hk => V0.out.2 k (by cases A3 with | none => exact hk | some a => exact hk)⟩)
        have HM2 := Aside0.mk (And.intro hM2l hM2b)
        have HE := Aside0.mk (R_emptyK (Kd.int .u8) (e := 5) (base := w.heap.size) rfl (heap_new w37 (.cells #[] 5)) HB.out.size)
        have HCe := Aside0.mk (Kd.C_below (R_C V2.out.1) (bl_new w37 (.cells #[] 5)))
        have hse : w.heap.size ≤ (w37.alloc (.cells #[] 5)).heap.size := Nat.le_trans HB.out.size (by simp)
        have HSe := Aside0.mk hse
        have hnil : ([] : List Int).length = 0 := rfl
        clear V0 HM hM2 hM2l hM2b hse
        go_wp2_with ((with_reducible refine gate_builtin (b := .append) (xs := #[.tmp 164, .tmp 165]) rfl ?_); at_builtin; go_loud (refine app_rowN .u8 w.heap.size rfl (.tmp 164) (.tmp 165) 22 5 (.int .u8 0) 1 rfl Tryd.underlying22 info5 rfl (by omega) (.slice (some ⟨w37.heap.size, 0, none⟩) 0 0) [] M2 A3 bs.length c3 rfl rfl HE.out HCe.out HSe.out (by omega) ?_; intro A40 n40 c40 w40 hr40 hf40 ha40; rw [List.nil_append] at hr40; have HR40 := Aside0.mk hr40; have HF40 := Aside0.mk hf40; have HA40 := Aside0.mk ha40; clear hr40 hf40 ha40))
        have hcap := R_capk HR40.out
        rw [HM2.out.1] at hcap
        obtain ⟨hn40, hc40, _⟩ := hcap
        subst hn40
        have hb40 : Below w37.heap.size w37 w40 := (bl_new w37 (.cells #[] 5)).trans (HF40.out.below (by simp) (fun k hk => by
          have hk : some k = (Value.slice (some ⟨w37.heap.size, 0, none⟩) 0 0).ownBlock := hk
          exact Kd.R_base (R_emptyK (Kd.int .u8) (e := 5) (base := w37.heap.size) rfl (heap_new w37 (.cells #[] 5)) (Nat.le_refl _)) k hk.symm))
        have HR41 := Aside0.mk (R_C HR40.out)
        replace V2 := Aside0.mk (V2.out.below hb40)
        try replace V0 := Aside0.mk (V0.out.below hb40)
        try replace X4 := Aside0.mk (X4.out.below hb40)
        try replace X6 := Aside0.mk (X6.out.below hb40)
        try replace X8 := Aside0.mk (X8.out.below hb40)
        try replace X10 := Aside0.mk (X10.out.below hb40)
        try replace X12 := Aside0.mk (X12.out.below hb40)
        try replace X14 := Aside0.mk (X14.out.below hb40)
        try replace U8 := Aside0.mk (U8.out.below hb40)
        try replace U10 := Aside0.mk (U10.out.below hb40)
        try replace U12 := Aside0.mk (U12.out.below hb40)
        try replace U14 := Aside0.mk (U14.out.below hb40)
        try replace E4 := Aside0.mk ((hb40.block _ (blk_lt E4.out)).trans E4.out)
        try replace E8 := Aside0.mk ((hb40.block _ (blk_lt E8.out)).trans E8.out)
        try replace E10 := Aside0.mk ((hb40.block _ (blk_lt E10.out)).trans E10.out)
        try replace E12 := Aside0.mk ((hb40.block _ (blk_lt E12.out)).trans E12.out)
        try replace E14 := Aside0.mk ((hb40.block _ (blk_lt E14.out)).trans E14.out)
        replace HB := Aside0.mk (blt HB.out hb40)
        clear HR40 HF40 HA40 HE HCe HSe hb40 hnil
        refine (ref7_Decode M2 A40 bs.length c40 _ HM2.out.2 HM2.out.1 (by omega) hc40 HR41.out).mono ?_
        intro e w41 hd
        obtain ⟨v, he, hr, hb⟩ := hd
        obtain ⟨⟨⟨n5, i5, ns5⟩, e5⟩, hEr⟩ : ∃ x, decP M2 = x := ⟨_, rfl⟩
        have hlen5 := decP_len HM2.out.2
        rw [hEr] at he hr hlen5
        dsimp only at he hr hlen5
        subst he
        obtain ⟨A41, n41, c41, e9⟩ : ∃ A m c, v = .slice A m c := by obtain ⟨A, c, h⟩ := Kd.R_slice hr; exact ⟨A, _, c, h⟩
        subst e9
        have hq := (Kd.R_reads' hr).1
        subst hq
        have HEr := Aside0.mk hEr
        have R41 := Aside0.mk (RwS.new hr HB.out.size)
        have hg4 : g4 < w40.heap.size := blk_lt E4.out
        have hg8 : g8 < w40.heap.size := blk_lt E8.out
        replace V2 := Aside0.mk (V2.out.below hb)
        try replace V0 := Aside0.mk (V0.out.below hb)
        try replace X4 := Aside0.mk (X4.out.below hb)
        try replace X6 := Aside0.mk (X6.out.below hb)
        try replace X8 := Aside0.mk (X8.out.below hb)
        try replace X10 := Aside0.mk (X10.out.below hb)
        try replace X12 := Aside0.mk (X12.out.below hb)
        try replace X14 := Aside0.mk (X14.out.below hb)
        try replace U8 := Aside0.mk (U8.out.below hb)
        try replace U10 := Aside0.mk (U10.out.below hb)
        try replace U12 := Aside0.mk (U12.out.below hb)
        try replace U14 := Aside0.mk (U14.out.below hb)
        try replace E4 := Aside0.mk ((hb.block _ (blk_lt E4.out)).trans E4.out)
        try replace E8 := Aside0.mk ((hb.block _ (blk_lt E8.out)).trans E8.out)
        try replace E10 := Aside0.mk ((hb.block _ (blk_lt E10.out)).trans E10.out)
        try replace E12 := Aside0.mk ((hb.block _ (blk_lt E12.out)).trans E12.out)
        try replace E14 := Aside0.mk ((hb.block _ (blk_lt E14.out)).trans E14.out)
        replace HB := Aside0.mk (blt HB.out hb)
        have r0 := (blk_cell E4.out 0).trans (rfl : _ = some (Value.int .u64 na))
        have r1 := (blk_cell E4.out 1).trans (rfl : _ = some (Value.int .u64 ia))
        have r2 := (blk_cell E4.out 2).trans (rfl : _ = some (Value.slice A4 nsa.length c4))
        have q0 := blk_frozen E4.out 0
        have q1 := blk_frozen E4.out 1
        have q2 := blk_frozen E4.out 2
        have hG48 := Aside0.mk (show g4 < w40.heap.size ∧ g8 < w40.heap.size ∧ w3.heap.size ≤ g4 ∧ g4 ≠ g8 ∧ w.heap.size ≤ g4 ∧ w.heap.size ≤ g8 from ⟨hg4, hg8, Z4.out.2, by have q4 := Z4.out; have q6 := Z6.out; have q8 := Z8.out; omega, by have q3 := Z3.out; have q4 := Z4.out; omega, by have q3 := Z3.out; have q4 := Z4.out; have q6 := Z6.out; have q8 := Z8.out; omega⟩)
        clear hr hb hEr hg4 hg8 HR41 hc40
        go_wp2_with fail
        have hf := Frm.set3 w41 g4 (.int .u64 n5) (.int .u64 i5) (.slice A41 ns5.length c41)
        have e4 := blk_set3 E4.out rfl (.int .u64 n5) (.int .u64 i5) (.slice A41 ns5.length c41)
        have e8 := (hf.block _ (blk_lt E8.out) (fun h => hG48.out.2.2.2.1 h.symm)).trans E8.out
        have v2 := V2.out.frm (flat_int .u8) hf (fun k h1 h3 => by
          have h1 : w.heap.size ≤ k ∧ k < w3.heap.size := h1
          have h3 : k = g4 := h3
          have := hG48.out
          omega)
        have r41 := R41.out.frm flat_kH hf (fun k h1 h3 => by
          have h1 : w40.heap.size ≤ k ∧ k < w41.heap.size := h1
          have h3 : k = g4 := h3
          have := hG48.out
          omega)
        have hbw := HB.out.trans (hf.below HB.out.size (fun k hk => by rw [hk]; exact hG48.out.2.2.2.2.1))
        generalize ((w41.setCell ⟨g4, 0, none⟩ (.int .u64 n5)).setCell ⟨g4, 1, none⟩ (.int .u64 i5)).setCell ⟨g4, 2, none⟩ (.slice A41 ns5.length c41) = w42 at *
        replace E4 := Aside0.mk e4
        replace E8 := Aside0.mk e8
        replace V2 := Aside0.mk v2
        replace R41 := Aside0.mk r41
        replace HB := Aside0.mk hbw
        clear hf e4 e8 v2 r41 hbw r0 r1 r2 q0 q1 q2
        refine (proof_decode M2 A3 bs.length c3 _ HM2.out.2 HM2.out.1 (by omega) (by have := HCap.out; omega) (R_C V2.out.1)).mono ?_
        intro e w43 hd
        obtain ⟨v, he, hr, hb⟩ := hd
        rw [HEr.out] at he hr
        dsimp only at he hr
        subst he
        obtain ⟨A43, n43, c43, e9⟩ : ∃ A m c, v = .slice A m c := by obtain ⟨A, c, h⟩ := Kd.R_slice hr; exact ⟨A, _, c, h⟩
        subst e9
        have hq := (Kd.R_reads' hr).1
        subst hq
        have R43 := Aside0.mk (RwS.new hr HB.out.size)
        have hG8 := Aside0.mk (blk_lt E8.out)
        replace V2 := Aside0.mk (V2.out.below hb)
        replace R41 := Aside0.mk (R41.out.below hb)
        try replace V0 := Aside0.mk (V0.out.below hb)
        try replace X4 := Aside0.mk (X4.out.below hb)
        try replace X6 := Aside0.mk (X6.out.below hb)
        try replace X8 := Aside0.mk (X8.out.below hb)
        try replace X10 := Aside0.mk (X10.out.below hb)
        try replace X12 := Aside0.mk (X12.out.below hb)
        try replace X14 := Aside0.mk (X14.out.below hb)
        try replace U8 := Aside0.mk (U8.out.below hb)
        try replace U10 := Aside0.mk (U10.out.below hb)
        try replace U12 := Aside0.mk (U12.out.below hb)
        try replace U14 := Aside0.mk (U14.out.below hb)
        try replace E4 := Aside0.mk ((hb.block _ (blk_lt E4.out)).trans E4.out)
        try replace E8 := Aside0.mk ((hb.block _ (blk_lt E8.out)).trans E8.out)
        try replace E10 := Aside0.mk ((hb.block _ (blk_lt E10.out)).trans E10.out)
        try replace E12 := Aside0.mk ((hb.block _ (blk_lt E12.out)).trans E12.out)
        try replace E14 := Aside0.mk ((hb.block _ (blk_lt E14.out)).trans E14.out)
        replace HB := Aside0.mk (blt HB.out hb)
        have r0 := (blk_cell E8.out 0).trans (rfl : _ = some (Value.int .u64 na))
        have r1 := (blk_cell E8.out 1).trans (rfl : _ = some (Value.int .u64 ia))
        have r2 := (blk_cell E8.out 2).trans (rfl : _ = some (Value.slice A8 nsa.length c8))
        have q0 := blk_frozen E8.out 0
        have q1 := blk_frozen E8.out 1
        have q2 := blk_frozen E8.out 2
        clear hr hb
        go_upto_region 24 with (fail)
        have hf := Frm.set3 w43 g8 (.int .u64 n5) (.int .u64 i5) (.slice A43 ns5.length c43)
        have e8 := blk_set3 E8.out rfl (.int .u64 n5) (.int .u64 i5) (.slice A43 ns5.length c43)
        have e4 := (hf.block _ (blk_lt E4.out) (fun h => hG48.out.2.2.2.1 h)).trans E4.out
        have r41 := R41.out.frm flat_kH hf (fun k h1 h3 => by
          have h1 : w40.heap.size ≤ k ∧ k < w41.heap.size := h1
          have h3 : k = g8 := h3
          have := hG48.out
          omega)
        have r43 := R43.out.frm flat_kH hf (fun k h1 h3 => by
          have h1 : w42.heap.size ≤ k ∧ k < w43.heap.size := h1
          have h3 : k = g8 := h3
          have := hG8.out
          omega)
        have hbw := HB.out.trans (hf.below HB.out.size (fun k hk => by rw [hk]; exact hG48.out.2.2.2.2.2))
        generalize ((w43.setCell ⟨g8, 0, none⟩ (.int .u64 n5)).setCell ⟨g8, 1, none⟩ (.int .u64 i5)).setCell ⟨g8, 2, none⟩ (.slice A43 ns5.length c43) = w44 at *
        replace E4 := Aside0.mk e4
        replace E8 := Aside0.mk e8
        replace R41 := Aside0.mk r41
        replace R43 := Aside0.mk r43
        replace HB := Aside0.mk hbw
        have he5 : (e5 == e5) = true := by simp
        have c0_ := (blk_cell E8.out 0).trans (rfl : _ = some (Value.int .u64 n5))
        have c1_ := (blk_cell E8.out 1).trans (rfl : _ = some (Value.int .u64 i5))
        have c2_ := (blk_cell E8.out 2).trans (rfl : _ = some (Value.slice A43 ns5.length c43))
        have d0_ := (blk_cell E4.out 0).trans (rfl : _ = some (Value.int .u64 n5))
        have d1_ := (blk_cell E4.out 1).trans (rfl : _ = some (Value.int .u64 i5))
        have d2_ := (blk_cell E4.out 2).trans (rfl : _ = some (Value.slice A41 ns5.length c41))
        clear hf e4 e8 r41 r43 hbw r0 r1 r2 q0 q1 q2 V2 HEr
        go_wp2_with fail
        refine (same_proofs n5 i5 ns5 A43 A41 c43 c41 _ (by omega) (R_C R43.out.1) (R_C R41.out.1)).mono ?_
        rintro e w45 ⟨rfl, hb⟩
        try replace V0 := Aside0.mk (V0.out.below hb)
        try replace X4 := Aside0.mk (X4.out.below hb)
        try replace X6 := Aside0.mk (X6.out.below hb)
        try replace X8 := Aside0.mk (X8.out.below hb)
        try replace X10 := Aside0.mk (X10.out.below hb)
        try replace X12 := Aside0.mk (X12.out.below hb)
        try replace X14 := Aside0.mk (X14.out.below hb)
        try replace U8 := Aside0.mk (U8.out.below hb)
        try replace U10 := Aside0.mk (U10.out.below hb)
        try replace U12 := Aside0.mk (U12.out.below hb)
        try replace U14 := Aside0.mk (U14.out.below hb)
        try replace E4 := Aside0.mk ((hb.block _ (blk_lt E4.out)).trans E4.out)
        try replace E8 := Aside0.mk ((hb.block _ (blk_lt E8.out)).trans E8.out)
        try replace E10 := Aside0.mk ((hb.block _ (blk_lt E10.out)).trans E10.out)
        try replace E12 := Aside0.mk ((hb.block _ (blk_lt E12.out)).trans E12.out)
        try replace E14 := Aside0.mk ((hb.block _ (blk_lt E14.out)).trans E14.out)
        replace HB := Aside0.mk (blt HB.out hb)
        clear hb c0_ c1_ c2_ d0_ d1_ d2_
        go_wp2_with fail
        refine (awake7 _).mono ?_
        rintro e w46 ⟨rfl, hb⟩
        try replace V0 := Aside0.mk (V0.out.below hb)
        try replace X4 := Aside0.mk (X4.out.below hb)
        try replace X6 := Aside0.mk (X6.out.below hb)
        try replace X8 := Aside0.mk (X8.out.below hb)
        try replace X10 := Aside0.mk (X10.out.below hb)
        try replace X12 := Aside0.mk (X12.out.below hb)
        try replace X14 := Aside0.mk (X14.out.below hb)
        try replace U8 := Aside0.mk (U8.out.below hb)
        try replace U10 := Aside0.mk (U10.out.below hb)
        try replace U12 := Aside0.mk (U12.out.below hb)
        try replace U14 := Aside0.mk (U14.out.below hb)
        try replace E4 := Aside0.mk ((hb.block _ (blk_lt E4.out)).trans E4.out)
        try replace E8 := Aside0.mk ((hb.block _ (blk_lt E8.out)).trans E8.out)
        try replace E10 := Aside0.mk ((hb.block _ (blk_lt E10.out)).trans E10.out)
        try replace E12 := Aside0.mk ((hb.block _ (blk_lt E12.out)).trans E12.out)
        try replace E14 := Aside0.mk ((hb.block _ (blk_lt E14.out)).trans E14.out)
        replace HB := Aside0.mk (blt HB.out hb)
        clear hb
        go_wp2_with fail
        go_ret
        exact ⟨rfl, HB.out⟩
  · go_enter Tryd.func9, Tryd.ntmps9
    go_wp2_with fail
    go_ret
    exact ⟨rfl, (by repeat (with_reducible first | exact Below.refl _ _ | refine below_alloc ?_ _ | refine below_drew ?_))⟩
end Go.Proofs.YtefnonlhepekdaaDoor.M
