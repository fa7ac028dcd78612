/- span.Places$1: the closure that appends a spot's place. -/
import Derived.Test.YtagcabmccpekaaaBase
namespace Go.Proofs.Ytagcabmccpekaaa.M
open Go.RowKit Go.Proofs.YtagcabmccpekaaaW.PrintWords Go.Proofs.YtagcabmccpekaaaW.PrintLast Go.Proofs.YtagcabmccpekaaaW.PrintMore Go.Proofs.Ytagcabmccpekaaa.Leaf

set_option maxHeartbeats 1000000 in
set_option maxRecDepth 100000 in
theorem span_tell (h i p : Int) (b : Bool) (hp : pos_Place.f h i = some (p, b)) (bl : Nat) (v : Value) (xs : List Int) (base : Nat) (w : World)
    (hbl : w.heap[bl]? = some (.cells #[v] 23 (0, 0))) (hv : Kd.R (Kd.int .u64) 22 w base (fun _ => True) v xs) (hbase : base ≤ w.heap.size) (hl : xs.length < 17592186044415) :
    Calls Try.prog 45 #[.agg #[.int .u8 h, .int .u64 i], .pointer (some ⟨bl, 0, none⟩)] w fun e w' => e = .returned (.tuple #[]) ∧
      ∃ v', w'.heap[bl]? = some (.cells #[v'] 23 (0, 0)) ∧ Kd.R (Kd.int .u64) 22 w' base (fun _ => True) v' (xs ++ [p]) ∧
        Frm (fun k => k = bl ∨ some k = v.ownBlock) w w' ∧ (v'.ownBlock = v.ownBlock ∨ ∃ b, v'.ownBlock = some b ∧ w.heap.size ≤ b) := by
  go_enter Try.func45, Try.ntmps45
  have hlt := blk_lt hbl
  go_wp2_with fail
  refine (pos_Place.calls h i p b _ hp).mono ?_
  rintro e w1 ⟨rfl, hb⟩
  have hb0 : Below w.heap.size w w1 := ((Below.refl _ _).alloc (Nat.le_refl _) _).trans (hb.mono (by simp))
  have hbl1 : w1.heap[bl]? = some (.cells #[v] 23 (0, 0)) := (hb0.block bl hlt).trans hbl
  have hv1 := Kd.R_below hv hb0
  have hsz := hb0.size
  have hbs1 : base ≤ w1.heap.size := by omega
  have hc0 : w1.cell? ⟨bl, 0, none⟩ = some v := (blk_cell hbl1 0).trans rfl
  have H := Aside0.mk hv1
  have HB := Aside0.mk hbl1
  have HL := Aside0.mk hl
  have H0 := Aside0.mk hb0
  clear hv hbl hl hb hb0 hv1 hbl1
  go_wp2_with (at_builtin; go_loud (refine Kd.R_append (Kd.int .u64) (w0 := w1) base rfl (.tmp 10) (.tmp 12) 23 22 (.int .u64 0) 8 rfl Try.underlying23 info22 rfl (by decide) (by omega) v xs p [.int .u64 p] (fun _ => True) (fun _ => False) rfl rfl ?aP (fun _ hk => hk.elim) ?aF ?aO ?aB ?aS ?aL ?_; (case aP => exact rfl); (case aF => exact (fun _ _ => trivial)); (case aO => exact H.out); (case aB => exact Below.refl _ _); (case aS => exact hbs1); (case aL => have := HL.out; omega); intro v1 w2 ho _ hg hat; have HO := Aside0.mk ho; have HG := Aside0.mk hg; have HA := Aside0.mk hat; obtain ⟨A1, c1, e1⟩ : ∃ A1 c1, v1 = .slice A1 (xs.length + 1) c1 := (by obtain ⟨A1, c1, e1⟩ := Kd.R_slice ho; exact ⟨A1, c1, (by rw [e1]; simp)⟩); rw [e1]; have HE := Aside0.mk e1; clear ho hg hat e1; have hne := Aside0.mk (Kd.R_ne H.out HB.out (by decide)); have hbl2 := blk_grown HB.out HG.out hne.out; have hc2 : w2.cell? ⟨bl, 0, none⟩ = some v := (blk_cell hbl2 0).trans rfl; have hf2 : w2.frozen? ⟨bl, 0, none⟩ = false := blk_frozen hbl2 0; have HB2 := Aside0.mk hbl2; clear hbl2))
  go_end0
  refine ⟨rfl, _, blk_set HB2.out 0 _, ?_, ?_, ?_⟩
  · rw [← HE.out]
    exact Kd.R_set HO.out HB2.out (by decide) 0 _
  · exact ((Frm.of_below H0.out _).trans (Frm.of_grown HG.out) (fun _ _ hk => .inr hk)).trans (Frm.of_set _ _ _) (fun _ _ hk => .inl hk)
  · rw [← HE.out]
    rcases HA.out with h1 | ⟨b1, h1, h2⟩
    · exact .inl h1
    · exact .inr ⟨b1, h1, by omega⟩
end Go.Proofs.Ytagcabmccpekaaa.M
