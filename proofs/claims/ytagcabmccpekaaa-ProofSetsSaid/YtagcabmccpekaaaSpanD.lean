/- span.Places in one contract; span.checked. -/
import Derived.Test.YtagcabmccpekaaaSpanC
namespace Go.Proofs.Ytagcabmccpekaaa.M
open Go.RowKit Go.Proofs.YtagcabmccpekaaaW.PrintWords Go.Proofs.YtagcabmccpekaaaW.PrintLast Go.Proofs.YtagcabmccpekaaaW.PrintMore Go.Proofs.Ytagcabmccpekaaa.Leaf

theorem span_places (f t n : Nat) (w : World) :
    Calls Try.prog 12 #[.int .u64 f, .int .u64 t, .int .u64 n] w fun e w' => ∃ v, e = .returned (.tuple #[v, .int .i64 (spanAns f t n).2]) ∧ Kd.R (Kd.int .u64) 22 w' w.heap.size (fun _ => True) v (spanAns f t n).1 ∧ Below w.heap.size w w' := by
  by_cases h : 4611686018427387904 < n ∨ t < f ∨ n < t
  · refine (span_places_none f t n w h).mono ?_
    rintro e w' ⟨he, hb⟩
    refine ⟨_, he, ?_, hb⟩
    have : (spanAns f t n).1 = [] := by
      unfold spanAns
      by_cases c1 : 4611686018427387904 < n
      · rw [if_pos c1]
      · rw [if_neg c1, if_pos (by omega)]
    rw [this]
    exact Kd.R_nil _ _ _ _ _
  · refine (span_places_some f t n w (by omega) (by omega) (by omega)).mono ?_
    rintro e w' ⟨v, he, hr, hb⟩
    have : spanAns f t n = (placesOf (spanSpots f t n), 0) := by
      unfold spanAns
      rw [if_neg (by omega), if_neg (by omega), places_eq]
    rw [this]
    exact ⟨v, he, hr, hb⟩
theorem spanAns_err (f t n : Nat) : (spanAns f t n).2 = 0 ∨ (spanAns f t n).2 = 30 ∨ (spanAns f t n).2 = 32 := by
  unfold spanAns
  split
  · simp
  · split <;> simp
theorem spanAns_len (f t n : Nat) : (spanAns f t n).1.length ≤ 8001 := by
  unfold spanAns
  split
  · simp
  · split
    · simp
    · rw [← places_eq, placesOf_length]
      have := spots_total f t n (topsN n).length
      rw [List.take_length] at this
      exact this
/-- What span.checked answers of a proof with k nodes. -/
def chkN (f t n k : Nat) : Int := if (spanAns f t n).2 = 0 ∧ (spanAns f t n).1.length ≠ k then 70 else (spanAns f t n).2

set_option maxHeartbeats 1000000 in
set_option maxRecDepth 100000 in
theorem span_checked (f t n k c : Nat) (A : Option Addr) (w : World) :
    Calls Try.prog 56 #[.agg #[.int .u64 n, .int .u64 f, .int .u64 t, .slice A k c]] w fun e w' => e = .returned (.int .i64 (chkN f t n k)) ∧ Below w.heap.size w w' := by
  have hc := span_places f t n
  have hlen := spanAns_len f t n
  have hchk : chkN f t n k = if (spanAns f t n).2 = 0 ∧ (spanAns f t n).1.length ≠ k then 70 else (spanAns f t n).2 := rfl
  generalize chkN f t n k = r at *
  generalize (spanAns f t n).1 = L at *
  have he := spanAns_err f t n
  generalize (spanAns f t n).2 = er at *
  have HC := Aside0.mk hc
  have HE := Aside0.mk hchk
  clear hc hchk
  go_enter Try.func56, Try.ntmps56
  go_wp2_with fail
  refine (HC.out _).mono ?_
  rintro e w1 ⟨v1, rfl, hr, hb⟩
  obtain ⟨A1, cap1, e1⟩ := Kd.R_slice hr
  rw [e1]
  have hb0 : Below w.heap.size w w1 := (bl_new w _).trans (hb.mono (by simp))
  have hbx : w1.heap[w.heap.size]? = some (.cells #[.int .u64 n, .int .u64 f, .int .u64 t, .slice A k c] 45 (0, 0)) := (hb.block _ (by simp)).trans (heap_new w _)
  have hx3 : w1.cell? ⟨w.heap.size, 3, none⟩ = some (.slice A k c) := (blk_cell hbx 3).trans rfl
  have HB := Aside0.mk hb0
  clear hr hb hb0 hbx e1
  by_cases h0 : er = 0
  · subst h0
    by_cases hk2 : L.length = k
    · have hd : ((L.length : Int) != (k : Int)) = false := by rw [bne_eq_false_iff_eq]; omega
      have HK := Aside0.mk hk2
      clear hk2
      go_wp2
      go_ret
      exact ⟨by have := HK.out; rw [HE.out, if_neg (by omega)]; rfl, HB.out⟩
    · have hd : ((L.length : Int) != (k : Int)) = true := by rw [bne_iff_ne]; omega
      have HK := Aside0.mk hk2
      clear hk2
      go_wp2
      go_ret
      exact ⟨by rw [HE.out, if_pos (by first | exact ⟨rfl, HK.out⟩ | exact ⟨trivial, HK.out⟩)]; rfl, HB.out⟩
  · have hd : (er == 0) = false := by rw [beq_eq_false_iff_ne]; exact h0
    have HK := Aside0.mk h0
    clear h0
    go_wp2
    go_ret
    exact ⟨by rw [HE.out, if_neg (fun h => HK.out h.1)]; rfl, HB.out⟩
end Go.Proofs.Ytagcabmccpekaaa.M
