/- span.needed tells the spots that a span needs; span.Places. -/
import Derived.Test.YtagcabmccpekaaaSpanB
import Derived.Test.YtagcabmccpekaaaMathD
namespace Go.Proofs.Ytagcabmccpekaaa.M
open Go.RowKit Go.Proofs.YtagcabmccpekaaaW.PrintWords Go.Proofs.YtagcabmccpekaaaW.PrintLast Go.Proofs.YtagcabmccpekaaaW.PrintMore Go.Proofs.Ytagcabmccpekaaa.Leaf

theorem ends_int {h i : Nat} (hi : (i + 1) * 2 ^ h ≤ 4611686018427387904) : IntKind.u64.wrap ((i : Int) * 2 ^ h) = ((i * 2 ^ h : Nat) : Int) ∧ IntKind.u64.wrap (((i : Int) + 1) * 2 ^ h) = (((i + 1) * 2 ^ h : Nat) : Int) := by
  obtain ⟨h1, h2, h3, h4⟩ := spots_fits hi
  refine ⟨?_, ?_⟩
  · rw [show (i : Int) * 2 ^ h = ((i * 2 ^ h : Nat) : Int) by push_cast; rfl, w64_nat _ (by omega)]
  · rw [show ((i : Int) + 1) * 2 ^ h = (((i + 1) * 2 ^ h : Nat) : Int) by push_cast; rfl, w64_nat _ (by omega)]
theorem placesOf_length (l : List (Nat × Nat)) : (placesOf l).length = l.length := by simp only [placesOf, List.length_map]
theorem told_none {bl base : Nat} {v : Value} {xs : List Int} {w w' : World} {e : Ending} (hbl : w.heap[bl]? = some (.cells #[v] 23 (0, 0))) (hv : Kd.R (Kd.int .u64) 22 w base (fun _ => True) v xs)
    (h : e = .returned (.tuple #[]) ∧ Below w.heap.size w w') : Told bl base v xs [] w e w' :=
  ⟨h.1, v, (h.2.block bl (blk_lt hbl)).trans hbl, by rw [List.append_nil]; exact Kd.R_below hv h.2, Frm.of_below h.2 _, .inl rfl⟩
theorem span_needed (f t bl base : Nat) (h : Nat) : ∀ (i : Nat) (w : World) (v : Value) (xs : List Int), (i + 1) * 2 ^ h ≤ 4611686018427387904 → w.heap[bl]? = some (.cells #[v] 23 (0, 0)) →
    Kd.R (Kd.int .u64) 22 w base (fun _ => True) v xs → base ≤ w.heap.size → xs.length + (spots f t h i).length < 17592186044415 →
    Calls Try.prog 44 #[.agg #[.int .u8 h, .int .u64 i], .int .u64 f, .int .u64 t, .func (.func 45) #[] #[.pointer (some ⟨bl, 0, none⟩)]] w (Told bl base v xs (placesOf (spots f t h i)) w) := by
  induction h with
  | zero =>
    intro i w v xs hi hbl hv hbase hl
    obtain ⟨ea, eb⟩ := ends_int hi
    have hs := spots_fits hi
    by_cases c : f < t ∧ i * 2 ^ 0 < t ∧ f < (i + 1) * 2 ^ 0
    · have d : f ≤ i * 2 ^ 0 ∧ (i + 1) * 2 ^ 0 ≤ t := by simp at c ⊢; omega
      rw [spots_in c d]
      exact (needed_all f t 0 i _ _ _ w (by omega) (by omega) ea eb c.1 c.2.2 c.2.1 d.1 d.2).mono fun _ _ h => told_none hbl hv h
    · rw [spots_tell c] at hl ⊢
      simp only [List.length_singleton] at hl
      exact needed_tell f t 0 i _ _ _ bl v xs base w (by omega) (by omega) (place_val 0 i hi) ea eb hbl hv hbase (by omega) (by omega)
  | succ h ih =>
    intro i w v xs hi hbl hv hbase hl
    obtain ⟨ea, eb⟩ := ends_int hi
    have hs := spots_fits hi
    by_cases c : f < t ∧ i * 2 ^ (h + 1) < t ∧ f < (i + 1) * 2 ^ (h + 1)
    · by_cases d : f ≤ i * 2 ^ (h + 1) ∧ (i + 1) * 2 ^ (h + 1) ≤ t
      · rw [spots_in c d]
        exact (needed_all f t (h + 1) i _ _ _ w (by omega) (by omega) ea eb c.1 c.2.2 c.2.1 d.1 d.2).mono fun _ _ h => told_none hbl hv h
      · rw [spots_two c d] at hl ⊢
        rw [List.length_append] at hl
        have hr := kid_right h i
        have hm : (2 * i + 1) * 2 ^ h ≤ (2 * i + 1 + 1) * 2 ^ h := Nat.mul_le_mul_right _ (by omega)
        rw [show placesOf (spots f t h (2 * i) ++ spots f t h (2 * i + 1)) = placesOf (spots f t h (2 * i)) ++ placesOf (spots f t h (2 * i + 1)) by simp [placesOf]]
        exact needed_two f t h i _ _ bl v xs (placesOf (spots f t h (2 * i))) (placesOf (spots f t h (2 * i + 1))) base w (by omega) (by omega) ea eb hbl hv hbase c.1 c.2.2 c.2.1 (by omega)
          (fun w v h1 h2 h3 => ih (2 * i) w v xs (by omega) h1 h2 h3 (by omega)) (fun w v h1 h2 h3 => ih (2 * i + 1) w v _ (by omega) h1 h2 h3 (by simp [placesOf]; omega))
    · rw [spots_tell c] at hl ⊢
      simp only [List.length_singleton] at hl
      exact needed_tell f t (h + 1) i _ _ _ bl v xs base w (by omega) (by omega) (place_val (h + 1) i hi) ea eb hbl hv hbase (by omega) (by omega)

set_option maxHeartbeats 1000000 in
set_option maxRecDepth 100000 in
theorem span_places_none (f t n : Nat) (w : World) (h : 4611686018427387904 < n ∨ t < f ∨ n < t) :
    Calls Try.prog 12 #[.int .u64 f, .int .u64 t, .int .u64 n] w fun e w' => e = .returned (.tuple #[.slice none 0 0, .int .i64 (spanAns f t n).2]) ∧ Below w.heap.size w w' := by
  by_cases c1 : 4611686018427387904 < n
  · rw [show (spanAns f t n).2 = 30 by simp [spanAns, c1]]
    go_enter Try.func12, Try.ntmps12
    go_wp2
    go_ret2
    exact ⟨rfl, Below.refl _ _⟩
  · rw [show (spanAns f t n).2 = 32 by unfold spanAns; rw [if_neg c1, if_pos (by omega)]]
    by_cases c2 : t < f
    · go_enter Try.func12, Try.ntmps12
      go_wp2
      go_ret2
      exact ⟨rfl, Below.refl _ _⟩
    · have c3 : n < t := by omega
      go_enter Try.func12, Try.ntmps12
      go_wp2
      go_ret2
      exact ⟨rfl, Below.refl _ _⟩

/-- The loop of span.Places after j peaks. -/
def SpSt (f t n : Nat) (w : World) (v1 : Value) (L : List Int) (j : Nat) (wr : World) : Prop :=
  ∃ v, wr.heap[w.heap.size]? = some (.cells #[v] 23 (0, 0)) ∧ Kd.R (Kd.int .u64) 22 wr w.heap.size (fun _ => True) v (placesOf (((topsN n).take j).flatMap fun s => spots f t s.1 s.2)) ∧
    Kd.R (Kd.int .u64) 22 wr w.heap.size (fun _ => True) v1 L ∧ (∀ k, v1.ownBlock = some k → v.ownBlock ≠ some k) ∧ Below w.heap.size w wr ∧ w.heap.size < wr.heap.size

theorem spots_total (f t n j : Nat) : (((topsN n).take j).flatMap fun s => spots f t s.1 s.2).length ≤ 63 * 127 := by
  have h1 : ∀ l : List (Nat × Nat), (∀ s ∈ l, s.1 ≤ 62) → (l.flatMap fun s => spots f t s.1 s.2).length ≤ l.length * 127 := by
    intro l
    induction l with
    | nil => simp
    | cons s l ih =>
      intro hl
      have := ih (fun s hs => hl s (List.mem_cons_of_mem _ hs))
      have h2 := spots_len f t s.1 s.2
      have h3 := hl s (List.mem_cons_self ..)
      rw [List.flatMap_cons, List.length_append, List.length_cons]
      omega
  have h2 := h1 ((topsN n).take j) (fun s hs => by have := (tops_fit 63 n s (List.mem_of_mem_take hs)).1; omega)
  have h3 := topsF_len 63 n
  have h4 : ((topsN n).take j).length ≤ (topsN n).length := List.length_take_le' _ _
  unfold topsN at h4 h2 ⊢
  omega

theorem SpSt.next {f t n : Nat} {w : World} {v1 v : Value} {L : List Int} {j : Nat} {wr W w' : World} {e : Ending} {s : Nat × Nat} {ys : List Int} (hj : j < (topsN n).length) (hs : s = (topsN n)[j])
    (g1 : wr.heap[w.heap.size]? = some (.cells #[v] 23 (0, 0))) (g2 : Kd.R (Kd.int .u64) 22 wr w.heap.size (fun _ => True) v ys) (g3 : Kd.R (Kd.int .u64) 22 wr w.heap.size (fun _ => True) v1 L) (g4 : ∀ k, v1.ownBlock = some k → v.ownBlock ≠ some k) (g5 : Below w.heap.size w wr) (g6 : w.heap.size < wr.heap.size)
    (hW : Below wr.heap.size wr W) (h : Told w.heap.size w.heap.size v (placesOf (((topsN n).take j).flatMap fun s => spots f t s.1 s.2)) (placesOf (spots f t s.1 s.2)) W e w') : SpSt f t n w v1 L (j + 1) w' := by
  obtain ⟨_, v2, h1, h2, h3, h4⟩ := h
  have hv : ∀ k, v.ownBlock = some k → v1.ownBlock ≠ some k := fun k hk h => g4 k h hk
  have hlt := Kd.R_lt g3
  refine ⟨v2, h1, ?_, ?_, ?_, ?_, ?_⟩
  · rw [List.take_add_one, List.getElem?_eq_getElem hj, ← hs]
    rw [show placesOf (((topsN n).take j ++ (some s).toList).flatMap fun s => spots f t s.1 s.2) = placesOf (((topsN n).take j).flatMap fun s => spots f t s.1 s.2) ++ placesOf (spots f t s.1 s.2) by simp [placesOf]]
    exact h2
  · refine Kd.R_mono (Kd.R_step (w := W) (ok := fun k => some k = v1.ownBlock) ?_ (fun k hk hkl => h3.block k hkl ?_)) (fun _ _ => trivial)
    · obtain ⟨_, q⟩ := Kd.R_below g3 hW
      exact ⟨fun k hk => hk.symm, q.imp_ (fun _ _ hp => hp)⟩
    · rintro (hk1 | hk1)
      · subst hk1
        exact Kd.R_ne g3 g1 (by decide) hk
      · exact hv k hk1.symm hk.symm
  · intro k hk
    rcases h4 with h4 | ⟨b, h4, hb⟩
    · rw [h4]
      exact g4 k hk
    · rw [h4]
      have := hlt k hk
      have := hW.size
      intro he
      injection he with he
      omega
  · refine g5.trans ⟨h3.os.trans hW.os, h3.tape.trans hW.tape, h3.output.trans hW.output, Nat.le_trans hW.size h3.size, fun k hk => ?_⟩
    have hs1 := hW.size
    rw [h3.block k (by omega) ?_, hW.block k (by omega)]
    rintro (hk1 | hk1)
    · omega
    · have := Kd.R_base g2 k hk1.symm
      omega
  · have := hW.size
    have := h3.size
    omega

set_option maxHeartbeats 1000000 in
set_option maxRecDepth 100000 in
theorem span_places_some (f t n : Nat) (w : World) (c1 : ¬ 4611686018427387904 < n) (c2 : ¬ t < f) (c3 : ¬ n < t) :
    Calls Try.prog 12 #[.int .u64 f, .int .u64 t, .int .u64 n] w fun e w' => ∃ v, e = .returned (.tuple #[v, .int .i64 0]) ∧ Kd.R (Kd.int .u64) 22 w' w.heap.size (fun _ => True) v (placesOf (spanSpots f t n)) ∧ Below w.heap.size w w' := by
  obtain ⟨L, hL⟩ : ∃ L, L = placesOf (topsN n) := ⟨_, rfl⟩
  have hLn : L.length = (topsN n).length := by rw [hL]; simp [placesOf]
  have hL63 : L.length ≤ 63 := by rw [hLn]; exact topsF_len 63 n
  obtain ⟨k1, hk1⟩ := (peaks_val n (by omega)).rounds
  rw [← hL] at hk1
  have HK := Aside0.mk hk1
  have HL := Aside0.mk hL
  have HLn := Aside0.mk hLn
  clear hk1 hL hLn
  go_enter Try.func12, Try.ntmps12
  go_wp2_with fail
  refine (pos_Peaks.calls k1 n _ _ HK.out).mono ?_
  rintro e w1 ⟨v1, rfl, hr, hb⟩
  obtain ⟨A1, cap1, e1⟩ := Kd.R_slice hr
  rw [e1]
  have hb0 : Below w.heap.size w w1 := (bl_new w _).trans (hb.mono (by simp))
  have HS := Aside0.mk (show SpSt f t n w v1 L 0 w1 from ⟨_, (hb.block w.heap.size (by simp)).trans (heap_new w _), Kd.R_nil _ _ _ _ _, Kd.R_lower hr (by simp), (fun _ _ => by simp [Value.ownBlock]), hb0, by have := hb.size; simp at this; omega⟩)
  have HE := Aside0.mk e1
  clear hb hb0 hr e1
  go_wp2_with fail
  go_loopw [28] (fun c wr => ∃ j : Nat, j ≤ L.length ∧ c = .int .i64 j ∧ Aside0 (SpSt f t n w v1 L j wr)) (fun c _ => L.length - (intOf c).toNat)
  case atStart => exact ⟨0, Nat.zero_le _, rfl, HS⟩
  case round =>
    obtain ⟨j, hj, rfl, HJ⟩ := hrel
    clear HS
    by_cases hlt : j < L.length
    · obtain ⟨v, g1, g2, g3, g4, g5, g6⟩ := HJ.out
      rw [HE.out] at g3
      obtain ⟨_, _, hC⟩ := Kd.R_reads' g3
      obtain ⟨ad, ea, hx⟩ := Kd.at_int hC j (by omega) (by omega)
      subst ea
      rw [Int.toNat_natCast] at hx
      have hjt : j < (topsN n).length := by have := HLn.out; omega
      obtain ⟨s, hs⟩ : ∃ s, s = (topsN n)[j] := ⟨_, rfl⟩
      have hrd : rd L (j : Int) = ((placeN s.1 s.2 : Nat) : Int) := by
        rw [HL.out, hs]
        simp [rd, placesOf, List.getD_eq_getElem?_getD, List.getElem?_eq_getElem hjt]
      have hfit : (s.2 + 1) * 2 ^ s.1 ≤ 4611686018427387904 := tops_fits n (by omega) s (by rw [hs]; exact List.getElem_mem hjt)
      obtain ⟨k2, hk2⟩ := (spot_val s.1 s.2 hfit).rounds
      rw [← hrd] at hk2
      have HK2 := Aside0.mk hk2
      have G1 := Aside0.mk g1
      have G2 := Aside0.mk g2
      have G3 := Aside0.mk g3
      have G4 := Aside0.mk g4
      have G5 := Aside0.mk g5
      have HF := Aside0.mk hfit
      have HS := Aside0.mk hs
      clear g1 g2 g3 g4 g5 hC hk2 hrd hs hfit
      go_wp2_with fail
      refine (pos_Spot.calls k2 _ _ _ _ _ HK2.out).mono ?_
      rintro e w2 ⟨rfl, hb2⟩
      have H2 := Aside0.mk hb2
      clear hb2
      go_wp2_with fail
      refine (span_needed f t w.heap.size w.heap.size s.1 s.2 _ v _ HF.out ((((H2.out.trans (Below.alloc (Below.refl _ _) H2.out.size _)).block _ g6)).trans G1.out) (Kd.R_below G2.out (H2.out.trans (Below.alloc (Below.refl _ _) H2.out.size _))) (by have := H2.out.size; simp; omega) (by have := spots_total f t n j; have := spots_len f t s.1 s.2; have := (spots_fits HF.out).2.2.2; rw [placesOf_length]; omega)).mono ?_
      intro e w3 h3
      have H3 := Aside0.mk (SpSt.next hjt HS.out G1.out G2.out (HE.out ▸ G3.out) G4.out G5.out g6 (H2.out.trans (Below.alloc (Below.refl _ _) H2.out.size _)) h3)
      rw [h3.1]
      clear h3
      go_wp2_with fail
      go_roundw
      case rel => exact ⟨j + 1, by omega, by go_num, H3⟩
      case measure => simp [intOf]; omega
    · have hjl : j = L.length := by omega
      subst hjl
      obtain ⟨v, g1, g2, g3, g4, g5, g6⟩ := HJ.out
      obtain ⟨A2, cap2, e2⟩ := Kd.R_slice g2
      have hc0 : wr.cell? ⟨w.heap.size, 0, none⟩ = some v := (blk_cell g1 0).trans rfl
      have HV := Aside0.mk e2
      have G2 := Aside0.mk g2
      clear g1 g2 g3 g4 e2
      go_wp2_with fail
      go_ret2
      refine ⟨v, rfl, ?_, g5⟩
      have hq := G2.out
      rw [HLn.out, List.take_length] at hq
      exact hq
end Go.Proofs.Ytagcabmccpekaaa.M
