/- What massifref20.Places and massifref7.SameNumbers come to. -/
import Derived.Test.YtagcabmccpekaaaMathC
namespace Go.Proofs.Ytagcabmccpekaaa.M
open Go.RowKit Go.Proofs.YtagcabmccpekaaaW.PrintWords Go.Proofs.YtagcabmccpekaaaW.PrintLast Go.Proofs.YtagcabmccpekaaaW.PrintMore Go.Proofs.Ytagcabmccpekaaa.Leaf

theorem mul_cast (i h : Nat) : (i : Int) * ((2 ^ h : Nat) : Int) = ((i * 2 ^ h : Nat) : Int) := by push_cast; rfl
theorem spots_fits {h i : Nat} (hi : (i + 1) * 2 ^ h ≤ 4611686018427387904) : i * 2 ^ h ≤ 4611686018427387904 ∧ i + 1 ≤ 4611686018427387904 ∧ (i + 1) * 2 ^ h = i * 2 ^ h + 2 ^ h ∧ h ≤ 62 :=
  have h1 : (i + 1) * 2 ^ h = i * 2 ^ h + 2 ^ h := by rw [Nat.add_mul, Nat.one_mul]
  ⟨by have := p2_pos h; omega, Nat.le_trans (Nat.le_mul_of_pos_right _ (p2_pos h)) hi, h1, height_le h i hi⟩
theorem ends_val {h i : Nat} (hi : (i + 1) * 2 ^ h ≤ 4611686018427387904) : wrap64 (h : Int) = h ∧ IntKind.u64.wrap ((i : Int) * ((2 ^ h : Nat) : Int)) = ((i * 2 ^ h : Nat) : Int) ∧ IntKind.u64.wrap (IntKind.u64.wrap ((i : Int) + 1) * ((2 ^ h : Nat) : Int)) = (((i + 1) * 2 ^ h : Nat) : Int) := by
  obtain ⟨h1, h2, h3, h4⟩ := spots_fits hi
  refine ⟨i64_of _ (by omega) (by omega), ?_, ?_⟩
  · rw [mul_cast, w64_nat _ (by omega)]
  · rw [w64_of ((i : Int) + 1) (by omega) (by omega), show ((i : Int) + 1) = ((i + 1 : Nat) : Int) by omega, mul_cast, w64_nat _ (by omega)]
theorem meets_val (h i f t : Nat) (hi : (i + 1) * 2 ^ h ≤ 4611686018427387904) : Ev (fun k => massifref20_meets.f k (h : Int) (i : Int) (f : Int) (t : Int)) (decide (f < t ∧ i * 2 ^ h < t ∧ f < (i + 1) * 2 ^ h)) := by
  obtain ⟨e1, e2, e3⟩ := ends_val hi
  have h4 := (spots_fits hi).2.2.2
  unfold massifref20_meets.f
  rw [e1]
  refine Ev.bind (power_val h (by omega)) ?_
  rw [e2, e3]
  by_cases c1 : f < t
  · refine Ev.congr (fun k => if_pos (by omega)) ?_
    by_cases c2 : i * 2 ^ h < t
    · refine Ev.congr (fun k => if_pos (by omega)) ?_
      rw [show decide (f < t ∧ i * 2 ^ h < t ∧ f < (i + 1) * 2 ^ h) = decide ((((i + 1) * 2 ^ h : Nat) : Int) > (f : Int)) by apply decide_eq_decide.2; omega]
      exact Ev.now _
    · refine Ev.congr (fun k => if_neg (by omega)) ?_
      rw [decide_eq_false (by omega)]
      exact Ev.now _
  · refine Ev.congr (fun k => if_neg (by omega)) ?_
    rw [decide_eq_false (by omega)]
    exact Ev.now _
theorem within_val (h i f t : Nat) (hi : (i + 1) * 2 ^ h ≤ 4611686018427387904) : Ev (fun k => massifref20_within.f k (h : Int) (i : Int) (f : Int) (t : Int)) (decide (f ≤ i * 2 ^ h ∧ (i + 1) * 2 ^ h ≤ t)) := by
  obtain ⟨e1, e2, e3⟩ := ends_val hi
  have h4 := (spots_fits hi).2.2.2
  unfold massifref20_within.f
  rw [e1]
  refine Ev.bind (power_val h (by omega)) ?_
  rw [e2, e3]
  by_cases c1 : f ≤ i * 2 ^ h
  · refine Ev.congr (fun k => if_pos (by omega)) ?_
    rw [show decide (f ≤ i * 2 ^ h ∧ (i + 1) * 2 ^ h ≤ t) = decide ((((i + 1) * 2 ^ h : Nat) : Int) ≤ (t : Int)) by apply decide_eq_decide.2; omega]
    exact Ev.now _
  · refine Ev.congr (fun k => if_neg (by omega)) ?_
    rw [decide_eq_false (by omega)]
    exact Ev.now _
theorem spots_tell {f t h i : Nat} (c : ¬ (f < t ∧ i * 2 ^ h < t ∧ f < (i + 1) * 2 ^ h)) : spots f t h i = [(h, i)] := by
  cases h <;> simp only [spots] <;> rw [if_pos (by simp at c ⊢; omega)]
theorem spots_in {f t h i : Nat} (c : f < t ∧ i * 2 ^ h < t ∧ f < (i + 1) * 2 ^ h) (d : f ≤ i * 2 ^ h ∧ (i + 1) * 2 ^ h ≤ t) : spots f t h i = [] := by
  cases h
  · simp only [spots]
    rw [if_neg (by simp at c d; omega)]
  · simp only [spots]
    rw [if_neg (by omega), if_pos (by omega)]
theorem spots_two {f t h i : Nat} (c : f < t ∧ i * 2 ^ (h + 1) < t ∧ f < (i + 1) * 2 ^ (h + 1)) (d : ¬ (f ≤ i * 2 ^ (h + 1) ∧ (i + 1) * 2 ^ (h + 1) ≤ t)) : spots f t (h + 1) i = spots f t h (2 * i) ++ spots f t h (2 * i + 1) := by
  simp only [spots]
  rw [if_neg (by omega), if_neg (by omega)]
theorem needs_val (f t : Nat) (h : Nat) : ∀ i : Nat, (i + 1) * 2 ^ h ≤ 4611686018427387904 → Ev (fun k => massifref20_needs.f k (h : Int) (i : Int) (f : Int) (t : Int)) (spotsOf (spots f t h i)) := by
  induction h with
  | zero =>
    intro i hi
    refine Ev.step (fun k => by simp only [massifref20_needs.f]; rfl) ?_
    refine Ev.bind (meets_val 0 i f t hi) ?_
    by_cases c : f < t ∧ i * 2 ^ 0 < t ∧ f < (i + 1) * 2 ^ 0
    · refine Ev.congr (fun k => if_pos (decide_eq_true c)) ?_
      refine Ev.bind (within_val 0 i f t hi) ?_
      refine Ev.congr (fun k => if_pos (decide_eq_true (by simp at c ⊢; omega))) ?_
      rw [spots_in c (by simp at c ⊢; omega)]
      exact Ev.now _
    · refine Ev.congr (fun k => if_neg (by rw [decide_eq_true_eq]; exact c)) ?_
      rw [spots_tell c]
      exact Ev.now _
  | succ h ih =>
    intro i hi
    have hs := spots_fits hi
    refine Ev.step (fun k => by simp only [massifref20_needs.f]; rfl) ?_
    refine Ev.bind (meets_val (h + 1) i f t hi) ?_
    by_cases c : f < t ∧ i * 2 ^ (h + 1) < t ∧ f < (i + 1) * 2 ^ (h + 1)
    · refine Ev.congr (fun k => if_pos (decide_eq_true c)) ?_
      refine Ev.bind (within_val (h + 1) i f t hi) ?_
      by_cases d : f ≤ i * 2 ^ (h + 1) ∧ (i + 1) * 2 ^ (h + 1) ≤ t
      · refine Ev.congr (fun k => if_pos (decide_eq_true d)) ?_
        rw [spots_in c d]
        exact Ev.now _
      · refine Ev.congr (fun k => if_neg (by rw [decide_eq_true_eq]; exact d)) ?_
        have hr := kid_right h i
        have hm : (2 * i + 1) * 2 ^ h ≤ (2 * i + 1 + 1) * 2 ^ h := Nat.mul_le_mul_right _ (by omega)
        have i1 := ih (2 * i) (by omega)
        have i2 := ih (2 * i + 1) (by omega)
        have l1 := spots_len f t h (2 * i)
        have l2 := spots_len f t h (2 * i + 1)
        rw [spots_two c d, show ((((h + 1 : Nat) : Int) - 1) % 256) = (h : Int) by omega, w64_of (2 * (i : Int)) (by omega) (by omega), show (2 * (i : Int)) = ((2 * i : Nat) : Int) by omega, w64_of (((2 * i : Nat) : Int) + 1) (by omega) (by omega), show (((2 * i : Nat) : Int) + 1) = ((2 * i + 1 : Nat) : Int) by omega]
        refine Ev.bind i1 ?_
        refine Ev.congr (fun k => Option.bind_some _ _) ?_
        refine Ev.congr (fun k => if_pos (by simp [spotsOf]; omega)) ?_
        refine Ev.congr (fun k => Option.bind_some _ _) ?_
        refine Ev.bind i2 ?_
        refine Ev.congr (fun k => if_pos (by simp [spotsOf]; omega)) ?_
        rw [show [] ++ spotsOf (spots f t h (2 * i)) ++ spotsOf (spots f t h (2 * i + 1)) = spotsOf (spots f t h (2 * i) ++ spots f t h (2 * i + 1)) by simp [spotsOf]]
        exact Ev.now _
    · refine Ev.congr (fun k => if_neg (by rw [decide_eq_true_eq]; exact c)) ?_
      rw [spots_tell c]
      exact Ev.now _

theorem placesOf_cons (s : Nat × Nat) (l : List (Nat × Nat)) : placesOf (s :: l) = [((placeN s.1 s.2 : Nat) : Int)] ++ placesOf l := rfl
theorem rd_spots (l : List (Nat × Nat)) (j : Nat) (hj : j < l.length) : rd_T39 (spotsOf l) (j : Int) = ⟨((l[j]).1 : Int), ((l[j]).2 : Int)⟩ := by
  simp [rd_T39, spotsOf, List.getD_eq_getElem?_getD, List.getElem?_eq_getElem hj]
theorem places_l1 (f t : Int) (tops : List S39) (i : Int) (l : List (Nat × Nat)) (r : List Int × Int) (hl : l.length < 4294967296) (hfit : ∀ s ∈ l, (s.2 + 1) * 2 ^ s.1 ≤ 4611686018427387904) :
    ∀ (d j : Nat) (acc : List Int), j + d = l.length → acc.length + d < 17592186044416 → Ev (fun k => massifref20_Places.l0 k f t (acc ++ placesOf (l.drop j)) tops (wrap64 (i + 1))) r →
      Ev (fun k => massifref20_Places.l1 k f t acc tops i (spotsOf l) (j : Int)) r
  | 0, j, acc, hj, _, hr => by
    rw [List.drop_of_length_le (by omega), show acc ++ placesOf [] = acc by simp [placesOf]] at hr
    exact Ev.step (fun k => by simp only [massifref20_Places.l1]; rw [if_neg (by simp [spotsOf]; omega)]) hr
  | d + 1, j, acc, hj, ha, hr => by
    have hjl : j < l.length := by omega
    have e1 : wrap64 ((j : Int) + 1) = ((j + 1 : Nat) : Int) := by rw [i64_of _ (by omega) (by omega)]; omega
    rw [List.drop_eq_getElem_cons hjl, show acc ++ placesOf (l[j] :: l.drop (j + 1)) = acc ++ [((placeN (l[j]).1 (l[j]).2 : Nat) : Int)] ++ placesOf (l.drop (j + 1)) by rw [placesOf_cons, List.append_assoc]] at hr
    have ih := places_l1 f t tops i l r hl hfit d (j + 1) (acc ++ [((placeN (l[j]).1 (l[j]).2 : Nat) : Int)]) (by omega) (by simp; omega) hr
    have pv := place3_val (l[j]).1 (l[j]).2 (hfit _ (List.getElem_mem hjl))
    refine Ev.step (fun k => by simp only [massifref20_Places.l1]; rw [if_pos (by simp [spotsOf]; omega), if_pos (by omega), rd_spots l j hjl]) ?_
    refine Ev.bind pv ?_
    refine Ev.congr (fun k => if_pos (by omega)) ?_
    rw [e1]
    exact ih
theorem places_l0 (f t : Nat) (tops : List (Nat × Nat)) (hl : tops.length ≤ 63) (hfit : ∀ s ∈ tops, (s.2 + 1) * 2 ^ s.1 ≤ 4611686018427387904) :
    ∀ (d i : Nat) (acc : List Int), i + d = tops.length → acc.length + 127 * d < 17592186044416 →
      Ev (fun k => massifref20_Places.l0 k (f : Int) (t : Int) acc (spotsOf tops) (i : Int)) (acc ++ placesOf ((tops.drop i).flatMap fun s => spots f t s.1 s.2), 0)
  | 0, i, acc, hi, _ => by
    rw [List.drop_of_length_le (by omega), show acc ++ placesOf (([] : List (Nat × Nat)).flatMap fun s => spots f t s.1 s.2) = acc by simp [placesOf]]
    exact Ev.step (f := fun _ => some (acc, 0)) (fun k => by simp only [massifref20_Places.l0]; rw [if_neg (by simp [spotsOf]; omega)]) (Ev.now _)
  | d + 1, i, acc, hi, ha => by
    have hil : i < tops.length := by omega
    have hf := hfit _ (List.getElem_mem hil)
    have h62 := (spots_fits hf).2.2.2
    have hlen := spots_len f t (tops[i]).1 (tops[i]).2
    have e1 : wrap64 ((i : Int) + 1) = ((i + 1 : Nat) : Int) := by rw [i64_of _ (by omega) (by omega)]; omega
    rw [List.drop_eq_getElem_cons hil, List.flatMap_cons, show acc ++ placesOf (spots f t (tops[i]).1 (tops[i]).2 ++ (tops.drop (i + 1)).flatMap fun s => spots f t s.1 s.2) = acc ++ placesOf (spots f t (tops[i]).1 (tops[i]).2) ++ placesOf ((tops.drop (i + 1)).flatMap fun s => spots f t s.1 s.2) by simp [placesOf]]
    have ih := places_l0 f t tops hl hfit d (i + 1) (acc ++ placesOf (spots f t (tops[i]).1 (tops[i]).2)) (by omega) (by simp [placesOf]; omega)
    refine Ev.step (fun k => by simp only [massifref20_Places.l0]; rw [if_pos (by simp [spotsOf]; omega), if_pos (by omega), rd_spots tops i hil]) ?_
    refine Ev.bind (needs_val f t (tops[i]).1 (tops[i]).2 hf) ?_
    refine places_l1 f t (spotsOf tops) i _ _ (by omega) (fun s hs => ?_) _ 0 acc (Nat.zero_add _) (by omega) ?_
    · have := (spots_fit f t _ _ s hs).2
      omega
    · rw [List.drop_zero, e1]
      exact ih
def spanAns (f t n : Nat) : List Int × Int := if 4611686018427387904 < n then ([], 30) else if t < f ∨ n < t then ([], 32) else (intsOf (spanPlaces f t n), 0)
theorem places_eq (f t n : Nat) : placesOf (spanSpots f t n) = intsOf (spanPlaces f t n) := by simp [placesOf, intsOf, spanPlaces, List.map_map, Function.comp_def]
theorem tops_fits (n : Nat) (hn : n ≤ 4611686018427387904) : ∀ s ∈ topsN n, (s.2 + 1) * 2 ^ s.1 ≤ 4611686018427387904 := fun s hs => Nat.le_trans (tops_fit 63 n s hs).2 hn
theorem ref20_places (f t n : Nat) : Ev (fun k => massifref20_Places.f k (f : Int) (t : Int) (n : Int)) (spanAns f t n) := by
  unfold spanAns massifref20_Places.f
  by_cases c1 : 4611686018427387904 < n
  · rw [if_pos c1]
    exact Ev.congr (fun k => if_pos (by omega)) (Ev.now _)
  · rw [if_neg c1]
    refine Ev.congr (fun k => if_neg (by omega)) ?_
    by_cases c2 : t < f
    · rw [if_pos (Or.inl c2)]
      refine Ev.congr (fun k => if_pos (by omega)) ?_
      exact Ev.step (f := fun _ => some ([], 32)) (fun k => by simp only [massifref20_Places.j0]; rw [if_pos (by trivial)]) (Ev.now _)
    · refine Ev.congr (fun k => if_neg (by omega)) ?_
      by_cases c3 : n < t
      · rw [if_pos (Or.inr c3)]
        exact Ev.step (f := fun _ => some ([], 32)) (fun k => by simp only [massifref20_Places.j0]; rw [if_pos (by rw [decide_eq_true_eq]; omega)]) (Ev.now _)
      · rw [if_neg (by omega)]
        refine Ev.step (fun k => by simp only [massifref20_Places.j0]; rw [if_neg (by rw [decide_eq_true_eq]; omega)]) ?_
        refine Ev.bind (tops_val n (by omega)) ?_
        have h := places_l0 f t (topsN n) (topsF_len 63 n) (tops_fits n (by omega)) _ 0 [] (Nat.zero_add _) (by have := topsF_len 63 n; simp only [List.length_nil, topsN]; omega)
        rw [List.nil_append, List.drop_zero, show (topsN n).flatMap (fun s => spots f t s.1 s.2) = spanSpots f t n from rfl, places_eq] at h
        exact h
theorem same_loop (xs ys : List Int) (hl : xs.length = ys.length) (hb : xs.length < 9223372036854775807) : ∀ (d i : Nat), i + d = xs.length → Ev (fun k => massifref7_SameNumbers.l0 k xs ys (i : Int)) (decide (xs.drop i = ys.drop i))
  | 0, i, hi => by
    rw [List.drop_of_length_le (by omega), List.drop_of_length_le (by omega)]
    exact Ev.step (f := fun _ => some (decide (([] : List Int) = []))) (fun k => by simp only [massifref7_SameNumbers.l0]; rw [if_neg (by omega)]; rfl) (Ev.now _)
  | d + 1, i, hi => by
    have h1 : i < xs.length := by omega
    have h2 : i < ys.length := by omega
    have ih := same_loop xs ys hl hb d (i + 1) (by omega)
    have e1 : wrap64 ((i : Int) + 1) = ((i + 1 : Nat) : Int) := by rw [i64_of _ (by omega) (by omega)]; omega
    have r1 : rd xs (i : Int) = xs[i] := by simp [rd, List.getD_eq_getElem?_getD, List.getElem?_eq_getElem h1]
    have r2 : rd ys (i : Int) = ys[i] := by simp [rd, List.getD_eq_getElem?_getD, List.getElem?_eq_getElem h2]
    rw [List.drop_eq_getElem_cons h1, List.drop_eq_getElem_cons h2]
    refine Ev.step (fun k => by simp only [massifref7_SameNumbers.l0]; rw [if_pos (by omega), if_pos (by omega), if_pos (by omega), r1, r2, e1]) ?_
    by_cases c : xs[i] = ys[i]
    · refine Ev.congr (fun k => if_pos c) ?_
      rw [show decide (xs[i] :: xs.drop (i + 1) = ys[i] :: ys.drop (i + 1)) = decide (xs.drop (i + 1) = ys.drop (i + 1)) by apply decide_eq_decide.2; rw [List.cons.injEq]; exact ⟨fun h => h.2, fun h => ⟨c, h⟩⟩]
      exact ih
    · refine Ev.congr (fun k => if_neg c) ?_
      rw [decide_eq_false (by rw [List.cons.injEq]; exact fun h => c h.1)]
      exact Ev.now _
theorem same_val (xs ys : List Int) (hb : xs.length < 9223372036854775807) : Ev (fun k => massifref7_SameNumbers.f k xs ys) (decide (xs = ys)) := by
  unfold massifref7_SameNumbers.f
  by_cases c : xs.length = ys.length
  · exact Ev.congr (fun k => if_pos (by omega)) (same_loop xs ys c hb _ 0 (Nat.zero_add _))
  · refine Ev.congr (fun k => if_neg (by omega)) ?_
    rw [decide_eq_false (fun e => c (by rw [e]))]
    exact Ev.now _
end Go.Proofs.Ytagcabmccpekaaa.M
