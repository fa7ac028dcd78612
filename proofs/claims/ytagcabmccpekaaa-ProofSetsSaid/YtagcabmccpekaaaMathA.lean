/- Plain laws of places, with no program in sight: set bits, how many nodes n leaves have, the greatest n with so many nodes, peaks, the spots that a span needs. -/
import Derived.Lib.BitFns
namespace Go.Proofs.Ytagcabmccpekaaa.M

theorem pop_le : ∀ (f x : Nat), Lib.popAux f x ≤ x
  | 0, _ => Nat.zero_le _
  | f + 1, x => by
    have := pop_le f (x / 2)
    simp only [Lib.popAux]
    omega
theorem pop_lef : ∀ (f x : Nat), Lib.popAux f x ≤ f
  | 0, _ => Nat.zero_le _
  | f + 1, x => by
    have := pop_lef f (x / 2)
    simp only [Lib.popAux]
    omega
theorem pop_zero : ∀ f, Lib.popAux f 0 = 0
  | 0 => rfl
  | f + 1 => by simp only [Lib.popAux]; rw [pop_zero f]
theorem pop_fuel : ∀ (f x g : Nat), x < 2 ^ f → f ≤ g → Lib.popAux g x = Lib.popAux f x
  | 0, x, g, hx, _ => by
    have : x = 0 := by simpa using hx
    subst this
    rw [pop_zero, pop_zero]
  | f + 1, x, g, hx, hg => by
    obtain ⟨g, rfl⟩ : ∃ g', g = g' + 1 := ⟨g - 1, by omega⟩
    simp only [Lib.popAux]
    rw [pop_fuel f (x / 2) g (by rw [Nat.pow_succ] at hx; omega) (by omega)]
theorem pop_top : ∀ (g x : Nat), x < 2 ^ g → Lib.popAux (g + 1) (2 ^ g + x) = 1 + Lib.popAux g x
  | 0, x, hx => by
    have : x = 0 := by simpa using hx
    subst this
    rfl
  | g + 1, x, hx => by
    have h2 : 2 ^ (g + 1) = 2 * 2 ^ g := by rw [Nat.pow_succ]; omega
    have ih := pop_top g (x / 2) (by omega)
    rw [show Lib.popAux (g + 1 + 1) (2 ^ (g + 1) + x) = (2 ^ (g + 1) + x) % 2 + Lib.popAux (g + 1) ((2 ^ (g + 1) + x) / 2) from rfl, show (2 ^ (g + 1) + x) / 2 = 2 ^ g + x / 2 by omega, ih, show Lib.popAux (g + 1) x = x % 2 + Lib.popAux g (x / 2) from rfl]
    omega

/-- How many nodes n leaves have. -/
def nodesN (n : Nat) : Nat := 2 * n - Lib.popAux 64 n
theorem nodes_top (g x : Nat) (hg : g ≤ 63) (hx : x < 2 ^ g) : nodesN (2 ^ g + x) = 2 ^ (g + 1) - 1 + nodesN x := by
  unfold nodesN
  have h2 : 2 ^ (g + 1) = 2 * 2 ^ g := by rw [Nat.pow_succ]; omega
  rw [pop_fuel (g + 1) (2 ^ g + x) 64 (by omega) (by omega), pop_top g x hx, pop_fuel g x 64 hx (by omega)]
  have := pop_le g x
  have : 0 < 2 ^ g := Nat.pow_pos (by omega)
  omega
theorem nodes_ones : ∀ (g : Nat), g ≤ 63 → nodesN (2 ^ g - 1) = 2 ^ (g + 1) - 2 - g
  | 0, _ => by rfl
  | g + 1, hg => by
    have ih := nodes_ones g (by omega)
    have h2 : 2 ^ (g + 1) = 2 * 2 ^ g := by rw [Nat.pow_succ]; omega
    have h3 : 2 ^ (g + 1 + 1) = 2 * 2 ^ (g + 1) := by rw [Nat.pow_succ]; omega
    have hp : 0 < 2 ^ g := Nat.pow_pos (by omega)
    have hl : g < 2 ^ g := Nat.lt_two_pow_self
    rw [show 2 ^ (g + 1) - 1 = 2 ^ g + (2 ^ g - 1) by omega, nodes_top g _ (by omega) (by omega), ih]
    omega
theorem nodes_lt (g x : Nat) (hg : g ≤ 63) (hx : x < 2 ^ g) : nodesN x + g ≤ 2 ^ (g + 1) - 2 := by
  induction g generalizing x with
  | zero =>
    have : x = 0 := by simpa using hx
    subst this
    decide
  | succ g ih =>
    have h2 : 2 ^ (g + 1) = 2 * 2 ^ g := by rw [Nat.pow_succ]; omega
    have h3 : 2 ^ (g + 1 + 1) = 2 * 2 ^ (g + 1) := by rw [Nat.pow_succ]; omega
    have hp : 0 < 2 ^ g := Nat.pow_pos (by omega)
    by_cases hb : x < 2 ^ g
    · have := ih x (by omega) hb
      omega
    · have := ih (x - 2 ^ g) (by omega) (by omega)
      rw [show x = 2 ^ g + (x - 2 ^ g) by omega, nodes_top g _ (by omega) (by omega)]
      omega
theorem nodes_half (x : Nat) (hx : x < 2 ^ 64) : nodesN x = x + nodesN (x / 2) := by
  unfold nodesN
  rw [show Lib.popAux 64 x = x % 2 + Lib.popAux 63 (x / 2) from rfl, pop_fuel 63 (x / 2) 64 (by omega) (by omega)]
  have := pop_le 63 (x / 2)
  omega
theorem nodes_zero : nodesN 0 = 0 := by decide
theorem nodes_le (x : Nat) : nodesN x ≤ 2 * x := by unfold nodesN; omega

/-- The greatest n of which not more than p nodes come, by g bits. -/
def lastF : Nat → Nat → Nat
  | 0, _ => 0
  | g + 1, p => if 2 ^ (g + 1) - 1 ≤ p then 2 ^ g + lastF g (p - (2 ^ (g + 1) - 1)) else lastF g p
theorem lastF_nodes (h : Nat) : ∀ (g x : Nat), g ≤ 63 → x < 2 ^ g → (∀ b, b < h → b < g → x.testBit b = true) → lastF g (nodesN x + h) = x
  | 0, x, _, hx, _ => by
    have : x = 0 := by simpa using hx
    subst this
    rfl
  | g + 1, x, hg, hx, hb => by
    have h2 : 2 ^ (g + 1) = 2 * 2 ^ g := by rw [Nat.pow_succ]; omega
    have hp : 0 < 2 ^ g := Nat.pow_pos (by omega)
    simp only [lastF]
    by_cases hs : x < 2 ^ g
    · have hn : ¬ g < h := by
        intro hgh
        have := hb g hgh (by omega)
        rw [Nat.testBit_lt_two_pow hs] at this
        exact absurd this (by simp)
      have := nodes_lt g x (by omega) hs
      rw [if_neg (by omega)]
      exact lastF_nodes h g x (by omega) hs (fun b h1 h2 => hb b h1 (by omega))
    · obtain ⟨y, rfl⟩ : ∃ y, x = 2 ^ g + y := ⟨x - 2 ^ g, by omega⟩
      rw [nodes_top g y (by omega) (by omega), if_pos (by omega), show 2 ^ (g + 1) - 1 + nodesN y + h - (2 ^ (g + 1) - 1) = nodesN y + h by omega]
      rw [lastF_nodes h g y (by omega) (by omega) (fun b h1 h2 => by
        have := hb b h1 (by omega)
        rwa [Nat.testBit_two_pow_add_gt h2] at this)]

/-- The place of a spot. -/
def placeN (h i : Nat) : Nat := nodesN ((i + 1) * 2 ^ h - 1) + h
theorem bits_low (h i b : Nat) (hb : b < h) : ((i + 1) * 2 ^ h - 1).testBit b = true := by
  have hp : 0 < 2 ^ h := Nat.pow_pos (by omega)
  rw [show (i + 1) * 2 ^ h - 1 = 2 ^ h * i + (2 ^ h - 1) by rw [Nat.add_mul, Nat.mul_comm i]; omega, Nat.testBit_two_pow_mul_add i (by omega), if_pos hb, Nat.testBit_two_pow_sub_one]
  simp [hb]
theorem last_place (h i : Nat) (hi : (i + 1) * 2 ^ h ≤ 2 ^ 62) : lastF 63 (placeN h i) = (i + 1) * 2 ^ h - 1 := by
  unfold placeN
  exact lastF_nodes h 63 _ (by omega) (by omega) (fun b hb _ => bits_low h i b hb)
theorem place_sub (h i : Nat) : placeN h i - nodesN ((i + 1) * 2 ^ h - 1) = h := by unfold placeN; omega
theorem height_le (h i : Nat) (hi : (i + 1) * 2 ^ h ≤ 2 ^ 62) : h ≤ 62 := by
  have h1 : 2 ^ h ≤ (i + 1) * 2 ^ h := Nat.le_mul_of_pos_left _ (by omega)
  exact (Nat.pow_le_pow_iff_right (by omega : 1 < 2)).1 (Nat.le_trans h1 hi)
theorem place_lt (h i : Nat) (hi : (i + 1) * 2 ^ h ≤ 2 ^ 62) : placeN h i ≤ 2 ^ 63 - 2 := by
  have hp : 0 < 2 ^ h := Nat.pow_pos (by omega)
  have := height_le h i hi
  have := nodes_lt 62 ((i + 1) * 2 ^ h - 1) (by omega) (by omega)
  unfold placeN
  omega

/-- The peaks' spots of n leaves, of the heights below g, from the highest on. -/
def topsF : Nat → Nat → List (Nat × Nat)
  | 0, _ => []
  | g + 1, n => (if n.testBit g then [(g, n / 2 ^ g - 1)] else []) ++ topsF g n
def topsN (n : Nat) : List (Nat × Nat) := topsF 63 n
theorem topsF_len : ∀ g n, (topsF g n).length ≤ g
  | 0, _ => Nat.le_refl _
  | g + 1, n => by
    have := topsF_len g n
    simp only [topsF, List.length_append]
    split <;> simp <;> omega
theorem tops_fit : ∀ (g n : Nat) (s : Nat × Nat), s ∈ topsF g n → s.1 < g ∧ (s.2 + 1) * 2 ^ s.1 ≤ n
  | 0, _, s, hs => by simp [topsF] at hs
  | g + 1, n, s, hs => by
    simp only [topsF, List.mem_append] at hs
    rcases hs with hs | hs
    · split at hs
      · next hb =>
        simp at hs
        subst hs
        have hp : 0 < 2 ^ g := Nat.pow_pos (by omega)
        have h1 : 2 ^ g ≤ n := Nat.ge_two_pow_of_testBit hb
        have h2 : 1 ≤ n / 2 ^ g := (Nat.one_le_div_iff hp).2 h1
        refine ⟨by simp, ?_⟩
        show (n / 2 ^ g - 1 + 1) * 2 ^ g ≤ n
        rw [Nat.sub_add_cancel h2]
        exact Nat.div_mul_le_self n (2 ^ g)
      · simp at hs
    · have := tops_fit g n s hs
      exact ⟨by omega, this.2⟩

/-- The spots at or under (h, i) that the span f, .., t - 1 needs, from the left. -/
def spots (f t : Nat) : Nat → Nat → List (Nat × Nat)
  | 0, i => if t ≤ f ∨ i + 1 ≤ f ∨ t ≤ i then [(0, i)] else []
  | h + 1, i => if t ≤ f ∨ (i + 1) * 2 ^ (h + 1) ≤ f ∨ t ≤ i * 2 ^ (h + 1) then [(h + 1, i)] else
      if f ≤ i * 2 ^ (h + 1) ∧ (i + 1) * 2 ^ (h + 1) ≤ t then [] else spots f t h (2 * i) ++ spots f t h (2 * i + 1)
theorem kid_left (h i : Nat) : (2 * i) * 2 ^ h = i * 2 ^ (h + 1) := by rw [Nat.pow_succ, Nat.mul_comm 2 i, Nat.mul_assoc, Nat.mul_comm 2]
theorem kid_mid (h i : Nat) : (2 * i + 1) * 2 ^ h = i * 2 ^ (h + 1) + 2 ^ h := by rw [Nat.add_mul, kid_left, Nat.one_mul]
theorem kid_right (h i : Nat) : (2 * i + 1 + 1) * 2 ^ h = (i + 1) * 2 ^ (h + 1) := by rw [show 2 * i + 1 + 1 = 2 * (i + 1) by omega, kid_left]
theorem spots_left (f t : Nat) : ∀ (h i : Nat), f ≤ i * 2 ^ h → (spots f t h i).length ≤ h + 1
  | 0, i, _ => by simp only [spots]; split <;> simp
  | h + 1, i, hf => by
    simp only [spots]
    split
    · simp
    · next c =>
      split
      · simp
      · next c2 =>
        have hk := kid_mid h i
        have h1 := spots_left f t h (2 * i) (by rw [kid_left]; exact hf)
        have hp : 0 < 2 ^ h := Nat.pow_pos (by omega)
        have h2 := spots_left f t h (2 * i + 1) (by rw [hk]; omega)
        rw [List.length_append]
        by_cases hm : t ≤ i * 2 ^ (h + 1) + 2 ^ h
        · have : (spots f t h (2 * i + 1)).length = 1 := by
            cases h <;> simp only [spots] <;> rw [if_pos (by first | (right; right; simp at hm ⊢; omega) | (right; right; rw [hk]; exact hm))] <;> rfl
          omega
        · have : (spots f t h (2 * i)).length = 0 := by
            have h3 : (2 * i + 1) * 2 ^ h = i * 2 ^ (h + 1) + 2 ^ h := hk
            have h4 : (2 * i) * 2 ^ h = i * 2 ^ (h + 1) := kid_left h i
            have hp : 0 < 2 ^ h := Nat.pow_pos (by omega)
            cases h with
            | zero => simp only [spots]; rw [if_neg (by simp at hm h4 hf; omega)]; rfl
            | succ h => simp only [spots]; rw [if_neg (by omega), if_pos (by omega)]; rfl
          omega
theorem spots_right (f t : Nat) : ∀ (h i : Nat), (i + 1) * 2 ^ h ≤ t → (spots f t h i).length ≤ h + 1
  | 0, i, _ => by simp only [spots]; split <;> simp
  | h + 1, i, hf => by
    simp only [spots]
    split
    · simp
    · next c =>
      split
      · simp
      · next c2 =>
        have hk := kid_mid h i
        have hr := kid_right h i
        have h1 := spots_right f t h (2 * i) (Nat.le_trans (Nat.mul_le_mul_right (2 ^ h) (by omega : 2 * i + 1 ≤ 2 * i + 1 + 1)) (by rw [hr]; exact hf))
        have h2 := spots_right f t h (2 * i + 1) (by rw [hr]; exact hf)
        rw [List.length_append]
        by_cases hm : i * 2 ^ (h + 1) + 2 ^ h ≤ f
        · have : (spots f t h (2 * i)).length = 1 := by
            cases h <;> simp only [spots] <;> rw [if_pos (by first | (right; left; simp at hm ⊢; omega) | (right; left; rw [hk]; exact hm))] <;> rfl
          omega
        · have : (spots f t h (2 * i + 1)).length = 0 := by
            have hx : (2 * i + 1 + 1) * 2 ^ h = (2 * i + 1) * 2 ^ h + 2 ^ h := by rw [Nat.add_mul (2 * i + 1), Nat.one_mul]
            have hp : 0 < 2 ^ h := Nat.pow_pos (by omega)
            cases h with
            | zero => simp only [spots]; rw [if_neg (by simp at hm hr hf; omega)]; rfl
            | succ h => simp only [spots]; rw [if_neg (by omega), if_pos (by omega)]; rfl
          omega
theorem spots_len (f t : Nat) : ∀ (h i : Nat), (spots f t h i).length ≤ 2 * h + 1
  | 0, i => by simp only [spots]; split <;> simp
  | h + 1, i => by
    simp only [spots]
    split
    · simp
    · split
      · simp
      · have hk := kid_mid h i
        have h0 := spots_len f t h (2 * i)
        have h1 := spots_len f t h (2 * i + 1)
        rw [List.length_append]
        by_cases hm : i * 2 ^ (h + 1) + 2 ^ h ≤ f
        · have : (spots f t h (2 * i)).length = 1 := by
            cases h <;> simp only [spots] <;> rw [if_pos (by first | (right; left; simp at hm ⊢; omega) | (right; left; rw [hk]; exact hm))] <;> rfl
          omega
        · by_cases hm2 : t ≤ i * 2 ^ (h + 1) + 2 ^ h
          · have : (spots f t h (2 * i + 1)).length = 1 := by
              cases h <;> simp only [spots] <;> rw [if_pos (by first | (right; right; simp at hm2 ⊢; omega) | (right; right; rw [hk]; exact hm2))] <;> rfl
            omega
          · have h2 := spots_right f t h (2 * i) (by rw [hk]; omega)
            have h3 := spots_left f t h (2 * i + 1) (by rw [hk]; omega)
            omega
theorem spots_fit (f t : Nat) : ∀ (h i : Nat) (s : Nat × Nat), s ∈ spots f t h i → s.1 ≤ h ∧ (s.2 + 1) * 2 ^ s.1 ≤ (i + 1) * 2 ^ h
  | 0, i, s, hs => by
    simp only [spots] at hs
    split at hs
    · simp at hs
      subst hs
      simp
    · simp at hs
  | h + 1, i, s, hs => by
    simp only [spots] at hs
    split at hs
    · simp at hs
      subst hs
      simp
    · split at hs
      · simp at hs
      · rcases List.mem_append.1 hs with hs | hs
        · have := spots_fit f t h (2 * i) s hs
          have hr := kid_right h i
          have : (2 * i + 1) * 2 ^ h ≤ (2 * i + 1 + 1) * 2 ^ h := Nat.mul_le_mul_right _ (by omega)
          exact ⟨by omega, by omega⟩
        · have := spots_fit f t h (2 * i + 1) s hs
          have hr := kid_right h i
          exact ⟨by omega, by omega⟩

/-- What the span f, .., t - 1 of n leaves needs. -/
def spanSpots (f t n : Nat) : List (Nat × Nat) := (topsN n).flatMap fun s => spots f t s.1 s.2
def spanPlaces (f t n : Nat) : List Nat := (spanSpots f t n).map fun s => placeN s.1 s.2
end Go.Proofs.Ytagcabmccpekaaa.M
