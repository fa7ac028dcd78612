/- Plain laws of a leaf's path and peak, with no program in sight: which spots a proof of a leaf has, that they and the leaf are all leaves, none twice. -/
import Derived.Test.YtagcabmccpekaaaMathA
namespace Go.Proofs.Ytagcabmccpekaaa.M

/-! Splitting the peaks. -/
theorem pop_snoc : ∀ (d y : Nat), Lib.popAux (d + 1) y = Lib.popAux d y + y / 2 ^ d % 2
  | 0, y => by simp [Lib.popAux]
  | d + 1, y => by
    have ih := pop_snoc d (y / 2)
    rw [show Lib.popAux (d + 1 + 1) y = y % 2 + Lib.popAux (d + 1) (y / 2) from rfl, ih, show Lib.popAux (d + 1) y = y % 2 + Lib.popAux d (y / 2) from rfl, Nat.div_div_eq_div_mul, show 2 * 2 ^ d = 2 ^ (d + 1) by rw [Nat.pow_succ]; omega]
    omega
theorem bit_mod (n g : Nat) : n.testBit g = true ↔ n / 2 ^ g % 2 = 1 := by rw [Nat.testBit_eq_decide_div_mod_eq]; simp
theorem tops_split (g n : Nat) : ∀ d, ∃ T, topsF (g + d) n = T ++ topsF g n ∧ T.length = Lib.popAux d (n / 2 ^ g) ∧ ∀ s ∈ T, g ≤ s.1
  | 0 => ⟨[], rfl, rfl, fun s hs => by simp at hs⟩
  | d + 1 => by
    obtain ⟨T, h1, h2, h3⟩ := tops_split g n d
    refine ⟨(if n.testBit (g + d) then [(g + d, n / 2 ^ (g + d) - 1)] else []) ++ T, ?_, ?_, ?_⟩
    · rw [show g + (d + 1) = g + d + 1 by omega]
      simp only [topsF]
      rw [h1, List.append_assoc]
    · rw [List.length_append, h2, pop_snoc, Nat.div_div_eq_div_mul, ← Nat.pow_add]
      have hb := bit_mod n (g + d)
      split
      · next hc => rw [hb.1 hc]; simp; omega
      · next hc =>
        have : ¬ n / 2 ^ (g + d) % 2 = 1 := fun h => hc (hb.2 h)
        rw [show n / 2 ^ (g + d) % 2 = 0 by omega]; simp
    · intro s hs
      rcases List.mem_append.1 hs with hs | hs
      · split at hs
        · simp at hs; subst hs; simp
        · simp at hs
      · exact h3 s hs
theorem tops_mem : ∀ (g n : Nat) (s : Nat × Nat), s ∈ topsF g n → s.1 < g ∧ n.testBit s.1 = true ∧ s.2 = n / 2 ^ s.1 - 1
  | 0, _, s, hs => by simp [topsF] at hs
  | g + 1, n, s, hs => by
    simp only [topsF, List.mem_append] at hs
    rcases hs with hs | hs
    · split at hs
      · next hb => simp at hs; subst hs; exact ⟨by simp, hb, rfl⟩
      · simp at hs
    · have := tops_mem g n s hs
      exact ⟨by omega, this.2⟩
theorem tops_down : ∀ (g n : Nat), (topsF g n).Pairwise (fun a b => b.1 < a.1)
  | 0, _ => by simp [topsF]
  | g + 1, n => by
    simp only [topsF, List.pairwise_append]
    refine ⟨by split <;> simp, tops_down g n, ?_⟩
    intro a ha b hb
    have := (tops_mem g n b hb).1
    split at ha
    · simp at ha; subst ha; exact this
    · simp at ha
/-- How many leaves a list of spots has. -/
def leavesN (l : List (Nat × Nat)) : Nat := (l.map fun s => 2 ^ s.1).sum
theorem leaves_app (a b : List (Nat × Nat)) : leavesN (a ++ b) = leavesN a + leavesN b := by simp [leavesN]
theorem leaves_cons (s : Nat × Nat) (b : List (Nat × Nat)) : leavesN (s :: b) = 2 ^ s.1 + leavesN b := by simp [leavesN]
theorem tops_sum : ∀ (g n : Nat), leavesN (topsF g n) = n % 2 ^ g
  | 0, n => by simp [topsF, leavesN, Nat.mod_one]
  | g + 1, n => by
    have ih := tops_sum g n
    have hb := bit_mod n g
    have hm : n % 2 ^ (g + 1) = n % 2 ^ g + 2 ^ g * (n / 2 ^ g % 2) := by rw [Nat.pow_succ, Nat.mod_mul]
    simp only [topsF]
    rw [leaves_app, ih, hm]
    split
    · next hc => rw [hb.1 hc]; simp [leavesN]; omega
    · next hc =>
      have : ¬ n / 2 ^ g % 2 = 1 := fun h => hc (hb.2 h)
      rw [show n / 2 ^ g % 2 = 0 by omega]; simp [leavesN]

/-! Two numbers that part at bit k. -/
def Lv (x y k : Nat) : Prop := x / 2 ^ k ≠ y / 2 ^ k ∧ x / 2 ^ (k + 1) = y / 2 ^ (k + 1)
theorem div_up (x : Nat) {k m : Nat} (h : k ≤ m) : x / 2 ^ m = x / 2 ^ k / 2 ^ (m - k) := by
  rw [Nat.div_div_eq_div_mul, ← Nat.pow_add, Nat.add_sub_cancel' h]
theorem eq_up {x y k m : Nat} (h : x / 2 ^ k = y / 2 ^ k) (hm : k ≤ m) : x / 2 ^ m = y / 2 ^ m := by rw [div_up x hm, div_up y hm, h]
theorem Lv.uniq {x y a b : Nat} (h : Lv x y a) (k : Lv x y b) : a = b := by
  rcases Nat.lt_trichotomy a b with hl | he | hl
  · exact absurd (eq_up h.2 hl) k.1
  · exact he
  · exact absurd (eq_up k.2 hl) h.1
theorem Lv.symm {x y k : Nat} (h : Lv x y k) : Lv y x k := ⟨fun e => h.1 e.symm, h.2.symm⟩
/-- x is under the spot. -/
def Und (x : Nat) (s : Nat × Nat) : Prop := x / 2 ^ s.1 = s.2
theorem und_iff (x k j : Nat) : x / 2 ^ k = j ↔ j * 2 ^ k ≤ x ∧ x < (j + 1) * 2 ^ k := by
  have hp : 0 < 2 ^ k := Nat.pow_pos (by omega)
  constructor
  · rintro rfl
    exact ⟨Nat.div_mul_le_self x _, by rw [Nat.mul_comm]; exact Nat.lt_mul_div_succ x hp⟩
  · rintro ⟨h1, h2⟩
    exact Nat.le_antisymm (Nat.lt_succ_iff.1 ((Nat.div_lt_iff_lt_mul hp).2 h2)) ((Nat.le_div_iff_mul_le hp).2 h1)
/-- The two spans of leaves meet. -/
def Meet (a b : Nat × Nat) : Prop := a.2 * 2 ^ a.1 < (b.2 + 1) * 2 ^ b.1 ∧ b.2 * 2 ^ b.1 < (a.2 + 1) * 2 ^ a.1
theorem meet_und {a b : Nat × Nat} (h : Meet a b) : ∃ x, Und x a ∧ Und x b := by
  have hp : 0 < 2 ^ a.1 := Nat.pow_pos (by omega)
  have hq : 0 < 2 ^ b.1 := Nat.pow_pos (by omega)
  have h1 := h.1
  have h2 := h.2
  have e1 : (a.2 + 1) * 2 ^ a.1 = a.2 * 2 ^ a.1 + 2 ^ a.1 := by rw [Nat.add_mul, Nat.one_mul]
  have e2 : (b.2 + 1) * 2 ^ b.1 = b.2 * 2 ^ b.1 + 2 ^ b.1 := by rw [Nat.add_mul, Nat.one_mul]
  refine ⟨max (a.2 * 2 ^ a.1) (b.2 * 2 ^ b.1), (und_iff _ _ _).2 ⟨by omega, by omega⟩, (und_iff _ _ _).2 ⟨by omega, by omega⟩⟩

/-- The number beside. -/
def sibN (x : Nat) : Nat := if x % 2 = 0 then x + 1 else x - 1
theorem sib_half (x : Nat) : sibN x / 2 = x / 2 := by unfold sibN; split <;> omega
theorem sib_ne (x : Nat) : sibN x ≠ x := by unfold sibN; split <;> omega
theorem sib_xor (x : Nat) : x ^^^ 1 = sibN x := by
  have h1 : (x ^^^ 1) / 2 = x / 2 := by
    have := Nat.shiftRight_xor_distrib (a := x) (b := 1) (i := 1)
    simpa [Nat.shiftRight_eq_div_pow] using this
  have h2 : (x ^^^ 1) % 2 = 1 - x % 2 := by
    have := Nat.xor_mod_two_eq_one (a := x) (b := 1)
    omega
  unfold sibN
  split <;> omega
def sibsN (i h : Nat) : List (Nat × Nat) := (List.range h).map fun k => (k, sibN (i / 2 ^ k))
theorem half_up (x k : Nat) : x / 2 ^ k / 2 = x / 2 ^ (k + 1) := by rw [Nat.div_div_eq_div_mul, Nat.pow_succ]
theorem sibs_lv {i h : Nat} {s : Nat × Nat} (hs : s ∈ sibsN i h) : s.1 < h ∧ s.2 = sibN (i / 2 ^ s.1) ∧ ∀ x, Und x s → Lv x i s.1 := by
  simp only [sibsN, List.mem_map, List.mem_range] at hs
  obtain ⟨k, hk, rfl⟩ := hs
  refine ⟨hk, rfl, fun x hx => ?_⟩
  have hx : x / 2 ^ k = sibN (i / 2 ^ k) := hx
  refine ⟨fun e => sib_ne (i / 2 ^ k) (by rw [← hx]; exact e), ?_⟩
  show x / 2 ^ (k + 1) = i / 2 ^ (k + 1)
  rw [← half_up, hx, sib_half, half_up]
theorem sibs_up (i h : Nat) : (sibsN i h).Pairwise (fun a b => a.1 < b.1) := by
  unfold sibsN
  rw [List.pairwise_map]
  exact List.pairwise_lt_range
theorem sibs_sum (i : Nat) : ∀ h, leavesN (sibsN i h) = 2 ^ h - 1
  | 0 => rfl
  | h + 1 => by
    have ih := sibs_sum i h
    have hp : 0 < 2 ^ h := Nat.pow_pos (by omega)
    have h2 : 2 ^ (h + 1) = 2 * 2 ^ h := by rw [Nat.pow_succ]; omega
    unfold sibsN at ih ⊢
    rw [List.range_succ, List.map_append, leaves_app, ih]
    simp only [List.map_cons, List.map_nil, leavesN, List.sum_cons, List.sum_nil]
    omega

/-- The highest bit in which i and n are unlike. -/
def hiN (i n : Nat) : Nat := Lib.bitLen (i ^^^ n) - 1
theorem len_zero (f : Nat) : Lib.bitLenAux f 0 = 0 := by cases f <;> simp [Lib.bitLenAux]
theorem xor_zero_eq {a b : Nat} (h : a ^^^ b = 0) : a = b := by
  have e : (a ^^^ b) ^^^ b = a := by rw [Nat.xor_assoc, Nat.xor_self, Nat.xor_zero]
  rw [h, Nat.zero_xor] at e
  exact e.symm
theorem len_lo : ∀ (f x : Nat), x ≠ 0 → x < 2 ^ f → 1 ≤ Lib.bitLenAux f x ∧ 2 ^ (Lib.bitLenAux f x - 1) ≤ x ∧ x < 2 ^ (Lib.bitLenAux f x)
  | 0, x, h0, hx => by simp at hx; omega
  | f + 1, x, h0, hx => by
    have h2 : 2 ^ (f + 1) = 2 * 2 ^ f := by rw [Nat.pow_succ]; omega
    simp only [Lib.bitLenAux]
    rw [if_neg h0]
    by_cases h1 : x / 2 = 0
    · have : x = 1 := by omega
      subst this
      rw [len_zero]
      simp
    · have ih := len_lo f (x / 2) h1 (by omega)
      obtain ⟨q, hq⟩ : ∃ q, Lib.bitLenAux f (x / 2) = q + 1 := ⟨_, (Nat.sub_add_cancel ih.1).symm⟩
      rw [hq] at ih ⊢
      have e1 : 2 ^ (q + 1) = 2 * 2 ^ q := by rw [Nat.pow_succ]; omega
      have e2 : 2 ^ (1 + (q + 1)) = 2 * 2 ^ (q + 1) := by rw [Nat.add_comm 1, Nat.pow_succ]; omega
      have i2 := ih.2.1
      have i3 := ih.2.2
      rw [show q + 1 - 1 = q by omega] at i2
      rw [show 1 + (q + 1) - 1 = q + 1 by omega]
      omega
theorem hi_lv {i n : Nat} (h : i < n) (hn : n < 2 ^ 64) : Lv i n (hiN i n) ∧ Lib.bitLen (i ^^^ n) = hiN i n + 1 := by
  have hx : i ^^^ n < 2 ^ 64 := Nat.xor_lt_two_pow (by omega) hn
  have h0 : i ^^^ n ≠ 0 := by
    intro e
    have : i = n := xor_zero_eq e
    omega
  have hl := len_lo 64 _ h0 hx
  have he : Lib.bitLen (i ^^^ n) = hiN i n + 1 := (Nat.sub_add_cancel hl.1).symm
  refine ⟨?_, he⟩
  have l2 : 2 ^ hiN i n ≤ i ^^^ n := hl.2.1
  have l3 : i ^^^ n < 2 ^ (hiN i n + 1) := by rw [← he]; exact hl.2.2
  generalize hiN i n = q at *
  have hp : 0 < 2 ^ q := Nat.pow_pos (by omega)
  refine ⟨fun e => ?_, ?_⟩
  · have h3 := Nat.shiftRight_xor_distrib (a := i) (b := n) (i := q)
    rw [Nat.shiftRight_eq_div_pow, Nat.shiftRight_eq_div_pow, Nat.shiftRight_eq_div_pow, e, Nat.xor_self] at h3
    have := (Nat.one_le_div_iff hp).2 l2
    omega
  · have h3 := Nat.shiftRight_xor_distrib (a := i) (b := n) (i := q + 1)
    rw [Nat.shiftRight_eq_div_pow, Nat.shiftRight_eq_div_pow, Nat.shiftRight_eq_div_pow, Nat.div_eq_of_lt l3] at h3
    exact xor_zero_eq h3.symm
/-- Over a leaf i < n stands the peak of that height. -/
theorem hi_peak {i n : Nat} (h : i < n) (hn : n < 2 ^ 64) : i / 2 ^ hiN i n = n / 2 ^ hiN i n - 1 ∧ n.testBit (hiN i n) = true ∧ 1 ≤ n / 2 ^ hiN i n := by
  have hl := (hi_lv h hn).1
  generalize hiN i n = q at *
  have h1 := hl.1
  have h2 := hl.2
  rw [← half_up, ← half_up] at h2
  have h3 : i / 2 ^ q ≤ n / 2 ^ q := Nat.div_le_div_right (by omega)
  rw [bit_mod]
  generalize i / 2 ^ q = a at *
  generalize n / 2 ^ q = b at *
  omega
theorem hi_le {i n : Nat} (h : i < n) (hn : n ≤ 4611686018427387904) : hiN i n ≤ 62 := by
  have hb := (hi_peak h (by omega)).2.1
  have hg := Nat.ge_two_pow_of_testBit hb
  have : 2 ^ hiN i n ≤ 2 ^ 62 := by omega
  exact (Nat.pow_le_pow_iff_right (by omega : 1 < 2)).1 this

/-- Which peak stands over leaf i. -/
def overN (i n : Nat) : Nat := Lib.popAux 64 (n / 2 ^ (hiN i n + 1))
/-- The spots of a leaf's proof. -/
def proofN (i n : Nat) : List (Nat × Nat) := sibsN i (hiN i n) ++ (topsN n).eraseIdx (overN i n)
theorem over_split {i n : Nat} (h : i < n) (hn : n ≤ 4611686018427387904) : ∃ T, topsN n = T ++ (hiN i n, i / 2 ^ hiN i n) :: topsF (hiN i n) n ∧ T.length = overN i n ∧ ∀ s ∈ T, hiN i n < s.1 := by
  have hle := hi_le h hn
  have hp := hi_peak h (by omega)
  obtain ⟨T, h1, h2, h3⟩ := tops_split (hiN i n + 1) n (62 - hiN i n)
  rw [show hiN i n + 1 + (62 - hiN i n) = 63 by omega] at h1
  refine ⟨T, ?_, ?_, fun s hs => h3 s hs⟩
  · rw [show topsN n = topsF 63 n from rfl, h1]
    simp only [topsF]
    rw [if_pos hp.2.1, hp.1]
    rfl
  · rw [h2]
    refine (pop_fuel _ _ 64 ?_ (by omega)).symm
    rw [Nat.div_lt_iff_lt_mul (Nat.pow_pos (by omega)), ← Nat.pow_add, show 62 - hiN i n + (hiN i n + 1) = 63 by omega]
    omega
theorem erase_mid {α : Type} (T : List α) (x : α) (R : List α) : (T ++ x :: R).eraseIdx T.length = T ++ R := by
  rw [List.eraseIdx_append_of_length_le (Nat.le_refl _)]
  simp
theorem proof_split {i n : Nat} (h : i < n) (hn : n ≤ 4611686018427387904) : ∃ T, topsN n = T ++ (hiN i n, i / 2 ^ hiN i n) :: topsF (hiN i n) n ∧ T.length = overN i n ∧ (∀ s ∈ T, hiN i n < s.1) ∧ proofN i n = sibsN i (hiN i n) ++ (T ++ topsF (hiN i n) n) := by
  obtain ⟨T, h1, h2, h3⟩ := over_split h hn
  refine ⟨T, h1, h2, h3, ?_⟩
  unfold proofN
  rw [h1, ← h2, erase_mid]
theorem proof_sum {i n : Nat} (h : i < n) (hn : n ≤ 4611686018427387904) : leavesN (proofN i n) + 1 = n := by
  obtain ⟨T, h1, h2, h3, h4⟩ := proof_split h hn
  have hs : leavesN (topsN n) = n := by
    rw [show topsN n = topsF 63 n from rfl, tops_sum]
    exact Nat.mod_eq_of_lt (by omega)
  rw [h1, leaves_app, leaves_cons] at hs
  rw [h4, leaves_app, leaves_app, sibs_sum]
  have hp : 0 < 2 ^ hiN i n := Nat.pow_pos (by omega)
  have : 2 ^ (hiN i n, i / 2 ^ hiN i n).1 = 2 ^ hiN i n := rfl
  omega
theorem proof_len {i n : Nat} (h : i < n) (hn : n ≤ 4611686018427387904) : overN i n < (topsN n).length ∧ (topsN n)[overN i n]? = some (hiN i n, i / 2 ^ hiN i n) ∧ (proofN i n).length + 1 = hiN i n + (topsN n).length := by
  obtain ⟨T, h1, h2, h3, h4⟩ := proof_split h hn
  rw [h1, h4, ← h2]
  simp [sibsN]
  omega
theorem tops_lv {n : Nat} {s : Nat × Nat} {g : Nat} (hs : s ∈ topsF g n) {x : Nat} (hx : Und x s) : Lv x n s.1 := by
  have hm := tops_mem g n s hs
  have hb := (bit_mod n s.1).1 hm.2.1
  have hx : x / 2 ^ s.1 = n / 2 ^ s.1 - 1 := hx.trans hm.2.2
  have e1 := half_up x s.1
  have e2 := half_up n s.1
  unfold Lv
  rw [← e1, ← e2, hx]
  generalize n / 2 ^ s.1 = b at *
  omega
/-- Any spot of a proof: whether x is under it is told by where x parts from i and from n. -/
theorem proof_apart {i n : Nat} (h : i < n) (hn : n ≤ 4611686018427387904) : (proofN i n).Pairwise (fun a b => ∀ x, Und x a → Und x b → False) := by
  obtain ⟨T, h1, h2, h3, h4⟩ := proof_split h hn
  have hl := (hi_lv h (by omega)).1
  have hd := tops_down 63 n
  have hm := tops_mem 63 n
  rw [show topsF 63 n = topsN n from rfl, h1] at hd hm
  have htop : ∀ s, s ∈ T ++ topsF (hiN i n) n → s ∈ topsF 63 n ∧ s.1 ≠ hiN i n := by
    intro s hs
    rw [show topsF 63 n = topsN n from rfl, h1]
    rcases List.mem_append.1 hs with hs | hs
    · exact ⟨List.mem_append.2 (.inl hs), by have := h3 s hs; omega⟩
    · exact ⟨List.mem_append.2 (.inr (List.mem_cons_of_mem _ hs)), by have := (tops_mem _ n s hs).1; omega⟩
  rw [h4, List.pairwise_append]
  refine ⟨?_, ?_, ?_⟩
  · refine List.Pairwise.imp_of_mem ?_ (sibs_up i (hiN i n))
    intro a b ha hb hab x hx hy
    have := Lv.uniq ((sibs_lv ha).2.2 x hx) ((sibs_lv hb).2.2 x hy)
    omega
  · have hd2 : (T ++ topsF (hiN i n) n).Pairwise (fun a b => b.1 < a.1) := by
      refine hd.sublist ?_
      exact List.Sublist.append (List.Sublist.refl _) (List.sublist_cons_self _ _)
    refine List.Pairwise.imp_of_mem ?_ hd2
    intro a b ha hb hab x hx hy
    have := Lv.uniq (tops_lv (htop a ha).1 hx) (tops_lv (htop b hb).1 hy)
    omega
  · intro a ha b hb x hx hy
    have hs := sibs_lv ha
    have l1 := hs.2.2 x hx
    have l2 := tops_lv (htop b hb).1 hy
    have e : x / 2 ^ hiN i n = i / 2 ^ hiN i n := eq_up l1.2 hs.1
    have l3 : Lv x n (hiN i n) := ⟨by rw [e]; exact hl.1, (eq_up l1.2 (by omega)).trans hl.2⟩
    exact (htop b hb).2 (Lv.uniq l2 l3)
theorem proof_not {i n : Nat} (h : i < n) (hn : n ≤ 4611686018427387904) : ∀ s ∈ proofN i n, ¬ Und i s := by
  obtain ⟨T, h1, h2, h3, h4⟩ := proof_split h hn
  have hl := (hi_lv h (by omega)).1
  intro s hs hx
  rw [h4] at hs
  rcases List.mem_append.1 hs with hs | hs
  · exact ((sibs_lv hs).2.2 i hx).1 rfl
  · have hm : s ∈ topsF 63 n ∧ s.1 ≠ hiN i n := by
      rw [show topsF 63 n = topsN n from rfl, h1]
      rcases List.mem_append.1 hs with hs | hs
      · exact ⟨List.mem_append.2 (.inl hs), by have := h3 s hs; omega⟩
      · exact ⟨List.mem_append.2 (.inr (List.mem_cons_of_mem _ hs)), by have := (tops_mem _ n s hs).1; omega⟩
    exact hm.2 (Lv.uniq (tops_lv hm.1 hx) hl)
theorem up_fit {j j' k m n : Nat} (hj : j' / 2 ^ (m - k) = j) (hkm : k ≤ m) (h : (j + 1) * 2 ^ m ≤ n) : (j' + 1) * 2 ^ k ≤ n := by
  refine Nat.le_trans ?_ h
  have hp : 0 < 2 ^ (m - k) := Nat.pow_pos (by omega)
  have h1 := (und_iff j' (m - k) j).1 hj
  rw [show 2 ^ m = 2 ^ (m - k) * 2 ^ k by rw [← Nat.pow_add, Nat.sub_add_cancel hkm], ← Nat.mul_assoc]
  exact Nat.mul_le_mul_right _ h1.2
theorem proof_fit {i n : Nat} (h : i < n) (hn : n ≤ 4611686018427387904) : ∀ s ∈ proofN i n, (s.2 + 1) * 2 ^ s.1 ≤ n := by
  obtain ⟨T, h1, h2, h3, h4⟩ := proof_split h hn
  have hp := hi_peak h (by omega)
  intro s hs
  rw [h4] at hs
  rcases List.mem_append.1 hs with hs | hs
  · have hk := sibs_lv hs
    have hb : (i / 2 ^ hiN i n + 1) * 2 ^ hiN i n ≤ n := by rw [hp.1, Nat.sub_add_cancel hp.2.2]; exact Nat.div_mul_le_self n _
    refine up_fit (m := hiN i n) (j := i / 2 ^ hiN i n) ?_ (by omega) hb
    rw [hk.2.1]
    have e : 2 ^ (hiN i n - s.1) = 2 * 2 ^ (hiN i n - s.1 - 1) := by rw [Nat.mul_comm, ← Nat.pow_succ]; exact congrArg (2 ^ ·) (by omega)
    rw [e, ← Nat.div_div_eq_div_mul, sib_half, Nat.div_div_eq_div_mul, ← e, ← div_up i (by omega)]
  · refine (tops_fit 63 n s ?_).2
    rw [show topsF 63 n = topsN n from rfl, h1]
    rcases List.mem_append.1 hs with hs | hs
    · exact List.mem_append.2 (.inl hs)
    · exact List.mem_append.2 (.inr (List.mem_cons_of_mem _ hs))

/-! Places below a size. -/
theorem nodes_succ : ∀ (m x : Nat), x < m → x + 1 < 2 ^ 64 → nodesN x < nodesN (x + 1)
  | 0, x, h, _ => by omega
  | m + 1, x, h, hx => by
    rw [nodes_half x (by omega), nodes_half (x + 1) hx]
    by_cases he : x % 2 = 0
    · rw [show (x + 1) / 2 = x / 2 by omega]; omega
    · rw [show (x + 1) / 2 = x / 2 + 1 by omega]
      by_cases h0 : x = 0
      · omega
      · have := nodes_succ m (x / 2) (by omega) (by omega)
        omega
theorem nodes_mono : ∀ (d x : Nat), x + d < 2 ^ 64 → nodesN x ≤ nodesN (x + d)
  | 0, _, _ => Nat.le_refl _
  | d + 1, x, h => Nat.le_trans (nodes_mono d x (by omega)) (Nat.le_of_lt (nodes_succ (x + d + 1) (x + d) (by omega) (by omega)))
theorem place_end : ∀ (k j : Nat), (j + 1) * 2 ^ k < 2 ^ 64 → placeN k j < nodesN ((j + 1) * 2 ^ k)
  | 0, j, h => by
    have := nodes_succ (j + 1) j (by omega) (by simpa using h)
    simpa [placeN] using this
  | k + 1, j, h => by
    have hp : 0 < 2 ^ k := Nat.pow_pos (by omega)
    have e : (j + 1) * 2 ^ (k + 1) = 2 * ((j + 1) * 2 ^ k) := by rw [Nat.pow_succ]; rw [← Nat.mul_assoc, Nat.mul_comm]
    have ih := place_end k j (by omega)
    have hq : 0 < (j + 1) * 2 ^ k := Nat.mul_pos (by omega) hp
    unfold placeN at ih ⊢
    rw [e] at h ⊢
    generalize (j + 1) * 2 ^ k = y at *
    rw [nodes_half (2 * y - 1) (by omega), nodes_half (2 * y) h, show (2 * y - 1) / 2 = y - 1 by omega, show 2 * y / 2 = y by omega]
    omega
theorem place_under {n : Nat} (hn : n < 2 ^ 64) {s : Nat × Nat} (h : (s.2 + 1) * 2 ^ s.1 ≤ n) : placeN s.1 s.2 < nodesN n := by
  refine Nat.lt_of_lt_of_le (place_end s.1 s.2 (by omega)) ?_
  have := nodes_mono (n - (s.2 + 1) * 2 ^ s.1) ((s.2 + 1) * 2 ^ s.1) (by omega)
  rwa [Nat.add_sub_cancel' h] at this
end Go.Proofs.Ytagcabmccpekaaa.M
