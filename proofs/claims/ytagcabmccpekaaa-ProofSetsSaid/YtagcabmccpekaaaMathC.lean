/- What the functions of pos and of massifref3 come to, by the plain laws. -/
import Derived.Test.YtagcabmccpekaaaMathB
namespace Go.Proofs.Ytagcabmccpekaaa.M
open Go.RowKit Go.Proofs.YtagcabmccpekaaaW.PrintWords Go.Proofs.YtagcabmccpekaaaW.PrintLast Go.Proofs.YtagcabmccpekaaaW.PrintMore Go.Proofs.Ytagcabmccpekaaa.Leaf

theorem w64_of (z : Int) (h0 : 0 ≤ z) (h : z < 18446744073709551616) : IntKind.u64.wrap z = z := by rw [IntKind.wrap_u64]; omega
theorem i64_of (z : Int) (h0 : -9223372036854775808 ≤ z) (h : z < 9223372036854775808) : wrap64 z = z := by unfold wrap64; omega
theorem p2_le {h : Nat} (hh : h ≤ 63) : 2 ^ h ≤ 9223372036854775808 := Nat.pow_le_pow_right (by omega) hh
theorem p2_pos (h : Nat) : 0 < 2 ^ h := Nat.pow_pos (by omega)
theorem shl_nat (x h : Nat) (hh : h ≤ 64) (hx : x * 2 ^ h < 18446744073709551616) : shl .u64 (x : Int) (h : Int) = ((x * 2 ^ h : Nat) : Int) := by
  unfold shl
  rw [Int.toNat_natCast, show min h (IntKind.u64.bits) = h by simp [IntKind.bits]; omega, show ((x : Int) * 2 ^ h) = ((x * 2 ^ h : Nat) : Int) by push_cast; rfl]
  exact w64_nat _ hx
theorem shr_nat (x h : Nat) (hh : h ≤ 64) : shr .u64 (x : Int) (h : Int) = ((x / 2 ^ h : Nat) : Int) := by
  unfold shr
  rw [Int.toNat_natCast, show min h (IntKind.u64.bits) = h by simp [IntKind.bits]; omega]
  push_cast
  rfl

theorem nodes_val (n : Nat) (hn : n ≤ 9223372036854775807) : pos_nodes.f (n : Int) = some ((nodesN n : Nat) : Int) := by
  unfold pos_nodes.f num_Ones.f
  rw [ones_val n (by omega)]
  have := pop_lef 64 n
  have h2 := pop_le 64 n
  simp only [Option.bind_some]
  unfold nodesN
  generalize Lib.popAux 64 n = p at *
  rw [w64_of (2 * (n : Int)) (by omega) (by omega), w64_nat _ (by omega), w64_of _ (by omega) (by omega)]
  exact congrArg some (by omega)
theorem place_val (h i : Nat) (hi : (i + 1) * 2 ^ h ≤ 4611686018427387904) : pos_Place.f (h : Int) (i : Int) = some (((placeN h i : Nat) : Int), true) := by
  have hh := height_le h i hi
  have hp := p2_pos h
  have h1 : (i + 1) * 2 ^ h = i * 2 ^ h + 2 ^ h := by rw [Nat.add_mul, Nat.one_mul]
  unfold pos_Place.f
  rw [if_neg (by omega), if_pos (by omega)]
  have e0 : shr .u64 4611686018427387904 (h : Int) = ((4611686018427387904 / 2 ^ h : Nat) : Int) := shr_nat 4611686018427387904 h (by omega)
  have hlt : i < 4611686018427387904 / 2 ^ h := by rw [Nat.lt_div_iff_mul_lt hp]; omega
  have hi1 : i + 1 ≤ 4611686018427387904 := Nat.le_trans (Nat.le_mul_of_pos_right _ hp) hi
  rw [e0, if_neg (by omega), w64_of ((i : Int) + 1) (by omega) (by omega), show ((i : Int) + 1) = ((i + 1 : Nat) : Int) by omega, shl_nat (i + 1) h (by omega) (by omega), w64_of _ (by omega) (by omega),
    show (((i + 1) * 2 ^ h : Nat) : Int) - 1 = (((i + 1) * 2 ^ h - 1 : Nat) : Int) by omega, nodes_val _ (by omega)]
  simp only [Option.bind_some]
  have hn := place_lt h i hi
  unfold placeN at hn ⊢
  rw [w64_nat h (by omega), w64_of _ (by omega) (by omega)]
  rfl
theorem mask_val (g : Nat) (hg : g ≤ 62) : num_Mask.f ((g : Int) + 1) = some ((2 ^ (g + 1) - 1 : Nat) : Int) := by
  have := p2_le (by omega : g + 1 ≤ 63)
  have := p2_pos (g + 1)
  unfold num_Mask.f
  rw [if_neg (by omega), w64_of _ (by omega) (by omega), if_pos (by omega)]
  have e : shl .u64 1 ((g : Int) + 1) = ((1 * 2 ^ (g + 1) : Nat) : Int) := shl_nat 1 (g + 1) (by omega) (by omega)
  rw [e, w64_of _ (by omega) (by omega)]
  exact congrArg some (by omega)
theorem last_val : ∀ (g p n : Nat), g ≤ 63 → p < 18446744073709551616 → n + 2 ^ g ≤ 9223372036854775808 → Ev (fun k => pos_last.l0 k (p : Int) (n : Int) ((g : Int) - 1)) ((n + lastF g p : Nat) : Int)
  | 0, p, n, _, _, _ => Ev.step (f := fun _ => some ((n : Nat) : Int)) (fun k => by simp only [pos_last.l0]; rw [if_neg (by omega)]) (Ev.now _)
  | g + 1, p, n, hg, hp, hn => by
    have h2 : 2 ^ (g + 1) = 2 * 2 ^ g := by rw [Nat.pow_succ]; omega
    have e1 : (((g + 1 : Nat) : Int) - 1) = (g : Int) := by omega
    have em : num_Mask.f (wrap64 ((g : Int) + 1)) = some ((2 ^ (g + 1) - 1 : Nat) : Int) := by rw [i64_of _ (by omega) (by omega)]; exact mask_val g (by omega)
    have e2 : wrap64 ((g : Int) - 1) = (g : Int) - 1 := i64_of _ (by omega) (by omega)
    rw [e1]
    by_cases hc : 2 ^ (g + 1) - 1 ≤ p
    · have ih := last_val g (p - (2 ^ (g + 1) - 1)) (n + 2 ^ g) (by omega) (by omega) (by omega)
      have ea : IntKind.u64.wrap ((p : Int) - ((2 ^ (g + 1) - 1 : Nat) : Int)) = ((p - (2 ^ (g + 1) - 1) : Nat) : Int) := by rw [w64_of _ (by omega) (by omega)]; omega
      have eb : IntKind.u64.wrap ((n : Int) + shl .u64 1 (g : Int)) = ((n + 2 ^ g : Nat) : Int) := by
        have e : shl .u64 1 (g : Int) = ((1 * 2 ^ g : Nat) : Int) := shl_nat 1 g (by omega) (by omega)
        rw [e, w64_of _ (by omega) (by omega)]
        omega
      rw [show n + lastF (g + 1) p = n + 2 ^ g + lastF g (p - (2 ^ (g + 1) - 1)) by simp only [lastF]; rw [if_pos hc]; omega]
      exact Ev.step (fun k => by simp only [pos_last.l0]; rw [if_pos (by omega), em]; simp only [Option.bind_some]; rw [if_pos (by omega), if_pos (by omega), ea, eb, e2]) ih
    · have ih := last_val g p n (by omega) (by omega) (by omega)
      rw [show n + lastF (g + 1) p = n + lastF g p by simp only [lastF]; rw [if_neg hc]]
      exact Ev.step (fun k => by simp only [pos_last.l0]; rw [if_pos (by omega), em]; simp only [Option.bind_some]; rw [if_neg (by omega), e2]) ih
theorem nodes_most : pos_nodes.f 4611686018427387904 = some 9223372036854775807 := (nodes_val 4611686018427387904 (by omega)).trans (by decide +kernel)
theorem spot_val (h i : Nat) (hi : (i + 1) * 2 ^ h ≤ 4611686018427387904) : Ev (fun k => pos_Spot.f k ((placeN h i : Nat) : Int)) ((h : Int), (i : Int), true) := by
  have hh := height_le h i hi
  have hp := p2_pos h
  have hl := place_lt h i hi
  have h1 : (i + 1) * 2 ^ h = i * 2 ^ h + 2 ^ h := by rw [Nat.add_mul, Nat.one_mul]
  have hi1 : i + 1 ≤ 4611686018427387904 := Nat.le_trans (Nat.le_mul_of_pos_right _ hp) hi
  have hv := last_val 63 (placeN h i) 0 (by omega) (by omega) (by omega)
  rw [last_place h i hi, Nat.zero_add] at hv
  have hv' : Ev (fun k => pos_last.f k ((placeN h i : Nat) : Int)) (((i + 1) * 2 ^ h - 1 : Nat) : Int) := hv
  unfold pos_Spot.f
  rw [nodes_most]
  simp only [Option.bind_some]
  refine Ev.congr (fun k => if_neg (by omega)) ?_
  refine Ev.bind hv' ?_
  rw [nodes_val _ (by omega)]
  simp only [Option.bind_some]
  have hs := place_sub h i
  have hge : nodesN ((i + 1) * 2 ^ h - 1) ≤ placeN h i := by unfold placeN; omega
  have e1 : IntKind.u64.wrap (((placeN h i : Nat) : Int) - ((nodesN ((i + 1) * 2 ^ h - 1) : Nat) : Int)) = (h : Int) := by rw [w64_of _ (by omega) (by omega)]; omega
  rw [e1, if_pos (by omega), w64_of ((((i + 1) * 2 ^ h - 1 : Nat) : Int) + 1) (by omega) (by omega), show ((((i + 1) * 2 ^ h - 1 : Nat) : Int) + 1) = (((i + 1) * 2 ^ h : Nat) : Int) by omega, shr_nat _ h (by omega), Nat.mul_div_cancel _ hp, w64_of _ (by omega) (by omega)]
  rw [show (h : Int) % 256 = h by omega, show (((i + 1 : Nat) : Int) - 1) = (i : Int) by omega]
  exact Ev.now _
def intsOf (l : List Nat) : List Int := l.map fun (n : Nat) => (n : Int)
def placesOf (l : List (Nat × Nat)) : List Int := l.map fun s => ((placeN s.1 s.2 : Nat) : Int)
theorem bit_val (n g : Nat) (hn : n < 18446744073709551616) (hg : g ≤ 62) : Go.bits .and .u64 (shr .u64 (n : Int) (g : Int)) 1 = if n.testBit g then 1 else 0 := by
  rw [shr_nat n g (by omega)]
  have h1 := and64 (n / 2 ^ g) 1 (Nat.lt_of_le_of_lt (Nat.div_le_self _ _) hn) (by omega)
  have h2 : Go.bits .and .u64 ((n / 2 ^ g : Nat) : Int) 1 = ((n / 2 ^ g &&& 1 : Nat) : Int) := h1
  rw [h2, Nat.and_one_is_mod, Nat.testBit_eq_decide_div_mod_eq]
  by_cases hb : n / 2 ^ g % 2 = 1
  · rw [hb]; simp
  · rw [show n / 2 ^ g % 2 = 0 by omega]; simp
theorem peaks_loop (n : Nat) (hn : n ≤ 4611686018427387904) : ∀ (g : Nat) (xs : List Int), g ≤ 63 → xs.length + g ≤ 63 → Ev (fun k => pos_Peaks.l0 k (n : Int) xs ((g : Int) - 1)) (xs ++ placesOf (topsF g n))
  | 0, xs, _, _ => by
    rw [show xs ++ placesOf (topsF 0 n) = xs by simp [topsF, placesOf]]
    exact Ev.step (fun k => by simp only [pos_Peaks.l0]; rw [if_neg (by omega)]) (Ev.step (f := fun _ => some xs) (fun k => by simp only [pos_Peaks.j1]; rw [if_neg (by simp)]) (Ev.now _))
  | g + 1, xs, hg, hl => by
    have e1 : (((g + 1 : Nat) : Int) - 1) = (g : Int) := by omega
    have e2 : wrap64 ((g : Int) - 1) = (g : Int) - 1 := i64_of _ (by omega) (by omega)
    rw [e1]
    have hb := bit_val n g (by omega) (by omega)
    by_cases hc : n.testBit g = true
    · have hf := tops_fit (g + 1) n (g, n / 2 ^ g - 1) (by simp [topsF, hc])
      have ih := peaks_loop n hn g (xs ++ [((placeN g (n / 2 ^ g - 1) : Nat) : Int)]) (by omega) (by simp; omega)
      rw [show xs ++ placesOf (topsF (g + 1) n) = xs ++ [((placeN g (n / 2 ^ g - 1) : Nat) : Int)] ++ placesOf (topsF g n) by simp [topsF, hc, placesOf]]
      have hq : 1 ≤ n / 2 ^ g := (Nat.one_le_div_iff (p2_pos g)).2 (Nat.ge_two_pow_of_testBit hc)
      have hq2 : n / 2 ^ g ≤ n := Nat.div_le_self _ _
      have ep : IntKind.u64.wrap (shr .u64 (n : Int) (g : Int) - 1) = ((n / 2 ^ g - 1 : Nat) : Int) := by rw [shr_nat n g (by omega), w64_of _ (by omega) (by omega)]; omega
      have pv : pos_Place.f ((g : Int) % 256) (IntKind.u64.wrap (shr .u64 (n : Int) (g : Int) - 1)) = some (((placeN g (n / 2 ^ g - 1) : Nat) : Int), true) := by
        rw [ep, show (g : Int) % 256 = g by omega]
        exact place_val g (n / 2 ^ g - 1) (by have := hf.2; simp only at this; omega)
      rw [if_pos hc] at hb
      exact Ev.step (fun k => by simp only [pos_Peaks.l0]; rw [if_pos (by omega)]) (Ev.step (fun k => by simp only [pos_Peaks.j1]; rw [if_pos (by simp; omega), if_pos (by omega), if_pos hb, pv]; simp only [Option.bind_some]; rw [if_pos (by omega), e2]) ih)
    · have ih := peaks_loop n hn g xs (by omega) (by omega)
      rw [show xs ++ placesOf (topsF (g + 1) n) = xs ++ placesOf (topsF g n) by simp [topsF, hc]]
      rw [if_neg hc] at hb
      exact Ev.step (fun k => by simp only [pos_Peaks.l0]; rw [if_pos (by omega)]) (Ev.step (fun k => by simp only [pos_Peaks.j1]; rw [if_pos (by simp; omega), if_pos (by omega), if_neg (by rw [hb]; decide), e2]) ih)
theorem peaks_val (n : Nat) (hn : n ≤ 4611686018427387904) : Ev (fun k => pos_Peaks.f k (n : Int)) (placesOf (topsN n)) := by
  have h := peaks_loop n hn 63 [] (by omega) (by simp)
  rw [List.nil_append] at h
  exact h
theorem peaks_none (n : Nat) (hn : 4611686018427387904 < n) : Ev (fun k => pos_Peaks.f k (n : Int)) [] := by
  show Ev (fun k => pos_Peaks.l0 k (n : Int) [] 62) []
  exact Ev.step (fun k => by simp only [pos_Peaks.l0]; rw [if_pos (by omega)]) (Ev.step (f := fun _ => some []) (fun k => by simp only [pos_Peaks.j1]; rw [if_neg (by simp; omega)]) (Ev.now _))

theorem power_loop (h : Nat) (hh : h ≤ 63) : ∀ (d i : Nat), i + d = h → Ev (fun k => massifref3_Power.l0 k (h : Int) ((2 ^ i : Nat) : Int) (i : Int)) ((2 ^ h : Nat) : Int)
  | 0, i, hi => by
    have : i = h := by omega
    subst this
    exact Ev.step (f := fun _ => some ((2 ^ i : Nat) : Int)) (fun k => by simp only [massifref3_Power.l0]; rw [if_neg (by omega)]) (Ev.now _)
  | d + 1, i, hi => by
    have ih := power_loop h hh d (i + 1) (by omega)
    have := p2_le (by omega : i + 1 ≤ 63)
    have h2 : 2 ^ (i + 1) = 2 * 2 ^ i := by rw [Nat.pow_succ]; omega
    have e1 : IntKind.u64.wrap (2 * ((2 ^ i : Nat) : Int)) = ((2 ^ (i + 1) : Nat) : Int) := by rw [w64_of _ (by omega) (by omega)]; omega
    have e2 : wrap64 ((i : Int) + 1) = ((i + 1 : Nat) : Int) := by rw [i64_of _ (by omega) (by omega)]; omega
    exact Ev.step (fun k => by simp only [massifref3_Power.l0]; rw [if_pos (by omega), e1, e2]) ih
theorem power_val (h : Nat) (hh : h ≤ 63) : Ev (fun k => massifref3_Power.f k (h : Int)) ((2 ^ h : Nat) : Int) := power_loop h hh h 0 (by omega)

def spotsOf (l : List (Nat × Nat)) : List S39 := l.map fun s => ⟨(s.1 : Int), (s.2 : Int)⟩
theorem tops_loop (n : Nat) (hn : n ≤ 4611686018427387904) : ∀ (g : Nat) (xs : List S39), g ≤ 63 → xs.length + g ≤ 63 → Ev (fun k => massifref3_Tops.l0 k (n : Int) xs ((n - n % 2 ^ g : Nat) : Int) ((g : Int) - 1)) (xs ++ spotsOf (topsF g n))
  | 0, xs, _, _ => by
    rw [show xs ++ spotsOf (topsF 0 n) = xs by simp [topsF, spotsOf]]
    exact Ev.step (f := fun _ => some xs) (fun k => by simp only [massifref3_Tops.l0]; rw [if_neg (by omega)]) (Ev.now _)
  | g + 1, xs, hg, hl => by
    have e1 : (((g + 1 : Nat) : Int) - 1) = (g : Int) := by omega
    have e2 : wrap64 ((g : Int) - 1) = (g : Int) - 1 := i64_of _ (by omega) (by omega)
    rw [e1]
    have hp := p2_pos g
    have hple := p2_le (by omega : g ≤ 63)
    have h2 : 2 ^ (g + 1) = 2 ^ g * 2 := by rw [Nat.pow_succ]
    have hmod : n % 2 ^ (g + 1) = n % 2 ^ g + 2 ^ g * (n / 2 ^ g % 2) := by rw [h2, Nat.mod_mul]
    have hle : n % 2 ^ (g + 1) ≤ n := Nat.mod_le _ _
    have hlt : n % 2 ^ g < 2 ^ g := Nat.mod_lt _ hp
    have hdm := Nat.div_add_mod n (2 ^ g)
    have ea : IntKind.u64.wrap ((n : Int) - ((n - n % 2 ^ (g + 1) : Nat) : Int)) = ((n % 2 ^ (g + 1) : Nat) : Int) := by rw [w64_of _ (by omega) (by omega)]; omega
    have hpw := power_val g (by omega)
    by_cases hc : n.testBit g = true
    · have hb : n / 2 ^ g % 2 = 1 := by rw [Nat.testBit_eq_decide_div_mod_eq] at hc; simpa using hc
      rw [hb, Nat.mul_one] at hmod
      have hf := tops_fit (g + 1) n (g, n / 2 ^ g - 1) (by simp [topsF, hc])
      have ih := tops_loop n hn g (xs ++ [⟨(g : Int), ((n / 2 ^ g - 1 : Nat) : Int)⟩]) (by omega) (by simp; omega)
      rw [show xs ++ spotsOf (topsF (g + 1) n) = xs ++ [⟨(g : Int), ((n / 2 ^ g - 1 : Nat) : Int)⟩] ++ spotsOf (topsF g n) by simp [topsF, hc, spotsOf]]
      have hq : 1 ≤ n / 2 ^ g := (Nat.one_le_div_iff hp).2 (Nat.ge_two_pow_of_testBit hc)
      have hq2 : n / 2 ^ g ≤ n := Nat.div_le_self _ _
      have hval : n - n % 2 ^ (g + 1) = 2 ^ g * (n / 2 ^ g - 1) := by rw [Nat.mul_sub_one]; omega
      have et : Int.tdiv ((n - n % 2 ^ (g + 1) : Nat) : Int) ((2 ^ g : Nat) : Int) = ((n / 2 ^ g - 1 : Nat) : Int) := by
        rw [hval]
        show (((2 ^ g * (n / 2 ^ g - 1)) / 2 ^ g : Nat) : Int) = _
        rw [Nat.mul_div_cancel_left _ hp]
      have eb : IntKind.u64.wrap (((n - n % 2 ^ (g + 1) : Nat) : Int) + ((2 ^ g : Nat) : Int)) = ((n - n % 2 ^ g : Nat) : Int) := by rw [w64_of _ (by omega) (by omega)]; omega
      refine Ev.step (fun k => by simp only [massifref3_Tops.l0]; rw [if_pos (by omega)]) ?_
      refine Ev.bind hpw ?_
      rw [ea]
      refine Ev.congr (fun k => if_pos (by omega)) ?_
      refine Ev.bind hpw ?_
      refine Ev.congr (fun k => if_neg (by omega)) ?_
      refine Ev.congr (fun k => if_pos (by omega)) ?_
      refine Ev.bind hpw ?_
      rw [et, w64_of ((n / 2 ^ g - 1 : Nat) : Int) (by omega) (by omega), eb, e2, show (g : Int) % 256 = g by omega]
      exact ih
    · have hb : n / 2 ^ g % 2 = 0 := by rw [Nat.testBit_eq_decide_div_mod_eq] at hc; simp at hc; omega
      rw [hb, Nat.mul_zero, Nat.add_zero] at hmod
      have ih := tops_loop n hn g xs (by omega) (by omega)
      rw [show xs ++ spotsOf (topsF (g + 1) n) = xs ++ spotsOf (topsF g n) by simp [topsF, hc]]
      refine Ev.step (fun k => by simp only [massifref3_Tops.l0]; rw [if_pos (by omega)]) ?_
      refine Ev.bind hpw ?_
      rw [ea]
      refine Ev.congr (fun k => if_neg (by omega)) ?_
      rw [e2, hmod]
      exact ih
theorem tops_val (n : Nat) (hn : n ≤ 4611686018427387904) : Ev (fun k => massifref3_Tops.f k (n : Int)) (spotsOf (topsN n)) := by
  have h := tops_loop n hn 63 [] (by omega) (by simp)
  rw [List.nil_append, Nat.mod_eq_of_lt (by omega : n < 2 ^ 63), Nat.sub_self] at h
  refine Ev.congr (fun k => if_neg (by omega)) h
theorem nodes3_step (x s : Nat) (r : Int × Bool) (hx : x ≠ 0) (hb : x < 18446744073709551616) (hs : s + x < 18446744073709551616) (ih : Ev (fun k => massifref3_Nodes.l0 k ((x / 2 : Nat) : Int) ((s + x : Nat) : Int)) r) : Ev (fun k => massifref3_Nodes.l0 k (x : Int) (s : Int)) r := by
  have e1 : IntKind.u64.wrap (Int.tdiv (x : Int) 2) = ((x / 2 : Nat) : Int) := by rw [Int.tdiv_eq_ediv_of_nonneg (by omega), w64_of _ (by omega) (by omega)]; omega
  have e2 : IntKind.u64.wrap ((s : Int) + (x : Int)) = ((s + x : Nat) : Int) := by rw [w64_of _ (by omega) (by omega)]; omega
  exact Ev.step (fun k => by simp only [massifref3_Nodes.l0]; rw [if_pos (by omega), e1, e2]) ih
theorem nodes3_stop (s : Nat) : Ev (fun k => massifref3_Nodes.l0 k ((0 : Nat) : Int) (s : Int)) ((s : Int), true) :=
  Ev.step (f := fun _ => some ((s : Int), true)) (fun k => by simp only [massifref3_Nodes.l0]; rw [if_neg (by omega)]) (Ev.now _)
theorem nodes3_loop (f : Nat) : ∀ (x s : Nat), x < 2 ^ f → f ≤ 63 → s + nodesN x ≤ 18446744073709551615 → Ev (fun k => massifref3_Nodes.l0 k (x : Int) (s : Int)) (((s + nodesN x : Nat) : Int), true) := by
  induction f with
  | zero =>
    intro x s hx _ _
    have : x = 0 := by simpa using hx
    subst this
    rw [nodes_zero]
    exact nodes3_stop s
  | succ f ih =>
    intro x s hx hf hs
    have hple := p2_le hf
    by_cases h0 : x = 0
    · subst h0
      rw [nodes_zero]
      exact nodes3_stop s
    · have hh := nodes_half x (by omega)
      have ih := ih (x / 2) (s + x) (by rw [Nat.pow_succ] at hx; omega) (by omega) (by omega)
      rw [show s + nodesN x = s + x + nodesN (x / 2) by omega]
      exact nodes3_step x s _ h0 (by omega) (by omega) ih
theorem nodes3_val (n : Nat) (hn : n ≤ 4611686018427387904) : Ev (fun k => massifref3_Nodes.f k (n : Int)) (((nodesN n : Nat) : Int), true) := by
  have hl := nodes_le n
  have h := nodes3_loop 63 n 0 (by omega) (by omega) (by omega)
  rw [Nat.zero_add] at h
  exact Ev.congr (fun k => if_neg (by omega)) h
theorem place3_val (h i : Nat) (hi : (i + 1) * 2 ^ h ≤ 4611686018427387904) : Ev (fun k => massifref3_Place.f k (h : Int) (i : Int)) (((placeN h i : Nat) : Int), true) := by
  have hh := height_le h i hi
  have hp := p2_pos h
  have h1 : (i + 1) * 2 ^ h = i * 2 ^ h + 2 ^ h := by rw [Nat.add_mul, Nat.one_mul]
  have hi1 : i + 1 ≤ 4611686018427387904 := Nat.le_trans (Nat.le_mul_of_pos_right _ hp) hi
  have hlt : i < 2 ^ (62 - h) := by
    have e : 2 ^ (62 - h) * 2 ^ h = 4611686018427387904 := by rw [← Nat.pow_add, show 62 - h + h = 62 by omega]
    by_cases hc : i < 2 ^ (62 - h)
    · exact hc
    · have : (2 ^ (62 - h) + 1) * 2 ^ h ≤ (i + 1) * 2 ^ h := Nat.mul_le_mul_right _ (by omega)
      rw [Nat.add_mul, e, Nat.one_mul] at this
      omega
  have hn := place_lt h i hi
  have e0 : wrap64 (h : Int) = h := i64_of _ (by omega) (by omega)
  unfold massifref3_Place.f
  rw [e0]
  refine Ev.congr (fun k => if_neg (by omega)) ?_
  rw [i64_of (62 - (h : Int)) (by omega) (by omega), show (62 - (h : Int)) = ((62 - h : Nat) : Int) by omega]
  refine Ev.bind (power_val (62 - h) (by omega)) ?_
  refine Ev.step (fun k => by simp only [massifref3_Place.j0]; rw [if_neg (by rw [decide_eq_true_eq]; omega)]) ?_
  refine Ev.bind (power_val h (by omega)) ?_
  rw [w64_of ((i : Int) + 1) (by omega) (by omega), show ((i : Int) + 1) * ((2 ^ h : Nat) : Int) = (((i + 1) * 2 ^ h : Nat) : Int) by push_cast; rfl, w64_nat _ (by omega), w64_of ((((i + 1) * 2 ^ h : Nat) : Int) - 1) (by omega) (by omega),
    show (((i + 1) * 2 ^ h : Nat) : Int) - 1 = (((i + 1) * 2 ^ h - 1 : Nat) : Int) by omega]
  refine Ev.bind (nodes3_val _ (by omega)) ?_
  unfold placeN at hn ⊢
  rw [w64_nat h (by omega), w64_of _ (by omega) (by omega)]
  exact Ev.now _
end Go.Proofs.Ytagcabmccpekaaa.M
