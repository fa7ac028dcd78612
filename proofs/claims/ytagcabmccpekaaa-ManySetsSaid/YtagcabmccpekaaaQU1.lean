/- What the functions of pos and of massifref3 come to, by the plain laws. What massifref20.Places and massifref7.SameNumbers come to. Plain laws of the order of spots, of how many leaves they have, and of which spots a span or many leaves need; with no program in sight. Plain laws of what many leaves need: they and the leaves are all leaves; of one, of none, of all; with no program in sight. span.Places$1: the closure that appends a spot's place. span.needed. Hashes in memory: an element of a row of hashes is loaded, a variable takes one. -/
import Derived.Test.YtagcabmccpekaaaQU0
import Derived.Deep.MidRow
set_option linter.unusedVariables false
set_option linter.unusedSimpArgs false
namespace Go.Proofs.Ytagcabmccpekaaa.M
open Go.RowKit Go.Proofs.YtagcabmccpekaaaW.PrintWords Go.Proofs.YtagcabmccpekaaaW.PrintLast Go.Proofs.YtagcabmccpekaaaW.PrintMore Go.Proofs.Ytagcabmccpekaaa.Leaf

theorem w64_of (z : Int) (h0 : 0 ≤ z) (h : z < 18446744073709551616) : IntKind.u64.wrap z = z := by rw [IntKind.wrap_u64]; omega
theorem i64_of (z : Int) (h0 : -9223372036854775808 ≤ z) (h : z < 9223372036854775808) : wrap64 z = z := by unfold wrap64; omega
theorem p2_le {h : Nat} (hh : h ≤ 63) : 2 ^ h ≤ 9223372036854775808 := Nat.pow_le_pow_right (by omega) hh
theorem p2_pos (h : Nat) : 0 < 2 ^ h := Nat.pow_pos (by omega)
theorem shl_nat (x h : Nat) (hh : h ≤ 64) (hx : x * 2 ^ h < 18446744073709551616) : shl .u64 (x : Int) (h : Int) = ((x * 2 ^ h : Nat) : Int) := by
  unfold shl
  rw [Int.toNat_natCast, show min h (IntKind.u64.bits) = h by simp [IntKind.bits]; omega, show ((x : Int) * 2 ^ h) = ((x * 2 ^ h : Nat) : Int) by push_cast; rfl]
  exact w64_nat _ hx
theorem shr_nat (x h : Nat) (hh : h ≤ 64) : shr .u64 (x : Int) (h : Int) = ((x / 2 ^ h : Nat) : Int) := by
  unfold shr
  rw [Int.toNat_natCast, show min h (IntKind.u64.bits) = h by simp [IntKind.bits]; omega]
  push_cast
  rfl

theorem nodes_val (n : Nat) (hn : n ≤ 9223372036854775807) : pos_nodes.f (n : Int) = some ((nodesN n : Nat) : Int) := by
  unfold pos_nodes.f num_Ones.f
  rw [ones_val n (by omega)]
  have := pop_lef 64 n
  have h2 := pop_le 64 n
  simp only [Option.bind_some]
  unfold nodesN
  generalize Lib.popAux 64 n = p at *
  rw [w64_of (2 * (n : Int)) (by omega) (by omega), w64_nat _ (by omega), w64_of _ (by omega) (by omega)]
  exact congrArg some (by omega)
theorem place_val (h i : Nat) (hi : (i + 1) * 2 ^ h ≤ 4611686018427387904) : pos_Place.f (h : Int) (i : Int) = some (((placeN h i : Nat) : Int), true) := by
  have hh := height_le h i hi
  have hp := p2_pos h
  have h1 : (i + 1) * 2 ^ h = i * 2 ^ h + 2 ^ h := by rw [Nat.add_mul, Nat.one_mul]
  unfold pos_Place.f
  rw [if_neg (by omega), if_pos (by omega)]
  have e0 : shr .u64 4611686018427387904 (h : Int) = ((4611686018427387904 / 2 ^ h : Nat) : Int) := shr_nat 4611686018427387904 h (by omega)
  have hlt : i < 4611686018427387904 / 2 ^ h := by rw [Nat.lt_div_iff_mul_lt hp]; omega
  have hi1 : i + 1 ≤ 4611686018427387904 := Nat.le_trans (Nat.le_mul_of_pos_right _ hp) hi
  rw [e0, if_neg (by omega), w64_of ((i : Int) + 1) (by omega) (by omega), show ((i : Int) + 1) = ((i + 1 : Nat) : Int) by omega, shl_nat (i + 1) h (by omega) (by omega), w64_of _ (by omega) (by omega),
    show (((i + 1) * 2 ^ h : Nat) : Int) - 1 = (((i + 1) * 2 ^ h - 1 : Nat) : Int) by omega, nodes_val _ (by omega)]
  simp only [Option.bind_some]
  have hn := place_lt h i hi
  unfold placeN at hn ⊢
  rw [w64_nat h (by omega), w64_of _ (by omega) (by omega)]
  rfl
theorem mask_val (g : Nat) (hg : g ≤ 62) : num_Mask.f ((g : Int) + 1) = some ((2 ^ (g + 1) - 1 : Nat) : Int) := by
  have := p2_le (by omega : g + 1 ≤ 63)
  have := p2_pos (g + 1)
  unfold num_Mask.f
  rw [if_neg (by omega), w64_of _ (by omega) (by omega), if_pos (by omega)]
  have e : shl .u64 1 ((g : Int) + 1) = ((1 * 2 ^ (g + 1) : Nat) : Int) := shl_nat 1 (g + 1) (by omega) (by omega)
  rw [e, w64_of _ (by omega) (by omega)]
  exact congrArg some (by omega)
theorem last_val : ∀ (g p n : Nat), g ≤ 63 → p < 18446744073709551616 → n + 2 ^ g ≤ 9223372036854775808 → Ev (fun k => pos_last.l0 k (p : Int) (n : Int) ((g : Int) - 1)) ((n + lastF g p : Nat) : Int)
  | 0, p, n, _, _, _ => Ev.step (f := fun _ => some ((n : Nat) : Int)) (fun k => by simp only [pos_last.l0]; rw [if_neg (by omega)]) (Ev.now _)
  | g + 1, p, n, hg, hp, hn => by
    have h2 : 2 ^ (g + 1) = 2 * 2 ^ g := by rw [Nat.pow_succ]; omega
    have e1 : (((g + 1 : Nat) : Int) - 1) = (g : Int) := by omega
    have em : num_Mask.f (wrap64 ((g : Int) + 1)) = some ((2 ^ (g + 1) - 1 : Nat) : Int) := by rw [i64_of _ (by omega) (by omega)]; exact mask_val g (by omega)
    have e2 : wrap64 ((g : Int) - 1) = (g : Int) - 1 := i64_of _ (by omega) (by omega)
    rw [e1]
    by_cases hc : 2 ^ (g + 1) - 1 ≤ p
    · have ih := last_val g (p - (2 ^ (g + 1) - 1)) (n + 2 ^ g) (by omega) (by omega) (by omega)
      have ea : IntKind.u64.wrap ((p : Int) - ((2 ^ (g + 1) - 1 : Nat) : Int)) = ((p - (2 ^ (g + 1) - 1) : Nat) : Int) := by rw [w64_of _ (by omega) (by omega)]; omega
      have eb : IntKind.u64.wrap ((n : Int) + shl .u64 1 (g : Int)) = ((n + 2 ^ g : Nat) : Int) := by
        have e : shl .u64 1 (g : Int) = ((1 * 2 ^ g : Nat) : Int) := shl_nat 1 g (by omega) (by omega)
        rw [e, w64_of _ (by omega) (by omega)]
        omega
      rw [show n + lastF (g + 1) p = n + 2 ^ g + lastF g (p - (2 ^ (g + 1) - 1)) by simp only [lastF]; rw [if_pos hc]; omega]
      exact Ev.step (fun k => by simp only [pos_last.l0]; rw [if_pos (by omega), em]; simp only [Option.bind_some]; rw [if_pos (by omega), if_pos (by omega), ea, eb, e2]) ih
    · have ih := last_val g p n (by omega) (by omega) (by omega)
      rw [show n + lastF (g + 1) p = n + lastF g p by simp only [lastF]; rw [if_neg hc]]
      exact Ev.step (fun k => by simp only [pos_last.l0]; rw [if_pos (by omega), em]; simp only [Option.bind_some]; rw [if_neg (by omega), e2]) ih
theorem nodes_most : pos_nodes.f 4611686018427387904 = some 9223372036854775807 := (nodes_val 4611686018427387904 (by omega)).trans (by decide +kernel)
theorem spot_val (h i : Nat) (hi : (i + 1) * 2 ^ h ≤ 4611686018427387904) : Ev (fun k => pos_Spot.f k ((placeN h i : Nat) : Int)) ((h : Int), (i : Int), true) := by
  have hh := height_le h i hi
  have hp := p2_pos h
  have hl := place_lt h i hi
  have h1 : (i + 1) * 2 ^ h = i * 2 ^ h + 2 ^ h := by rw [Nat.add_mul, Nat.one_mul]
  have hi1 : i + 1 ≤ 4611686018427387904 := Nat.le_trans (Nat.le_mul_of_pos_right _ hp) hi
  have hv := last_val 63 (placeN h i) 0 (by omega) (by omega) (by omega)
  rw [last_place h i hi, Nat.zero_add] at hv
  have hv' : Ev (fun k => pos_last.f k ((placeN h i : Nat) : Int)) (((i + 1) * 2 ^ h - 1 : Nat) : Int) := hv
  unfold pos_Spot.f
  rw [nodes_most]
  simp only [Option.bind_some]
  refine Ev.congr (fun k => if_neg (by omega)) ?_
  refine Ev.bind hv' ?_
  rw [nodes_val _ (by omega)]
  simp only [Option.bind_some]
  have hs := place_sub h i
  have hge : nodesN ((i + 1) * 2 ^ h - 1) ≤ placeN h i := by unfold placeN; omega
  have e1 : IntKind.u64.wrap (((placeN h i : Nat) : Int) - ((nodesN ((i + 1) * 2 ^ h - 1) : Nat) : Int)) = (h : Int) := by rw [w64_of _ (by omega) (by omega)]; omega
  rw [e1, if_pos (by omega), w64_of ((((i + 1) * 2 ^ h - 1 : Nat) : Int) + 1) (by omega) (by omega), show ((((i + 1) * 2 ^ h - 1 : Nat) : Int) + 1) = (((i + 1) * 2 ^ h : Nat) : Int) by omega, shr_nat _ h (by omega), Nat.mul_div_cancel _ hp, w64_of _ (by omega) (by omega)]
  rw [show (h : Int) % 256 = h by omega, show (((i + 1 : Nat) : Int) - 1) = (i : Int) by omega]
  exact Ev.now _
def intsOf (l : List Nat) : List Int := l.map fun (n : Nat) => (n : Int)
def placesOf (l : List (Nat × Nat)) : List Int := l.map fun s => ((placeN s.1 s.2 : Nat) : Int)
theorem bit_val (n g : Nat) (hn : n < 18446744073709551616) (hg : g ≤ 62) : Go.bits .and .u64 (shr .u64 (n : Int) (g : Int)) 1 = if n.testBit g then 1 else 0 := by
  rw [shr_nat n g (by omega)]
  have h1 := and64 (n / 2 ^ g) 1 (Nat.lt_of_le_of_lt (Nat.div_le_self _ _) hn) (by omega)
  have h2 : Go.bits .and .u64 ((n / 2 ^ g : Nat) : Int) 1 = ((n / 2 ^ g &&& 1 : Nat) : Int) := h1
  rw [h2, Nat.and_one_is_mod, Nat.testBit_eq_decide_div_mod_eq]
  by_cases hb : n / 2 ^ g % 2 = 1
  · rw [hb]; simp
  · rw [show n / 2 ^ g % 2 = 0 by omega]; simp
theorem peaks_loop (n : Nat) (hn : n ≤ 4611686018427387904) : ∀ (g : Nat) (xs : List Int), g ≤ 63 → xs.length + g ≤ 63 → Ev (fun k => pos_Peaks.l0 k (n : Int) xs ((g : Int) - 1)) (xs ++ placesOf (topsF g n))
  | 0, xs, _, _ => by
    rw [show xs ++ placesOf (topsF 0 n) = xs by simp [topsF, placesOf]]
    exact Ev.step (fun k => by simp only [pos_Peaks.l0]; rw [if_neg (by omega)]) (Ev.step (f := fun _ => some xs) (fun k => by simp only [pos_Peaks.j1]; rw [if_neg (by simp)]) (Ev.now _))
  | g + 1, xs, hg, hl => by
    have e1 : (((g + 1 : Nat) : Int) - 1) = (g : Int) := by omega
    have e2 : wrap64 ((g : Int) - 1) = (g : Int) - 1 := i64_of _ (by omega) (by omega)
    rw [e1]
    have hb := bit_val n g (by omega) (by omega)
    by_cases hc : n.testBit g = true
    · have hf := tops_fit (g + 1) n (g, n / 2 ^ g - 1) (by simp [topsF, hc])
      have ih := peaks_loop n hn g (xs ++ [((placeN g (n / 2 ^ g - 1) : Nat) : Int)]) (by omega) (by simp; omega)
      rw [show xs ++ placesOf (topsF (g + 1) n) = xs ++ [((placeN g (n / 2 ^ g - 1) : Nat) : Int)] ++ placesOf (topsF g n) by simp [topsF, hc, placesOf]]
      have hq : 1 ≤ n / 2 ^ g := (Nat.one_le_div_iff (p2_pos g)).2 (Nat.ge_two_pow_of_testBit hc)
      have hq2 : n / 2 ^ g ≤ n := Nat.div_le_self _ _
      have ep : IntKind.u64.wrap (shr .u64 (n : Int) (g : Int) - 1) = ((n / 2 ^ g - 1 : Nat) : Int) := by rw [shr_nat n g (by omega), w64_of _ (by omega) (by omega)]; omega
      have pv : pos_Place.f ((g : Int) % 256) (IntKind.u64.wrap (shr .u64 (n : Int) (g : Int) - 1)) = some (((placeN g (n / 2 ^ g - 1) : Nat) : Int), true) := by
        rw [ep, show (g : Int) % 256 = g by omega]
        exact place_val g (n / 2 ^ g - 1) (by have := hf.2; simp only at this; omega)
      rw [if_pos hc] at hb
      exact Ev.step (fun k => by simp only [pos_Peaks.l0]; rw [if_pos (by omega)]) (Ev.step (fun k => by simp only [pos_Peaks.j1]; rw [if_pos (by simp; omega), if_pos (by omega), if_pos hb, pv]; simp only [Option.bind_some]; rw [if_pos (by omega), e2]) ih)
    · have ih := peaks_loop n hn g xs (by omega) (by omega)
      rw [show xs ++ placesOf (topsF (g + 1) n) = xs ++ placesOf (topsF g n) by simp [topsF, hc]]
      rw [if_neg hc] at hb
      exact Ev.step (fun k => by simp only [pos_Peaks.l0]; rw [if_pos (by omega)]) (Ev.step (fun k => by simp only [pos_Peaks.j1]; rw [if_pos (by simp; omega), if_pos (by omega), if_neg (by rw [hb]; decide), e2]) ih)
theorem peaks_val (n : Nat) (hn : n ≤ 4611686018427387904) : Ev (fun k => pos_Peaks.f k (n : Int)) (placesOf (topsN n)) := by
  have h := peaks_loop n hn 63 [] (by omega) (by simp)
  rw [List.nil_append] at h
  exact h
theorem peaks_none (n : Nat) (hn : 4611686018427387904 < n) : Ev (fun k => pos_Peaks.f k (n : Int)) [] := by
  show Ev (fun k => pos_Peaks.l0 k (n : Int) [] 62) []
  exact Ev.step (fun k => by simp only [pos_Peaks.l0]; rw [if_pos (by omega)]) (Ev.step (f := fun _ => some []) (fun k => by simp only [pos_Peaks.j1]; rw [if_neg (by simp; omega)]) (Ev.now _))

theorem power_loop (h : Nat) (hh : h ≤ 63) : ∀ (d i : Nat), i + d = h → Ev (fun k => massifref3_Power.l0 k (h : Int) ((2 ^ i : Nat) : Int) (i : Int)) ((2 ^ h : Nat) : Int)
  | 0, i, hi => by
    have : i = h := by omega
    subst this
    exact Ev.step (f := fun _ => some ((2 ^ i : Nat) : Int)) (fun k => by simp only [massifref3_Power.l0]; rw [if_neg (by omega)]) (Ev.now _)
  | d + 1, i, hi => by
    have ih := power_loop h hh d (i + 1) (by omega)
    have := p2_le (by omega : i + 1 ≤ 63)
    have h2 : 2 ^ (i + 1) = 2 * 2 ^ i := by rw [Nat.pow_succ]; omega
    have e1 : IntKind.u64.wrap (2 * ((2 ^ i : Nat) : Int)) = ((2 ^ (i + 1) : Nat) : Int) := by rw [w64_of _ (by omega) (by omega)]; omega
    have e2 : wrap64 ((i : Int) + 1) = ((i + 1 : Nat) : Int) := by rw [i64_of _ (by omega) (by omega)]; omega
    exact Ev.step (fun k => by simp only [massifref3_Power.l0]; rw [if_pos (by omega), e1, e2]) ih
theorem power_val (h : Nat) (hh : h ≤ 63) : Ev (fun k => massifref3_Power.f k (h : Int)) ((2 ^ h : Nat) : Int) := power_loop h hh h 0 (by omega)

def spotsOf (l : List (Nat × Nat)) : List S39 := l.map fun s => ⟨(s.1 : Int), (s.2 : Int)⟩
theorem tops_loop (n : Nat) (hn : n ≤ 4611686018427387904) : ∀ (g : Nat) (xs : List S39), g ≤ 63 → xs.length + g ≤ 63 → Ev (fun k => massifref3_Tops.l0 k (n : Int) xs ((n - n % 2 ^ g : Nat) : Int) ((g : Int) - 1)) (xs ++ spotsOf (topsF g n))
  | 0, xs, _, _ => by
    rw [show xs ++ spotsOf (topsF 0 n) = xs by simp [topsF, spotsOf]]
    exact Ev.step (f := fun _ => some xs) (fun k => by simp only [massifref3_Tops.l0]; rw [if_neg (by omega)]) (Ev.now _)
  | g + 1, xs, hg, hl => by
    have e1 : (((g + 1 : Nat) : Int) - 1) = (g : Int) := by omega
    have e2 : wrap64 ((g : Int) - 1) = (g : Int) - 1 := i64_of _ (by omega) (by omega)
    rw [e1]
    have hp := p2_pos g
    have hple := p2_le (by omega : g ≤ 63)
    have h2 : 2 ^ (g + 1) = 2 ^ g * 2 := by rw [Nat.pow_succ]
    have hmod : n % 2 ^ (g + 1) = n % 2 ^ g + 2 ^ g * (n / 2 ^ g % 2) := by rw [h2, Nat.mod_mul]
    have hle : n % 2 ^ (g + 1) ≤ n := Nat.mod_le _ _
    have hlt : n % 2 ^ g < 2 ^ g := Nat.mod_lt _ hp
    have hdm := Nat.div_add_mod n (2 ^ g)
    have ea : IntKind.u64.wrap ((n : Int) - ((n - n % 2 ^ (g + 1) : Nat) : Int)) = ((n % 2 ^ (g + 1) : Nat) : Int) := by rw [w64_of _ (by omega) (by omega)]; omega
    have hpw := power_val g (by omega)
    by_cases hc : n.testBit g = true
    · have hb : n / 2 ^ g % 2 = 1 := by rw [Nat.testBit_eq_decide_div_mod_eq] at hc; simpa using hc
      rw [hb, Nat.mul_one] at hmod
      have hf := tops_fit (g + 1) n (g, n / 2 ^ g - 1) (by simp [topsF, hc])
      have ih := tops_loop n hn g (xs ++ [⟨(g : Int), ((n / 2 ^ g - 1 : Nat) : Int)⟩]) (by omega) (by simp; omega)
      rw [show xs ++ spotsOf (topsF (g + 1) n) = xs ++ [⟨(g : Int), ((n / 2 ^ g - 1 : Nat) : Int)⟩] ++ spotsOf (topsF g n) by simp [topsF, hc, spotsOf]]
      have hq : 1 ≤ n / 2 ^ g := (Nat.one_le_div_iff hp).2 (Nat.ge_two_pow_of_testBit hc)
      have hq2 : n / 2 ^ g ≤ n := Nat.div_le_self _ _
      have hval : n - n % 2 ^ (g + 1) = 2 ^ g * (n / 2 ^ g - 1) := by rw [Nat.mul_sub_one]; omega
      have et : Int.tdiv ((n - n % 2 ^ (g + 1) : Nat) : Int) ((2 ^ g : Nat) : Int) = ((n / 2 ^ g - 1 : Nat) : Int) := by
        rw [hval]
        show (((2 ^ g * (n / 2 ^ g - 1)) / 2 ^ g : Nat) : Int) = _
        rw [Nat.mul_div_cancel_left _ hp]
      have eb : IntKind.u64.wrap (((n - n % 2 ^ (g + 1) : Nat) : Int) + ((2 ^ g : Nat) : Int)) = ((n - n % 2 ^ g : Nat) : Int) := by rw [w64_of _ (by omega) (by omega)]; omega
      refine Ev.step (fun k => by simp only [massifref3_Tops.l0]; rw [if_pos (by omega)]) ?_
      refine Ev.bind hpw ?_
      rw [ea]
      refine Ev.congr (fun k => if_pos (by omega)) ?_
      refine Ev.bind hpw ?_
      refine Ev.congr (fun k => if_neg (by omega)) ?_
      refine Ev.congr (fun k => if_pos (by omega)) ?_
      refine Ev.bind hpw ?_
      rw [et, w64_of ((n / 2 ^ g - 1 : Nat) : Int) (by omega) (by omega), eb, e2, show (g : Int) % 256 = g by omega]
      exact ih
    · have hb : n / 2 ^ g % 2 = 0 := by rw [Nat.testBit_eq_decide_div_mod_eq] at hc; simp at hc; omega
      rw [hb, Nat.mul_zero, Nat.add_zero] at hmod
      have ih := tops_loop n hn g xs (by omega) (by omega)
      rw [show xs ++ spotsOf (topsF (g + 1) n) = xs ++ spotsOf (topsF g n) by simp [topsF, hc]]
      refine Ev.step (fun k => by simp only [massifref3_Tops.l0]; rw [if_pos (by omega)]) ?_
      refine Ev.bind hpw ?_
      rw [ea]
      refine Ev.congr (fun k => if_neg (by omega)) ?_
      rw [e2, hmod]
      exact ih
theorem tops_val (n : Nat) (hn : n ≤ 4611686018427387904) : Ev (fun k => massifref3_Tops.f k (n : Int)) (spotsOf (topsN n)) := by
  have h := tops_loop n hn 63 [] (by omega) (by simp)
  rw [List.nil_append, Nat.mod_eq_of_lt (by omega : n < 2 ^ 63), Nat.sub_self] at h
  refine Ev.congr (fun k => if_neg (by omega)) h
theorem nodes3_step (x s : Nat) (r : Int × Bool) (hx : x ≠ 0) (hb : x < 18446744073709551616) (hs : s + x < 18446744073709551616) (ih : Ev (fun k => massifref3_Nodes.l0 k ((x / 2 : Nat) : Int) ((s + x : Nat) : Int)) r) : Ev (fun k => massifref3_Nodes.l0 k (x : Int) (s : Int)) r := by
  have e1 : IntKind.u64.wrap (Int.tdiv (x : Int) 2) = ((x / 2 : Nat) : Int) := by rw [Int.tdiv_eq_ediv_of_nonneg (by omega), w64_of _ (by omega) (by omega)]; omega
  have e2 : IntKind.u64.wrap ((s : Int) + (x : Int)) = ((s + x : Nat) : Int) := by rw [w64_of _ (by omega) (by omega)]; omega
  exact Ev.step (fun k => by simp only [massifref3_Nodes.l0]; rw [if_pos (by omega), e1, e2]) ih
theorem nodes3_stop (s : Nat) : Ev (fun k => massifref3_Nodes.l0 k ((0 : Nat) : Int) (s : Int)) ((s : Int), true) :=
  Ev.step (f := fun _ => some ((s : Int), true)) (fun k => by simp only [massifref3_Nodes.l0]; rw [if_neg (by omega)]) (Ev.now _)
theorem nodes3_loop (f : Nat) : ∀ (x s : Nat), x < 2 ^ f → f ≤ 63 → s + nodesN x ≤ 18446744073709551615 → Ev (fun k => massifref3_Nodes.l0 k (x : Int) (s : Int)) (((s + nodesN x : Nat) : Int), true) := by
  induction f with
  | zero =>
    intro x s hx _ _
    have : x = 0 := by simpa using hx
    subst this
    rw [nodes_zero]
    exact nodes3_stop s
  | succ f ih =>
    intro x s hx hf hs
    have hple := p2_le hf
    by_cases h0 : x = 0
    · subst h0
      rw [nodes_zero]
      exact nodes3_stop s
    · have hh := nodes_half x (by omega)
      have ih := ih (x / 2) (s + x) (by rw [Nat.pow_succ] at hx; omega) (by omega) (by omega)
      rw [show s + nodesN x = s + x + nodesN (x / 2) by omega]
      exact nodes3_step x s _ h0 (by omega) (by omega) ih
theorem nodes3_val (n : Nat) (hn : n ≤ 4611686018427387904) : Ev (fun k => massifref3_Nodes.f k (n : Int)) (((nodesN n : Nat) : Int), true) := by
  have hl := nodes_le n
  have h := nodes3_loop 63 n 0 (by omega) (by omega) (by omega)
  rw [Nat.zero_add] at h
  exact Ev.congr (fun k => if_neg (by omega)) h
theorem place3_val (h i : Nat) (hi : (i + 1) * 2 ^ h ≤ 4611686018427387904) : Ev (fun k => massifref3_Place.f k (h : Int) (i : Int)) (((placeN h i : Nat) : Int), true) := by
  have hh := height_le h i hi
  have hp := p2_pos h
  have h1 : (i + 1) * 2 ^ h = i * 2 ^ h + 2 ^ h := by rw [Nat.add_mul, Nat.one_mul]
  have hi1 : i + 1 ≤ 4611686018427387904 := Nat.le_trans (Nat.le_mul_of_pos_right _ hp) hi
  have hlt : i < 2 ^ (62 - h) := by
    have e : 2 ^ (62 - h) * 2 ^ h = 4611686018427387904 := by rw [← Nat.pow_add, show 62 - h + h = 62 by omega]
    by_cases hc : i < 2 ^ (62 - h)
    · exact hc
    · have : (2 ^ (62 - h) + 1) * 2 ^ h ≤ (i + 1) * 2 ^ h := Nat.mul_le_mul_right _ (by omega)
      rw [Nat.add_mul, e, Nat.one_mul] at this
      omega
  have hn := place_lt h i hi
  have e0 : wrap64 (h : Int) = h := i64_of _ (by omega) (by omega)
  unfold massifref3_Place.f
  rw [e0]
  refine Ev.congr (fun k => if_neg (by omega)) ?_
  rw [i64_of (62 - (h : Int)) (by omega) (by omega), show (62 - (h : Int)) = ((62 - h : Nat) : Int) by omega]
  refine Ev.bind (power_val (62 - h) (by omega)) ?_
  refine Ev.step (fun k => by simp only [massifref3_Place.j0]; rw [if_neg (by rw [decide_eq_true_eq]; omega)]) ?_
  refine Ev.bind (power_val h (by omega)) ?_
  rw [w64_of ((i : Int) + 1) (by omega) (by omega), show ((i : Int) + 1) * ((2 ^ h : Nat) : Int) = (((i + 1) * 2 ^ h : Nat) : Int) by push_cast; rfl, w64_nat _ (by omega), w64_of ((((i + 1) * 2 ^ h : Nat) : Int) - 1) (by omega) (by omega),
    show (((i + 1) * 2 ^ h : Nat) : Int) - 1 = (((i + 1) * 2 ^ h - 1 : Nat) : Int) by omega]
  refine Ev.bind (nodes3_val _ (by omega)) ?_
  unfold placeN at hn ⊢
  rw [w64_nat h (by omega), w64_of _ (by omega) (by omega)]
  exact Ev.now _
end Go.Proofs.Ytagcabmccpekaaa.M

namespace Go.Proofs.Ytagcabmccpekaaa.M
open Go.RowKit Go.Proofs.YtagcabmccpekaaaW.PrintWords Go.Proofs.YtagcabmccpekaaaW.PrintLast Go.Proofs.YtagcabmccpekaaaW.PrintMore Go.Proofs.Ytagcabmccpekaaa.Leaf

theorem mul_cast (i h : Nat) : (i : Int) * ((2 ^ h : Nat) : Int) = ((i * 2 ^ h : Nat) : Int) := by push_cast; rfl
theorem spots_fits {h i : Nat} (hi : (i + 1) * 2 ^ h ≤ 4611686018427387904) : i * 2 ^ h ≤ 4611686018427387904 ∧ i + 1 ≤ 4611686018427387904 ∧ (i + 1) * 2 ^ h = i * 2 ^ h + 2 ^ h ∧ h ≤ 62 :=
  have h1 : (i + 1) * 2 ^ h = i * 2 ^ h + 2 ^ h := by rw [Nat.add_mul, Nat.one_mul]
  ⟨by have := p2_pos h; omega, Nat.le_trans (Nat.le_mul_of_pos_right _ (p2_pos h)) hi, h1, height_le h i hi⟩
theorem ends_val {h i : Nat} (hi : (i + 1) * 2 ^ h ≤ 4611686018427387904) : wrap64 (h : Int) = h ∧ IntKind.u64.wrap ((i : Int) * ((2 ^ h : Nat) : Int)) = ((i * 2 ^ h : Nat) : Int) ∧ IntKind.u64.wrap (IntKind.u64.wrap ((i : Int) + 1) * ((2 ^ h : Nat) : Int)) = (((i + 1) * 2 ^ h : Nat) : Int) := by
  obtain ⟨h1, h2, h3, h4⟩ := spots_fits hi
  refine ⟨i64_of _ (by omega) (by omega), ?_, ?_⟩
  · rw [mul_cast, w64_nat _ (by omega)]
  · rw [w64_of ((i : Int) + 1) (by omega) (by omega), show ((i : Int) + 1) = ((i + 1 : Nat) : Int) by omega, mul_cast, w64_nat _ (by omega)]
theorem meets_val (h i f t : Nat) (hi : (i + 1) * 2 ^ h ≤ 4611686018427387904) : Ev (fun k => massifref20_meets.f k (h : Int) (i : Int) (f : Int) (t : Int)) (decide (f < t ∧ i * 2 ^ h < t ∧ f < (i + 1) * 2 ^ h)) := by
  obtain ⟨e1, e2, e3⟩ := ends_val hi
  have h4 := (spots_fits hi).2.2.2
  unfold massifref20_meets.f
  rw [e1]
  refine Ev.bind (power_val h (by omega)) ?_
  rw [e2, e3]
  by_cases c1 : f < t
  · refine Ev.congr (fun k => if_pos (by omega)) ?_
    by_cases c2 : i * 2 ^ h < t
    · refine Ev.congr (fun k => if_pos (by omega)) ?_
      rw [show decide (f < t ∧ i * 2 ^ h < t ∧ f < (i + 1) * 2 ^ h) = decide ((((i + 1) * 2 ^ h : Nat) : Int) > (f : Int)) by apply decide_eq_decide.2; omega]
      exact Ev.now _
    · refine Ev.congr (fun k => if_neg (by omega)) ?_
      rw [decide_eq_false (by omega)]
      exact Ev.now _
  · refine Ev.congr (fun k => if_neg (by omega)) ?_
    rw [decide_eq_false (by omega)]
    exact Ev.now _
theorem within_val (h i f t : Nat) (hi : (i + 1) * 2 ^ h ≤ 4611686018427387904) : Ev (fun k => massifref20_within.f k (h : Int) (i : Int) (f : Int) (t : Int)) (decide (f ≤ i * 2 ^ h ∧ (i + 1) * 2 ^ h ≤ t)) := by
  obtain ⟨e1, e2, e3⟩ := ends_val hi
  have h4 := (spots_fits hi).2.2.2
  unfold massifref20_within.f
  rw [e1]
  refine Ev.bind (power_val h (by omega)) ?_
  rw [e2, e3]
  by_cases c1 : f ≤ i * 2 ^ h
  · refine Ev.congr (fun k => if_pos (by omega)) ?_
    rw [show decide (f ≤ i * 2 ^ h ∧ (i + 1) * 2 ^ h ≤ t) = decide ((((i + 1) * 2 ^ h : Nat) : Int) ≤ (t : Int)) by apply decide_eq_decide.2; omega]
    exact Ev.now _
  · refine Ev.congr (fun k => if_neg (by omega)) ?_
    rw [decide_eq_false (by omega)]
    exact Ev.now _
theorem spots_tell {f t h i : Nat} (c : ¬ (f < t ∧ i * 2 ^ h < t ∧ f < (i + 1) * 2 ^ h)) : spots f t h i = [(h, i)] := by
  cases h <;> simp only [spots] <;> rw [if_pos (by simp at c ⊢; omega)]
theorem spots_in {f t h i : Nat} (c : f < t ∧ i * 2 ^ h < t ∧ f < (i + 1) * 2 ^ h) (d : f ≤ i * 2 ^ h ∧ (i + 1) * 2 ^ h ≤ t) : spots f t h i = [] := by
  cases h
  · simp only [spots]
    rw [if_neg (by simp at c d; omega)]
  · simp only [spots]
    rw [if_neg (by omega), if_pos (by omega)]
theorem spots_two {f t h i : Nat} (c : f < t ∧ i * 2 ^ (h + 1) < t ∧ f < (i + 1) * 2 ^ (h + 1)) (d : ¬ (f ≤ i * 2 ^ (h + 1) ∧ (i + 1) * 2 ^ (h + 1) ≤ t)) : spots f t (h + 1) i = spots f t h (2 * i) ++ spots f t h (2 * i + 1) := by
  simp only [spots]
  rw [if_neg (by omega), if_neg (by omega)]
theorem needs_val (f t : Nat) (h : Nat) : ∀ i : Nat, (i + 1) * 2 ^ h ≤ 4611686018427387904 → Ev (fun k => massifref20_needs.f k (h : Int) (i : Int) (f : Int) (t : Int)) (spotsOf (spots f t h i)) := by
  induction h with
  | zero =>
    intro i hi
    refine Ev.step (fun k => by simp only [massifref20_needs.f]; rfl) ?_
    refine Ev.bind (meets_val 0 i f t hi) ?_
    by_cases c : f < t ∧ i * 2 ^ 0 < t ∧ f < (i + 1) * 2 ^ 0
    · refine Ev.congr (fun k => if_pos (decide_eq_true c)) ?_
      refine Ev.bind (within_val 0 i f t hi) ?_
      refine Ev.congr (fun k => if_pos (decide_eq_true (by simp at c ⊢; omega))) ?_
      rw [spots_in c (by simp at c ⊢; omega)]
      exact Ev.now _
    · refine Ev.congr (fun k => if_neg (by rw [decide_eq_true_eq]; exact c)) ?_
      rw [spots_tell c]
      exact Ev.now _
  | succ h ih =>
    intro i hi
    have hs := spots_fits hi
    refine Ev.step (fun k => by simp only [massifref20_needs.f]; rfl) ?_
    refine Ev.bind (meets_val (h + 1) i f t hi) ?_
    by_cases c : f < t ∧ i * 2 ^ (h + 1) < t ∧ f < (i + 1) * 2 ^ (h + 1)
    · refine Ev.congr (fun k => if_pos (decide_eq_true c)) ?_
      refine Ev.bind (within_val (h + 1) i f t hi) ?_
      by_cases d : f ≤ i * 2 ^ (h + 1) ∧ (i + 1) * 2 ^ (h + 1) ≤ t
      · refine Ev.congr (fun k => if_pos (decide_eq_true d)) ?_
        rw [spots_in c d]
        exact Ev.now _
      · refine Ev.congr (fun k => if_neg (by rw [decide_eq_true_eq]; exact d)) ?_
        have hr := kid_right h i
        have hm : (2 * i + 1) * 2 ^ h ≤ (2 * i + 1 + 1) * 2 ^ h := Nat.mul_le_mul_right _ (by omega)
        have i1 := ih (2 * i) (by omega)
        have i2 := ih (2 * i + 1) (by omega)
        have l1 := spots_len f t h (2 * i)
        have l2 := spots_len f t h (2 * i + 1)
        rw [spots_two c d, show ((((h + 1 : Nat) : Int) - 1) % 256) = (h : Int) by omega, w64_of (2 * (i : Int)) (by omega) (by omega), show (2 * (i : Int)) = ((2 * i : Nat) : Int) by omega, w64_of (((2 * i : Nat) : Int) + 1) (by omega) (by omega), show (((2 * i : Nat) : Int) + 1) = ((2 * i + 1 : Nat) : Int) by omega]
        refine Ev.bind i1 ?_
        refine Ev.congr (fun k => Option.bind_some _ _) ?_
        refine Ev.congr (fun k => if_pos (by simp [spotsOf]; omega)) ?_
        refine Ev.congr (fun k => Option.bind_some _ _) ?_
        refine Ev.bind i2 ?_
        refine Ev.congr (fun k => if_pos (by simp [spotsOf]; omega)) ?_
        rw [show [] ++ spotsOf (spots f t h (2 * i)) ++ spotsOf (spots f t h (2 * i + 1)) = spotsOf (spots f t h (2 * i) ++ spots f t h (2 * i + 1)) by simp [spotsOf]]
        exact Ev.now _
    · refine Ev.congr (fun k => if_neg (by rw [decide_eq_true_eq]; exact c)) ?_
      rw [spots_tell c]
      exact Ev.now _

theorem placesOf_cons (s : Nat × Nat) (l : List (Nat × Nat)) : placesOf (s :: l) = [((placeN s.1 s.2 : Nat) : Int)] ++ placesOf l := rfl
theorem rd_spots (l : List (Nat × Nat)) (j : Nat) (hj : j < l.length) : rd_T39 (spotsOf l) (j : Int) = ⟨((l[j]).1 : Int), ((l[j]).2 : Int)⟩ := by
  simp [rd_T39, spotsOf, List.getD_eq_getElem?_getD, List.getElem?_eq_getElem hj]
theorem places_l1 (f t : Int) (tops : List S39) (i : Int) (l : List (Nat × Nat)) (r : List Int × Int) (hl : l.length < 4294967296) (hfit : ∀ s ∈ l, (s.2 + 1) * 2 ^ s.1 ≤ 4611686018427387904) :
    ∀ (d j : Nat) (acc : List Int), j + d = l.length → acc.length + d < 17592186044416 → Ev (fun k => massifref20_Places.l0 k f t (acc ++ placesOf (l.drop j)) tops (wrap64 (i + 1))) r →
      Ev (fun k => massifref20_Places.l1 k f t acc tops i (spotsOf l) (j : Int)) r
  | 0, j, acc, hj, _, hr => by
    rw [List.drop_of_length_le (by omega), show acc ++ placesOf [] = acc by simp [placesOf]] at hr
    exact Ev.step (fun k => by simp only [massifref20_Places.l1]; rw [if_neg (by simp [spotsOf]; omega)]) hr
  | d + 1, j, acc, hj, ha, hr => by
    have hjl : j < l.length := by omega
    have e1 : wrap64 ((j : Int) + 1) = ((j + 1 : Nat) : Int) := by rw [i64_of _ (by omega) (by omega)]; omega
    rw [List.drop_eq_getElem_cons hjl, show acc ++ placesOf (l[j] :: l.drop (j + 1)) = acc ++ [((placeN (l[j]).1 (l[j]).2 : Nat) : Int)] ++ placesOf (l.drop (j + 1)) by rw [placesOf_cons, List.append_assoc]] at hr
    have ih := places_l1 f t tops i l r hl hfit d (j + 1) (acc ++ [((placeN (l[j]).1 (l[j]).2 : Nat) : Int)]) (by omega) (by simp; omega) hr
    have pv := place3_val (l[j]).1 (l[j]).2 (hfit _ (List.getElem_mem hjl))
    refine Ev.step (fun k => by simp only [massifref20_Places.l1]; rw [if_pos (by simp [spotsOf]; omega), if_pos (by omega), rd_spots l j hjl]) ?_
    refine Ev.bind pv ?_
    refine Ev.congr (fun k => if_pos (by omega)) ?_
    rw [e1]
    exact ih
theorem places_l0 (f t : Nat) (tops : List (Nat × Nat)) (hl : tops.length ≤ 63) (hfit : ∀ s ∈ tops, (s.2 + 1) * 2 ^ s.1 ≤ 4611686018427387904) :
    ∀ (d i : Nat) (acc : List Int), i + d = tops.length → acc.length + 127 * d < 17592186044416 →
      Ev (fun k => massifref20_Places.l0 k (f : Int) (t : Int) acc (spotsOf tops) (i : Int)) (acc ++ placesOf ((tops.drop i).flatMap fun s => spots f t s.1 s.2), 0)
  | 0, i, acc, hi, _ => by
    rw [List.drop_of_length_le (by omega), show acc ++ placesOf (([] : List (Nat × Nat)).flatMap fun s => spots f t s.1 s.2) = acc by simp [placesOf]]
    exact Ev.step (f := fun _ => some (acc, 0)) (fun k => by simp only [massifref20_Places.l0]; rw [if_neg (by simp [spotsOf]; omega)]) (Ev.now _)
  | d + 1, i, acc, hi, ha => by
    have hil : i < tops.length := by omega
    have hf := hfit _ (List.getElem_mem hil)
    have h62 := (spots_fits hf).2.2.2
    have hlen := spots_len f t (tops[i]).1 (tops[i]).2
    have e1 : wrap64 ((i : Int) + 1) = ((i + 1 : Nat) : Int) := by rw [i64_of _ (by omega) (by omega)]; omega
    rw [List.drop_eq_getElem_cons hil, List.flatMap_cons, show acc ++ placesOf (spots f t (tops[i]).1 (tops[i]).2 ++ (tops.drop (i + 1)).flatMap fun s => spots f t s.1 s.2) = acc ++ placesOf (spots f t (tops[i]).1 (tops[i]).2) ++ placesOf ((tops.drop (i + 1)).flatMap fun s => spots f t s.1 s.2) by simp [placesOf]]
    have ih := places_l0 f t tops hl hfit d (i + 1) (acc ++ placesOf (spots f t (tops[i]).1 (tops[i]).2)) (by omega) (by simp [placesOf]; omega)
    refine Ev.step (fun k => by simp only [massifref20_Places.l0]; rw [if_pos (by simp [spotsOf]; omega), if_pos (by omega), rd_spots tops i hil]) ?_
    refine Ev.bind (needs_val f t (tops[i]).1 (tops[i]).2 hf) ?_
    refine places_l1 f t (spotsOf tops) i _ _ (by omega) (fun s hs => ?_) _ 0 acc (Nat.zero_add _) (by omega) ?_
    · have := (spots_fit f t _ _ s hs).2
      omega
    · rw [List.drop_zero, e1]
      exact ih
def spanAns (f t n : Nat) : List Int × Int := if 4611686018427387904 < n then ([], 30) else if t < f ∨ n < t then ([], 32) else (intsOf (spanPlaces f t n), 0)
theorem places_eq (f t n : Nat) : placesOf (spanSpots f t n) = intsOf (spanPlaces f t n) := by simp [placesOf, intsOf, spanPlaces, List.map_map, Function.comp_def]
theorem tops_fits (n : Nat) (hn : n ≤ 4611686018427387904) : ∀ s ∈ topsN n, (s.2 + 1) * 2 ^ s.1 ≤ 4611686018427387904 := fun s hs => Nat.le_trans (tops_fit 63 n s hs).2 hn
theorem ref20_places (f t n : Nat) : Ev (fun k => massifref20_Places.f k (f : Int) (t : Int) (n : Int)) (spanAns f t n) := by
  unfold spanAns massifref20_Places.f
  by_cases c1 : 4611686018427387904 < n
  · rw [if_pos c1]
    exact Ev.congr (fun k => if_pos (by omega)) (Ev.now _)
  · rw [if_neg c1]
    refine Ev.congr (fun k => if_neg (by omega)) ?_
    by_cases c2 : t < f
    · rw [if_pos (Or.inl c2)]
      refine Ev.congr (fun k => if_pos (by omega)) ?_
      exact Ev.step (f := fun _ => some ([], 32)) (fun k => by simp only [massifref20_Places.j0]; rw [if_pos (by trivial)]) (Ev.now _)
    · refine Ev.congr (fun k => if_neg (by omega)) ?_
      by_cases c3 : n < t
      · rw [if_pos (Or.inr c3)]
        exact Ev.step (f := fun _ => some ([], 32)) (fun k => by simp only [massifref20_Places.j0]; rw [if_pos (by rw [decide_eq_true_eq]; omega)]) (Ev.now _)
      · rw [if_neg (by omega)]
        refine Ev.step (fun k => by simp only [massifref20_Places.j0]; rw [if_neg (by rw [decide_eq_true_eq]; omega)]) ?_
        refine Ev.bind (tops_val n (by omega)) ?_
        have h := places_l0 f t (topsN n) (topsF_len 63 n) (tops_fits n (by omega)) _ 0 [] (Nat.zero_add _) (by have := topsF_len 63 n; simp only [List.length_nil, topsN]; omega)
        rw [List.nil_append, List.drop_zero, show (topsN n).flatMap (fun s => spots f t s.1 s.2) = spanSpots f t n from rfl, places_eq] at h
        exact h
theorem same_loop (xs ys : List Int) (hl : xs.length = ys.length) (hb : xs.length < 9223372036854775807) : ∀ (d i : Nat), i + d = xs.length → Ev (fun k => massifref7_SameNumbers.l0 k xs ys (i : Int)) (decide (xs.drop i = ys.drop i))
  | 0, i, hi => by
    rw [List.drop_of_length_le (by omega), List.drop_of_length_le (by omega)]
    exact Ev.step (f := fun _ => some (decide (([] : List Int) = []))) (fun k => by simp only [massifref7_SameNumbers.l0]; rw [if_neg (by omega)]; rfl) (Ev.now _)
  | d + 1, i, hi => by
    have h1 : i < xs.length := by omega
    have h2 : i < ys.length := by omega
    have ih := same_loop xs ys hl hb d (i + 1) (by omega)
    have e1 : wrap64 ((i : Int) + 1) = ((i + 1 : Nat) : Int) := by rw [i64_of _ (by omega) (by omega)]; omega
    have r1 : rd xs (i : Int) = xs[i] := by simp [rd, List.getD_eq_getElem?_getD, List.getElem?_eq_getElem h1]
    have r2 : rd ys (i : Int) = ys[i] := by simp [rd, List.getD_eq_getElem?_getD, List.getElem?_eq_getElem h2]
    rw [List.drop_eq_getElem_cons h1, List.drop_eq_getElem_cons h2]
    refine Ev.step (fun k => by simp only [massifref7_SameNumbers.l0]; rw [if_pos (by omega), if_pos (by omega), if_pos (by omega), r1, r2, e1]) ?_
    by_cases c : xs[i] = ys[i]
    · refine Ev.congr (fun k => if_pos c) ?_
      rw [show decide (xs[i] :: xs.drop (i + 1) = ys[i] :: ys.drop (i + 1)) = decide (xs.drop (i + 1) = ys.drop (i + 1)) by apply decide_eq_decide.2; rw [List.cons.injEq]; exact ⟨fun h => h.2, fun h => ⟨c, h⟩⟩]
      exact ih
    · refine Ev.congr (fun k => if_neg c) ?_
      rw [decide_eq_false (by rw [List.cons.injEq]; exact fun h => c h.1)]
      exact Ev.now _
theorem same_val (xs ys : List Int) (hb : xs.length < 9223372036854775807) : Ev (fun k => massifref7_SameNumbers.f k xs ys) (decide (xs = ys)) := by
  unfold massifref7_SameNumbers.f
  by_cases c : xs.length = ys.length
  · exact Ev.congr (fun k => if_pos (by omega)) (same_loop xs ys c hb _ 0 (Nat.zero_add _))
  · refine Ev.congr (fun k => if_neg (by omega)) ?_
    rw [decide_eq_false (fun e => c (by rw [e]))]
    exact Ev.now _
end Go.Proofs.Ytagcabmccpekaaa.M

namespace Go.Proofs.Ytagcabmccpekaaa.M

/-- The leaves under a spot: from, to. -/
def lo (s : Nat × Nat) : Nat := s.2 * 2 ^ s.1
def up (s : Nat × Nat) : Nat := (s.2 + 1) * 2 ^ s.1
theorem up_lo (s : Nat × Nat) : up s = lo s + 2 ^ s.1 := by unfold up lo; rw [Nat.add_mul, Nat.one_mul]
/-- a is left of b. -/
def Bef (a b : Nat × Nat) : Prop := up a ≤ lo b
theorem place_bef {a b : Nat × Nat} (h : Bef a b) (hb : up b < 2 ^ 64) : placeN a.1 a.2 < placeN b.1 b.2 := by
  have e := up_lo b
  have hp : 0 < 2 ^ b.1 := Nat.pow_pos (by omega)
  unfold Bef at h
  refine Nat.lt_of_lt_of_le (place_end a.1 a.2 (show up a < 2 ^ 64 by omega)) ?_
  have h1 := nodes_mono (up b - 1 - up a) (up a) (by omega)
  rw [show up a + (up b - 1 - up a) = up b - 1 by omega] at h1
  show nodesN (up a) ≤ nodesN (up b - 1) + b.1
  omega
/-- Spots from the left to the right, within lo, .., hi - 1. -/
def Ord (l h : Nat) (L : List (Nat × Nat)) : Prop := (∀ s ∈ L, l ≤ lo s ∧ up s ≤ h) ∧ L.Pairwise Bef
theorem Ord.nil (l h : Nat) : Ord l h [] := ⟨fun s hs => by simp at hs, List.Pairwise.nil⟩
theorem Ord.one {l h : Nat} (s : Nat × Nat) (h1 : l ≤ lo s) (h2 : up s ≤ h) : Ord l h [s] := ⟨fun x hx => by simp at hx; subst hx; exact ⟨h1, h2⟩, List.pairwise_singleton _ _⟩
theorem Ord.app {l m h : Nat} {a b : List (Nat × Nat)} (ha : Ord l m a) (hb : Ord m h b) (h1 : l ≤ m) (h2 : m ≤ h) : Ord l h (a ++ b) := by
  refine ⟨fun s hs => ?_, List.pairwise_append.2 ⟨ha.2, hb.2, fun x hx y hy => ?_⟩⟩
  · rcases List.mem_append.1 hs with hs | hs
    · have := ha.1 s hs; omega
    · have := hb.1 s hs; omega
  · have := ha.1 x hx
    have := hb.1 y hy
    unfold Bef
    omega
theorem spots_ord (f t : Nat) : ∀ (h i : Nat), Ord (lo (h, i)) (up (h, i)) (spots f t h i)
  | 0, i => by
    simp only [spots]
    split
    · exact Ord.one _ (Nat.le_refl _) (Nat.le_refl _)
    · exact Ord.nil _ _
  | h + 1, i => by
    simp only [spots]
    split
    · exact Ord.one _ (Nat.le_refl _) (Nat.le_refl _)
    · split
      · exact Ord.nil _ _
      · have h0 := spots_ord f t h (2 * i)
        have h1 := spots_ord f t h (2 * i + 1)
        have hl := kid_left h i
        have hm := kid_mid h i
        have hr := kid_right h i
        have e1 := up_lo (h, 2 * i)
        have e2 := up_lo (h, 2 * i + 1)
        refine Ord.app (m := lo (h, 2 * i + 1)) ?_ ?_ ?_ ?_
        · rw [show lo (h + 1, i) = lo (h, 2 * i) from hl.symm, show lo (h, 2 * i + 1) = up (h, 2 * i) from rfl]; exact h0
        · rw [show up (h + 1, i) = up (h, 2 * i + 1) from hr.symm]; exact h1
        · show i * 2 ^ (h + 1) ≤ (2 * i + 1) * 2 ^ h
          rw [hm]
          exact Nat.le_add_right _ _
        · show (2 * i + 1) * 2 ^ h ≤ (i + 1) * 2 ^ (h + 1)
          rw [← hr]; exact Nat.mul_le_mul_right _ (by omega)
theorem mneed_ord : ∀ (h i : Nat) (l : List Nat), Ord (lo (h, i)) (up (h, i)) (mneed h i l)
  | 0, i, l => by
    simp only [mneed]
    split
    · exact Ord.one _ (Nat.le_refl _) (Nat.le_refl _)
    · exact Ord.nil _ _
  | h + 1, i, l => by
    simp only [mneed]
    split
    · exact Ord.one _ (Nat.le_refl _) (Nat.le_refl _)
    · have h0 := mneed_ord h (2 * i) (undL (h + 1) i l)
      have h1 := mneed_ord h (2 * i + 1) (undL (h + 1) i l)
      have hl := kid_left h i
      have hm := kid_mid h i
      have hr := kid_right h i
      refine Ord.app (m := lo (h, 2 * i + 1)) ?_ ?_ ?_ ?_
      · rw [show lo (h + 1, i) = lo (h, 2 * i) from hl.symm, show lo (h, 2 * i + 1) = up (h, 2 * i) from rfl]; exact h0
      · rw [show up (h + 1, i) = up (h, 2 * i + 1) from hr.symm]; exact h1
      · show i * 2 ^ (h + 1) ≤ (2 * i + 1) * 2 ^ h
        rw [hm]
        exact Nat.le_add_right _ _
      · show (2 * i + 1) * 2 ^ h ≤ (i + 1) * 2 ^ (h + 1)
        rw [← hr]; exact Nat.mul_le_mul_right _ (by omega)
theorem bit_step (n g : Nat) : (n.testBit g = true ∧ 1 ≤ n / 2 ^ g ∧ lo (g, n / 2 ^ g - 1) = n / 2 ^ (g + 1) * 2 ^ (g + 1) ∧ up (g, n / 2 ^ g - 1) = n / 2 ^ g * 2 ^ g) ∨ (n.testBit g = false ∧ n / 2 ^ g * 2 ^ g = n / 2 ^ (g + 1) * 2 ^ (g + 1)) := by
  have hh := half_up n g
  have hk := kid_left g (n / 2 ^ (g + 1))
  cases hb : n.testBit g with
  | true =>
    have h1 := (bit_mod n g).1 hb
    have h2 : 1 ≤ n / 2 ^ g ∧ n / 2 ^ g - 1 = 2 * (n / 2 ^ (g + 1)) := by
      generalize n / 2 ^ g = a at *
      generalize n / 2 ^ (g + 1) = b at *
      omega
    refine .inl ⟨rfl, h2.1, ?_, ?_⟩
    · show (n / 2 ^ g - 1) * 2 ^ g = _
      rw [← hk, h2.2]
    · show (n / 2 ^ g - 1 + 1) * 2 ^ g = _
      rw [Nat.sub_add_cancel h2.1]
  | false =>
    have h1 : ¬ n / 2 ^ g % 2 = 1 := fun h => by rw [(bit_mod n g).2 h] at hb; simp at hb
    refine .inr ⟨rfl, ?_⟩
    have h2 : n / 2 ^ g = 2 * (n / 2 ^ (g + 1)) := by
      generalize n / 2 ^ g = a at *
      generalize n / 2 ^ (g + 1) = b at *
      omega
    rw [← hk, h2]
theorem div_le_up (n g : Nat) : n / 2 ^ (g + 1) * 2 ^ (g + 1) ≤ n / 2 ^ g * 2 ^ g ∧ n / 2 ^ g * 2 ^ g ≤ n := by
  have hk := kid_left g (n / 2 ^ (g + 1))
  have hh := half_up n g
  refine ⟨by rw [← hk]; refine Nat.mul_le_mul_right _ ?_; generalize n / 2 ^ g = a at *; generalize n / 2 ^ (g + 1) = b at *; omega, Nat.div_mul_le_self _ _⟩
theorem tops_ord (n : Nat) (F : Nat × Nat → List (Nat × Nat)) (hF : ∀ s, Ord (lo s) (up s) (F s)) : ∀ g, Ord (n / 2 ^ g * 2 ^ g) n ((topsF g n).flatMap F)
  | 0 => by simp only [topsF, List.flatMap_nil]; exact Ord.nil _ _
  | g + 1 => by
    have ih := tops_ord n F hF g
    have hd := div_le_up n g
    simp only [topsF]
    rcases bit_step n g with ⟨hb, h1, h2, h3⟩ | ⟨hb, h2⟩
    · rw [if_pos hb, List.flatMap_append]
      simp only [List.flatMap_cons, List.flatMap_nil, List.append_nil]
      refine Ord.app (m := n / 2 ^ g * 2 ^ g) ?_ ih hd.1 hd.2
      rw [← h2, ← h3]
      exact hF _
    · rw [if_neg (by simp [hb]), List.nil_append, ← h2]
      exact ih
/-- How many of f, .., t - 1 are among l, .., h - 1. -/
def ov (f t l h : Nat) : Nat := min t h - max f l
theorem ov_split {f t l m h : Nat} (h1 : l ≤ m) (h2 : m ≤ h) : ov f t l m + ov f t m h = ov f t l h := by unfold ov; omega
/-- What is left of a top's leaves. -/
theorem tops_count (n : Nat) (F : Nat × Nat → List (Nat × Nat)) (c : Nat → Nat → Nat) (h0 : ∀ x, c x x = 0) (hs : ∀ l m h, l ≤ m → m ≤ h → c l m + c m h = c l h) (hF : ∀ s, leavesN (F s) + c (lo s) (up s) = 2 ^ s.1) : ∀ g, leavesN ((topsF g n).flatMap F) + c (n / 2 ^ g * 2 ^ g) n + n / 2 ^ g * 2 ^ g = n
  | 0 => by
    rw [Nat.pow_zero, Nat.div_one, Nat.mul_one, h0]
    simp [topsF, leavesN]
  | g + 1 => by
    have ih := tops_count n F c h0 hs hF g
    have hd := div_le_up n g
    simp only [topsF]
    rcases bit_step n g with ⟨hb, h1, h2, h3⟩ | ⟨hb, h2⟩
    · rw [if_pos hb, List.flatMap_append, leaves_app]
      simp only [List.flatMap_cons, List.flatMap_nil, List.append_nil]
      have hf := hF (g, n / 2 ^ g - 1)
      have hu := up_lo (g, n / 2 ^ g - 1)
      have h5 := hs _ _ _ hd.1 hd.2
      rw [h2, h3] at hf hu
      have e : 2 ^ (g, n / 2 ^ g - 1).1 = 2 ^ g := rfl
      rw [e] at hf hu
      omega
    · rw [if_neg (by simp [hb]), List.nil_append, ← h2]
      exact ih
theorem spots_count (f t : Nat) : ∀ (h i : Nat), leavesN (spots f t h i) + ov f t (lo (h, i)) (up (h, i)) = 2 ^ h := by
  intro h
  induction h with
  | zero =>
    intro i
    simp only [spots]
    unfold ov lo up
    simp only [Nat.pow_zero, Nat.mul_one]
    split
    · simp [leavesN]; omega
    · simp [leavesN]; omega
  | succ h ih =>
    intro i
    have hl := kid_left h i
    have hm := kid_mid h i
    have hr := kid_right h i
    simp only [spots]
    have hu : (i + 1) * 2 ^ (h + 1) = i * 2 ^ (h + 1) + 2 ^ (h + 1) := by rw [Nat.add_mul, Nat.one_mul]
    split
    · next c =>
      rw [leaves_cons]
      show 2 ^ (h + 1) + 0 + (min t ((i + 1) * 2 ^ (h + 1)) - max f (i * 2 ^ (h + 1))) = 2 ^ (h + 1)
      clear hl hm hr ih
      generalize (i + 1) * 2 ^ (h + 1) = U at *
      generalize i * 2 ^ (h + 1) = L at *
      generalize 2 ^ (h + 1) = q at *
      omega
    · next c =>
      split
      · next c2 =>
        show 0 + (min t ((i + 1) * 2 ^ (h + 1)) - max f (i * 2 ^ (h + 1))) = 2 ^ (h + 1)
        clear hl hm hr ih
        generalize (i + 1) * 2 ^ (h + 1) = U at *
        generalize i * 2 ^ (h + 1) = L at *
        generalize 2 ^ (h + 1) = q at *
        omega
      · have i0 := ih (2 * i)
        have i1 := ih (2 * i + 1)
        rw [leaves_app]
        have hsp := ov_split (f := f) (t := t) (l := lo (h, 2 * i)) (m := lo (h, 2 * i + 1)) (h := up (h, 2 * i + 1)) (Nat.mul_le_mul_right _ (by omega)) (Nat.mul_le_mul_right _ (by omega))
        rw [show up (h, 2 * i) = lo (h, 2 * i + 1) from rfl] at i0
        rw [show lo (h + 1, i) = lo (h, 2 * i) from hl.symm, show up (h + 1, i) = up (h, 2 * i + 1) from hr.symm, Nat.pow_succ]
        omega
theorem spots_out (f t : Nat) : ∀ (h i : Nat) (s : Nat × Nat), s ∈ spots f t h i → ¬ (f < t ∧ lo s < t ∧ f < up s)
  | 0, i, s, hs => by
    simp only [spots] at hs
    split at hs
    · simp at hs
      subst hs
      simp [lo, up]
      omega
    · simp at hs
  | h + 1, i, s, hs => by
    simp only [spots] at hs
    split at hs
    · next c =>
      simp at hs
      subst hs
      show ¬ (f < t ∧ i * 2 ^ (h + 1) < t ∧ f < (i + 1) * 2 ^ (h + 1))
      omega
    · split at hs
      · simp at hs
      · rcases List.mem_append.1 hs with hs | hs
        · exact spots_out f t h (2 * i) s hs
        · exact spots_out f t h (2 * i + 1) s hs
/-- One if p. -/
def cN (f : Nat) (s : Nat × Nat) : Nat := if lo s < f ∧ f < up s then 62 else 0
theorem spots_short (f t h i : Nat) (hh : h ≤ 62) : (spots f t h i).length ≤ 1 + cN f (h, i) + cN t (h, i) := by
  by_cases c1 : f ≤ lo (h, i)
  · have h1 := spots_left f t h i c1
    by_cases c2 : t ≤ lo (h, i)
    · have : spots f t h i = [(h, i)] := spots_tell (by have : i * 2 ^ h = lo (h, i) := rfl; omega)
      rw [this]; simp; omega
    · by_cases c3 : t < up (h, i)
      · have : cN t (h, i) = 62 := if_pos ⟨by omega, c3⟩
        omega
      · have h2 := up_lo (h, i)
        have hp := p2_pos h
        have : spots f t h i = [] := spots_in (by have : i * 2 ^ h = lo (h, i) := rfl; have : (i + 1) * 2 ^ h = up (h, i) := rfl; simp only at h2; omega) ⟨c1, by have : (i + 1) * 2 ^ h = up (h, i) := rfl; omega⟩
        rw [this]; simp
  · by_cases c2 : f < up (h, i)
    · have e1 : cN f (h, i) = 62 := if_pos ⟨by omega, c2⟩
      by_cases c3 : up (h, i) ≤ t
      · have h1 := spots_right f t h i c3
        omega
      · by_cases c4 : lo (h, i) < t
        · have e2 : cN t (h, i) = 62 := if_pos ⟨c4, by omega⟩
          have := spots_len f t h i
          omega
        · have : spots f t h i = [(h, i)] := spots_tell (by have : i * 2 ^ h = lo (h, i) := rfl; omega)
          rw [this]; simp; omega
    · have : spots f t h i = [(h, i)] := spots_tell (by have : (i + 1) * 2 ^ h = up (h, i) := rfl; omega)
      rw [this]; simp; omega
theorem cN_once (f : Nat) : ∀ (L : List (Nat × Nat)), L.Pairwise Bef → (L.map (cN f)).sum ≤ 62 ∧ ((∀ s ∈ L, f ≤ lo s) → (L.map (cN f)).sum = 0)
  | [], _ => ⟨by simp, fun _ => rfl⟩
  | s :: r, h => by
    obtain ⟨h1, h2⟩ := List.pairwise_cons.1 h
    have ih := cN_once f r h2
    rw [List.map_cons, List.sum_cons]
    refine ⟨?_, fun hk => ?_⟩
    · by_cases c : lo s < f ∧ f < up s
      · have : (r.map (cN f)).sum = 0 := ih.2 (fun x hx => by have := h1 x hx; unfold Bef at this; omega)
        rw [show cN f s = 62 from if_pos c]
        omega
      · rw [show cN f s = 0 from if_neg c]
        omega
    · have := hk s List.mem_cons_self
      rw [show cN f s = 0 from if_neg (by omega), ih.2 (fun x hx => hk x (List.mem_cons_of_mem _ hx))]
theorem tops_bef (n : Nat) : (topsN n).Pairwise Bef := by
  have := (tops_ord n (fun s => [s]) (fun s => Ord.one s (Nat.le_refl _) (Nat.le_refl _)) 63).2
  rwa [show (topsF 63 n).flatMap (fun s => [s]) = topsN n by rw [List.flatMap_singleton']; rfl] at this
theorem flat_short (f t : Nat) : ∀ (L : List (Nat × Nat)), (∀ s ∈ L, s.1 ≤ 62) → (L.flatMap fun s => spots f t s.1 s.2).length ≤ L.length + (L.map (cN f)).sum + (L.map (cN t)).sum
  | [], _ => by simp
  | s :: r, h => by
    have ih := flat_short f t r (fun x hx => h x (List.mem_cons_of_mem _ hx))
    have h1 := spots_short f t s.1 s.2 (h s List.mem_cons_self)
    have e1 : cN f (s.1, s.2) = cN f s := rfl
    have e2 : cN t (s.1, s.2) = cN t s := rfl
    rw [List.flatMap_cons, List.length_append, List.map_cons, List.map_cons, List.sum_cons, List.sum_cons, List.length_cons]
    omega
theorem span_short (f t n : Nat) : (spanSpots f t n).length ≤ 187 := by
  have h1 := flat_short f t (topsN n) (fun s hs => by have := (tops_fit 63 n s hs).1; omega)
  have h2 := (cN_once f _ (tops_bef n)).1
  have h3 := (cN_once t _ (tops_bef n)).1
  have h4 : (topsN n).length ≤ 63 := topsF_len 63 n
  unfold spanSpots
  omega
theorem span_ord (f t n : Nat) (hn : n ≤ 4611686018427387904) : Ord 0 n (spanSpots f t n) := by
  have := tops_ord n (fun s => spots f t s.1 s.2) (fun s => spots_ord f t s.1 s.2) 63
  rwa [show n / 2 ^ 63 * 2 ^ 63 = 0 by rw [Nat.div_eq_of_lt (by omega), Nat.zero_mul]] at this
theorem span_count (f t n : Nat) (hn : n ≤ 4611686018427387904) : leavesN (spanSpots f t n) + ov f t 0 n = n := by
  have := tops_count n (fun s => spots f t s.1 s.2) (ov f t) (fun x => by unfold ov; omega) (fun l m h => ov_split) (fun s => spots_count f t s.1 s.2) 63
  rw [show n / 2 ^ 63 * 2 ^ 63 = 0 by rw [Nat.div_eq_of_lt (by omega), Nat.zero_mul]] at this
  exact this
theorem span_out (f t n : Nat) : ∀ s ∈ spanSpots f t n, ¬ (f < t ∧ lo s < t ∧ f < up s) := by
  intro s hs
  unfold spanSpots at hs
  obtain ⟨a, _, hs⟩ := List.mem_flatMap.1 hs
  exact spots_out f t _ _ s hs
theorem many_ord (l : List Nat) (n : Nat) (hn : n ≤ 4611686018427387904) : Ord 0 n (manySpots l n) := by
  have := tops_ord n (fun s => mneed s.1 s.2 l) (fun s => mneed_ord s.1 s.2 l) 63
  rwa [show n / 2 ^ 63 * 2 ^ 63 = 0 by rw [Nat.div_eq_of_lt (by omega), Nat.zero_mul]] at this
/-- The spots of a span are those of its leaves. -/
theorem spots_need (f t : Nat) : ∀ (h i : Nat) (l : List Nat), (∀ x, x / 2 ^ h = i → (x ∈ l ↔ f ≤ x ∧ x < t)) → mneed h i l = spots f t h i := by
  intro h
  induction h with
  | zero =>
    intro i l hl
    simp only [mneed, spots]
    have h1 := hl i (by simp)
    by_cases c : undL 0 i l = []
    · rw [if_pos c]
      have : i ∉ l := fun hi => by
        have hm : i ∈ undL 0 i l := List.mem_filter.2 ⟨hi, by simp⟩
        rw [c] at hm; simp at hm
      rw [if_pos (by have := mt h1.2 this; omega)]
    · rw [if_neg c]
      obtain ⟨x, hx⟩ := List.exists_mem_of_ne_nil _ c
      have hx2 := und_mem x hx
      rw [Nat.pow_zero, Nat.div_one] at hx2
      subst hx2
      have := h1.1 (List.mem_filter.1 hx).1
      rw [if_neg (by omega)]
  | succ h ih =>
    intro i l hl
    have hk1 := kid_left h i
    have hk2 := kid_mid h i
    have hk3 := kid_right h i
    have hp := p2_pos h
    have he : (i + 1) * 2 ^ (h + 1) = i * 2 ^ (h + 1) + 2 ^ (h + 1) := by rw [Nat.add_mul, Nat.one_mul]
    have hp1 := p2_pos (h + 1)
    simp only [mneed, spots]
    by_cases c : undL (h + 1) i l = []
    · rw [if_pos c, if_pos]
      refine Decidable.by_contra (fun hc => ?_)
      have hm := (und_iff (max f (i * 2 ^ (h + 1))) (h + 1) i).2 ⟨by omega, by omega⟩
      have : max f (i * 2 ^ (h + 1)) ∈ undL (h + 1) i l := List.mem_filter.2 ⟨(hl _ hm).2 ⟨by omega, by omega⟩, by simpa using hm⟩
      rw [c] at this
      simp at this
    · obtain ⟨x, hx⟩ := List.exists_mem_of_ne_nil _ c
      have hx2 := und_mem x hx
      have hx3 := (hl x hx2).1 (List.mem_filter.1 hx).1
      have hx4 := (und_iff x (h + 1) i).1 hx2
      have hsub : ∀ j, j / 2 = i → ∀ y, y / 2 ^ h = j → (y ∈ undL (h + 1) i l ↔ f ≤ y ∧ y < t) := by
        intro j hj y hy
        have hy2 : y / 2 ^ (h + 1) = i := by rw [← half_up, hy, hj]
        rw [← hl y hy2]
        exact ⟨fun h1 => (List.mem_filter.1 h1).1, fun h1 => List.mem_filter.2 ⟨h1, by simpa using hy2⟩⟩
      rw [if_neg c, if_neg (by omega), ih (2 * i) _ (hsub _ (by omega)), ih (2 * i + 1) _ (hsub _ (by omega))]
      split
      · next c2 =>
        rw [spots_in (h := h) (i := 2 * i) ⟨by omega, by omega, by omega⟩ ⟨by omega, by omega⟩, spots_in (h := h) (i := 2 * i + 1) ⟨by omega, by omega, by omega⟩ ⟨by omega, by omega⟩]
        rfl
      · rfl
theorem span_many (f t n : Nat) (l : List Nat) (hl : ∀ x, x ∈ l ↔ f ≤ x ∧ x < t) : manySpots l n = spanSpots f t n :=
  flat_congr (fun s _ => spots_need f t s.1 s.2 l (fun x _ => hl x))
end Go.Proofs.Ytagcabmccpekaaa.M

namespace Go.Proofs.Ytagcabmccpekaaa.M

theorem mneed_none {h i : Nat} {l : List Nat} (hl : undL h i l = []) : mneed h i l = [(h, i)] := by
  cases h <;> simp only [mneed] <;> rw [if_pos hl]
theorem mneed_two {h i : Nat} {l : List Nat} (hl : ¬ undL (h + 1) i l = []) : mneed (h + 1) i l = mneed h (2 * i) l ++ mneed h (2 * i + 1) l := by
  simp only [mneed]
  rw [if_neg hl]
  have e : ∀ j, j / 2 = i → undL h j (undL (h + 1) i l) = undL h j l := by
    intro j hj
    unfold undL
    rw [List.filter_filter]
    refine List.filter_congr (fun x _ => ?_)
    rw [Bool.and_eq_left_iff_imp]
    intro hx
    simp only [decide_eq_true_eq] at hx ⊢
    rw [← half_up, hx, hj]
  rw [← mneed_und h (2 * i), ← mneed_und h (2 * i + 1), e _ (by omega), e _ (by omega), mneed_und, mneed_und]
theorem up_one : ∀ (l : List Nat) (i : Nat), Up l → (undL 0 i l).length ≤ 1
  | [], _, _ => by simp [undL]
  | x :: r, i, h => by
    obtain ⟨h1, h2⟩ := List.pairwise_cons.1 h
    have ih := up_one r i h2
    unfold undL at *
    rw [List.filter_cons]
    split
    · next c =>
      simp only [Nat.pow_zero, Nat.div_one, decide_eq_true_eq] at c
      subst c
      have : r.filter (fun y => decide (y / 2 ^ 0 = x)) = [] := List.filter_eq_nil_iff.2 (fun y hy => by have := h1 y hy; simp; omega)
      rw [this]
      simp
    · exact ih
theorem mneed_count : ∀ (h i : Nat) (l : List Nat), Up l → leavesN (mneed h i l) + (undL h i l).length = 2 ^ h := by
  intro h
  induction h with
  | zero =>
    intro i l hl
    have h1 := up_one l i hl
    by_cases c : undL 0 i l = []
    · rw [mneed_none c, c]; simp [leavesN]
    · have : 0 < (undL 0 i l).length := List.length_pos_iff.2 c
      simp only [mneed]
      rw [if_neg c]
      simp [leavesN]
      omega
  | succ h ih =>
    intro i l hl
    by_cases c : undL (h + 1) i l = []
    · rw [mneed_none c, c]; simp [leavesN]
    · simp only [mneed]
      rw [if_neg c, leaves_app]
      have hu : Up (undL (h + 1) i l) := up_filter hl _
      have i0 := ih (2 * i) _ hu
      have i1 := ih (2 * i + 1) _ hu
      have hk := und_kids h i (undL (h + 1) i l) und_mem
      rw [Nat.pow_succ]
      omega
theorem many_count (l : List Nat) (n : Nat) (hn : n ≤ 4611686018427387904) (hu : Up l) (hl : ∀ x ∈ l, x < n) : leavesN (manySpots l n) + l.length = n := by
  have key := tops_count n (fun s => mneed s.1 s.2 l) (fun a b => (l.filter (fun x => decide (a ≤ x) && decide (x < b))).length) (fun x => ?_) (fun a b c hab hbc => ?_) (fun s => ?_) 63
  · rw [show n / 2 ^ 63 * 2 ^ 63 = 0 by rw [Nat.div_eq_of_lt (by omega), Nat.zero_mul]] at key
    rw [show l.filter (fun x => decide (0 ≤ x) && decide (x < n)) = l from List.filter_eq_self.2 (fun x hx => by have := hl x hx; simpa using this)] at key
    exact key
  · rw [List.length_eq_zero_iff]
    exact List.filter_eq_nil_iff.2 (fun y _ => by simp)
  · clear hu hl
    induction l with
    | nil => rfl
    | cons x r ih =>
      simp only [List.filter_cons]
      by_cases c1 : a ≤ x <;> by_cases c2 : x < b <;> by_cases c3 : b ≤ x <;> by_cases c4 : x < c <;> simp [c1, c2, c3, c4] at ih ⊢ <;> omega
  · rw [← mneed_count s.1 s.2 l hu]
    congr 1
    unfold undL
    refine congrArg _ (List.filter_congr (fun x _ => ?_))
    have := und_iff x s.1 s.2
    rw [Bool.eq_iff_iff]
    simp only [Bool.and_eq_true, decide_eq_true_eq]
    exact this.symm
theorem mneed_not : ∀ (h i : Nat) (l : List Nat) (s : Nat × Nat), s ∈ mneed h i l → ∀ x ∈ l, ¬ Und x s := by
  intro h
  induction h with
  | zero =>
    intro i l s hs x hx hu
    by_cases c : undL 0 i l = []
    · rw [mneed_none c] at hs
      simp at hs
      subst hs
      have hu : x / 2 ^ 0 = i := hu
      have : x ∈ undL 0 i l := List.mem_filter.2 ⟨hx, by simpa using hu⟩
      rw [c] at this
      simp at this
    · simp only [mneed] at hs
      rw [if_neg c] at hs
      simp at hs
  | succ h ih =>
    intro i l s hs x hx hu
    by_cases c : undL (h + 1) i l = []
    · rw [mneed_none c] at hs
      simp at hs
      subst hs
      have hu : x / 2 ^ (h + 1) = i := hu
      have : x ∈ undL (h + 1) i l := List.mem_filter.2 ⟨hx, by simpa using hu⟩
      rw [c] at this
      simp at this
    · rw [mneed_two c] at hs
      rcases List.mem_append.1 hs with hs | hs
      · exact ih _ l s hs x hx hu
      · exact ih _ l s hs x hx hu
theorem mneed_met : ∀ (h i : Nat) (l : List Nat) (s : Nat × Nat), s ∈ mneed h i l → s = (h, i) ∨ ∃ x ∈ l, Und x (s.1 + 1, s.2 / 2) := by
  intro h
  induction h with
  | zero =>
    intro i l s hs
    by_cases c : undL 0 i l = []
    · rw [mneed_none c] at hs
      exact .inl (by simpa using hs)
    · simp only [mneed] at hs
      rw [if_neg c] at hs
      simp at hs
  | succ h ih =>
    intro i l s hs
    by_cases c : undL (h + 1) i l = []
    · rw [mneed_none c] at hs
      exact .inl (by simpa using hs)
    · rw [mneed_two c] at hs
      obtain ⟨x, hx⟩ := List.exists_mem_of_ne_nil _ c
      have hx2 := und_mem x hx
      have hx1 : x ∈ l := (List.mem_filter.1 hx).1
      refine .inr ?_
      rcases List.mem_append.1 hs with hs | hs
      · rcases ih _ l s hs with rfl | h9
        · exact ⟨x, hx1, by show x / 2 ^ (h + 1) = 2 * i / 2; omega⟩
        · exact h9
      · rcases ih _ l s hs with rfl | h9
        · exact ⟨x, hx1, by show x / 2 ^ (h + 1) = (2 * i + 1) / 2; omega⟩
        · exact h9
/-! Of one leaf. -/
theorem mneed_leaf (i : Nat) : ∀ (h j : Nat), i / 2 ^ h = j → (mneed h j [i]).length = h ∧ ∀ s ∈ mneed h j [i], s ∈ sibsN i h := by
  intro h
  induction h with
  | zero =>
    intro j hj
    have c : ¬ undL 0 j [i] = [] := fun hc => by simp [undL] at hc; exact hc (by simpa using hj)
    simp only [mneed]
    rw [if_neg c]
    exact ⟨rfl, fun s hs => by simp at hs⟩
  | succ h ih =>
    intro j hj
    have c : ¬ undL (h + 1) j [i] = [] := fun hc => by simp [undL] at hc; exact hc hj
    rw [mneed_two c]
    have hs : sibsN i (h + 1) = sibsN i h ++ [(h, sibN (i / 2 ^ h))] := by unfold sibsN; rw [List.range_succ, List.map_append]; rfl
    rw [← half_up] at hj
    rw [hs]
    by_cases e : i / 2 ^ h = 2 * j
    · have h1 := ih (2 * j) e
      have hn : undL h (2 * j + 1) [i] = [] := by simp [undL]; omega
      have h2 : sibN (i / 2 ^ h) = 2 * j + 1 := by rw [e]; unfold sibN; rw [if_pos (by omega)]
      rw [mneed_none hn, h2]
      refine ⟨by simp [h1.1], fun s hs => ?_⟩
      rcases List.mem_append.1 hs with hs | hs
      · exact List.mem_append_left _ (h1.2 s hs)
      · exact List.mem_append_right _ hs
    · have e2 : i / 2 ^ h = 2 * j + 1 := by omega
      have h1 := ih (2 * j + 1) e2
      have hn : undL h (2 * j) [i] = [] := by simp [undL]; omega
      have h2 : sibN (i / 2 ^ h) = 2 * j := by rw [e2]; unfold sibN; rw [if_neg (by omega)]; omega
      rw [mneed_none hn, h2]
      refine ⟨by simp [h1.1] <;> omega, fun s hs => ?_⟩
      rcases List.mem_append.1 hs with hs | hs
      · exact List.mem_append_right _ hs
      · exact List.mem_append_left _ (h1.2 s hs)
theorem flat_self {L : List (Nat × Nat)} {F : Nat × Nat → List (Nat × Nat)} (h : ∀ s ∈ L, F s = [s]) : L.flatMap F = L := by
  induction L with
  | nil => rfl
  | cons a r ih => rw [List.flatMap_cons, h a List.mem_cons_self, ih (fun x hx => h x (List.mem_cons_of_mem _ hx))]; rfl
theorem one_spots {i n : Nat} (h : i < n) (hn : n ≤ 4611686018427387904) : (manySpots [i] n).length = (proofN i n).length ∧ ∀ s ∈ manySpots [i] n, s ∈ proofN i n := by
  obtain ⟨T, h1, h2, h3, h4⟩ := proof_split h hn
  have hlv := (hi_lv h (by omega)).1
  have hself : ∀ s ∈ topsN n, s.1 ≠ hiN i n → mneed s.1 s.2 [i] = [s] := by
    intro s hs hne
    refine mneed_none ?_
    refine List.filter_eq_nil_iff.2 (fun x hx => ?_)
    simp at hx
    subst hx
    simp only [decide_eq_true_eq]
    intro hu
    exact hne ((tops_lv hs (show Und x s from hu)).uniq hlv)
  have hT : T.flatMap (fun s => mneed s.1 s.2 [i]) = T := flat_self (fun s hs => hself s (by rw [h1]; exact List.mem_append_left _ hs) (by have := h3 s hs; omega))
  have hR : (topsF (hiN i n) n).flatMap (fun s => mneed s.1 s.2 [i]) = topsF (hiN i n) n := flat_self (fun s hs => hself s (by rw [h1]; exact List.mem_append_right _ (List.mem_cons_of_mem _ hs)) (by have := (tops_mem _ _ s hs).1; omega))
  obtain ⟨m1, m2⟩ := mneed_leaf i (hiN i n) (i / 2 ^ hiN i n) rfl
  have hm : manySpots [i] n = T ++ (mneed (hiN i n) (i / 2 ^ hiN i n) [i] ++ topsF (hiN i n) n) := by
    unfold manySpots
    rw [h1, List.flatMap_append, List.flatMap_cons, hT, hR]
  rw [hm, h4]
  have hsl : (sibsN i (hiN i n)).length = hiN i n := by simp [sibsN]
  refine ⟨by simp only [List.length_append, m1, hsl]; omega, fun s hs => ?_⟩
  rcases List.mem_append.1 hs with hs | hs
  · exact List.mem_append_right _ (List.mem_append_left _ hs)
  · rcases List.mem_append.1 hs with hs | hs
    · exact List.mem_append_left _ (m2 s hs)
    · exact List.mem_append_right _ (List.mem_append_right _ hs)
theorem no_spots (n : Nat) : manySpots [] n = topsN n := flat_self (fun s _ => mneed_none (by simp [undL]))
theorem all_spots (n : Nat) (hn : n ≤ 4611686018427387904) (l : List Nat) (hl : ∀ x, x ∈ l ↔ x < n) : manySpots l n = [] := by
  rw [span_many 0 n n l (fun x => by rw [hl]; omega)]
  have hc := span_count 0 n n hn
  have ho : ov 0 n 0 n = n := by unfold ov; omega
  rw [ho] at hc
  have h0 : leavesN (spanSpots 0 n n) = 0 := by omega
  cases hs : spanSpots 0 n n with
  | nil => rfl
  | cons s r =>
    rw [hs, leaves_cons] at h0
    have := p2_pos s.1
    omega
theorem look_ok (n : Nat) (hn : n ≤ 4611686018427387904) (l : List Nat) (hu : Up l) (hl : ∀ x ∈ l, x < n) : lookN l n = 0 := by
  unfold lookN
  rw [if_neg (by omega)]
  have key : ∀ (l : List Nat) (p : Option Nat), Up l → (∀ x ∈ l, x < n) → (∀ y, p = some y → ∀ x ∈ l, y < x) → lookF n p l = 0 := by
    intro l
    induction l with
    | nil => intro p _ _ _; exact lookF_nil n p
    | cons x r ih =>
      intro p hu hl hp
      obtain ⟨h1, h2⟩ := List.pairwise_cons.1 hu
      have hb : badP p x = false := by
        cases p with
        | none => rfl
        | some y => have := hp y rfl x List.mem_cons_self; simp [badP]; exact this
      rw [lookF_go hb (by have := hl x List.mem_cons_self; omega)]
      exact ih (some x) h2 (fun y hy => hl y (List.mem_cons_of_mem _ hy)) (fun y hy z hz => by injection hy with hy; subst hy; exact h1 z hz)
  exact key l none hu hl (fun y hy => by simp at hy)
end Go.Proofs.Ytagcabmccpekaaa.M

namespace Go.Proofs.Ytagcabmccpekaaa.M
open Go.RowKit Go.Proofs.YtagcabmccpekaaaW.PrintWords Go.Proofs.YtagcabmccpekaaaW.PrintLast Go.Proofs.YtagcabmccpekaaaW.PrintMore Go.Proofs.Ytagcabmccpekaaa.Leaf

set_option maxHeartbeats 1000000 in
set_option maxRecDepth 100000 in
theorem span_tell (h i p : Int) (b : Bool) (hp : pos_Place.f h i = some (p, b)) (bl : Nat) (v : Value) (xs : List Int) (base : Nat) (w : World)
    (hbl : w.heap[bl]? = some (.cells #[v] 23 (0, 0))) (hv : Kd.R (Kd.int .u64) 22 w base (fun _ => True) v xs) (hbase : base ≤ w.heap.size) (hl : xs.length < 17592186044415) :
    Calls Try.prog 45 #[.agg #[.int .u8 h, .int .u64 i], .pointer (some ⟨bl, 0, none⟩)] w fun e w' => e = .returned (.tuple #[]) ∧
      ∃ v', w'.heap[bl]? = some (.cells #[v'] 23 (0, 0)) ∧ Kd.R (Kd.int .u64) 22 w' base (fun _ => True) v' (xs ++ [p]) ∧
        Frm (fun k => k = bl ∨ some k = v.ownBlock) w w' ∧ (v'.ownBlock = v.ownBlock ∨ ∃ b, v'.ownBlock = some b ∧ w.heap.size ≤ b) := by
  go_enter Try.func45, Try.ntmps45
  have hlt := blk_lt hbl
  go_wp2_with fail
  refine (pos_Place.calls h i p b _ hp).mono ?_
  rintro e w1 ⟨rfl, hb⟩
  have hb0 : Below w.heap.size w w1 := ((Below.refl _ _).alloc (Nat.le_refl _) _).trans (hb.mono (by simp))
  have hbl1 : w1.heap[bl]? = some (.cells #[v] 23 (0, 0)) := (hb0.block bl hlt).trans hbl
  have hv1 := Kd.R_below hv hb0
  have hsz := hb0.size
  have hbs1 : base ≤ w1.heap.size := by omega
  have hc0 : w1.cell? ⟨bl, 0, none⟩ = some v := (blk_cell hbl1 0).trans rfl
  have H := Aside0.mk hv1
  have HB := Aside0.mk hbl1
  have HL := Aside0.mk hl
  have H0 := Aside0.mk hb0
  clear hv hbl hl hb hb0 hv1 hbl1
  go_wp2_with (at_builtin; go_loud (refine Kd.R_append (Kd.int .u64) (w0 := w1) base rfl (.tmp 10) (.tmp 12) 23 22 (.int .u64 0) 8 rfl Try.underlying23 info22 rfl (by decide) (by omega) v xs p [.int .u64 p] (fun _ => True) (fun _ => False) rfl rfl ?aP (fun _ hk => hk.elim) ?aF ?aO ?aB ?aS ?aL ?_; (case aP => exact rfl); (case aF => exact (fun _ _ => trivial)); (case aO => exact H.out); (case aB => exact Below.refl _ _); (case aS => exact hbs1); (case aL => have := HL.out; omega); intro v1 w2 ho _ hg hat; have HO := Aside0.mk ho; have HG := Aside0.mk hg; have HA := Aside0.mk hat; obtain ⟨A1, c1, e1⟩ : ∃ A1 c1, v1 = .slice A1 (xs.length + 1) c1 := (by obtain ⟨A1, c1, e1⟩ := Kd.R_slice ho; exact ⟨A1, c1, (by rw [e1]; simp)⟩); rw [e1]; have HE := Aside0.mk e1; clear ho hg hat e1; have hne := Aside0.mk (Kd.R_ne H.out HB.out (by decide)); have hbl2 := blk_grown HB.out HG.out hne.out; have hc2 : w2.cell? ⟨bl, 0, none⟩ = some v := (blk_cell hbl2 0).trans rfl; have hf2 : w2.frozen? ⟨bl, 0, none⟩ = false := blk_frozen hbl2 0; have HB2 := Aside0.mk hbl2; clear hbl2))
  go_end0
  refine ⟨rfl, _, blk_set HB2.out 0 _, ?_, ?_, ?_⟩
  · rw [← HE.out]
    exact Kd.R_set HO.out HB2.out (by decide) 0 _
  · exact ((Frm.of_below H0.out _).trans (Frm.of_grown HG.out) (fun _ _ hk => .inr hk)).trans (Frm.of_set _ _ _) (fun _ _ hk => .inl hk)
  · rw [← HE.out]
    rcases HA.out with h1 | ⟨b1, h1, h2⟩
    · exact .inl h1
    · exact .inr ⟨b1, h1, by omega⟩
end Go.Proofs.Ytagcabmccpekaaa.M

namespace Go.Proofs.Ytagcabmccpekaaa.M
open Go.RowKit Go.Proofs.YtagcabmccpekaaaW.PrintWords Go.Proofs.YtagcabmccpekaaaW.PrintLast Go.Proofs.YtagcabmccpekaaaW.PrintMore Go.Proofs.Ytagcabmccpekaaa.Leaf

/-- What a call of 'needed' leaves: the row in block bl is longer by ps. -/
def Told (bl : Nat) (base : Nat) (v : Value) (xs ps : List Int) (w : World) (e : Ending) (w' : World) : Prop :=
  e = .returned (.tuple #[]) ∧ ∃ v', w'.heap[bl]? = some (.cells #[v'] 23 (0, 0)) ∧ Kd.R (Kd.int .u64) 22 w' base (fun _ => True) v' (xs ++ ps) ∧
    Frm (fun k => k = bl ∨ some k = v.ownBlock) w w' ∧ (v'.ownBlock = v.ownBlock ∨ ∃ b, v'.ownBlock = some b ∧ w.heap.size ≤ b)

theorem Told.more {bl base : Nat} {v v1 : Value} {ps : List Int} {w w1 : World} (hf : Frm (fun k => k = bl ∨ some k = v.ownBlock) w w1) (ha : v1.ownBlock = v.ownBlock ∨ ∃ b, v1.ownBlock = some b ∧ w.heap.size ≤ b)
    {xs' : List Int} {e : Ending} {w' : World} (h : Told bl base v1 xs' ps w1 e w') {xs0 ps0 : List Int} (hx : xs' ++ ps = xs0 ++ ps0) : Told bl base v xs0 ps0 w e w' := by
  obtain ⟨he, v', h1, h2, h3, h4⟩ := h
  refine ⟨he, v', h1, hx ▸ h2, hf.trans h3 (fun i hi hk => ?_), ?_⟩
  · rcases hk with hk | hk
    · exact .inl hk
    · rcases ha with ha | ⟨b, ha, hb⟩
      · exact .inr (by rw [hk, ha])
      · rw [ha] at hk
        injection hk with hk
        omega
  · rcases h4 with h4 | ⟨b, h4, hb⟩
    · rcases ha with ha | ⟨b, ha, hb⟩
      · exact .inl (h4.trans ha)
      · exact .inr ⟨b, h4.trans ha, hb⟩
    · exact .inr ⟨b, h4, Nat.le_trans hf.size hb⟩

theorem span_tell' (h i p : Int) (b : Bool) (hp : pos_Place.f h i = some (p, b)) (bl : Nat) (v : Value) (xs : List Int) (base : Nat) (w W : World)
    (hbl : w.heap[bl]? = some (.cells #[v] 23 (0, 0))) (hv : Kd.R (Kd.int .u64) 22 w base (fun _ => True) v xs) (hbase : base ≤ w.heap.size) (hl : xs.length < 17592186044415) (hW : Below w.heap.size w W) :
    Calls Try.prog 45 #[.agg #[.int .u8 h, .int .u64 i], .pointer (some ⟨bl, 0, none⟩)] W (Told bl base v xs [p] w) := by
  refine (span_tell h i p b hp bl v xs base W ((hW.block bl (blk_lt hbl)).trans hbl) (Kd.R_below hv hW) (Nat.le_trans hbase hW.size) hl).mono ?_
  intro e w' h1
  exact Told.more (Frm.of_below hW _) (.inl rfl) h1 rfl

set_option maxHeartbeats 1000000 in
set_option maxRecDepth 100000 in
theorem needed_tell (f t h i a b : Nat) (p : Int) (bl : Nat) (v : Value) (xs : List Int) (base : Nat) (w : World) (hh : h ≤ 62) (hi1 : i + 1 < 18446744073709551616)
    (hp : pos_Place.f h i = some (p, true))
    (ha : IntKind.u64.wrap (↑i * 2 ^ h) = (a : Int)) (hb : IntKind.u64.wrap ((↑i + 1) * 2 ^ h) = (b : Int))
    (hbl : w.heap[bl]? = some (.cells #[v] 23 (0, 0))) (hv : Kd.R (Kd.int .u64) 22 w base (fun _ => True) v xs) (hbase : base ≤ w.heap.size) (hl : xs.length < 17592186044415)
    (hc : t ≤ f ∨ b ≤ f ∨ t ≤ a) :
    Calls Try.prog 44 #[.agg #[.int .u8 h, .int .u64 i], .int .u64 f, .int .u64 t, .func (.func 45) #[] #[.pointer (some ⟨bl, 0, none⟩)]] w (Told bl base v xs [p] w) := by
  have H := Aside0.mk hv
  have HB := Aside0.mk hbl
  have HP := Aside0.mk hp
  have hsz := blk_lt hbl
  clear hv hbl hp
  go_enter Try.func44, Try.ntmps44
  go_wp2_with fail
  go_quiet (fail)
  by_cases c1 : t ≤ f
  · go_wp2_with (go_at_call 45; go_loud (refine (span_tell' _ _ _ _ HP.out bl v xs base w _ HB.out H.out hbase hl (by exact pw_below_drewN ((Below.refl _ _).alloc (Nat.le_refl _) _) _)).mono ?_; intro e w1 h1; have h2 := Aside0.mk h1.2; rw [h1.1]; clear h1))
    go_end0
    exact ⟨rfl, h2.out⟩
  · by_cases c2 : b ≤ f
    · go_wp2_with (go_at_call 45; go_loud (refine (span_tell' _ _ _ _ HP.out bl v xs base w _ HB.out H.out hbase hl (by exact pw_below_drewN ((Below.refl _ _).alloc (Nat.le_refl _) _) _)).mono ?_; intro e w1 h1; have h2 := Aside0.mk h1.2; rw [h1.1]; clear h1))
      go_end0
      exact ⟨rfl, h2.out⟩
    · have c3 : t ≤ a := by omega
      go_wp2_with (go_at_call 45; go_loud (refine (span_tell' _ _ _ _ HP.out bl v xs base w _ HB.out H.out hbase hl (by exact pw_below_drewN ((Below.refl _ _).alloc (Nat.le_refl _) _) _)).mono ?_; intro e w1 h1; have h2 := Aside0.mk h1.2; rw [h1.1]; clear h1))
      go_end0
      exact ⟨rfl, h2.out⟩

set_option maxHeartbeats 1000000 in
set_option maxRecDepth 100000 in
theorem needed_all (f t h i a b : Nat) (c : Value) (w : World) (hh : h ≤ 62) (hi1 : i + 1 < 18446744073709551616)
    (ha : IntKind.u64.wrap (↑i * 2 ^ h) = (a : Int)) (hb : IntKind.u64.wrap ((↑i + 1) * 2 ^ h) = (b : Int))
    (c1 : f < t) (c2 : f < b) (c3 : a < t) (c4 : f ≤ a) (c5 : b ≤ t) :
    Calls Try.prog 44 #[.agg #[.int .u8 h, .int .u64 i], .int .u64 f, .int .u64 t, c] w fun e w' => e = .returned (.tuple #[]) ∧ Below w.heap.size w w' := by
  go_enter Try.func44, Try.ntmps44
  go_wp2_with fail
  go_quiet (fail)
  go_wp2
  go_end0
  exact ⟨rfl, pw_below_drewN ((Below.refl _ _).alloc (Nat.le_refl _) _) _⟩

set_option maxHeartbeats 1000000 in
set_option maxRecDepth 100000 in
theorem needed_two (f t h i a b : Nat) (bl : Nat) (v : Value) (xs ps qs : List Int) (base : Nat) (w : World) (hh : h + 1 ≤ 62) (hi : 2 * i + 2 < 18446744073709551616)
    (ha : IntKind.u64.wrap (↑i * 2 ^ (h + 1)) = (a : Int)) (hb : IntKind.u64.wrap ((↑i + 1) * 2 ^ (h + 1)) = (b : Int))
    (hbl : w.heap[bl]? = some (.cells #[v] 23 (0, 0))) (hv : Kd.R (Kd.int .u64) 22 w base (fun _ => True) v xs) (hbase : base ≤ w.heap.size)
    (c1 : f < t) (c2 : f < b) (c3 : a < t) (c4 : a < f ∨ t < b)
    (h1 : ∀ (w : World) (v : Value), w.heap[bl]? = some (.cells #[v] 23 (0, 0)) → Kd.R (Kd.int .u64) 22 w base (fun _ => True) v xs → base ≤ w.heap.size → Calls Try.prog 44 #[.agg #[.int .u8 h, .int .u64 (2 * i : Nat)], .int .u64 f, .int .u64 t, .func (.func 45) #[] #[.pointer (some ⟨bl, 0, none⟩)]] w (Told bl base v xs ps w))
    (h2 : ∀ (w : World) (v : Value), w.heap[bl]? = some (.cells #[v] 23 (0, 0)) → Kd.R (Kd.int .u64) 22 w base (fun _ => True) v (xs ++ ps) → base ≤ w.heap.size → Calls Try.prog 44 #[.agg #[.int .u8 h, .int .u64 (2 * i + 1 : Nat)], .int .u64 f, .int .u64 t, .func (.func 45) #[] #[.pointer (some ⟨bl, 0, none⟩)]] w (Told bl base v (xs ++ ps) qs w)) :
    Calls Try.prog 44 #[.agg #[.int .u8 (h + 1 : Nat), .int .u64 i], .int .u64 f, .int .u64 t, .func (.func 45) #[] #[.pointer (some ⟨bl, 0, none⟩)]] w (Told bl base v xs (ps ++ qs) w) := by
  have H := Aside0.mk hv
  have HB := Aside0.mk hbl
  have H1 := Aside0.mk h1
  have H2 := Aside0.mk h2
  have hsz := blk_lt hbl
  clear hv hbl h1 h2
  go_enter Try.func44, Try.ntmps44
  go_wp2_with fail
  go_quiet (fail)
  have hbw : ∀ o nq, Below w.heap.size w ((w.alloc o).drewN nq) := fun o nq => pw_below_drewN ((Below.refl _ _).alloc (Nat.le_refl _) _) _
  by_cases c5 : a < f
  · go_wp2_with fail
    refine (H1.out _ v ((hbw _ nq).block bl hsz |>.trans HB.out) (Kd.R_below H.out (hbw _ nq)) (by simp; omega)).mono ?_
    intro e w1 h1
    rw [h1.1]
    obtain ⟨_, v1, g1, g2, g3, g4⟩ := h1
    have gb : w1.heap[w.heap.size]? = some (.cells #[.int .u8 (h + 1 : Nat), .int .u64 i] 39 (0, 0)) := (g3.block w.heap.size (by simp) (by rintro (hk | hk); omega; have := Kd.R_lt H.out _ hk.symm; omega)).trans (heap_newN _ _ _)
    have k0 : w1.cell? ⟨w.heap.size, 0, none⟩ = some (.int .u8 ((h : Int) + 1)) := (blk_cell gb 0).trans rfl
    have k1 : w1.cell? ⟨w.heap.size, 1, none⟩ = some (.int .u64 i) := (blk_cell gb 1).trans rfl
    clear gb
    have G1 := Aside0.mk g1
    have G2 := Aside0.mk g2
    have G3 := Aside0.mk g3
    have G4 := Aside0.mk g4
    clear g1 g2 g3 g4
    go_wp2_with fail
    refine (H2.out _ v1 G1.out G2.out (by have := G3.out.size; simp at this; omega)).mono ?_
    intro e w2 h2
    have HF := Aside0.mk (Told.more (Frm.mono G3.out (fun _ _ hk => hk)) G4.out h2 (ps0 := ps ++ qs) (xs0 := xs) (by rw [List.append_assoc]))
    rw [h2.1]
    clear h2
    go_wp2_with fail
    go_end0
    exact Told.more (Frm.of_below (hbw _ nq) _) (.inl rfl) ⟨rfl, HF.out.2⟩ rfl
  · have c6 : f ≤ a := by omega
    have c7 : t < b := by omega
    go_wp2_with fail
    refine (H1.out _ v ((hbw _ nq).block bl hsz |>.trans HB.out) (Kd.R_below H.out (hbw _ nq)) (by simp; omega)).mono ?_
    intro e w1 h1
    rw [h1.1]
    obtain ⟨_, v1, g1, g2, g3, g4⟩ := h1
    have gb : w1.heap[w.heap.size]? = some (.cells #[.int .u8 (h + 1 : Nat), .int .u64 i] 39 (0, 0)) := (g3.block w.heap.size (by simp) (by rintro (hk | hk); omega; have := Kd.R_lt H.out _ hk.symm; omega)).trans (heap_newN _ _ _)
    have k0 : w1.cell? ⟨w.heap.size, 0, none⟩ = some (.int .u8 ((h : Int) + 1)) := (blk_cell gb 0).trans rfl
    have k1 : w1.cell? ⟨w.heap.size, 1, none⟩ = some (.int .u64 i) := (blk_cell gb 1).trans rfl
    clear gb
    have G1 := Aside0.mk g1
    have G2 := Aside0.mk g2
    have G3 := Aside0.mk g3
    have G4 := Aside0.mk g4
    clear g1 g2 g3 g4
    go_wp2_with fail
    refine (H2.out _ v1 G1.out G2.out (by have := G3.out.size; simp at this; omega)).mono ?_
    intro e w2 h2
    have HF := Aside0.mk (Told.more (Frm.mono G3.out (fun _ _ hk => hk)) G4.out h2 (ps0 := ps ++ qs) (xs0 := xs) (by rw [List.append_assoc]))
    rw [h2.1]
    clear h2
    go_wp2_with fail
    go_end0
    exact Told.more (Frm.of_below (hbw _ nq) _) (.inl rfl) ⟨rfl, HF.out.2⟩ rfl
end Go.Proofs.Ytagcabmccpekaaa.M

namespace Go.Proofs.Ytagcabmccpekaaa.M
open Go.RowKit Go.Proofs.YtagcabmccpekaaaW.PrintWords Go.Proofs.YtagcabmccpekaaaW.PrintLast Go.Proofs.YtagcabmccpekaaaW.PrintMore

theorem sizeH : (Try.prog.info? 73).map (·.size) = some 32 := by kernel_rfl
theorem infoH : (Try.prog.info? 73).map (fun i => (i.zero, i.size, i.bytes)) = some (some (.agg #[.int .u8 0, .int .u8 0, .int .u8 0, .int .u8 0, .int .u8 0, .int .u8 0, .int .u8 0, .int .u8 0, .int .u8 0, .int .u8 0, .int .u8 0, .int .u8 0, .int .u8 0, .int .u8 0, .int .u8 0, .int .u8 0, .int .u8 0, .int .u8 0, .int .u8 0, .int .u8 0, .int .u8 0, .int .u8 0, .int .u8 0, .int .u8 0, .int .u8 0, .int .u8 0, .int .u8 0, .int .u8 0, .int .u8 0, .int .u8 0, .int .u8 0, .int .u8 0]), 32, 32) := by kernel_rfl
/-- A hash lies there. -/
def HashAt (w : World) (ad : Addr) (h : Hsh) : Prop := ∃ b o, ad = ⟨b, o, none⟩ ∧ w.rangeAt b o h.cells
theorem HashAt.below {w w1 : World} {ad : Addr} {h : Hsh} (hh : HashAt w ad h) (hb : Below w.heap.size w w1) : HashAt w1 ad h := by
  obtain ⟨b, o, rfl, hr⟩ := hh
  exact ⟨b, o, rfl, fun j v hv => pw_cell_below hb (hr j v hv)⟩
theorem HashAt.block {w : World} {b : Nat} {h : Hsh} {t : TypeId} {fz : Nat × Nat} (hb : w.heap[b]? = some (.cells h.cells.toArray t fz)) : HashAt w ⟨b, 0, none⟩ h := by
  refine ⟨b, 0, rfl, fun j v hv => ?_⟩
  rw [Nat.zero_add, cell_of_row w b j _ t fz hb]
  simpa using hv
theorem Hsh.one (h : Hsh) : ∀ v ∈ h.cells, v.oneCell' = true := fun u hu => by
  obtain ⟨y, _, rfl⟩ := List.mem_map.1 hu
  rfl
/-- Element j of a row of hashes. -/
theorem C_hash {w : World} {A : Option Addr} {n : Nat} {ns : List Hsh} (h : kH.C w A n ns) (j : Nat) (hj : j < ns.length) : ∃ ad, A = some ad ∧ HashAt w (ad.add (j * 32)) (ns[j]) := by
  have hl := Kd.C_len h
  obtain ⟨_, _, hr⟩ := h
  obtain ⟨ad, e, hx⟩ := hr (by omega)
  obtain ⟨c, _, hk, hc⟩ := hx j _ (List.getElem?_eq_getElem hj)
  have hk : c = (ns[j]).cells := hk
  have hc : ∀ i u, c[i]? = some u → w.cell? (ad.add (j * 32 + i)) = some u := hc
  subst hk
  refine ⟨ad, e, ?_⟩
  have hlen := (ns[j]).cells_len
  have hsp : ad.spot = none ∨ j * 32 ≠ 0 := by
    by_cases h0 : j * 32 = 0
    · left
      have h1 := hc 0 _ (List.getElem?_eq_getElem (by omega))
      rw [h0] at h1
      by_cases hs : ad.spot = none
      · exact hs
      · exfalso
        have h2 : ad.add (0 + 0) = ad := by simp [Addr.add]
        rw [h2] at h1
        unfold World.cell? at h1
        have h3 : ad.spot.isSome = true := by cases hq : ad.spot with | none => exact absurd hq hs | some _ => rfl
        split at h1
        · rw [if_pos h3] at h1
          exact absurd h1 (by simp)
        · exact absurd h1 (by simp)
    · exact .inr h0
  refine ⟨ad.block, ad.off + j * 32, ?_, fun i v hv => ?_⟩
  · unfold Addr.add
    split
    · next h0 =>
      rcases hsp with hs | hs
      · rw [h0, Nat.add_zero]
        cases ad
        simp_all
      · exact absurd h0 hs
    · rfl
  · have h1 := hc i v hv
    rwa [show ad.add (j * 32 + i) = ⟨ad.block, ad.off + j * 32 + i, none⟩ by
      unfold Addr.add
      split
      · next h0 =>
        have h4 : j * 32 = 0 := by omega
        have h5 : i = 0 := by omega
        rcases hsp with hs | hs
        · cases ad
          simp_all
        · exact absurd h4 hs
      · rw [Nat.add_assoc]] at h1

/-- A variable that holds a hash reads as 32 numbers. -/
theorem C_hash_row (w : World) (h : Hsh) (t : TypeId) {b : Nat} (hb : b = w.heap.size) : (Kd.int .u8).C (w.alloc (.cells h.cells.toArray t)) (some ⟨b, 0, none⟩) 32 h.b := by
  subst hb
  have := C_int_block .u8 (xs := h.b) (heap_new w (.cells h.cells.toArray t)) (by rw [h.len]; omega) (fun j x hj => by
    rw [List.getElem?_toArray]
    unfold Hsh.cells
    rw [List.getElem?_map, hj]
    rfl)
  rwa [h.len] at this
theorem C_hash_one {w : World} {b : Nat} {h : Hsh} {t : TypeId} {fz : Nat × Nat} (hb : w.heap[b]? = some (.cells h.cells.toArray t fz)) : kH.C w (some ⟨b, 0, none⟩) 1 [h] := by
  refine ⟨rfl, by simp, fun _ => ⟨_, rfl, fun j x hj => ?_⟩⟩
  cases j with
  | zero =>
    simp at hj
    subst hj
    refine ⟨h.cells, h.cells_len, rfl, fun i u hi => ?_⟩
    rw [Nat.zero_mul, Nat.zero_add, add_plain, cell_of_row w b i _ t fz hb]
    simpa using hi
  | succ j => simp at hj
/-- The hash that begins with x, and is 0 behind it. -/
def hash1 (x : Int) : Hsh := ⟨[x, 0, 0, 0, 0, 0, 0, 0, 0, 0, 0, 0, 0, 0, 0, 0, 0, 0, 0, 0, 0, 0, 0, 0, 0, 0, 0, 0, 0, 0, 0, 0], rfl⟩
section
variable {ops : Array Oper} {rest : List Oper} {o : Oper} {a : Act} {Q : Exit → Act → World → Prop}
/-- 'load' of a hash. -/
theorem load_hash {W : World} (hgd : o.guard = none) (x : Operand) (ho : o.op = .load 73 x) (ad : Addr) (h : Hsh) (hx : a.eval x = .pointer (some ad)) (hr : HashAt W ad h)
    (k : wpList Try.prog ops Q rest (a.put o.dst h.val) W) : wpList Try.prog ops Q (o :: rest) a W := by
  obtain ⟨b, off, rfl, hrg⟩ := hr
  exact wpList_load_mid hgd _ x ho b off hx h.cells _ hrg Try.underlying73 rfl (by rw [Hsh.cells_len]; exact sizeH) k
theorem set_all (w : World) (t : TypeId) (z : Array Value) (vs : List Value) (hl : z.size = vs.length) : (w.alloc (.cells z t)).setCells w.heap.size 0 vs = w.alloc (.cells vs.toArray t) := by
  have key : ∀ (vs : List Value) (o : Nat) (cur : Array Value), o + vs.length ≤ cur.size → (w.alloc (.cells cur t)).setCells w.heap.size o vs = w.alloc (.cells (cur.toList.take o ++ vs ++ cur.toList.drop (o + vs.length)).toArray t) := by
    intro vs
    induction vs with
    | nil =>
      intro o cur _
      simp [World.setCells]
    | cons v vs ih =>
      intro o cur hle
      rw [List.length_cons] at hle
      have e1 : (w.alloc (.cells cur t)).setCell ⟨w.heap.size, o, none⟩ v = w.alloc (.cells (cur.setIfInBounds o v) t) := by
        rw [World.setCell_alloc_at _ _ _ _ _ rfl]
      rw [show (w.alloc (.cells cur t)).setCells w.heap.size o (v :: vs) = ((w.alloc (.cells cur t)).setCell ⟨w.heap.size, o, none⟩ v).setCells w.heap.size (o + 1) vs from rfl, e1, ih (o + 1) _ (by simp; omega)]
      congr 3
      apply List.ext_getElem?
      intro i
      simp only [Array.toList_setIfInBounds, List.length_cons, List.getElem?_append, List.length_append, List.length_take, List.length_set, Array.length_toList, List.getElem?_take, List.getElem?_drop, List.getElem?_set]
      have hmin : min o cur.size = o := by omega
      have hmin1 : min (o + 1) cur.size = o + 1 := by omega
      rw [hmin, hmin1]
      by_cases c1 : i < o
      · rw [if_pos (by omega), if_pos (by omega), if_pos (by omega), if_neg (by omega), if_pos (by omega), if_pos (by omega), if_pos c1]
      · by_cases c2 : i = o
        · subst c2
          rw [if_pos (show i < i + 1 + vs.length by omega), if_pos (show i < i + 1 by omega), if_pos (show i < i + 1 by omega), if_pos rfl, if_pos (by omega), if_pos (by omega), if_neg (by omega), Nat.sub_self]
          rfl
        · by_cases c3 : i < o + 1 + vs.length
          · rw [if_pos (by omega), if_neg (by omega), if_pos (by omega), if_neg (by omega)]
            obtain ⟨d, rfl⟩ : ∃ d, i = o + 1 + d := ⟨i - (o + 1), by omega⟩
            rw [show o + 1 + d - (o + 1) = d by omega, show o + 1 + d - o = d + 1 by omega, List.getElem?_cons_succ]
          · rw [if_neg (by omega), if_neg (by omega), if_neg (by omega)]
            congr 1
            omega
  rw [key vs 0 z (by omega), List.drop_of_length_le (by rw [Array.length_toList]; omega)]
  simp
/-- A hash goes into a variable that has just been made. -/
theorem store_hash {W : World} (hgd : o.guard = none) (hd : o.dst = none) (x y : Operand) (ho : o.op = .store 73 x y) (z : Array Value) (hz : z.size = 32) (t : TypeId) (b : Nat) (hb : b = W.heap.size) (h : Hsh) (hx : a.eval x = .pointer (some ⟨b, 0, none⟩)) (hy : a.eval y = h.val)
    (k : wpList Try.prog ops Q rest a (W.alloc (.cells h.cells.toArray t))) : wpList Try.prog ops Q (o :: rest) a (W.alloc (.cells z t)) := by
  subst hb
  refine wpList_store_mid hgd _ x y ho W.heap.size 0 h.cells.toArray hx hy (fun j hj => ?_) (by rw [List.size_toArray, Hsh.cells_len]; exact sizeH) (all_oneCell_toArray h.one) ?_
  · have hj32 : j < 32 := by rwa [List.size_toArray, Hsh.cells_len] at hj
    rw [Nat.zero_add, cell_of_row _ _ j z t (0, 0) (heap_new W _), frozen_of_row _ _ j z t (heap_new W _)]
    simp
    omega
  · rw [hd]
    show wpList _ _ _ _ a _
    rw [show h.cells.toArray.toList = h.cells by simp, set_all W t z h.cells (by rw [hz, Hsh.cells_len])]
    exact k
end
end Go.Proofs.Ytagcabmccpekaaa.M
