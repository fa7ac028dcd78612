/- The lowest set bit by Go's table; cut.Span. Go's table for the lowest set bit is where the condition says; a world of the door's meets it. What massifref3.Peaks, Spot, Sibling, Peak, Path and massifref7.Places come to. A pile of spots is a number's peaks: what one more spot makes of it; the spots of a prefix proof in order. cut.Span. massifref4.Span. proof.PrefixPlaces, massifref7.PrefixPlaces. A law on a list of operations serves a region that draws its order, too. Four rows of bytes of one's own, each apart from the others; what is no row of bytes stays as it was. (*cut.pile).put: one more spot on a number's peaks. cut.Over, cut.Merge of spots that stand one behind the other from 0 on. massifref7.PrefixPlaces. slices.Delete of one number of a row of the call's own. -/
import Derived.Test.YtefnonlhepekdaaDoorPS0
import Derived.Test.YtefnonlhepekdaaDoorTie
import Derived.Test.YtefnonlhepekdaaDoorCards
import Derived.LaidMore
import Derived.Stop.Joined
import Derived.SevenTiedAt
import Derived.Deep.RegionLawGrows
import Derived.Deep.RegionLaw
import Derived.WalkMore
import Derived.IntWalk
import Derived.Shelf.RegionOpenPlain
import Derived.Lib.SliceRun
set_option linter.unusedVariables false
set_option linter.unusedSimpArgs false
set_option linter.unusedVariables false
set_option linter.unusedSimpArgs false
namespace Go.Proofs.YtefnonlhepekdaaDoor.M
open Go.RowKit Go.Proofs.YtefnonlhepekdaaDoorW.PrintWords Go.Proofs.YtefnonlhepekdaaDoorW.PrintLast Go.Proofs.YtefnonlhepekdaaDoorW.PrintMore Go.Proofs.YtefnonlhepekdaaDoor.Leaf

/-- Go's table for the lowest set bit. -/
def dbTab : List Nat := [0, 1, 56, 2, 57, 49, 28, 3, 61, 58, 42, 50, 38, 29, 17, 4, 62, 47, 59, 36, 45, 43, 51, 22, 53, 39, 33, 30, 24, 18, 12, 5, 63, 55, 48, 27, 60, 41, 37, 16, 46, 35, 44, 21, 52, 32, 23, 11, 54, 26, 40, 15, 34, 20, 31, 10, 25, 14, 19, 9, 13, 8, 7, 6]
theorem db_hit : ∀ k : Fin 64, dbTab[(2 ^ k.val * 285870213051353865 % 18446744073709551616) / 288230376151711744]? = some k.val := by decide +kernel
/-- The table lies where the program lays it. -/
def DB (w : World) : Prop := ∀ (j : Nat) (k : Nat), dbTab[j]? = some k → w.cell? ⟨1, j, none⟩ = some (.int .u8 (k : Int))
theorem DB.below {w w' : World} (h : DB w) (hb : Below w.heap.size w w') : DB w' := fun j k hk => pw_cell_below hb (h j k hk)

set_option maxHeartbeats 1000000 in
set_option maxRecDepth 100000 in
theorem tz_calls (x : Nat) (hx : x < 18446744073709551616) (w : World) (hT : DB w) :
    Calls Tryd.prog 116 #[.int .u64 x] w fun e w' => e = .returned (.int .i64 (loN x : Nat)) ∧ w' = w := by
  by_cases h0 : x = 0
  · subst h0
    clear hT
    go_enter Tryd.func116, Tryd.ntmps116
    go_wp2_with fail
    go_ret
    exact ⟨rfl, rfl⟩
  · have hd : ((x : Int) == 0) = false := by rw [beq_eq_false_iff_ne]; omega
    obtain ⟨hk, _⟩ := lo_split h0 (by omega)
    have h1 : IntKind.u64.wrap (-(x : Int)) = ((18446744073709551616 - x : Nat) : Int) := by rw [IntKind.wrap_u64]; omega
    have h2 : Go.bits .and .u64 (x : Int) ((18446744073709551616 - x : Nat) : Int) = ((2 ^ loN x : Nat) : Int) := by
      rw [and64 x _ hx (by omega)]
      exact congrArg _ (and_neg h0 (by omega))
    have hp : 2 ^ loN x ≤ 9223372036854775808 := p2_le (by omega)
    have h3 : IntKind.u64.wrap (((2 ^ loN x : Nat) : Int) * 285870213051353865) = ((2 ^ loN x * 285870213051353865 % 18446744073709551616 : Nat) : Int) := by rw [IntKind.wrap_u64]; omega
    have hc := hT _ _ (db_hit ⟨loN x, hk⟩)
    have hj : (2 ^ loN x * 285870213051353865 % 18446744073709551616) / 288230376151711744 < 64 := by omega
    simp only at hc
    have h5 : wrap64 (loN x : Int) = loN x := i64_of _ (by omega) (by omega)
    clear hT hp
    generalize 2 ^ loN x * 285870213051353865 % 18446744073709551616 = q at *
    generalize 2 ^ loN x = p at *
    generalize loN x = k at *
    generalize 18446744073709551616 - x = y at *
    go_enter Tryd.func116, Tryd.ntmps116
    go_wp2_with fail
    go_ret
    exact ⟨rfl, rfl⟩
theorem low_calls (x : Nat) (hx : x < 18446744073709551616) (w : World) (hT : DB w) :
    Calls Tryd.prog 86 #[.int .u64 x] w fun e w' => e = .returned (.int .i64 (loN x : Nat)) ∧ w' = w := by
  have HT := Aside0.mk hT
  clear hT
  go_enter Tryd.func86, Tryd.ntmps86
  go_wp2_with fail
  refine (tz_calls x hx w HT.out).mono ?_
  rintro e w1 ⟨rfl, rfl⟩
  go_wp2_with fail
  go_ret
  exact ⟨rfl, rfl⟩
theorem high_calls (x : Nat) (h0 : x ≠ 0) (hx : x ≤ 4611686018427387904) (w : World) :
    Calls Tryd.prog 87 #[.int .u64 x] w fun e w' => e = .returned (.int .i64 ((Lib.bitLen x - 1 : Nat) : Int)) ∧ Drawn0 w w' := by
  have hl := len_facts h0 hx
  refine num_High.calls 1 x _ w ?_
  unfold num_High.f bits_Len64.f
  rw [if_pos (by omega)]
  simp only [Option.bind_some, Int.toNat_natCast]
  rw [i64_of _ (by omega) (by omega)]
  exact congrArg some (by omega)

/-- Spots as elements of a slice. -/
def spCells (s : Nat × Nat) : List Value := [.int .u8 (s.1 : Int), .int .u64 (s.2 : Int)]
def kS : Kd (Nat × Nat) := flat spCells 2 (fun _ => rfl) (fun s u hu => by
  simp only [spCells, List.mem_cons, List.not_mem_nil, or_false] at hu
  rcases hu with rfl | rfl <;> rfl)
theorem flat_kS : Flat kS := fun _ _ _ _ _ _ _ _ h => h
theorem infoS : (Tryd.prog.info? 74).map (fun i => (i.zero, i.size, i.bytes)) = some (some (.agg #[.int .u8 0, .int .u64 0]), 2, 16) := by kernel_rfl
end Go.Proofs.YtefnonlhepekdaaDoor.M

set_option linter.unusedVariables false
set_option linter.unusedSimpArgs false
namespace Go.Proofs.YtefnonlhepekdaaDoor.M
open Go.ChangeShapes Go.WideShapes Go.ChangeAt Go.RowKit

theorem ownKn : ownKnob Tryd.prog.godebug = none := by kernel_rfl
def laidDB : List (String × DataW Unit) := [("math/bits.deBruijn64tab", Rows.laid_math_bits_deBruijn64tab)]
theorem gDB : Tryd.prog.globalNamed "math/bits.deBruijn64tab" = some 1 := by kernel_rfl
theorem tDB : (Tryd.prog.globals[1]?).map (·.type) = some 154 := by kernel_rfl
theorem datDB : (Rows.laid_math_bits_deBruijn64tab : DataW Unit) = .agg (dbTab.map fun (k : Nat) => .lit (.int .u8 (k : Int))) := rfl
theorem db_of_laid {W : World} (h : laidMetH Tryd.prog laidDB W) : DB W := by
  rw [MakeChecks.laidMetH_plain _ _ _ (by kernel_rfl)] at h
  obtain ⟨ps, ⟨g0, t0, cs0, f0, p0, q0, hg0, ht0, hv0, hd0, _, _⟩, _, _⟩ := h
  obtain rfl := Option.some.inj (gDB.symm.trans hg0)
  obtain rfl := Option.some.inj (tDB.symm.trans ht0)
  obtain ⟨xs, m1, rfl, hx1, hlen, hn3, hel⟩ := DataW.trod_array Tryd.underlying154 hd0
  rw [datDB] at hx1
  simp only [Prod.mk.injEq, DataW.agg.injEq] at hx1
  have c5 : Tryd.prog.cellsOf 5 = 1 := by kernel_rfl
  rw [c5] at hel
  intro j k hj
  have hj64 : j < 64 := (List.getElem?_eq_some_iff.1 hj).1
  obtain ⟨x, hx⟩ : ∃ x, xs[j]? = some x := ⟨xs[j], List.getElem?_eq_getElem (by omega)⟩
  have hxk : x.1 = .lit (.int .u8 (k : Int)) := by
    have h1 := congrArg (fun l => l[j]?) hx1.1
    simp only [List.getElem?_map, hx, hj, Option.map_some] at h1
    exact (Option.some.inj h1).symm
  have h2 := hel j hj64
  rw [hx, Nat.mul_one] at h2
  obtain ⟨n, e1, e2, _⟩ := DataW.trod_int Tryd.underlying5 h2
  rw [e2] at hxk
  obtain rfl : n = (k : Int) := by simpa using hxk
  have hc := World.var?_cell hg0 hv0 j
  rw [hc]
  have h3 : (cs0.toList.drop j)[0]? = some (.int .u8 (k : Int)) := by
    have h4 : ((cs0.toList.drop j).take 1)[0]? = some (.int .u8 (k : Int)) := by rw [e1]; rfl
    rwa [List.getElem?_take_of_lt (by omega)] at h4
  rw [List.getElem?_drop, Nat.add_zero] at h3
  simpa using h3
theorem door_met (os : Os) (args : Array Value) : laidMetH Tryd.prog laidDB ((World.doorLaid Tryd.prog 24 os).forCall (fun _ _ => 0) ⟨#[], args, []⟩).memory :=
  laidMetH_of_parts3 (fuel := 8) (laidMet_of_run' 8 (by kernel_rfl) (by kernel_rfl)) (by kernel_rfl) (by kernel_rfl)
end Go.Proofs.YtefnonlhepekdaaDoor.M

set_option linter.unusedVariables false
set_option linter.unusedSimpArgs false
namespace Go.Proofs.YtefnonlhepekdaaDoor.M
open Go.RowKit Go.Proofs.YtefnonlhepekdaaDoorW.PrintWords Go.Proofs.YtefnonlhepekdaaDoorW.PrintLast Go.Proofs.YtefnonlhepekdaaDoorW.PrintMore Go.Proofs.YtefnonlhepekdaaDoor.Leaf

theorem rd_spotsP (l : List (Nat × Nat)) (j : Nat) (hj : j < l.length) : rd_T74 (spotsOf l) (j : Int) = ⟨((l[j]).1 : Int), ((l[j]).2 : Int)⟩ := by
  simp [rd_T74, spotsOf, List.getD_eq_getElem?_getD, List.getElem?_eq_getElem hj]
theorem spots_lenP (l : List (Nat × Nat)) : (spotsOf l).length = l.length := by simp [spotsOf]
theorem up_one (j : Nat) (hj : j < 4611686018427387904) : wrap64 ((j : Int) + 1) = ((j + 1 : Nat) : Int) := by rw [i64_of _ (by omega) (by omega)]; omega
/-! The node (h, i): the nodes ahead of it; those below it. -/
/-! Peak, Path. -/
/-! massifref7.Places. -/
/-- What proof.Places answers. -/
def proofAns (i n : Nat) : List Int × Int := if 4611686018427387904 < n then ([], 30) else if n ≤ i then ([], 32) else (placesOf (proofN i n), 0)
theorem proof_length {i n : Nat} (h : i < n) (hn : n ≤ 4611686018427387904) : (proofN i n).length ≤ 124 := by
  have h1 := (proof_len h hn).2.2
  have h2 := hi_le h hn
  have h3 : (topsN n).length ≤ 63 := topsF_len 63 n
  omega
theorem proofAns_len (i n : Nat) : (proofAns i n).1.length ≤ 124 := by
  unfold proofAns
  split
  · simp
  · split
    · simp
    · have := proof_length (i := i) (n := n) (by omega) (by omega)
      simpa [placesOf] using this
end Go.Proofs.YtefnonlhepekdaaDoor.M

set_option linter.unusedVariables false
set_option linter.unusedSimpArgs false
namespace Go.Proofs.YtefnonlhepekdaaDoor.M
open Go.RowKit Go.Proofs.YtefnonlhepekdaaDoorW.PrintWords Go.Proofs.YtefnonlhepekdaaDoorW.PrintLast Go.Proofs.YtefnonlhepekdaaDoorW.PrintMore Go.Proofs.YtefnonlhepekdaaDoor.Leaf

theorem tf_set {n g : Nat} (h : n.testBit g = true) : topsF (g + 1) n = (g, n / 2 ^ g - 1) :: topsF g n := by
  show (if n.testBit g then [(g, n / 2 ^ g - 1)] else []) ++ topsF g n = _
  rw [if_pos h]
  rfl
theorem tf_clear {n g : Nat} (h : n.testBit g = false) : topsF (g + 1) n = topsF g n := by
  show (if n.testBit g then [(g, n / 2 ^ g - 1)] else []) ++ topsF g n = _
  rw [if_neg (by rw [h]; simp)]
  rfl
theorem tops_none : ∀ (G : Nat) {a g : Nat}, G ≤ g → 2 ^ g ∣ a → topsF G a = []
  | 0, _, _, _, _ => rfl
  | G + 1, a, g, hG, hd => by
    have hb : a.testBit G = false := by
      obtain ⟨q, rfl⟩ := hd
      rw [Nat.testBit_two_pow_mul]
      simp
      omega
    rw [tf_clear hb]
    exact tops_none G (by omega) hd
theorem bit_odd {a g m : Nat} (h : a = 2 ^ g * (2 * m + 1)) : a.testBit g = true := by
  rw [bit_mod, h, Nat.mul_div_cancel_left _ (p2_pos g)]
  omega
theorem bit_even {a g m : Nat} (h : a = 2 ^ g * (2 * m)) : a.testBit g = false := by
  rw [Nat.testBit_eq_decide_div_mod_eq, h, Nat.mul_div_cancel_left _ (p2_pos g)]
  simp
theorem div_steps (x g d : Nat) : x / 2 ^ (g + 1 + d) = x / 2 ^ g / 2 / 2 ^ d := by
  rw [Nat.pow_add, Nat.pow_succ, ← Nat.div_div_eq_div_mul, ← Nat.div_div_eq_div_mul]
theorem div_above {g m j : Nat} (hj : g < j) : 2 ^ g * (2 * m + 1) / 2 ^ j = 2 ^ g * (2 * m) / 2 ^ j := by
  obtain ⟨d, rfl⟩ : ∃ d, j = g + 1 + d := ⟨j - (g + 1), by omega⟩
  rw [div_steps, div_steps, Nat.mul_div_cancel_left _ (p2_pos g), Nat.mul_div_cancel_left _ (p2_pos g)]
  congr 1
  omega
theorem tops_low (g m : Nat) : ∀ (d : Nat), topsF (g + 1 + d) (2 ^ g * (2 * m + 1)) = topsF (g + 1 + d) (2 ^ g * (2 * m)) ++ [(g, 2 * m)]
  | 0 => by
    have h1 := bit_odd (a := 2 ^ g * (2 * m + 1)) (g := g) (m := m) rfl
    have h2 := bit_even (a := 2 ^ g * (2 * m)) (g := g) (m := m) rfl
    show topsF (g + 1) _ = topsF (g + 1) _ ++ _
    rw [tf_set h1, tf_clear h2, tops_none g (Nat.le_refl _) ⟨2 * m + 1, rfl⟩, tops_none g (Nat.le_refl _) ⟨2 * m, rfl⟩, Nat.mul_div_cancel_left _ (p2_pos g)]
    rfl
  | d + 1 => by
    have ih := tops_low g m d
    have hb : (2 ^ g * (2 * m + 1)).testBit (g + 1 + d) = (2 ^ g * (2 * m)).testBit (g + 1 + d) := by
      rw [Nat.testBit_eq_decide_div_mod_eq, Nat.testBit_eq_decide_div_mod_eq, div_above (by omega)]
    show topsF (g + 1 + d + 1) _ = topsF (g + 1 + d + 1) _ ++ _
    cases hc : (2 ^ g * (2 * m)).testBit (g + 1 + d) with
    | true =>
      rw [tf_set (hb.trans hc), tf_set hc, div_above (by omega), ih]
      rfl
    | false => rw [tf_clear (hb.trans hc), tf_clear hc, ih]
/-- The lowest peak, where the bit is set. -/
theorem tops_last {a g : Nat} (hd : 2 ^ g ∣ a) (hb : a / 2 ^ g % 2 = 1) (hg : g < 63) : topsN a = topsN (a - 2 ^ g) ++ [(g, a / 2 ^ g - 1)] := by
  obtain ⟨q, rfl⟩ := hd
  rw [Nat.mul_div_cancel_left _ (p2_pos g)] at hb ⊢
  obtain ⟨m, rfl⟩ : ∃ m, q = 2 * m + 1 := ⟨q / 2, by omega⟩
  have h := tops_low g m (62 - g)
  rw [show g + 1 + (62 - g) = 63 by omega] at h
  have e : 2 ^ g * (2 * m + 1) - 2 ^ g = 2 ^ g * (2 * m) := by rw [Nat.mul_add, Nat.mul_one, Nat.add_sub_cancel]
  rw [e]
  exact h
/-- One more spot, where the bit is not set. -/
theorem tops_push {a g : Nat} (hd : 2 ^ g ∣ a) (hb : a / 2 ^ g % 2 = 0) (hg : g < 63) : topsN (a + 2 ^ g) = topsN a ++ [(g, a / 2 ^ g)] := by
  have hp := p2_pos g
  have e1 : (a + 2 ^ g) / 2 ^ g = a / 2 ^ g + 1 := Nat.add_div_right a hp
  have h := tops_last (a := a + 2 ^ g) (g := g) (Nat.dvd_add hd (Nat.dvd_refl _)) (by rw [e1]; omega) hg
  rw [e1, Nat.add_sub_cancel, Nat.add_sub_cancel] at h
  exact h
theorem tops_above {a g : Nat} (hd : 2 ^ g ∣ a) (hb : a / 2 ^ g % 2 = 0) : ∀ s ∈ topsN a, s.1 ≠ g := by
  intro s hs he
  have := (tops_mem 63 a s hs).2.1
  rw [he, bit_mod] at this
  omega
/-- What carries over: a' leaves and a spot of height g behind them, or a leaf more of the next height. -/
theorem tops_carry {a g : Nat} (hd : 2 ^ g ∣ a) (hb : a / 2 ^ g % 2 = 1) : 2 ^ (g + 1) ∣ a - 2 ^ g ∧ (a - 2 ^ g) / 2 ^ (g + 1) = (a / 2 ^ g - 1) / 2 ∧ a - 2 ^ g + 2 ^ (g + 1) = a + 2 ^ g ∧ (a / 2 ^ g - 1) % 2 = 0 ∧ 2 ^ g ≤ a ∧ 1 ≤ a / 2 ^ g := by
  obtain ⟨q, rfl⟩ := hd
  have hp := p2_pos g
  rw [Nat.mul_div_cancel_left _ hp] at hb ⊢
  obtain ⟨m, rfl⟩ : ∃ m, q = 2 * m + 1 := ⟨q / 2, by omega⟩
  have e : 2 ^ g * (2 * m + 1) - 2 ^ g = 2 ^ (g + 1) * m := by rw [Nat.mul_add, Nat.mul_one, Nat.add_sub_cancel, Nat.pow_succ, Nat.mul_assoc]
  rw [e, Nat.mul_div_cancel_left _ (p2_pos _)]
  refine ⟨⟨m, rfl⟩, by omega, ?_, by omega, ?_, by omega⟩
  · rw [Nat.pow_succ, Nat.mul_add, Nat.mul_one, ← Nat.mul_assoc]
    omega
  · rw [Nat.mul_add, Nat.mul_one]
    exact Nat.le_add_left _ _
/-- Spots that stand one behind the other from a on, each at a multiple of its width. -/
def Chain : Nat → List (Nat × Nat) → Nat → Prop
  | a, [], b => a = b
  | a, s :: l, b => 2 ^ s.1 ∣ a ∧ s.2 = a / 2 ^ s.1 ∧ Chain (a + 2 ^ s.1) l b
theorem chain_app : ∀ (l l' : List (Nat × Nat)) (a b c : Nat), Chain a l b → Chain b l' c → Chain a (l ++ l') c
  | [], _, _, _, _, h, k => by
    have h : _ = _ := h
    subst h
    exact k
  | _ :: l, l', a, b, c, h, k => ⟨h.1, h.2.1, chain_app l l' _ b c h.2.2 k⟩
theorem chain_span (b : Nat) (hb : b ≤ 4611686018427387904) : ∀ (f a : Nat), b - a ≤ f → a ≤ b → Chain a (spanN a b) b
  | 0, a, h, hab => by
    rw [span_stop (by omega)]
    show a = b
    omega
  | f + 1, a, h, hab => by
    by_cases hlt : a < b
    · obtain ⟨h1, h2, h3⟩ := h_facts hlt hb
      have hp := p2_pos (hN a b)
      rw [span_step hlt hb]
      exact ⟨h3, rfl, chain_span b hb f (a + 2 ^ hN a b) (by omega) (by omega)⟩
    · rw [span_stop (by omega)]
      show a = b
      omega
theorem chain_tops (n : Nat) : ∀ (g : Nat), Chain (n - n % 2 ^ g) (topsF g n) n
  | 0 => by
    show n - n % 1 = n
    omega
  | g + 1 => by
    have ih := chain_tops n g
    have hp := p2_pos g
    have h2 : 2 ^ (g + 1) = 2 ^ g * 2 := by rw [Nat.pow_succ]
    have hmod : n % 2 ^ (g + 1) = n % 2 ^ g + 2 ^ g * (n / 2 ^ g % 2) := by rw [h2, Nat.mod_mul]
    have hle : n % 2 ^ (g + 1) ≤ n := Nat.mod_le _ _
    by_cases hb : n.testBit g = true
    · rw [tf_set hb]
      have hb1 := (bit_mod n g).1 hb
      rw [hb1, Nat.mul_one] at hmod
      have e1 : n - n % 2 ^ (g + 1) = 2 ^ g * (n / 2 ^ g - 1) := by
        have := Nat.div_add_mod n (2 ^ g)
        rw [Nat.mul_sub, Nat.mul_one]
        omega
      refine ⟨⟨n / 2 ^ g - 1, e1⟩, ?_, ?_⟩
      · show n / 2 ^ g - 1 = _
        rw [e1, Nat.mul_div_cancel_left _ hp]
      · show Chain (n - n % 2 ^ (g + 1) + 2 ^ g) _ _
        rw [show n - n % 2 ^ (g + 1) + 2 ^ g = n - n % 2 ^ g by omega]
        exact ih
    · rw [tf_clear (by simpa using hb)]
      have hb0 : n / 2 ^ g % 2 = 0 := by
        have := (bit_mod n g).2
        have h3 : ¬ (n / 2 ^ g % 2 = 1) := fun h => hb (this h)
        omega
      rw [hb0, Nat.mul_zero, Nat.add_zero] at hmod
      rw [hmod]
      exact ih
theorem chain_pref (m n : Nat) (hmn : m ≤ n) (hn : n ≤ 4611686018427387904) : Chain 0 (prefN m n) n := by
  have h1 := chain_tops m 63
  rw [show m - m % 2 ^ 63 = 0 by rw [Nat.mod_eq_of_lt (by omega)]; omega] at h1
  exact chain_app _ _ 0 m n h1 (chain_span n hn (n - m) m (Nat.le_refl _) hmn)
/-- The span from nothing is the peaks. -/
theorem span_tops (n : Nat) (hn : n ≤ 4611686018427387904) : spanN 0 n = topsN n := by
  have key : ∀ (g a b : Nat), b ≤ 4611686018427387904 → 2 ^ g ∣ a → a ≤ b → b - a < 2 ^ g → g ≤ 63 → spanN a b = topsF g b := by
    intro g
    induction g with
    | zero =>
      intro a b hb hd hab hlt _
      rw [span_stop (by omega)]
      rfl
    | succ g ih =>
      intro a b hb hd hab hlt hg
      obtain ⟨q, rfl⟩ := hd
      have hp := p2_pos g
      have e2 : 2 ^ (g + 1) = 2 * 2 ^ g := by rw [Nat.pow_succ]; omega
      have eq : 2 ^ (g + 1) * q = 2 ^ g * (2 * q) := by rw [Nat.pow_succ, Nat.mul_assoc]
      rw [eq] at hab hlt ⊢
      by_cases hc : b - 2 ^ g * (2 * q) < 2 ^ g
      · have hq : b / 2 ^ g = 2 * q := by
          rw [Nat.div_eq_iff hp]
          have := Nat.mul_comm (2 ^ g) (2 * q)
          constructor <;> omega
        have hb0 : ¬ b.testBit g = true := by rw [bit_mod, hq]; omega
        rw [tf_clear (by simpa using hb0)]
        exact ih _ b hb ⟨2 * q, rfl⟩ hab hc (by omega)
      · have hq : b / 2 ^ g = 2 * q + 1 := by
          rw [Nat.div_eq_iff hp]
          have h3 : (2 * q + 1) * 2 ^ g = 2 ^ g * (2 * q) + 2 ^ g := by rw [Nat.add_mul, Nat.one_mul, Nat.mul_comm]
          constructor <;> omega
        have hb1 : b.testBit g = true := by rw [bit_mod, hq]; omega
        have hlt2 : 2 ^ g * (2 * q) < b := by omega
        have hlen := len_facts (x := b - 2 ^ g * (2 * q)) (by omega) (by omega)
        have hbl : Lib.bitLen (b - 2 ^ g * (2 * q)) = g + 1 := by
          have h1 : g < Lib.bitLen (b - 2 ^ g * (2 * q)) := by
            rcases Nat.lt_or_ge g (Lib.bitLen (b - 2 ^ g * (2 * q))) with h | h
            · exact h
            · have := Nat.pow_le_pow_right (show 0 < 2 by omega) h
              omega
          have h2 : Lib.bitLen (b - 2 ^ g * (2 * q)) - 1 < g + 1 := by
            rcases Nat.lt_or_ge (Lib.bitLen (b - 2 ^ g * (2 * q)) - 1) (g + 1) with h | h
            · exact h
            · have := Nat.pow_le_pow_right (show 0 < 2 by omega) h
              omega
          omega
        have hlo : g ≤ loN (2 ^ g * (2 * q)) := by
          by_cases hz : 2 ^ g * (2 * q) = 0
          · rw [hz]
            have : loN 0 = 64 := rfl
            omega
          · rcases Nat.lt_or_ge (loN (2 ^ g * (2 * q))) g with h | h
            · exact absurd ⟨2 * q, rfl⟩ (lo_not hz (by omega) h)
            · exact h
        have hh : hN (2 ^ g * (2 * q)) b = g := by
          unfold hN
          rw [hbl]
          omega
        rw [tf_set hb1, span_step hlt2 hb, hh, Nat.mul_div_cancel_left _ hp, hq, Nat.add_sub_cancel]
        have ih2 := ih (2 ^ g * (2 * q) + 2 ^ g) b hb ⟨2 * q + 1, by rw [Nat.mul_add, Nat.mul_one]⟩ (by omega) (by omega) (by omega)
        rw [ih2]
  exact key 63 0 n hn ⟨0, rfl⟩ (by omega) (by omega) (by omega)
end Go.Proofs.YtefnonlhepekdaaDoor.M

set_option linter.unusedVariables false
set_option linter.unusedSimpArgs false
namespace Go.Proofs.YtefnonlhepekdaaDoor.M
open Go.RowKit Go.Proofs.YtefnonlhepekdaaDoorW.PrintWords Go.Proofs.YtefnonlhepekdaaDoorW.PrintLast Go.Proofs.YtefnonlhepekdaaDoorW.PrintMore Go.Proofs.YtefnonlhepekdaaDoor.Leaf

set_option maxHeartbeats 1000000 in
set_option maxRecDepth 100000 in
theorem span_calls (a b : Nat) (w : World) (ha : a < 18446744073709551616) (hb : b ≤ 4611686018427387904) (hT : DB w) :
    Calls Tryd.prog 43 #[.int .u64 a, .int .u64 b] w fun e w' => ∃ v, e = .returned v ∧ kS.R 74 w' w.heap.size (fun _ => True) v (spanN a b) ∧ Below w.heap.size w w' := by
  have HT := Aside0.mk hT
  have hlen := span_len a b hb
  have HL := Aside0.mk hlen
  clear hT hlen
  have hd : ¬ ((b : Int) > 4611686018427387904) := by omega
  go_enter Tryd.func43, Tryd.ntmps43
  go_wp2_with fail
  go_loopw [0, 5] (fun q s wr => ∃ (c : Nat) (P : List (Nat × Nat)), c < 18446744073709551616 ∧ q = .int .u64 c ∧ Aside0 (P ++ spanN c b = spanN a b) ∧ Aside0 (kS.R 74 wr w.heap.size (fun _ => True) s P) ∧ Aside0 (Below w.heap.size w wr)) (fun q _ _ => b - (intOf q).toNat)
  case atStart => exact ⟨a, [], ha, rfl, ⟨rfl⟩, ⟨Kd.R_nil _ _ _ _ _⟩, ⟨Below.refl _ _⟩⟩
  case round =>
    obtain ⟨c, P, hc, rfl, HP, HS, HB⟩ := hrel
    by_cases hlt : c < b
    · obtain ⟨k1, k2, k3⟩ := h_facts hlt hb
      have hstep := span_step hlt hb
      have hPl : P.length ≤ 127 := by have := HL.out; rw [← HP.out, List.length_append] at this; omega
      have hsub : IntKind.u64.wrap ((b : Int) - (c : Int)) = ((b - c : Nat) : Int) := by rw [IntKind.wrap_u64]; omega
      have hp := p2_pos (hN c b)
      have hmin : min (loN c : Int) ((Lib.bitLen (b - c) - 1 : Nat) : Int) = (hN c b : Int) := by unfold hN; omega
      have hu8 : IntKind.u8.wrap (hN c b : Int) = (hN c b : Int) := by rw [IntKind.wrap_u8]; omega
      have hshr := shr_nat c (hN c b) (by omega)
      have hshl : shl .u64 1 (hN c b : Int) = ((2 ^ hN c b : Nat) : Int) := by have := shl_nat 1 (hN c b) (by omega) (by omega); rwa [Nat.one_mul] at this
      have hadd : IntKind.u64.wrap ((c : Int) + ((2 ^ hN c b : Nat) : Int)) = ((c + 2 ^ hN c b : Nat) : Int) := by rw [IntKind.wrap_u64]; omega
      have hne : b - c ≠ 0 := by omega
      have hble : b - c ≤ 4611686018427387904 := by omega
      obtain ⟨dd, hdd⟩ : ∃ d, d = b - c := ⟨_, rfl⟩
      rw [← hdd] at hsub hne hble hmin
      have HHI := Aside0.mk (high_calls dd hne hble)
      have HLO := Aside0.mk (low_calls c hc)
      have HST := Aside0.mk hstep
      have HK := Aside0.mk (show c + 2 ^ hN c b ≤ b by omega)
      have hs5 := HB.out.size
      have HHC := Aside0.mk (show ((hN c b : Nat) : Int) = (hN c b : Int) from rfl)
      clear hstep hne hble hdd k2 k3
      generalize Lib.bitLen dd - 1 = uu at *
      generalize hN c b = hh at *
      generalize loN c = lo at *
      obtain ⟨qq, hqq⟩ : ∃ q, q = c / 2 ^ hh := ⟨_, rfl⟩
      obtain ⟨pp, hpp⟩ : ∃ p, p = 2 ^ hh := ⟨_, rfl⟩
      obtain ⟨c2, hc2⟩ : ∃ z, z = c + pp := ⟨_, rfl⟩
      have hq2 : (c : Int) / 2 ^ hh = (qq : Int) := by rw [hqq]; push_cast; rfl
      have hp2 : IntKind.u64.wrap ((2 : Int) ^ hh) = (pp : Int) := by
        have h2 : ((2 : Int) ^ hh) = (pp : Int) := by rw [hpp]; push_cast; rfl
        have hk := HK.out
        rw [← hpp] at hk
        rw [h2, IntKind.wrap_u64]
        omega
      rw [← hqq] at hshr HST
      rw [← hpp] at hshl hadd HK hp HST
      rw [← hc2] at hadd HK HST
      have HC2 := Aside0.mk hc2
      clear hqq hpp hc2
      obtain ⟨As, ms, cs, e9⟩ : ∃ A m c, u5 = .slice A m c := by obtain ⟨A, c, h⟩ := Kd.R_slice HS.out; exact ⟨A, _, c, h⟩
      subst e9
      go_wp2_with fail
      refine (HLO.out _ (HT.out.below HB.out)).mono ?_
      rintro e w1 ⟨rfl, rfl⟩
      go_wp2_with fail
      refine (HHI.out _).mono ?_
      rintro e w2 ⟨rfl, hd2⟩
      have hs7 := hd2.below.size
      have HR2 := Aside0.mk (Kd.R_below HS.out hd2.below)
      have HB2 := Aside0.mk (blt HB.out hd2.below)
      have hbase : w.heap.size ≤ w2.heap.size := by omega
      clear hd2 HS HB hs5 hs7
      go_wp2_with ((with_reducible refine gate_builtin (b := .append) (xs := #[.tmp 19, .tmp 26]) rfl ?_); at_builtin; go_loud (refine app_oneN kS w.heap.size rfl (.tmp 19) (.tmp 26) 70 74 (.agg #[.int .u8 0, .int .u64 0]) 16 rfl Tryd.underlying70 infoS rfl (by decide) (by decide) (.slice As ms cs) P (hh, qq) (spCells (hh, qq)) rfl rfl rfl HR2.out hbase (by omega) ?_; intro A9 n9 c9 w9 hr9 hf9 ha9; have HR9 := Aside0.mk hr9; have HF9 := Aside0.mk hf9; have HA9 := Aside0.mk ha9; clear hr9 hf9 ha9))
      go_roundw
      case rel => exact ⟨c2, P ++ [(hh, qq)], by have := HK.out; omega, by go_num, ⟨by rw [List.append_assoc, List.singleton_append, ← HST.out]; exact HP.out⟩, HR9, ⟨HB2.out.trans (HF9.out.below hbase (fun k hk => Kd.R_base HR2.out k hk.symm))⟩⟩
      case measure => have := HC2.out; have := HK.out; simp [intOf]; omega
    · have hcb : b ≤ c := by omega
      have hPf := HP.out
      rw [span_stop hcb, List.append_nil] at hPf
      have HPf := Aside0.mk hPf
      clear hPf hcb
      obtain ⟨As, ms, cs, e9⟩ : ∃ A m c, u5 = .slice A m c := by obtain ⟨A, c, h⟩ := Kd.R_slice HS.out; exact ⟨A, _, c, h⟩
      subst e9
      go_wp2_with fail
      go_ret
      exact ⟨_, rfl, HPf.out ▸ HS.out, HB.out⟩
end Go.Proofs.YtefnonlhepekdaaDoor.M

set_option linter.unusedVariables false
set_option linter.unusedSimpArgs false
namespace Go.Proofs.YtefnonlhepekdaaDoor.M
open Go.RowKit Go.Proofs.YtefnonlhepekdaaDoorW.PrintWords Go.Proofs.YtefnonlhepekdaaDoorW.PrintLast Go.Proofs.YtefnonlhepekdaaDoorW.PrintMore Go.Proofs.YtefnonlhepekdaaDoor.Leaf

end Go.Proofs.YtefnonlhepekdaaDoor.M

set_option linter.unusedVariables false
set_option linter.unusedSimpArgs false
namespace Go.Proofs.YtefnonlhepekdaaDoor.M
open Go.RowKit Go.Proofs.YtefnonlhepekdaaDoorW.PrintWords Go.Proofs.YtefnonlhepekdaaDoorW.PrintLast Go.Proofs.YtefnonlhepekdaaDoorW.PrintMore Go.Proofs.YtefnonlhepekdaaDoor.Leaf

theorem at_spot {w : World} {A : Option Addr} {n : Nat} {xs : List (Nat × Nat)} (h : kS.C w A n xs) (j : Nat) (hj : j < n) : ∃ ad : Addr, A = some ad ∧ w.cell? (ad.add (j * 2)) = some (.int .u8 ((xs.getD j (0, 0)).1 : Int)) ∧ w.cell? ⟨(ad.add (j * 2)).block, (ad.add (j * 2)).off + 1, none⟩ = some (.int .u64 ((xs.getD j (0, 0)).2 : Int)) := by
  obtain ⟨ad, c, e, _, hK, hc0⟩ := Kd.C_get h (0, 0) (j : Int) (by omega) (by omega)
  have hc : ∀ k u, c[k]? = some u → w.cell? (ad.add (j * 2 + k)) = some u := hc0
  have hK : c = spCells (xs.getD j (0, 0)) := hK
  subst hK
  exact ⟨ad, e, hc 0 _ rfl, by rw [← add_field _ _ 1 (by omega)]; exact hc 1 _ rfl⟩
theorem place_calls (h i : Nat) (w : World) (hi : (i + 1) * 2 ^ h ≤ 4611686018427387904) :
    Calls Tryd.prog 67 #[.agg #[.int .u8 h, .int .u64 i]] w fun e w' => e = .returned (.tuple #[.int .u64 ((placeN h i : Nat) : Int), .bool true]) ∧ Below w.heap.size w w' :=
  pos_Place.calls _ _ _ _ w (place_val h i hi)
theorem peaks_calls (n : Nat) (w : World) (hn : n ≤ 4611686018427387904) :
    Calls Tryd.prog 66 #[.int .u64 n] w fun e w' => ∃ v, e = .returned v ∧ Kd.R (Kd.int .u64) 30 w' w.heap.size (fun _ => True) v (placesOf (topsN n)) ∧ Below w.heap.size w w' := by
  obtain ⟨k, hk⟩ := (peaks_val n hn).rounds
  exact pos_Peaks.calls k n _ w hk
theorem pref_none (m n : Nat) (w : World) (h : 4611686018427387904 < n ∨ n < m) :
    Calls Tryd.prog 19 #[.int .u64 m, .int .u64 n] w fun e w' => e = .returned (.tuple #[.slice none 0 0, .int .i64 30]) ∧ Below w.heap.size w w' := by
  by_cases hn : 4611686018427387904 < n
  · have hd : ((n : Int) > 4611686018427387904) := by omega
    clear h
    go_enter Tryd.func19, Tryd.ntmps19
    go_wp2
    go_ret2
    exact ⟨rfl, Below.refl _ _⟩
  · have hd : ¬ ((n : Int) > 4611686018427387904) := by omega
    have hm : (m : Int) > (n : Int) := by omega
    clear h
    go_enter Tryd.func19, Tryd.ntmps19
    go_wp2
    go_ret2
    exact ⟨rfl, Below.refl _ _⟩
set_option maxHeartbeats 1000000 in
set_option maxRecDepth 100000 in
theorem pref_some (m n : Nat) (w : World) (hmn : m ≤ n) (hn : n ≤ 4611686018427387904) (hT : DB w) :
    Calls Tryd.prog 19 #[.int .u64 m, .int .u64 n] w fun e w' => ∃ v, e = .returned (.tuple #[v, .int .i64 0]) ∧ Kd.R (Kd.int .u64) 30 w' w.heap.size (fun _ => True) v (placesOf (prefN m n)) ∧ Below w.heap.size w w' := by
  have hd : ¬ ((n : Int) > 4611686018427387904) := by omega
  have hd2 : ¬ ((m : Int) > (n : Int)) := by omega
  have HT := Aside0.mk hT
  have HPK := Aside0.mk (fun W => peaks_calls m W (Nat.le_trans hmn hn))
  have HSP := Aside0.mk (fun W => span_calls m n W (by omega) hn)
  have hL1 : (placesOf (topsN m)).length ≤ 63 := by simp only [placesOf, List.length_map]; exact topsF_len 63 m
  have HL := Aside0.mk hL1
  have HS1 := Aside0.mk (span_len m n hn)
  have HF := Aside0.mk (fun s hs => Nat.le_trans (span_fit n hn (n - m) m (Nat.le_refl _) s hs).1 hn)
  have HN := Aside0.mk (show placesOf (prefN m n) = placesOf (topsN m) ++ placesOf (spanN m n) by unfold prefN placesOf; rw [List.map_append])
  clear hT hmn hn hL1
  generalize spanN m n = L at *
  generalize placesOf (topsN m) = P0 at *
  go_enter Tryd.func19, Tryd.ntmps19
  go_wp2_with fail
  refine (HPK.out _).mono ?_
  rintro e w1 ⟨v1, rfl, hr1, hb1⟩
  have HR1 := Aside0.mk hr1
  have HB1 := Aside0.mk hb1
  clear hr1 hb1
  obtain ⟨A1, n1, c1, e9⟩ : ∃ A m c, v1 = .slice A m c := by obtain ⟨A, c, h⟩ := Kd.R_slice HR1.out; exact ⟨A, _, c, h⟩
  subst e9
  go_wp2_with fail
  refine (HSP.out _ (HT.out.below HB1.out)).mono ?_
  rintro e w2 ⟨v2, rfl, hr2, hb2⟩
  obtain ⟨A2, c2, e2⟩ := Kd.R_slice hr2
  subst e2
  have hbA := HB1.out.size
  have HC2 := Aside0.mk (Kd.R_lower hr2 hbA)
  have HR2 := Aside0.mk (Kd.R_below HR1.out hb2)
  have HB2 := Aside0.mk (blt HB1.out hb2)
  clear hr2 hb2 HR1 HSP HPK HT HB1 hbA
  go_wp2_with fail
  go_loopw [6, 24] (fun s q wr => ∃ j : Nat, j ≤ L.length ∧ q = .int .i64 j ∧ Aside0 (Kd.R (Kd.int .u64) 30 wr w.heap.size (fun _ => True) s (P0 ++ placesOf (L.take j))) ∧ Aside0 (kS.R 74 wr w.heap.size (fun _ => True) (.slice A2 L.length c2) L) ∧ Aside0 (Below w.heap.size w wr)) (fun _ q _ => L.length - (intOf q).toNat)
  case atStart => exact ⟨0, Nat.zero_le _, rfl, ⟨by rw [List.take_zero, show placesOf [] = [] from rfl, List.append_nil]; exact HR2.out⟩, HC2, HB2⟩
  case round =>
    obtain ⟨j, hj, rfl, HS, HC, HB⟩ := hrel
    have hL127 := HS1.out
    clear HC2 HB2 HR2
    obtain ⟨As, ms, cs, e9⟩ : ∃ A m c, u6 = .slice A m c := by obtain ⟨A, c, h⟩ := Kd.R_slice HS.out; exact ⟨A, _, c, h⟩
    subst e9
    by_cases hlt : j < L.length
    · obtain ⟨ad, ea, hx, hy⟩ := at_spot (R_C HC.out) j hlt
      subst ea
      have hfit := HF.out (L[j]) (List.getElem_mem hlt)
      have hcat : placesOf (L.take (j + 1)) = placesOf (L.take j) ++ [((placeN (L[j]).1 (L[j]).2 : Nat) : Int)] := by
        unfold placesOf
        rw [List.take_add_one, List.getElem?_eq_getElem hlt, List.map_append]
        rfl
      rw [List.getD_eq_getElem?_getD, List.getElem?_eq_getElem hlt] at hx hy
      simp only [Option.getD_some] at hx hy
      obtain ⟨sp, hsp⟩ : ∃ s, s = L[j] := ⟨_, rfl⟩
      rw [← hsp] at hfit hcat hx hy
      clear hsp
      obtain ⟨hh, ii⟩ := sp
      simp only at hfit hcat hx hy
      have HPL := Aside0.mk (fun W => place_calls hh ii W hfit)
      have HCat := Aside0.mk hcat
      have hlen : (placesOf (L.take j)).length ≤ 127 := by
        have := HS1.out
        simp only [placesOf, List.length_map, List.length_take]
        omega
      have hl0 := HL.out
      clear hfit hcat
      generalize placeN hh ii = pl at *
      obtain ⟨P1, hP1⟩ : ∃ P, P = P0 ++ placesOf (L.take j) := ⟨_, rfl⟩
      have hP1l : P1.length ≤ 190 := by rw [hP1, List.length_append]; omega
      rw [← hP1] at HS
      have HP1 := Aside0.mk hP1
      clear hP1 hlen hl0
      go_wp2_with fail
      refine (HPL.out _).mono ?_
      rintro e w4 ⟨rfl, hb4⟩
      have HB4 := Aside0.mk ((bl_new wr _).trans (hb4.mono (by simp)))
      have HR4 := Aside0.mk (Kd.R_below HS.out HB4.out)
      have HBW := Aside0.mk (blt HB.out HB4.out)
      have HC4 := Aside0.mk (Kd.R_below HC.out HB4.out)
      have HAP := Aside0.mk (show ∀ k, (Value.slice As ms cs).ownBlock = some k → (Value.slice (some ad) L.length c2).ownBlock = some k → False from fun k h1 h2 => own_types HR4.out HC4.out (by decide) h1 h2)
      have hbase : w.heap.size ≤ w4.heap.size := HBW.out.size
      clear hb4 HS HC
      go_wp2_with ((with_reducible refine gate_builtin (b := .append) (xs := #[.tmp 33, .tmp 35]) rfl ?_); at_builtin; go_loud (refine app_oneN (Kd.int .u64) w.heap.size rfl (.tmp 33) (.tmp 35) 31 30 (.int .u64 0) 8 rfl Tryd.underlying31 info30 rfl (by decide) (by omega) (.slice As ms cs) P1 (pl : Int) [.int .u64 (pl : Int)] rfl rfl rfl HR4.out hbase (by omega) ?_; intro A9 n9 c9 w9 hr9 hf9 ha9; have HR9 := Aside0.mk hr9; have HF9 := Aside0.mk hf9; have HA9 := Aside0.mk ha9; clear hr9 hf9 ha9))
      go_roundw
      case rel => exact ⟨j + 1, by omega, by go_num, ⟨by rw [HCat.out, ← List.append_assoc, ← HP1.out]; exact HR9.out⟩, ⟨R_frm flat_kS HC4.out HF9.out (fun k hk hs => HAP.out k hs.symm hk)⟩, ⟨HBW.out.trans (HF9.out.below hbase (fun k hk => Kd.R_base HR4.out k hk.symm))⟩⟩
      case measure => simp [intOf]; omega
    · have hjl : j = L.length := by omega
      subst hjl
      have hS := HS.out
      rw [List.take_length, ← HN.out] at hS
      have HS2 := Aside0.mk hS
      clear hS HS
      go_wp2_with fail
      go_ret2
      exact ⟨_, rfl, HS2.out, HB.out⟩
end Go.Proofs.YtefnonlhepekdaaDoor.M

set_option linter.unusedVariables false
set_option linter.unusedSimpArgs false
namespace Go.Proofs.YtefnonlhepekdaaDoor.M
open Go.RowKit

theorem step_of_list {P : Program} {ops : Array Oper} {o : Oper} {a : Act} {w : World} {K : Act → World → Prop} {Q : Exit → Act → World → Prop} {E : Prop} (hg : o.guard = none)
    (h : wpList P ops (fun e a w => e = .normal ∧ K a w) [o] a w) : if Region.wanted o (yielded ops a.tmps) = true then Oper.wp P o a w K Q else E := by
  have hw : Region.wanted o (yielded ops a.tmps) = true := by simp [Region.wanted, hg]
  rw [if_pos hw]
  unfold wpList at h
  rw [if_pos hw] at h
  rcases h with h | h
  · have h2 := Oper.wp_mono (K' := K) (fun a w hk => hk.2) h
    unfold Oper.wp at h2 ⊢
    generalize (execOp a.eval o).run P w = r at *
    cases r with
    | ok n w' =>
      cases n <;> simp only [Oper.upon] at h2 ⊢ <;>
        first
          | exact h2
          | exact Calls.mono h2 (fun e w'' he => by cases e <;> first | exact he | exact absurd (show _ ∧ _ from he).1 (by simp) | (obtain ⟨_, _, h9, _⟩ := (show LetsOut _ from he); exact absurd h9 (by simp)))
          | exact Rows.mono h2 (fun _ _ he => he)
    | halt x w' => cases x <;> simp only [Oper.upon] at h2 ⊢ <;> first | exact h2 | exact absurd h2.1 (by simp)
  · obtain ⟨_, a', w', h3, _⟩ := h
    exact absurd h3 (by simp)
end Go.Proofs.YtefnonlhepekdaaDoor.M

set_option linter.unusedVariables false
set_option linter.unusedSimpArgs false
namespace Go.Proofs.YtefnonlhepekdaaDoor.M
open Go.RowKit Go.Proofs.YtefnonlhepekdaaDoorW.PrintWords Go.Proofs.YtefnonlhepekdaaDoorW.PrintLast Go.Proofs.YtefnonlhepekdaaDoorW.PrintMore Go.Proofs.YtefnonlhepekdaaDoor.Leaf

def upd {α : Type} (f : Nat → α) (m : Nat) (x : α) : Nat → α := fun i => if i = m then x else f i
theorem upd_same {α : Type} (f : Nat → α) (m : Nat) (x : α) : upd f m x m = x := if_pos rfl
theorem upd_other {α : Type} (f : Nat → α) {m i : Nat} (x : α) (h : i ≠ m) : upd f m x i = f i := if_neg h
/-- What is no block of bytes is as it was. -/
def KeepT (w1 w : World) : Prop := ∀ (g : Nat) (cs : Array Value) (t : TypeId) (fz : Nat × Nat), w1.heap[g]? = some (.cells cs t fz) → t ≠ 5 → w.heap[g]? = some (.cells cs t fz)
theorem KeepT.refl (w : World) : KeepT w w := fun _ _ _ _ h _ => h
theorem KeepT.below {w1 w w2 : World} (h : KeepT w1 w) (hb : Below w.heap.size w w2) : KeepT w1 w2 := fun g cs t fz hg ht => by
  have := h g cs t fz hg ht
  exact (hb.block _ (blk_lt this)).trans this
theorem KeepT.frm {w1 w w2 : World} {base : Nat} {v : Value} {xs : List Int} (h : KeepT w1 w) (hr : (Kd.int .u8).R 5 w base (fun _ => True) v xs) (hf : Frm (fun k => some k = v.ownBlock) w w2) : KeepT w1 w2 := fun g cs t fz hg ht => by
  have h1 := h g cs t fz hg ht
  refine (hf.block _ (blk_lt h1) (fun he => ?_)).trans h1
  obtain ⟨c1, e1⟩ := Kd.R_typed hr g he.symm
  rw [e1] at h1
  injection h1 with h1
  injection h1 with _ h1
  exact ht h1.symm
structure Fam (w0 w : World) (As : Nat → Option Addr) (ns cs : Nat → Nat) (D : Nat → List Int) : Prop where
  R : ∀ j, j < 4 → (Kd.int .u8).R 5 w w0.heap.size (fun _ => True) (.slice (As j) (ns j) (cs j)) (D j)
  ap : ∀ i j, i < 4 → j < 4 → i ≠ j → Apart (.slice (As i) (ns i) (cs i)) (.slice (As j) (ns j) (cs j))
theorem Fam.below {w0 w w1 : World} {As : Nat → Option Addr} {ns cs : Nat → Nat} {D : Nat → List Int} (h : Fam w0 w As ns cs D) (hb : Below w.heap.size w w1) : Fam w0 w1 As ns cs D := ⟨fun j hj => Kd.R_below (h.R j hj) hb, h.ap⟩
theorem Fam.congr {w0 w : World} {As : Nat → Option Addr} {ns cs : Nat → Nat} {D D' : Nat → List Int} (h : Fam w0 w As ns cs D) (e : ∀ j, j < 4 → D j = D' j) : Fam w0 w As ns cs D' := ⟨fun j hj => e j hj ▸ h.R j hj, h.ap⟩
theorem Fam.set {w0 w : World} {As : Nat → Option Addr} {ns cs : Nat → Nat} {D : Nat → List Int} (h : Fam w0 w As ns cs D) {m g : Nat} (hm : m < 4) (hg : As m = some ⟨g, 0, none⟩) (j : Nat) (hj : j < ns m) (x : Int) :
    Fam w0 (w.setCell ⟨g, j, none⟩ (.int .u8 x)) As ns cs (upd D m ((D m).set j x)) := by
  refine ⟨fun i hi => ?_, h.ap⟩
  by_cases e : i = m
  · subst e
    rw [upd_same]
    have hr := h.R i hi
    rw [hg] at hr ⊢
    exact (row_round hr j hj).2.2 x
  · rw [upd_other D _ e]
    refine R_frm (flat_int .u8) (h.R i hi) (Frm.of_set w ⟨g, j, none⟩ (.int .u8 x)) (fun k hk hs => ?_)
    have hs : k = g := hs
    subst hs
    exact h.ap i m hi hm e k hk (by rw [hg]; simp [Value.ownBlock])
theorem own_via {w w1 : World} {u v x : Value} (hs : w.heap.size ≤ w1.heap.size) (ha : v.ownBlock = u.ownBlock ∨ ∃ b, v.ownBlock = some b ∧ w.heap.size ≤ b) (hb : x.ownBlock = v.ownBlock ∨ ∃ b, x.ownBlock = some b ∧ w1.heap.size ≤ b) :
    x.ownBlock = u.ownBlock ∨ ∃ b, x.ownBlock = some b ∧ w.heap.size ≤ b := by
  rcases hb with hb | ⟨b, hb, hc⟩
  · rcases ha with ha | ⟨b, ha, hc⟩
    · exact .inl (hb.trans ha)
    · exact .inr ⟨b, hb.trans ha, hc⟩
  · exact .inr ⟨b, hb, Nat.le_trans hs hc⟩
/-- The array of the long rows: its first m cells. -/
def Lng (w : World) (g m : Nat) (As : Nat → Option Addr) (ns cs : Nat → Nat) (lr : Array Value) : Prop :=
  w.heap[g]? = some (.cells lr 49 (0, 0)) ∧ lr.size = 4 ∧ ∀ j, j < m → lr[j]? = some (.slice (As j) (ns j) (cs j))
theorem Lng.next {w : World} {g m : Nat} {As : Nat → Option Addr} {ns cs : Nat → Nat} {lr : Array Value} (h : Lng w g m As ns cs lr) (hm : m < 4) (A : Option Addr) (n c : Nat) :
    Lng (w.setCell ⟨g, m, none⟩ (.slice A n c)) g (m + 1) (upd As m A) (upd ns m n) (upd cs m c) (lr.setIfInBounds m (.slice A n c)) := by
  obtain ⟨h1, h2, h3⟩ := h
  refine ⟨blk_set h1 m (.slice A n c), by simp [h2], fun j hj => ?_⟩
  by_cases e : j = m
  · subst e
    rw [upd_same, upd_same, upd_same]
    simp [h2, hm]
  · rw [upd_other _ _ e, upd_other _ _ e, upd_other _ _ e, Array.getElem?_setIfInBounds_ne (fun h => e h.symm)]
    exact h3 j (by omega)
theorem Lng.zero {w : World} {g : Nat} {As : Nat → Option Addr} {ns cs : Nat → Nat} {lr : Array Value} (h : w.heap[g]? = some (.cells lr 49 (0, 0))) (hs : lr.size = 4) : Lng w g 0 As ns cs lr := ⟨h, hs, fun j hj => absurd hj (Nat.not_lt_zero _)⟩
end Go.Proofs.YtefnonlhepekdaaDoor.M

set_option linter.unusedVariables false
set_option linter.unusedSimpArgs false
namespace Go.Proofs.YtefnonlhepekdaaDoor.M
open Go.RowKit Go.Proofs.YtefnonlhepekdaaDoorW.PrintWords Go.Proofs.YtefnonlhepekdaaDoorW.PrintLast Go.Proofs.YtefnonlhepekdaaDoorW.PrintMore Go.Proofs.YtefnonlhepekdaaDoor.Leaf

/-- A pile in its box. -/
def Pile (w0 w : World) (bp : Nat) (A : Option Addr) (n c : Nat) (l : List (Nat × Nat)) : Prop :=
  w.heap[bp]? = some (.cells #[.slice A n c] 118 (0, 0)) ∧ kS.R 74 w w0.heap.size (fun _ => True) (.slice A n c) l
theorem Pile.below {w0 w w1 : World} {bp : Nat} {A : Option Addr} {n c : Nat} {l : List (Nat × Nat)} (h : Pile w0 w bp A n c l) (hb : Below w.heap.size w w1) : Pile w0 w1 bp A n c l := ⟨(hb.block _ (blk_lt h.1)).trans h.1, Kd.R_below h.2 hb⟩
def lenV : Value → Nat
  | .slice _ n _ => n
  | _ => 0
/-- The pile at a round's head: the peaks of a', and a spot of height g' behind them; what has been made. -/
structure PutR (w0 w wr : World) (bp tot a' g' : Nat) (u0 : Value) (A1 : Option Addr) (n1 c1 : Nat) (Am : Option Addr) (nm cm : Nat) (Pm : List (Nat × Nat)) : Prop where
  dv : 2 ^ g' ∣ a'
  sum : a' + 2 ^ g' = tot
  pile : Pile w0 wr bp A1 n1 c1 (topsN a' ++ [(g', a' / 2 ^ g')])
  frm : Frm (fun k => k = bp ∨ some k = u0.ownBlock) w wr
  own : (Value.slice A1 n1 c1).ownBlock = u0.ownBlock ∨ ∃ b, (Value.slice A1 n1 c1).ownBlock = some b ∧ w.heap.size ≤ b
  made : kS.R 74 wr w.heap.size (fun _ => True) (.slice Am nm cm) Pm
  few : Pm.length + (topsN a').length ≤ 63
  ap : Apart (.slice Am nm cm) (.slice A1 n1 c1)
theorem PutR.below {w0 w wr wx : World} {bp tot a' g' : Nat} {u0 : Value} {A1 : Option Addr} {n1 c1 : Nat} {Am : Option Addr} {nm cm : Nat} {Pm : List (Nat × Nat)} (h : PutR w0 w wr bp tot a' g' u0 A1 n1 c1 Am nm cm Pm) (_ : Below w0.heap.size w0 w) (hb : Below wr.heap.size wr wx) : PutR w0 w wx bp tot a' g' u0 A1 n1 c1 Am nm cm Pm :=
  ⟨h.dv, h.sum, h.pile.below hb, h.frm.trans (Frm.of_below hb (fun k => k = bp ∨ some k = u0.ownBlock)) (fun _ _ k => k), h.own, Kd.R_below h.made hb, h.few, h.ap⟩
theorem PutR.next {w0 w wx wd w9 : World} {bp tot a' g' a2 g2 iu : Nat} {u0 : Value} {A : Option Addr} {n c : Nat} {Am : Option Addr} {nm cm : Nat} {Pm : List (Nat × Nat)} {A3 A9 : Option Addr} {n3 c3 n9 c9 : Nat} {t x : Nat × Nat} (h : PutR w0 w wx bp tot a' g' u0 A n c Am nm cm Pm)
    (hdv : 2 ^ g2 ∣ a2) (hsum : a2 + 2 ^ g2 = tot) (hT : topsN a' = topsN a2 ++ [t]) (hiu : iu = a2 / 2 ^ g2) (hp : Pile w0 wd bp A3 n3 c3 (topsN a2 ++ [(g2, iu)])) (hf : Frm (fun q => q = bp ∨ some q = (Value.slice A n c).ownBlock) wx wd)
    (ho : (Value.slice A3 n3 c3).ownBlock = (Value.slice A n c).ownBlock ∨ ∃ b, (Value.slice A3 n3 c3).ownBlock = some b ∧ wx.heap.size ≤ b) (hm : kS.R 74 wd w.heap.size (fun _ => True) (.slice Am nm cm) Pm)
    (hr9 : kS.R 74 w9 w.heap.size (fun _ => True) (.slice A9 n9 c9) (Pm ++ [x])) (hf9 : Frm (fun q => some q = (Value.slice Am nm cm).ownBlock) wd w9) (ha9 : (Value.slice A9 n9 c9).ownBlock = (Value.slice Am nm cm).ownBlock ∨ ∃ b, (Value.slice A9 n9 c9).ownBlock = some b ∧ wd.heap.size ≤ b) :
    PutR w0 w w9 bp tot a2 g2 u0 A3 n3 c3 A9 n9 c9 (Pm ++ [x]) := by
  have ap3 : Apart (.slice Am nm cm) (.slice A3 n3 c3) := apart_step h.ap (Kd.R_lt h.made) ho
  refine ⟨hdv, hsum, ?_, ?_, own_via h.frm.size h.own ho, hr9, ?_, (apart_step ap3.symm (Kd.R_lt hp.2) ha9).symm⟩
  · rw [← hiu]
    exact ⟨(hf9.block _ (blk_lt hp.1) (Kd.R_ne hm hp.1 (by decide))).trans hp.1, R_frm flat_kS hp.2 hf9 (fun q hq hs => ap3 q hs.symm hq)⟩
  · refine (h.frm.trans hf (fun i hi hs => ?_)).trans hf9 (fun i hi hs => ?_)
    · rcases hs with hs | hs
      · exact .inl hs
      · rcases h.own with ho2 | ⟨b, ho2, hb⟩
        · exact .inr (hs.trans ho2)
        · rw [ho2] at hs
          injection hs with hs
          omega
    · have := Kd.R_base hm i hs.symm
      omega
  · have := h.few
    rw [hT] at this
    simp only [List.length_append, List.length_singleton] at this ⊢
    omega
theorem two_new (w : World) (o1 o2 : Obj) : ((w.alloc o1).alloc o2).drew.heap[w.heap.size]? = some o1 ∧ ((w.alloc o1).alloc o2).drew.heap[w.heap.size + 1]? = some o2 ∧ Below w.heap.size w ((w.alloc o1).alloc o2).drew := by
  have a1 := heap_new w o1
  have a2 := heap_new2 (w.alloc o1) o2 (b := w.heap.size + 1) (by simp)
  have l1 : ((w.alloc o1).alloc o2).heap[w.heap.size]? = (w.alloc o1).heap[w.heap.size]? := Below.heap_alloc _ _ _ (by simp)
  exact ⟨l1.trans a1, a2, (by repeat (with_reducible first | exact Below.refl _ _ | refine below_alloc ?_ _ | refine below_drew ?_))⟩
theorem put_done {a g : Nat} (hd : 2 ^ g ∣ a) (hs : a + 2 ^ g ≤ 4611686018427387904) (hb : a / 2 ^ g % 2 = 0) : topsN a ++ [(g, a / 2 ^ g)] = topsN (a + 2 ^ g) := by
  have hg : g < 63 := by
    rcases Nat.lt_or_ge g 63 with h | h
    · exact h
    · have := Nat.pow_le_pow_right (show 0 < 2 by omega) h
      omega
  exact (tops_push hd hb hg).symm
theorem tops_nil_bit {a g : Nat} (hd : 2 ^ g ∣ a) (hg : g ≤ 62) (h : topsN a = []) : a / 2 ^ g % 2 = 0 := by
  rcases Nat.mod_two_eq_zero_or_one (a / 2 ^ g) with k | k
  · exact k
  · rw [tops_last hd k (by omega)] at h
    simp at h
theorem height_of {a g : Nat} (hs : a + 2 ^ g ≤ 4611686018427387904) : g ≤ 62 := by
  rcases Nat.lt_or_ge g 63 with h | h
  · omega
  · have := Nat.pow_le_pow_right (show 0 < 2 by omega) h
    omega
theorem own_len (A : Option Addr) (n m c : Nat) : (Value.slice A n c).ownBlock = (Value.slice A m c).ownBlock := by
  cases A <;> simp [Value.ownBlock]
theorem pile_step2 {w0 w W w9 : World} {bp n k c n9 c9 : Nat} {A A9 : Option Addr} {P0 l : List (Nat × Nat)} {u : Value} (hbW : Below w.heap.size w W) (hx0 : W.heap[bp]? = some (.cells #[u] 118 (0, 0))) (hr0 : kS.R 74 W w0.heap.size (fun _ => True) (.slice A k c) P0)
    (hR : kS.R 74 w9 w0.heap.size (fun _ => True) (.slice A9 n9 c9) l) (hF : Frm (fun q => some q = (Value.slice A k c).ownBlock) W w9)
    (hA : (Value.slice A9 n9 c9).ownBlock = (Value.slice A k c).ownBlock ∨ ∃ b, (Value.slice A9 n9 c9).ownBlock = some b ∧ W.heap.size ≤ b) :
    Pile w0 (w9.setCell ⟨bp, 0, none⟩ (.slice A9 n9 c9)) bp A9 n9 c9 l ∧ Frm (fun q => q = bp ∨ some q = (Value.slice A n c).ownBlock) w (w9.setCell ⟨bp, 0, none⟩ (.slice A9 n9 c9)) ∧
      ((Value.slice A9 n9 c9).ownBlock = (Value.slice A n c).ownBlock ∨ ∃ b, (Value.slice A9 n9 c9).ownBlock = some b ∧ w.heap.size ≤ b) := by
  rw [own_len A n k c]
  have hx := (hF.block _ (blk_lt hx0) (Kd.R_ne hr0 hx0 (by decide))).trans hx0
  refine ⟨⟨blk_set hx 0 (.slice A9 n9 c9), Kd.R_set hR hx (fun q hq => by
    rcases List.mem_cons.1 hq with h | h
    · rw [h]; decide
    · have h : q ∈ ([] : List Nat) := h
      cases h) 0 _⟩, ?_, ?_⟩
  · exact ((Frm.of_below hbW (fun q => q = bp ∨ some q = (Value.slice A k c).ownBlock)).trans hF (fun i _ h => .inr h)).trans (Frm.of_set w9 ⟨bp, 0, none⟩ _) (fun i _ h => .inl h)
  · rcases hA with h | ⟨b, h, k⟩
    · exact .inl h
    · exact .inr ⟨b, h, Nat.le_trans hbW.size k⟩
theorem pile_step {w0 w W w9 : World} {bp n c n9 c9 : Nat} {A A9 : Option Addr} {P0 l : List (Nat × Nat)} (hbW : Below w.heap.size w W) (hP : Pile w0 W bp A n c P0) (hR : kS.R 74 w9 w0.heap.size (fun _ => True) (.slice A9 n9 c9) l) (hF : Frm (fun k => some k = (Value.slice A n c).ownBlock) W w9)
    (hA : (Value.slice A9 n9 c9).ownBlock = (Value.slice A n c).ownBlock ∨ ∃ b, (Value.slice A9 n9 c9).ownBlock = some b ∧ W.heap.size ≤ b) :
    Pile w0 (w9.setCell ⟨bp, 0, none⟩ (.slice A9 n9 c9)) bp A9 n9 c9 l ∧ Frm (fun k => k = bp ∨ some k = (Value.slice A n c).ownBlock) w (w9.setCell ⟨bp, 0, none⟩ (.slice A9 n9 c9)) ∧
      ((Value.slice A9 n9 c9).ownBlock = (Value.slice A n c).ownBlock ∨ ∃ b, (Value.slice A9 n9 c9).ownBlock = some b ∧ w.heap.size ≤ b) := pile_step2 hbW hP.1 hP.2 hR hF hA

set_option maxHeartbeats 2000000 in
set_option maxRecDepth 100000 in
theorem put_calls (a g bp n c : Nat) (A : Option Addr) (w0 w : World) (hd : 2 ^ g ∣ a) (ha : a + 2 ^ g ≤ 4611686018427387904) (hB : Below w0.heap.size w0 w) (hbp : w0.heap.size ≤ bp) (hP : Pile w0 w bp A n c (topsN a)) :
    Calls Tryd.prog 85 #[.pointer (some ⟨bp, 0, none⟩), .agg #[.int .u8 g, .int .u64 (a / 2 ^ g : Nat)]] w fun e w' => ∃ v A1 n1 c1, e = .returned v ∧ Pile w0 w' bp A1 n1 c1 (topsN (a + 2 ^ g)) ∧ Frm (fun k => k = bp ∨ some k = (Value.slice A n c).ownBlock) w w' ∧
      ((Value.slice A1 n1 c1).ownBlock = (Value.slice A n c).ownBlock ∨ ∃ b, (Value.slice A1 n1 c1).ownBlock = some b ∧ w.heap.size ≤ b) := by
  have HP := Aside0.mk hP
  have HB := Aside0.mk hB
  have hlen : (topsN a).length ≤ 63 := topsF_len 63 a
  obtain ⟨P0, hP0⟩ : ∃ P, P = topsN a := ⟨_, rfl⟩
  obtain ⟨ix, hix⟩ : ∃ i, i = a / 2 ^ g := ⟨_, rfl⟩
  rw [← hix]
  rw [← hP0] at hlen HP
  have HP0 := Aside0.mk hP0
  have HIX := Aside0.mk hix
  have k0 := (blk_cell HP.out.1 0).trans (rfl : _ = some (Value.slice A n c))
  have k0' := pw_cell_below (bl_new w (.cells #[.int .u8 g, .int .u64 ix] 74)) k0
  have k0'' := pw_cell_below (bl_new (w.alloc (.cells #[.int .u8 g, .int .u64 ix] 74)) (.cells #[.int .u8 g, .int .u64 ix] 74)) k0'
  have b1 := heap_new w (.cells #[.int .u8 g, .int .u64 ix] 74)
  have q0 := (blk_cell b1 0).trans (rfl : _ = some (Value.int .u8 (g : Int)))
  have q1 := (blk_cell b1 1).trans (rfl : _ = some (Value.int .u64 (ix : Int)))
  clear hP hB hP0 hix b1
  go_enter Tryd.func85, Tryd.ntmps85
  go_wp2_with fail
  go_step3
  go_upto_region 2 with (fail)
  go_cut [] (fun wc => ∃ A1 n1 c1, Aside0 (Pile w0 wc bp A1 n1 c1 (P0 ++ [(g, ix)]) ∧ Frm (fun k => k = bp ∨ some k = (Value.slice A n c).ownBlock) w wc ∧ ((Value.slice A1 n1 c1).ownBlock = (Value.slice A n c).ownBlock ∨ ∃ b, (Value.slice A1 n1 c1).ownBlock = some b ∧ w.heap.size ≤ b)))
  case first =>
    obtain ⟨W1, hW1⟩ : ∃ W1, W1 = (w.alloc (.cells #[.int .u8 g, .int .u64 ix] 74)).drew := ⟨_, rfl⟩
    have hsz1 : Value.slice (some ⟨w.heap.size + 1, 0, none⟩) 1 1 = Value.slice (some ⟨(w.alloc (.cells #[.int .u8 g, .int .u64 ix] 74)).drew.heap.size, 0, none⟩) 1 1 := by simp [World.drew]
    have hbW := below_drew ((Below.refl w.heap.size w).alloc (Nat.le_refl _) (.cells #[.int .u8 g, .int .u64 ix] 74))
    have HPW := Aside0.mk (HP.out.below hbW)
    have HBW := Aside0.mk (blt HB.out hbW)
    have HbW := Aside0.mk hbW
    clear hbW
    go_region_law ((go_loud (refine step_of_list rfl (app_oneN kS (W := (w.alloc (.cells #[.int .u8 g, .int .u64 ix] 74)).drew) w0.heap.size rfl (.tmp 14) (.tmp 16) 118 74 (.agg #[.int .u8 0, .int .u64 0]) 16 rfl Tryd.underlying118 infoS rfl (by decide) (by decide) (.slice A n c) P0 (g, ix) (spCells (g, ix)) rfl (by first | exact hsz1 | rfl | exact hsz2) rfl HPW.out.2 HBW.out.size (by omega) ?_)); intro A9 n9 c9 w9 hr9 hf9 ha9; refine ⟨rfl, ?_⟩; have HR9 := Aside0.mk hr9; have HF9 := Aside0.mk hf9; have HA9 := Aside0.mk ha9; have hbx9 := (hf9.block _ (blk_lt HPW.out.1) (Kd.R_ne HPW.out.2 HPW.out.1 (by decide))).trans HPW.out.1; have k9 := (blk_cell hbx9 0).trans (rfl : _ = some (Value.slice A n c)); have f9 := blk_frozen hbx9 0; have HX9 := Aside0.mk hbx9; clear hr9 hf9 ha9 hbx9))
    all_goals go_wp2_with fail
    all_goals go_meet
    all_goals (case rel => exact ⟨A9, n9, c9, ⟨pile_step HbW.out HPW.out HR9.out HF9.out HA9.out⟩⟩)
  case rest =>
    obtain ⟨A1, n1, c1, HC⟩ := hcut
    have HP1 := Aside0.mk HC.out.1
    have HF1 := Aside0.mk HC.out.2.1
    have HO1 := Aside0.mk HC.out.2.2
    clear HC k0 k0' k0'' q0 q1
    go_wp2_with fail
    go_step3
    go_wp2_with fail
    go_loopw [5] (fun q wr => ∃ (a' g' : Nat) (A1 : Option Addr) (n1 c1 : Nat) (Am : Option Addr) (nm cm : Nat) (Pm : List (Nat × Nat)), q = .slice Am nm cm ∧ Aside0 (PutR w0 w wr bp (a + 2 ^ g) a' g' (.slice A n c) A1 n1 c1 Am nm cm Pm)) (fun q _ => 64 - lenV q)
    case atStart =>
      refine ⟨a, g, A1, n1, c1, none, 0, 0, [], rfl, ⟨⟨hd, rfl, ?_, HF1.out, HO1.out, Kd.R_nil _ _ _ _ _, (by rw [List.length_nil, Nat.zero_add]; exact topsF_len 63 a), fun k h => by simp [Value.ownBlock] at h⟩⟩⟩
      rw [← HP0.out, ← HIX.out]
      exact HP1.out
    case round =>
      obtain ⟨a', g', A2, n2, c2, Am, nm, cm, Pm, rfl, HR⟩ := hrel
      have k0 := (blk_cell HR.out.pile.1 0).trans (rfl : _ = some (Value.slice A2 n2 c2))
      have hn2 := (Kd.R_reads' HR.out.pile.2).1
      rw [List.length_append] at hn2
      have hg62 := height_of (a := a') (g := g') (by rw [HR.out.sum]; exact ha)
      rcases List.eq_nil_or_concat (topsN a') with hT | ⟨T0, t, hT⟩
      · rw [hT] at hn2
        obtain rfl : n2 = 1 := hn2
        have hpl := HR.out.pile
        rw [put_done HR.out.dv (by rw [HR.out.sum]; exact ha) (tops_nil_bit HR.out.dv hg62 hT), HR.out.sum] at hpl
        have HPL := Aside0.mk hpl
        clear hT hpl
        go_wp2_with fail
        rw [Exit.noGoto_ret]
        go_ret
        exact ⟨_, A2, 1, c2, rfl, HPL.out, HR.out.frm, HR.out.own⟩
      · obtain ⟨k, hk⟩ : ∃ k, k = T0.length := ⟨_, rfl⟩
        obtain ⟨j, hj⟩ : ∃ j, j = a' / 2 ^ g' := ⟨_, rfl⟩
        obtain ⟨ht, it⟩ := t
        rw [List.concat_eq_append] at hT
        rw [hT, List.length_append, ← hk] at hn2
        obtain rfl : n2 = k + 2 := hn2
        have hk63 : k ≤ 63 := by have := HR.out.few; rw [hT, List.length_append, ← hk] at this; simp at this; omega
        have hRc := R_C HR.out.pile.2
        obtain ⟨ad, ea, x0, x1⟩ := at_spot hRc k (by omega)
        obtain ⟨ad', ea', y0, y1⟩ := at_spot hRc (k + 1) (by omega)
        subst ea
        injection ea' with ea'
        subst ea'
        have e1 : (topsN a' ++ [(g', a' / 2 ^ g')]).getD k (0, 0) = (ht, it) := by rw [hT, hk]; simp [List.getD_eq_getElem?_getD]
        have e2 : (topsN a' ++ [(g', a' / 2 ^ g')]).getD (k + 1) (0, 0) = (g', j) := by rw [hT, hk, hj]; simp [List.getD_eq_getElem?_getD]
        rw [e1] at x0 x1
        rw [e2] at y0 y1
        simp only at x0 x1 y0 y1
        have HT := Aside0.mk hT
        have HKk := Aside0.mk hk
        have HJ := Aside0.mk hj
        clear hT hk hj e1 e2 hRc
        have nk : ¬ ((k : Int) + 2 < 2) := by omega
        go_upto_region 6 with (fail)
        go_cut [8, 9] from 19 to 74 (fun v8 v9 wc => ∃ b8 b9, v8 = .pointer (some ⟨b8, 0, none⟩) ∧ v9 = .pointer (some ⟨b9, 0, none⟩) ∧ Aside0 (wc.heap[b8]? = some (.cells #[.int .u8 ht, .int .u64 it] 74 (0, 0)) ∧ wc.heap[b9]? = some (.cells #[.int .u8 g', .int .u64 j] 74 (0, 0)) ∧ Below wr.heap.size wr wc))
        case first =>
          have s2 : wrap64 ((k : Int) + 2 - 2) = (k : Int) := by rw [i64_of _ (by omega) (by omega)]; omega
          have s1 : wrap64 ((k : Int) + 2 - 1) = ((k + 1 : Nat) : Int) := by rw [i64_of _ (by omega) (by omega)]; omega
          have y0' : wr.cell? (ad.add ((k + 2 - 1) * 2)) = some (.int .u8 (g' : Int)) := y0
          have y1' : wr.cell? ⟨(ad.add ((k + 2 - 1) * 2)).block, (ad.add ((k + 2 - 1) * 2)).off + 1, none⟩ = some (.int .u64 (j : Int)) := y1
          have x0' : wr.cell? (ad.add ((k + 2 - 2) * 2)) = some (.int .u8 (ht : Int)) := x0
          have x1' : wr.cell? ⟨(ad.add ((k + 2 - 2) * 2)).block, (ad.add ((k + 2 - 2) * 2)).off + 1, none⟩ = some (.int .u64 (it : Int)) := x1
          have xa0 := fun o => pw_cell_below (bl_new wr o) x0
          have xa1 := fun o => pw_cell_below (bl_new wr o) x1
          have ya0 := fun o => pw_cell_below (bl_new wr o) y0
          have ya1 := fun o => pw_cell_below (bl_new wr o) y1
          have ya0' := fun o => pw_cell_below (bl_new wr o) y0'
          have ya1' := fun o => pw_cell_below (bl_new wr o) y1'
          have xb0 := fun o o' => pw_cell_below (bl_new (wr.alloc o) o') (xa0 o)
          have xb1 := fun o o' => pw_cell_below (bl_new (wr.alloc o) o') (xa1 o)
          have yb0 := fun o o' => pw_cell_below (bl_new (wr.alloc o) o') (ya0 o)
          have yb1 := fun o o' => pw_cell_below (bl_new (wr.alloc o) o') (ya1 o)
          have yb0' := fun o o' => pw_cell_below (bl_new (wr.alloc o) o') (ya0' o)
          have yb1' := fun o o' => pw_cell_below (bl_new (wr.alloc o) o') (ya1' o)
          go_region
          · go_wp2_with fail
            go_meet
            case rel => exact ⟨_, _, rfl, rfl, ⟨(two_new wr _ _).1, (two_new wr _ _).2.1, (two_new wr _ _).2.2⟩⟩
          · go_wp2_with fail
            go_meet
            case rel => exact ⟨_, _, rfl, rfl, ⟨(two_new wr _ _).2.1, (two_new wr _ _).1, (two_new wr _ _).2.2⟩⟩
        case rest =>
          obtain ⟨b8, b9, rfl, rfl, HC⟩ := hcut
          have z80 := (blk_cell HC.out.1 0).trans (rfl : _ = some (Value.int .u8 (ht : Int)))
          have z81 := (blk_cell HC.out.1 1).trans (rfl : _ = some (Value.int .u64 (it : Int)))
          have z90 := (blk_cell HC.out.2.1 0).trans (rfl : _ = some (Value.int .u8 (g' : Int)))
          have z91 := (blk_cell HC.out.2.1 1).trans (rfl : _ = some (Value.int .u64 (j : Int)))
          have HR2 := Aside0.mk (HR.out.below HB.out HC.out.2.2)
          have HE8 := Aside0.mk HC.out.1
          clear k0 x0 x1 y0 y1 nk HC HR
          rcases Nat.mod_two_eq_zero_or_one (a' / 2 ^ g') with hbit | hbit
          · have hne : ht ≠ g' := tops_above HR2.out.dv hbit (ht, it) (by rw [HT.out]; exact List.mem_append.2 (.inr (List.mem_singleton.2 rfl)))
            have hneI : ((ht : Int) != (g' : Int)) = true := by rw [bne_iff_ne]; omega
            have hpl := HR2.out.pile
            rw [put_done HR2.out.dv (by rw [HR2.out.sum]; exact ha) hbit, HR2.out.sum] at hpl
            have HPL := Aside0.mk hpl
            clear hpl hne hbit
            go_wp2_with fail
            rw [Exit.noGoto_ret]
            go_ret
            exact ⟨_, some ad, k + 2, c2, rfl, HPL.out, HR2.out.frm, HR2.out.own⟩
          · obtain ⟨q1, q2, q3, q4, q5, q6⟩ := tops_carry HR2.out.dv hbit
            have hl := tops_last HR2.out.dv hbit (by omega)
            rw [HT.out] at hl
            obtain ⟨hl1, hl2⟩ := List.append_inj' hl rfl
            injection hl2 with hl2 _
            injection hl2 with hl3 hl4
            rw [← HJ.out] at hl4 q2 q4 q6
            subst hl3
            have hneI : ((ht : Int) != (ht : Int)) = false := by simp
            have hal : a' ≤ 4611686018427387904 := by have := HR2.out.sum; omega
            have hjl : j ≤ 4611686018427387904 := Nat.le_trans (by rw [HJ.out]; exact Nat.div_le_self _ _) hal
            have hand : Go.bits .and .u64 (it : Int) 1 = 0 := by
              have := and64 it 1 (by omega) (by omega)
              rw [show ((1 : Nat) : Int) = 1 from rfl] at this
              rw [this, Nat.and_one_is_mod, hl4, q4]
              rfl
            obtain ⟨g2, hg2⟩ : ∃ z, z = ht + 1 := ⟨_, rfl⟩
            obtain ⟨iu, hiu⟩ : ∃ z, z = it / 2 := ⟨_, rfl⟩
            have hw53 : IntKind.u64.wrap ((it : Int) + 1) = (j : Int) := by rw [w64_of _ (by omega) (by omega)]; omega
            have hw57 : IntKind.u8.wrap ((ht : Int) + 1) = (g2 : Int) := by rw [IntKind.wrap_u8]; omega
            have hq60 : (it : Int) / 2 = (iu : Int) := by rw [hiu]; rfl
            have hit64 : IntKind.u64.wrap (iu : Int) = (iu : Int) := w64_nat iu (by omega)
            have hdv : 2 ^ g2 ∣ a' - 2 ^ ht := by rw [hg2]; exact q1
            have hsum : a' - 2 ^ ht + 2 ^ g2 = a + 2 ^ g := by rw [hg2, q3]; exact HR2.out.sum
            have hiu2 : iu = (a' - 2 ^ ht) / 2 ^ g2 := by rw [hg2, q2, hiu, hl4]
            have HDV := Aside0.mk hdv
            have HSM := Aside0.mk hsum
            have HIU := Aside0.mk hiu2
            have HT0 := Aside0.mk hl1
            clear q1 q2 q3 q4 q5 q6 hl hl1 hl4 hbit hg2 hiu hdv hsum hiu2 hal hjl
            go_upto_region 9 with (fail)
            obtain ⟨g10, hg10⟩ : ∃ z, z = wc.heap.size := ⟨_, rfl⟩
            rw [← hg10]
            have HR3 := Aside0.mk (HR2.out.below HB.out (bl_new wc (.cells #[.int .u8 g2, .int .u64 iu] 74)))
            have b10 := heap_new2 wc (.cells #[.int .u8 g2, .int .u64 iu] 74) hg10
            have hlt10 : wc.heap.size ≤ g10 := Nat.le_of_eq hg10.symm
            have hbc := bl_new wc (.cells #[.int .u8 g2, .int .u64 iu] 74)
            have hown10 : ∀ q, (Value.slice (some ad) (k + 2) c2).ownBlock = some q → q < wc.heap.size := Kd.R_lt HR2.out.pile.2
            have hbp10 : bp < wc.heap.size := blk_lt HR2.out.pile.1
            generalize hwx : wc.alloc (.cells #[.int .u8 g2, .int .u64 iu] 74) = wx at *
            have m0 := (blk_cell b10 0).trans (rfl : _ = some (Value.int .u8 (g2 : Int)))
            have m1 := (blk_cell b10 1).trans (rfl : _ = some (Value.int .u64 (iu : Int)))
            have HB10 := Aside0.mk b10
            have HO10 := Aside0.mk hown10
            have HP10 := Aside0.mk hbp10
            have HL10 := Aside0.mk hlt10
            have k9 := (blk_cell HR3.out.pile.1 0).trans (rfl : _ = some (Value.slice (some ad) (k + 2) c2))
            have hcap := (Kd.R_reads' HR3.out.pile.2).2.1
            clear b10 hbc hown10 hbp10 hlt10 hwx hg10 HR2 HE8 z80 z81 z90 z91
            go_cut [] from 19 to 74 (fun wd => ∃ A3 n3 c3, Aside0 (Pile w0 wd bp A3 n3 c3 (T0 ++ [(g2, iu)]) ∧ Frm (fun q => q = bp ∨ some q = (Value.slice (some ad) (k + 2) c2).ownBlock) wx wd ∧ ((Value.slice A3 n3 c3).ownBlock = (Value.slice (some ad) (k + 2) c2).ownBlock ∨ ∃ b, (Value.slice A3 n3 c3).ownBlock = some b ∧ wx.heap.size ≤ b)))
            case first =>
              have s2 : wrap64 ((k : Int) + 2 - 2) = (k : Int) := by rw [i64_of _ (by omega) (by omega)]; omega
              have wk : IntKind.i64.wrap (k : Int) = (k : Int) := IntWalk.i64_in _ (by omega)
              have hk0 : (0 : Int) ≤ (k : Int) := by omega
              have hkc : (k : Int) ≤ (c2 : Int) := by omega
              have hbW : Below wx.heap.size wx wx.drew := below_drew (Below.refl _ _)
              have hT0l : T0.length ≤ 63 := by rw [← HKk.out]; exact hk63
              have hRt := Kd.R_take (Kd.R_below HR3.out.pile.2 hbW) (m := k) (by rw [HT.out, HKk.out]; simp)
              have htk : (topsN a' ++ [(ht, a' / 2 ^ ht)]).take k = T0 := by rw [HT.out, HKk.out]; simp
              rw [htk] at hRt
              have HRT := Aside0.mk hRt
              have HXW := Aside0.mk ((HR3.out.pile.below hbW).1)
              have HbW := Aside0.mk hbW
              have HBW := Aside0.mk (Nat.le_trans (Nat.le_trans HB.out.size HR3.out.frm.size) hbW.size)
              clear hbW hRt htk
              go_region_law ((go_loud (refine step_of_list rfl (app_oneN kS (W := wx.drew) w0.heap.size rfl (.tmp 66) (.tmp 68) 118 74 (.agg #[.int .u8 0, .int .u64 0]) 16 rfl Tryd.underlying118 infoS rfl (by decide) (by decide) (.slice (some ad) k c2) T0 (g2, iu) (spCells (g2, iu)) rfl (by first | rfl | exact hsz1) rfl HRT.out HBW.out (by omega) ?_)); intro A9 n9 c9 w9 hr9 hf9 ha9; refine ⟨rfl, ?_⟩; have HR9 := Aside0.mk hr9; have HF9 := Aside0.mk hf9; have HA9 := Aside0.mk ha9; have hbx9 := (hf9.block _ (blk_lt HXW.out) (Kd.R_ne HRT.out HXW.out (by decide))).trans HXW.out; have k9' := (blk_cell hbx9 0).trans (rfl : _ = some (Value.slice (some ad) (k + 2) c2)); have f9 := blk_frozen hbx9 0; clear hr9 hf9 ha9 hbx9))
              all_goals go_wp2_with fail
              all_goals go_meet
              all_goals (case rel => exact ⟨A9, n9, c9, ⟨pile_step2 (n := k + 2) HbW.out HXW.out HRT.out HR9.out HF9.out HA9.out⟩⟩)
            case rest =>
              obtain ⟨A3, n3, c3, HC⟩ := hcut
              obtain ⟨hp3, hf3, ho3⟩ := HC.out
              have hb10' := (hf3.block g10 (blk_lt HB10.out) (fun h => by
                rcases h with h | h
                · have := HP10.out; have := HL10.out; omega
                · have := HO10.out g10 h.symm; have := HL10.out; omega)).trans HB10.out
              have m0' := (blk_cell hb10' 0).trans (rfl : _ = some (Value.int .u8 (g2 : Int)))
              have m1' := (blk_cell hb10' 1).trans (rfl : _ = some (Value.int .u64 (iu : Int)))
              have hmd := R_frm flat_kS HR3.out.made hf3 (fun q hq h => by
                rcases h with h | h
                · exact Kd.R_ne HR3.out.made HR3.out.pile.1 (by decide) (by rw [← h]; exact hq.symm)
                · exact HR3.out.ap q hq h.symm)
              have HP3 := Aside0.mk hp3
              have HF3 := Aside0.mk hf3
              have HO3 := Aside0.mk ho3
              have HM3 := Aside0.mk hmd
              have hbase : w.heap.size ≤ wc.heap.size := Nat.le_trans HR3.out.frm.size hf3.size
              have hPm : Pm.length ≤ 63 := by have := HR3.out.few; omega
              clear hp3 hf3 ho3 hb10' hmd m0 m1 k9 hcap HC
              go_wp2_with ((with_reducible refine gate_builtin (b := .append) (xs := #[.tmp 71, .tmp 73]) rfl ?_); at_builtin; go_loud (refine app_oneN kS w.heap.size rfl (.tmp 71) (.tmp 73) 70 74 (.agg #[.int .u8 0, .int .u64 0]) 16 rfl Tryd.underlying70 infoS rfl (by decide) (by decide) (.slice Am nm cm) Pm (g2, iu) (spCells (g2, iu)) rfl rfl rfl HM3.out hbase (by omega) ?_; intro A9 n9 c9 w9 hr9 hf9 ha9; have HR9 := Aside0.mk hr9; have HF9 := Aside0.mk hf9; have HA9 := Aside0.mk ha9; clear hr9 hf9 ha9))
              have hnx := HR3.out.next (t := (ht, it)) HDV.out HSM.out (by rw [HT.out, HT0.out]) HIU.out (HT0.out ▸ HP3.out) HF3.out HO3.out HM3.out HR9.out HF9.out HA9.out
              have hn9 := (Kd.R_reads' HR9.out).1
              have hnm := (Kd.R_reads' HM3.out).1
              go_roundw
              case rel => exact ⟨a' - 2 ^ ht, g2, A3, n3, c3, A9, n9, c9, Pm ++ [(g2, iu)], rfl, ⟨hnx⟩⟩
              case measure =>
                show 64 - n9 < 64 - nm
                rw [hn9, hnm, List.length_append, List.length_singleton]
                omega
end Go.Proofs.YtefnonlhepekdaaDoor.M

set_option linter.unusedVariables false
set_option linter.unusedSimpArgs false
namespace Go.Proofs.YtefnonlhepekdaaDoor.M
open Go.RowKit Go.Proofs.YtefnonlhepekdaaDoorW.PrintWords Go.Proofs.YtefnonlhepekdaaDoorW.PrintLast Go.Proofs.YtefnonlhepekdaaDoorW.PrintMore Go.Proofs.YtefnonlhepekdaaDoor.Leaf

theorem chain_le : ∀ (l : List (Nat × Nat)) (a b : Nat), Chain a l b → a ≤ b
  | [], _, _, h => Nat.le_of_eq h
  | s :: l, a, b, h => by
    have := chain_le l _ _ h.2.2
    have := p2_pos s.1
    omega
theorem C_spots {w : World} {A : Option Addr} {n : Nat} {xs : List (Nat × Nat)} (h : kS.C w A n xs) : k74.C w A n (spotsOf xs) := by
  obtain ⟨e, hm, hc⟩ := h
  refine ⟨by rw [spots_lenP]; exact e, hm, fun hn => ?_⟩
  obtain ⟨ad, ea, hx⟩ := hc hn
  refine ⟨ad, ea, fun j x hj => ?_⟩
  unfold spotsOf at hj
  rw [List.getElem?_map] at hj
  obtain ⟨s, hs, rfl⟩ := Option.map_eq_some_iff.1 hj
  obtain ⟨c, hl, hk, hcell⟩ := hx j s hs
  have hk : c = spCells s := hk
  subst hk
  exact ⟨spCells s, rfl, k74_mk w _, hcell⟩
theorem under_val2 (h a : Nat) (hd : 2 ^ h ∣ a) (ha : a + 2 ^ h ≤ 4611686018427387904) : cut_under.f (h : Int) ((a / 2 ^ h : Nat) : Int) = some ((a : Int), ((a + 2 ^ h : Nat) : Int), true) := by
  obtain ⟨q, rfl⟩ := hd
  have hp := p2_pos h
  have hh := height_of (a := 2 ^ h * q) (g := h) ha
  have e1 : q * 2 ^ h = 2 ^ h * q := Nat.mul_comm _ _
  have e2 : (q + 1) * 2 ^ h = 2 ^ h * q + 2 ^ h := by rw [Nat.add_mul, Nat.one_mul, e1]
  have hq : q ≤ 2 ^ h * q := Nat.le_mul_of_pos_left _ hp
  rw [Nat.mul_div_cancel_left _ hp]
  unfold cut_under.f
  rw [place_val h q (by rw [e2]; exact ha)]
  simp only [Option.bind_some]
  rw [if_pos trivial, if_pos (by omega), shl_nat q h (by omega) (by omega), w64_of ((q : Int) + 1) (by omega) (by omega), show ((q : Int) + 1) = ((q + 1 : Nat) : Int) by omega, shl_nat (q + 1) h (by omega) (by omega), e1, e2]
theorem over_loop (L : List (Nat × Nat)) (hl : L.length ≤ 1000000) (n : Nat) (hn : n ≤ 4611686018427387904) : ∀ (d i a f : Nat), i + d = L.length → Chain a (L.drop i) n →
    ∃ f' : Nat, Ev (fun k => cut_Over.l0 k (spotsOf L) (f : Int) (a : Int) (spotsOf L) ((spotsOf L).length : Int) (i : Int)) ((f' : Int), (n : Int), decide (((spotsOf L).length : Int) > 0))
  | 0, i, a, f, hi, hc => by
    rw [List.drop_of_length_le (by omega)] at hc
    have hc : a = n := hc
    subst hc
    exact ⟨f, Ev.step (f := fun _ => some ((f : Int), (a : Int), decide (((spotsOf L).length : Int) > 0))) (fun k => by simp only [cut_Over.l0]; rw [if_neg (by rw [spots_lenP]; omega)]) (Ev.now _)⟩
  | d + 1, i, a, f, hi, hc => by
    have hil : i < L.length := by omega
    rw [List.drop_eq_getElem_cons hil] at hc
    obtain ⟨h1, h2, h3⟩ := hc
    have hle := chain_le _ _ _ h3
    have hu := under_val2 (L[i]).1 a h1 (by omega)
    rw [← h2] at hu
    have e1 := up_one i (by omega)
    by_cases h0 : i = 0
    · obtain ⟨f', ih⟩ := over_loop L hl n hn d (i + 1) (a + 2 ^ (L[i]).1) a (by omega) h3
      refine ⟨f', Ev.step (f := fun k => cut_Over.j1 k (spotsOf L) (f : Int) (i : Int) (a : Int) ((a + 2 ^ (L[i]).1 : Nat) : Int) (spotsOf L) ((spotsOf L).length : Int) (i : Int) false) (fun k => ?_) ?_⟩
      · simp only [cut_Over.l0]
        rw [if_pos (by rw [spots_lenP]; omega), if_pos (by omega), if_pos (by rw [spots_lenP]; omega), rd_spotsP L i hil]
        show ((cut_under.f ((L[i]).1 : Int) ((L[i]).2 : Int)).bind _) = _
        rw [hu, Option.bind_some, if_pos rfl, if_neg (by omega)]
      · exact Ev.step (fun k => by simp only [cut_Over.j1]; rw [if_neg (by simp), if_pos (by omega), e1]) ih
    · obtain ⟨f', ih⟩ := over_loop L hl n hn d (i + 1) (a + 2 ^ (L[i]).1) f (by omega) h3
      refine ⟨f', Ev.step (f := fun k => cut_Over.j1 k (spotsOf L) (f : Int) (i : Int) (a : Int) ((a + 2 ^ (L[i]).1 : Nat) : Int) (spotsOf L) ((spotsOf L).length : Int) (i : Int) false) (fun k => ?_) ?_⟩
      · simp only [cut_Over.l0]
        rw [if_pos (by rw [spots_lenP]; omega), if_pos (by omega), if_pos (by rw [spots_lenP]; omega), rd_spotsP L i hil]
        show ((cut_under.f ((L[i]).1 : Int) ((L[i]).2 : Int)).bind _) = _
        rw [hu, Option.bind_some, if_pos rfl, if_pos (by omega)]
        simp
      · exact Ev.step (fun k => by simp only [cut_Over.j1]; rw [if_neg (by simp), if_neg (by omega), e1]) ih
theorem over_calls (L : List (Nat × Nat)) (n : Nat) (hch : Chain 0 L n) (hn : n ≤ 4611686018427387904) (hl : L.length ≤ 1000000) (A : Option Addr) (c : Nat) (w : World) (hC : kS.C w A L.length L) (hc : L.length ≤ c) :
    Calls Tryd.prog 84 #[.slice A L.length c] w fun e w' => ∃ f' : Nat, e = .returned (.tuple #[.int .u64 f', .int .u64 n, .bool (decide (0 < L.length))]) ∧ Below w.heap.size w w' := by
  obtain ⟨f', h⟩ := over_loop L hl n hn L.length 0 0 0 (by omega) (by rw [List.drop_zero]; exact hch)
  obtain ⟨k, hk⟩ := h.rounds
  have hC2 := C_spots hC
  have hcall := cut_Over.calls k A c (spotsOf L) _ _ _ w (by rw [spots_lenP]; exact hC2) (by rw [spots_lenP]; exact hc) hk
  rw [spots_lenP] at hcall
  refine hcall.mono ?_
  rintro e w' ⟨rfl, hb⟩
  refine ⟨f', ?_, hb⟩
  have : decide ((L.length : Int) > 0) = decide (0 < L.length) := decide_eq_decide.2 (by omega)
  rw [this]
set_option maxHeartbeats 2000000 in
set_option maxRecDepth 100000 in
theorem merge_calls (L : List (Nat × Nat)) (n : Nat) (hch : Chain 0 L n) (hn : n ≤ 4611686018427387904) (hl : L.length ≤ 1000000) (A : Option Addr) (c : Nat) (w : World) (hC : kS.C w A L.length L) (hc : L.length ≤ c) :
    Calls Tryd.prog 42 #[.slice A L.length c] w fun e w' => ∃ v, e = .returned (.tuple #[v, .bool true]) ∧ kS.R 74 w' w.heap.size (fun _ => True) v (topsN n) ∧ Below w.heap.size w w' := by
  have HOV := Aside0.mk (over_calls L n hch hn hl A c w hC hc)
  have HC := Aside0.mk hC
  have HCH := Aside0.mk hch
  clear hC hch
  by_cases h0 : 0 < L.length
  · have hd : decide (0 < L.length) = true := decide_eq_true h0
    rw [hd] at HOV
    go_enter Tryd.func42, Tryd.ntmps42
    go_wp2_with fail
    refine HOV.out.mono ?_
    rintro e w1 ⟨f', rfl, hb1⟩
    have HB1 := Aside0.mk hb1
    clear hb1
    go_wp2_with fail
    obtain ⟨bp, hbp⟩ : ∃ b, b = w1.heap.size := ⟨_, rfl⟩
    rw [← hbp]
    have hbx := heap_new2 w1 (.cells #[.slice none 0 0] 118) hbp
    have hbw : w.heap.size ≤ bp := by rw [hbp]; exact HB1.out.size
    have HB2 := Aside0.mk (blt HB1.out (bl_new w1 (.cells #[.slice none 0 0] 118)))
    generalize w1.alloc (.cells #[.slice none 0 0] 118) = w2 at *
    have HBX := Aside0.mk hbx
    clear hbx hbp
    go_loopw [25] (fun q wr => ∃ (i a : Nat) (A1 : Option Addr) (n1 c1 : Nat), i ≤ L.length ∧ q = .int .i64 i ∧ Aside0 (Chain a (L.drop i) n) ∧ Aside0 (Pile w wr bp A1 n1 c1 (topsN a)) ∧ Aside0 (Below w.heap.size w wr)) (fun q _ => L.length - (intOf q).toNat)
    case atStart => exact ⟨0, 0, none, 0, 0, Nat.zero_le _, rfl, ⟨by rw [List.drop_zero]; exact HCH.out⟩, ⟨HBX.out, by rw [show topsN 0 = [] from rfl]; exact Kd.R_nil _ _ _ _ _⟩, HB2⟩
    case round =>
      obtain ⟨i, a, A1, n1, c1, hi, rfl, HCn, HP, HB⟩ := hrel
      by_cases hlt : i < L.length
      · obtain ⟨ad, ea, x0, x1⟩ := at_spot (Kd.C_below HC.out HB.out) i hlt
        have hch := HCn.out
        rw [List.drop_eq_getElem_cons hlt] at hch
        obtain ⟨q1, q2, q3⟩ := hch
        have hle := chain_le _ _ _ q3
        rw [List.getD_eq_getElem?_getD, List.getElem?_eq_getElem hlt] at x0 x1
        simp only [Option.getD_some] at x0 x1
        rw [q2] at x1
        subst ea
        have HQ1 := Aside0.mk q1
        have HQ3 := Aside0.mk q3
        have HLE := Aside0.mk (show a + 2 ^ (L[i]).1 ≤ 4611686018427387904 by omega)
        clear q1 q2 q3 hle hi
        generalize (L[i]).1 = hh at *
        obtain ⟨ix, hix⟩ : ∃ z, z = a / 2 ^ hh := ⟨_, rfl⟩
        rw [← hix] at x1
        have HIX := Aside0.mk hix
        clear hix
        have HBa := Aside0.mk (blt HB.out (bl_new wr (.cells #[.int .u8 hh, .int .u64 ix] 74)))
        have HPa := Aside0.mk (HP.out.below (bl_new wr (.cells #[.int .u8 hh, .int .u64 ix] 74)))
        have hput := put_calls a hh bp n1 c1 A1 w (wr.alloc (.cells #[.int .u8 hh, .int .u64 ix] 74)) HQ1.out HLE.out HBa.out hbw HPa.out
        rw [← HIX.out] at hput
        have HPut := Aside0.mk hput
        clear hput
        go_wp2_with fail
        refine HPut.out.mono ?_
        rintro e w3 ⟨v3, A3, n3, c3, rfl, hp3, hf3, _⟩
        have HP3 := Aside0.mk hp3
        have HB3 := Aside0.mk (HBa.out.trans (hf3.below HBa.out.size (fun q hq => by
          rcases hq with hq | hq
          · rw [hq]; exact hbw
          · exact Kd.R_base HPa.out.2 q hq.symm)))
        clear hp3 hf3
        go_wp2_with fail
        go_roundw
        case rel => exact ⟨i + 1, a + 2 ^ hh, A3, n3, c3, hlt, by go_num, HQ3, HP3, HB3⟩
        case measure => simp [intOf]; omega
      · have hil : i = L.length := by omega
        have hch := HCn.out
        rw [List.drop_of_length_le (by omega)] at hch
        have hch : a = n := hch
        subst hch
        have k0 := (blk_cell HP.out.1 0).trans (rfl : _ = some (Value.slice A1 n1 c1))
        have hil2 : ¬ ((i : Int) < (L.length : Int)) := by omega
        clear hi hil hlt
        go_wp2_with fail
        go_ret2
        exact ⟨_, rfl, HP.out.2, HB.out⟩
  · have hL : L = [] := List.eq_nil_of_length_eq_zero (by omega)
    subst hL
    have hn0 : 0 = n := HCH.out
    subst hn0
    have hd : decide (0 < ([] : List (Nat × Nat)).length) = false := rfl
    rw [hd] at HOV
    go_enter Tryd.func42, Tryd.ntmps42
    go_wp2_with fail
    refine HOV.out.mono ?_
    rintro e w1 ⟨f', rfl, hb1⟩
    have HB1 := Aside0.mk hb1
    clear hb1
    go_wp2_with fail
    obtain ⟨bp, hbp⟩ : ∃ b, b = w1.heap.size := ⟨_, rfl⟩
    rw [← hbp]
    have hbx := heap_new2 w1 (.cells #[.slice none 0 0] 118) hbp
    have HB2 := Aside0.mk (blt HB1.out (bl_new w1 (.cells #[.slice none 0 0] 118)))
    generalize w1.alloc (.cells #[.slice none 0 0] 118) = w2 at *
    have HBX := Aside0.mk hbx
    clear hbx hbp
    go_loopw [25] (fun q wr => q = .int .i64 0 ∧ Aside0 (wr.heap[bp]? = some (.cells #[.slice none 0 0] 118 (0, 0))) ∧ Aside0 (Below w.heap.size w wr)) (fun _ _ => 0)
    case atStart => exact ⟨rfl, HBX, HB2⟩
    case round =>
      obtain ⟨rfl, HX, HB⟩ := hrel
      have k0 := (blk_cell HX.out 0).trans (rfl : _ = some (Value.slice none 0 0))
      go_wp2_with fail
      go_ret2
      exact ⟨_, rfl, by rw [show topsN 0 = [] from rfl]; exact Kd.R_nil _ _ _ _ _, HB.out⟩
end Go.Proofs.YtefnonlhepekdaaDoor.M

set_option linter.unusedVariables false
set_option linter.unusedSimpArgs false
namespace Go.Proofs.YtefnonlhepekdaaDoor.M
open Go.RowKit Go.Proofs.YtefnonlhepekdaaDoorW.PrintWords Go.Proofs.YtefnonlhepekdaaDoorW.PrintLast Go.Proofs.YtefnonlhepekdaaDoorW.PrintMore Go.Proofs.YtefnonlhepekdaaDoor.Leaf

end Go.Proofs.YtefnonlhepekdaaDoor.M

set_option linter.unusedVariables false
set_option linter.unusedSimpArgs false
namespace Go.Proofs.YtefnonlhepekdaaDoor.M
open Go.RowKit Go.Proofs.YtefnonlhepekdaaDoorW.PrintWords Go.Proofs.YtefnonlhepekdaaDoorW.PrintLast Go.Proofs.YtefnonlhepekdaaDoorW.PrintMore Go.Proofs.YtefnonlhepekdaaDoor.Leaf

theorem reps_int (k : IntKind) {w : World} {base : Nat} {ok : Nat → Prop} {xs : List Int} {cs : List Value} (h : Reps ((Kd.int k).M w base ok) (Kd.int k).sz xs cs) : cs = xs.map (Value.int k) := by
  have hl : cs.length = xs.length := by have := h.1; rwa [show (Kd.int k).sz = 1 from rfl, Nat.mul_one] at this
  refine List.ext_getElem? (fun j => ?_)
  rw [List.getElem?_map]
  by_cases hj : j < xs.length
  · have h2 := h.2 j xs[j] (List.getElem?_eq_getElem hj)
    have h3 : (cs.drop (j * 1)).take 1 = [Value.int k xs[j]] := h2
    rw [Nat.mul_one] at h3
    have h4 : ((cs.drop j).take 1)[0]? = some (Value.int k xs[j]) := by rw [h3]; rfl
    rw [List.getElem?_take_of_lt (by omega), List.getElem?_drop, Nat.add_zero] at h4
    rw [h4, List.getElem?_eq_getElem hj]
    rfl
  · rw [List.getElem?_eq_none (by omega), List.getElem?_eq_none (by omega)]
    rfl
theorem int_reps (k : IntKind) (w : World) (base : Nat) (ok : Nat → Prop) (xs : List Int) : Reps ((Kd.int k).M w base ok) (Kd.int k).sz xs (xs.map (Value.int k)) := by
  refine ⟨by rw [List.length_map]; exact (Nat.mul_one _).symm, fun j p hj => ?_⟩
  show ((xs.map (Value.int k)).drop (j * 1)).take 1 = [Value.int k p]
  rw [Nat.mul_one]
  have hl := (List.getElem?_eq_some_iff.1 hj).1
  rw [List.drop_eq_getElem_cons (by rw [List.length_map]; exact hl)]
  simp [(List.getElem?_eq_some_iff.1 hj).2]
/-- A row of numbers of one's own, laid open. -/
structure BlkD (k : IntKind) (e : Nat) (w : World) (base : Nat) (v : Value) (xs : List Int) (g cap : Nat) (cur : Array Value) : Prop where
  val : v = .slice (some ⟨g, 0, none⟩) xs.length cap
  base_le : base ≤ g
  heap : w.heap[g]? = some (.cells cur e (0, 0))
  len : xs.length ≤ cap
  max : cap ≤ maxLen
  size : cur.size = cap
  row : cur.toList.take xs.length = xs.map (Value.int k)
theorem R_open {k : IntKind} {e : Nat} {w : World} {base : Nat} {v : Value} {xs : List Int} (h : (Kd.int k).R e w base (fun _ => True) v xs) (h0 : 0 < xs.length) : ∃ g cap cur, BlkD k e w base v xs g cap cur := by
  obtain ⟨_, inner, ho, hr⟩ := h
  have hi := reps_int k hr
  subst hi
  rcases ho.2 with ⟨_, hz⟩ | ⟨g, cap, cur, he, hb, hh, hnc, hcm, hcs, ht⟩
  · omega
  · have e1 : (Kd.int k).sz = 1 := rfl
    rw [e1, Nat.mul_one] at hcs ht
    exact ⟨g, cap, cur, he, hb, hh, hnc, hcm, hcs, ht⟩
theorem BlkD.R {k : IntKind} {e : Nat} {w : World} {base : Nat} {v : Value} {xs : List Int} {g cap : Nat} {cur : Array Value} (h : BlkD k e w base v xs g cap cur) : (Kd.int k).R e w base (fun _ => True) v xs := by
  refine ⟨fun _ _ => trivial, xs.map (Value.int k), ⟨?_, .inr ⟨g, cap, cur, h.val, h.base_le, h.heap, h.len, h.max, ?_, ?_⟩⟩, int_reps k _ _ _ xs⟩
  · rw [List.length_map]; exact (Nat.mul_one _).symm
  · rw [h.size]; exact (Nat.mul_one _).symm
  · rw [show (Kd.int k).sz = 1 from rfl, Nat.mul_one]; exact h.row
theorem cell_of {w : World} {g : Nat} {cur : Array Value} {e : TypeId} (h : w.heap[g]? = some (.cells cur e (0, 0))) (o : Nat) : w.cell? ⟨g, o, none⟩ = cur[o]? := by
  show (match w.heap[g]? with | some (.cells c _ _) => if (none : Option Nat).isSome then none else c[o]? | _ => none) = _
  rw [h]
  rfl
theorem frozen_of {w : World} {g : Nat} {cur : Array Value} {e : TypeId} (h : w.heap[g]? = some (.cells cur e (0, 0))) (o : Nat) (hf : o < cur.size) : w.frozen? ⟨g, o, none⟩ = false := by
  unfold World.frozen?
  simp [h]
set_option maxHeartbeats 2000000 in
set_option maxRecDepth 100000 in
theorem delete_one (i j : Nat) (hj : j = i + 1) (w : World) (base : Nat) (v : Value) (xs : List Int) (h : (Kd.int .u64).R 30 w base (fun _ => True) v xs) (hi : i < xs.length) :
    Calls Tryd.prog 65 #[v, .int .i64 i, .int .i64 j] w fun e w' => ∃ v', e = .returned v' ∧ (Kd.int .u64).R 30 w' base (fun _ => True) v' (xs.eraseIdx i) ∧ Frm (fun k => some k = v.ownBlock) w w' ∧ v'.ownBlock = v.ownBlock := by
  obtain ⟨g, cap, cur, B⟩ := R_open h (by omega)
  obtain ⟨rfl, hbase, hh, hlen, hmax, hsize, hrow⟩ := B
  have hmax' : cap ≤ 9223372036854775807 := hmax
  have hglt : g < w.heap.size := (Array.getElem?_eq_some_iff.1 hh).1
  generalize hn : xs.length = n at *
  have hjn : j ≤ n := by omega
  have hij : i < j := by omega
  -- the numbers that are moved to the left
  obtain ⟨news, hnews⟩ : ∃ news, news = (xs.drop j).map (Value.int .u64) := ⟨_, rfl⟩
  have hnl : news.length = n - j := by rw [hnews]; simp [hn]
  have hget : ∀ j, j < n → cur[j]? = (xs.map (Value.int .u64))[j]? := by
    intro j hj
    rw [← hrow, List.getElem?_take_of_lt hj, Array.getElem?_toList]
  obtain ⟨A, hA, hsrc⟩ : ∃ A : Addr, (if cap = j then some (⟨g, 0, none⟩ : Addr) else some ⟨g, j, none⟩) = some A ∧ Hid (∀ t u, news[t]? = some u → w.drew.cell? (A.add t) = some u) := by
    by_cases hc : cap = j
    · refine ⟨⟨g, 0, none⟩, by simp [hc], fun t u hu => ?_⟩
      have h0 : news.length = 0 := by omega
      rw [List.length_eq_zero_iff.1 h0] at hu
      simp at hu
    · refine ⟨⟨g, j, none⟩, by simp [hc], fun t u hu => ?_⟩
      have ht : t < n - j := by
        have := (List.getElem?_eq_some_iff.1 hu).1
        omega
      rw [hnews, List.map_drop, List.getElem?_drop] at hu
      rw [Addr.add_lit]
      show w.cell? ⟨g, j + t, none⟩ = some u
      rw [cell_of hh, hget _ (by omega)]
      exact hu
  obtain ⟨W1, hW1⟩ : ∃ W1, W1 = w.drew.setCells g (0 + i * 1) news := ⟨_, rfl⟩
  have hhd : w.drew.heap[g]? = some (.cells cur 30 (0, 0)) := hh
  obtain ⟨c1, hc1, hs1, ht1⟩ := setCells_row (g := g) news (0 + i * 1) w.drew cur hhd (by omega)
  rw [← hW1] at hc1
  have s1 : Hid (news.length = (n - j) * 1) := by show news.length = _; omega
  have s2 : Hid (∀ u ∈ news, u.oneCell' = true) := by
    intro u hu
    rw [hnews] at hu
    obtain ⟨x, _, rfl⟩ := List.mem_map.1 hu
    rfl
  have s3 : Hid (∀ t, t < news.length → (w.drew.cell? ⟨g, 0 + i * 1 + t, none⟩).isSome = true ∧ w.drew.frozen? ⟨g, 0 + i * 1 + t, none⟩ = false) := by
    intro t ht
    refine ⟨?_, frozen_of hhd _ (by omega)⟩
    rw [cell_of hhd, Array.getElem?_eq_getElem (by omega)]
    rfl
  have hcl : ∀ ty, (Builtin.clear_ #[31] ty #[.slice (some ⟨g, i + (n - j), none⟩) (n - (i + (n - j))) (cap - (i + (n - j)))]).run Tryd.prog W1 = .ok (.tuple #[]) (W1.setCells g (i + (n - j)) (List.replicate (n - (i + (n - j))) (.int .u64 0))) :=
    fun ty => Lib.run_clear_slice W1 _ _ ty _ Tryd.underlying31 (fun w => (by kernel_rfl)) rfl rfl g (i + (n - j)) _ _ (by omega) (fun t ht => by rw [cell_of hc1, Array.getElem?_eq_getElem (by omega)]; rfl) (fun t ht => frozen_of hc1 _ (by omega))
  have S1 := Aside0.mk hc1
  have S2 := Aside0.mk ht1
  have S3 := Aside0.mk hs1
  have hW : Hid (W1 = w.drew.setCells g (0 + i * 1) news) := hW1
  have S4 := Aside0.mk hrow
  have S5 := Aside0.mk hnews
  have hic : i ≤ cap := by omega
  have mixed : Tryd.prog.follows .mixedOrders = true := by kernel_rfl
  have HJ := Aside0.mk hj
  have hjc : j ≤ cap := by omega
  clear hj
  clear hW1 hc1 ht1 hs1 hrow hnews hget hh hhd h
  go_enter Tryd.func65, Tryd.ntmps65
  go_wp2_with fail
  go_region_law_o (refine step_append_room rfl (.tmp 22) (.tmp 25) 31 rfl 30 _ 1 Tryd.underlying31 rfl rfl g 0 i cap (by simp [Act.eval, Act.put]) A (n - j) (cap - j) news (by simp [Act.eval, Act.put]) s1.out hsrc.out s2.out (by omega) s3.out ?_; rw [← hW.out])
  go_wp2
  go_ret
  have hj := HJ.out
  rw [show n - (i + (n - j)) = 1 by omega]
  have hh2 := S1.out
  obtain ⟨c2, h2, hs2, ht2⟩ := setCells_row (g := g) (List.replicate 1 (Value.int .u64 0)) (i + (n - j)) W1 c1 hh2 (by rw [S3.out, hsize, List.length_replicate]; omega)
  have hxe : (xs.eraseIdx i).length = i + (n - j) := by rw [List.length_eraseIdx_of_lt (by omega)]; omega
  refine ⟨.slice (some ⟨g, 0, none⟩) (i + (n - j)) cap, rfl, BlkD.R (g := g) (cap := cap) (cur := c2) ⟨by rw [hxe], hbase, h2, by omega, hmax, by rw [hs2, S3.out, hsize], ?_⟩, ?_, rfl⟩
  · have hc : cur.toList.length = cap := by rw [Array.length_toList]; exact hsize
    have hc1 : c1.toList.length = cap := by rw [Array.length_toList, S3.out]; exact hsize
    have e1 : (cur.toList.take (0 + i * 1)) = (xs.take i).map (Value.int .u64) := by
      rw [show 0 + i * 1 = i by omega, List.map_take, ← S4.out, List.take_take, show min i n = i by omega]
    have e2 : ((xs.take i).map (Value.int .u64) ++ news).length = i + (n - j) := by rw [List.length_append, List.length_map, List.length_take, hnl, hn]; omega
    rw [hxe, ht2, List.append_assoc, List.take_left' (by rw [List.length_take, hc1]; omega), S2.out, e1, List.take_left' e2, S5.out, List.eraseIdx_eq_take_drop_succ, List.map_append, hj]
  · refine ⟨?_, ?_, ?_, ?_, fun k hk hne => ?_⟩
    · exact (setCells_same g _ _ _).1.trans (by rw [hW.out]; exact (setCells_same g _ _ _).1)
    · exact (setCells_same g _ _ _).2.1.trans (by rw [hW.out]; exact (setCells_same g _ _ _).2.1)
    · exact (setCells_same g _ _ _).2.2.1.trans (by rw [hW.out]; exact (setCells_same g _ _ _).2.2.1)
    · exact Nat.le_of_eq ((setCells_same g _ _ _).2.2.2.trans (by rw [hW.out]; exact (setCells_same g _ _ _).2.2.2)).symm
    · have hkg : k ≠ g := fun e => hne (by rw [e]; rfl)
      rw [setCells_far _ _ k hkg, hW.out, setCells_far _ _ k hkg]
      rfl
end Go.Proofs.YtefnonlhepekdaaDoor.M
