/- What pos.Peak, pos.Path, pos.Under come to, by the plain laws. -/
import Derived.Test.YtagcabmccpekaaaMathC
import Derived.Test.YtagcabmccpekaaaMathE
namespace Go.Proofs.Ytagcabmccpekaaa.M
open Go.RowKit Go.Proofs.YtagcabmccpekaaaW.PrintWords Go.Proofs.YtagcabmccpekaaaW.PrintLast Go.Proofs.YtagcabmccpekaaaW.PrintMore Go.Proofs.Ytagcabmccpekaaa.Leaf

theorem xor64 (a b : Nat) (ha : a < 18446744073709551616) (hb : b < 18446744073709551616) : Go.bits .xor .u64 (a : Int) (b : Int) = ((a ^^^ b : Nat) : Int) := by
  have hx : a ^^^ b < 2 ^ 64 := Nat.xor_lt_two_pow (by omega) (by omega)
  have e1 : ((a : Int) % 18446744073709551616).toNat = a := by omega
  have e2 : ((b : Int) % 18446744073709551616).toNat = b := by omega
  show IntKind.u64.wrap ((((a : Int) % 18446744073709551616).toNat ^^^ ((b : Int) % 18446744073709551616).toNat : Nat) : Int) = _
  rw [e1, e2]
  exact w64_nat _ (by omega)
theorem height_val (i n k : Nat) (h : i < n) (hn : n ≤ 4611686018427387904) : pos_height.f k (i : Int) (n : Int) = some ((hiN i n : Nat) : Int) := by
  have hx : i ^^^ n < 2 ^ 64 := Nat.xor_lt_two_pow (by omega) (by omega)
  have hl := (hi_lv h (by omega)).2
  have hle := hi_le h hn
  unfold pos_height.f num_High.f bits_Len64.f
  rw [xor64 i n (by omega) (by omega), if_pos (by omega)]
  simp only [Option.bind_some, Int.toNat_natCast]
  rw [hl, i64_of _ (by omega) (by omega)]
  exact congrArg some (by omega)
theorem peak_val (i n : Nat) (h : i < n) (hn : n ≤ 4611686018427387904) : Ev (fun k => pos_Peak.f k (i : Int) (n : Int)) (((overN i n : Nat) : Int), true) := by
  have hle := hi_le h hn
  have hp := pop_lef 64 (n / 2 ^ (hiN i n + 1))
  unfold pos_Peak.f
  refine Ev.congr (fun k => if_neg (by omega)) ?_
  rw [show decide ((i : Int) ≥ (n : Int)) = false by simp; omega]
  refine Ev.step (fun k => by simp only [pos_Peak.j0]; rw [if_neg (by simp), height_val i n _ h hn, Option.bind_some]) ?_
  have e1 : shr .u64 (n : Int) ((hiN i n : Nat) : Int) / 2 = ((n / 2 ^ (hiN i n + 1) : Nat) : Int) := by
    rw [shr_nat n _ (by omega), ← half_up]
    omega
  refine Ev.congr (fun k => if_pos (by omega)) ?_
  rw [e1]
  unfold num_Ones.f
  rw [ones_val _ (Nat.lt_of_le_of_lt (Nat.div_le_self _ _) (by omega))]
  exact Ev.now _
theorem peak_none (i n : Nat) (h : n ≤ i ∨ 4611686018427387904 < n) : Ev (fun k => pos_Peak.f k (i : Int) (n : Int)) (0, false) := by
  unfold pos_Peak.f
  by_cases hc : 4611686018427387904 < n
  · refine Ev.congr (fun k => if_pos (by omega)) ?_
    exact Ev.step (f := fun _ => some (0, false)) (fun k => by simp only [pos_Peak.j0]; rw [if_pos trivial]) (Ev.now _)
  · refine Ev.congr (fun k => if_neg (by omega)) ?_
    rw [show decide ((i : Int) ≥ (n : Int)) = true by simp; omega]
    exact Ev.step (f := fun _ => some (0, false)) (fun k => by simp only [pos_Peak.j0]; rw [if_pos trivial]) (Ev.now _)
theorem path_loop (i n : Nat) (h : i < n) (hn : n ≤ 4611686018427387904) : ∀ (d k : Nat), k + d = hiN i n → Ev (fun j => pos_Path.l0 j (i : Int) (placesOf (sibsN i k)) ((hiN i n : Nat) : Int) (k : Int)) (placesOf (sibsN i (hiN i n)), true)
  | 0, k, hk => by
    have : k = hiN i n := by omega
    subst this
    exact Ev.step (f := fun _ => some (placesOf (sibsN i (hiN i n)), true)) (fun j => by simp only [pos_Path.l0]; rw [if_neg (by omega)]) (Ev.now _)
  | d + 1, k, hk => by
    have hle := hi_le h hn
    have ih := path_loop i n h hn d (k + 1) (by omega)
    have hq : i / 2 ^ k < 18446744073709551616 := Nat.lt_of_le_of_lt (Nat.div_le_self _ _) (by omega)
    have ex : Go.bits .xor .u64 (shr .u64 (i : Int) (k : Int)) 1 = ((sibN (i / 2 ^ k) : Nat) : Int) := by
      rw [shr_nat i k (by omega)]
      have := xor64 (i / 2 ^ k) 1 hq (by omega)
      rw [show (((1 : Nat) : Int)) = 1 from rfl] at this
      rw [this, sib_xor]
    have hm : (k, sibN (i / 2 ^ k)) ∈ proofN i n := by
      unfold proofN
      refine List.mem_append.2 (.inl ?_)
      simp only [sibsN, List.mem_map, List.mem_range]
      exact ⟨k, by omega, rfl⟩
    have hf := proof_fit h hn _ hm
    have pv : pos_Place.f ((k : Int) % 256) ((sibN (i / 2 ^ k) : Nat) : Int) = some (((placeN k (sibN (i / 2 ^ k)) : Nat) : Int), true) := by
      rw [show (k : Int) % 256 = k by omega]
      exact place_val k _ (by have := hf; simp only at this; omega)
    have e2 : wrap64 ((k : Int) + 1) = ((k + 1 : Nat) : Int) := by rw [i64_of _ (by omega) (by omega)]; omega
    have e3 : placesOf (sibsN i (k + 1)) = placesOf (sibsN i k) ++ [((placeN k (sibN (i / 2 ^ k)) : Nat) : Int)] := by
      simp [placesOf, sibsN, List.range_succ]
    have hlen : (placesOf (sibsN i k)).length < 17592186044416 := by simp [placesOf, sibsN]; omega
    rw [e3] at ih
    exact Ev.step (fun j => by simp only [pos_Path.l0]; rw [if_pos (by omega), if_pos (by omega), ex, pv]; simp only [Option.bind_some]; rw [if_pos hlen, e2]) ih
theorem path_val (i n : Nat) (h : i < n) (hn : n ≤ 4611686018427387904) : Ev (fun k => pos_Path.f k (i : Int) (n : Int)) (placesOf (sibsN i (hiN i n)), true) := by
  unfold pos_Path.f
  refine Ev.bind (peak_val i n h hn) ?_
  refine Ev.congr (fun k => if_pos rfl) ?_
  refine Ev.congr (fun k => by rw [height_val i n k h hn, Option.bind_some]) ?_
  exact path_loop i n h hn (hiN i n) 0 (by omega)
theorem path_none (i n : Nat) (h : n ≤ i ∨ 4611686018427387904 < n) : Ev (fun k => pos_Path.f k (i : Int) (n : Int)) ([], false) := by
  unfold pos_Path.f
  refine Ev.bind (peak_none i n h) ?_
  exact Ev.now _
theorem under_val (h i : Nat) (hi : (i + 1) * 2 ^ h ≤ 4611686018427387904) : Ev (fun k => pos_Under.f k ((placeN h i : Nat) : Int)) (((i * 2 ^ h : Nat) : Int), (((i + 1) * 2 ^ h : Nat) : Int), true) := by
  have hh := height_le h i hi
  have hp := p2_pos h
  have h1 : (i + 1) * 2 ^ h = i * 2 ^ h + 2 ^ h := by rw [Nat.add_mul, Nat.one_mul]
  have hi1 : i + 1 ≤ 4611686018427387904 := Nat.le_trans (Nat.le_mul_of_pos_right _ hp) hi
  unfold pos_Under.f
  refine Ev.bind (spot_val h i hi) ?_
  refine Ev.congr (fun k => if_pos rfl) ?_
  refine Ev.congr (fun k => if_pos (by show (0 : Int) ≤ (h : Int); omega)) ?_
  show Ev (fun _ => some (shl .u64 (i : Int) (h : Int), shl .u64 (IntKind.u64.wrap ((i : Int) + 1)) (h : Int), true)) _
  rw [w64_of ((i : Int) + 1) (by omega) (by omega), shl_nat i h (by omega) (by omega), show ((i : Int) + 1) = ((i + 1 : Nat) : Int) by omega, shl_nat (i + 1) h (by omega) (by omega)]
  exact Ev.now _
end Go.Proofs.Ytagcabmccpekaaa.M
