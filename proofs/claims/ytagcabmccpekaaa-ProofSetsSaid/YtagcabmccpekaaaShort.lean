/- num.Short and massifref1.Short make the same bytes. -/
import Derived.Test.YtagcabmccpekaaaMathC
namespace Go.Proofs.Ytagcabmccpekaaa.M
open Go.RowKit Go.Proofs.YtagcabmccpekaaaW.PrintWords Go.Proofs.YtagcabmccpekaaaW.PrintLast Go.Proofs.YtagcabmccpekaaaW.PrintMore Go.Proofs.Ytagcabmccpekaaa.Leaf

/-- A number in as few bytes as it needs, by at most f + 1 of them. -/
def shortF : Nat → Nat → List Nat
  | 0, x => [x]
  | f + 1, x => if x < 128 then [x] else (128 + x % 128) :: shortF f (x / 128)
def shortI (x : Nat) : List Int := (shortF 9 x).map fun (b : Nat) => (b : Int)
theorem shortF_len : ∀ f x, (shortF f x).length ≤ f + 1
  | 0, x => by simp [shortF]
  | f + 1, x => by
    have := shortF_len f (x / 128)
    simp only [shortF]
    split <;> simp <;> omega
theorem shortF_pos : ∀ f x, 0 < (shortF f x).length
  | 0, x => by simp [shortF]
  | f + 1, x => by
    simp only [shortF]
    split <;> simp
theorem or128 (x : Nat) : Go.bits .or .u8 ((x : Int) % 256) 128 = ((128 + x % 128 : Nat) : Int) := by
  have h := u8_or_nat (x % 256) 128 (by omega) (by omega)
  have h2 : x % 256 ||| 128 = 128 + x % 128 := by
    have : ∀ y : Fin 256, y.val ||| 128 = 128 + y.val % 128 := by decide +kernel
    have h3 := this ⟨x % 256, by omega⟩
    simp only at h3
    omega
  rw [h2] at h
  exact h
theorem short_loop (f : Nat) : ∀ (x : Nat) (xs : List Int), x < 2 ^ (7 * f + 1) → f ≤ 9 → xs.length + f ≤ 9 → Ev (fun k => num_Short.l0 k (x : Int) xs) (xs ++ (shortF f x).map fun (b : Nat) => (b : Int)) := by
  induction f with
  | zero =>
    intro x xs hx hf hl
    simp at hx
    exact Ev.step (f := fun _ => some (xs ++ [(x : Int)])) (fun k => by simp only [num_Short.l0]; rw [if_neg (by omega), if_pos (by omega), show (x : Int) % 256 = x by omega]) (Ev.now _)
  | succ f ih =>
    intro x xs hx hf hl
    by_cases c : x < 128
    · rw [show shortF (f + 1) x = [x] by simp only [shortF]; rw [if_pos c]]
      exact Ev.step (f := fun _ => some (xs ++ [(x : Int)])) (fun k => by simp only [num_Short.l0]; rw [if_neg (by omega), if_pos (by omega), show (x : Int) % 256 = x by omega]) (Ev.now _)
    · rw [show shortF (f + 1) x = (128 + x % 128) :: shortF f (x / 128) by simp only [shortF]; rw [if_neg c]]
      have ih := ih (x / 128) (xs ++ [((128 + x % 128 : Nat) : Int)]) (by rw [show 7 * (f + 1) + 1 = (7 * f + 1) + 7 by omega, Nat.pow_add] at hx; omega) (by omega) (by simp; omega)
      rw [List.map_cons, show xs ++ ((128 + x % 128 : Nat) : Int) :: (shortF f (x / 128)).map (fun (b : Nat) => (b : Int)) = xs ++ [((128 + x % 128 : Nat) : Int)] ++ (shortF f (x / 128)).map (fun (b : Nat) => (b : Int)) by simp]
      refine Ev.step (fun k => by simp only [num_Short.l0]; rw [if_pos (by omega), if_pos (by omega), or128, show (x : Int) / 128 = ((x / 128 : Nat) : Int) by omega]) ih
theorem short_val (x : Nat) (hx : x < 18446744073709551616) : Ev (fun k => num_Short.f k (x : Int)) (shortI x) := by
  have h := short_loop 9 x [] (by omega) (by omega) (by simp)
  exact h
theorem short1_loop (f : Nat) : ∀ (x : Nat) (xs : List Int), x < 2 ^ (7 * f + 1) → f ≤ 9 → xs.length + f ≤ 9 → Ev (fun k => massifref1_Short.l0 k (x : Int) xs) (xs ++ (shortF f x).map fun (b : Nat) => (b : Int)) := by
  induction f with
  | zero =>
    intro x xs hx hf hl
    simp at hx
    exact Ev.step (f := fun _ => some (xs ++ [(x : Int)])) (fun k => by simp only [massifref1_Short.l0]; rw [if_neg (by omega), if_pos (by omega), show (x : Int) % 256 = x by omega]) (Ev.now _)
  | succ f ih =>
    intro x xs hx hf hl
    by_cases c : x < 128
    · rw [show shortF (f + 1) x = [x] by simp only [shortF]; rw [if_pos c]]
      exact Ev.step (f := fun _ => some (xs ++ [(x : Int)])) (fun k => by simp only [massifref1_Short.l0]; rw [if_neg (by omega), if_pos (by omega), show (x : Int) % 256 = x by omega]) (Ev.now _)
    · rw [show shortF (f + 1) x = (128 + x % 128) :: shortF f (x / 128) by simp only [shortF]; rw [if_neg c]]
      have hb : x < 18446744073709551616 := Nat.lt_of_lt_of_le hx (Nat.pow_le_pow_right (by omega) (by omega : 7 * (f + 1) + 1 ≤ 64))
      have ih := ih (x / 128) (xs ++ [((128 + x % 128 : Nat) : Int)]) (by rw [show 7 * (f + 1) + 1 = (7 * f + 1) + 7 by omega, Nat.pow_add] at hx; omega) (by omega) (by simp; omega)
      rw [List.map_cons, show xs ++ ((128 + x % 128 : Nat) : Int) :: (shortF f (x / 128)).map (fun (b : Nat) => (b : Int)) = xs ++ [((128 + x % 128 : Nat) : Int)] ++ (shortF f (x / 128)).map (fun (b : Nat) => (b : Int)) by simp]
      have e1 : IntKind.u64.wrap (Int.tmod (x : Int) 128 + 128) % 256 = ((128 + x % 128 : Nat) : Int) := by
        rw [Int.tmod_eq_emod_of_nonneg (by omega), w64_of _ (by omega) (by omega)]
        omega
      have e2 : IntKind.u64.wrap (Int.tdiv (x : Int) 128) = ((x / 128 : Nat) : Int) := by
        rw [Int.tdiv_eq_ediv_of_nonneg (by omega), w64_of _ (by omega) (by omega)]
        omega
      refine Ev.step (fun k => by simp only [massifref1_Short.l0]; rw [if_pos (by omega), if_pos (by omega), e1, e2]) ih
theorem short1_val (x : Nat) (hx : x < 18446744073709551616) : Ev (fun k => massifref1_Short.f k (x : Int)) (shortI x) := by
  have h := short1_loop 9 x [] (by omega) (by omega) (by simp)
  exact h
theorem shortI_len (x : Nat) : (shortI x).length ≤ 10 := by
  have := shortF_len 9 x
  simpa [shortI] using this
end Go.Proofs.Ytagcabmccpekaaa.M
