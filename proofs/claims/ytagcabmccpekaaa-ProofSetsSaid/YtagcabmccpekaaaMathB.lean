/- math/bits.OnesCount64's arithmetic counts the set bits. -/
import Derived.Test.YtagcabmccpekaaaLeaf
import Derived.Test.YtagcabmccpekaaaMathA
namespace Go.Proofs.Ytagcabmccpekaaa.M
open Go.RowKit Go.Proofs.YtagcabmccpekaaaW.PrintWords Go.Proofs.YtagcabmccpekaaaW.PrintLast Go.Proofs.YtagcabmccpekaaaW.PrintMore Go.Proofs.Ytagcabmccpekaaa.Leaf

theorem and_split (u v p q : Nat) (hu : u < 256) (hp : p < 256) : (u + 256 * v) &&& (p + 256 * q) = (u &&& p) + 256 * (v &&& q) := by
  have hup : u &&& p < 2 ^ 8 := Nat.and_lt_two_pow _ hp
  rw [show u + 256 * v = 2 ^ 8 * v + u by omega, show p + 256 * q = 2 ^ 8 * q + p by omega, show (u &&& p) + 256 * (v &&& q) = 2 ^ 8 * (v &&& q) + (u &&& p) by omega]
  apply Nat.eq_of_testBit_eq
  intro i
  rw [Nat.testBit_and, Nat.testBit_two_pow_mul_add v hu, Nat.testBit_two_pow_mul_add q hp, Nat.testBit_two_pow_mul_add (v &&& q) hup]
  split <;> simp [Nat.testBit_and]

def st1 (m x : Nat) : Nat := (x / 2 &&& m) + (x &&& m)
def st2 (m x : Nat) : Nat := (x / 4 &&& m) + (x &&& m)
def st3 (m x : Nat) : Nat := (x / 16 + x) &&& m
theorem by1 : ∀ b : Fin 256, ∀ c : Fin 2, ((b.val / 2 + 128 * c.val) &&& 85) + (b.val &&& 85) = st1 85 b.val ∧ st1 85 b.val ≤ 170 := by decide +kernel
theorem by2 : ∀ b : Fin 171, ∀ c : Fin 4, ((b.val / 4 + 64 * c.val) &&& 51) + (b.val &&& 51) = st2 51 b.val ∧ st2 51 b.val ≤ 102 := by decide +kernel
theorem by3 : ∀ b : Fin 103, ∀ c : Fin 5, b.val % 16 ≤ 4 → b.val / 16 ≤ 4 → ((b.val / 16 + 16 * c.val + b.val) &&& 15) = st3 15 b.val := by decide +kernel
theorem by4 : ∀ b : Fin 256, st3 15 (st2 51 (st1 85 b.val)) = Lib.popAux 8 b.val ∧ st2 51 (st1 85 b.val) % 16 ≤ 4 ∧ st2 51 (st1 85 b.val) / 16 ≤ 4 := by decide +kernel

theorem st1_byte (b y m : Nat) (hb : b < 256) : st1 (85 + 256 * m) (b + 256 * y) = st1 85 b + 256 * st1 m y := by
  have h := (by1 ⟨b, hb⟩ ⟨y % 2, by omega⟩).1
  simp only at h
  unfold st1 at h ⊢
  rw [show (b + 256 * y) / 2 = (b / 2 + 128 * (y % 2)) + 256 * (y / 2) by omega, and_split _ _ _ _ (by omega) (by omega), and_split _ _ _ _ hb (by omega)]
  omega
theorem st2_byte (b y m : Nat) (hb : b ≤ 170) : st2 (51 + 256 * m) (b + 256 * y) = st2 51 b + 256 * st2 m y := by
  have h := (by2 ⟨b, by omega⟩ ⟨y % 4, by omega⟩).1
  simp only at h
  unfold st2 at h ⊢
  rw [show (b + 256 * y) / 4 = (b / 4 + 64 * (y % 4)) + 256 * (y / 4) by omega, and_split _ _ _ _ (by omega) (by omega), and_split _ _ _ _ (by omega) (by omega)]
  omega
theorem st3_byte (b y m : Nat) (hb1 : b % 16 ≤ 4) (hb2 : b / 16 ≤ 4) (hy : y % 16 ≤ 4) : st3 (15 + 256 * m) (b + 256 * y) = st3 15 b + 256 * st3 m y := by
  have h := by3 ⟨b, by omega⟩ ⟨y % 16, by omega⟩ hb1 hb2
  simp only at h
  unfold st3 at h ⊢
  rw [show (b + 256 * y) / 16 + (b + 256 * y) = (b / 16 + 16 * (y % 16) + b) + 256 * (y / 16 + y) by omega, and_split _ _ _ _ (by omega) (by omega), h]

theorem pop_join : ∀ (f k x y : Nat), x < 2 ^ f → Lib.popAux (f + k) (x + 2 ^ f * y) = Lib.popAux f x + Lib.popAux k y
  | 0, k, x, y, hx => by
    have : x = 0 := by simpa using hx
    subst this
    simp [Lib.popAux]
  | f + 1, k, x, y, hx => by
    have h2 : 2 ^ (f + 1) = 2 * 2 ^ f := by rw [Nat.pow_succ]; omega
    have ih := pop_join f k (x / 2) y (by omega)
    have e : 2 ^ (f + 1) * y = 2 * (2 ^ f * y) := by rw [h2, Nat.mul_assoc]
    rw [show f + 1 + k = (f + k) + 1 by omega]
    simp only [Lib.popAux]
    rw [show (x + 2 ^ (f + 1) * y) / 2 = x / 2 + 2 ^ f * y by rw [e]; omega, ih, show (x + 2 ^ (f + 1) * y) % 2 = x % 2 by rw [e]; omega]
    omega

/-- What the first three steps make of a number, byte by byte. -/
def swar (x : Nat) : Nat := st3 1085102592571150095 (st2 3689348814741910323 (st1 6148914691236517205 x))
theorem swar_bytes (b0 b1 b2 b3 b4 b5 b6 b7 : Nat) (h0 : b0 < 256) (h1 : b1 < 256) (h2 : b2 < 256) (h3 : b3 < 256) (h4 : b4 < 256) (h5 : b5 < 256) (h6 : b6 < 256) (h7 : b7 < 256) :
    swar (b0 + 256 * (b1 + 256 * (b2 + 256 * (b3 + 256 * (b4 + 256 * (b5 + 256 * (b6 + 256 * b7))))))) =
      Lib.popAux 8 b0 + 256 * (Lib.popAux 8 b1 + 256 * (Lib.popAux 8 b2 + 256 * (Lib.popAux 8 b3 + 256 * (Lib.popAux 8 b4 + 256 * (Lib.popAux 8 b5 + 256 * (Lib.popAux 8 b6 + 256 * Lib.popAux 8 b7)))))) := by
  have s1 : ∀ b, b < 256 → st1 85 b ≤ 170 := fun b hb => (by1 ⟨b, hb⟩ 0).2
  have s4 : ∀ b, b < 256 → st3 15 (st2 51 (st1 85 b)) = Lib.popAux 8 b ∧ st2 51 (st1 85 b) % 16 ≤ 4 ∧ st2 51 (st1 85 b) / 16 ≤ 4 := fun b hb => by4 ⟨b, hb⟩
  unfold swar
  rw [show 6148914691236517205 = 85 + 256 * (85 + 256 * (85 + 256 * (85 + 256 * (85 + 256 * (85 + 256 * (85 + 256 * 85)))))) from rfl,
    show 3689348814741910323 = 51 + 256 * (51 + 256 * (51 + 256 * (51 + 256 * (51 + 256 * (51 + 256 * (51 + 256 * 51)))))) from rfl,
    show 1085102592571150095 = 15 + 256 * (15 + 256 * (15 + 256 * (15 + 256 * (15 + 256 * (15 + 256 * (15 + 256 * 15)))))) from rfl]
  rw [st1_byte _ _ _ h0, st1_byte _ _ _ h1, st1_byte _ _ _ h2, st1_byte _ _ _ h3, st1_byte _ _ _ h4, st1_byte _ _ _ h5, st1_byte _ _ _ h6]
  rw [st2_byte _ _ _ (s1 _ h0), st2_byte _ _ _ (s1 _ h1), st2_byte _ _ _ (s1 _ h2), st2_byte _ _ _ (s1 _ h3), st2_byte _ _ _ (s1 _ h4), st2_byte _ _ _ (s1 _ h5), st2_byte _ _ _ (s1 _ h6)]
  obtain ⟨a0, c0, d0⟩ := s4 _ h0
  obtain ⟨a1, c1, d1⟩ := s4 _ h1
  obtain ⟨a2, c2, d2⟩ := s4 _ h2
  obtain ⟨a3, c3, d3⟩ := s4 _ h3
  obtain ⟨a4, c4, d4⟩ := s4 _ h4
  obtain ⟨a5, c5, d5⟩ := s4 _ h5
  obtain ⟨a6, c6, d6⟩ := s4 _ h6
  obtain ⟨a7, c7, d7⟩ := s4 _ h7
  rw [st3_byte _ _ _ c0 d0 (by omega), st3_byte _ _ _ c1 d1 (by omega), st3_byte _ _ _ c2 d2 (by omega), st3_byte _ _ _ c3 d3 (by omega), st3_byte _ _ _ c4 d4 (by omega), st3_byte _ _ _ c5 d5 (by omega), st3_byte _ _ _ c6 d6 (by omega), a0, a1, a2, a3, a4, a5, a6, a7]
theorem div_digit (p q x : Nat) (hx : x = p + 256 * q) (hp : p < 256) : x / 256 = q := by omega
theorem fold_bytes (x : Nat) (p0 p1 p2 p3 p4 p5 p6 p7 : Nat) (h0 : p0 ≤ 8) (h1 : p1 ≤ 8) (h2 : p2 ≤ 8) (h3 : p3 ≤ 8) (h4 : p4 ≤ 8) (h5 : p5 ≤ 8) (h6 : p6 ≤ 8) (h7 : p7 ≤ 8)
    (hx : x = p0 + 256 * (p1 + 256 * (p2 + 256 * (p3 + 256 * (p4 + 256 * (p5 + 256 * (p6 + 256 * p7))))))) :
    ((x + x / 256) + (x + x / 256) / 65536 + ((x + x / 256) + (x + x / 256) / 65536) / 4294967296) % 128 = p0 + p1 + p2 + p3 + p4 + p5 + p6 + p7 := by
  obtain ⟨q6, e6⟩ : ∃ q, q = p6 + 256 * p7 := ⟨_, rfl⟩
  obtain ⟨q5, e5⟩ : ∃ q, q = p5 + 256 * q6 := ⟨_, rfl⟩
  obtain ⟨q4, e4⟩ : ∃ q, q = p4 + 256 * q5 := ⟨_, rfl⟩
  obtain ⟨q3, e3⟩ : ∃ q, q = p3 + 256 * q4 := ⟨_, rfl⟩
  obtain ⟨q2, e2⟩ : ∃ q, q = p2 + 256 * q3 := ⟨_, rfl⟩
  obtain ⟨q1, e1⟩ : ∃ q, q = p1 + 256 * q2 := ⟨_, rfl⟩
  rw [← e6, ← e5, ← e4, ← e3, ← e2, ← e1] at hx
  rw [div_digit p0 q1 x hx (by omega)]
  have y1 : x + q1 = (p0 + p1) + 256 * (q1 + q2) := by omega
  have y2 : q1 + q2 = (p1 + p2) + 256 * (q2 + q3) := by omega
  have y3 : q2 + q3 = (p2 + p3) + 256 * (q3 + q4) := by omega
  have y4 : q3 + q4 = (p3 + p4) + 256 * (q4 + q5) := by omega
  have y5 : q4 + q5 = (p4 + p5) + 256 * (q5 + q6) := by omega
  have y6 : q5 + q6 = (p5 + p6) + 256 * (q6 + p7) := by omega
  have y7 : q6 + p7 = (p6 + p7) + 256 * p7 := by omega
  clear e1 e2 e3 e4 e5 e6 hx
  generalize x + q1 = r0 at *
  generalize q1 + q2 = r1 at *
  generalize q2 + q3 = r2 at *
  generalize q3 + q4 = r3 at *
  generalize q4 + q5 = r4 at *
  generalize q5 + q6 = r5 at *
  generalize q6 + p7 = r6 at *
  rw [show r0 / 65536 = r0 / 256 / 256 by omega, div_digit _ _ r0 y1 (by omega), div_digit _ _ r1 y2 (by omega)]
  have z1 : r0 + r2 = (p0 + p1 + p2 + p3) + 256 * (r1 + r3) := by omega
  have z2 : r1 + r3 = (p1 + p2 + p3 + p4) + 256 * (r2 + r4) := by omega
  have z3 : r2 + r4 = (p2 + p3 + p4 + p5) + 256 * (r3 + r5) := by omega
  have z4 : r3 + r5 = (p3 + p4 + p5 + p6) + 256 * (r4 + r6) := by omega
  have z5 : r4 + r6 = (p4 + p5 + p6 + p7) + 256 * (r5 + p7) := by omega
  clear y1 y2 y3 y4 y5 y6 y7
  generalize r0 + r2 = s0 at *
  generalize r1 + r3 = s1 at *
  generalize r2 + r4 = s2 at *
  generalize r3 + r5 = s3 at *
  generalize r4 + r6 = s4 at *
  rw [show s0 / 4294967296 = s0 / 256 / 256 / 256 / 256 by omega, div_digit _ _ s0 z1 (by omega), div_digit _ _ s1 z2 (by omega), div_digit _ _ s2 z3 (by omega), div_digit _ _ s3 z4 (by omega)]
  omega
theorem pop_bytes (b0 b1 b2 b3 b4 b5 b6 b7 : Nat) (h0 : b0 < 256) (h1 : b1 < 256) (h2 : b2 < 256) (h3 : b3 < 256) (h4 : b4 < 256) (h5 : b5 < 256) (h6 : b6 < 256) :
    Lib.popAux 64 (b0 + 256 * (b1 + 256 * (b2 + 256 * (b3 + 256 * (b4 + 256 * (b5 + 256 * (b6 + 256 * b7))))))) =
      Lib.popAux 8 b0 + Lib.popAux 8 b1 + Lib.popAux 8 b2 + Lib.popAux 8 b3 + Lib.popAux 8 b4 + Lib.popAux 8 b5 + Lib.popAux 8 b6 + Lib.popAux 8 b7 := by
  rw [show 64 = 8 + 56 from rfl, pop_join 8 56 b0 _ h0, show 56 = 8 + 48 from rfl, pop_join 8 48 b1 _ h1, show 48 = 8 + 40 from rfl, pop_join 8 40 b2 _ h2, show 40 = 8 + 32 from rfl, pop_join 8 32 b3 _ h3,
    show 32 = 8 + 24 from rfl, pop_join 8 24 b4 _ h4, show 24 = 8 + 16 from rfl, pop_join 8 16 b5 _ h5, show 16 = 8 + 8 from rfl, pop_join 8 8 b6 _ h6]
  omega
theorem swar_pop (x : Nat) (hx : x < 18446744073709551616) : ((swar x + swar x / 256) + (swar x + swar x / 256) / 65536 + ((swar x + swar x / 256) + (swar x + swar x / 256) / 65536) / 4294967296) % 128 = Lib.popAux 64 x ∧ swar x ≤ 1085102592571150095 := by
  refine ⟨?_, Nat.and_le_right⟩
  obtain ⟨b0, b1, b2, b3, b4, b5, b6, b7, h0, h1, h2, h3, h4, h5, h6, h7, rfl⟩ : ∃ b0 b1 b2 b3 b4 b5 b6 b7 : Nat, b0 < 256 ∧ b1 < 256 ∧ b2 < 256 ∧ b3 < 256 ∧ b4 < 256 ∧ b5 < 256 ∧ b6 < 256 ∧ b7 < 256 ∧ x = b0 + 256 * (b1 + 256 * (b2 + 256 * (b3 + 256 * (b4 + 256 * (b5 + 256 * (b6 + 256 * b7)))))) :=
    ⟨x % 256, x / 256 % 256, x / 65536 % 256, x / 16777216 % 256, x / 4294967296 % 256, x / 1099511627776 % 256, x / 281474976710656 % 256, x / 72057594037927936, by omega, by omega, by omega, by omega, by omega, by omega, by omega, by omega, by omega⟩
  rw [pop_bytes b0 b1 b2 b3 b4 b5 b6 b7 h0 h1 h2 h3 h4 h5 h6]
  exact fold_bytes _ _ _ _ _ _ _ _ _ (pop_lef _ _) (pop_lef _ _) (pop_lef _ _) (pop_lef _ _) (pop_lef _ _) (pop_lef _ _) (pop_lef _ _) (pop_lef _ _) (swar_bytes b0 b1 b2 b3 b4 b5 b6 b7 h0 h1 h2 h3 h4 h5 h6 h7)

theorem w64_nat (n : Nat) (h : n < 18446744073709551616) : IntKind.u64.wrap (n : Int) = n := by rw [IntKind.wrap_u64]; omega
theorem and64 (a b : Nat) (ha : a < 18446744073709551616) (hb : b < 18446744073709551616) : Go.bits .and .u64 (a : Int) (b : Int) = ((a &&& b : Nat) : Int) := u64_and_nat a b ha hb
theorem ones_end (x6 p : Nat) (b6 : x6 < 9223372036854775808) (h : x6 % 128 = p) : some (Go.bits .and .i64 (wrap64 (x6 : Int)) 127) = some (p : Int) := by
  have k4 : wrap64 (x6 : Int) = (x6 : Int) := by unfold wrap64; omega
  have := bits_mask .i64 63 (by decide) (fun n h0 h1 => by rw [IntKind.wrap_i64]; omega) 7 (by decide) (x6 : Int) (by omega) (by omega)
  rw [k4, show (127 : Int) = 2 ^ 7 - 1 by rfl, this, ← h]
  congr 1
theorem ones_val (n : Nat) (hn : n < 18446744073709551616) : bits_OnesCount64.f (n : Int) = some ((Lib.popAux 64 n : Nat) : Int) := by
  have hs := swar_pop n hn
  have b1 : st1 6148914691236517205 n ≤ 12297829382473034410 := by
    have := @Nat.and_le_right (n / 2) 6148914691236517205
    have := @Nat.and_le_right n 6148914691236517205
    unfold st1
    omega
  have e1 : Go.bits .and .u64 ((n : Int) / 2) 6148914691236517205 = ((n / 2 &&& 6148914691236517205 : Nat) : Int) := and64 (n / 2) 6148914691236517205 (by omega) (by omega)
  have e2 : Go.bits .and .u64 (n : Int) 6148914691236517205 = ((n &&& 6148914691236517205 : Nat) : Int) := and64 n 6148914691236517205 hn (by omega)
  have e3 : IntKind.u64.wrap (((n / 2 &&& 6148914691236517205 : Nat) : Int) + ((n &&& 6148914691236517205 : Nat) : Int)) = ((st1 6148914691236517205 n : Nat) : Int) := w64_nat (st1 6148914691236517205 n) (by omega)
  unfold swar at hs
  unfold bits_OnesCount64.f
  rw [e1, e2, e3]
  generalize st1 6148914691236517205 n = x1 at *
  have b2 : st2 3689348814741910323 x1 ≤ 7378697629483820646 := by
    have := @Nat.and_le_right (x1 / 4) 3689348814741910323
    have := @Nat.and_le_right x1 3689348814741910323
    unfold st2
    omega
  have f1 : Go.bits .and .u64 ((x1 : Int) / 4) 3689348814741910323 = ((x1 / 4 &&& 3689348814741910323 : Nat) : Int) := and64 (x1 / 4) 3689348814741910323 (by omega) (by omega)
  have f2 : Go.bits .and .u64 (x1 : Int) 3689348814741910323 = ((x1 &&& 3689348814741910323 : Nat) : Int) := and64 x1 3689348814741910323 (by omega) (by omega)
  have f3 : IntKind.u64.wrap (((x1 / 4 &&& 3689348814741910323 : Nat) : Int) + ((x1 &&& 3689348814741910323 : Nat) : Int)) = ((st2 3689348814741910323 x1 : Nat) : Int) := w64_nat (st2 3689348814741910323 x1) (by omega)
  rw [f1, f2, f3]
  generalize st2 3689348814741910323 x1 = x2 at *
  have g1 : IntKind.u64.wrap ((x2 : Int) / 16 + (x2 : Int)) = ((x2 / 16 + x2 : Nat) : Int) := w64_nat (x2 / 16 + x2) (by omega)
  have g2 : Go.bits .and .u64 ((x2 / 16 + x2 : Nat) : Int) 1085102592571150095 = ((st3 1085102592571150095 x2 : Nat) : Int) := and64 (x2 / 16 + x2) 1085102592571150095 (by omega) (by omega)
  rw [g1, g2]
  generalize st3 1085102592571150095 x2 = x3 at *
  have k1 : IntKind.u64.wrap ((x3 : Int) + (x3 : Int) / 256) = ((x3 + x3 / 256 : Nat) : Int) := w64_nat (x3 + x3 / 256) (by omega)
  rw [k1]
  have b4 : x3 + x3 / 256 ≤ 1089341274573693651 := by omega
  generalize x3 + x3 / 256 = x4 at *
  have k2 : IntKind.u64.wrap ((x4 : Int) + (x4 : Int) / 65536) = ((x4 + x4 / 65536 : Nat) : Int) := w64_nat (x4 + x4 / 65536) (by omega)
  rw [k2]
  have b5 : x4 + x4 / 65536 ≤ 1089360000000000000 := by omega
  generalize x4 + x4 / 65536 = x5 at *
  have k3 : IntKind.u64.wrap ((x5 : Int) + (x5 : Int) / 4294967296) = ((x5 + x5 / 4294967296 : Nat) : Int) := w64_nat (x5 + x5 / 4294967296) (by omega)
  rw [k3]
  have b6 : x5 + x5 / 4294967296 < 9223372036854775808 := by clear hs; omega
  have hs1 := hs.1
  clear hs
  generalize x5 + x5 / 4294967296 = x6 at *
  exact ones_end x6 _ b6 hs1
end Go.Proofs.Ytagcabmccpekaaa.M
