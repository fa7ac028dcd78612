/- massiflaw20.SpanBytes returns true: the walk. -/
import Derived.Test.YtagcabmccpekaaaQX4
import Derived.Test.YtagcabmccpekaaaQX2
set_option linter.unusedVariables false
set_option linter.unusedSimpArgs false
set_option linter.unusedVariables false
set_option linter.unusedSimpArgs false
namespace Go.Proofs.Ytagcabmccpekaaa.M
open Go.RowKit Go.Proofs.YtagcabmccpekaaaW.PrintWords Go.Proofs.YtagcabmccpekaaaW.PrintLast Go.Proofs.YtagcabmccpekaaaW.PrintMore Go.Proofs.Ytagcabmccpekaaa.Leaf

/-- Rows of two types own no block together. -/
theorem own_types {α β : Type} {d : Kd α} {d' : Kd β} {e e' base base' : Nat} {ok ok' : Nat → Prop} {w : World} {u v : Value} {xs : List α} {ys : List β} (h : d.R e w base ok u xs) (h' : d'.R e' w base' ok' v ys) (hne : e ≠ e') {k : Nat} (h1 : u.ownBlock = some k) (h2 : v.ownBlock = some k) : False := by
  obtain ⟨c1, e1⟩ := Kd.R_typed h k h1
  obtain ⟨c2, e2⟩ := Kd.R_typed h' k h2
  rw [e1] at e2
  injection e2 with e2
  injection e2 with _ e2
  exact hne e2
theorem R_capk {α : Type} {d : Kd α} {e base : Nat} {w : World} {A : Option Addr} {n m c : Nat} {xs : List α} (h : d.R e w base (fun _ => True) (.slice A n c) xs) (hm : m + 1 = n) : m + 1 ≤ c ∧ c ≤ 9223372036854775807 := by
  have := (Kd.R_reads' h).2.1
  exact ⟨by omega, R_cap h⟩
theorem dec3_len {n f m : Nat} {r : List Int} {x : Nat × Nat × Nat × List Hsh} {e : Int} (h : dec3 n f m r = (x, e)) : 32 * x.2.2.2.length ≤ r.length := by
  unfold dec3 at h
  split at h
  · injection h with h _; subst h; exact Nat.zero_le _
  · split at h
    · injection h with h _; subst h; exact Nat.zero_le _
    · injection h with h _; subst h; show 32 * (takeH _ r).length ≤ _; rw [takeH_len]; omega
theorem decG_len : ∀ (d : Nat) (xs : List Nat) (r : List Int) {x : Nat × Nat × Nat × List Hsh} {e : Int}, decG d xs r = (x, e) → 32 * x.2.2.2.length ≤ r.length
  | 0, xs, r, x, e, h => dec3_len h
  | d + 1, xs, r, x, e, h => by
    rw [decG] at h
    split at h
    · injection h with h _; subst h; exact Nat.zero_le _
    · split at h
      · injection h with h _; subst h; exact Nat.zero_le _
      · have := decG_len d _ _ h
        rw [List.length_drop] at this
        omega
theorem dec_len {bs : List Int} {x : Nat × Nat × Nat × List Hsh} {e : Int} (h : decN bs = (x, e)) : 32 * x.2.2.2.length ≤ bs.length := by
  cases bs with
  | nil => simp only [decN] at h; injection h with h _; subst h; exact Nat.zero_le _
  | cons b r =>
    simp only [decN] at h
    split at h
    · injection h with h _; subst h; exact Nat.zero_le _
    · have := decG_len _ _ _ h
      rw [List.length_cons]
      omega
set_option maxHeartbeats 40000000 in
set_option maxRecDepth 100000 in
theorem span_bytes_some (n f t : Nat) (ns : List Hsh) (A : Option Addr) (cA : Nat) (bs : List Int) (B : Option Addr) (cB : Nat) (w : World) (hn : n < 18446744073709551616) (hf : f < 18446744073709551616) (ht : t < 18446744073709551616)
    (h1 : ns.length ≤ 200) (h2 : bs.length ≤ 6400) (h3 : bs.length ≤ cB) (hbs : Bytes bs) (hA : kH.C w A ns.length ns) (hB : Kd.C (Kd.int .u8) w B bs.length bs) :
    Calls Try.prog 5 #[.agg #[.int .u64 n, .int .u64 f, .int .u64 t, .slice A ns.length cA], .slice B bs.length cB] w fun e w' => e = .returned (.bool true) ∧ Below w.heap.size w w' := by
  have HA := Aside0.mk hA
  have HB := Aside0.mk hB
  have HBs := Aside0.mk hbs
  have g1 : ¬ (200 < ns.length) := by omega
  have g2 : ¬ (6400 < bs.length) := by omega
  have hel : (encAns f t n ns).1.length ≤ 40000 := by
    unfold encAns
    split
    · have := span_len f t n ns; simp only; omega
    · simp
  have hRef := fun (W : World) (hW : Below w.heap.size w W) => ref20_encode f t n cA ns A W hf ht hn (by omega) (Kd.C_below hA hW)
  have hEnc := fun (W : World) (A1 : Option Addr) (c1 : Nat) (hC : kH.C W A1 ns.length ns) => span_encode f t n c1 ns A1 W hf ht hn hC
  have hTxt := fun (W : World) (hW : Below w.heap.size w W) => text_calls bs B cB W (by omega) (Kd.C_below hB hW)
  generalize (encAns f t n ns).1 = L at *
  generalize (encAns f t n ns).2 = er at *
  obtain ⟨⟨⟨n2, f2, t2, ns2⟩, er2⟩, hdec⟩ : ∃ x, x = decN bs := ⟨_, rfl⟩
  have hDq : ∀ W, Below w.heap.size w W → Calls Try.prog 28 #[.slice B bs.length cB] W (fun e w' => ∃ v, e = .returned (.tuple #[.agg #[.int .u64 n2, .int .u64 f2, .int .u64 t2, v], .int .i64 er2]) ∧ kH.R 73 w' W.heap.size (fun _ => True) v ns2 ∧ Below W.heap.size W w') := by
    intro W hW
    have h := ref20_decode bs B cB W hbs (by omega) h3 (Kd.C_below hB hW)
    unfold Decd at h
    rw [← hdec] at h
    exact h
  have hDs : ∀ W A9 c9, bs.length ≤ c9 → Kd.C (Kd.int .u8) W A9 bs.length bs → Calls Try.prog 29 #[.slice A9 bs.length c9] W (fun e w' => ∃ v, e = .returned (.tuple #[.agg #[.int .u64 n2, .int .u64 f2, .int .u64 t2, v], .int .i64 er2]) ∧ kH.R 73 w' W.heap.size (fun _ => True) v ns2 ∧ Below W.heap.size W w') := by
    intro W A9 c9 hc9 hC9
    have h := span_decode bs A9 c9 W hbs (by omega) hc9 hC9
    unfold Decd at h
    rw [← hdec] at h
    exact h
  have hns2 : ns2.length ≤ 900000 := by
    have hk := dec_len hdec.symm
    simp only at hk
    omega
  have HDq := Aside0.mk hDq
  have HDs := Aside0.mk hDs
  have he2 : (er2 != er2) = false := by simp
  have HRef := Aside0.mk hRef
  have HEnc := Aside0.mk hEnc
  have HTxt := Aside0.mk hTxt
  have he1 : (er != er) = false := by simp
  clear hA hB hbs hRef hEnc hTxt hDq hDs hdec
  go_enter Try.func5, Try.ntmps5
  go_wp2_with fail
  refine (row_calls ns A cA _ (by omega) (Kd.C_below HA.out (by repeat (with_reducible first | exact Below.refl _ _ | refine below_alloc ?_ _ | refine below_drew ?_)))).mono ?_
  rintro e w1 ⟨A1, c1, rfl, hr1, hb1⟩
  have hz1 := hb1.size
  have b2 := (hb1.block w.heap.size (by simp; omega)).trans ((Below.heap_alloc _ _ _ (by simp)).trans (heap_new w _))
  have b5 := (hb1.block (w.heap.size + 1) (by simp)).trans (heap_new2 _ _ (by simp))
  have f5 := blk_frozen b5 3
  have x5 := (blk_cell b5 3).trans rfl
  have y5 := blk_set b5 3 (.slice A1 ns.length c1)
  have hbw : Below w.heap.size w (w1.setCell ⟨w.heap.size + 1, 3, none⟩ (.slice A1 ns.length c1)) := Below.setCell (blt (w := w) (by repeat (with_reducible first | exact Below.refl _ _ | refine below_alloc ?_ _ | refine below_drew ?_)) hb1) (by simp) _
  have b2' := (Below.heap_setCell w1 ⟨w.heap.size + 1, 3, none⟩ (.slice A1 ns.length c1) w.heap.size (by simp)).trans b2
  have hR1 := Kd.R_set hr1 b5 (by decide) 3 (.slice A1 ns.length c1)
  have hcap1 := R_capk hR1 rfl
  have hA2 := (Kd.R_reads' hR1).2.2
  rw [show (ns ++ [hash1 171]).length = ns.length + 1 by simp] at hA2
  have hA1 := rowH_cut hR1
  generalize hW2 : w1.setCell ⟨w.heap.size + 1, 3, none⟩ (.slice A1 ns.length c1) = W2 at *
  have y0 : W2.cell? ⟨w.heap.size + 1, 0, none⟩ = some (.int .u64 n) := (blk_cell y5 0).trans rfl
  have y1 : W2.cell? ⟨w.heap.size + 1, 1, none⟩ = some (.int .u64 f) := (blk_cell y5 1).trans rfl
  have y2 : W2.cell? ⟨w.heap.size + 1, 2, none⟩ = some (.int .u64 t) := (blk_cell y5 2).trans rfl
  have y3 : W2.cell? ⟨w.heap.size + 1, 3, none⟩ = some (.slice A1 ns.length c1) := (blk_cell y5 3).trans rfl
  have z0 : W2.cell? ⟨w.heap.size, 0, none⟩ = some (.int .u64 n) := (blk_cell b2' 0).trans rfl
  have z1 : W2.cell? ⟨w.heap.size, 1, none⟩ = some (.int .u64 f) := (blk_cell b2' 1).trans rfl
  have z2 : W2.cell? ⟨w.heap.size, 2, none⟩ = some (.int .u64 t) := (blk_cell b2' 2).trans rfl
  have z3 : W2.cell? ⟨w.heap.size, 3, none⟩ = some (.slice A ns.length cA) := (blk_cell b2' 3).trans rfl
  have HBw := Aside0.mk hbw
  have HB0 := Aside0.mk b2'
  have HB1 := Aside0.mk y5
  have HA1 := Aside0.mk hA1
  have HA2 := Aside0.mk hA2
  have HCap1 := Aside0.mk hcap1
  have hW3 : w1.setCell ⟨w.heap.size + 1, 3, none⟩ (.slice A1 ns.length c1) = W2 := hW2
  clear hr1 hb1 hz1 b2 b5 y5 hbw b2' hA1 hA2 hR1 hW2 hcap1
  go_wp2_with fail
  clear hW3 x5 f5
  refine (HRef.out _ HBw.out).mono ?_
  rintro e w3 ⟨v3, rfl, hr3, hb3⟩
  obtain ⟨A3, m3, c3, e9⟩ : ∃ A m c, v3 = .slice A m c := by obtain ⟨A, c, h⟩ := Kd.R_slice hr3; exact ⟨A, _, c, h⟩
  subst e9
  have HR3 := Aside0.mk (Rd.of_R hr3)
  have HC3 := Aside0.mk (HEnc.out w3 A1 c1 (Kd.C_below HA1.out hb3))
  have HA1 := Aside0.mk (Kd.C_below HA1.out hb3)
  have HA2 := Aside0.mk (Kd.C_below HA2.out hb3)
  clear y0 y1 y2 y3 z0 z1 z2 z3
  have HBw := Aside0.mk (blt HBw.out hb3)
  have HB0 := Aside0.mk ((hb3.block _ (blk_lt HB0.out)).trans HB0.out)
  have HB1 := Aside0.mk ((hb3.block _ (blk_lt HB1.out)).trans HB1.out)
  have y0 := (blk_cell HB1.out 0).trans (rfl : _ = some (Value.int .u64 (n : Int)))
  have y1 := (blk_cell HB1.out 1).trans (rfl : _ = some (Value.int .u64 (f : Int)))
  have y2 := (blk_cell HB1.out 2).trans (rfl : _ = some (Value.int .u64 (t : Int)))
  have y3 := (blk_cell HB1.out 3).trans (rfl : _ = some (Value.slice A1 ns.length c1))
  have z0 := (blk_cell HB0.out 0).trans (rfl : _ = some (Value.int .u64 (n : Int)))
  have z1 := (blk_cell HB0.out 1).trans (rfl : _ = some (Value.int .u64 (f : Int)))
  have z2 := (blk_cell HB0.out 2).trans (rfl : _ = some (Value.int .u64 (t : Int)))
  have z3 := (blk_cell HB0.out 3).trans (rfl : _ = some (Value.slice A ns.length cA))
  clear hr3 hb3 HRef
  go_wp2_with fail
  refine (HC3.out).mono ?_
  rintro e w4 ⟨v4, rfl, hr4, hb4⟩
  obtain ⟨A4, m4, c4, e9⟩ : ∃ A m c, v4 = .slice A m c := by obtain ⟨A, c, h⟩ := Kd.R_slice hr4; exact ⟨A, _, c, h⟩
  subst e9
  have HR3 := Aside0.mk (HR3.out.below hb4)
  have HR4 := Aside0.mk (Kd.R_lower hr4 HBw.out.size)
  have HC3 := Aside0.mk (HEnc.out w4 A1 c1 (Kd.C_below HA1.out hb4))
  have HA1 := Aside0.mk (Kd.C_below HA1.out hb4)
  have HA2 := Aside0.mk (Kd.C_below HA2.out hb4)
  clear y0 y1 y2 y3 z0 z1 z2 z3
  have HBw := Aside0.mk (blt HBw.out hb4)
  have HB0 := Aside0.mk ((hb4.block _ (blk_lt HB0.out)).trans HB0.out)
  have HB1 := Aside0.mk ((hb4.block _ (blk_lt HB1.out)).trans HB1.out)
  have y0 := (blk_cell HB1.out 0).trans (rfl : _ = some (Value.int .u64 (n : Int)))
  have y1 := (blk_cell HB1.out 1).trans (rfl : _ = some (Value.int .u64 (f : Int)))
  have y2 := (blk_cell HB1.out 2).trans (rfl : _ = some (Value.int .u64 (t : Int)))
  have y3 := (blk_cell HB1.out 3).trans (rfl : _ = some (Value.slice A1 ns.length c1))
  have z0 := (blk_cell HB0.out 0).trans (rfl : _ = some (Value.int .u64 (n : Int)))
  have z1 := (blk_cell HB0.out 1).trans (rfl : _ = some (Value.int .u64 (f : Int)))
  have z2 := (blk_cell HB0.out 2).trans (rfl : _ = some (Value.int .u64 (t : Int)))
  have z3 := (blk_cell HB0.out 3).trans (rfl : _ = some (Value.slice A ns.length cA))
  clear hr4 hb4
  go_wp2_with fail
  refine (HC3.out).mono ?_
  rintro e w5 ⟨v5, rfl, hr5, hb5⟩
  obtain ⟨A5, m5, c5, e9⟩ : ∃ A m c, v5 = .slice A m c := by obtain ⟨A, c, h⟩ := Kd.R_slice hr5; exact ⟨A, _, c, h⟩
  subst e9
  have hab := Aside0.mk (apart_new HR4.out hr5)
  have HR3 := Aside0.mk (HR3.out.below hb5)
  have HR4 := Aside0.mk (Kd.R_below HR4.out hb5)
  have HR5 := Aside0.mk (Kd.R_lower hr5 HBw.out.size)
  have HA2 := Aside0.mk (Kd.C_below HA2.out hb5)
  clear y0 y1 y2 y3 z0 z1 z2 z3
  have HBw := Aside0.mk (blt HBw.out hb5)
  have HB0 := Aside0.mk ((hb5.block _ (blk_lt HB0.out)).trans HB0.out)
  have HB1 := Aside0.mk ((hb5.block _ (blk_lt HB1.out)).trans HB1.out)
  have y0 := (blk_cell HB1.out 0).trans (rfl : _ = some (Value.int .u64 (n : Int)))
  have y1 := (blk_cell HB1.out 1).trans (rfl : _ = some (Value.int .u64 (f : Int)))
  have y2 := (blk_cell HB1.out 2).trans (rfl : _ = some (Value.int .u64 (t : Int)))
  have y3 := (blk_cell HB1.out 3).trans (rfl : _ = some (Value.slice A1 ns.length c1))
  have z0 := (blk_cell HB0.out 0).trans (rfl : _ = some (Value.int .u64 (n : Int)))
  have z1 := (blk_cell HB0.out 1).trans (rfl : _ = some (Value.int .u64 (f : Int)))
  have z2 := (blk_cell HB0.out 2).trans (rfl : _ = some (Value.int .u64 (t : Int)))
  have z3 := (blk_cell HB0.out 3).trans (rfl : _ = some (Value.slice A ns.length cA))
  clear hr5 hb5 HC3 HA1 HEnc
  go_wp2_with fail
  refine (sameB_true (Rd.of_R HR4.out) HR3.out (by omega)).mono ?_
  rintro e w6 ⟨rfl, hd6⟩
  have hb6 := hd6.below
  have HR3 := Aside0.mk (HR3.out.below hb6)
  have HR4 := Aside0.mk (Kd.R_below HR4.out hb6)
  have HR5 := Aside0.mk (Kd.R_below HR5.out hb6)
  have HA2 := Aside0.mk (Kd.C_below HA2.out hb6)
  clear y0 y1 y2 y3 z0 z1 z2 z3
  have HBw := Aside0.mk (blt HBw.out hb6)
  have HB0 := Aside0.mk ((hb6.block _ (blk_lt HB0.out)).trans HB0.out)
  have HB1 := Aside0.mk ((hb6.block _ (blk_lt HB1.out)).trans HB1.out)
  have y0 := (blk_cell HB1.out 0).trans (rfl : _ = some (Value.int .u64 (n : Int)))
  have y1 := (blk_cell HB1.out 1).trans (rfl : _ = some (Value.int .u64 (f : Int)))
  have y2 := (blk_cell HB1.out 2).trans (rfl : _ = some (Value.int .u64 (t : Int)))
  have y3 := (blk_cell HB1.out 3).trans (rfl : _ = some (Value.slice A1 ns.length c1))
  have z0 := (blk_cell HB0.out 0).trans (rfl : _ = some (Value.int .u64 (n : Int)))
  have z1 := (blk_cell HB0.out 1).trans (rfl : _ = some (Value.int .u64 (f : Int)))
  have z2 := (blk_cell HB0.out 2).trans (rfl : _ = some (Value.int .u64 (t : Int)))
  have z3 := (blk_cell HB0.out 3).trans (rfl : _ = some (Value.slice A ns.length cA))
  clear hd6 hb6
  go_wp2_with fail
  refine (sameB_true (Rd.of_R HR5.out) HR3.out (by omega)).mono ?_
  rintro e w7 ⟨rfl, hd7⟩
  have hb7 := hd7.below
  have HR4 := Aside0.mk (Kd.R_below HR4.out hb7)
  have HR5 := Aside0.mk (Kd.R_below HR5.out hb7)
  have HA2 := Aside0.mk (Kd.C_below HA2.out hb7)
  clear y0 y1 y2 y3 z0 z1 z2 z3
  have HBw := Aside0.mk (blt HBw.out hb7)
  have HB0 := Aside0.mk ((hb7.block _ (blk_lt HB0.out)).trans HB0.out)
  have HB1 := Aside0.mk ((hb7.block _ (blk_lt HB1.out)).trans HB1.out)
  have y0 := (blk_cell HB1.out 0).trans (rfl : _ = some (Value.int .u64 (n : Int)))
  have y1 := (blk_cell HB1.out 1).trans (rfl : _ = some (Value.int .u64 (f : Int)))
  have y2 := (blk_cell HB1.out 2).trans (rfl : _ = some (Value.int .u64 (t : Int)))
  have y3 := (blk_cell HB1.out 3).trans (rfl : _ = some (Value.slice A1 ns.length c1))
  have z0 := (blk_cell HB0.out 0).trans (rfl : _ = some (Value.int .u64 (n : Int)))
  have z1 := (blk_cell HB0.out 1).trans (rfl : _ = some (Value.int .u64 (f : Int)))
  have z2 := (blk_cell HB0.out 2).trans (rfl : _ = some (Value.int .u64 (t : Int)))
  have z3 := (blk_cell HB0.out 3).trans (rfl : _ = some (Value.slice A ns.length cA))
  clear hd7 hb7 HR3
  go_wp2_with fail
  refine (kept_calls20 ns A1 A c1 cA w7 (by omega) HCap1.out.1 HCap1.out.2 HA2.out (Kd.C_below HA.out HBw.out)).mono ?_
  rintro e w8 ⟨rfl, hb8⟩
  have HR4 := Aside0.mk (Kd.R_below HR4.out hb8)
  have HR5 := Aside0.mk (Kd.R_below HR5.out hb8)
  have HBw := Aside0.mk (blt HBw.out hb8)
  clear y0 y1 y2 y3 z0 z1 z2 z3 hb8 HA2 HB0 HB1 HCap1
  go_wp2_with fail
  obtain rfl : m4 = L.length := (Kd.R_reads' HR4.out).1
  obtain rfl : m5 = L.length := (Kd.R_reads' HR5.out).1
  have S0 := Aside0.mk (show ML1 .u8 5 201 202 w (.slice A4 L.length c4) (.slice A5 L.length c5) L 0 w8 from ⟨by rw [mkA_zero]; exact HR4.out, by rw [mkA_zero]; exact HR5.out, HBw.out⟩)
  clear HR4 HR5 HBw
  go_loopw [12] (fun c wr => ∃ j : Nat, j ≤ L.length ∧ c = .int .i64 j ∧ Aside0 (ML1 .u8 5 201 202 w (.slice A4 L.length c4) (.slice A5 L.length c5) L j wr)) (fun c _ => L.length - (intOf c).toNat)
  case atStart => exact ⟨0, Nat.zero_le _, rfl, S0⟩
  case round =>
    obtain ⟨j, hj, rfl, HS⟩ := hrel
    clear S0
    by_cases hlt : j < L.length
    · obtain ⟨ga, gb, ea, eb, hne, ⟨x1, k1⟩, k2, k3, k4⟩ := ML1.form HS.out hlt hab.out
      subst ea eb
      obtain ⟨x3, k3⟩ := k3 (.int .u8 201)
      have k4 := k4 (.int .u8 201)
      go_wp2_with fail
      go_roundw
      case rel => exact ⟨j + 1, by omega, by go_num, ⟨ML1.next HS.out hlt hab.out⟩⟩
      case measure => simp [intOf]; omega
    · have hjl : j = L.length := by omega
      subst hjl
      have SA := Aside0.mk (show Kd.R (Kd.int .u8) 5 wr w.heap.size (fun _ => True) (.slice A4 L.length c4) (List.replicate L.length 201) from mkA_all 201 L ▸ HS.out.1)
      have SB := Aside0.mk (show Kd.R (Kd.int .u8) 5 wr w.heap.size (fun _ => True) (.slice A5 L.length c5) (List.replicate L.length 202) from mkA_all 202 L ▸ HS.out.2.1)
      have hsz := HS.out.2.2.size
      have hrl1 : (List.replicate L.length (201 : Int)).length ≤ 40000 := by rw [List.length_replicate]; exact hel
      have hrl2 : (List.replicate L.length (202 : Int)).length ≤ 40000 := by rw [List.length_replicate]; exact hel
      go_wp2_with (first | ((with_reducible refine gate_builtin (b := .append) (xs := #[.tmp 93, .tmp 94]) rfl ?_); at_builtin; go_loud (refine app_oneN (Kd.int .u8) w.heap.size rfl (.tmp 93) (.tmp 94) 46 5 (.int .u8 0) 1 rfl Try.underlying46 info5 rfl (by decide) (by omega) (.slice A4 L.length c4) (List.replicate L.length 201) 201 [.int .u8 201] rfl rfl rfl SA.out hsz (by omega) ?_; intro A6 n6 c6 w6 hr6 hf6 ha6; have HR6 := Aside0.mk hr6; have HF6 := Aside0.mk hf6; have HA6 := Aside0.mk ha6; clear hr6 hf6 ha6)) | ((with_reducible refine gate_builtin (b := .append) (xs := #[.tmp 96, .tmp 97]) rfl ?_); at_builtin; go_loud (refine app_oneN (Kd.int .u8) w.heap.size rfl (.tmp 96) (.tmp 97) 46 5 (.int .u8 0) 1 rfl Try.underlying46 info5 rfl (by decide) (by omega) (.slice A5 L.length c5) (List.replicate L.length 202) 202 [.int .u8 202] rfl rfl rfl (R_frm (flat_int .u8) SB.out HF6.out (fun k hk he => hab.out k he.symm hk)) (Nat.le_trans hsz HF6.out.size) (by omega) ?_; intro A7 n7 c7 w7 hr7 hf7 ha7; have HR7 := Aside0.mk hr7; have HF7 := Aside0.mk hf7; have HA7 := Aside0.mk ha7; clear hr7 hf7 ha7)))
      have HM := Aside0.mk (ML2.make HS.out hab.out HR6.out HF6.out HA6.out HR7.out HF7.out)
      clear HR6 HF6 HA6 HR7 HF7 HA7 SA SB HS hsz hrl1 hrl2
      obtain rfl : n6 = L.length + 1 := by have := (Kd.R_reads' HM.out.1).1; rwa [List.length_replicate] at this
      obtain rfl : n7 = L.length + 1 := by have := (Kd.R_reads' HM.out.2.1).1; rwa [List.length_replicate] at this
      go_loop [13] (fun c => ∃ j : Nat, j ≤ L.length + 1 ∧ c = .int .i64 j) (fun c => L.length + 1 - (intOf c).toNat)
      case atStart => exact ⟨0, Nat.zero_le _, rfl⟩
      case round =>
        obtain ⟨j, hj, rfl⟩ := hrel
        by_cases hlt : j < L.length + 1
        · obtain ⟨ad5, ea5, k5⟩ := rep_cellk HM.out.1 j hlt
          obtain ⟨ad6, ea6, k6⟩ := rep_cellk HM.out.2.1 j hlt
          subst ea5 ea6
          go_wp2_with fail
          go_round
          case rel => exact ⟨j + 1, by omega, by go_num⟩
          case measure => simp [intOf]; omega
        · have hjl : j = L.length + 1 := by omega
          subst hjl
          have HBw := Aside0.mk HM.out.2.2
          clear HM
          go_wp2_with fail
          refine (HTxt.out _ HBw.out).mono ?_
          rintro e w9 ⟨A9, c9, rfl, hr9, hb9⟩
          have HC9 := Aside0.mk (Kd.R_lower hr9 HBw.out.size)
          have HBw := Aside0.mk (blt HBw.out hb9)
          clear hr9 hb9 HTxt hlt
          go_wp2_with fail
          refine (HDq.out _ HBw.out).mono ?_
          rintro e w10 ⟨v10, rfl, hr10, hb10⟩
          obtain ⟨A10, m10, c10, e9⟩ : ∃ A m c, v10 = .slice A m c := by obtain ⟨A, c, h⟩ := Kd.R_slice hr10; exact ⟨A, _, c, h⟩
          subst e9
          obtain rfl : m10 = ns2.length := (Kd.R_reads' hr10).1
          have HR10 := Aside0.mk (Kd.R_alloc (Kd.R_lower hr10 HBw.out.size) (.cells #[.int .u64 n2, .int .u64 f2, .int .u64 t2, .slice A10 ns2.length c10] 45 (0, 0)))
          have HC9 := Aside0.mk (Kd.R_alloc (Kd.R_below HC9.out hb10) (.cells #[.int .u64 n2, .int .u64 f2, .int .u64 t2, .slice A10 ns2.length c10] 45 (0, 0)))
          have HBw := Aside0.mk (below_alloc (blt HBw.out hb10) (.cells #[.int .u64 n2, .int .u64 f2, .int .u64 t2, .slice A10 ns2.length c10] 45 (0, 0)))
          have HB10 := Aside0.mk (heap_new w10 (.cells #[.int .u64 n2, .int .u64 f2, .int .u64 t2, .slice A10 ns2.length c10] 45 (0, 0)))
          have HCut := Aside0.mk (row_cut HC9.out)
          clear hr10 hb10 HDq
          go_wp2_with fail
          refine (HDs.out _ A9 c9 HCut.out.1 HCut.out.2).mono ?_
          rintro e w11 ⟨v11, rfl, hr11, hb11⟩
          obtain ⟨A11, m11, c11, e9⟩ : ∃ A m c, v11 = .slice A m c := by obtain ⟨A, c, h⟩ := Kd.R_slice hr11; exact ⟨A, _, c, h⟩
          subst e9
          obtain rfl : m11 = ns2.length := (Kd.R_reads' hr11).1
          have hob : Obj := .cells #[.int .u64 n2, .int .u64 f2, .int .u64 t2, .slice A11 ns2.length c11] 45 (0, 0)
          have HR11 := Aside0.mk (Kd.R_alloc (Kd.R_lower hr11 HBw.out.size) (.cells #[.int .u64 n2, .int .u64 f2, .int .u64 t2, .slice A11 ns2.length c11] 45 (0, 0)))
          have HR10 := Aside0.mk (Kd.R_alloc (Kd.R_below HR10.out hb11) (.cells #[.int .u64 n2, .int .u64 f2, .int .u64 t2, .slice A11 ns2.length c11] 45 (0, 0)))
          have HC9 := Aside0.mk (Kd.R_alloc (Kd.R_below HC9.out hb11) (.cells #[.int .u64 n2, .int .u64 f2, .int .u64 t2, .slice A11 ns2.length c11] 45 (0, 0)))
          have HBw := Aside0.mk (below_alloc (blt HBw.out hb11) (.cells #[.int .u64 n2, .int .u64 f2, .int .u64 t2, .slice A11 ns2.length c11] 45 (0, 0)))
          have HB10 := Aside0.mk (blk_alloc ((hb11.block _ (blk_lt HB10.out)).trans HB10.out) (.cells #[.int .u64 n2, .int .u64 f2, .int .u64 t2, .slice A11 ns2.length c11] 45 (0, 0)))
          have HB11 := Aside0.mk (heap_new w11 (.cells #[.int .u64 n2, .int .u64 f2, .int .u64 t2, .slice A11 ns2.length c11] 45 (0, 0)))
          have HCut := Aside0.mk (row_cut HC9.out)
          clear hr11 hb11 hob
          go_wp2_with fail
          refine (HDs.out _ A9 c9 HCut.out.1 HCut.out.2).mono ?_
          rintro e w12 ⟨v12, rfl, hr12, hb12⟩
          obtain ⟨A12, m12, c12, e9⟩ : ∃ A m c, v12 = .slice A m c := by obtain ⟨A, c, h⟩ := Kd.R_slice hr12; exact ⟨A, _, c, h⟩
          subst e9
          obtain rfl : m12 = ns2.length := (Kd.R_reads' hr12).1
          have HAp := Aside0.mk (apart_new HR11.out hr12)
          have HR12 := Aside0.mk (Kd.R_lower hr12 HBw.out.size)
          have HR11 := Aside0.mk (Kd.R_below HR11.out hb12)
          have HR10 := Aside0.mk (Kd.R_below HR10.out hb12)
          have HC9 := Aside0.mk (Kd.R_below HC9.out hb12)
          have HBw := Aside0.mk (blt HBw.out hb12)
          have HB10 := Aside0.mk ((hb12.block _ (blk_lt HB10.out)).trans HB10.out)
          have HB11 := Aside0.mk ((hb12.block _ (blk_lt HB11.out)).trans HB11.out)
          have p0 := (blk_cell HB10.out 0).trans (rfl : _ = some (Value.int .u64 (n2 : Int)))
          have p1 := (blk_cell HB10.out 1).trans (rfl : _ = some (Value.int .u64 (f2 : Int)))
          have p2 := (blk_cell HB10.out 2).trans (rfl : _ = some (Value.int .u64 (t2 : Int)))
          have p3 := (blk_cell HB10.out 3).trans (rfl : _ = some (Value.slice A10 ns2.length c10))
          have q0 := (blk_cell HB11.out 0).trans (rfl : _ = some (Value.int .u64 (n2 : Int)))
          have q1 := (blk_cell HB11.out 1).trans (rfl : _ = some (Value.int .u64 (f2 : Int)))
          have q2 := (blk_cell HB11.out 2).trans (rfl : _ = some (Value.int .u64 (t2 : Int)))
          have q3 := (blk_cell HB11.out 3).trans (rfl : _ = some (Value.slice A11 ns2.length c11))
          have l10 := blk_lt HB10.out
          have l11 := blk_lt HB11.out
          clear hr12 hb12 HDs
          go_wp2_with fail
          have HB12 := Aside0.mk (heap_new w12 (.cells #[.int .u64 n2, .int .u64 f2, .int .u64 t2, .slice A12 ns2.length c12] 45 (0, 0)))
          have hbA := bl_new w12 (.cells #[.int .u64 n2, .int .u64 f2, .int .u64 t2, .slice A12 ns2.length c12] 45 (0, 0))
          have HR12 := Aside0.mk (Kd.R_below HR12.out hbA)
          have HR11 := Aside0.mk (Kd.R_below HR11.out hbA)
          have HR10 := Aside0.mk (Kd.R_below HR10.out hbA)
          have HC9 := Aside0.mk (Kd.R_below HC9.out hbA)
          have HBw := Aside0.mk (blt HBw.out hbA)
          have HB10 := Aside0.mk ((hbA.block _ l10).trans HB10.out)
          have HB11 := Aside0.mk ((hbA.block _ l11).trans HB11.out)
          have t0 : True := trivial
          have t1 : True := trivial
          have t2_ : True := trivial
          have t3 : True := trivial
          clear hbA l10 l11
          refine (same20 n2 f2 t2 ns2 A11 A10 c11 c10 _ (by omega) (Kd.R_reads' HR11.out).2.2 (Kd.R_reads' HR10.out).2.2).mono ?_
          rintro e w13 ⟨rfl, hb13⟩
          clear p0 p1 p2 p3 q0 q1 q2 q3 t0 t1 t2_ t3
          have HBw := Aside0.mk (blt HBw.out hb13)
          have HB10 := Aside0.mk ((hb13.block _ (blk_lt HB10.out)).trans HB10.out)
          have HB11 := Aside0.mk ((hb13.block _ (blk_lt HB11.out)).trans HB11.out)
          have HB12 := Aside0.mk ((hb13.block _ (blk_lt HB12.out)).trans HB12.out)
          have HC9 := Aside0.mk (Kd.R_below HC9.out hb13)
          have HR10 := Aside0.mk (Kd.R_below HR10.out hb13)
          have HR11 := Aside0.mk (Kd.R_below HR11.out hb13)
          have HR12 := Aside0.mk (Kd.R_below HR12.out hb13)
          have p0 := (blk_cell HB10.out 0).trans (rfl : _ = some (Value.int .u64 (n2 : Int)))
          have p1 := (blk_cell HB10.out 1).trans (rfl : _ = some (Value.int .u64 (f2 : Int)))
          have p2 := (blk_cell HB10.out 2).trans (rfl : _ = some (Value.int .u64 (t2 : Int)))
          have p3 := (blk_cell HB10.out 3).trans (rfl : _ = some (Value.slice A10 ns2.length c10))
          have q0 := (blk_cell HB11.out 0).trans (rfl : _ = some (Value.int .u64 (n2 : Int)))
          have q1 := (blk_cell HB11.out 1).trans (rfl : _ = some (Value.int .u64 (f2 : Int)))
          have q2 := (blk_cell HB11.out 2).trans (rfl : _ = some (Value.int .u64 (t2 : Int)))
          have q3 := (blk_cell HB11.out 3).trans (rfl : _ = some (Value.slice A11 ns2.length c11))
          have t0 := (blk_cell HB12.out 0).trans (rfl : _ = some (Value.int .u64 (n2 : Int)))
          have t1 := (blk_cell HB12.out 1).trans (rfl : _ = some (Value.int .u64 (f2 : Int)))
          have t2_ := (blk_cell HB12.out 2).trans (rfl : _ = some (Value.int .u64 (t2 : Int)))
          have t3 := (blk_cell HB12.out 3).trans (rfl : _ = some (Value.slice A12 ns2.length c12))
          clear hb13
          go_wp2_with fail
          refine (same20 n2 f2 t2 ns2 A12 A10 c12 c10 _ (by omega) (Kd.R_reads' HR12.out).2.2 (Kd.R_reads' HR10.out).2.2).mono ?_
          rintro e w14 ⟨rfl, hb14⟩
          clear p0 p1 p2 p3 q0 q1 q2 q3 t0 t1 t2_ t3
          have HBw := Aside0.mk (blt HBw.out hb14)
          have HB10 := Aside0.mk ((hb14.block _ (blk_lt HB10.out)).trans HB10.out)
          have HB11 := Aside0.mk ((hb14.block _ (blk_lt HB11.out)).trans HB11.out)
          have HB12 := Aside0.mk ((hb14.block _ (blk_lt HB12.out)).trans HB12.out)
          have HC9 := Aside0.mk (Kd.R_below HC9.out hb14)
          have HR10 := Aside0.mk (Kd.R_below HR10.out hb14)
          have HR11 := Aside0.mk (Kd.R_below HR11.out hb14)
          have HR12 := Aside0.mk (Kd.R_below HR12.out hb14)
          have p0 := (blk_cell HB10.out 0).trans (rfl : _ = some (Value.int .u64 (n2 : Int)))
          have p1 := (blk_cell HB10.out 1).trans (rfl : _ = some (Value.int .u64 (f2 : Int)))
          have p2 := (blk_cell HB10.out 2).trans (rfl : _ = some (Value.int .u64 (t2 : Int)))
          have p3 := (blk_cell HB10.out 3).trans (rfl : _ = some (Value.slice A10 ns2.length c10))
          have q0 := (blk_cell HB11.out 0).trans (rfl : _ = some (Value.int .u64 (n2 : Int)))
          have q1 := (blk_cell HB11.out 1).trans (rfl : _ = some (Value.int .u64 (f2 : Int)))
          have q2 := (blk_cell HB11.out 2).trans (rfl : _ = some (Value.int .u64 (t2 : Int)))
          have q3 := (blk_cell HB11.out 3).trans (rfl : _ = some (Value.slice A11 ns2.length c11))
          have t0 := (blk_cell HB12.out 0).trans (rfl : _ = some (Value.int .u64 (n2 : Int)))
          have t1 := (blk_cell HB12.out 1).trans (rfl : _ = some (Value.int .u64 (f2 : Int)))
          have t2_ := (blk_cell HB12.out 2).trans (rfl : _ = some (Value.int .u64 (t2 : Int)))
          have t3 := (blk_cell HB12.out 3).trans (rfl : _ = some (Value.slice A12 ns2.length c12))
          clear hb14
          go_wp2_with fail
          have HCap := Aside0.mk (R_capk HC9.out rfl)
          refine (still_calls20 bs A9 B c9 cB w14 (by omega) HCap.out.1 HCap.out.2 h3 (by have := (Kd.R_reads' HC9.out).2.2; rwa [show (bs ++ [(171 : Int)]).length = bs.length + 1 by simp] at this) (Kd.C_below HB.out HBw.out)).mono ?_
          rintro e w15 ⟨rfl, hb15⟩
          clear p0 p1 p2 p3 q0 q1 q2 q3 t0 t1 t2_ t3
          have HBw := Aside0.mk (blt HBw.out hb15)
          have HB10 := Aside0.mk ((hb15.block _ (blk_lt HB10.out)).trans HB10.out)
          have HB11 := Aside0.mk ((hb15.block _ (blk_lt HB11.out)).trans HB11.out)
          have HB12 := Aside0.mk ((hb15.block _ (blk_lt HB12.out)).trans HB12.out)
          have HC9 := Aside0.mk (Kd.R_below HC9.out hb15)
          have HR10 := Aside0.mk (Kd.R_below HR10.out hb15)
          have HR11 := Aside0.mk (Kd.R_below HR11.out hb15)
          have HR12 := Aside0.mk (Kd.R_below HR12.out hb15)
          have p0 := (blk_cell HB10.out 0).trans (rfl : _ = some (Value.int .u64 (n2 : Int)))
          have p1 := (blk_cell HB10.out 1).trans (rfl : _ = some (Value.int .u64 (f2 : Int)))
          have p2 := (blk_cell HB10.out 2).trans (rfl : _ = some (Value.int .u64 (t2 : Int)))
          have p3 := (blk_cell HB10.out 3).trans (rfl : _ = some (Value.slice A10 ns2.length c10))
          have q0 := (blk_cell HB11.out 0).trans (rfl : _ = some (Value.int .u64 (n2 : Int)))
          have q1 := (blk_cell HB11.out 1).trans (rfl : _ = some (Value.int .u64 (f2 : Int)))
          have q2 := (blk_cell HB11.out 2).trans (rfl : _ = some (Value.int .u64 (t2 : Int)))
          have q3 := (blk_cell HB11.out 3).trans (rfl : _ = some (Value.slice A11 ns2.length c11))
          have t0 := (blk_cell HB12.out 0).trans (rfl : _ = some (Value.int .u64 (n2 : Int)))
          have t1 := (blk_cell HB12.out 1).trans (rfl : _ = some (Value.int .u64 (f2 : Int)))
          have t2_ := (blk_cell HB12.out 2).trans (rfl : _ = some (Value.int .u64 (t2 : Int)))
          have t3 := (blk_cell HB12.out 3).trans (rfl : _ = some (Value.slice A12 ns2.length c12))
          clear hb15
          go_wp2_with fail
          have HF15 := Aside0.mk (Frm.refl (fun k => some k = (Value.slice A9 (bs.length + 1) c9).ownBlock) w15)
          clear p0 p1 p2 p3 q0 q1 q2 q3 t0 t1 t2_ t3
          go_loopw [21] (fun s wr => ∃ (j : Nat) (M : List Int), j ≤ bs.length ∧ s = .int .i64 j ∧ Aside0 (M.length = bs.length + 1) ∧ Aside0 (Kd.R (Kd.int .u8) 5 wr w.heap.size (fun _ => True) (.slice A9 (bs.length + 1) c9) M) ∧ Aside0 (Frm (fun k => some k = (Value.slice A9 (bs.length + 1) c9).ownBlock) w15 wr)) (fun s _ => bs.length - (intOf s).toNat)
          case atStart => exact ⟨0, bs ++ [171], Nat.zero_le _, rfl, ⟨by simp⟩, HC9, HF15⟩
          case round =>
            obtain ⟨j, M, hj, rfl, HM, HX, HF⟩ := hrel
            clear HF15
            by_cases hlt : j < bs.length
            · obtain ⟨g, cap, ea, _, _, _⟩ := Kd.R_form HX.out (by rw [HM.out]; omega)
              injection ea with ea1 ea2 ea3
              subst ea1 ea3
              obtain ⟨⟨z, k1⟩, k2, k3⟩ := row_round HX.out j (by omega)
              have HPut := Aside0.mk k3
              clear ea2 k3
              go_wp2_with fail
              go_roundw
              case rel => exact ⟨j + 1, _, by omega, by go_num, ⟨by rw [List.length_set]; exact HM.out⟩, ⟨HPut.out _⟩, ⟨HF.out.trans (Frm.of_set _ _ _) (fun i _ h => by simp [Value.ownBlock]; exact h.symm ▸ rfl)⟩⟩
              case measure => simp [intOf]; omega
            · have hjl : j = bs.length := by omega
              subst hjl
              have hsz := HBw.out.size
              have HBw := Aside0.mk (HBw.out.trans (HF.out.below hsz (fun k hk => Kd.R_base HC9.out k hk.symm)))
              have HR10 := Aside0.mk (R_frm flat_kH HR10.out HF.out (fun k hk he => own_types HC9.out HR10.out (by decide) he.symm hk))
              have HR11 := Aside0.mk (R_frm flat_kH HR11.out HF.out (fun k hk he => own_types HC9.out HR11.out (by decide) he.symm hk))
              have HR12 := Aside0.mk (R_frm flat_kH HR12.out HF.out (fun k hk he => own_types HC9.out HR12.out (by decide) he.symm hk))
              have HB10 := Aside0.mk ((HF.out.block _ (blk_lt HB10.out) (Kd.R_ne HC9.out HB10.out (by decide))).trans HB10.out)
              have HB11 := Aside0.mk ((HF.out.block _ (blk_lt HB11.out) (Kd.R_ne HC9.out HB11.out (by decide))).trans HB11.out)
              have HB12 := Aside0.mk ((HF.out.block _ (blk_lt HB12.out) (Kd.R_ne HC9.out HB12.out (by decide))).trans HB12.out)
              clear HF HX HM HC9 hlt
              have p0 := (blk_cell HB10.out 0).trans (rfl : _ = some (Value.int .u64 (n2 : Int)))
              have p1 := (blk_cell HB10.out 1).trans (rfl : _ = some (Value.int .u64 (f2 : Int)))
              have p2 := (blk_cell HB10.out 2).trans (rfl : _ = some (Value.int .u64 (t2 : Int)))
              have p3 := (blk_cell HB10.out 3).trans (rfl : _ = some (Value.slice A10 ns2.length c10))
              have q0 := (blk_cell HB11.out 0).trans (rfl : _ = some (Value.int .u64 (n2 : Int)))
              have q1 := (blk_cell HB11.out 1).trans (rfl : _ = some (Value.int .u64 (f2 : Int)))
              have q2 := (blk_cell HB11.out 2).trans (rfl : _ = some (Value.int .u64 (t2 : Int)))
              have q3 := (blk_cell HB11.out 3).trans (rfl : _ = some (Value.slice A11 ns2.length c11))
              have t0 := (blk_cell HB12.out 0).trans (rfl : _ = some (Value.int .u64 (n2 : Int)))
              have t1 := (blk_cell HB12.out 1).trans (rfl : _ = some (Value.int .u64 (f2 : Int)))
              have t2_ := (blk_cell HB12.out 2).trans (rfl : _ = some (Value.int .u64 (t2 : Int)))
              have t3 := (blk_cell HB12.out 3).trans (rfl : _ = some (Value.slice A12 ns2.length c12))
              go_wp2_with fail
              refine (same20 n2 f2 t2 ns2 A11 A10 c11 c10 _ (by omega) (Kd.R_reads' HR11.out).2.2 (Kd.R_reads' HR10.out).2.2).mono ?_
              rintro e w16 ⟨rfl, hb16⟩
              have HBw := Aside0.mk (blt HBw.out hb16)
              have HR11 := Aside0.mk (Kd.R_below HR11.out hb16)
              have HR12 := Aside0.mk (Kd.R_below HR12.out hb16)
              have HB11 := Aside0.mk ((hb16.block _ (blk_lt HB11.out)).trans HB11.out)
              have HB12 := Aside0.mk ((hb16.block _ (blk_lt HB12.out)).trans HB12.out)
              clear p0 p1 p2 p3 q0 q1 q2 q3 t0 t1 t2_ t3 hb16 HR10 HB10
              have q3 := (blk_cell HB11.out 3).trans (rfl : _ = some (Value.slice A11 ns2.length c11))
              have t3 := (blk_cell HB12.out 3).trans (rfl : _ = some (Value.slice A12 ns2.length c12))
              go_wp2_with fail
              have HBw := Aside0.mk (below_drew HBw.out)
              have HR11 := Aside0.mk (Kd.R_drew HR11.out)
              have HR12 := Aside0.mk (Kd.R_drew HR12.out)
              have HB11 := Aside0.mk (blk_drew HB11.out)
              have HB12 := Aside0.mk (blk_drew HB12.out)
              have hsz := HBw.out.size
              have K0 := Aside0.mk (And.intro q3 t3)
              go_region_held3 (fun w' => w'.cell? ⟨w11.heap.size, 3, none⟩ = some (.slice A11 ns2.length c11) ∧ w'.cell? ⟨w12.heap.size, 3, none⟩ = some (.slice A12 ns2.length c12)) (first | exact K2.out | exact K1.out | exact K0.out) (first | (go_at_call_of 32 (Value.slice A11 ns2.length c11); go_loud (refine (mark_calls20 201 ns2 A11 _ c11 w.heap.size _ (by first | exact HR11.out | exact Kd.R_drew HR11.out | exact Kd.R_drewN HR11.out _) (by exact hsz) (by omega)).mono ?_; rintro e wu ⟨Au, cu, rfl, hru, hfu, hau⟩; have HU := Aside0.mk hru; have HFu := Aside0.mk hfu; have HAu := Aside0.mk (apart_step HAp.out.symm (Kd.R_lt HR12.out) hau); have HVu := Aside0.mk (R_frm flat_kH HR12.out hfu (fun k hk he => HAp.out k he.symm hk)); have K1 := Aside0.mk (And.intro ((blk_cell ((hfu.block _ (blk_lt HB11.out) (Kd.R_ne HR11.out HB11.out (by decide))).trans HB11.out) 3).trans (rfl : _ = some (Value.slice A11 ns2.length c11))) ((blk_cell ((hfu.block _ (blk_lt HB12.out) (Kd.R_ne HR11.out HB12.out (by decide))).trans HB12.out) 3).trans (rfl : _ = some (Value.slice A12 ns2.length c12)))); have HB11u := Aside0.mk ((hfu.block _ (blk_lt HB11.out) (Kd.R_ne HR11.out HB11.out (by decide))).trans HB11.out); have HB12u := Aside0.mk ((hfu.block _ (blk_lt HB12.out) (Kd.R_ne HR11.out HB12.out (by decide))).trans HB12.out); have HBu := Aside0.mk (HBw.out.trans (hfu.below hsz (fun k hk => Kd.R_base HR11.out k hk.symm))); have hszu := HBu.out.size; clear hru hfu hau)) | (go_at_call_of 32 (Value.slice A12 ns2.length c12); refine (mark_calls20 202 ns2 A12 _ c12 w.heap.size _ (by first | exact HVu.out | exact Kd.R_drew HVu.out | exact Kd.R_drewN HVu.out _) (by exact hszu) (by omega)).mono ?_; rintro e wv ⟨Av, cv, rfl, hrv, hfv, hav⟩; have HV := Aside0.mk hrv; have HUv := Aside0.mk (R_frm flat_kH HU.out hfv (fun k hk he => HAu.out k he.symm hk)); have K2 := Aside0.mk (And.intro ((blk_cell ((hfv.block _ (blk_lt HB11u.out) (Kd.R_ne HVu.out HB11u.out (by decide))).trans HB11u.out) 3).trans (rfl : _ = some (Value.slice A11 ns2.length c11))) ((blk_cell ((hfv.block _ (blk_lt HB12u.out) (Kd.R_ne HVu.out HB12u.out (by decide))).trans HB12u.out) 3).trans (rfl : _ = some (Value.slice A12 ns2.length c12)))); have HBv := Aside0.mk (HBu.out.trans (hfv.below hszu (fun k hk => Kd.R_base HVu.out k hk.symm))); clear hrv hfv hav))
              have hC1 := (Kd.R_reads' HUv.out).2.2
              have hC2 := (Kd.R_reads' HV.out).2.2
              rw [List.length_replicate] at hC1 hC2
              have HC1 := Aside0.mk hC1
              have HC2 := Aside0.mk hC2
              clear hC1 hC2 q3 t3
              go_wp2_with fail
              refine (all_calls20 201 (ns2.length + 2) Au cu _ (by omega) HC1.out).mono ?_
              rintro e w17 ⟨rfl, hb17⟩
              have HB17 := Aside0.mk (blt HBv.out hb17)
              have HC2 := Aside0.mk (Kd.C_below HC2.out hb17)
              clear hb17
              go_wp2_with fail
              refine (all_calls20 202 (ns2.length + 2) Av cv _ (by omega) HC2.out).mono ?_
              rintro e w18 ⟨rfl, hb18⟩
              have HB18 := Aside0.mk (blt HB17.out hb18)
              clear hb18
              go_wp2_with fail
              refine (awake20 _).mono ?_
              rintro e w19 ⟨rfl, hb19⟩
              have HB19 := Aside0.mk (blt HB18.out hb19)
              clear hb19
              go_wp2_with fail
              go_ret
              exact ⟨rfl, HB19.out⟩
set_option maxHeartbeats 4000000 in
set_option maxRecDepth 100000 in
theorem span_bytes_many (n f t : Nat) (ns : List Hsh) (A : Option Addr) (cA : Nat) (m : Nat) (B : Option Addr) (cB : Nat) (w : World) (h : 200 < ns.length ∨ (ns.length ≤ 200 ∧ 6400 < m)) :
    Calls Try.prog 5 #[.agg #[.int .u64 n, .int .u64 f, .int .u64 t, .slice A ns.length cA], .slice B m cB] w fun e w' => e = .returned (.bool true) ∧ Below w.heap.size w w' := by
  rcases h with g1 | ⟨g0, g2⟩
  · go_enter Try.func5, Try.ntmps5
    go_wp2_with fail
    go_ret
    exact ⟨rfl, (by repeat (with_reducible first | exact Below.refl _ _ | refine below_alloc ?_ _ | refine below_drew ?_))⟩
  · have g1 : ¬ (200 < ns.length) := by omega
    clear g0
    go_enter Try.func5, Try.ntmps5
    go_wp2_with fail
    go_ret
    exact ⟨rfl, (by repeat (with_reducible first | exact Below.refl _ _ | refine below_alloc ?_ _ | refine below_drew ?_))⟩
/-- massiflaw20.SpanBytes returns true. -/
theorem span_bytes_law (n f t : Nat) (ns : List Hsh) (A : Option Addr) (cA : Nat) (bs : List Int) (B : Option Addr) (cB : Nat) (w : World) (hn : n < 18446744073709551616) (hf : f < 18446744073709551616) (ht : t < 18446744073709551616)
    (h3 : bs.length ≤ cB) (hns : ∀ g ∈ ns, Bytes g.b) (hbs : Bytes bs) (hA : kH.C w A ns.length ns) (hB : Kd.C (Kd.int .u8) w B bs.length bs) :
    Calls Try.prog 5 #[.agg #[.int .u64 n, .int .u64 f, .int .u64 t, .slice A ns.length cA], .slice B bs.length cB] w fun e w' => e = .returned (.bool true) ∧ Below w.heap.size w w' := by
  by_cases h : 200 < ns.length ∨ (ns.length ≤ 200 ∧ 6400 < bs.length)
  · exact span_bytes_many n f t ns A cA bs.length B cB w h
  · exact span_bytes_some n f t ns A cA bs B cB w hn hf ht (by omega) (by omega) h3 hbs hA hB
end Go.Proofs.Ytagcabmccpekaaa.M
