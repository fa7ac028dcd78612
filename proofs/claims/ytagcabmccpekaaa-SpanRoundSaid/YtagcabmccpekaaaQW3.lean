/- span.Decode, whole; massifref20.Same of what is the same; bytes that are the same; what a span's proof is written as are bytes. massiflaw20.SpanRound returns true: the walk. -/
import Derived.Test.YtagcabmccpekaaaQW2
import Derived.Test.YtagcabmccpekaaaQW1
set_option linter.unusedVariables false
set_option linter.unusedSimpArgs false
namespace Go.Proofs.Ytagcabmccpekaaa.M
open Go.RowKit Go.Proofs.YtagcabmccpekaaaW.PrintWords Go.Proofs.YtagcabmccpekaaaW.PrintLast Go.Proofs.YtagcabmccpekaaaW.PrintMore Go.Proofs.Ytagcabmccpekaaa.Leaf

theorem sameB_loop (xs ys : List Int) (hl : xs.length = ys.length) (hb : xs.length < 9223372036854775807) : ∀ (d i : Nat), i + d = xs.length → Ev (fun k => massifref2_SameBytes.l0 k xs ys (i : Int)) (decide (xs.drop i = ys.drop i))
  | 0, i, hi => by
    rw [List.drop_of_length_le (by omega), List.drop_of_length_le (by omega)]
    exact Ev.step (f := fun _ => some (decide (([] : List Int) = []))) (fun k => by simp only [massifref2_SameBytes.l0]; rw [if_neg (by omega)]; rfl) (Ev.now _)
  | d + 1, i, hi => by
    have h1 : i < xs.length := by omega
    have h2 : i < ys.length := by omega
    have ih := sameB_loop xs ys hl hb d (i + 1) (by omega)
    have e1 : wrap64 ((i : Int) + 1) = ((i + 1 : Nat) : Int) := by rw [i64_of _ (by omega) (by omega)]; omega
    have r1 : rd xs (i : Int) = xs[i] := by simp [rd, List.getD_eq_getElem?_getD, List.getElem?_eq_getElem h1]
    have r2 : rd ys (i : Int) = ys[i] := by simp [rd, List.getD_eq_getElem?_getD, List.getElem?_eq_getElem h2]
    rw [List.drop_eq_getElem_cons h1, List.drop_eq_getElem_cons h2]
    refine Ev.step (fun k => by simp only [massifref2_SameBytes.l0]; rw [if_pos (by omega), if_pos (by omega), if_pos (by omega), r1, r2, e1]) ?_
    by_cases c : xs[i] = ys[i]
    · refine Ev.congr (fun k => if_pos c) ?_
      rw [show decide (xs[i] :: xs.drop (i + 1) = ys[i] :: ys.drop (i + 1)) = decide (xs.drop (i + 1) = ys.drop (i + 1)) by apply decide_eq_decide.2; rw [List.cons.injEq]; exact ⟨fun h => h.2, fun h => ⟨c, h⟩⟩]
      exact ih
    · refine Ev.congr (fun k => if_neg c) ?_
      rw [decide_eq_false (fun h => c (List.cons.inj h).1)]
      exact Ev.now _
theorem sameB_val (xs ys : List Int) (hb : xs.length < 9223372036854775807) : Ev (fun k => massifref2_SameBytes.f k xs ys) (decide (xs = ys)) := by
  unfold massifref2_SameBytes.f
  by_cases c : xs.length = ys.length
  · exact Ev.congr (fun k => if_pos (by omega)) (sameB_loop xs ys c hb _ 0 (Nat.zero_add _))
  · refine Ev.congr (fun k => if_neg (by omega)) ?_
    rw [decide_eq_false (fun e => c (by rw [e]))]
    exact Ev.now _
theorem sameB_true {A0 A1 : Option Addr} {n0 n1 c0 c1 : Nat} {xs : List Int} {w : World} (h0 : Rd .u8 w (.slice A0 n0 c0) xs) (h1 : Rd .u8 w (.slice A1 n1 c1) xs) (hl : xs.length < 9223372036854775807) :
    Calls Try.prog 25 #[.slice A0 n0 c0, .slice A1 n1 c1] w fun e w' => e = .returned (.bool true) ∧ Drawn0 w w' := by
  obtain ⟨_, _, e0, hl0, hc0⟩ := h0
  obtain ⟨_, _, e1, hl1, hc1⟩ := h1
  injection e0 with a0 b0 d0
  injection e1 with a1 b1 d1
  subst a0 b0 d0 a1 b1 d1
  obtain ⟨k, hk⟩ := (sameB_val xs xs hl).rounds
  rw [decide_eq_true rfl] at hk
  exact massifref2_SameBytes.calls k _ _ _ _ _ _ _ w hc0 hl0 hc1 hl1 hk

/-! Bytes. -/
theorem shortF_bytes : ∀ (f x : Nat), x < 128 ^ (f + 1) → ∀ b ∈ shortF f x, b < 256
  | 0, x, h, b, hb => by
    simp only [shortF, List.mem_singleton] at hb
    omega
  | f + 1, x, h, b, hb => by
    simp only [shortF] at hb
    split at hb
    · simp only [List.mem_singleton] at hb
      omega
    · rcases List.mem_cons.1 hb with h1 | h1
      · omega
      · refine shortF_bytes f (x / 128) ?_ b h1
        rw [Nat.div_lt_iff_lt_mul (by omega), ← Nat.pow_succ]
        exact h
theorem shortI_bytes {x : Nat} (h : x < 18446744073709551616) : Bytes (shortI x) := by
  intro b hb
  unfold shortI at hb
  obtain ⟨y, hy, rfl⟩ := List.mem_map.1 hb
  have := shortF_bytes 9 x (by rw [show 128 ^ (9 + 1) = 1180591620717411303424 by decide]; omega) y hy
  omega
theorem bytes_app {a b : List Int} (ha : Bytes a) (hb : Bytes b) : Bytes (a ++ b) := fun x hx => by
  rcases List.mem_append.1 hx with h | h
  · exact ha x h
  · exact hb x h
theorem nodes_bytes {ns : List Hsh} (h : ∀ g ∈ ns, Bytes g.b) : Bytes (nodesI ns) := by
  intro x hx
  unfold nodesI at hx
  obtain ⟨g, hg, hx⟩ := List.mem_flatMap.1 hx
  exact h g hg x hx
theorem span_bytes {f t n : Nat} {ns : List Hsh} (hf : f < 18446744073709551616) (ht : t < 18446744073709551616) (hn : n < 18446744073709551616) (h : ∀ g ∈ ns, Bytes g.b) : Bytes (spanBytes f t n ns) := by
  unfold spanBytes
  refine bytes_app (bytes_app (bytes_app (bytes_app ?_ (shortI_bytes hn)) (shortI_bytes hf)) (shortI_bytes (by omega))) (nodes_bytes h)
  intro b hb
  simp only [List.mem_singleton] at hb
  omega
theorem span_len (f t n : Nat) (ns : List Hsh) : (spanBytes f t n ns).length ≤ 31 + 32 * ns.length := by
  unfold spanBytes
  have h1 := shortI_len n
  have h2 := shortI_len f
  have h3 := shortI_len (t - f)
  have h4 := nodes_len ns
  simp only [List.length_append, List.length_singleton]
  omega

/-! span.Decode. -/
theorem span_decode (bs : List Int) (A : Option Addr) (c : Nat) (w : World) (hb : Bytes bs) (hl : bs.length ≤ 1000000000) (hc : bs.length ≤ c) (hC : Kd.C (Kd.int .u8) w A bs.length bs) :
    Calls Try.prog 29 #[.slice A bs.length c] w (Decd bs w) := by
  by_cases h : ∃ r, bs = 83 :: r
  · obtain ⟨r, rfl⟩ := h
    exact span_decode_some r A c w hb hc (by simp at hl; omega) hC
  · exact span_decode_head bs A c w hb hc hC (fun r hr => h ⟨r, hr⟩)
set_option maxHeartbeats 2000000 in
set_option maxRecDepth 100000 in
theorem same20 (n f t : Nat) (ns : List Hsh) (A B : Option Addr) (c d : Nat) (w : World) (hl : ns.length ≤ 1000000000) (hA : kH.C w A ns.length ns) (hB : kH.C w B ns.length ns) :
    Calls Try.prog 30 #[.agg #[.int .u64 n, .int .u64 f, .int .u64 t, .slice A ns.length c], .agg #[.int .u64 n, .int .u64 f, .int .u64 t, .slice B ns.length d]] w fun e w' => e = .returned (.bool true) ∧ Below w.heap.size w w' := by
  have HA := Aside0.mk hA
  have HB := Aside0.mk hB
  clear hA hB
  go_enter Try.func30, Try.ntmps30
  go_wp2_with fail
  refine (sameH_true ns A B c d _ hl (Kd.C_below HA.out (by repeat (with_reducible first | exact Below.refl _ _ | refine below_alloc ?_ _ | refine below_drew ?_))) (Kd.C_below HB.out (by repeat (with_reducible first | exact Below.refl _ _ | refine below_alloc ?_ _ | refine below_drew ?_)))).mono ?_
  rintro e w1 ⟨rfl, hb⟩
  have HB1 := Aside0.mk (blt (w := w) (by repeat (with_reducible first | exact Below.refl _ _ | refine below_alloc ?_ _ | refine below_drew ?_)) hb)
  clear hb
  go_wp2_with fail
  go_ret
  exact ⟨rfl, HB1.out⟩
end Go.Proofs.Ytagcabmccpekaaa.M

namespace Go.Proofs.Ytagcabmccpekaaa.M
open Go.RowKit Go.Proofs.YtagcabmccpekaaaW.PrintWords Go.Proofs.YtagcabmccpekaaaW.PrintLast Go.Proofs.YtagcabmccpekaaaW.PrintMore Go.Proofs.Ytagcabmccpekaaa.Leaf

/-- A list that goes on behind what is looked at. -/
theorem row_cut {w : World} {e base : Nat} {A : Option Addr} {c : Nat} {xs : List Int} {y : Int} (h : (Kd.int .u8).R e w base (fun _ => True) (.slice A (xs.length + 1) c) (xs ++ [y])) : xs.length ≤ c ∧ Kd.C (Kd.int .u8) w A xs.length xs := by
  obtain ⟨A', c', ev, hl, hC⟩ := Rd.of_R h
  injection ev with e1 e2 e3
  subst e1 e3
  have h2 := Kd.C_take hC (m := xs.length) (by simp)
  rw [List.take_left] at h2
  exact ⟨by simp at hl; omega, h2⟩
theorem rowH_cut {w : World} {e base : Nat} {A : Option Addr} {c : Nat} {xs : List Hsh} {y : Hsh} (h : kH.R e w base (fun _ => True) (.slice A (xs.length + 1) c) (xs ++ [y])) : kH.C w A xs.length xs := by
  obtain ⟨A', c', ev, hC⟩ := Hd.of_R h
  injection ev with e1 e2 e3
  subst e1 e3
  have h2 := Kd.C_take hC (m := xs.length) (by simp)
  rw [List.take_left] at h2
  exact h2
theorem Hd.parts {w : World} {A : Option Addr} {m c : Nat} {xs : List Hsh} (h : Hd w (.slice A m c) xs) : m = xs.length ∧ kH.C w A xs.length xs := by
  obtain ⟨A', c', ev, hC⟩ := h
  injection ev with e1 e2 e3
  subst e1 e2 e3
  exact ⟨rfl, hC⟩
set_option maxHeartbeats 4000000 in
set_option maxRecDepth 100000 in
theorem span_round_some (n f t : Nat) (ns : List Hsh) (A : Option Addr) (cA : Nat) (bs : List Int) (B : Option Addr) (cB : Nat) (w : World) (hn : n < 18446744073709551616) (hf : f < 18446744073709551616) (ht : t < 18446744073709551616)
    (h1 : ns.length ≤ 200) (h2 : bs.length ≤ 6400) (h3 : bs.length ≤ cB) (hns : ∀ g ∈ ns, Bytes g.b) (hbs : Bytes bs) (hA : kH.C w A ns.length ns) (hB : Kd.C (Kd.int .u8) w B bs.length bs) :
    Calls Try.prog 6 #[.agg #[.int .u64 n, .int .u64 f, .int .u64 t, .slice A ns.length cA], .slice B bs.length cB] w fun e w' => e = .returned (.bool true) ∧ Below w.heap.size w w' := by
  have HA := Aside0.mk hA
  have HB := Aside0.mk hB
  have HNs := Aside0.mk hns
  have HBs := Aside0.mk hbs
  have g1 : ¬ (200 < ns.length) := by omega
  have g2 : ¬ (6400 < bs.length) := by omega
  obtain ⟨⟨⟨n2, f2, t2, ns2⟩, er⟩, hdec⟩ : ∃ x, x = decN bs := ⟨_, rfl⟩
  have HDec := Aside0.mk hdec.symm
  clear hA hB hns hbs hdec
  go_enter Try.func6, Try.ntmps6
  go_wp2_with fail
  refine (row_calls ns A cA _ (by omega) (Kd.C_below HA.out (by repeat (with_reducible first | exact Below.refl _ _ | refine below_alloc ?_ _ | refine below_drew ?_)))).mono ?_
  rintro e w1 ⟨A1, c1, rfl, hr1, hb1⟩
  have hz1 := hb1.size
  have b2 := (hb1.block w.heap.size (by simp; omega)).trans ((Below.heap_alloc _ _ _ (by simp)).trans (heap_new w _))
  have b5 := (hb1.block (w.heap.size + 1) (by simp)).trans (heap_new2 _ _ (by simp))
  have f5 := blk_frozen b5 3
  have x5 := (blk_cell b5 3).trans rfl
  have y5 := blk_set b5 3 (.slice A1 ns.length c1)
  have hbw : Below w.heap.size w (w1.setCell ⟨w.heap.size + 1, 3, none⟩ (.slice A1 ns.length c1)) := Below.setCell (blt (w := w) (by repeat (with_reducible first | exact Below.refl _ _ | refine below_alloc ?_ _ | refine below_drew ?_)) hb1) (by simp) _
  have b2' := (Below.heap_setCell w1 ⟨w.heap.size + 1, 3, none⟩ (.slice A1 ns.length c1) w.heap.size (by simp)).trans b2
  have hA1 := rowH_cut (Kd.R_set hr1 b5 (by decide) 3 (.slice A1 ns.length c1))
  generalize hW2 : w1.setCell ⟨w.heap.size + 1, 3, none⟩ (.slice A1 ns.length c1) = W2 at *
  have y0 : W2.cell? ⟨w.heap.size + 1, 0, none⟩ = some (.int .u64 n) := (blk_cell y5 0).trans rfl
  have y1 : W2.cell? ⟨w.heap.size + 1, 1, none⟩ = some (.int .u64 f) := (blk_cell y5 1).trans rfl
  have y2 : W2.cell? ⟨w.heap.size + 1, 2, none⟩ = some (.int .u64 t) := (blk_cell y5 2).trans rfl
  have y3 : W2.cell? ⟨w.heap.size + 1, 3, none⟩ = some (.slice A1 ns.length c1) := (blk_cell y5 3).trans rfl
  have HBw := Aside0.mk hbw
  have HB2 := Aside0.mk b2'
  have HA1 := Aside0.mk hA1
  have hW3 : w1.setCell ⟨w.heap.size + 1, 3, none⟩ (.slice A1 ns.length c1) = W2 := hW2
  clear hr1 hb1 hz1 b2 b5 y5 hbw b2' hA1 hW2
  go_wp2_with fail
  have HT := Aside0.mk (fun W (hW : Below w.heap.size w W) => text_calls bs B cB W (by omega) (Kd.C_below HB.out hW))
  by_cases hck : chkN f t n ns.length = 0
  · have hea : encAns f t n ns = (spanBytes f t n ns, 0) := by unfold encAns; rw [if_pos hck]
    have hE := span_encode f t n c1 ns A1 W2 hf ht hn HA1.out
    rw [hea] at hE
    have hth := dec_there hck
    have hbl := span_len f t n ns
    have hbb := span_bytes (f := f) (t := t) (n := n) hf ht hn HNs.out
    refine hE.mono ?_
    rintro e w3 ⟨v3, rfl, hr3, hb3⟩
    generalize spanBytes f t n ns = L at *
    obtain ⟨A3, c3, e3⟩ := Kd.R_slice hr3
    subst e3
    have HR3 := Aside0.mk (Rd.of_R hr3)
    have HB3 := Aside0.mk (blt HBw.out hb3)
    have HX3 := Aside0.mk ((hb3.block _ (blk_lt HB2.out)).trans HB2.out)
    have HTh := Aside0.mk hth
    have HBb := Aside0.mk hbb
    clear hr3 hb3 hth hbb hea hE y0 y1 y2 y3 hW3
    go_wp2_with fail
    obtain ⟨_, _, ev3, hl3, hC3⟩ := HR3.out
    injection ev3 with ev1 ev2 ev4
    subst ev1 ev4
    have hD := span_decode L A3 c3 w3 HBb.out (by omega) hl3 hC3
    unfold Decd at hD
    rw [HTh.out] at hD
    simp only [reachC] at hD
    refine hD.mono ?_
    rintro e w4 ⟨v4, rfl, hr4, hb4⟩
    obtain ⟨A4, c4, e4⟩ := Kd.R_slice hr4
    subst e4
    have HR4 := Aside0.mk (Hd.of_R hr4)
    have HB4 := Aside0.mk (blt HB3.out hb4)
    have HX4 := Aside0.mk ((hb4.block _ (blk_lt HX3.out)).trans HX3.out)
    have q0 : w4.cell? ⟨w.heap.size, 0, none⟩ = some (.int .u64 n) := (blk_cell HX4.out 0).trans rfl
    have q1 : w4.cell? ⟨w.heap.size, 1, none⟩ = some (.int .u64 f) := (blk_cell HX4.out 1).trans rfl
    have q2 : w4.cell? ⟨w.heap.size, 2, none⟩ = some (.int .u64 t) := (blk_cell HX4.out 2).trans rfl
    have q3 : w4.cell? ⟨w.heap.size, 3, none⟩ = some (.slice A ns.length cA) := (blk_cell HX4.out 3).trans rfl
    have hlt4 : w.heap.size < w4.heap.size := blk_lt HX4.out
    clear hr4 hb4 hD hl3 hC3 ev2
    go_wp2_with fail
    refine (same20 n f t ns A A4 cA c4 _ (by omega) (Kd.C_below HA.out (by repeat (with_reducible first | exact HB4.out | refine below_alloc ?_ _ | refine below_drew ?_))) (Kd.C_below HR4.out.parts.2 (by repeat (with_reducible first | exact Below.refl _ _ | refine below_alloc ?_ _ | refine below_drew ?_)))).mono ?_
    rintro e w6 ⟨rfl, hb6⟩
    have HX := Aside0.mk (blt (w := w) (by repeat (with_reducible first | exact HB4.out | refine below_alloc ?_ _ | refine below_drew ?_)) hb6)
    clear hb6
    go_wp2_with fail
    refine (HT.out _ (by repeat (with_reducible first | exact HX.out | refine below_alloc ?_ _ | refine below_drew ?_))).mono ?_
    rintro e w7 ⟨A7, c7, rfl, hr7, hb7⟩
    have HX7 := Aside0.mk (blt (w := w) (by repeat (with_reducible first | exact HX.out | refine below_alloc ?_ _ | refine below_drew ?_)) hb7)
    have hcut := row_cut hr7
    have HCut := Aside0.mk hcut
    clear hr7 hb7 hcut
    go_wp2_with fail
    have hD := span_decode bs A7 c7 w7 HBs.out (by omega) HCut.out.1 HCut.out.2
    unfold Decd at hD
    rw [HDec.out] at hD
    simp only [reachC] at hD
    refine hD.mono ?_
    rintro e w8 ⟨v8, rfl, hr8, hb8⟩
    obtain ⟨A8, c8, e8⟩ := Kd.R_slice hr8
    subst e8
    have HR8 := Aside0.mk (Hd.of_R hr8).parts.2
    have HX8 := Aside0.mk (blt HX7.out hb8)
    clear hr8 hb8 hD
    by_cases her : er = 0
    · subst her
      obtain ⟨k1, k2, k3, k4, k5⟩ := dec_back HBs.out HDec.out
      have hea2 : encAns f2 t2 n2 ns2 = (bs, 0) := by unfold encAns; rw [if_pos k1, k2]
      have hE2 := fun W hW => span_encode f2 t2 n2 c8 ns2 A8 W (by omega) (by omega) (by omega) (Kd.C_below HR8.out hW)
      rw [hea2] at hE2
      have HE2 := Aside0.mk hE2
      clear hE2 hea2 k1 k2
      go_wp2_with fail
      refine (HE2.out _ (by repeat (with_reducible first | exact Below.refl _ _ | refine below_alloc ?_ _ | refine below_drew ?_))).mono ?_
      rintro e w9 ⟨v9, rfl, hr9, hb9⟩
      obtain ⟨A9, c9, e9⟩ := Kd.R_slice hr9
      subst e9
      have HR9 := Aside0.mk (Rd.of_R hr9)
      have HX9 := Aside0.mk (blt (w := w) (by repeat (with_reducible first | exact HX8.out | refine below_alloc ?_ _ | refine below_drew ?_)) hb9)
      clear hr9 hb9 HE2
      go_wp2_with fail
      refine (sameB_true (xs := bs) ⟨B, cB, rfl, h3, Kd.C_below HB.out (by repeat (with_reducible first | exact HX9.out | refine below_alloc ?_ _ | refine below_drew ?_))⟩ (by repeat (with_reducible first | exact HR9.out | refine Rd.drew ?_)) (by omega)).mono ?_
      rintro e w10 ⟨rfl, hd10⟩
      have HX10 := Aside0.mk (blt (w := w) (by repeat (with_reducible first | exact HX9.out | refine below_alloc ?_ _ | refine below_drew ?_)) hd10.below)
      clear hd10
      go_wp2_with fail
      refine (awake20 _).mono ?_
      rintro e w11 ⟨rfl, hb11⟩
      have HX11 := Aside0.mk (blt (w := w) (by repeat (with_reducible first | exact HX10.out | refine below_alloc ?_ _ | refine below_drew ?_)) hb11)
      clear hb11
      go_wp2_with fail
      go_ret
      exact ⟨rfl, HX11.out⟩
    · have ge : (er != 0) = true := by rw [bne_iff_ne]; exact her
      clear her
      go_wp2_with fail
      refine (awake20 _).mono ?_
      rintro e w11 ⟨rfl, hb11⟩
      have HX11 := Aside0.mk (blt (w := w) (by repeat (with_reducible first | exact HX8.out | refine below_alloc ?_ _ | refine below_drew ?_)) hb11)
      clear hb11
      go_wp2_with fail
      go_ret
      exact ⟨rfl, HX11.out⟩
  · have hea : encAns f t n ns = ([], chkN f t n ns.length) := by unfold encAns; rw [if_neg hck]
    have hE := span_encode f t n c1 ns A1 W2 hf ht hn HA1.out
    rw [hea] at hE
    refine hE.mono ?_
    rintro e w3 ⟨v3, rfl, hr3, hb3⟩
    have gk : (chkN f t n ns.length == 0) = false := by rw [beq_eq_false_iff_ne]; exact hck
    have HX := Aside0.mk (blt HBw.out hb3)
    generalize chkN f t n ns.length = er0 at *
    clear hr3 hb3 hea hE y0 y1 y2 y3 hW3
    go_wp2_with fail
    refine (HT.out _ (by repeat (with_reducible first | exact HX.out | refine below_alloc ?_ _ | refine below_drew ?_))).mono ?_
    rintro e w7 ⟨A7, c7, rfl, hr7, hb7⟩
    have HX7 := Aside0.mk (blt (w := w) (by repeat (with_reducible first | exact HX.out | refine below_alloc ?_ _ | refine below_drew ?_)) hb7)
    have hcut := row_cut hr7
    have HCut := Aside0.mk hcut
    clear hr7 hb7 hcut
    go_wp2_with fail
    have hD := span_decode bs A7 c7 w7 HBs.out (by omega) HCut.out.1 HCut.out.2
    unfold Decd at hD
    rw [HDec.out] at hD
    simp only [reachC] at hD
    refine hD.mono ?_
    rintro e w8 ⟨v8, rfl, hr8, hb8⟩
    obtain ⟨A8, c8, e8⟩ := Kd.R_slice hr8
    subst e8
    have HR8 := Aside0.mk (Hd.of_R hr8).parts.2
    have HX8 := Aside0.mk (blt HX7.out hb8)
    clear hr8 hb8 hD
    by_cases her : er = 0
    · subst her
      obtain ⟨k1, k2, k3, k4, k5⟩ := dec_back HBs.out HDec.out
      have hea2 : encAns f2 t2 n2 ns2 = (bs, 0) := by unfold encAns; rw [if_pos k1, k2]
      have hE2 := fun W hW => span_encode f2 t2 n2 c8 ns2 A8 W (by omega) (by omega) (by omega) (Kd.C_below HR8.out hW)
      rw [hea2] at hE2
      have HE2 := Aside0.mk hE2
      clear hE2 hea2 k1 k2
      go_wp2_with fail
      refine (HE2.out _ (by repeat (with_reducible first | exact Below.refl _ _ | refine below_alloc ?_ _ | refine below_drew ?_))).mono ?_
      rintro e w9 ⟨v9, rfl, hr9, hb9⟩
      obtain ⟨A9, c9, e9⟩ := Kd.R_slice hr9
      subst e9
      have HR9 := Aside0.mk (Rd.of_R hr9)
      have HX9 := Aside0.mk (blt (w := w) (by repeat (with_reducible first | exact HX8.out | refine below_alloc ?_ _ | refine below_drew ?_)) hb9)
      clear hr9 hb9 HE2
      go_wp2_with fail
      refine (sameB_true (xs := bs) ⟨B, cB, rfl, h3, Kd.C_below HB.out (by repeat (with_reducible first | exact HX9.out | refine below_alloc ?_ _ | refine below_drew ?_))⟩ (by repeat (with_reducible first | exact HR9.out | refine Rd.drew ?_)) (by omega)).mono ?_
      rintro e w10 ⟨rfl, hd10⟩
      have HX10 := Aside0.mk (blt (w := w) (by repeat (with_reducible first | exact HX9.out | refine below_alloc ?_ _ | refine below_drew ?_)) hd10.below)
      clear hd10
      go_wp2_with fail
      refine (awake20 _).mono ?_
      rintro e w11 ⟨rfl, hb11⟩
      have HX11 := Aside0.mk (blt (w := w) (by repeat (with_reducible first | exact HX10.out | refine below_alloc ?_ _ | refine below_drew ?_)) hb11)
      clear hb11
      go_wp2_with fail
      go_ret
      exact ⟨rfl, HX11.out⟩
    · have ge : (er != 0) = true := by rw [bne_iff_ne]; exact her
      clear her
      go_wp2_with fail
      refine (awake20 _).mono ?_
      rintro e w11 ⟨rfl, hb11⟩
      have HX11 := Aside0.mk (blt (w := w) (by repeat (with_reducible first | exact HX8.out | refine below_alloc ?_ _ | refine below_drew ?_)) hb11)
      clear hb11
      go_wp2_with fail
      go_ret
      exact ⟨rfl, HX11.out⟩
set_option maxHeartbeats 4000000 in
set_option maxRecDepth 100000 in
theorem span_round_many (n f t : Nat) (ns : List Hsh) (A : Option Addr) (cA : Nat) (m : Nat) (B : Option Addr) (cB : Nat) (w : World) (h : 200 < ns.length ∨ (ns.length ≤ 200 ∧ 6400 < m)) :
    Calls Try.prog 6 #[.agg #[.int .u64 n, .int .u64 f, .int .u64 t, .slice A ns.length cA], .slice B m cB] w fun e w' => e = .returned (.bool true) ∧ Below w.heap.size w w' := by
  rcases h with g1 | ⟨g0, g2⟩
  · go_enter Try.func6, Try.ntmps6
    go_wp2_with fail
    go_ret
    exact ⟨rfl, by repeat (with_reducible first | exact Below.refl _ _ | refine below_alloc ?_ _ | refine below_drew ?_)⟩
  · have g1 : ¬ (200 < ns.length) := by omega
    clear g0
    go_enter Try.func6, Try.ntmps6
    go_wp2_with fail
    go_ret
    exact ⟨rfl, by repeat (with_reducible first | exact Below.refl _ _ | refine below_alloc ?_ _ | refine below_drew ?_)⟩
/-- massiflaw20.SpanRound returns true. -/
theorem span_round_law (n f t : Nat) (ns : List Hsh) (A : Option Addr) (cA : Nat) (bs : List Int) (B : Option Addr) (cB : Nat) (w : World) (hn : n < 18446744073709551616) (hf : f < 18446744073709551616) (ht : t < 18446744073709551616)
    (h3 : bs.length ≤ cB) (hns : ∀ g ∈ ns, Bytes g.b) (hbs : Bytes bs) (hA : kH.C w A ns.length ns) (hB : Kd.C (Kd.int .u8) w B bs.length bs) :
    Calls Try.prog 6 #[.agg #[.int .u64 n, .int .u64 f, .int .u64 t, .slice A ns.length cA], .slice B bs.length cB] w fun e w' => e = .returned (.bool true) ∧ Below w.heap.size w w' := by
  by_cases h : 200 < ns.length ∨ (ns.length ≤ 200 ∧ 6400 < bs.length)
  · exact span_round_many n f t ns A cA bs.length B cB w h
  · exact span_round_some n f t ns A cA bs B cB w hn hf ht (by omega) (by omega) h3 hns hbs hA hB
end Go.Proofs.Ytagcabmccpekaaa.M
