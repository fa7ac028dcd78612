/- proof.DecodePrefix. massifref7.SameProofs, SamePrefixes, of what is the same. massiflaw7.ProofRound returns true: the walk. -/
import Derived.Test.YtefnonlhepekdaaDoorPR2
set_option linter.unusedVariables false
set_option linter.unusedSimpArgs false
set_option linter.unusedVariables false
set_option linter.unusedSimpArgs false
namespace Go.Proofs.YtefnonlhepekdaaDoor.M
open Go.RowKit Go.Proofs.YtefnonlhepekdaaDoorW.PrintWords Go.Proofs.YtefnonlhepekdaaDoorW.PrintLast Go.Proofs.YtefnonlhepekdaaDoorW.PrintMore Go.Proofs.YtefnonlhepekdaaDoor.Leaf

theorem runX (bs : List Int) {s1 s2 a1 a2 a3 b1 b2 b3} (hs : kindR 80 bs = (s1, s2)) (ha : numS s2 s1 = (a1, a2, a3)) (hb : numS a3 a2 = (b1, b2, b3)) :
    decX bs = endP a1 b1 (orE b3 ((prefAns a1 b1).2 ≠ 0) (prefAns a1 b1).2) b2 (prefAns a1 b1).1 := by
  have bad : ∀ (x y : Nat) (e : Int) (r : List Int), e ≠ 0 → endP x y (orE e ((prefAns x y).2 ≠ 0) (prefAns x y).2) r (prefAns x y).1 = (noPr, e) := fun x y e r he => by
    rw [show orE e ((prefAns x y).2 ≠ 0) (prefAns x y).2 = e from if_neg (fun h => he h.1)]
    exact if_pos he
  cases bs with
  | nil =>
    cases hs
    cases ha
    cases hb
    exact (bad _ _ _ _ (by decide)).symm
  | cons b r =>
    simp only [kindR] at hs
    injection hs with h1 h2
    subst h1
    rw [decX]
    by_cases c1 : b ≠ 80
    · rw [if_pos c1] at h2 ⊢
      subst h2
      cases ha
      cases hb
      exact (bad _ _ _ _ (by decide)).symm
    · rw [if_neg c1] at h2 ⊢
      subst h2
      rw [show numS 0 r = numR r from if_neg (by simp)] at ha
      rw [ha]
      simp only
      by_cases c2 : a3 = 0
      · subst c2
        rw [if_neg (by simp)]
        rw [show numS 0 a2 = numR a2 from if_neg (by simp)] at hb
        rw [hb]
        simp only
        by_cases c4 : b3 = 0
        · subst c4
          rw [if_neg (by simp)]
          unfold decX2 endP
          by_cases c5 : (prefAns a1 b1).2 = 0
          · rw [if_neg (fun h => h c5), show orE 0 ((prefAns a1 b1).2 ≠ 0) (prefAns a1 b1).2 = 0 from if_neg (fun h => h.2 c5), if_neg (by simp)]
            rfl
          · rw [if_pos c5, show orE 0 ((prefAns a1 b1).2 ≠ 0) (prefAns a1 b1).2 = (prefAns a1 b1).2 from if_pos ⟨rfl, c5⟩, if_pos c5]
        · rw [if_pos c4]
          exact (bad _ _ _ _ c4).symm
      · rw [if_pos c2]
        rw [show numS a3 a2 = (0, a2, a3) from if_pos c2] at hb
        cases hb
        exact (bad _ _ _ _ c2).symm
set_option maxHeartbeats 4000000 in
set_option maxRecDepth 100000 in
theorem pref_decode (bs : List Int) (A : Option Addr) (n c : Nat) (w : World) (hb : Bytes bs) (hl : bs.length = n) (hn : n ≤ 1000000000) (hc : n ≤ c) (hC : Kd.C (Kd.int .u8) w A n bs) (hT : DB w) :
    Calls Tryd.prog 48 #[.slice A n c] w (DecA 43 (decX bs) w) := by
  obtain ⟨g, hg, hgl⟩ := CG.ex hC
  obtain ⟨⟨s1, s2⟩, hs⟩ : ∃ x, kindR 80 bs = x := ⟨_, rfl⟩
  obtain ⟨⟨a1, a2, a3⟩, ha⟩ : ∃ x, numS s2 s1 = x := ⟨_, rfl⟩
  obtain ⟨⟨b1, b2, b3⟩, hb3⟩ : ∃ x, numS a3 a2 = x := ⟨_, rfl⟩
  have hrun := runX bs hs ha hb3
  have hby1 : Bytes s1 := by have := kind_bytes (k := 80) hb; rw [hs] at this; exact this
  have hby2 : Bytes a2 := by have := numS_bytes (er := s2) hby1; rw [ha] at this; exact this
  have ha1 : a1 < 18446744073709551616 := by have := numS_lt (er := s2) hby1; rw [ha] at this; exact this
  have hb1 : b1 < 18446744073709551616 := by have := numS_lt (er := a3) hby2; rw [hb3] at this; exact this
  have HG := Aside0.mk hg
  have HT := Aside0.mk hT
  have HGL := Aside0.mk hgl
  have HS := Aside0.mk hs
  have HA := Aside0.mk ha
  have HB := Aside0.mk hb3
  have HRun := Aside0.mk hrun
  have HY1 := Aside0.mk hby1
  have HY2 := Aside0.mk hby2
  have hmf : ∀ (fn : Fn) (first cap : Array Value) (w : World), (Instr.makeFunc fn first cap).run Tryd.prog w = .ok (.func fn first cap) w := fun _ _ _ _ => rfl
  clear hC hT hg hgl hs ha hb3 hrun hby1 hby2 hb
  go_enter Tryd.func48, Tryd.ntmps48
  go_wp2_with fail
  refine (kind_calls 80 (w.heap.size + 1) n c g A bs _ hn (Rdr.new HG.out HGL.out hl hc (bl_new w _) (by simp))).mono ?_
  rintro o w1 ⟨rfl, hr, hf⟩
  rw [HS.out] at hr
  have HR := Aside0.mk hr
  have HD := Aside0.mk (Dp.frm (t := 43) ⟨below_alloc (bl_new w _) _, (Below.heap_alloc _ _ _ (by simp)).trans (heap_new w _)⟩ hf)
  clear hr hf
  go_wp2_with fail
  obtain ⟨A1, n1, c1, hn1, hr1⟩ := HR.out
  refine (number_calls s2 (w.heap.size + 1) n1 c1 g A1 s1 _ (Nat.le_trans hn1 hn) HY1.out hr1).mono ?_
  rintro o w2 ⟨rfl, hr, hf⟩
  rw [HA.out] at hr ⊢
  have HR2 := Aside0.mk hr
  have HD2 := Aside0.mk (HD.out.frm hf)
  clear hr hf HR HD hr1
  go_wp2_with fail
  obtain ⟨A2, n2, c2, hn2, hr2⟩ := HR2.out
  have hn3 : n2 ≤ 1000000000 := by omega
  refine (number_calls a3 (w.heap.size + 1) n2 c2 g A2 a2 _ hn3 HY2.out hr2).mono ?_
  rintro o w4 ⟨rfl, hr, hf⟩
  rw [HB.out] at hr ⊢
  have HR4 := Aside0.mk hr
  have HD4 := Aside0.mk (HD2.out.frm hf)
  clear hr hf HR2 HD2 hr2
  go_wp2_with fail
  refine (pref_calls a1 b1 w4 (HT.out.below HD4.out.be)).mono ?_
  rintro e w6 ⟨v, rfl, hr6, hb6⟩
  obtain ⟨A6, q, c6, e9⟩ : ∃ A m c, v = .slice A m c := by obtain ⟨A, c, h⟩ := Kd.R_slice hr6; exact ⟨A, _, c, h⟩
  subst e9
  have hq := (Kd.R_reads' hr6).1
  have hq2 := prefAns_len a1 b1
  rw [← hq] at hq2
  have HQ := Aside0.mk hq.symm
  obtain ⟨A4, n4, c4, hn4, hr4⟩ := HR4.out
  have HR6 := Aside0.mk (hr4.below hb6)
  have HD6 := Aside0.mk (HD4.out.below hb6)
  clear hr6 hb6 HR4 HD4 hr4 hq
  generalize hpe : (prefAns a1 b1).2 = pe at *
  go_wp2_with fail
  refine (fail_calls _ pe b3 (w.heap.size + 1) n4 c4 g A4 b2 _ HR6.out).mono ?_
  rintro o w5 ⟨rfl, hr, hf⟩
  have he : (if b3 = 0 ∧ (pe != 0) = true then pe else b3) = orE b3 (pe ≠ 0) pe := by
    unfold orE
    by_cases c2 : pe = 0 <;> simp [c2]
  rw [he] at hr
  generalize orE b3 (pe ≠ 0) pe = e5 at *
  have k1 := (blk_cell hr.box 1).trans (rfl : _ = some (Value.int .i64 e5))
  have HR5 := Aside0.mk hr
  have HD5 := Aside0.mk (HD6.out.frm hf)
  clear hr hf HR6 HD6 he HA HB HS
  by_cases h5 : e5 = 0
  · subst h5
    have HR6 := Aside0.mk HR5.out
    have HD6 := Aside0.mk HD5.out
    have HW6 := Aside0.mk HD5.out.be.size
    go_wp2_with fail
    clear HR5 HD5 k1
    refine (nodes_calls 0 (w.heap.size + 1) n4 c4 q g A4 b2 _ (by omega) HR6.out).mono ?_
    rintro o w7 ⟨v, rfl, hr7, hrd, hf7⟩
    obtain ⟨A7, n7, c7, e9⟩ : ∃ A m c, v = .slice A m c := by obtain ⟨A, c, h⟩ := Kd.R_slice hr7; exact ⟨A, _, c, h⟩
    subst e9
    obtain ⟨A8, n8, c8, bs8, hr8⟩ := hrd
    have hend : decX bs = (if (nodS 0 q b2).2 ≠ 0 then (noPr, (nodS 0 q b2).2) else ((a1, b1, (nodS 0 q b2).1), 0)) := by
      rw [HRun.out]
      unfold endP
      rw [if_neg (by simp), HQ.out]
    generalize (nodS 0 q b2).1 = hs at *
    generalize (nodS 0 q b2).2 = e7 at *
    have k1 := (blk_cell hr8.box 1).trans (rfl : _ = some (Value.int .i64 e7))
    have HD7 := Aside0.mk (HD6.out.frm hf7)
    have HH7 := Aside0.mk (Kd.R_lower hr7 HW6.out)
    have HO7 := Aside0.mk (show ∀ k, (Value.slice A7 n7 c7).ownBlock = some k → k ≠ w.heap.size from fun k hk h => by
      have := Kd.R_base hr7 k hk
      have := HD6.out.be.size
      have := blk_lt HD6.out.res
      omega)
    have r0 := (blk_cell HD7.out.res 0).trans (rfl : _ = some (Value.int .u64 0))
    have r1 := (blk_cell HD7.out.res 1).trans (rfl : _ = some (Value.int .u64 0))
    have r2 := (blk_cell HD7.out.res 2).trans (rfl : _ = some (Value.slice none 0 0))
    have q0 := blk_frozen HD7.out.res 0
    have q1 := blk_frozen HD7.out.res 1
    have q2 := blk_frozen HD7.out.res 2
    clear hr7 hr8 hf7 HR6 HD6 HRun HQ
    by_cases h7 : e7 = 0
    · rw [if_neg (fun h => h h7)] at hend
      subst h7
      have HEnd := Aside0.mk hend
      clear hend
      go_wp2_with fail
      (try simp only [Exit.inBlock, Exit.then])
      refine bodyPost_ret (results_ct rfl _ _ w.heap.size 43 #[.int .u64 a1, .int .u64 b1, .slice A7 n7 c7] (0, 0) _ rfl (blk_set3 HD7.out.res rfl (.int .u64 a1) (.int .u64 b1) (.slice A7 n7 c7)) Tryd.underlying43 rfl sizePx) rfl ?_
      rw [HEnd.out]
      exact ⟨.slice A7 n7 c7, rfl, R_frm flat_kH HH7.out (Frm.set3 _ _ _ _ _) (fun k hk h => HO7.out k hk h), HD7.out.end3 (Frm.set3 _ _ _ _ _)⟩
    · rw [if_pos h7] at hend
      have HEnd := Aside0.mk hend
      clear hend
      go_wp2_with fail
      go_region
      go_wp2_with fail
      (try simp only [Exit.inBlock, Exit.then])
      refine bodyPost_ret (results_ct rfl _ _ w.heap.size 43 #[.int .u64 0, .int .u64 0, .slice none 0 0] (0, 0) _ rfl (blk_set3 HD7.out.res rfl (.int .u64 0) (.int .u64 0) (.slice none 0 0)) Tryd.underlying43 rfl sizePx) rfl ?_
      rw [HEnd.out]
      exact ⟨.slice none 0 0, rfl, Kd.R_nil _ _ _ _ _, HD7.out.end3 (Frm.set3 _ _ _ _ _).drewR⟩
  · have hd : decX bs = (noPr, e5) := by rw [HRun.out]; exact if_pos h5
    have HEnd := Aside0.mk hd
    clear hd
    have r0 := (blk_cell HD5.out.res 0).trans (rfl : _ = some (Value.int .u64 0))
    have r1 := (blk_cell HD5.out.res 1).trans (rfl : _ = some (Value.int .u64 0))
    have r2 := (blk_cell HD5.out.res 2).trans (rfl : _ = some (Value.slice none 0 0))
    have q0 := blk_frozen HD5.out.res 0
    have q1 := blk_frozen HD5.out.res 1
    have q2 := blk_frozen HD5.out.res 2
    go_wp2_with fail
    go_region
    go_wp2_with fail
    (try simp only [Exit.inBlock, Exit.then])
    refine bodyPost_ret (results_ct rfl _ _ w.heap.size 43 #[.int .u64 0, .int .u64 0, .slice none 0 0] (0, 0) _ rfl (blk_set3 HD5.out.res rfl (.int .u64 0) (.int .u64 0) (.slice none 0 0)) Tryd.underlying43 rfl sizePx) rfl ?_
    rw [HEnd.out]
    exact ⟨.slice none 0 0, rfl, Kd.R_nil _ _ _ _ _, HD5.out.end3 (Frm.set3 _ _ _ _ _).drewR⟩
end Go.Proofs.YtefnonlhepekdaaDoor.M

set_option linter.unusedVariables false
set_option linter.unusedSimpArgs false
namespace Go.Proofs.YtefnonlhepekdaaDoor.M
open Go.RowKit Go.Proofs.YtefnonlhepekdaaDoorW.PrintWords Go.Proofs.YtefnonlhepekdaaDoorW.PrintLast Go.Proofs.YtefnonlhepekdaaDoorW.PrintMore Go.Proofs.YtefnonlhepekdaaDoor.Leaf

set_option maxHeartbeats 1000000 in
set_option maxRecDepth 100000 in
theorem same_proofs (n i : Nat) (ns : List Hsh) (A B : Option Addr) (c d : Nat) (w : World) (hl : ns.length ≤ 1000000000) (hA : kH.C w A ns.length ns) (hB : kH.C w B ns.length ns) :
    Calls Tryd.prog 49 #[.agg #[.int .u64 n, .int .u64 i, .slice A ns.length c], .agg #[.int .u64 n, .int .u64 i, .slice B ns.length d]] w fun e w' => e = .returned (.bool true) ∧ Below w.heap.size w w' := by
  have HA := Aside0.mk hA
  have HB := Aside0.mk hB
  clear hA hB
  go_enter Tryd.func49, Tryd.ntmps49
  go_wp2_with fail
  refine (sameH_true ns A B c d _ hl (Kd.C_below HA.out (by repeat (with_reducible first | exact Below.refl _ _ | refine below_alloc ?_ _ | refine below_drew ?_))) (Kd.C_below HB.out (by repeat (with_reducible first | exact Below.refl _ _ | refine below_alloc ?_ _ | refine below_drew ?_)))).mono ?_
  rintro e w1 ⟨rfl, hb⟩
  have HB1 := Aside0.mk (blt (w := w) (by repeat (with_reducible first | exact Below.refl _ _ | refine below_alloc ?_ _ | refine below_drew ?_)) hb)
  clear hb
  go_wp2_with fail
  go_ret
  exact ⟨rfl, HB1.out⟩
set_option maxHeartbeats 1000000 in
set_option maxRecDepth 100000 in
theorem same_prefs (n i : Nat) (ns : List Hsh) (A B : Option Addr) (c d : Nat) (w : World) (hl : ns.length ≤ 1000000000) (hA : kH.C w A ns.length ns) (hB : kH.C w B ns.length ns) :
    Calls Tryd.prog 50 #[.agg #[.int .u64 n, .int .u64 i, .slice A ns.length c], .agg #[.int .u64 n, .int .u64 i, .slice B ns.length d]] w fun e w' => e = .returned (.bool true) ∧ Below w.heap.size w w' := by
  have HA := Aside0.mk hA
  have HB := Aside0.mk hB
  clear hA hB
  go_enter Tryd.func50, Tryd.ntmps50
  go_wp2_with fail
  refine (sameH_true ns A B c d _ hl (Kd.C_below HA.out (by repeat (with_reducible first | exact Below.refl _ _ | refine below_alloc ?_ _ | refine below_drew ?_))) (Kd.C_below HB.out (by repeat (with_reducible first | exact Below.refl _ _ | refine below_alloc ?_ _ | refine below_drew ?_)))).mono ?_
  rintro e w1 ⟨rfl, hb⟩
  have HB1 := Aside0.mk (blt (w := w) (by repeat (with_reducible first | exact Below.refl _ _ | refine below_alloc ?_ _ | refine below_drew ?_)) hb)
  clear hb
  go_wp2_with fail
  go_ret
  exact ⟨rfl, HB1.out⟩
end Go.Proofs.YtefnonlhepekdaaDoor.M

set_option linter.unusedVariables false
set_option linter.unusedSimpArgs false
namespace Go.Proofs.YtefnonlhepekdaaDoor.M
open Go.RowKit Go.Proofs.YtefnonlhepekdaaDoorW.PrintWords Go.Proofs.YtefnonlhepekdaaDoorW.PrintLast Go.Proofs.YtefnonlhepekdaaDoorW.PrintMore Go.Proofs.YtefnonlhepekdaaDoor.Leaf

theorem shortF_bytes : ∀ (f x : Nat), x < 128 ^ (f + 1) → ∀ b ∈ shortF f x, b < 256
  | 0, x, h, b, hb => by
    simp only [shortF, List.mem_singleton] at hb
    omega
  | f + 1, x, h, b, hb => by
    simp only [shortF] at hb
    split at hb
    · simp only [List.mem_singleton] at hb
      omega
    · rcases List.mem_cons.1 hb with h1 | h1
      · omega
      · refine shortF_bytes f (x / 128) ?_ b h1
        rw [Nat.div_lt_iff_lt_mul (by omega), ← Nat.pow_succ]
        exact h
theorem shortI_bytes {x : Nat} (h : x < 18446744073709551616) : Bytes (shortI x) := by
  intro b hb
  unfold shortI at hb
  obtain ⟨y, hy, rfl⟩ := List.mem_map.1 hb
  have := shortF_bytes 9 x (by rw [show 128 ^ (9 + 1) = 1180591620717411303424 by decide]; omega) y hy
  omega
theorem bytes_app {a b : List Int} (ha : Bytes a) (hb : Bytes b) : Bytes (a ++ b) := fun x hx => by
  rcases List.mem_append.1 hx with h | h
  · exact ha x h
  · exact hb x h
theorem nodes_bytes {ns : List Hsh} (h : ∀ g ∈ ns, Bytes g.b) : Bytes (nodesI ns) := by
  intro x hx
  unfold nodesI at hx
  obtain ⟨g, hg, hx⟩ := List.mem_flatMap.1 hx
  exact h g hg x hx
theorem writeB_bytes {kd a b : Nat} {ns : List Hsh} (hk : kd < 256) (ha : a < 18446744073709551616) (hb : b < 18446744073709551616) (hn : ∀ g ∈ ns, Bytes g.b) : Bytes (writeB kd a b ns) := by
  unfold writeB
  refine bytes_app (bytes_app (bytes_app ?_ (shortI_bytes ha)) (shortI_bytes hb)) (nodes_bytes hn)
  intro x hx
  simp only [List.mem_singleton] at hx
  omega
theorem text_c (l : List Int) (A : Option Addr) (c : Nat) (w : World) (hl : l.length ≤ 1000000) (hC : Kd.C (Kd.int .u8) w A l.length l) :
    Calls Tryd.prog 44 #[.slice A l.length c] w fun e w' => ∃ A' c', e = .returned (.slice A' l.length c') ∧ l.length ≤ c' ∧ Kd.C (Kd.int .u8) w' A' l.length l ∧ Below w.heap.size w w' := by
  refine (text_calls l A c w hl hC).mono ?_
  rintro e w' ⟨A', c', rfl, hr, hb⟩
  have hr3 := Kd.R_take hr (m := l.length) (by simp)
  rw [List.take_left' rfl] at hr3
  exact ⟨A', c', rfl, (R_capk hr3).2.1, R_C hr3, hb⟩
/-- What the law needs of a proof that is written. -/
structure PW (n i : Nat) (ns : List Hsh) (P : List Int) (x : Int) : Prop where
  enc : pencAns i n ns = (P ++ [x], 0)
  dec : decP (P ++ [x]) = ((n, i, ns), 0)
  less : (decP P).2 ≠ 0
  more : decP (P ++ [x] ++ [0]) = (noPr, 13)
  by1 : Bytes (P ++ [x])
  by0 : Bytes P
  by2 : Bytes (P ++ [x] ++ [0])
  len : P.length ≤ 10000
theorem pw_of {n i : Nat} {ns : List Hsh} (hn : n < 18446744073709551616) (hi : i < 18446744073709551616) (hl : ns.length ≤ 300) (hns : ∀ g ∈ ns, Bytes g.b) (h : (pencAns i n ns).2 = 0) : ∃ P x, PW n i ns P x := by
  obtain ⟨h1, h2, h3, h4⟩ := penc_zero h
  have hlen := penc_len i n ns hl
  have hby := writeB_bytes (kd := 77) (by decide) hn hi hns
  rw [← h4] at hby
  have hne : (pencAns i n ns).1 ≠ [] := by
    rw [h4]
    unfold writeB
    simp
  rcases List.eq_nil_or_concat (pencAns i n ns).1 with hN | ⟨P, x, hP⟩
  · exact absurd hN hne
  · rw [List.concat_eq_append] at hP
    have hd := decP_there h
    have hm := decP_more h 0
    have hb0 : Bytes P := fun y hy => hby y (by rw [hP]; exact List.mem_append_left _ hy)
    have hless := decP_less h hb0 hP
    rw [hP] at hd hm hby hlen
    refine ⟨P, x, ⟨by rw [← hP, ← h], hd, hless, hm, hby, hb0, ?_, by simp at hlen; omega⟩⟩
    intro y hy
    rcases List.mem_append.1 hy with hy | hy
    · exact hby y hy
    · simp only [List.mem_singleton] at hy; omega
structure XW (m q : Nat) (xs : List Hsh) (L : List Int) : Prop where
  enc : xencAns m q xs = (L, 0)
  dec : decX L = ((m, q, xs), 0)
  by1 : Bytes L
  len : L.length ≤ 10000
theorem xw_of {m q : Nat} {xs : List Hsh} (hm : m < 18446744073709551616) (hq : q < 18446744073709551616) (hl : xs.length ≤ 300) (hxs : ∀ g ∈ xs, Bytes g.b) (h : (xencAns m q xs).2 = 0) : ∃ L, XW m q xs L := by
  obtain ⟨h1, h3, h4⟩ := xenc_zero h
  have hby := writeB_bytes (kd := 80) (by decide) hm hq hxs
  rw [← h4] at hby
  exact ⟨(xencAns m q xs).1, ⟨by rw [← h], decX_there h, hby, xenc_len m q xs hl⟩⟩
set_option maxHeartbeats 40000000 in
set_option maxRecDepth 100000 in
theorem proof_round_law (n i m q cA cB cC : Nat) (ns xs : List Hsh) (bs : List Int) (A B C : Option Addr) (w : World) (hn : n < 18446744073709551616) (hi : i < 18446744073709551616) (hm : m < 18446744073709551616) (hq : q < 18446744073709551616)
    (hA : kH.C w A ns.length ns) (hB : kH.C w B xs.length xs) (hC : Kd.C (Kd.int .u8) w C bs.length bs) (hcC : bs.length ≤ cC) (hns : ∀ g ∈ ns, Bytes g.b) (hxs : ∀ g ∈ xs, Bytes g.b) (hbs : Bytes bs) (hT : DB w) :
    Calls Tryd.prog 10 #[.agg #[.int .u64 n, .int .u64 i, .slice A ns.length cA], .agg #[.int .u64 m, .int .u64 q, .slice B xs.length cB], .slice C bs.length cC] w fun e w' => e = .returned (.bool true) ∧ Below w.heap.size w w' := by
  have HA := Aside0.mk hA
  have HXs := Aside0.mk hB
  have HBs := Aside0.mk hC
  have HYs := Aside0.mk hbs
  have HT := Aside0.mk hT
  have HN := Aside0.mk (show (n < 18446744073709551616 ∧ i < 18446744073709551616) ∧ m < 18446744073709551616 ∧ q < 18446744073709551616 from ⟨⟨hn, hi⟩, hm, hq⟩)
  have HHs := Aside0.mk (show (∀ g ∈ ns, Bytes g.b) ∧ ∀ g ∈ xs, Bytes g.b from ⟨hns, hxs⟩)
  clear hA hB hC hT hn hi hm hq hns hxs hbs
  by_cases hl1 : ns.length ≤ 300
  · by_cases hl2 : xs.length ≤ 300
    · by_cases hl3 : bs.length ≤ 9600
      · have hl2' : xs.length ≤ 1000000 := by omega
        go_enter Tryd.func10, Tryd.ntmps10
        go_upto_region 3 with (fail)
        go_cut [7, 8] (fun v5 v6 wc => ∃ b5 b6, v5 = .pointer (some ⟨b5, 0, none⟩) ∧ v6 = .pointer (some ⟨b6, 0, none⟩) ∧ b5 ≠ b6 ∧ w.heap.size + 1 < b5 ∧ w.heap.size + 1 < b6 ∧ Aside0 (wc.heap[b5]? = some (.cells #[.int .u64 n, .int .u64 i, .slice A ns.length cA] 41 (0, 0)) ∧ wc.heap[b6]? = some (.cells #[.int .u64 m, .int .u64 q, .slice B xs.length cB] 43 (0, 0)) ∧
          wc.heap[w.heap.size]? = some (.cells #[.int .u64 n, .int .u64 i, .slice A ns.length cA] 41 (0, 0)) ∧ wc.heap[w.heap.size + 1]? = some (.cells #[.int .u64 m, .int .u64 q, .slice B xs.length cB] 43 (0, 0)) ∧ Below w.heap.size w wc))
        case first =>
          go_region
          · go_wp2_with fail
            go_meet
            case rel =>
              obtain ⟨g1, g2, g3, g4, g5⟩ := four_new w (.cells #[.int .u64 n, .int .u64 i, .slice A ns.length cA] 41) (.cells #[.int .u64 m, .int .u64 q, .slice B xs.length cB] 43) (.cells #[.int .u64 n, .int .u64 i, .slice A ns.length cA] 41) (.cells #[.int .u64 m, .int .u64 q, .slice B xs.length cB] 43)
              exact ⟨_, _, rfl, rfl, by omega, by omega, by omega, ⟨g3, g4, g1, g2, g5⟩⟩
          · go_wp2_with fail
            go_meet
            case rel =>
              obtain ⟨g1, g2, g3, g4, g5⟩ := four_new w (.cells #[.int .u64 n, .int .u64 i, .slice A ns.length cA] 41) (.cells #[.int .u64 m, .int .u64 q, .slice B xs.length cB] 43) (.cells #[.int .u64 m, .int .u64 q, .slice B xs.length cB] 43) (.cells #[.int .u64 n, .int .u64 i, .slice A ns.length cA] 41)
              exact ⟨_, _, rfl, rfl, by omega, by omega, by omega, ⟨g4, g3, g1, g2, g5⟩⟩
        case rest =>
          obtain ⟨b5, b6, rfl, rfl, hne, hb5, hb6, HC⟩ := hcut
          obtain ⟨e5, e6, e2, e3, hbw⟩ := HC.out
          have E5 := Aside0.mk e5
          have E6 := Aside0.mk e6
          have E2 := Aside0.mk e2
          have E3 := Aside0.mk e3
          have HW := Aside0.mk hbw
          have x2 := (blk_cell e2 2).trans (rfl : _ = some (Value.slice A ns.length cA))
          have x3 := (blk_cell e3 2).trans (rfl : _ = some (Value.slice B xs.length cB))
          clear e5 e6 e2 e3 hbw HC
          go_upto_region 4 with (fail)
          go_cut [] (fun wd => ∃ Ag cg Ah ch, Aside0 (wd.heap[b5]? = some (.cells #[.int .u64 n, .int .u64 i, .slice Ag ns.length cg] 41 (0, 0)) ∧ wd.heap[b6]? = some (.cells #[.int .u64 m, .int .u64 q, .slice Ah xs.length ch] 43 (0, 0)) ∧
            wd.heap[w.heap.size]? = some (.cells #[.int .u64 n, .int .u64 i, .slice A ns.length cA] 41 (0, 0)) ∧ wd.heap[w.heap.size + 1]? = some (.cells #[.int .u64 m, .int .u64 q, .slice B xs.length cB] 43 (0, 0)) ∧ Below w.heap.size w wd ∧
            kH.R 63 wd w.heap.size (fun _ => True) (.slice Ag (ns.length + 1) cg) (ns ++ [hash1 171]) ∧ kH.R 63 wd w.heap.size (fun _ => True) (.slice Ah (xs.length + 1) ch) (xs ++ [hash1 171])))
          case first =>
            have hwd := Aside0.mk (below_drew HW.out)
            have k5 := Aside0.mk (show wc.drew.heap[b5]? = some (.cells #[.int .u64 n, .int .u64 i, .slice A ns.length cA] 41 (0, 0)) from E5.out)
            have k6 := Aside0.mk (show wc.drew.heap[b6]? = some (.cells #[.int .u64 m, .int .u64 q, .slice B xs.length cB] 43 (0, 0)) from E6.out)
            have k2 := Aside0.mk (show wc.drew.heap[w.heap.size]? = some (.cells #[.int .u64 n, .int .u64 i, .slice A ns.length cA] 41 (0, 0)) from E2.out)
            have k3 := Aside0.mk (show wc.drew.heap[w.heap.size + 1]? = some (.cells #[.int .u64 m, .int .u64 q, .slice B xs.length cB] 43 (0, 0)) from E3.out)
            have y2 : wc.drew.cell? ⟨w.heap.size, 2, none⟩ = some (.slice A ns.length cA) := x2
            have y3 : wc.drew.cell? ⟨w.heap.size + 1, 2, none⟩ = some (.slice B xs.length cB) := x3
            have hRA := Aside0.mk (row_calls ns A cA wc.drew (by omega) (Kd.C_below HA.out hwd.out))
            clear E5 E6 E2 E3
            go_region_held3 (fun w' => w'.cell? ⟨w.heap.size, 2, none⟩ = some (.slice A ns.length cA) ∧ w'.cell? ⟨w.heap.size + 1, 2, none⟩ = some (.slice B xs.length cB)) (first | exact ⟨y2, y3⟩ | exact ⟨u2, u3⟩ | exact ⟨t2, t3⟩ | exact ⟨v2, v3⟩ | exact ⟨z2, z3⟩) ((go_at_call 24; first | ((with_reducible refine hRA.out.mono ?_); rintro e w1 ⟨A1, c1, rfl, hr1, hb1⟩; have u2 := pw_cell_below hb1 y2; have u3 := pw_cell_below hb1 y3; have HR1 := Aside0.mk hr1; have HB1 := Aside0.mk hb1; clear hr1 hb1) | ((with_reducible refine (row_calls xs B cB w1 hl2' (Kd.C_below HXs.out (blt hwd.out HB1.out))).mono ?_); rintro e w2 ⟨A2, c2, rfl, hr2, hb2⟩; have t2 := pw_cell_below hb2 u2; have t3 := pw_cell_below hb2 u3; have q5 := (hb2.block _ (Nat.lt_of_lt_of_le (blk_lt k5.out) HB1.out.size)).trans ((HB1.out.block _ (blk_lt k5.out)).trans k5.out); have q6 := (hb2.block _ (Nat.lt_of_lt_of_le (blk_lt k6.out) HB1.out.size)).trans ((HB1.out.block _ (blk_lt k6.out)).trans k6.out); have s5 := (blk_cell q5 2).trans (rfl : _ = some (Value.slice A ns.length cA)); have f5 := blk_frozen q5 2; have q6' := (Below.heap_setCell w2 ⟨b5, 2, none⟩ (.slice A1 ns.length c1) b6 (fun h => hne h.symm)).trans q6; have s6 := (blk_cell q6' 2).trans (rfl : _ = some (Value.slice B xs.length cB)); have f6 := blk_frozen q6' 2; have v2 := (World.cell?_of_block (a := ⟨w.heap.size, 2, none⟩) (Below.heap_setCell w2 ⟨b5, 2, none⟩ (.slice A1 ns.length c1) w.heap.size (by show w.heap.size ≠ b5; omega))).trans t2; have v3 := (World.cell?_of_block (a := ⟨w.heap.size + 1, 2, none⟩) (Below.heap_setCell w2 ⟨b5, 2, none⟩ (.slice A1 ns.length c1) (w.heap.size + 1) (by show w.heap.size + 1 ≠ b5; omega))).trans t3; have z2 := (World.cell?_of_block (a := ⟨w.heap.size, 2, none⟩) (Below.heap_setCell (w2.setCell ⟨b5, 2, none⟩ (.slice A1 ns.length c1)) ⟨b6, 2, none⟩ (.slice A2 xs.length c2) w.heap.size (by show w.heap.size ≠ b6; omega))).trans v2; have z3 := (World.cell?_of_block (a := ⟨w.heap.size + 1, 2, none⟩) (Below.heap_setCell (w2.setCell ⟨b5, 2, none⟩ (.slice A1 ns.length c1)) ⟨b6, 2, none⟩ (.slice A2 xs.length c2) (w.heap.size + 1) (by show w.heap.size + 1 ≠ b6; omega))).trans v3; have Q5 := Aside0.mk q5; have Q6 := Aside0.mk q6; have HR2 := Aside0.mk hr2; have HB2 := Aside0.mk hb2; clear hr2 hb2 q5 q6 q6')))
            · go_wp2_with fail
              have hr1 := Kd.R_lower HR1.out hwd.out.size
              have hr2 := Kd.R_lower HR2.out (Nat.le_trans hwd.out.size HB1.out.size)
              have m5 := blk_set Q5.out 2 (.slice A1 ns.length c1)
              have m5' := (Below.heap_setCell (w2.setCell ⟨b5, 2, none⟩ (.slice A1 ns.length c1)) ⟨b6, 2, none⟩ (.slice A2 xs.length c2) b5 hne).trans m5
              have m6 := blk_set ((Below.heap_setCell w2 ⟨b5, 2, none⟩ (.slice A1 ns.length c1) b6 (fun h => hne h.symm)).trans Q6.out) 2 (.slice A2 xs.length c2)
              have m2 := (Below.heap_setCell (w2.setCell ⟨b5, 2, none⟩ (.slice A1 ns.length c1)) ⟨b6, 2, none⟩ (.slice A2 xs.length c2) w.heap.size (by show w.heap.size ≠ b6; omega)).trans ((Below.heap_setCell w2 ⟨b5, 2, none⟩ (.slice A1 ns.length c1) w.heap.size (by show w.heap.size ≠ b5; omega)).trans ((HB2.out.block _ (Nat.lt_of_lt_of_le (blk_lt k2.out) HB1.out.size)).trans ((HB1.out.block _ (blk_lt k2.out)).trans k2.out)))
              have m3 := (Below.heap_setCell (w2.setCell ⟨b5, 2, none⟩ (.slice A1 ns.length c1)) ⟨b6, 2, none⟩ (.slice A2 xs.length c2) (w.heap.size + 1) (by show w.heap.size + 1 ≠ b6; omega)).trans ((Below.heap_setCell w2 ⟨b5, 2, none⟩ (.slice A1 ns.length c1) (w.heap.size + 1) (by show w.heap.size + 1 ≠ b5; omega)).trans ((HB2.out.block _ (Nat.lt_of_lt_of_le (blk_lt k3.out) HB1.out.size)).trans ((HB1.out.block _ (blk_lt k3.out)).trans k3.out)))
              have hr1' := Kd.R_below hr1 HB2.out
              have m6' := (Below.heap_setCell w2 ⟨b5, 2, none⟩ (.slice A1 ns.length c1) b6 (fun h => hne h.symm)).trans Q6.out
              have hq1 := Kd.R_set (Kd.R_set hr1' Q5.out (by decide) 2 (.slice A1 ns.length c1)) m6' (by decide) 2 (.slice A2 xs.length c2)
              have hq2 := Kd.R_set (Kd.R_set hr2 Q5.out (by decide) 2 (.slice A1 ns.length c1)) m6' (by decide) 2 (.slice A2 xs.length c2)
              have hbz := Below.setCell (Below.setCell (blt (blt hwd.out HB1.out) HB2.out) (p := ⟨b5, 2, none⟩) (by show w.heap.size ≤ b5; omega) (.slice A1 ns.length c1)) (p := ⟨b6, 2, none⟩) (by show w.heap.size ≤ b6; omega) (.slice A2 xs.length c2)
              go_meet
              case rel => exact ⟨A1, c1, A2, c2, ⟨m5', m6, m2, m3, hbz, hq1, hq2⟩⟩
          case rest =>
            obtain ⟨Ag, cg, Ah, ch, HC⟩ := hcut
            obtain ⟨g5, g6, g2, g3, gb, gr, gh⟩ := HC.out
            have E5 := Aside0.mk g5
            have E6 := Aside0.mk g6
            have E2 := Aside0.mk g2
            have E3 := Aside0.mk g3
            have HB := Aside0.mk gb
            have RG := Aside0.mk gr
            have RH := Aside0.mk gh
            clear HC g5 g6 g2 g3 gb gr gh x2 x3 HW
            have c0_ := (blk_cell E5.out 0).trans (rfl : _ = some (Value.int .u64 n))
            have c1_ := (blk_cell E5.out 1).trans (rfl : _ = some (Value.int .u64 i))
            have c2_ := (blk_cell E5.out 2).trans (rfl : _ = some (Value.slice Ag ns.length cg))
            go_wp2_with fail
            refine (proof_encode i n cg ns Ag _ HN.out.1.2 HN.out.1.1 (C_cut (R_C RG.out) ns.length rfl)).mono ?_
            rintro e w1 ⟨v, rfl, hr, hb⟩
            obtain ⟨A1, n1, c1, e9⟩ : ∃ A m c, v = .slice A m c := by obtain ⟨A, c, h⟩ := Kd.R_slice hr; exact ⟨A, _, c, h⟩
            subst e9
            have HR1 := Aside0.mk (Kd.R_lower hr HB.out.size)
            try replace V1 := Aside0.mk (V1.out.below hb)
            try replace V2 := Aside0.mk (V2.out.below hb)
            try replace V3 := Aside0.mk (V3.out.below hb)
            try replace V4 := Aside0.mk (V4.out.below hb)
            try replace V5 := Aside0.mk (V5.out.below hb)
            try replace V6 := Aside0.mk (V6.out.below hb)
            try replace V7 := Aside0.mk (V7.out.below hb)
            try replace V8 := Aside0.mk (V8.out.below hb)
            try replace V9 := Aside0.mk (V9.out.below hb)
            try replace V10 := Aside0.mk (V10.out.below hb)
            try replace V11 := Aside0.mk (V11.out.below hb)
            try replace V12 := Aside0.mk (V12.out.below hb)
            try replace U1 := Aside0.mk (U1.out.below hb)
            try replace U2 := Aside0.mk (U2.out.below hb)
            try replace U3 := Aside0.mk (U3.out.below hb)
            try replace U4 := Aside0.mk (U4.out.below hb)
            try replace E2 := Aside0.mk ((hb.block _ (blk_lt E2.out)).trans E2.out)
            try replace E3 := Aside0.mk ((hb.block _ (blk_lt E3.out)).trans E3.out)
            try replace E5 := Aside0.mk ((hb.block _ (blk_lt E5.out)).trans E5.out)
            try replace E6 := Aside0.mk ((hb.block _ (blk_lt E6.out)).trans E6.out)
            try replace RG := Aside0.mk (Kd.R_below RG.out hb)
            try replace RH := Aside0.mk (Kd.R_below RH.out hb)
            replace HB := Aside0.mk (blt HB.out hb)
            clear hr hb c0_ c1_ c2_
            obtain ⟨⟨L1, er⟩, hEr⟩ : ∃ x, pencAns i n ns = x := ⟨_, rfl⟩
            rw [hEr] at HR1 ⊢
            have HEr := Aside0.mk hEr
            clear hEr
            go_upto_if 56 with (fail)
            go_cut [10, 11, 12] from 57 to 90 (fun _ _ _ wc => Aside0 (Below w1.heap.size w1 wc))
            case first =>
              by_cases her : er = 0
              · subst her
                have hz : (pencAns i n ns).2 = 0 := by rw [HEr.out]
                obtain ⟨P, x, hpw⟩ := pw_of HN.out.1.1 HN.out.1.2 hl1 HHs.out.1 hz
                obtain rfl : L1 = P ++ [x] := by have := HEr.out; rw [hpw.enc] at this; exact (congrArg Prod.fst this).symm
                have HPW := Aside0.mk hpw
                have hq1 := (R_capk HR1.out).1
                have hq2 := (R_capk HR1.out).2.1
                rw [List.length_append, List.length_singleton] at hq1
                subst hq1
                have hP := hpw.len
                clear hz hpw HEr
                go_wp2_with fail
                refine (proof_decode (P ++ [x]) A1 (P.length + 1) c1 _ HPW.out.by1 (by simp) (by omega) hq2 (R_C HR1.out)).mono ?_
                intro e w2 hd
                obtain ⟨v, he, hr, hb⟩ := hd
                rw [HPW.out.dec] at he hr
                dsimp only at he hr
                subst he
                obtain ⟨A2, n2, c2, e9⟩ : ∃ A m c, v = .slice A m c := by obtain ⟨A, c, h⟩ := Kd.R_slice hr; exact ⟨A, _, c, h⟩
                subst e9
                have hq3 := (Kd.R_reads' hr).1
                subst hq3
                have HR2 := Aside0.mk (R_C hr)
                have HB12 := Aside0.mk hb
                try replace V1 := Aside0.mk (V1.out.below hb)
                try replace V2 := Aside0.mk (V2.out.below hb)
                try replace V3 := Aside0.mk (V3.out.below hb)
                try replace V4 := Aside0.mk (V4.out.below hb)
                try replace V5 := Aside0.mk (V5.out.below hb)
                try replace V6 := Aside0.mk (V6.out.below hb)
                try replace V7 := Aside0.mk (V7.out.below hb)
                try replace V8 := Aside0.mk (V8.out.below hb)
                try replace V9 := Aside0.mk (V9.out.below hb)
                try replace V10 := Aside0.mk (V10.out.below hb)
                try replace V11 := Aside0.mk (V11.out.below hb)
                try replace V12 := Aside0.mk (V12.out.below hb)
                try replace U1 := Aside0.mk (U1.out.below hb)
                try replace U2 := Aside0.mk (U2.out.below hb)
                try replace U3 := Aside0.mk (U3.out.below hb)
                try replace U4 := Aside0.mk (U4.out.below hb)
                try replace E2 := Aside0.mk ((hb.block _ (blk_lt E2.out)).trans E2.out)
                try replace E3 := Aside0.mk ((hb.block _ (blk_lt E3.out)).trans E3.out)
                try replace E5 := Aside0.mk ((hb.block _ (blk_lt E5.out)).trans E5.out)
                try replace E6 := Aside0.mk ((hb.block _ (blk_lt E6.out)).trans E6.out)
                try replace RG := Aside0.mk (Kd.R_below RG.out hb)
                try replace RH := Aside0.mk (Kd.R_below RH.out hb)
                replace HB := Aside0.mk (blt HB.out hb)
                have hlt := blk_lt E2.out
                have c0_ := (blk_cell E2.out 0).trans (rfl : _ = some (Value.int .u64 n))
                have c1_ := (blk_cell E2.out 1).trans (rfl : _ = some (Value.int .u64 i))
                have c2_ := (blk_cell E2.out 2).trans (rfl : _ = some (Value.slice A ns.length cA))
                clear hr hb
                go_wp2_with fail
                refine (same_proofs n i ns A A2 cA c2 _ (by omega) (Kd.C_below HA.out (by repeat (with_reducible first | exact HB.out | refine below_alloc ?_ _ | refine below_drew ?_))) (Kd.C_below HR2.out (by repeat (with_reducible first | exact Below.refl _ _ | refine below_alloc ?_ _ | refine below_drew ?_)))).mono ?_
                rintro e w3 ⟨rfl, hb⟩
                have hb3 : Below w2.heap.size w2 w3 := blt (w := w2) (by repeat (with_reducible first | exact Below.refl _ _ | refine below_alloc ?_ _ | refine below_drew ?_)) hb
                clear c0_ c1_ c2_ hb hlt
                have HB13 := Aside0.mk (blt HB12.out hb3)
                try replace V1 := Aside0.mk (V1.out.below hb3)
                try replace V2 := Aside0.mk (V2.out.below hb3)
                try replace V3 := Aside0.mk (V3.out.below hb3)
                try replace V4 := Aside0.mk (V4.out.below hb3)
                try replace V5 := Aside0.mk (V5.out.below hb3)
                try replace V6 := Aside0.mk (V6.out.below hb3)
                try replace V7 := Aside0.mk (V7.out.below hb3)
                try replace V8 := Aside0.mk (V8.out.below hb3)
                try replace V9 := Aside0.mk (V9.out.below hb3)
                try replace V10 := Aside0.mk (V10.out.below hb3)
                try replace V11 := Aside0.mk (V11.out.below hb3)
                try replace V12 := Aside0.mk (V12.out.below hb3)
                try replace U1 := Aside0.mk (U1.out.below hb3)
                try replace U2 := Aside0.mk (U2.out.below hb3)
                try replace U3 := Aside0.mk (U3.out.below hb3)
                try replace U4 := Aside0.mk (U4.out.below hb3)
                try replace E2 := Aside0.mk ((hb3.block _ (blk_lt E2.out)).trans E2.out)
                try replace E3 := Aside0.mk ((hb3.block _ (blk_lt E3.out)).trans E3.out)
                try replace E5 := Aside0.mk ((hb3.block _ (blk_lt E5.out)).trans E5.out)
                try replace E6 := Aside0.mk ((hb3.block _ (blk_lt E6.out)).trans E6.out)
                try replace RG := Aside0.mk (Kd.R_below RG.out hb3)
                try replace RH := Aside0.mk (Kd.R_below RH.out hb3)
                replace HB := Aside0.mk (blt HB.out hb3)
                have hPl : P.length + 1 - 1 = P.length := rfl
                go_wp2_with fail
                refine (proof_decode P A1 P.length c1 _ HPW.out.by0 rfl (by omega) (by omega) (Kd.C_below (C_cut (R_C HR1.out) P.length rfl) HB13.out)).mono ?_
                intro e w4 hd
                obtain ⟨v, he, hr, hb⟩ := hd
                have hle := HPW.out.less
                generalize decP P = dP at he hr hle
                obtain ⟨⟨p1, p2, p3⟩, p4⟩ := dP
                dsimp only at he hle
                subst he
                have hle2 : (p4 == 0) = false := by rw [beq_eq_false_iff_ne]; exact hle
                have HB14 := Aside0.mk (blt HB13.out hb)
                try replace V1 := Aside0.mk (V1.out.below hb)
                try replace V2 := Aside0.mk (V2.out.below hb)
                try replace V3 := Aside0.mk (V3.out.below hb)
                try replace V4 := Aside0.mk (V4.out.below hb)
                try replace V5 := Aside0.mk (V5.out.below hb)
                try replace V6 := Aside0.mk (V6.out.below hb)
                try replace V7 := Aside0.mk (V7.out.below hb)
                try replace V8 := Aside0.mk (V8.out.below hb)
                try replace V9 := Aside0.mk (V9.out.below hb)
                try replace V10 := Aside0.mk (V10.out.below hb)
                try replace V11 := Aside0.mk (V11.out.below hb)
                try replace V12 := Aside0.mk (V12.out.below hb)
                try replace U1 := Aside0.mk (U1.out.below hb)
                try replace U2 := Aside0.mk (U2.out.below hb)
                try replace U3 := Aside0.mk (U3.out.below hb)
                try replace U4 := Aside0.mk (U4.out.below hb)
                try replace E2 := Aside0.mk ((hb.block _ (blk_lt E2.out)).trans E2.out)
                try replace E3 := Aside0.mk ((hb.block _ (blk_lt E3.out)).trans E3.out)
                try replace E5 := Aside0.mk ((hb.block _ (blk_lt E5.out)).trans E5.out)
                try replace E6 := Aside0.mk ((hb.block _ (blk_lt E6.out)).trans E6.out)
                try replace RG := Aside0.mk (Kd.R_below RG.out hb)
                try replace RH := Aside0.mk (Kd.R_below RH.out hb)
                replace HB := Aside0.mk (blt HB.out hb)
                clear hr hb hle hPl
                go_wp2_with fail
                have htx := text_calls (P ++ [x]) A1 c1 w4 (by simp; omega) (by rw [List.length_append, List.length_singleton]; exact Kd.C_below (R_C HR1.out) HB14.out)
                rw [List.length_append, List.length_singleton] at htx
                refine htx.mono ?_
                rintro e w5 ⟨A5, c5, rfl, hr, hb⟩
                have hs5 := hb.size
                have HR5 := Aside0.mk (Kd.R_lower (by have := Kd.R_take hr (m := P.length + 1) (by simp); rwa [List.take_left' (by simp)] at this) (Nat.le_refl w4.heap.size))
                have HB45 := Aside0.mk hb
                clear hr hb htx hle2
                obtain ⟨L2, hL2⟩ : ∃ L2, L2 = P ++ [x] := ⟨_, rfl⟩
                rw [← hL2] at HR5
                have hl5 : L2.length ≤ 10001 := by rw [hL2]; simp; omega
                have HL2 := Aside0.mk hL2
                clear hL2
                go_wp2_with ((with_reducible refine gate_builtin (b := .append) (xs := #[.tmp 83, .tmp 84]) rfl ?_); at_builtin; go_loud (refine app_oneN (Kd.int .u8) w4.heap.size rfl (.tmp 83) (.tmp 84) 22 5 (.int .u8 0) 1 rfl Tryd.underlying22 info5 rfl (by decide) (by omega) (.slice A5 (P.length + 1) c5) L2 (0 : Int) [.int .u8 (0 : Int)] rfl rfl rfl HR5.out hs5 (by omega) ?_; intro A9 n9 c9 w9 hr9 hf9 ha9; skip; have HR9 := Aside0.mk hr9; have HF9 := Aside0.mk hf9; have HA9 := Aside0.mk ha9; clear hr9 hf9 ha9))
                have hb49 := HB45.out.trans (HF9.out.below hs5 (fun k hk => Kd.R_base HR5.out k hk.symm))
                have hcap9 := R_capk HR9.out
                rw [List.length_append, List.length_singleton] at hcap9
                obtain ⟨hn9, hn9c, _⟩ := hcap9
                subst hn9
                refine (proof_decode (L2 ++ [0]) A9 (L2.length + 1) c9 _ (by rw [HL2.out]; exact HPW.out.by2) (by simp) (by omega) hn9c (R_C HR9.out)).mono ?_
                intro e w10 hd
                obtain ⟨v, he, hr, hb⟩ := hd
                rw [HL2.out, HPW.out.more] at he hr
                dsimp only [noPr] at he hr
                subst he
                have HBe := Aside0.mk (blt HB14.out (blt hb49 hb))
                clear hr hb hb49 hs5 hn9c
                go_wp2_with fail
                go_meet
                case rel => exact ⟨HBe.out⟩
              · have her2 : (er == 0) = false := by rw [beq_eq_false_iff_ne]; exact her
                go_wp2_with fail
                go_meet
                case rel => exact ⟨Below.refl _ _⟩
            case rest =>
              try replace V1 := Aside0.mk (V1.out.below hcut.out)
              try replace V2 := Aside0.mk (V2.out.below hcut.out)
              try replace V3 := Aside0.mk (V3.out.below hcut.out)
              try replace V4 := Aside0.mk (V4.out.below hcut.out)
              try replace V5 := Aside0.mk (V5.out.below hcut.out)
              try replace V6 := Aside0.mk (V6.out.below hcut.out)
              try replace V7 := Aside0.mk (V7.out.below hcut.out)
              try replace V8 := Aside0.mk (V8.out.below hcut.out)
              try replace V9 := Aside0.mk (V9.out.below hcut.out)
              try replace V10 := Aside0.mk (V10.out.below hcut.out)
              try replace V11 := Aside0.mk (V11.out.below hcut.out)
              try replace V12 := Aside0.mk (V12.out.below hcut.out)
              try replace U1 := Aside0.mk (U1.out.below hcut.out)
              try replace U2 := Aside0.mk (U2.out.below hcut.out)
              try replace U3 := Aside0.mk (U3.out.below hcut.out)
              try replace U4 := Aside0.mk (U4.out.below hcut.out)
              try replace E2 := Aside0.mk ((hcut.out.block _ (blk_lt E2.out)).trans E2.out)
              try replace E3 := Aside0.mk ((hcut.out.block _ (blk_lt E3.out)).trans E3.out)
              try replace E5 := Aside0.mk ((hcut.out.block _ (blk_lt E5.out)).trans E5.out)
              try replace E6 := Aside0.mk ((hcut.out.block _ (blk_lt E6.out)).trans E6.out)
              try replace RG := Aside0.mk (Kd.R_below RG.out hcut.out)
              try replace RH := Aside0.mk (Kd.R_below RH.out hcut.out)
              replace HB := Aside0.mk (blt HB.out hcut.out)
              clear hcut HR1 HEr
              have c0_ := (blk_cell E6.out 0).trans (rfl : _ = some (Value.int .u64 m))
              have c1_ := (blk_cell E6.out 1).trans (rfl : _ = some (Value.int .u64 q))
              have c2_ := (blk_cell E6.out 2).trans (rfl : _ = some (Value.slice Ah xs.length ch))
              go_wp2_with fail
              refine (pref_encode m q ch xs Ah _ HN.out.2.1 HN.out.2.2 (C_cut (R_C RH.out) xs.length rfl) (HT.out.below HB.out)).mono ?_
              rintro e w21 ⟨v, rfl, hr, hb⟩
              obtain ⟨A1, n1, c1, e9⟩ : ∃ A m c, v = .slice A m c := by obtain ⟨A, c, h⟩ := Kd.R_slice hr; exact ⟨A, _, c, h⟩
              subst e9
              have HR1 := Aside0.mk (Kd.R_lower hr HB.out.size)
              try replace V1 := Aside0.mk (V1.out.below hb)
              try replace V2 := Aside0.mk (V2.out.below hb)
              try replace V3 := Aside0.mk (V3.out.below hb)
              try replace V4 := Aside0.mk (V4.out.below hb)
              try replace V5 := Aside0.mk (V5.out.below hb)
              try replace V6 := Aside0.mk (V6.out.below hb)
              try replace V7 := Aside0.mk (V7.out.below hb)
              try replace V8 := Aside0.mk (V8.out.below hb)
              try replace V9 := Aside0.mk (V9.out.below hb)
              try replace V10 := Aside0.mk (V10.out.below hb)
              try replace V11 := Aside0.mk (V11.out.below hb)
              try replace V12 := Aside0.mk (V12.out.below hb)
              try replace U1 := Aside0.mk (U1.out.below hb)
              try replace U2 := Aside0.mk (U2.out.below hb)
              try replace U3 := Aside0.mk (U3.out.below hb)
              try replace U4 := Aside0.mk (U4.out.below hb)
              try replace E2 := Aside0.mk ((hb.block _ (blk_lt E2.out)).trans E2.out)
              try replace E3 := Aside0.mk ((hb.block _ (blk_lt E3.out)).trans E3.out)
              try replace E5 := Aside0.mk ((hb.block _ (blk_lt E5.out)).trans E5.out)
              try replace E6 := Aside0.mk ((hb.block _ (blk_lt E6.out)).trans E6.out)
              try replace RG := Aside0.mk (Kd.R_below RG.out hb)
              try replace RH := Aside0.mk (Kd.R_below RH.out hb)
              replace HB := Aside0.mk (blt HB.out hb)
              clear hr hb c0_ c1_ c2_
              obtain ⟨⟨L1, er⟩, hEr⟩ : ∃ x, xencAns m q xs = x := ⟨_, rfl⟩
              rw [hEr] at HR1 ⊢
              have HEr := Aside0.mk hEr
              clear hEr
              go_upto_if 97 with (fail)
              go_cut [15, 16] from 98 to 110 (fun _ _ wc => Aside0 (Below w21.heap.size w21 wc))
              case first =>
                by_cases her : er = 0
                · subst her
                  have hz : (xencAns m q xs).2 = 0 := by rw [HEr.out]
                  obtain ⟨P, hpw⟩ := xw_of HN.out.2.1 HN.out.2.2 hl2 HHs.out.2 hz
                  obtain rfl : L1 = P := by have := HEr.out; rw [hpw.enc] at this; exact (congrArg Prod.fst this).symm
                  have HPW := Aside0.mk hpw
                  have hq1 := (R_capk HR1.out).1
                  have hq2 := (R_capk HR1.out).2.1
                  have hP := hpw.len
                  subst hq1
                  clear hz hpw HEr
                  go_wp2_with fail
                  have hlong : L1.length ≤ 1000000000 := Nat.le_trans hP (by decide)
                  have hC1 := R_C HR1.out
                  have hT1 := HT.out.below HB.out
                  have hdec := pref_decode L1 A1 L1.length c1 w21 HPW.out.by1 rfl hlong hq2 hC1 hT1
                  refine hdec.mono ?_
                  intro e w22 hd
                  obtain ⟨v, he, hr, hb⟩ := hd
                  rw [HPW.out.dec] at he hr
                  dsimp only at he hr
                  subst he
                  obtain ⟨A2, n2, c2, e9⟩ : ∃ A m c, v = .slice A m c := by obtain ⟨A, c, h⟩ := Kd.R_slice hr; exact ⟨A, _, c, h⟩
                  subst e9
                  have hq3 := (Kd.R_reads' hr).1
                  subst hq3
                  have HR2 := Aside0.mk (R_C hr)
                  have HB12 := Aside0.mk hb
                  try replace V1 := Aside0.mk (V1.out.below hb)
                  try replace V2 := Aside0.mk (V2.out.below hb)
                  try replace V3 := Aside0.mk (V3.out.below hb)
                  try replace V4 := Aside0.mk (V4.out.below hb)
                  try replace V5 := Aside0.mk (V5.out.below hb)
                  try replace V6 := Aside0.mk (V6.out.below hb)
                  try replace V7 := Aside0.mk (V7.out.below hb)
                  try replace V8 := Aside0.mk (V8.out.below hb)
                  try replace V9 := Aside0.mk (V9.out.below hb)
                  try replace V10 := Aside0.mk (V10.out.below hb)
                  try replace V11 := Aside0.mk (V11.out.below hb)
                  try replace V12 := Aside0.mk (V12.out.below hb)
                  try replace U1 := Aside0.mk (U1.out.below hb)
                  try replace U2 := Aside0.mk (U2.out.below hb)
                  try replace U3 := Aside0.mk (U3.out.below hb)
                  try replace U4 := Aside0.mk (U4.out.below hb)
                  try replace E2 := Aside0.mk ((hb.block _ (blk_lt E2.out)).trans E2.out)
                  try replace E3 := Aside0.mk ((hb.block _ (blk_lt E3.out)).trans E3.out)
                  try replace E5 := Aside0.mk ((hb.block _ (blk_lt E5.out)).trans E5.out)
                  try replace E6 := Aside0.mk ((hb.block _ (blk_lt E6.out)).trans E6.out)
                  try replace RG := Aside0.mk (Kd.R_below RG.out hb)
                  try replace RH := Aside0.mk (Kd.R_below RH.out hb)
                  replace HB := Aside0.mk (blt HB.out hb)
                  have hlt := blk_lt E3.out
                  have c0_ := (blk_cell E3.out 0).trans (rfl : _ = some (Value.int .u64 m))
                  have c1_ := (blk_cell E3.out 1).trans (rfl : _ = some (Value.int .u64 q))
                  have c2_ := (blk_cell E3.out 2).trans (rfl : _ = some (Value.slice B xs.length cB))
                  clear hr hb
                  go_wp2_with fail
                  refine (same_prefs m q xs B A2 cB c2 _ (by omega) (Kd.C_below HXs.out (by repeat (with_reducible first | exact HB.out | refine below_alloc ?_ _ | refine below_drew ?_))) (Kd.C_below HR2.out (by repeat (with_reducible first | exact Below.refl _ _ | refine below_alloc ?_ _ | refine below_drew ?_)))).mono ?_
                  rintro e w23 ⟨rfl, hb⟩
                  have hb3 : Below w22.heap.size w22 w23 := blt (w := w22) (by repeat (with_reducible first | exact Below.refl _ _ | refine below_alloc ?_ _ | refine below_drew ?_)) hb
                  have HBe := Aside0.mk (blt HB12.out hb3)
                  clear c0_ c1_ c2_ hb hlt hb3
                  go_wp2_with fail
                  go_meet
                  case rel => exact ⟨HBe.out⟩
                · have her2 : (er == 0) = false := by rw [beq_eq_false_iff_ne]; exact her
                  go_wp2_with fail
                  go_meet
                  case rel => exact ⟨Below.refl _ _⟩
              case rest =>
                try replace V1 := Aside0.mk (V1.out.below hcut.out)
                try replace V2 := Aside0.mk (V2.out.below hcut.out)
                try replace V3 := Aside0.mk (V3.out.below hcut.out)
                try replace V4 := Aside0.mk (V4.out.below hcut.out)
                try replace V5 := Aside0.mk (V5.out.below hcut.out)
                try replace V6 := Aside0.mk (V6.out.below hcut.out)
                try replace V7 := Aside0.mk (V7.out.below hcut.out)
                try replace V8 := Aside0.mk (V8.out.below hcut.out)
                try replace V9 := Aside0.mk (V9.out.below hcut.out)
                try replace V10 := Aside0.mk (V10.out.below hcut.out)
                try replace V11 := Aside0.mk (V11.out.below hcut.out)
                try replace V12 := Aside0.mk (V12.out.below hcut.out)
                try replace U1 := Aside0.mk (U1.out.below hcut.out)
                try replace U2 := Aside0.mk (U2.out.below hcut.out)
                try replace U3 := Aside0.mk (U3.out.below hcut.out)
                try replace U4 := Aside0.mk (U4.out.below hcut.out)
                try replace E2 := Aside0.mk ((hcut.out.block _ (blk_lt E2.out)).trans E2.out)
                try replace E3 := Aside0.mk ((hcut.out.block _ (blk_lt E3.out)).trans E3.out)
                try replace E5 := Aside0.mk ((hcut.out.block _ (blk_lt E5.out)).trans E5.out)
                try replace E6 := Aside0.mk ((hcut.out.block _ (blk_lt E6.out)).trans E6.out)
                try replace RG := Aside0.mk (Kd.R_below RG.out hcut.out)
                try replace RH := Aside0.mk (Kd.R_below RH.out hcut.out)
                replace HB := Aside0.mk (blt HB.out hcut.out)
                clear hcut HR1 HEr E2 E3 E5 E6 RG RH
                go_wp2_with fail
                have hlb : bs.length ≤ 1000000 := by omega
                have hlb2 : bs.length ≤ 1000000000 := by omega
                have HLB := Aside0.mk hlb2
                have hcb := Kd.C_below HBs.out HB.out
                have htx := text_c bs C cC _ hlb hcb
                refine htx.mono ?_
                rintro e w31 ⟨A3, c3, rfl, hp3, hc3, hb⟩
                have hdec := proof_decode bs A3 bs.length c3 w31 HYs.out rfl hlb2 hp3 hc3
                have HDec := Aside0.mk hdec
                try replace V1 := Aside0.mk (V1.out.below hb)
                try replace V2 := Aside0.mk (V2.out.below hb)
                try replace V3 := Aside0.mk (V3.out.below hb)
                try replace V4 := Aside0.mk (V4.out.below hb)
                try replace V5 := Aside0.mk (V5.out.below hb)
                try replace V6 := Aside0.mk (V6.out.below hb)
                try replace V7 := Aside0.mk (V7.out.below hb)
                try replace V8 := Aside0.mk (V8.out.below hb)
                try replace V9 := Aside0.mk (V9.out.below hb)
                try replace V10 := Aside0.mk (V10.out.below hb)
                try replace V11 := Aside0.mk (V11.out.below hb)
                try replace V12 := Aside0.mk (V12.out.below hb)
                try replace U1 := Aside0.mk (U1.out.below hb)
                try replace U2 := Aside0.mk (U2.out.below hb)
                try replace U3 := Aside0.mk (U3.out.below hb)
                try replace U4 := Aside0.mk (U4.out.below hb)
                try replace E2 := Aside0.mk ((hb.block _ (blk_lt E2.out)).trans E2.out)
                try replace E3 := Aside0.mk ((hb.block _ (blk_lt E3.out)).trans E3.out)
                try replace E5 := Aside0.mk ((hb.block _ (blk_lt E5.out)).trans E5.out)
                try replace E6 := Aside0.mk ((hb.block _ (blk_lt E6.out)).trans E6.out)
                try replace RG := Aside0.mk (Kd.R_below RG.out hb)
                try replace RH := Aside0.mk (Kd.R_below RH.out hb)
                replace HB := Aside0.mk (blt HB.out hb)
                clear hb hc3 hp3 htx hcb hdec hlb hlb2
                go_wp2_with fail
                refine HDec.out.mono ?_
                intro e w32 hd
                obtain ⟨v, he, hr, hb⟩ := hd
                obtain ⟨⟨⟨n2, i2, ns2⟩, e2⟩, hEr⟩ : ∃ x, decP bs = x := ⟨_, rfl⟩
                rw [hEr] at he hr
                dsimp only at he hr
                subst he
                obtain ⟨A4, n4, c4, e9⟩ : ∃ A m c, v = .slice A m c := by obtain ⟨A, c, h⟩ := Kd.R_slice hr; exact ⟨A, _, c, h⟩
                subst e9
                have hq3 := (Kd.R_reads' hr).1
                subst hq3
                have HEr := Aside0.mk hEr
                have HR4 := Aside0.mk (R_C hr)
                try replace V1 := Aside0.mk (V1.out.below hb)
                try replace V2 := Aside0.mk (V2.out.below hb)
                try replace V3 := Aside0.mk (V3.out.below hb)
                try replace V4 := Aside0.mk (V4.out.below hb)
                try replace V5 := Aside0.mk (V5.out.below hb)
                try replace V6 := Aside0.mk (V6.out.below hb)
                try replace V7 := Aside0.mk (V7.out.below hb)
                try replace V8 := Aside0.mk (V8.out.below hb)
                try replace V9 := Aside0.mk (V9.out.below hb)
                try replace V10 := Aside0.mk (V10.out.below hb)
                try replace V11 := Aside0.mk (V11.out.below hb)
                try replace V12 := Aside0.mk (V12.out.below hb)
                try replace U1 := Aside0.mk (U1.out.below hb)
                try replace U2 := Aside0.mk (U2.out.below hb)
                try replace U3 := Aside0.mk (U3.out.below hb)
                try replace U4 := Aside0.mk (U4.out.below hb)
                try replace E2 := Aside0.mk ((hb.block _ (blk_lt E2.out)).trans E2.out)
                try replace E3 := Aside0.mk ((hb.block _ (blk_lt E3.out)).trans E3.out)
                try replace E5 := Aside0.mk ((hb.block _ (blk_lt E5.out)).trans E5.out)
                try replace E6 := Aside0.mk ((hb.block _ (blk_lt E6.out)).trans E6.out)
                try replace RG := Aside0.mk (Kd.R_below RG.out hb)
                try replace RH := Aside0.mk (Kd.R_below RH.out hb)
                replace HB := Aside0.mk (blt HB.out hb)
                clear hr hb hEr HDec
                go_upto_if 118 with (fail)
                go_cut [18, 19, 20] from 119 to 139 (fun _ _ _ wc => Aside0 (Below w32.heap.size w32 wc))
                case first =>
                  by_cases her : e2 = 0
                  · subst her
                    have hz : (decP bs).2 = 0 := by rw [HEr.out]
                    obtain ⟨n5, i5, ns5, d1, d2, d3, d4, d5, d6⟩ := decP_back HYs.out hz
                    have hk := decX_kind HYs.out hz
                    rw [HEr.out] at d1
                    injection d1 with d1 _
                    injection d1 with f1 d1
                    injection d1 with f2 f3
                    subst f1 f2 f3
                    have HD4 := Aside0.mk d4
                    have HK := Aside0.mk hk
                    have hn2 : n2 < 18446744073709551616 := Nat.lt_of_le_of_lt d3 (by decide)
                    have hi2 : i2 < 18446744073709551616 := Nat.lt_trans d2 hn2
                    have HNI := Aside0.mk (show n2 < 18446744073709551616 ∧ i2 < 18446744073709551616 from ⟨hn2, hi2⟩)
                    clear hz d2 d3 d4 d5 d6 HEr hk hn2 hi2
                    go_wp2_with fail
                    have hc4 := Kd.C_below HR4.out (bl_new w32 (.cells #[.int .u64 n2, .int .u64 i2, .slice A4 ns2.length c4] 41))
                    have henc := proof_encode i2 n2 c4 ns2 A4 _ HNI.out.2 HNI.out.1 hc4
                    rw [HD4.out] at henc
                    refine henc.mono ?_
                    rintro e w33 ⟨v, rfl, hr, hb⟩
                    obtain ⟨A5, n5, c5, e9⟩ : ∃ A m c, v = .slice A m c := by obtain ⟨A, c, h⟩ := Kd.R_slice hr; exact ⟨A, _, c, h⟩
                    subst e9
                    have HV := Aside0.mk (Rd.of_R hr)
                    have hb33 := blt (bl_new w32 (.cells #[.int .u64 n2, .int .u64 i2, .slice A4 ns2.length c4] 41)) hb
                    have HB33 := Aside0.mk hb33
                    try replace V1 := Aside0.mk (V1.out.below hb33)
                    try replace V2 := Aside0.mk (V2.out.below hb33)
                    try replace V3 := Aside0.mk (V3.out.below hb33)
                    try replace V4 := Aside0.mk (V4.out.below hb33)
                    try replace V5 := Aside0.mk (V5.out.below hb33)
                    try replace V6 := Aside0.mk (V6.out.below hb33)
                    try replace V7 := Aside0.mk (V7.out.below hb33)
                    try replace V8 := Aside0.mk (V8.out.below hb33)
                    try replace V9 := Aside0.mk (V9.out.below hb33)
                    try replace V10 := Aside0.mk (V10.out.below hb33)
                    try replace V11 := Aside0.mk (V11.out.below hb33)
                    try replace V12 := Aside0.mk (V12.out.below hb33)
                    try replace U1 := Aside0.mk (U1.out.below hb33)
                    try replace U2 := Aside0.mk (U2.out.below hb33)
                    try replace U3 := Aside0.mk (U3.out.below hb33)
                    try replace U4 := Aside0.mk (U4.out.below hb33)
                    try replace E2 := Aside0.mk ((hb33.block _ (blk_lt E2.out)).trans E2.out)
                    try replace E3 := Aside0.mk ((hb33.block _ (blk_lt E3.out)).trans E3.out)
                    try replace E5 := Aside0.mk ((hb33.block _ (blk_lt E5.out)).trans E5.out)
                    try replace E6 := Aside0.mk ((hb33.block _ (blk_lt E6.out)).trans E6.out)
                    try replace RG := Aside0.mk (Kd.R_below RG.out hb33)
                    try replace RH := Aside0.mk (Kd.R_below RH.out hb33)
                    replace HB := Aside0.mk (blt HB.out hb33)
                    clear hr hb hb33 hc4 henc
                    go_wp2_with fail
                    have hcb := Kd.C_below HBs.out HB.out
                    have hrd : Rd .u8 w33 (.slice C bs.length cC) bs := ⟨C, cC, rfl, hcC, hcb⟩
                    have hl9 : bs.length < 9223372036854775807 := Nat.lt_of_le_of_lt HLB.out (by decide)
                    have hby := bytes7_true hrd HV.out hl9
                    refine hby.mono ?_
                    rintro e w34 ⟨rfl, hd⟩
                    have hb := hd.below
                    have HB34 := Aside0.mk (blt HB33.out hb)
                    try replace V1 := Aside0.mk (V1.out.below hb)
                    try replace V2 := Aside0.mk (V2.out.below hb)
                    try replace V3 := Aside0.mk (V3.out.below hb)
                    try replace V4 := Aside0.mk (V4.out.below hb)
                    try replace V5 := Aside0.mk (V5.out.below hb)
                    try replace V6 := Aside0.mk (V6.out.below hb)
                    try replace V7 := Aside0.mk (V7.out.below hb)
                    try replace V8 := Aside0.mk (V8.out.below hb)
                    try replace V9 := Aside0.mk (V9.out.below hb)
                    try replace V10 := Aside0.mk (V10.out.below hb)
                    try replace V11 := Aside0.mk (V11.out.below hb)
                    try replace V12 := Aside0.mk (V12.out.below hb)
                    try replace U1 := Aside0.mk (U1.out.below hb)
                    try replace U2 := Aside0.mk (U2.out.below hb)
                    try replace U3 := Aside0.mk (U3.out.below hb)
                    try replace U4 := Aside0.mk (U4.out.below hb)
                    try replace E2 := Aside0.mk ((hb.block _ (blk_lt E2.out)).trans E2.out)
                    try replace E3 := Aside0.mk ((hb.block _ (blk_lt E3.out)).trans E3.out)
                    try replace E5 := Aside0.mk ((hb.block _ (blk_lt E5.out)).trans E5.out)
                    try replace E6 := Aside0.mk ((hb.block _ (blk_lt E6.out)).trans E6.out)
                    try replace RG := Aside0.mk (Kd.R_below RG.out hb)
                    try replace RH := Aside0.mk (Kd.R_below RH.out hb)
                    replace HB := Aside0.mk (blt HB.out hb)
                    clear hd hb hcb hrd hby hl9 HV
                    go_wp2_with fail
                    have hcb := Kd.C_below HBs.out HB.out
                    have hlb : bs.length ≤ 1000000 := by omega
                    have htx := text_c bs C cC _ hlb hcb
                    refine htx.mono ?_
                    rintro e w35 ⟨A6, c6, rfl, hp3, hc3, hb⟩
                    have HB35 := Aside0.mk (blt HB34.out hb)
                    try replace V1 := Aside0.mk (V1.out.below hb)
                    try replace V2 := Aside0.mk (V2.out.below hb)
                    try replace V3 := Aside0.mk (V3.out.below hb)
                    try replace V4 := Aside0.mk (V4.out.below hb)
                    try replace V5 := Aside0.mk (V5.out.below hb)
                    try replace V6 := Aside0.mk (V6.out.below hb)
                    try replace V7 := Aside0.mk (V7.out.below hb)
                    try replace V8 := Aside0.mk (V8.out.below hb)
                    try replace V9 := Aside0.mk (V9.out.below hb)
                    try replace V10 := Aside0.mk (V10.out.below hb)
                    try replace V11 := Aside0.mk (V11.out.below hb)
                    try replace V12 := Aside0.mk (V12.out.below hb)
                    try replace U1 := Aside0.mk (U1.out.below hb)
                    try replace U2 := Aside0.mk (U2.out.below hb)
                    try replace U3 := Aside0.mk (U3.out.below hb)
                    try replace U4 := Aside0.mk (U4.out.below hb)
                    try replace E2 := Aside0.mk ((hb.block _ (blk_lt E2.out)).trans E2.out)
                    try replace E3 := Aside0.mk ((hb.block _ (blk_lt E3.out)).trans E3.out)
                    try replace E5 := Aside0.mk ((hb.block _ (blk_lt E5.out)).trans E5.out)
                    try replace E6 := Aside0.mk ((hb.block _ (blk_lt E6.out)).trans E6.out)
                    try replace RG := Aside0.mk (Kd.R_below RG.out hb)
                    try replace RH := Aside0.mk (Kd.R_below RH.out hb)
                    replace HB := Aside0.mk (blt HB.out hb)
                    have hT1 := HT.out.below HB.out
                    have hdec := pref_decode bs A6 bs.length c6 w35 HYs.out rfl HLB.out hp3 hc3 hT1
                    have HDec := Aside0.mk hdec
                    clear hb hc3 hp3 htx hcb hdec hlb hT1
                    go_wp2_with fail
                    refine HDec.out.mono ?_
                    intro e w36 hd
                    obtain ⟨v, he, hr, hb⟩ := hd
                    rw [HK.out] at he
                    dsimp only [noPr] at he
                    subst he
                    have HBe := Aside0.mk (blt HB35.out hb)
                    clear hr hb HDec
                    go_wp2_with fail
                    go_meet
                    case rel => exact ⟨HBe.out⟩
                  · have her2 : (e2 == 0) = false := by rw [beq_eq_false_iff_ne]; exact her
                    go_wp2_with fail
                    go_meet
                    case rel => exact ⟨bl_new w32 _⟩
                case rest =>
                  try replace V1 := Aside0.mk (V1.out.below hcut.out)
                  try replace V2 := Aside0.mk (V2.out.below hcut.out)
                  try replace V3 := Aside0.mk (V3.out.below hcut.out)
                  try replace V4 := Aside0.mk (V4.out.below hcut.out)
                  try replace V5 := Aside0.mk (V5.out.below hcut.out)
                  try replace V6 := Aside0.mk (V6.out.below hcut.out)
                  try replace V7 := Aside0.mk (V7.out.below hcut.out)
                  try replace V8 := Aside0.mk (V8.out.below hcut.out)
                  try replace V9 := Aside0.mk (V9.out.below hcut.out)
                  try replace V10 := Aside0.mk (V10.out.below hcut.out)
                  try replace V11 := Aside0.mk (V11.out.below hcut.out)
                  try replace V12 := Aside0.mk (V12.out.below hcut.out)
                  try replace U1 := Aside0.mk (U1.out.below hcut.out)
                  try replace U2 := Aside0.mk (U2.out.below hcut.out)
                  try replace U3 := Aside0.mk (U3.out.below hcut.out)
                  try replace U4 := Aside0.mk (U4.out.below hcut.out)
                  try replace E2 := Aside0.mk ((hcut.out.block _ (blk_lt E2.out)).trans E2.out)
                  try replace E3 := Aside0.mk ((hcut.out.block _ (blk_lt E3.out)).trans E3.out)
                  try replace E5 := Aside0.mk ((hcut.out.block _ (blk_lt E5.out)).trans E5.out)
                  try replace E6 := Aside0.mk ((hcut.out.block _ (blk_lt E6.out)).trans E6.out)
                  try replace RG := Aside0.mk (Kd.R_below RG.out hcut.out)
                  try replace RH := Aside0.mk (Kd.R_below RH.out hcut.out)
                  replace HB := Aside0.mk (blt HB.out hcut.out)
                  clear hcut HR4 HEr
                  go_wp2_with fail
                  have hlb : bs.length ≤ 1000000 := by omega
                  have hcb := Kd.C_below HBs.out HB.out
                  have htx := text_c bs C cC _ hlb hcb
                  refine htx.mono ?_
                  rintro e w41 ⟨A3, c3, rfl, hp3, hc3, hb⟩
                  try replace V1 := Aside0.mk (V1.out.below hb)
                  try replace V2 := Aside0.mk (V2.out.below hb)
                  try replace V3 := Aside0.mk (V3.out.below hb)
                  try replace V4 := Aside0.mk (V4.out.below hb)
                  try replace V5 := Aside0.mk (V5.out.below hb)
                  try replace V6 := Aside0.mk (V6.out.below hb)
                  try replace V7 := Aside0.mk (V7.out.below hb)
                  try replace V8 := Aside0.mk (V8.out.below hb)
                  try replace V9 := Aside0.mk (V9.out.below hb)
                  try replace V10 := Aside0.mk (V10.out.below hb)
                  try replace V11 := Aside0.mk (V11.out.below hb)
                  try replace V12 := Aside0.mk (V12.out.below hb)
                  try replace U1 := Aside0.mk (U1.out.below hb)
                  try replace U2 := Aside0.mk (U2.out.below hb)
                  try replace U3 := Aside0.mk (U3.out.below hb)
                  try replace U4 := Aside0.mk (U4.out.below hb)
                  try replace E2 := Aside0.mk ((hb.block _ (blk_lt E2.out)).trans E2.out)
                  try replace E3 := Aside0.mk ((hb.block _ (blk_lt E3.out)).trans E3.out)
                  try replace E5 := Aside0.mk ((hb.block _ (blk_lt E5.out)).trans E5.out)
                  try replace E6 := Aside0.mk ((hb.block _ (blk_lt E6.out)).trans E6.out)
                  try replace RG := Aside0.mk (Kd.R_below RG.out hb)
                  try replace RH := Aside0.mk (Kd.R_below RH.out hb)
                  replace HB := Aside0.mk (blt HB.out hb)
                  have hT1 := HT.out.below HB.out
                  have hdec := pref_decode bs A3 bs.length c3 w41 HYs.out rfl HLB.out hp3 hc3 hT1
                  have HDec := Aside0.mk hdec
                  clear hb hc3 hp3 htx hcb hdec hlb hT1
                  go_wp2_with fail
                  refine HDec.out.mono ?_
                  intro e w42 hd
                  obtain ⟨v, he, hr, hb⟩ := hd
                  obtain ⟨⟨⟨m2, q2, xs2⟩, e2⟩, hEr⟩ : ∃ x, decX bs = x := ⟨_, rfl⟩
                  rw [hEr] at he hr
                  dsimp only at he hr
                  subst he
                  obtain ⟨A4, n4, c4, e9⟩ : ∃ A m c, v = .slice A m c := by obtain ⟨A, c, h⟩ := Kd.R_slice hr; exact ⟨A, _, c, h⟩
                  subst e9
                  have hq3 := (Kd.R_reads' hr).1
                  subst hq3
                  have HEr := Aside0.mk hEr
                  have HR4 := Aside0.mk (R_C hr)
                  try replace V1 := Aside0.mk (V1.out.below hb)
                  try replace V2 := Aside0.mk (V2.out.below hb)
                  try replace V3 := Aside0.mk (V3.out.below hb)
                  try replace V4 := Aside0.mk (V4.out.below hb)
                  try replace V5 := Aside0.mk (V5.out.below hb)
                  try replace V6 := Aside0.mk (V6.out.below hb)
                  try replace V7 := Aside0.mk (V7.out.below hb)
                  try replace V8 := Aside0.mk (V8.out.below hb)
                  try replace V9 := Aside0.mk (V9.out.below hb)
                  try replace V10 := Aside0.mk (V10.out.below hb)
                  try replace V11 := Aside0.mk (V11.out.below hb)
                  try replace V12 := Aside0.mk (V12.out.below hb)
                  try replace U1 := Aside0.mk (U1.out.below hb)
                  try replace U2 := Aside0.mk (U2.out.below hb)
                  try replace U3 := Aside0.mk (U3.out.below hb)
                  try replace U4 := Aside0.mk (U4.out.below hb)
                  try replace E2 := Aside0.mk ((hb.block _ (blk_lt E2.out)).trans E2.out)
                  try replace E3 := Aside0.mk ((hb.block _ (blk_lt E3.out)).trans E3.out)
                  try replace E5 := Aside0.mk ((hb.block _ (blk_lt E5.out)).trans E5.out)
                  try replace E6 := Aside0.mk ((hb.block _ (blk_lt E6.out)).trans E6.out)
                  try replace RG := Aside0.mk (Kd.R_below RG.out hb)
                  try replace RH := Aside0.mk (Kd.R_below RH.out hb)
                  replace HB := Aside0.mk (blt HB.out hb)
                  clear hr hb hEr HDec
                  go_upto_if 147 with (fail)
                  go_cut [23, 24] from 148 to 160 (fun _ _ wc => Aside0 (Below w42.heap.size w42 wc))
                  case first =>
                    by_cases her : e2 = 0
                    · subst her
                      have hz : (decX bs).2 = 0 := by rw [HEr.out]
                      obtain ⟨m5, q5, xs5, d1, d2, d4, d5, d6⟩ := decX_back HYs.out hz
                      rw [HEr.out] at d1
                      injection d1 with d1 _
                      injection d1 with f1 d1
                      injection d1 with f2 f3
                      subst f1 f2 f3
                      have HD4 := Aside0.mk d4
                      have hpo := pref_ok d2
                      have hq2 : q2 < 18446744073709551616 := Nat.lt_of_le_of_lt hpo.2 (by decide)
                      have hm2 : m2 < 18446744073709551616 := Nat.lt_of_le_of_lt hpo.1 hq2
                      have HNI := Aside0.mk (show m2 < 18446744073709551616 ∧ q2 < 18446744073709551616 from ⟨hm2, hq2⟩)
                      clear hz d2 d4 d5 d6 HEr hpo hq2 hm2
                      go_wp2_with fail
                      have hb0 := bl_new w42 (.cells #[.int .u64 m2, .int .u64 q2, .slice A4 xs2.length c4] 43)
                      have hc4 := Kd.C_below HR4.out hb0
                      have hT1 := HT.out.below (blt HB.out hb0)
                      have henc := pref_encode m2 q2 c4 xs2 A4 _ HNI.out.1 HNI.out.2 hc4 hT1
                      rw [HD4.out] at henc
                      refine henc.mono ?_
                      rintro e w43 ⟨v, rfl, hr, hb⟩
                      obtain ⟨A5, n5, c5, e9⟩ : ∃ A m c, v = .slice A m c := by obtain ⟨A, c, h⟩ := Kd.R_slice hr; exact ⟨A, _, c, h⟩
                      subst e9
                      have HV := Aside0.mk (Rd.of_R hr)
                      have hb33 := blt hb0 hb
                      have HB33 := Aside0.mk hb33
                      try replace V1 := Aside0.mk (V1.out.below hb33)
                      try replace V2 := Aside0.mk (V2.out.below hb33)
                      try replace V3 := Aside0.mk (V3.out.below hb33)
                      try replace V4 := Aside0.mk (V4.out.below hb33)
                      try replace V5 := Aside0.mk (V5.out.below hb33)
                      try replace V6 := Aside0.mk (V6.out.below hb33)
                      try replace V7 := Aside0.mk (V7.out.below hb33)
                      try replace V8 := Aside0.mk (V8.out.below hb33)
                      try replace V9 := Aside0.mk (V9.out.below hb33)
                      try replace V10 := Aside0.mk (V10.out.below hb33)
                      try replace V11 := Aside0.mk (V11.out.below hb33)
                      try replace V12 := Aside0.mk (V12.out.below hb33)
                      try replace U1 := Aside0.mk (U1.out.below hb33)
                      try replace U2 := Aside0.mk (U2.out.below hb33)
                      try replace U3 := Aside0.mk (U3.out.below hb33)
                      try replace U4 := Aside0.mk (U4.out.below hb33)
                      try replace E2 := Aside0.mk ((hb33.block _ (blk_lt E2.out)).trans E2.out)
                      try replace E3 := Aside0.mk ((hb33.block _ (blk_lt E3.out)).trans E3.out)
                      try replace E5 := Aside0.mk ((hb33.block _ (blk_lt E5.out)).trans E5.out)
                      try replace E6 := Aside0.mk ((hb33.block _ (blk_lt E6.out)).trans E6.out)
                      try replace RG := Aside0.mk (Kd.R_below RG.out hb33)
                      try replace RH := Aside0.mk (Kd.R_below RH.out hb33)
                      replace HB := Aside0.mk (blt HB.out hb33)
                      clear hr hb hb33 hc4 henc hb0 hT1
                      go_wp2_with fail
                      have hcb := Kd.C_below HBs.out HB.out
                      have hrd : Rd .u8 w43 (.slice C bs.length cC) bs := ⟨C, cC, rfl, hcC, hcb⟩
                      have hl9 : bs.length < 9223372036854775807 := Nat.lt_of_le_of_lt HLB.out (by decide)
                      have hby := bytes7_true hrd HV.out hl9
                      refine hby.mono ?_
                      rintro e w44 ⟨rfl, hd⟩
                      have HBe := Aside0.mk (blt HB33.out hd.below)
                      clear hd hcb hrd hby hl9 HV
                      go_wp2_with fail
                      go_meet
                      case rel => exact ⟨HBe.out⟩
                    · have her2 : (e2 == 0) = false := by rw [beq_eq_false_iff_ne]; exact her
                      go_wp2_with fail
                      go_meet
                      case rel => exact ⟨bl_new w42 _⟩
                  case rest =>
                    try replace V1 := Aside0.mk (V1.out.below hcut.out)
                    try replace V2 := Aside0.mk (V2.out.below hcut.out)
                    try replace V3 := Aside0.mk (V3.out.below hcut.out)
                    try replace V4 := Aside0.mk (V4.out.below hcut.out)
                    try replace V5 := Aside0.mk (V5.out.below hcut.out)
                    try replace V6 := Aside0.mk (V6.out.below hcut.out)
                    try replace V7 := Aside0.mk (V7.out.below hcut.out)
                    try replace V8 := Aside0.mk (V8.out.below hcut.out)
                    try replace V9 := Aside0.mk (V9.out.below hcut.out)
                    try replace V10 := Aside0.mk (V10.out.below hcut.out)
                    try replace V11 := Aside0.mk (V11.out.below hcut.out)
                    try replace V12 := Aside0.mk (V12.out.below hcut.out)
                    try replace U1 := Aside0.mk (U1.out.below hcut.out)
                    try replace U2 := Aside0.mk (U2.out.below hcut.out)
                    try replace U3 := Aside0.mk (U3.out.below hcut.out)
                    try replace U4 := Aside0.mk (U4.out.below hcut.out)
                    try replace E2 := Aside0.mk ((hcut.out.block _ (blk_lt E2.out)).trans E2.out)
                    try replace E3 := Aside0.mk ((hcut.out.block _ (blk_lt E3.out)).trans E3.out)
                    try replace E5 := Aside0.mk ((hcut.out.block _ (blk_lt E5.out)).trans E5.out)
                    try replace E6 := Aside0.mk ((hcut.out.block _ (blk_lt E6.out)).trans E6.out)
                    try replace RG := Aside0.mk (Kd.R_below RG.out hcut.out)
                    try replace RH := Aside0.mk (Kd.R_below RH.out hcut.out)
                    replace HB := Aside0.mk (blt HB.out hcut.out)
                    clear hcut HR4 HEr
                    go_wp2_with fail
                    refine (awake7 _).mono ?_
                    rintro e w51 ⟨rfl, hb⟩
                    try replace V1 := Aside0.mk (V1.out.below hb)
                    try replace V2 := Aside0.mk (V2.out.below hb)
                    try replace V3 := Aside0.mk (V3.out.below hb)
                    try replace V4 := Aside0.mk (V4.out.below hb)
                    try replace V5 := Aside0.mk (V5.out.below hb)
                    try replace V6 := Aside0.mk (V6.out.below hb)
                    try replace V7 := Aside0.mk (V7.out.below hb)
                    try replace V8 := Aside0.mk (V8.out.below hb)
                    try replace V9 := Aside0.mk (V9.out.below hb)
                    try replace V10 := Aside0.mk (V10.out.below hb)
                    try replace V11 := Aside0.mk (V11.out.below hb)
                    try replace V12 := Aside0.mk (V12.out.below hb)
                    try replace U1 := Aside0.mk (U1.out.below hb)
                    try replace U2 := Aside0.mk (U2.out.below hb)
                    try replace U3 := Aside0.mk (U3.out.below hb)
                    try replace U4 := Aside0.mk (U4.out.below hb)
                    try replace E2 := Aside0.mk ((hb.block _ (blk_lt E2.out)).trans E2.out)
                    try replace E3 := Aside0.mk ((hb.block _ (blk_lt E3.out)).trans E3.out)
                    try replace E5 := Aside0.mk ((hb.block _ (blk_lt E5.out)).trans E5.out)
                    try replace E6 := Aside0.mk ((hb.block _ (blk_lt E6.out)).trans E6.out)
                    try replace RG := Aside0.mk (Kd.R_below RG.out hb)
                    try replace RH := Aside0.mk (Kd.R_below RH.out hb)
                    replace HB := Aside0.mk (blt HB.out hb)
                    clear hb
                    go_wp2_with fail
                    go_ret
                    exact ⟨rfl, HB.out⟩
      · go_enter Tryd.func10, Tryd.ntmps10
        go_wp2_with fail
        go_ret
        exact ⟨rfl, (by repeat (with_reducible first | exact Below.refl _ _ | refine below_alloc ?_ _ | refine below_drew ?_))⟩
    · go_enter Tryd.func10, Tryd.ntmps10
      go_wp2_with fail
      go_ret
      exact ⟨rfl, (by repeat (with_reducible first | exact Below.refl _ _ | refine below_alloc ?_ _ | refine below_drew ?_))⟩
  · go_enter Tryd.func10, Tryd.ntmps10
    go_wp2_with fail
    go_ret
    exact ⟨rfl, (by repeat (with_reducible first | exact Below.refl _ _ | refine below_alloc ?_ _ | refine below_drew ?_))⟩
end Go.Proofs.YtefnonlhepekdaaDoor.M
