/- massifref7.DecodePrefix. massiflaw7.ProofRound returns true: the walk. massiflaw7.mark, all: hashes are marked, and looked at. -/
import Derived.Test.YtefnonlhepekdaaDoorPD3
import Derived.Test.YtefnonlhepekdaaDoorPD2
set_option linter.unusedVariables false
set_option linter.unusedSimpArgs false
set_option linter.unusedVariables false
set_option linter.unusedSimpArgs false
namespace Go.Proofs.YtefnonlhepekdaaDoor.M
open Go.RowKit Go.Proofs.YtefnonlhepekdaaDoorW.PrintWords Go.Proofs.YtefnonlhepekdaaDoorW.PrintLast Go.Proofs.YtefnonlhepekdaaDoorW.PrintMore Go.Proofs.YtefnonlhepekdaaDoor.Leaf

set_option maxHeartbeats 4000000 in
set_option maxRecDepth 100000 in
theorem ref7_DecodePrefix_head (bs : List Int) (A : Option Addr) (n c : Nat) (w : World) (hl : bs.length = n) (hn : n ≤ 1000000) (hc : n ≤ c) (hC : Kd.C (Kd.int .u8) w A n bs) (h : ∀ r, bs ≠ 80 :: r) :
    Calls Tryd.prog 46 #[.slice A n c] w (DecA 43 (decX bs) w) := by
  cases bs with
  | nil =>
    obtain rfl : n = 0 := hl.symm
    have HEnd := Aside0.mk (show decX [] = (noPr, 11) from rfl)
    clear hC h
    go_enter Tryd.func46, Tryd.ntmps46
    go_wp2_with fail
    (try simp only [Exit.inBlock, Exit.then])
    refine bodyPost_ret (results_ct rfl _ _ w.heap.size 43 #[.int .u64 0, .int .u64 0, .slice none 0 0] (0, 0) _ rfl (heap_new w _) Tryd.underlying43 rfl sizePx) rfl ?_
    unfold DecA
    rw [HEnd.out]
    exact ⟨.slice none 0 0, rfl, Kd.R_nil _ _ _ _ _, bl_new w _⟩
  | cons b r =>
    have hbk : b ≠ 80 := fun h9 => h r (by rw [h9])
    have HEnd := Aside0.mk (show decX (b :: r) = (noPr, 14) from if_pos hbk)
    obtain ⟨ad, rfl, hx⟩ := CG.cell0 (CG.of_C hC)
    have hx1 := cell_new hx (.cells #[.int .u64 0, .int .u64 0, .slice none 0 0] 43)
    obtain ⟨m, rfl⟩ : ∃ m, n = m + 1 := ⟨r.length, by simpa using hl.symm⟩
    have g1 : (b != 80) = true := by rw [bne_iff_ne]; exact hbk
    clear hC h hx hl
    go_enter Tryd.func46, Tryd.ntmps46
    go_wp2_with fail
    (try simp only [Exit.inBlock, Exit.then])
    refine bodyPost_ret (results_ct rfl _ _ w.heap.size 43 #[.int .u64 0, .int .u64 0, .slice none 0 0] (0, 0) _ rfl (heap_new w _) Tryd.underlying43 rfl sizePx) rfl ?_
    unfold DecA
    rw [HEnd.out]
    exact ⟨.slice none 0 0, rfl, Kd.R_nil _ _ _ _ _, bl_new w _⟩
set_option maxHeartbeats 4000000 in
set_option maxRecDepth 100000 in
theorem ref7_DecodePrefix_some (r : List Int) (A : Option Addr) (n c : Nat) (w : World) (hb : Bytes (80 :: r)) (hl : (80 :: r : List Int).length = n) (hn : n ≤ 1000000) (hc : n ≤ c) (hC : Kd.C (Kd.int .u8) w A n (80 :: r)) :
    Calls Tryd.prog 46 #[.slice A n c] w (DecA 43 (decX (80 :: r)) w) := by
  obtain ⟨ad, rfl, hx⟩ := CG.cell0 (CG.of_C hC)
  have hx1 := cell_new hx (.cells #[.int .u64 0, .int .u64 0, .slice none 0 0] 43)
  have hbr : Bytes r := fun x hx => hb x (List.mem_cons_of_mem _ hx)
  have hn0 : 1 ≤ n := by rw [← hl]; simp
  obtain ⟨ad1, hif1⟩ : ∃ ad1 : Addr, (if c = 1 then some ad else some ⟨ad.block, ad.off + 1, none⟩) = some ad1 := by split <;> exact ⟨_, rfl⟩
  have hC1 : Kd.C (Kd.int .u8) w (if c = 1 then some ad else some ⟨ad.block, ad.off + 1, none⟩) (n - 1) r := C_from (m := 1) hC hl hn0 hc
  rw [hif1] at hC1
  have hl1 : r.length = n - 1 := by rw [← hl]; rfl
  have hcc : n - 1 ≤ c - 1 := by omega
  have hnn : n - 1 ≤ 1000000 := by omega
  have HC := Aside0.mk hC
  have HLen := Aside0.mk hl
  have HBy := Aside0.mk hbr
  have hL1 := long1_n r (some ad1) (n - 1) (c - 1) _ hbr hl1 hnn hcc (Kd.C_below hC1 (bl_new w (.cells #[.int .u64 0, .int .u64 0, .slice none 0 0] 43)))
  have hdec : decX (80 :: r) = if (numR r).2.2 ≠ 0 then (noPr, (numR r).2.2) else (if (numR (numR r).2.1).2.2 ≠ 0 then (noPr, (numR (numR r).2.1).2.2) else decX2 (numR r).1 (numR (numR r).2.1).1 (numR (numR r).2.1).2.1) := by
    rw [decX, if_neg (by simp)]
  by_cases he : (longN r).2.2 = 0
  · obtain ⟨x, rest, x1, x2, x3⟩ := longN_ok hbr he
    rw [x2] at hL1
    have hnum : numR r = (x, rest, 0) := by rw [x3]; exact numR_short x rest x1
    rw [hnum] at hdec
    simp only at hdec
    rw [if_neg (by simp)] at hdec
    obtain ⟨k1, hk1⟩ : ∃ k1, k1 = (shortI x).length := ⟨_, rfl⟩
    rw [← hk1] at hL1
    obtain ⟨at1, hat1⟩ : ∃ at1, at1 = 1 + k1 := ⟨_, rfl⟩
    have hln : n = at1 + rest.length := by rw [← hl, x3, List.length_cons, List.length_append]; omega
    have hle1 : at1 ≤ n := by omega
    have hI1 : (at1 : Int) ≤ (c : Int) := Int.ofNat_le.2 (Nat.le_trans hle1 hc)
    obtain ⟨ad2, hif2⟩ : ∃ ad2 : Addr, (if c = at1 then some ad else some (ad.add at1)) = some ad2 := by split <;> exact ⟨_, rfl⟩
    have hC2 := C_from (m := at1) hC hl hle1 hc
    rw [hif2, show (80 :: r : List Int).drop at1 = rest by rw [hat1, Nat.add_comm, List.drop_succ_cons, x3, hk1, List.drop_left]] at hC2
    have hl2 : rest.length = n - at1 := by omega
    have hcc2 : n - at1 ≤ c - at1 := by omega
    have hnn2 : n - at1 ≤ 1000000 := by omega
    have hbr2 : Bytes rest := fun y hy => hbr y (by rw [x3]; exact List.mem_append_right _ hy)
    have HL2 := Aside0.mk (fun W (hW : Below w.heap.size w W) => long1_n rest (some ad2) (n - at1) (c - at1) W hbr2 hl2 hnn2 hcc2 (Kd.C_below hC2 hW))
    have HL1 := Aside0.mk hL1
    have HDec := Aside0.mk hdec
    have HX := Aside0.mk x1
    have HK1 := Aside0.mk (show (at1 = 1 + k1 ∧ k1 = (shortI x).length) ∧ r = shortI x ++ rest ∧ n = at1 + rest.length from ⟨⟨hat1, hk1⟩, x3, hln⟩)
    have HBy2 := Aside0.mk hbr2
    have hw1 : wrap64 (1 + (k1 : Int)) = (at1 : Int) := wrap_at hat1 (Nat.le_trans hle1 hn)
    clear hb hbr hC hC1 hl hl1 hnn hcc hL1 he x2 x3 hnum hk1 hat1 hln hC2 hl2 hcc2 hnn2 hbr2 hdec x1 hx HBy
    go_enter Tryd.func46, Tryd.ntmps46
    go_wp2_with fail
    refine HL1.out.mono ?_
    rintro e w1 ⟨rfl, hd⟩
    have HD1 := Aside0.mk ((Dp.new 43 w).below hd.below)
    clear hd hx1 HL1
    have r0 := (blk_cell HD1.out.res 0).trans (rfl : _ = some (Value.int .u64 0))
    have r1 := (blk_cell HD1.out.res 1).trans (rfl : _ = some (Value.int .u64 0))
    have r2 := (blk_cell HD1.out.res 2).trans (rfl : _ = some (Value.slice none 0 0))
    have q0 := blk_frozen HD1.out.res 0
    have q1 := blk_frozen HD1.out.res 1
    have q2 := blk_frozen HD1.out.res 2
    go_wp2_with fail
    have hL2 := HL2.out w1 HD1.out.be
    by_cases he : (longN rest).2.2 = 0
    · obtain ⟨y, rest2, y1, y2, y3⟩ := longN_ok HBy2.out he
      rw [y2] at hL2
      have hnum : numR rest = (y, rest2, 0) := by rw [y3]; exact numR_short y rest2 y1
      have hdec := HDec.out

      rw [hnum] at hdec
      simp only at hdec
      rw [if_neg (by simp)] at hdec
      obtain ⟨k2, hk2⟩ : ∃ k2, k2 = (shortI y).length := ⟨_, rfl⟩
      rw [← hk2] at hL2
      obtain ⟨at2, hat2⟩ : ∃ at2, at2 = at1 + k2 := ⟨_, rfl⟩
      have hln : n = at2 + rest2.length := by have := HK1.out.2.2; rw [this, y3, List.length_append]; omega
      have hle2 : at2 ≤ n := by omega
      have hI2 : (at2 : Int) ≤ (c : Int) := Int.ofNat_le.2 (Nat.le_trans hle2 hc)
      obtain ⟨ad3, hif3⟩ : ∃ ad3 : Addr, (if c = at2 then some ad else some (ad.add at2)) = some ad3 := by split <;> exact ⟨_, rfl⟩
      have hC3 := C_from (m := at2) HC.out HLen.out hle2 hc
      rw [hif3, show (80 :: r : List Int).drop at2 = rest2 by rw [hat2, HK1.out.1.1, show 1 + k1 + k2 = k1 + k2 + 1 by omega, List.drop_succ_cons, HK1.out.2.1, ← List.drop_drop, HK1.out.1.2, List.drop_left, y3, hk2, List.drop_left]] at hC3
      have hl3 : rest2.length = n - at2 := by omega
      have hcc3 : n - at2 ≤ c - at2 := by omega
      have hnn3 : n - at2 ≤ 1000000 := by omega
      have HTk := Aside0.mk (fun W (hW : Below w.heap.size w W) q (hq : q ≤ 1000000) => take_n rest2 q (n - at2) (some ad3) (c - at2) W hq hl3 hnn3 hcc3 (Kd.C_below hC3 hW))
      have HL := Aside0.mk hL2
      have HDc := Aside0.mk hdec
      have hw2 : wrap64 ((at1 : Int) + (k2 : Int)) = (at2 : Int) := wrap_at2 hat2 (Nat.le_trans hle2 hn)
      clear hL2 he y2 y3 hnum hk2 hat2 hln hC3 hl3 hcc3 hnn3 hdec r0 r1 r2 q0 q1 q2
      refine HL.out.mono ?_
      rintro e w2 ⟨rfl, hd⟩
      have HD2 := Aside0.mk (HD1.out.below hd.below)
      clear hd HL
      go_wp2_with fail
      refine (wants_EncodePrefix x y 0 (.slice none 0 0) _).mono ?_
      rintro e w3 ⟨rfl, hb⟩
      have HD3 := Aside0.mk (HD2.out.below hb)
      clear hb HD1 HD2
      have r0 := (blk_cell HD3.out.res 0).trans (rfl : _ = some (Value.int .u64 0))
      have r1 := (blk_cell HD3.out.res 1).trans (rfl : _ = some (Value.int .u64 0))
      have r2 := (blk_cell HD3.out.res 2).trans (rfl : _ = some (Value.slice none 0 0))
      have q0 := blk_frozen HD3.out.res 0
      have q1 := blk_frozen HD3.out.res 1
      have q2 := blk_frozen HD3.out.res 2
      have hqlen := prefAns_len x y
      have hans : decX (80 :: r) = if (prefAns x y).2 ≠ 0 then (noPr, (prefAns x y).2) else tailP x y (prefAns x y).1.length rest2 := by
        rw [HDc.out]
        rfl
      generalize (prefAns x y).1.length = q at *
      generalize (prefAns x y).2 = e3 at *
      by_cases h3 : e3 = 0
      · subst h3
        rw [if_neg (by simp)] at hans
        have HAns := Aside0.mk hans
        have hTk := HTk.out w3 HD3.out.be q (by omega)
        have hW3 := Aside0.mk HD3.out.be.size
        have HTK := Aside0.mk hTk
        clear hTk hans
        go_wp2_with fail
        refine HTK.out.mono ?_
        rintro e w4 ⟨v, rfl, hr4, hb4⟩
        obtain ⟨A4, n4, c4, e9⟩ : ∃ A m c, v = .slice A m c := by obtain ⟨A, c, h⟩ := Kd.R_slice hr4; exact ⟨A, _, c, h⟩
        subst e9
        have HD4 := Aside0.mk (HD3.out.below hb4)
        have hd4 := HAns.out
        unfold tailP at hd4
        have HH4 := Aside0.mk (Kd.R_lower hr4 hW3.out)
        have HO4 := Aside0.mk (show ∀ k, (Value.slice A4 n4 c4).ownBlock = some k → k ≠ w.heap.size from fun k hk h => by
          have := Kd.R_base hr4 k hk
          have := blk_lt HD3.out.res
          omega)
        generalize (takeAns rest2 q).1 = hs at *
        generalize (takeAns rest2 q).2 = e4 at *
        clear hr4 hb4 HTK HAns r0 r1 r2 q0 q1 q2
        have r0 := (blk_cell HD4.out.res 0).trans (rfl : _ = some (Value.int .u64 0))
        have r1 := (blk_cell HD4.out.res 1).trans (rfl : _ = some (Value.int .u64 0))
        have r2 := (blk_cell HD4.out.res 2).trans (rfl : _ = some (Value.slice none 0 0))
        have q0 := blk_frozen HD4.out.res 0
        have q1 := blk_frozen HD4.out.res 1
        have q2 := blk_frozen HD4.out.res 2
        by_cases h4 : e4 = 0
        · rw [if_neg (fun h => h h4)] at hd4
          subst h4
          have HEnd := Aside0.mk hd4
          clear hd4
          go_wp2_with fail
          (try simp only [Exit.inBlock, Exit.then])
          refine bodyPost_ret (results_ct rfl _ _ w.heap.size 43 #[.int .u64 x, .int .u64 y, .slice A4 n4 c4] (0, 0) _ rfl (blk_set3 HD4.out.res rfl (.int .u64 x) (.int .u64 y) (.slice A4 n4 c4)) Tryd.underlying43 rfl sizePx) rfl ?_
          unfold DecA
          rw [HEnd.out]
          exact ⟨.slice A4 n4 c4, rfl, R_frm flat_kH HH4.out (Frm.set3 _ _ _ _ _) (fun k hk h => HO4.out k hk h), HD4.out.end3 (Frm.set3 _ _ _ _ _)⟩
        · rw [if_pos h4] at hd4
          have HEnd := Aside0.mk hd4
          clear hd4
          go_wp2_with fail
          (try simp only [Exit.inBlock, Exit.then])
          refine bodyPost_ret (results_ct rfl _ _ w.heap.size 43 #[.int .u64 0, .int .u64 0, .slice none 0 0] (0, 0) _ rfl (blk_set3 HD4.out.res rfl (.int .u64 0) (.int .u64 0) (.slice none 0 0)) Tryd.underlying43 rfl sizePx) rfl ?_
          unfold DecA
          rw [HEnd.out]
          exact ⟨.slice none 0 0, rfl, Kd.R_nil _ _ _ _ _, HD4.out.end3 (Frm.set3 _ _ _ _ _)⟩
      · rw [if_pos h3] at hans
        have HEnd := Aside0.mk hans
        clear hans
        go_wp2_with fail
        (try simp only [Exit.inBlock, Exit.then])
        refine bodyPost_ret (results_ct rfl _ _ w.heap.size 43 #[.int .u64 0, .int .u64 0, .slice none 0 0] (0, 0) _ rfl (blk_set3 HD3.out.res rfl (.int .u64 0) (.int .u64 0) (.slice none 0 0)) Tryd.underlying43 rfl sizePx) rfl ?_
        unfold DecA
        rw [HEnd.out]
        exact ⟨.slice none 0 0, rfl, Kd.R_nil _ _ _ _ _, HD3.out.end3 (Frm.set3 _ _ _ _ _)⟩
    · have hdec := HDec.out
      have hnum : numR rest = (0, rest, (longN rest).2.2) := by unfold numR; rw [longN_err he]; rfl

      rw [hnum] at hdec
      simp only at hdec
      rw [if_pos he] at hdec
      rw [longN_err he] at hL2
      generalize (longN rest).2.2 = e2 at *
      have HEnd := Aside0.mk hdec
      have HL := Aside0.mk hL2
      clear hL2 hdec hnum r0 r1 r2 q0 q1 q2
      refine HL.out.mono ?_
      rintro e w2 ⟨rfl, hd⟩
      have HD2 := Aside0.mk (HD1.out.below hd.below)
      clear hd HL HD1
      have r0 := (blk_cell HD2.out.res 0).trans (rfl : _ = some (Value.int .u64 0))
      have r1 := (blk_cell HD2.out.res 1).trans (rfl : _ = some (Value.int .u64 0))
      have r2 := (blk_cell HD2.out.res 2).trans (rfl : _ = some (Value.slice none 0 0))
      have q0 := blk_frozen HD2.out.res 0
      have q1 := blk_frozen HD2.out.res 1
      have q2 := blk_frozen HD2.out.res 2
      go_wp2_with fail
      (try simp only [Exit.inBlock, Exit.then])
      refine bodyPost_ret (results_ct rfl _ _ w.heap.size 43 #[.int .u64 0, .int .u64 0, .slice none 0 0] (0, 0) _ rfl (blk_set3 HD2.out.res rfl (.int .u64 0) (.int .u64 0) (.slice none 0 0)) Tryd.underlying43 rfl sizePx) rfl ?_
      unfold DecA
      rw [HEnd.out]
      exact ⟨.slice none 0 0, rfl, Kd.R_nil _ _ _ _ _, HD2.out.end3 (Frm.set3 _ _ _ _ _)⟩
  · have hnum : numR r = (0, r, (longN r).2.2) := by unfold numR; rw [longN_err he]; rfl
    rw [hnum] at hdec
    simp only at hdec
    rw [if_pos he] at hdec
    rw [longN_err he] at hL1
    generalize (longN r).2.2 = e1 at *
    have HEnd := Aside0.mk hdec
    have HL1 := Aside0.mk hL1
    clear hb hbr hC hC1 hl hl1 hnn hcc hL1 hnum hdec hx
    go_enter Tryd.func46, Tryd.ntmps46
    go_wp2_with fail
    refine HL1.out.mono ?_
    rintro e w1 ⟨rfl, hd⟩
    have HD1 := Aside0.mk ((Dp.new 43 w).below hd.below)
    clear hd hx1 HL1
    have r0 := (blk_cell HD1.out.res 0).trans (rfl : _ = some (Value.int .u64 0))
    have r1 := (blk_cell HD1.out.res 1).trans (rfl : _ = some (Value.int .u64 0))
    have r2 := (blk_cell HD1.out.res 2).trans (rfl : _ = some (Value.slice none 0 0))
    have q0 := blk_frozen HD1.out.res 0
    have q1 := blk_frozen HD1.out.res 1
    have q2 := blk_frozen HD1.out.res 2
    go_wp2_with fail
    (try simp only [Exit.inBlock, Exit.then])
    refine bodyPost_ret (results_ct rfl _ _ w.heap.size 43 #[.int .u64 0, .int .u64 0, .slice none 0 0] (0, 0) _ rfl (blk_set3 HD1.out.res rfl (.int .u64 0) (.int .u64 0) (.slice none 0 0)) Tryd.underlying43 rfl sizePx) rfl ?_
    unfold DecA
    rw [HEnd.out]
    exact ⟨.slice none 0 0, rfl, Kd.R_nil _ _ _ _ _, HD1.out.end3 (Frm.set3 _ _ _ _ _)⟩
theorem ref7_DecodePrefix (bs : List Int) (A : Option Addr) (n c : Nat) (w : World) (hb : Bytes bs) (hl : bs.length = n) (hn : n ≤ 1000000) (hc : n ≤ c) (hC : Kd.C (Kd.int .u8) w A n bs) :
    Calls Tryd.prog 46 #[.slice A n c] w (DecA 43 (decX bs) w) := by
  by_cases h : ∃ r, bs = 80 :: r
  · obtain ⟨r, rfl⟩ := h
    exact ref7_DecodePrefix_some r A n c w hb hl hn hc hC
  · exact ref7_DecodePrefix_head bs A n c w hl hn hc hC (fun r hr => h ⟨r, hr⟩)
end Go.Proofs.YtefnonlhepekdaaDoor.M

set_option linter.unusedVariables false
set_option linter.unusedSimpArgs false
namespace Go.Proofs.YtefnonlhepekdaaDoor.M
open Go.RowKit Go.Proofs.YtefnonlhepekdaaDoorW.PrintWords Go.Proofs.YtefnonlhepekdaaDoorW.PrintLast Go.Proofs.YtefnonlhepekdaaDoorW.PrintMore Go.Proofs.YtefnonlhepekdaaDoor.Leaf

end Go.Proofs.YtefnonlhepekdaaDoor.M

set_option linter.unusedVariables false
set_option linter.unusedSimpArgs false
namespace Go.Proofs.YtefnonlhepekdaaDoor.M
open Go.RowKit Go.Proofs.YtefnonlhepekdaaDoorW.PrintWords Go.Proofs.YtefnonlhepekdaaDoorW.PrintLast Go.Proofs.YtefnonlhepekdaaDoorW.PrintMore Go.Proofs.YtefnonlhepekdaaDoor.Leaf

set_option maxHeartbeats 4000000 in
set_option maxRecDepth 100000 in
theorem mark_calls7 (m : Int) (xs : List Hsh) (A : Option Addr) (n c base : Nat) (w : World) (hR : kH.R 63 w base (fun _ => True) (.slice A n c) xs) (hbase : base ≤ w.heap.size) (hl : xs.length ≤ 1000000) :
    Calls Tryd.prog 52 #[.slice A n c, .int .u8 m] w fun e w' => ∃ A1 c1, e = .returned (.slice A1 (xs.length + 2) c1) ∧ kH.R 63 w' base (fun _ => True) (.slice A1 (xs.length + 2) c1) (List.replicate (xs.length + 2) (hash1 m)) ∧ Frm (fun k => some k = (Value.slice A n c).ownBlock) w w' ∧
      ((Value.slice A1 (xs.length + 2) c1).ownBlock = (Value.slice A n c).ownBlock ∨ ∃ b, (Value.slice A1 (xs.length + 2) c1).ownBlock = some b ∧ w.heap.size ≤ b) := by
  obtain rfl : n = xs.length := (Kd.R_reads' hR).1
  have HR0 := Aside0.mk hR
  have hone := (hash1 m).one
  clear hR
  go_enter Tryd.func52, Tryd.ntmps52
  go_wp2_with fail
  go_loopw [5] (fun s wr => ∃ j : Nat, j ≤ xs.length ∧ s = .int .i64 j ∧ Aside0 (kH.R 63 wr base (fun _ => True) (.slice A xs.length c) (mkA (hash1 m) xs j)) ∧ Aside0 (Frm (fun k => some k = (Value.slice A xs.length c).ownBlock) w wr)) (fun s _ => xs.length - (intOf s).toNat)
  case atStart => exact ⟨0, Nat.zero_le _, rfl, ⟨by rw [mkA_zero]; exact HR0.out⟩, ⟨Frm.refl _ _⟩⟩
  case round =>
    obtain ⟨j, hj, rfl, HS, HF⟩ := hrel
    clear HR0
    have hml := mkA_len (hash1 m) xs j hj
    by_cases hlt : j < xs.length
    · obtain ⟨g, cap, ea, _, _, _⟩ := Kd.R_form HS.out (by rw [hml]; omega)
      injection ea with ea1 ea2 ea3
      subst ea1 ea3
      have HSt := Aside0.mk (mkA_set (hash1 m) xs j hlt)
      clear hml ea2
      go_wp2_with ((with_reducible refine gate_store (t := 63) (p := 16) (v := .tmp 15) rfl ?_); go_loud (refine put_hash base rfl rfl (.tmp 16) (.tmp 15) rfl j _ (hash1 m) rfl (by simp) rfl HS.out hlt ?_; intro w1 hr1 hg1; have HR1 := Aside0.mk hr1; have HG1 := Aside0.mk hg1; clear hr1 hg1))
      go_roundw
      case rel => exact ⟨j + 1, by omega, by go_num, ⟨by rw [← HSt.out]; exact HR1.out⟩, ⟨HF.out.trans (Frm.of_grown HG1.out) (fun i _ h => by simp [Value.ownBlock] at h ⊢; exact h)⟩⟩
      case measure => simp [intOf]; omega
    · have hjl : j = xs.length := by omega
      subst hjl
      have hs := HF.out.size
      have HS2 := Aside0.mk (show kH.R 63 wr base (fun _ => True) (.slice A xs.length c) (List.replicate xs.length (hash1 m)) from mkA_all (hash1 m) xs ▸ HS.out)
      have hrl : (List.replicate xs.length (hash1 m)).length = xs.length := List.length_replicate
      have hrl2 : (List.replicate xs.length (hash1 m) ++ [hash1 m]).length = xs.length + 1 := by simp
      have HRep := Aside0.mk (show List.replicate xs.length (hash1 m) ++ [hash1 m] ++ [hash1 m] = List.replicate (xs.length + 2) (hash1 m) by rw [← List.replicate_succ', ← List.replicate_succ'])
      obtain ⟨P, hP⟩ : ∃ P, P = List.replicate xs.length (hash1 m) := ⟨_, rfl⟩
      rw [← hP] at HS2 hrl hrl2 HRep
      clear hP hml HS
      have hb1 : base ≤ wr.heap.size := by omega
      go_wp2_with (first | ((with_reducible refine gate_builtin (b := .append) (xs := #[.tmp 17, .tmp 20]) rfl ?_); at_builtin; go_loud (refine app_one kH base rfl (.tmp 17) (.tmp 20) 39 63 _ 32 rfl Tryd.underlying39 infoH rfl (by decide) (by decide) (.slice A xs.length c) P (hash1 m) ((hash1 m)).cells rfl rfl rfl HS2.out hb1 (by omega) ?_; intro A6 c6 w6 hr6 hf6 ha6; rw [hrl] at hr6 ha6 ⊢; have HR6 := Aside0.mk hr6; have HF6 := Aside0.mk hf6; have HA6 := Aside0.mk ha6; clear hr6 hf6 ha6)) | ((with_reducible refine gate_builtin (b := .append) (xs := #[.tmp 21, .tmp 24]) rfl ?_); at_builtin; go_loud (refine app_one kH base rfl (.tmp 21) (.tmp 24) 39 63 _ 32 rfl Tryd.underlying39 infoH rfl (by decide) (by decide) (.slice A6 (xs.length + 1) c6) (P ++ [hash1 m]) (hash1 m) ((hash1 m)).cells rfl rfl rfl HR6.out (Nat.le_trans hb1 HF6.out.size) (by omega) ?_; intro A7 c7 w7 hr7 hf7 ha7; rw [hrl2] at hr7 ha7 ⊢; have HR7 := Aside0.mk hr7; have HF7 := Aside0.mk hf7; have HA7 := Aside0.mk ha7; clear hr7 hf7 ha7)))
      go_ret
      have hr := HR7.out
      rw [HRep.out] at hr
      have ha := HA7.out
      refine ⟨A7, c7, rfl, hr, ?_, ?_⟩
      · refine (HF.out.trans HF6.out (fun i hi h => h)).trans HF7.out (fun i hi h => ?_)
        rcases HA6.out with h6 | ⟨b, h6, h7⟩
        · rw [h6] at h
          exact h
        · rw [h6] at h
          injection h with h
          have := HF.out.size
          omega
      · rcases ha with h7 | ⟨b, h7, h8⟩
        · rcases HA6.out with h6 | ⟨b, h6, h8⟩
          · exact .inl (h7.trans h6)
          · exact .inr ⟨b, h7.trans h6, by omega⟩
        · exact .inr ⟨b, h7, by have := HF6.out.size; omega⟩
theorem all_calls7 (m : Int) (n : Nat) (A : Option Addr) (c : Nat) (w : World) (hl : n ≤ 1000000) (hC : kH.C w A n (List.replicate n (hash1 m))) :
    Calls Tryd.prog 53 #[.slice A n c, .int .u8 m] w fun e w' => e = .returned (.bool true) ∧ Below w.heap.size w w' := by
  have HC := Aside0.mk hC
  have hone := (hash1 m).one
  clear hC
  go_enter Tryd.func53, Tryd.ntmps53
  go_wp2_with fail
  go_loop [5] (fun s => ∃ j : Nat, j ≤ n ∧ s = .int .i64 j) (fun s => n - (intOf s).toNat)
  case atStart => exact ⟨0, Nat.zero_le _, rfl⟩
  case round =>
    obtain ⟨j, hj, rfl⟩ := hrel
    by_cases hlt : j < n
    · obtain ⟨ad, ea, hh⟩ := C_hash HC.out j (by rw [List.length_replicate]; exact hlt)
      rw [List.getElem_replicate] at hh
      subst ea
      have HH := Aside0.mk hh
      clear hh
      go_wp2_with (first | ((with_reducible refine gate_dst (N := 15) rfl ?_); go_loud (refine load_hash rfl (.tmp 14) rfl _ _ rfl HH.out ?_)) | ((with_reducible refine gate_dst (N := 18) rfl ?_); go_loud (refine neq_hash rfl (.tmp 15) (.tmp 17) _ rfl (hash1 m) (hash1 m) rfl rfl false (by simp) ?_)))
      go_round
      case rel => exact ⟨j + 1, by omega, by go_num⟩
      case measure => simp [intOf]; omega
    · have hjl : j = n := by omega
      subst hjl
      go_wp2_with fail
      go_ret
      exact ⟨rfl, Below.refl _ _⟩
end Go.Proofs.YtefnonlhepekdaaDoor.M
