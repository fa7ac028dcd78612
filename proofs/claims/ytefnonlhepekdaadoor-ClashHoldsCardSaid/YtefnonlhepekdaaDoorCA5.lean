/- clash.Holds and massiflaw9.holds: the walks. massiflaw9.text, row, still, kept. massiflaw9.awake: a text and itself are no clash; among the texts of three bytes one has the hash of width 1 of the text of one byte 0. The law massiflaw9.ClashHolds. -/
import Derived.Test.YtefnonlhepekdaaDoorCA4
import Derived.Test.YtefnonlhepekdaaDoorCA3
set_option linter.unusedVariables false
set_option linter.unusedSimpArgs false
set_option linter.unusedVariables false
set_option linter.unusedSimpArgs false
namespace Go.Proofs.YtefnonlhepekdaaDoor.M
open Go.RowKit Go.Proofs.YtefnonlhepekdaaDoorW.PrintWords Go.Proofs.YtefnonlhepekdaaDoorW.PrintLast Go.Proofs.YtefnonlhepekdaaDoorW.PrintMore Go.Proofs.YtefnonlhepekdaaDoor.Leaf

theorem run_eql_hash (o : Oper) (x y : Operand) (ty : TypeId) (ho : o.op = .binOp .eql 63 x y ty) (ev : Operand → Value) (h g : Hsh) (hx : ev x = h.val) (hy : ev y = g.val) (W : World) : (execOp ev o).run Tryd.prog W = .ok (.value (.bool (decide (h = g)))) W := by
  unfold execOp
  simp only [ho, hx, hy, Sem.run_bind, hash_guard, hash_eql, Result.andThen_ok, Sem.run_pure]
theorem eqA (xs ys : List Int) (hx : Bytes xs) (hy : Bytes ys) (_hl : xs.length ≤ 900000000) (A B : Option Addr) (n m c d : Nat) (w : World) (hc : n ≤ c) (hd : m ≤ d) (hA : Kd.C (Kd.int .u8) w A n xs) (hB : Kd.C (Kd.int .u8) w B m ys) :
    Calls Tryd.prog 54 #[.slice A n c, .slice B m d] w fun e w' => e = .returned (.bool (decide (xs = ys))) ∧ ∃ nd, w' = w.drewN nd := equal_calls xs ys hx hy A B n m c d w hc hd hA hB
theorem eqB (xs ys : List Int) (_hx : Bytes xs) (_hy : Bytes ys) (hl : xs.length ≤ 900000000) (A B : Option Addr) (n m c d : Nat) (w : World) (hc : n ≤ c) (hd : m ≤ d) (hA : Kd.C (Kd.int .u8) w A n xs) (hB : Kd.C (Kd.int .u8) w B m ys) :
    Calls Tryd.prog 56 #[.slice A n c, .slice B m d] w fun e w' => e = .returned (.bool (decide (xs = ys))) ∧ ∃ nd, w' = w.drewN nd := sameB_calls xs ys (by omega) A B n m c d w hc hd hA hB
theorem sumA (wd : Int) (bs : List Int) (A : Option Addr) (n c cp : Nat) (ad : Addr) (w : World) (hF : HF w) (hK : HK w) (hb : Bytes bs) (hl : bs.length ≤ 900000000) (hc : n ≤ c) (hc2 : c ≤ 9223372036854775807) (hC : Kd.C (Kd.int .u8) w A n bs) (hx : w.cell? ad = some (.slice A n c)) :
    Calls Tryd.prog 55 #[.int .i64 wd, .slice (some ad) 1 cp] w fun e w' => e = .returned (sumH wd bs).val ∧ Below w.heap.size w w' := sum1_calls wd bs A n c cp ad w hF hK hb hl hc hc2 hC hx
theorem sumB (wd : Int) (bs : List Int) (A : Option Addr) (n c cp : Nat) (ad : Addr) (w : World) (_hF : HF w) (_hK : HK w) (hb : Bytes bs) (hl : bs.length ≤ 900000000) (_hc : n ≤ c) (_hc2 : c ≤ 9223372036854775807) (hC : Kd.C (Kd.int .u8) w A n bs) (hx : w.cell? ad = some (.slice A n c)) :
    Calls Tryd.prog 57 #[.int .i64 wd, .slice (some ad) 1 cp] w fun e w' => e = .returned (sumH wd bs).val ∧ Below w.heap.size w w' := ref_sum1_calls wd bs A n c cp ad w hb hl hC hx
set_option maxHeartbeats 40000000 in
set_option maxRecDepth 100000 in
theorem holds_calls (wd : Int) (xs ys : List Int) (A B : Option Addr) (n m c d : Nat) (w : World) (hF : HF w) (hK : HK w) (hbx' : Bytes xs) (hby' : Bytes ys) (hlx : xs.length ≤ 900000000) (hly : ys.length ≤ 900000000) (hnc : n ≤ c) (hmd : m ≤ d) (hc9 : c ≤ 9223372036854775807) (hd9 : d ≤ 9223372036854775807) (hA : Kd.C (Kd.int .u8) w A n xs) (hB : Kd.C (Kd.int .u8) w B m ys) :
    Calls Tryd.prog 12 #[.int .i64 wd, .agg #[.slice A n c, .slice B m d]] w fun e w' => e = .returned (.bool (decide (xs ≠ ys ∧ sumH wd xs = sumH wd ys))) ∧ Below w.heap.size w w' := by
  have hb0 := bl_new w (.cells #[.slice A n c, .slice B m d] 26)
  have hbx := heap_new w (.cells #[.slice A n c, .slice B m d] 26)
  have HB0 := Aside0.mk hb0
  have HX0 := Aside0.mk hbx
  have HCx := Aside0.mk (Kd.C_below hA hb0)
  have HCy := Aside0.mk (Kd.C_below hB hb0)
  have HTF := Aside0.mk (hF.below hb0)
  have HTK := Aside0.mk (hK.below hb0)
  have HBx := Aside0.mk hbx'
  have HBy := Aside0.mk hby'
  clear hb0 hbx hA hB hF hK hbx' hby'
  go_enter Tryd.func12, Tryd.ntmps12
  go_wp2_with fail
  generalize w.alloc (.cells #[.slice A n c, .slice B m d] 26) = w1 at *
  have c0 := (blk_cell HX0.out 0).trans (rfl : _ = some (Value.slice A n c))
  have c1 := (blk_cell HX0.out 1).trans (rfl : _ = some (Value.slice B m d))
  by_cases he : xs = ys
  · have hres : decide (xs ≠ ys ∧ sumH wd xs = sumH wd ys) = false := by rw [decide_eq_false_iff_not]; exact fun h => h.1 he
    have HEq : ∀ k, Calls Tryd.prog 54 #[.slice A n c, .slice B m d] (w1.drewN k) fun e w' => e = .returned (.bool true) ∧ ∃ nd, w' = (w1.drewN k).drewN nd := fun k => by
      have h := eqA xs ys HBx.out HBy.out hlx A B n m c d (w1.drewN k) hnc hmd (Kd.C_below HCx.out (pw_below_drewN (Below.refl _ _) k)) (Kd.C_below HCy.out (pw_below_drewN (Below.refl _ _) k))
      rw [decide_eq_true he] at h
      exact h
    clear he
    go_big_quiet (with_reducible exact Calls.quiet_of (HEq _))
    go_wp2_with fail
    go_ret
    exact ⟨by rw [hres]; rfl, HB0.out.trans (pw_below_drewN (Below.refl _ _) _)⟩
  · have hres : decide (xs ≠ ys ∧ sumH wd xs = sumH wd ys) = decide (sumH wd xs = sumH wd ys) := decide_eq_decide.2 ⟨fun h => h.2, fun h => ⟨he, h⟩⟩
    have hdf : decide (xs = ys) = false := decide_eq_false he
    refine wp_region_normal (fun KQ hKQ => ?_)
    refine wp_region_held_drew (S := fun W => Below w1.drew.heap.size w1.drew W) (by kernel_rfl) (Below.refl _ _) (fun _ => ?_)
    have hd1 : Below w1.heap.size w1 w1.drew := below_drew (Below.refl _ _)
    have HB2 := Aside0.mk (blt HB0.out hd1)
    replace c0 := pw_cell_below hd1 c0
    replace c1 := pw_cell_below hd1 c1
    replace HCx := Aside0.mk (Kd.C_below HCx.out hd1)
    replace HCy := Aside0.mk (Kd.C_below HCy.out hd1)
    replace HTF := Aside0.mk (HTF.out.below hd1)
    replace HTK := Aside0.mk (HTK.out.below hd1)
    clear hd1 he HB0 HX0
    generalize w1.drew = w2 at *
    have HS := Aside0.mk (Below.refl w2.heap.size w2)
    refine wpAnyH_take (i := 0) (v := .pointer (some ⟨w.heap.size, 0, none⟩)) rfl (by kernel_rfl) (by kernel_rfl) (by kernel_rfl) (fun _ _ _ h => absurd h.1 (by simp)) (Or.inl ⟨by rfl, fun W hW => by go_simp⟩) HS.out ?_
    (try simp only [Act.put, List.getElem_toArray, List.getElem_cons_zero, List.getElem_cons_succ, List.setIfInBounds_toArray, List.set_cons_zero, List.set_cons_succ])
    refine wpAnyH_take (i := 1) (v := .slice A n c) rfl (by kernel_rfl) (by kernel_rfl) (by kernel_rfl) (fun _ _ _ h => absurd h.1 (by simp)) (Or.inl ⟨by rfl, fun W hW => by have hcl := pw_cell_below (show Below _ _ W from hW) c0; go_simp⟩) HS.out ?_
    (try simp only [Act.put, List.getElem_toArray, List.getElem_cons_zero, List.getElem_cons_succ, List.setIfInBounds_toArray, List.set_cons_zero, List.set_cons_succ])
    refine wpAnyH_take (i := 2) (v := .pointer (some ⟨w.heap.size, 1, none⟩)) rfl (by kernel_rfl) (by kernel_rfl) (by kernel_rfl) (fun _ _ _ h => absurd h.1 (by simp)) (Or.inl ⟨by rfl, fun W hW => by go_simp⟩) HS.out ?_
    (try simp only [Act.put, List.getElem_toArray, List.getElem_cons_zero, List.getElem_cons_succ, List.setIfInBounds_toArray, List.set_cons_zero, List.set_cons_succ])
    refine wpAnyH_take (i := 3) (v := .slice B m d) rfl (by kernel_rfl) (by kernel_rfl) (by kernel_rfl) (fun _ _ _ h => absurd h.1 (by simp)) (Or.inl ⟨by rfl, fun W hW => by have hcl := pw_cell_below (show Below _ _ W from hW) c1; go_simp⟩) HS.out ?_
    (try simp only [Act.put, List.getElem_toArray, List.getElem_cons_zero, List.getElem_cons_succ, List.setIfInBounds_toArray, List.set_cons_zero, List.set_cons_succ])
    have HEq := Aside0.mk (eqA xs ys HBx.out HBy.out hlx A B n m c d w2 hnc hmd HCx.out HCy.out)
    rw [hdf] at HEq
    refine wpAnyH_ready (rs := [4]) (by kernel_rfl) (by simp) ?_
    refine AllReadyH.cons rfl ?_ AllReadyH.nil
    intro K hK
    refine step_of_wanted rfl ?_
    go_wp2_with fail
    refine HEq.out.mono ?_
    rintro e w3 ⟨rfl, hnd⟩
    have hb3 : Below w2.heap.size w2 w3 := by
      obtain ⟨nd, rfl⟩ := hnd
      exact pw_below_drewN (Below.refl _ _) nd
    go_wp2_with fail
    have HS := Aside0.mk hb3
    refine hK.out _ _ hb3 (fun _ => ?_)
    clear hK K hnd hb3 HEq
    (try simp only [Act.put, List.getElem_toArray, List.getElem_cons_zero, List.getElem_cons_succ, List.setIfInBounds_toArray, List.set_cons_zero, List.set_cons_succ])
    refine wpAnyH_take (i := 5) (v := .bool true) rfl (by kernel_rfl) (by kernel_rfl) (by kernel_rfl) (fun _ _ _ h => absurd h.1 (by simp)) (Or.inl ⟨by rfl, fun W hW => by go_simp⟩) HS.out ?_
    (try simp only [Act.put, List.getElem_toArray, List.getElem_cons_zero, List.getElem_cons_succ, List.setIfInBounds_toArray, List.set_cons_zero, List.set_cons_succ])
    refine wpAnyH_take (i := 6) (v := .bool true) rfl (by kernel_rfl) (by kernel_rfl) (by kernel_rfl) (fun _ _ _ h => absurd h.1 (by simp)) (Or.inl ⟨by rfl, fun W hW => by go_simp⟩) HS.out ?_
    (try simp only [Act.put, List.getElem_toArray, List.getElem_cons_zero, List.getElem_cons_succ, List.setIfInBounds_toArray, List.set_cons_zero, List.set_cons_succ])
    refine wpAnyH_take (i := 7) (v := .int .i64 wd) rfl (by kernel_rfl) (by kernel_rfl) (by kernel_rfl) (fun _ _ _ h => absurd h.1 (by simp)) (Or.inl ⟨by rfl, fun W hW => by go_simp⟩) HS.out ?_
    (try simp only [Act.put, List.getElem_toArray, List.getElem_cons_zero, List.getElem_cons_succ, List.setIfInBounds_toArray, List.set_cons_zero, List.set_cons_succ])
    refine wpAnyH_take (i := 8) (v := .pointer (some ⟨w.heap.size, 0, none⟩)) rfl (by kernel_rfl) (by kernel_rfl) (by kernel_rfl) (fun _ _ _ h => absurd h.1 (by simp)) (Or.inl ⟨by rfl, fun W hW => by go_simp⟩) HS.out ?_
    (try simp only [Act.put, List.getElem_toArray, List.getElem_cons_zero, List.getElem_cons_succ, List.setIfInBounds_toArray, List.set_cons_zero, List.set_cons_succ])
    refine wpAnyH_take (i := 9) (v := .slice A n c) rfl (by kernel_rfl) (by kernel_rfl) (by kernel_rfl) (fun _ _ _ h => absurd h.1 (by simp)) (Or.inl ⟨by rfl, fun W hW => by have hcl := pw_cell_below (show Below _ _ W from hW) c0; go_simp⟩) HS.out ?_
    (try simp only [Act.put, List.getElem_toArray, List.getElem_cons_zero, List.getElem_cons_succ, List.setIfInBounds_toArray, List.set_cons_zero, List.set_cons_succ])
    refine wpAnyH_take (i := 12) (v := .int .i64 wd) rfl (by kernel_rfl) (by kernel_rfl) (by kernel_rfl) (fun _ _ _ h => absurd h.1 (by simp)) (Or.inl ⟨by rfl, fun W hW => by go_simp⟩) HS.out ?_
    (try simp only [Act.put, List.getElem_toArray, List.getElem_cons_zero, List.getElem_cons_succ, List.setIfInBounds_toArray, List.set_cons_zero, List.set_cons_succ])
    refine wpAnyH_take (i := 13) (v := .pointer (some ⟨w.heap.size, 1, none⟩)) rfl (by kernel_rfl) (by kernel_rfl) (by kernel_rfl) (fun _ _ _ h => absurd h.1 (by simp)) (Or.inl ⟨by rfl, fun W hW => by go_simp⟩) HS.out ?_
    (try simp only [Act.put, List.getElem_toArray, List.getElem_cons_zero, List.getElem_cons_succ, List.setIfInBounds_toArray, List.set_cons_zero, List.set_cons_succ])
    refine wpAnyH_take (i := 14) (v := .slice B m d) rfl (by kernel_rfl) (by kernel_rfl) (by kernel_rfl) (fun _ _ _ h => absurd h.1 (by simp)) (Or.inl ⟨by rfl, fun W hW => by have hcl := pw_cell_below (show Below _ _ W from hW) c1; go_simp⟩) HS.out ?_
    (try simp only [Act.put, List.getElem_toArray, List.getElem_cons_zero, List.getElem_cons_succ, List.setIfInBounds_toArray, List.set_cons_zero, List.set_cons_succ])
    clear c0 c1
    refine wpAnyH_ready (rs := [10, 15]) (by kernel_rfl) (by simp) ?_
    refine AllReadyH.cons rfl ?_ (AllReadyH.cons rfl ?_ AllReadyH.nil)
    · skip
      intro K hK
      refine step_of_wanted rfl ?_
      go_wp2_with fail
      have hbn := bl_new w3 (.cells #[(Value.slice A n c)] 22)
      have cx := (blk_cell (heap_new w3 (.cells #[(Value.slice A n c)] 22)) 0).trans (rfl : _ = some (Value.slice A n c))
      have HS := Aside0.mk (blB HS.out (Nat.le_refl _) hbn)
      refine hK.out _ _ HS.out (fun _ => ?_)
      clear hK K
      (try simp only [Act.put, List.getElem_toArray, List.getElem_cons_zero, List.getElem_cons_succ, List.setIfInBounds_toArray, List.set_cons_zero, List.set_cons_succ])
      generalize w3.alloc (.cells #[.slice A n c] 22) = w4 at *
      refine wpAnyH_ready (rs := [11, 15]) (by kernel_rfl) (by simp) ?_
      refine AllReadyH.cons rfl ?_ (AllReadyH.cons rfl ?_ AllReadyH.nil)
      · skip
        intro K hK
        refine step_of_wanted rfl ?_
        go_wp2_with fail
        refine (sumA wd xs A n c 1 _ w4 (HTF.out.below HS.out) (HTK.out.below HS.out) HBx.out hlx hnc hc9 (Kd.C_below HCx.out HS.out) cx).mono ?_
        rintro e w5 ⟨rfl, hbn⟩
        go_wp2_with fail
        have HS := Aside0.mk (blB HS.out (Nat.le_refl _) hbn)
        refine hK.out _ _ HS.out (fun _ => ?_)
        clear hK K
        (try simp only [Act.put, List.getElem_toArray, List.getElem_cons_zero, List.getElem_cons_succ, List.setIfInBounds_toArray, List.set_cons_zero, List.set_cons_succ])
        clear cx
        refine wpAnyH_ready (rs := [15]) (by kernel_rfl) (by simp) ?_
        refine AllReadyH.cons rfl ?_ AllReadyH.nil
        intro K hK
        refine step_of_wanted rfl ?_
        go_wp2_with fail
        have hbn := bl_new w5 (.cells #[(Value.slice B m d)] 22)
        have cy := (blk_cell (heap_new w5 (.cells #[(Value.slice B m d)] 22)) 0).trans (rfl : _ = some (Value.slice B m d))
        have HS := Aside0.mk (blB HS.out (Nat.le_refl _) hbn)
        refine hK.out _ _ HS.out (fun _ => ?_)
        clear hK K
        (try simp only [Act.put, List.getElem_toArray, List.getElem_cons_zero, List.getElem_cons_succ, List.setIfInBounds_toArray, List.set_cons_zero, List.set_cons_succ])
        generalize w5.alloc (.cells #[.slice B m d] 22) = w6 at *
        refine wpAnyH_ready (rs := [16]) (by kernel_rfl) (by simp) ?_
        refine AllReadyH.cons rfl ?_ AllReadyH.nil
        intro K hK
        refine step_of_wanted rfl ?_
        go_wp2_with fail
        refine (sumA wd ys B m d 1 _ w6 (HTF.out.below HS.out) (HTK.out.below HS.out) HBy.out hly hmd hd9 (Kd.C_below HCy.out HS.out) cy).mono ?_
        rintro e w7 ⟨rfl, hbn⟩
        go_wp2_with fail
        have HS := Aside0.mk (blB HS.out (Nat.le_refl _) hbn)
        refine hK.out _ _ HS.out (fun _ => ?_)
        clear hK K
        (try simp only [Act.put, List.getElem_toArray, List.getElem_cons_zero, List.getElem_cons_succ, List.setIfInBounds_toArray, List.set_cons_zero, List.set_cons_succ])
        refine wpAnyH_take (i := 17) (v := .bool (decide (sumH wd xs = sumH wd ys))) rfl (by kernel_rfl) (by kernel_rfl) (by kernel_rfl) (fun _ _ _ h => absurd h.1 (by simp)) (Or.inl ⟨by rfl, fun W hW => run_eql_hash _ (.tmp 16) (.tmp 21) _ rfl _ _ _ rfl rfl W⟩) HS.out ?_
        (try simp only [Act.put, List.getElem_toArray, List.getElem_cons_zero, List.getElem_cons_succ, List.setIfInBounds_toArray, List.set_cons_zero, List.set_cons_succ])
        refine wpAnyH_take (i := 18) (v := .bool (decide (sumH wd xs = sumH wd ys))) rfl (by kernel_rfl) (by kernel_rfl) (by kernel_rfl) (fun _ _ _ h => absurd h.1 (by simp)) (Or.inl ⟨by rfl, fun W hW => by go_simp⟩) HS.out ?_
        (try simp only [Act.put, List.getElem_toArray, List.getElem_cons_zero, List.getElem_cons_succ, List.setIfInBounds_toArray, List.set_cons_zero, List.set_cons_succ])
        refine wpAnyH_take (i := 19) (v := .bool (decide (sumH wd xs = sumH wd ys))) rfl (by kernel_rfl) (by kernel_rfl) (by kernel_rfl) (fun _ _ _ h => absurd h.1 (by simp)) (Or.inl ⟨by rfl, fun W hW => by go_simp⟩) HS.out ?_
        (try simp only [Act.put, List.getElem_toArray, List.getElem_cons_zero, List.getElem_cons_succ, List.setIfInBounds_toArray, List.set_cons_zero, List.set_cons_succ])
        refine wpAnyH_done (by kernel_rfl) ⟨rfl, hKQ _ _ ?_⟩ _
        go_wp2_with fail
        go_ret
        exact ⟨by rw [hres]; rfl, HB2.out.trans (HS.out.mono HB2.out.size)⟩
      · skip
        intro K hK
        refine step_of_wanted rfl ?_
        go_wp2_with fail
        have hbn := bl_new w4 (.cells #[(Value.slice B m d)] 22)
        have cy := (blk_cell (heap_new w4 (.cells #[(Value.slice B m d)] 22)) 0).trans (rfl : _ = some (Value.slice B m d))
        have HS := Aside0.mk (blB HS.out (Nat.le_refl _) hbn)
        refine hK.out _ _ HS.out (fun _ => ?_)
        clear hK K
        (try simp only [Act.put, List.getElem_toArray, List.getElem_cons_zero, List.getElem_cons_succ, List.setIfInBounds_toArray, List.set_cons_zero, List.set_cons_succ])
        have cx := pw_cell_below (bl_new w4 (.cells #[.slice B m d] 22)) cx
        generalize w4.alloc (.cells #[.slice B m d] 22) = w6 at *
        refine wpAnyH_ready (rs := [11]) (by kernel_rfl) (by simp) ?_
        refine AllReadyH.cons rfl ?_ AllReadyH.nil
        intro K hK
        refine step_of_wanted rfl ?_
        go_wp2_with fail
        refine (sumA wd xs A n c 1 _ w6 (HTF.out.below HS.out) (HTK.out.below HS.out) HBx.out hlx hnc hc9 (Kd.C_below HCx.out HS.out) cx).mono ?_
        rintro e w5 ⟨rfl, hbn⟩
        go_wp2_with fail
        have HS := Aside0.mk (blB HS.out (Nat.le_refl _) hbn)
        refine hK.out _ _ HS.out (fun _ => ?_)
        clear hK K
        (try simp only [Act.put, List.getElem_toArray, List.getElem_cons_zero, List.getElem_cons_succ, List.setIfInBounds_toArray, List.set_cons_zero, List.set_cons_succ])
        have cy := pw_cell_below hbn cy
        refine wpAnyH_ready (rs := [16]) (by kernel_rfl) (by simp) ?_
        refine AllReadyH.cons rfl ?_ AllReadyH.nil
        intro K hK
        refine step_of_wanted rfl ?_
        go_wp2_with fail
        refine (sumA wd ys B m d 1 _ w5 (HTF.out.below HS.out) (HTK.out.below HS.out) HBy.out hly hmd hd9 (Kd.C_below HCy.out HS.out) cy).mono ?_
        rintro e w7 ⟨rfl, hbn⟩
        go_wp2_with fail
        have HS := Aside0.mk (blB HS.out (Nat.le_refl _) hbn)
        refine hK.out _ _ HS.out (fun _ => ?_)
        clear hK K
        (try simp only [Act.put, List.getElem_toArray, List.getElem_cons_zero, List.getElem_cons_succ, List.setIfInBounds_toArray, List.set_cons_zero, List.set_cons_succ])
        refine wpAnyH_take (i := 17) (v := .bool (decide (sumH wd xs = sumH wd ys))) rfl (by kernel_rfl) (by kernel_rfl) (by kernel_rfl) (fun _ _ _ h => absurd h.1 (by simp)) (Or.inl ⟨by rfl, fun W hW => run_eql_hash _ (.tmp 16) (.tmp 21) _ rfl _ _ _ rfl rfl W⟩) HS.out ?_
        (try simp only [Act.put, List.getElem_toArray, List.getElem_cons_zero, List.getElem_cons_succ, List.setIfInBounds_toArray, List.set_cons_zero, List.set_cons_succ])
        refine wpAnyH_take (i := 18) (v := .bool (decide (sumH wd xs = sumH wd ys))) rfl (by kernel_rfl) (by kernel_rfl) (by kernel_rfl) (fun _ _ _ h => absurd h.1 (by simp)) (Or.inl ⟨by rfl, fun W hW => by go_simp⟩) HS.out ?_
        (try simp only [Act.put, List.getElem_toArray, List.getElem_cons_zero, List.getElem_cons_succ, List.setIfInBounds_toArray, List.set_cons_zero, List.set_cons_succ])
        refine wpAnyH_take (i := 19) (v := .bool (decide (sumH wd xs = sumH wd ys))) rfl (by kernel_rfl) (by kernel_rfl) (by kernel_rfl) (fun _ _ _ h => absurd h.1 (by simp)) (Or.inl ⟨by rfl, fun W hW => by go_simp⟩) HS.out ?_
        (try simp only [Act.put, List.getElem_toArray, List.getElem_cons_zero, List.getElem_cons_succ, List.setIfInBounds_toArray, List.set_cons_zero, List.set_cons_succ])
        refine wpAnyH_done (by kernel_rfl) ⟨rfl, hKQ _ _ ?_⟩ _
        go_wp2_with fail
        go_ret
        exact ⟨by rw [hres]; rfl, HB2.out.trans (HS.out.mono HB2.out.size)⟩
    · skip
      intro K hK
      refine step_of_wanted rfl ?_
      go_wp2_with fail
      have hbn := bl_new w3 (.cells #[(Value.slice B m d)] 22)
      have cy := (blk_cell (heap_new w3 (.cells #[(Value.slice B m d)] 22)) 0).trans (rfl : _ = some (Value.slice B m d))
      have HS := Aside0.mk (blB HS.out (Nat.le_refl _) hbn)
      refine hK.out _ _ HS.out (fun _ => ?_)
      clear hK K
      (try simp only [Act.put, List.getElem_toArray, List.getElem_cons_zero, List.getElem_cons_succ, List.setIfInBounds_toArray, List.set_cons_zero, List.set_cons_succ])
      generalize w3.alloc (.cells #[.slice B m d] 22) = w4 at *
      refine wpAnyH_ready (rs := [10]) (by kernel_rfl) (by simp) ?_
      refine AllReadyH.cons rfl ?_ AllReadyH.nil
      intro K hK
      refine step_of_wanted rfl ?_
      go_wp2_with fail
      have hbn := bl_new w4 (.cells #[(Value.slice A n c)] 22)
      have cx := (blk_cell (heap_new w4 (.cells #[(Value.slice A n c)] 22)) 0).trans (rfl : _ = some (Value.slice A n c))
      have HS := Aside0.mk (blB HS.out (Nat.le_refl _) hbn)
      refine hK.out _ _ HS.out (fun _ => ?_)
      clear hK K
      (try simp only [Act.put, List.getElem_toArray, List.getElem_cons_zero, List.getElem_cons_succ, List.setIfInBounds_toArray, List.set_cons_zero, List.set_cons_succ])
      have cy := pw_cell_below (bl_new w4 (.cells #[.slice A n c] 22)) cy
      generalize w4.alloc (.cells #[.slice A n c] 22) = w6 at *
      refine wpAnyH_ready (rs := [11]) (by kernel_rfl) (by simp) ?_
      refine AllReadyH.cons rfl ?_ AllReadyH.nil
      intro K hK
      refine step_of_wanted rfl ?_
      go_wp2_with fail
      refine (sumA wd xs A n c 1 _ w6 (HTF.out.below HS.out) (HTK.out.below HS.out) HBx.out hlx hnc hc9 (Kd.C_below HCx.out HS.out) cx).mono ?_
      rintro e w5 ⟨rfl, hbn⟩
      go_wp2_with fail
      have HS := Aside0.mk (blB HS.out (Nat.le_refl _) hbn)
      refine hK.out _ _ HS.out (fun _ => ?_)
      clear hK K
      (try simp only [Act.put, List.getElem_toArray, List.getElem_cons_zero, List.getElem_cons_succ, List.setIfInBounds_toArray, List.set_cons_zero, List.set_cons_succ])
      have cy := pw_cell_below hbn cy
      refine wpAnyH_ready (rs := [16]) (by kernel_rfl) (by simp) ?_
      refine AllReadyH.cons rfl ?_ AllReadyH.nil
      intro K hK
      refine step_of_wanted rfl ?_
      go_wp2_with fail
      refine (sumA wd ys B m d 1 _ w5 (HTF.out.below HS.out) (HTK.out.below HS.out) HBy.out hly hmd hd9 (Kd.C_below HCy.out HS.out) cy).mono ?_
      rintro e w7 ⟨rfl, hbn⟩
      go_wp2_with fail
      have HS := Aside0.mk (blB HS.out (Nat.le_refl _) hbn)
      refine hK.out _ _ HS.out (fun _ => ?_)
      clear hK K
      (try simp only [Act.put, List.getElem_toArray, List.getElem_cons_zero, List.getElem_cons_succ, List.setIfInBounds_toArray, List.set_cons_zero, List.set_cons_succ])
      refine wpAnyH_take (i := 17) (v := .bool (decide (sumH wd xs = sumH wd ys))) rfl (by kernel_rfl) (by kernel_rfl) (by kernel_rfl) (fun _ _ _ h => absurd h.1 (by simp)) (Or.inl ⟨by rfl, fun W hW => run_eql_hash _ (.tmp 16) (.tmp 21) _ rfl _ _ _ rfl rfl W⟩) HS.out ?_
      (try simp only [Act.put, List.getElem_toArray, List.getElem_cons_zero, List.getElem_cons_succ, List.setIfInBounds_toArray, List.set_cons_zero, List.set_cons_succ])
      refine wpAnyH_take (i := 18) (v := .bool (decide (sumH wd xs = sumH wd ys))) rfl (by kernel_rfl) (by kernel_rfl) (by kernel_rfl) (fun _ _ _ h => absurd h.1 (by simp)) (Or.inl ⟨by rfl, fun W hW => by go_simp⟩) HS.out ?_
      (try simp only [Act.put, List.getElem_toArray, List.getElem_cons_zero, List.getElem_cons_succ, List.setIfInBounds_toArray, List.set_cons_zero, List.set_cons_succ])
      refine wpAnyH_take (i := 19) (v := .bool (decide (sumH wd xs = sumH wd ys))) rfl (by kernel_rfl) (by kernel_rfl) (by kernel_rfl) (fun _ _ _ h => absurd h.1 (by simp)) (Or.inl ⟨by rfl, fun W hW => by go_simp⟩) HS.out ?_
      (try simp only [Act.put, List.getElem_toArray, List.getElem_cons_zero, List.getElem_cons_succ, List.setIfInBounds_toArray, List.set_cons_zero, List.set_cons_succ])
      refine wpAnyH_done (by kernel_rfl) ⟨rfl, hKQ _ _ ?_⟩ _
      go_wp2_with fail
      go_ret
      exact ⟨by rw [hres]; rfl, HB2.out.trans (HS.out.mono HB2.out.size)⟩
set_option maxHeartbeats 40000000 in
set_option maxRecDepth 100000 in
theorem holds9_calls (wd : Int) (xs ys : List Int) (A B : Option Addr) (n m c d : Nat) (w : World) (hF : HF w) (hK : HK w) (hbx' : Bytes xs) (hby' : Bytes ys) (hlx : xs.length ≤ 900000000) (hly : ys.length ≤ 900000000) (hnc : n ≤ c) (hmd : m ≤ d) (hc9 : c ≤ 9223372036854775807) (hd9 : d ≤ 9223372036854775807) (hA : Kd.C (Kd.int .u8) w A n xs) (hB : Kd.C (Kd.int .u8) w B m ys) :
    Calls Tryd.prog 13 #[.int .i64 wd, .agg #[.slice A n c, .slice B m d]] w fun e w' => e = .returned (.bool (decide (xs ≠ ys ∧ sumH wd xs = sumH wd ys))) ∧ Below w.heap.size w w' := by
  have hb0 := bl_new w (.cells #[.slice A n c, .slice B m d] 26)
  have hbx := heap_new w (.cells #[.slice A n c, .slice B m d] 26)
  have HB0 := Aside0.mk hb0
  have HX0 := Aside0.mk hbx
  have HCx := Aside0.mk (Kd.C_below hA hb0)
  have HCy := Aside0.mk (Kd.C_below hB hb0)
  have HTF := Aside0.mk (hF.below hb0)
  have HTK := Aside0.mk (hK.below hb0)
  have HBx := Aside0.mk hbx'
  have HBy := Aside0.mk hby'
  clear hb0 hbx hA hB hF hK hbx' hby'
  go_enter Tryd.func13, Tryd.ntmps13
  go_wp2_with fail
  generalize w.alloc (.cells #[.slice A n c, .slice B m d] 26) = w1 at *
  have c0 := (blk_cell HX0.out 0).trans (rfl : _ = some (Value.slice A n c))
  have c1 := (blk_cell HX0.out 1).trans (rfl : _ = some (Value.slice B m d))
  by_cases he : xs = ys
  · have hres : decide (xs ≠ ys ∧ sumH wd xs = sumH wd ys) = false := by rw [decide_eq_false_iff_not]; exact fun h => h.1 he
    have HEq : ∀ k, Calls Tryd.prog 56 #[.slice A n c, .slice B m d] (w1.drewN k) fun e w' => e = .returned (.bool true) ∧ ∃ nd, w' = (w1.drewN k).drewN nd := fun k => by
      have h := eqB xs ys HBx.out HBy.out hlx A B n m c d (w1.drewN k) hnc hmd (Kd.C_below HCx.out (pw_below_drewN (Below.refl _ _) k)) (Kd.C_below HCy.out (pw_below_drewN (Below.refl _ _) k))
      rw [decide_eq_true he] at h
      exact h
    clear he
    go_big_quiet (with_reducible exact Calls.quiet_of (HEq _))
    go_wp2_with fail
    go_ret
    exact ⟨by rw [hres]; rfl, HB0.out.trans (pw_below_drewN (Below.refl _ _) _)⟩
  · have hres : decide (xs ≠ ys ∧ sumH wd xs = sumH wd ys) = decide (sumH wd xs = sumH wd ys) := decide_eq_decide.2 ⟨fun h => h.2, fun h => ⟨he, h⟩⟩
    have hdf : decide (xs = ys) = false := decide_eq_false he
    refine wp_region_normal (fun KQ hKQ => ?_)
    refine wp_region_held_drew (S := fun W => Below w1.drew.heap.size w1.drew W) (by kernel_rfl) (Below.refl _ _) (fun _ => ?_)
    have hd1 : Below w1.heap.size w1 w1.drew := below_drew (Below.refl _ _)
    have HB2 := Aside0.mk (blt HB0.out hd1)
    replace c0 := pw_cell_below hd1 c0
    replace c1 := pw_cell_below hd1 c1
    replace HCx := Aside0.mk (Kd.C_below HCx.out hd1)
    replace HCy := Aside0.mk (Kd.C_below HCy.out hd1)
    replace HTF := Aside0.mk (HTF.out.below hd1)
    replace HTK := Aside0.mk (HTK.out.below hd1)
    clear hd1 he HB0 HX0
    generalize w1.drew = w2 at *
    have HS := Aside0.mk (Below.refl w2.heap.size w2)
    refine wpAnyH_take (i := 0) (v := .pointer (some ⟨w.heap.size, 0, none⟩)) rfl (by kernel_rfl) (by kernel_rfl) (by kernel_rfl) (fun _ _ _ h => absurd h.1 (by simp)) (Or.inl ⟨by rfl, fun W hW => by go_simp⟩) HS.out ?_
    (try simp only [Act.put, List.getElem_toArray, List.getElem_cons_zero, List.getElem_cons_succ, List.setIfInBounds_toArray, List.set_cons_zero, List.set_cons_succ])
    refine wpAnyH_take (i := 1) (v := .slice A n c) rfl (by kernel_rfl) (by kernel_rfl) (by kernel_rfl) (fun _ _ _ h => absurd h.1 (by simp)) (Or.inl ⟨by rfl, fun W hW => by have hcl := pw_cell_below (show Below _ _ W from hW) c0; go_simp⟩) HS.out ?_
    (try simp only [Act.put, List.getElem_toArray, List.getElem_cons_zero, List.getElem_cons_succ, List.setIfInBounds_toArray, List.set_cons_zero, List.set_cons_succ])
    refine wpAnyH_take (i := 2) (v := .pointer (some ⟨w.heap.size, 1, none⟩)) rfl (by kernel_rfl) (by kernel_rfl) (by kernel_rfl) (fun _ _ _ h => absurd h.1 (by simp)) (Or.inl ⟨by rfl, fun W hW => by go_simp⟩) HS.out ?_
    (try simp only [Act.put, List.getElem_toArray, List.getElem_cons_zero, List.getElem_cons_succ, List.setIfInBounds_toArray, List.set_cons_zero, List.set_cons_succ])
    refine wpAnyH_take (i := 3) (v := .slice B m d) rfl (by kernel_rfl) (by kernel_rfl) (by kernel_rfl) (fun _ _ _ h => absurd h.1 (by simp)) (Or.inl ⟨by rfl, fun W hW => by have hcl := pw_cell_below (show Below _ _ W from hW) c1; go_simp⟩) HS.out ?_
    (try simp only [Act.put, List.getElem_toArray, List.getElem_cons_zero, List.getElem_cons_succ, List.setIfInBounds_toArray, List.set_cons_zero, List.set_cons_succ])
    have HEq := Aside0.mk (eqB xs ys HBx.out HBy.out hlx A B n m c d w2 hnc hmd HCx.out HCy.out)
    rw [hdf] at HEq
    refine wpAnyH_ready (rs := [4]) (by kernel_rfl) (by simp) ?_
    refine AllReadyH.cons rfl ?_ AllReadyH.nil
    intro K hK
    refine step_of_wanted rfl ?_
    go_wp2_with fail
    refine HEq.out.mono ?_
    rintro e w3 ⟨rfl, hnd⟩
    have hb3 : Below w2.heap.size w2 w3 := by
      obtain ⟨nd, rfl⟩ := hnd
      exact pw_below_drewN (Below.refl _ _) nd
    go_wp2_with fail
    have HS := Aside0.mk hb3
    refine hK.out _ _ hb3 (fun _ => ?_)
    clear hK K hnd hb3 HEq
    (try simp only [Act.put, List.getElem_toArray, List.getElem_cons_zero, List.getElem_cons_succ, List.setIfInBounds_toArray, List.set_cons_zero, List.set_cons_succ])
    refine wpAnyH_take (i := 5) (v := .bool true) rfl (by kernel_rfl) (by kernel_rfl) (by kernel_rfl) (fun _ _ _ h => absurd h.1 (by simp)) (Or.inl ⟨by rfl, fun W hW => by go_simp⟩) HS.out ?_
    (try simp only [Act.put, List.getElem_toArray, List.getElem_cons_zero, List.getElem_cons_succ, List.setIfInBounds_toArray, List.set_cons_zero, List.set_cons_succ])
    refine wpAnyH_take (i := 6) (v := .bool true) rfl (by kernel_rfl) (by kernel_rfl) (by kernel_rfl) (fun _ _ _ h => absurd h.1 (by simp)) (Or.inl ⟨by rfl, fun W hW => by go_simp⟩) HS.out ?_
    (try simp only [Act.put, List.getElem_toArray, List.getElem_cons_zero, List.getElem_cons_succ, List.setIfInBounds_toArray, List.set_cons_zero, List.set_cons_succ])
    refine wpAnyH_take (i := 7) (v := .int .i64 wd) rfl (by kernel_rfl) (by kernel_rfl) (by kernel_rfl) (fun _ _ _ h => absurd h.1 (by simp)) (Or.inl ⟨by rfl, fun W hW => by go_simp⟩) HS.out ?_
    (try simp only [Act.put, List.getElem_toArray, List.getElem_cons_zero, List.getElem_cons_succ, List.setIfInBounds_toArray, List.set_cons_zero, List.set_cons_succ])
    refine wpAnyH_take (i := 8) (v := .pointer (some ⟨w.heap.size, 0, none⟩)) rfl (by kernel_rfl) (by kernel_rfl) (by kernel_rfl) (fun _ _ _ h => absurd h.1 (by simp)) (Or.inl ⟨by rfl, fun W hW => by go_simp⟩) HS.out ?_
    (try simp only [Act.put, List.getElem_toArray, List.getElem_cons_zero, List.getElem_cons_succ, List.setIfInBounds_toArray, List.set_cons_zero, List.set_cons_succ])
    refine wpAnyH_take (i := 9) (v := .slice A n c) rfl (by kernel_rfl) (by kernel_rfl) (by kernel_rfl) (fun _ _ _ h => absurd h.1 (by simp)) (Or.inl ⟨by rfl, fun W hW => by have hcl := pw_cell_below (show Below _ _ W from hW) c0; go_simp⟩) HS.out ?_
    (try simp only [Act.put, List.getElem_toArray, List.getElem_cons_zero, List.getElem_cons_succ, List.setIfInBounds_toArray, List.set_cons_zero, List.set_cons_succ])
    refine wpAnyH_take (i := 12) (v := .int .i64 wd) rfl (by kernel_rfl) (by kernel_rfl) (by kernel_rfl) (fun _ _ _ h => absurd h.1 (by simp)) (Or.inl ⟨by rfl, fun W hW => by go_simp⟩) HS.out ?_
    (try simp only [Act.put, List.getElem_toArray, List.getElem_cons_zero, List.getElem_cons_succ, List.setIfInBounds_toArray, List.set_cons_zero, List.set_cons_succ])
    refine wpAnyH_take (i := 13) (v := .pointer (some ⟨w.heap.size, 1, none⟩)) rfl (by kernel_rfl) (by kernel_rfl) (by kernel_rfl) (fun _ _ _ h => absurd h.1 (by simp)) (Or.inl ⟨by rfl, fun W hW => by go_simp⟩) HS.out ?_
    (try simp only [Act.put, List.getElem_toArray, List.getElem_cons_zero, List.getElem_cons_succ, List.setIfInBounds_toArray, List.set_cons_zero, List.set_cons_succ])
    refine wpAnyH_take (i := 14) (v := .slice B m d) rfl (by kernel_rfl) (by kernel_rfl) (by kernel_rfl) (fun _ _ _ h => absurd h.1 (by simp)) (Or.inl ⟨by rfl, fun W hW => by have hcl := pw_cell_below (show Below _ _ W from hW) c1; go_simp⟩) HS.out ?_
    (try simp only [Act.put, List.getElem_toArray, List.getElem_cons_zero, List.getElem_cons_succ, List.setIfInBounds_toArray, List.set_cons_zero, List.set_cons_succ])
    clear c0 c1
    refine wpAnyH_ready (rs := [10, 15]) (by kernel_rfl) (by simp) ?_
    refine AllReadyH.cons rfl ?_ (AllReadyH.cons rfl ?_ AllReadyH.nil)
    · skip
      intro K hK
      refine step_of_wanted rfl ?_
      go_wp2_with fail
      have hbn := bl_new w3 (.cells #[(Value.slice A n c)] 22)
      have cx := (blk_cell (heap_new w3 (.cells #[(Value.slice A n c)] 22)) 0).trans (rfl : _ = some (Value.slice A n c))
      have HS := Aside0.mk (blB HS.out (Nat.le_refl _) hbn)
      refine hK.out _ _ HS.out (fun _ => ?_)
      clear hK K
      (try simp only [Act.put, List.getElem_toArray, List.getElem_cons_zero, List.getElem_cons_succ, List.setIfInBounds_toArray, List.set_cons_zero, List.set_cons_succ])
      generalize w3.alloc (.cells #[.slice A n c] 22) = w4 at *
      refine wpAnyH_ready (rs := [11, 15]) (by kernel_rfl) (by simp) ?_
      refine AllReadyH.cons rfl ?_ (AllReadyH.cons rfl ?_ AllReadyH.nil)
      · skip
        intro K hK
        refine step_of_wanted rfl ?_
        go_wp2_with fail
        refine (sumB wd xs A n c 1 _ w4 (HTF.out.below HS.out) (HTK.out.below HS.out) HBx.out hlx hnc hc9 (Kd.C_below HCx.out HS.out) cx).mono ?_
        rintro e w5 ⟨rfl, hbn⟩
        go_wp2_with fail
        have HS := Aside0.mk (blB HS.out (Nat.le_refl _) hbn)
        refine hK.out _ _ HS.out (fun _ => ?_)
        clear hK K
        (try simp only [Act.put, List.getElem_toArray, List.getElem_cons_zero, List.getElem_cons_succ, List.setIfInBounds_toArray, List.set_cons_zero, List.set_cons_succ])
        clear cx
        refine wpAnyH_ready (rs := [15]) (by kernel_rfl) (by simp) ?_
        refine AllReadyH.cons rfl ?_ AllReadyH.nil
        intro K hK
        refine step_of_wanted rfl ?_
        go_wp2_with fail
        have hbn := bl_new w5 (.cells #[(Value.slice B m d)] 22)
        have cy := (blk_cell (heap_new w5 (.cells #[(Value.slice B m d)] 22)) 0).trans (rfl : _ = some (Value.slice B m d))
        have HS := Aside0.mk (blB HS.out (Nat.le_refl _) hbn)
        refine hK.out _ _ HS.out (fun _ => ?_)
        clear hK K
        (try simp only [Act.put, List.getElem_toArray, List.getElem_cons_zero, List.getElem_cons_succ, List.setIfInBounds_toArray, List.set_cons_zero, List.set_cons_succ])
        generalize w5.alloc (.cells #[.slice B m d] 22) = w6 at *
        refine wpAnyH_ready (rs := [16]) (by kernel_rfl) (by simp) ?_
        refine AllReadyH.cons rfl ?_ AllReadyH.nil
        intro K hK
        refine step_of_wanted rfl ?_
        go_wp2_with fail
        refine (sumB wd ys B m d 1 _ w6 (HTF.out.below HS.out) (HTK.out.below HS.out) HBy.out hly hmd hd9 (Kd.C_below HCy.out HS.out) cy).mono ?_
        rintro e w7 ⟨rfl, hbn⟩
        go_wp2_with fail
        have HS := Aside0.mk (blB HS.out (Nat.le_refl _) hbn)
        refine hK.out _ _ HS.out (fun _ => ?_)
        clear hK K
        (try simp only [Act.put, List.getElem_toArray, List.getElem_cons_zero, List.getElem_cons_succ, List.setIfInBounds_toArray, List.set_cons_zero, List.set_cons_succ])
        refine wpAnyH_take (i := 17) (v := .bool (decide (sumH wd xs = sumH wd ys))) rfl (by kernel_rfl) (by kernel_rfl) (by kernel_rfl) (fun _ _ _ h => absurd h.1 (by simp)) (Or.inl ⟨by rfl, fun W hW => run_eql_hash _ (.tmp 16) (.tmp 21) _ rfl _ _ _ rfl rfl W⟩) HS.out ?_
        (try simp only [Act.put, List.getElem_toArray, List.getElem_cons_zero, List.getElem_cons_succ, List.setIfInBounds_toArray, List.set_cons_zero, List.set_cons_succ])
        refine wpAnyH_take (i := 18) (v := .bool (decide (sumH wd xs = sumH wd ys))) rfl (by kernel_rfl) (by kernel_rfl) (by kernel_rfl) (fun _ _ _ h => absurd h.1 (by simp)) (Or.inl ⟨by rfl, fun W hW => by go_simp⟩) HS.out ?_
        (try simp only [Act.put, List.getElem_toArray, List.getElem_cons_zero, List.getElem_cons_succ, List.setIfInBounds_toArray, List.set_cons_zero, List.set_cons_succ])
        refine wpAnyH_take (i := 19) (v := .bool (decide (sumH wd xs = sumH wd ys))) rfl (by kernel_rfl) (by kernel_rfl) (by kernel_rfl) (fun _ _ _ h => absurd h.1 (by simp)) (Or.inl ⟨by rfl, fun W hW => by go_simp⟩) HS.out ?_
        (try simp only [Act.put, List.getElem_toArray, List.getElem_cons_zero, List.getElem_cons_succ, List.setIfInBounds_toArray, List.set_cons_zero, List.set_cons_succ])
        refine wpAnyH_done (by kernel_rfl) ⟨rfl, hKQ _ _ ?_⟩ _
        go_wp2_with fail
        go_ret
        exact ⟨by rw [hres]; rfl, HB2.out.trans (HS.out.mono HB2.out.size)⟩
      · skip
        intro K hK
        refine step_of_wanted rfl ?_
        go_wp2_with fail
        have hbn := bl_new w4 (.cells #[(Value.slice B m d)] 22)
        have cy := (blk_cell (heap_new w4 (.cells #[(Value.slice B m d)] 22)) 0).trans (rfl : _ = some (Value.slice B m d))
        have HS := Aside0.mk (blB HS.out (Nat.le_refl _) hbn)
        refine hK.out _ _ HS.out (fun _ => ?_)
        clear hK K
        (try simp only [Act.put, List.getElem_toArray, List.getElem_cons_zero, List.getElem_cons_succ, List.setIfInBounds_toArray, List.set_cons_zero, List.set_cons_succ])
        have cx := pw_cell_below (bl_new w4 (.cells #[.slice B m d] 22)) cx
        generalize w4.alloc (.cells #[.slice B m d] 22) = w6 at *
        refine wpAnyH_ready (rs := [11]) (by kernel_rfl) (by simp) ?_
        refine AllReadyH.cons rfl ?_ AllReadyH.nil
        intro K hK
        refine step_of_wanted rfl ?_
        go_wp2_with fail
        refine (sumB wd xs A n c 1 _ w6 (HTF.out.below HS.out) (HTK.out.below HS.out) HBx.out hlx hnc hc9 (Kd.C_below HCx.out HS.out) cx).mono ?_
        rintro e w5 ⟨rfl, hbn⟩
        go_wp2_with fail
        have HS := Aside0.mk (blB HS.out (Nat.le_refl _) hbn)
        refine hK.out _ _ HS.out (fun _ => ?_)
        clear hK K
        (try simp only [Act.put, List.getElem_toArray, List.getElem_cons_zero, List.getElem_cons_succ, List.setIfInBounds_toArray, List.set_cons_zero, List.set_cons_succ])
        have cy := pw_cell_below hbn cy
        refine wpAnyH_ready (rs := [16]) (by kernel_rfl) (by simp) ?_
        refine AllReadyH.cons rfl ?_ AllReadyH.nil
        intro K hK
        refine step_of_wanted rfl ?_
        go_wp2_with fail
        refine (sumB wd ys B m d 1 _ w5 (HTF.out.below HS.out) (HTK.out.below HS.out) HBy.out hly hmd hd9 (Kd.C_below HCy.out HS.out) cy).mono ?_
        rintro e w7 ⟨rfl, hbn⟩
        go_wp2_with fail
        have HS := Aside0.mk (blB HS.out (Nat.le_refl _) hbn)
        refine hK.out _ _ HS.out (fun _ => ?_)
        clear hK K
        (try simp only [Act.put, List.getElem_toArray, List.getElem_cons_zero, List.getElem_cons_succ, List.setIfInBounds_toArray, List.set_cons_zero, List.set_cons_succ])
        refine wpAnyH_take (i := 17) (v := .bool (decide (sumH wd xs = sumH wd ys))) rfl (by kernel_rfl) (by kernel_rfl) (by kernel_rfl) (fun _ _ _ h => absurd h.1 (by simp)) (Or.inl ⟨by rfl, fun W hW => run_eql_hash _ (.tmp 16) (.tmp 21) _ rfl _ _ _ rfl rfl W⟩) HS.out ?_
        (try simp only [Act.put, List.getElem_toArray, List.getElem_cons_zero, List.getElem_cons_succ, List.setIfInBounds_toArray, List.set_cons_zero, List.set_cons_succ])
        refine wpAnyH_take (i := 18) (v := .bool (decide (sumH wd xs = sumH wd ys))) rfl (by kernel_rfl) (by kernel_rfl) (by kernel_rfl) (fun _ _ _ h => absurd h.1 (by simp)) (Or.inl ⟨by rfl, fun W hW => by go_simp⟩) HS.out ?_
        (try simp only [Act.put, List.getElem_toArray, List.getElem_cons_zero, List.getElem_cons_succ, List.setIfInBounds_toArray, List.set_cons_zero, List.set_cons_succ])
        refine wpAnyH_take (i := 19) (v := .bool (decide (sumH wd xs = sumH wd ys))) rfl (by kernel_rfl) (by kernel_rfl) (by kernel_rfl) (fun _ _ _ h => absurd h.1 (by simp)) (Or.inl ⟨by rfl, fun W hW => by go_simp⟩) HS.out ?_
        (try simp only [Act.put, List.getElem_toArray, List.getElem_cons_zero, List.getElem_cons_succ, List.setIfInBounds_toArray, List.set_cons_zero, List.set_cons_succ])
        refine wpAnyH_done (by kernel_rfl) ⟨rfl, hKQ _ _ ?_⟩ _
        go_wp2_with fail
        go_ret
        exact ⟨by rw [hres]; rfl, HB2.out.trans (HS.out.mono HB2.out.size)⟩
    · skip
      intro K hK
      refine step_of_wanted rfl ?_
      go_wp2_with fail
      have hbn := bl_new w3 (.cells #[(Value.slice B m d)] 22)
      have cy := (blk_cell (heap_new w3 (.cells #[(Value.slice B m d)] 22)) 0).trans (rfl : _ = some (Value.slice B m d))
      have HS := Aside0.mk (blB HS.out (Nat.le_refl _) hbn)
      refine hK.out _ _ HS.out (fun _ => ?_)
      clear hK K
      (try simp only [Act.put, List.getElem_toArray, List.getElem_cons_zero, List.getElem_cons_succ, List.setIfInBounds_toArray, List.set_cons_zero, List.set_cons_succ])
      generalize w3.alloc (.cells #[.slice B m d] 22) = w4 at *
      refine wpAnyH_ready (rs := [10]) (by kernel_rfl) (by simp) ?_
      refine AllReadyH.cons rfl ?_ AllReadyH.nil
      intro K hK
      refine step_of_wanted rfl ?_
      go_wp2_with fail
      have hbn := bl_new w4 (.cells #[(Value.slice A n c)] 22)
      have cx := (blk_cell (heap_new w4 (.cells #[(Value.slice A n c)] 22)) 0).trans (rfl : _ = some (Value.slice A n c))
      have HS := Aside0.mk (blB HS.out (Nat.le_refl _) hbn)
      refine hK.out _ _ HS.out (fun _ => ?_)
      clear hK K
      (try simp only [Act.put, List.getElem_toArray, List.getElem_cons_zero, List.getElem_cons_succ, List.setIfInBounds_toArray, List.set_cons_zero, List.set_cons_succ])
      have cy := pw_cell_below (bl_new w4 (.cells #[.slice A n c] 22)) cy
      generalize w4.alloc (.cells #[.slice A n c] 22) = w6 at *
      refine wpAnyH_ready (rs := [11]) (by kernel_rfl) (by simp) ?_
      refine AllReadyH.cons rfl ?_ AllReadyH.nil
      intro K hK
      refine step_of_wanted rfl ?_
      go_wp2_with fail
      refine (sumB wd xs A n c 1 _ w6 (HTF.out.below HS.out) (HTK.out.below HS.out) HBx.out hlx hnc hc9 (Kd.C_below HCx.out HS.out) cx).mono ?_
      rintro e w5 ⟨rfl, hbn⟩
      go_wp2_with fail
      have HS := Aside0.mk (blB HS.out (Nat.le_refl _) hbn)
      refine hK.out _ _ HS.out (fun _ => ?_)
      clear hK K
      (try simp only [Act.put, List.getElem_toArray, List.getElem_cons_zero, List.getElem_cons_succ, List.setIfInBounds_toArray, List.set_cons_zero, List.set_cons_succ])
      have cy := pw_cell_below hbn cy
      refine wpAnyH_ready (rs := [16]) (by kernel_rfl) (by simp) ?_
      refine AllReadyH.cons rfl ?_ AllReadyH.nil
      intro K hK
      refine step_of_wanted rfl ?_
      go_wp2_with fail
      refine (sumB wd ys B m d 1 _ w5 (HTF.out.below HS.out) (HTK.out.below HS.out) HBy.out hly hmd hd9 (Kd.C_below HCy.out HS.out) cy).mono ?_
      rintro e w7 ⟨rfl, hbn⟩
      go_wp2_with fail
      have HS := Aside0.mk (blB HS.out (Nat.le_refl _) hbn)
      refine hK.out _ _ HS.out (fun _ => ?_)
      clear hK K
      (try simp only [Act.put, List.getElem_toArray, List.getElem_cons_zero, List.getElem_cons_succ, List.setIfInBounds_toArray, List.set_cons_zero, List.set_cons_succ])
      refine wpAnyH_take (i := 17) (v := .bool (decide (sumH wd xs = sumH wd ys))) rfl (by kernel_rfl) (by kernel_rfl) (by kernel_rfl) (fun _ _ _ h => absurd h.1 (by simp)) (Or.inl ⟨by rfl, fun W hW => run_eql_hash _ (.tmp 16) (.tmp 21) _ rfl _ _ _ rfl rfl W⟩) HS.out ?_
      (try simp only [Act.put, List.getElem_toArray, List.getElem_cons_zero, List.getElem_cons_succ, List.setIfInBounds_toArray, List.set_cons_zero, List.set_cons_succ])
      refine wpAnyH_take (i := 18) (v := .bool (decide (sumH wd xs = sumH wd ys))) rfl (by kernel_rfl) (by kernel_rfl) (by kernel_rfl) (fun _ _ _ h => absurd h.1 (by simp)) (Or.inl ⟨by rfl, fun W hW => by go_simp⟩) HS.out ?_
      (try simp only [Act.put, List.getElem_toArray, List.getElem_cons_zero, List.getElem_cons_succ, List.setIfInBounds_toArray, List.set_cons_zero, List.set_cons_succ])
      refine wpAnyH_take (i := 19) (v := .bool (decide (sumH wd xs = sumH wd ys))) rfl (by kernel_rfl) (by kernel_rfl) (by kernel_rfl) (fun _ _ _ h => absurd h.1 (by simp)) (Or.inl ⟨by rfl, fun W hW => by go_simp⟩) HS.out ?_
      (try simp only [Act.put, List.getElem_toArray, List.getElem_cons_zero, List.getElem_cons_succ, List.setIfInBounds_toArray, List.set_cons_zero, List.set_cons_succ])
      refine wpAnyH_done (by kernel_rfl) ⟨rfl, hKQ _ _ ?_⟩ _
      go_wp2_with fail
      go_ret
      exact ⟨by rw [hres]; rfl, HB2.out.trans (HS.out.mono HB2.out.size)⟩
end Go.Proofs.YtefnonlhepekdaaDoor.M

set_option linter.unusedVariables false
set_option linter.unusedSimpArgs false
namespace Go.Proofs.YtefnonlhepekdaaDoor.M
open Go.RowKit Go.Proofs.YtefnonlhepekdaaDoorW.PrintWords Go.Proofs.YtefnonlhepekdaaDoorW.PrintLast Go.Proofs.YtefnonlhepekdaaDoorW.PrintMore Go.Proofs.YtefnonlhepekdaaDoor.Leaf

set_option maxHeartbeats 1000000 in
set_option maxRecDepth 100000 in
/-- The same bytes in a list of their own that goes on behind them. -/
theorem text9_calls (l : List Int) (A : Option Addr) (c : Nat) (w : World) (hl : l.length ≤ 1000000) (hC : Kd.C (Kd.int .u8) w A l.length l) :
    Calls Tryd.prog 11 #[.slice A l.length c] w fun e w' => ∃ A' c', e = .returned (.slice A' l.length c') ∧ Kd.R (Kd.int .u8) 5 w' w.heap.size (fun _ => True) (.slice A' (l.length + 1) c') (l ++ [171]) ∧ Below w.heap.size w w' := by
  have HC := Aside0.mk hC
  clear hC
  go_enter Tryd.func11, Tryd.ntmps11
  have HE := Aside0.mk (R_emptyK (Kd.int .u8) (e := 5) (base := w.heap.size) rfl (heap_new w (.cells #[] 5)) (Nat.le_refl _))
  go_wp2_with (first | ((with_reducible refine gate_builtin (b := .append) (xs := #[.tmp 3, .tmp 4]) rfl ?_); at_builtin; go_loud (refine app_row .u8 w.heap.size rfl (.tmp 3) (.tmp 4) 22 5 (.int .u8 0) 1 rfl Tryd.underlying22 info5 rfl (by omega) (.slice (some ⟨w.heap.size, 0, none⟩) 0 0) [] l A l.length c rfl rfl HE.out (Kd.C_below HC.out (bl_new w _)) (by simp) (by simp; omega) ?_; intro A2 c2 w2 hr2 hf2 hat2; simp only [List.length_nil, Nat.zero_add, List.nil_append] at hr2 ⊢; have HR2 := Aside0.mk hr2; have hb2 := Aside0.mk ((bl_new w _).trans (hf2.below (by simp) (fun k hk => Kd.R_base HE.out k hk.symm))); clear hr2 hf2 hat2)) | ((with_reducible refine gate_builtin (b := .append) (xs := #[.tmp 5, .tmp 6]) rfl ?_); at_builtin; go_loud (refine app_one (Kd.int .u8) w.heap.size rfl (.tmp 5) (.tmp 6) 22 5 (.int .u8 0) 1 rfl Tryd.underlying22 info5 rfl (by decide) (by omega) _ l 171 [.int .u8 171] rfl rfl rfl HR2.out hb2.out.size (by omega) ?_; intro A3 c3 w3 hr3 hf3 hat3; have hle := (Kd.R_reads' hr3).2.1; have hle2 : l.length ≤ c3 := Nat.le_trans (Nat.le_succ _) hle; have HR3 := Aside0.mk hr3; have hb3 := Aside0.mk (hb2.out.trans (hf3.below hb2.out.size (fun k hk => Kd.R_base HR2.out k hk.symm))); clear hr3 hf3 hat3)))
  go_ret
  exact ⟨A3, c3, rfl, HR3.out, hb3.out⟩
set_option maxHeartbeats 4000000 in
set_option maxRecDepth 100000 in
theorem still_calls9 (bs : List Int) (A B : Option Addr) (c d : Nat) (w : World) (hl : bs.length ≤ 1000000) (hc : bs.length + 1 ≤ c) (hc2 : c ≤ 9223372036854775807) (hd : bs.length ≤ d) (hA : Kd.C (Kd.int .u8) w A (bs.length + 1) (bs ++ [171])) (hB : Kd.C (Kd.int .u8) w B bs.length bs) :
    Calls Tryd.prog 14 #[.slice A bs.length c, .slice B bs.length d] w fun e w' => e = .returned (.bool true) ∧ Below w.heap.size w w' := by
  have hA1 : Kd.C (Kd.int .u8) w A bs.length bs := by
    have h2 := Kd.C_take (m := bs.length) (xs := bs ++ [171]) (by simpa using hA) (by simp)
    rw [List.take_left] at h2
    exact h2
  obtain ⟨ad, ea, hx⟩ := Kd.at_int hA (bs.length : Int) (by omega) (by omega)
  rw [Int.toNat_natCast, show rd (bs ++ [171]) (bs.length : Int) = 171 by simp [rd]] at hx
  subst ea
  have HA := Aside0.mk hA1
  have HB := Aside0.mk hB
  clear hA hA1 hB
  go_enter Tryd.func14, Tryd.ntmps14
  go_wp2_with fail
  refine (sameB_true (xs := bs) (w := w) ⟨_, _, rfl, by omega, HA.out⟩ ⟨_, _, rfl, hd, HB.out⟩ (by omega)).mono ?_
  rintro e w1 ⟨rfl, ⟨nd, rfl⟩⟩
  go_wp2_with fail
  go_ret
  exact ⟨rfl, pw_below_drewN (Below.refl _ _) _⟩
end Go.Proofs.YtefnonlhepekdaaDoor.M

set_option linter.unusedVariables false
set_option linter.unusedSimpArgs false
namespace Go.Proofs.YtefnonlhepekdaaDoor.M
open Go.RowKit Go.Proofs.YtefnonlhepekdaaDoorW.PrintWords Go.Proofs.YtefnonlhepekdaaDoorW.PrintLast Go.Proofs.YtefnonlhepekdaaDoorW.PrintMore Go.Proofs.YtefnonlhepekdaaDoor.Leaf

/-- The clash that is found by trial. -/
theorem coll : sumH 1 [118, 4, 1] = sumH 1 [0] := by decide +kernel
def ysOf (k : Nat) : List Int := [((k % 256 : Nat) : Int), ((k / 256 % 256 : Nat) : Int), 1]
theorem ysOf_bytes (k : Nat) : Bytes (ysOf k) := by
  intro b hb
  simp [ysOf] at hb
  omega
theorem zero_bytes : Bytes [0] := by
  intro b hb
  simp at hb
  omega
theorem row_one (w : World) (x : Int) {g : Nat} (hg : g = w.heap.size) : (Kd.int .u8).C (w.alloc (.cells #[.int .u8 x] 5)) (some ⟨g, 0, none⟩) 1 [x] := by
  have h := blk_newL w [.int .u8 x] 5 hg
  exact Blk.bytes (l := [x]) h (by simp)
theorem row_three (w : World) (x y z : Int) {g : Nat} (hg : g = w.heap.size) : (Kd.int .u8).C (w.alloc (.cells #[.int .u8 x, .int .u8 y, .int .u8 z] 5)) (some ⟨g, 0, none⟩) 3 [x, y, z] := by
  have h := blk_newL w [.int .u8 x, .int .u8 y, .int .u8 z] 5 hg
  exact Blk.bytes (l := [x, y, z]) h (by simp)
set_option maxHeartbeats 40000000 in
set_option maxRecDepth 100000 in
theorem awake9_calls (w : World) (hF : HF w) (hK : HK w) :
    Calls Tryd.prog 15 #[] w fun e w' => e = .returned (.bool true) ∧ Below w.heap.size w w' := by
  have hb1 := bl_new w (.cells #[.int .u8 0] 5)
  have hb2 := bl_new (w.alloc (.cells #[.int .u8 0] 5)) (.cells #[.int .u8 0] 5)
  have hb := blt hb1 hb2
  have HCa := Aside0.mk (Kd.C_below (row_one w 0 rfl) hb2)
  have HCb := Aside0.mk (row_one (w.alloc (.cells #[.int .u8 0] 5)) 0 (g := w.heap.size + 1) (by simp))
  have HTF := Aside0.mk (hF.below hb)
  have HTK := Aside0.mk (hK.below hb)
  have HB := Aside0.mk hb
  clear hb1 hb2 hb hF hK
  go_enter Tryd.func15, Tryd.ntmps15
  go_wp2_with fail
  generalize (w.alloc (.cells #[.int .u8 0] 5)).alloc (.cells #[.int .u8 0] 5) = w2 at *
  refine (holds_calls 1 [0] [0] _ _ 1 1 1 1 w2 HTF.out HTK.out zero_bytes zero_bytes (by simp) (by simp) (Nat.le_refl _) (Nat.le_refl _) (by omega) (by omega) HCa.out HCb.out).mono ?_
  rintro e w3 ⟨rfl, hb3⟩
  have hfa : decide ([(0 : Int)] ≠ [0] ∧ sumH 1 [0] = sumH 1 [0]) = false := decide_eq_false (fun h => h.1 rfl)
  rw [hfa]
  replace HCa := Aside0.mk (Kd.C_below HCa.out hb3)
  replace HTF := Aside0.mk (HTF.out.below hb3)
  replace HTK := Aside0.mk (HTK.out.below hb3)
  replace HB := Aside0.mk (blt HB.out hb3)
  clear hb3 HCb hfa
  go_wp2_with fail
  have hbr := Below.refl w3.heap.size w3
  have HBr := Aside0.mk hbr
  clear hbr
  go_loopw [3] (fun s wr => ∃ k : Nat, 1 ≤ k ∧ k ≤ 1142 ∧ s = .int .i64 (k : Int) ∧ Aside0 (Below w3.heap.size w3 wr)) (fun s _ => 1142 - (intOf s).toNat)
  case atStart => exact ⟨1, by omega, by omega, rfl, HBr⟩
  case round =>
    obtain ⟨k, hk1, hk2, rfl, HR⟩ := hrel
    clear HBr
    rename World => w4
    have hlt : (k : Int) < 100000 := by omega
    have hlt2 : decide ((k : Int) < 100000) = true := decide_eq_true hlt
    have f1 : IntKind.u8.wrap (k : Int) = ((k % 256 : Nat) : Int) := by rw [IntKind.wrap_u8]; omega
    have f2 : (k : Int) / 256 = ((k / 256 : Nat) : Int) := by omega
    have f3 : IntKind.u8.wrap ((k / 256 : Nat) : Int) = ((k / 256 % 256 : Nat) : Int) := by rw [IntKind.wrap_u8]; omega
    have hys : ysOf k = [((k % 256 : Nat) : Int), ((k / 256 % 256 : Nat) : Int), 1] := rfl
    have hyb := ysOf_bytes k
    have hcol : k = 1142 → sumH 1 (ysOf k) = sumH 1 [0] := fun h => by subst h; exact coll
    have hyl : (ysOf k).length = 3 := rfl
    have hne : ([0] : List Int) ≠ ysOf k := fun h => by have := congrArg List.length h; simp [ysOf] at this
    obtain ⟨ys, hy0⟩ : ∃ ys, ys = ysOf k := ⟨_, rfl⟩
    rw [← hy0] at hys hyb hcol hyl hne
    generalize k % 256 = y0 at *
    generalize k / 256 = q at *
    generalize q % 256 = y1 at *
    have hCy0 := row_three w4 (y0 : Int) (y1 : Int) 1 (g := w4.heap.size) rfl
    rw [← hys] at hCy0
    have hb5 := bl_new w4 (.cells #[.int .u8 y0, .int .u8 y1, .int .u8 1] 5)
    have HCy := Aside0.mk hCy0
    have HB5 := Aside0.mk (blt HR.out hb5)
    have hb6 := bl_new (w4.alloc (.cells #[.int .u8 y0, .int .u8 y1, .int .u8 1] 5)) (.cells #[.slice (some ⟨w4.heap.size, 0, none⟩) 3 3] 22)
    have hx6 := (blk_cell (heap_new (w4.alloc (.cells #[.int .u8 y0, .int .u8 y1, .int .u8 1] 5)) (.cells #[.slice (some ⟨w4.heap.size, 0, none⟩) 3 3] 22)) 0).trans (rfl : _ = some (Value.slice (some ⟨w4.heap.size, 0, none⟩) 3 3))
    rw [show (w4.alloc (.cells #[.int .u8 y0, .int .u8 y1, .int .u8 1] 5)).heap.size = w4.heap.size + 1 by simp] at hx6
    have HYs := Aside0.mk hys
    have HYb := Aside0.mk hyb
    have HCo := Aside0.mk hcol
    have HNe := Aside0.mk hne
    have HX6 := Aside0.mk hx6
    have HB6 := Aside0.mk (blt HB5.out hb6)
    replace HCy := Aside0.mk (Kd.C_below HCy.out hb6)
    have hyl9 : ys.length ≤ 900000000 := by omega
    clear hys hyb hcol hne hy0 hCy0 hb5 hb6 hx6 hyl HB5
    go_wp2_with fail
    generalize (w4.alloc (.cells #[.int .u8 y0, .int .u8 y1, .int .u8 1] 5)).alloc (.cells #[.slice (some ⟨w4.heap.size, 0, none⟩) 3 3] 22) = w6 at *
    have HS6 := Aside0.mk (sumA 1 ys (some ⟨w4.heap.size, 0, none⟩) 3 3 1 ⟨w4.heap.size + 1, 0, none⟩ w6 (HTF.out.below HB6.out) (HTK.out.below HB6.out) HYb.out hyl9 (Nat.le_refl _) (by decide) HCy.out HX6.out)
    refine HS6.out.mono ?_
    clear hlt hlt2
    rintro e w7 ⟨rfl, hb7⟩
    have HB7 := Aside0.mk (blt HB6.out hb7)
    replace HCy := Aside0.mk (Kd.C_below HCy.out hb7)
    have hb8 := bl_new w7 (.cells #[.slice (some ⟨w.heap.size, 0, none⟩) 1 1] 22)
    have hx8 := (blk_cell (heap_new w7 (.cells #[.slice (some ⟨w.heap.size, 0, none⟩) 1 1] 22)) 0).trans (rfl : _ = some (Value.slice (some ⟨w.heap.size, 0, none⟩) 1 1))
    have HX8 := Aside0.mk hx8
    have HB8 := Aside0.mk (blt HB7.out hb8)
    replace HCy := Aside0.mk (Kd.C_below HCy.out hb8)
    clear hb7 hb8 hx8 HX6 HB7 HB6
    go_wp2_with fail
    generalize w7.alloc (.cells #[.slice (some ⟨w.heap.size, 0, none⟩) 1 1] 22) = w8 at *
    have HS8 := Aside0.mk (sumA 1 [0] (some ⟨w.heap.size, 0, none⟩) 1 1 1 ⟨w7.heap.size, 0, none⟩ w8 (HTF.out.below HB8.out) (HTK.out.below HB8.out) zero_bytes (by decide) (Nat.le_refl _) (by decide) (Kd.C_below HCa.out HB8.out) HX8.out)
    refine HS8.out.mono ?_
    rintro e w9 ⟨rfl, hb9⟩
    have HB9 := Aside0.mk (blt HB8.out hb9)
    replace HCy := Aside0.mk (Kd.C_below HCy.out hb9)
    clear hb9 HX8 HB8
    obtain ⟨s1, hs1⟩ : ∃ s, s = sumH 1 ys := ⟨_, rfl⟩
    obtain ⟨s2, hs2⟩ : ∃ s, s = sumH 1 [0] := ⟨_, rfl⟩
    have HE1 := Aside0.mk hs1
    have HE2 := Aside0.mk hs2
    rw [← hs1, ← hs2]
    clear hs1 hs2
    by_cases heq : s1 = s2
    · have hde := Aside0.mk (decide_eq_true heq)
      have HEq := Aside0.mk heq
      clear heq
      go_wp2_with ((with_reducible refine gate_dst (N := 26) rfl ?_); go_loud (refine eql_hash rfl (.tmp 22) (.tmp 25) _ rfl s1 s2 rfl rfl true hde.out ?_))
      have HS9 := Aside0.mk (holds_calls 1 [0] ys (some ⟨w.heap.size, 0, none⟩) (some ⟨w4.heap.size, 0, none⟩) 1 3 1 3 w9 (HTF.out.below HB9.out) (HTK.out.below HB9.out) zero_bytes HYb.out (by decide) hyl9 (Nat.le_refl _) (Nat.le_refl _) (by decide) (by decide) (Kd.C_below HCa.out HB9.out) HCy.out)
      refine HS9.out.mono ?_
      rintro e w10 ⟨rfl, hb10⟩
      have htr : decide ([(0 : Int)] ≠ ys ∧ sumH 1 [0] = sumH 1 ys) = true := decide_eq_true ⟨HNe.out, by rw [← HE1.out, ← HE2.out, HEq.out]⟩
      rw [htr]
      have HB10 := Aside0.mk (blt HB.out (blt HB9.out hb10))
      clear hb10 htr
      go_wp2_with fail
      go_ret
      exact ⟨rfl, HB10.out⟩
    · have hde := Aside0.mk (decide_eq_false heq)
      have hk3 := Aside0.mk (show k ≠ 1142 from fun h => heq (by rw [HE1.out, HE2.out]; exact HCo.out h))
      clear heq
      go_wp2_with ((with_reducible refine gate_dst (N := 26) rfl ?_); go_loud (refine eql_hash rfl (.tmp 22) (.tmp 25) _ rfl s1 s2 rfl rfl false hde.out ?_))
      go_roundw
      case rel => exact ⟨k + 1, by omega, by have := hk3.out; omega, by go_num, HB9⟩
      case measure =>
        have := hk3.out
        simp [intOf]
        omega
end Go.Proofs.YtefnonlhepekdaaDoor.M

set_option linter.unusedVariables false
set_option linter.unusedSimpArgs false
namespace Go.Proofs.YtefnonlhepekdaaDoor.M
open Go.RowKit Go.Proofs.YtefnonlhepekdaaDoorW.PrintWords Go.Proofs.YtefnonlhepekdaaDoorW.PrintLast Go.Proofs.YtefnonlhepekdaaDoorW.PrintMore Go.Proofs.YtefnonlhepekdaaDoor.Leaf

theorem C_first {w : World} {A : Option Addr} {xs : List Int} {x : Int} (h : Kd.C (Kd.int .u8) w A (xs.length + 1) (xs ++ [x])) : Kd.C (Kd.int .u8) w A xs.length xs := by
  have h2 := Kd.C_take (m := xs.length) (xs := xs ++ [x]) (by simpa using h) (by simp)
  rw [List.take_left] at h2
  exact h2
set_option maxHeartbeats 40000000 in
set_option maxRecDepth 100000 in
theorem clash_holds_law (wd : Int) (xs ys : List Int) (A B : Option Addr) (c d : Nat) (w : World) (hF : HF w) (hK : HK w) (hbx : Bytes xs) (hby : Bytes ys) (hc : xs.length ≤ c) (hd : ys.length ≤ d) (hc9 : c ≤ 9223372036854775807) (hd9 : d ≤ 9223372036854775807) (hA : Kd.C (Kd.int .u8) w A xs.length xs) (hB : Kd.C (Kd.int .u8) w B ys.length ys) :
    Calls Tryd.prog 3 #[.int .i64 wd, .slice A xs.length c, .slice B ys.length d] w fun e w' => e = .returned (.bool true) ∧ Below w.heap.size w w' := by
  by_cases h1 : 3000 < xs.length
  · have g1 : (3000 : Int) < (xs.length : Int) := by omega
    clear hF hK hA hB hbx hby
    go_enter Tryd.func3, Tryd.ntmps3
    go_wp2_with fail
    go_ret
    exact ⟨rfl, Below.refl _ _⟩
  · by_cases h2 : 3000 < ys.length
    · have g1 : ¬ ((3000 : Int) < (xs.length : Int)) := by omega
      have g2 : (3000 : Int) < (ys.length : Int) := by omega
      clear hF hK hA hB hbx hby
      go_enter Tryd.func3, Tryd.ntmps3
      go_wp2_with fail
      go_ret
      exact ⟨rfl, Below.refl _ _⟩
    · have g1 : ¬ ((3000 : Int) < (xs.length : Int)) := by omega
      have g2 : ¬ ((3000 : Int) < (ys.length : Int)) := by omega
      have HA := Aside0.mk hA
      have HB := Aside0.mk hB
      have HBx := Aside0.mk hbx
      have HBy := Aside0.mk hby
      have HTF := Aside0.mk hF
      have HTK := Aside0.mk hK
      have hxm : xs.length ≤ 1000000 := by omega
      have hym : ys.length ≤ 1000000 := by omega
      have hx9 : xs.length ≤ 900000000 := by omega
      have hy9 : ys.length ≤ 900000000 := by omega
      clear hF hK hA hB hbx hby
      go_enter Tryd.func3, Tryd.ntmps3
      go_wp2_with fail
      have H1 := Aside0.mk (text9_calls xs A c w hxm HA.out)
      refine H1.out.mono ?_
      rintro e w1 ⟨A1, c1, rfl, hr1, hb1⟩
      have HR1 := Aside0.mk hr1
      have HB1 := Aside0.mk hb1
      clear hr1 hb1 H1
      go_wp2_with fail
      have H2 := Aside0.mk (text9_calls ys B d w1 hym (Kd.C_below HB.out HB1.out))
      refine H2.out.mono ?_
      rintro e w2 ⟨A2, c2, rfl, hr2, hb2⟩
      have HR2 := Aside0.mk hr2
      replace HR1 := Aside0.mk (Kd.R_below HR1.out hb2)
      have HB2 := Aside0.mk (blt HB1.out hb2)
      obtain ⟨_, hk1, hk2⟩ := R_capk HR1.out
      obtain ⟨_, hk3, hk4⟩ := R_capk HR2.out
      have hl1 : xs.length ≤ c1 := by omega
      have hl2 : ys.length ≤ c2 := by omega
      clear hr2 hb2 H2 HB1
      go_wp2_with fail
      have H3 := Aside0.mk (holds_calls wd xs ys A1 A2 xs.length ys.length c1 c2 w2 (HTF.out.below HB2.out) (HTK.out.below HB2.out) HBx.out HBy.out hx9 hy9 hl1 hl2 hk2 hk4 (C_first (R_C HR1.out)) (C_first (R_C HR2.out)))
      refine H3.out.mono ?_
      rintro e w3 ⟨rfl, hb3⟩
      replace HR1 := Aside0.mk (Kd.R_below HR1.out hb3)
      replace HR2 := Aside0.mk (Kd.R_below HR2.out hb3)
      have HB3 := Aside0.mk (blt HB2.out hb3)
      clear hb3 H3 HB2
      generalize hbo : decide (xs ≠ ys ∧ sumH wd xs = sumH wd ys) = bo at *
      have HBo := Aside0.mk hbo
      clear hbo
      go_wp2_with fail
      have H4 := Aside0.mk (holds9_calls wd xs ys A B xs.length ys.length c d w3 (HTF.out.below HB3.out) (HTK.out.below HB3.out) HBx.out HBy.out hx9 hy9 hc hd hc9 hd9 (Kd.C_below HA.out HB3.out) (Kd.C_below HB.out HB3.out))
      rw [HBo.out] at H4
      refine H4.out.mono ?_
      rintro e w4 ⟨rfl, hb4⟩
      replace HR1 := Aside0.mk (Kd.R_below HR1.out hb4)
      replace HR2 := Aside0.mk (Kd.R_below HR2.out hb4)
      have HB4 := Aside0.mk (blt HB3.out hb4)
      clear hb4 H4 HB3 HBo
      go_wp2_with fail
      have H5 := Aside0.mk (still_calls9 xs A1 A c1 c w4 hxm (by omega) hk2 hc (R_C HR1.out) (Kd.C_below HA.out HB4.out))
      refine H5.out.mono ?_
      rintro e w5 ⟨rfl, hb5⟩
      replace HR2 := Aside0.mk (Kd.R_below HR2.out hb5)
      have HB5 := Aside0.mk (blt HB4.out hb5)
      clear hb5 H5 HB4
      go_wp2_with fail
      have H6 := Aside0.mk (still_calls9 ys A2 B c2 d w5 hym (by omega) hk4 hd (R_C HR2.out) (Kd.C_below HB.out HB5.out))
      refine H6.out.mono ?_
      rintro e w6 ⟨rfl, hb6⟩
      have HB6 := Aside0.mk (blt HB5.out hb6)
      clear hb6 H6 HB5
      go_wp2_with fail
      refine (awake9_calls w6 (HTF.out.below HB6.out) (HTK.out.below HB6.out)).mono ?_
      rintro e w7 ⟨rfl, hb7⟩
      have HB7 := Aside0.mk (blt HB6.out hb7)
      clear hb7
      go_wp2_with fail
      go_ret
      exact ⟨rfl, HB7.out⟩
end Go.Proofs.YtefnonlhepekdaaDoor.M
