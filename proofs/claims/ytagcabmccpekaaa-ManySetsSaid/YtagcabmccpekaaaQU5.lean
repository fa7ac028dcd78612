/- massiflaw10.numbers; pos.Parent of a node that has a parent. What massiflaw10.ManySets asks, as plain facts; the law's walk. -/
import Derived.Test.YtagcabmccpekaaaQU4
set_option linter.unusedVariables false
set_option linter.unusedSimpArgs false
namespace Go.Proofs.Ytagcabmccpekaaa.M
open Go.RowKit Go.Proofs.YtagcabmccpekaaaW.PrintWords Go.Proofs.YtagcabmccpekaaaW.PrintLast Go.Proofs.YtagcabmccpekaaaW.PrintMore Go.Proofs.Ytagcabmccpekaaa.Leaf

theorem R_empty {e : Nat} {w : World} {g : Nat} {t : Nat} (ht : t = e) (hg : w.heap[g]? = some (.cells #[] t (0, 0))) {base : Nat} (hb : base ≤ g) : Kd.R (Kd.int .u64) e w base (fun _ => True) (.slice (some ⟨g, 0, none⟩) 0 0) [] := by
  subst ht
  exact ⟨fun _ _ => trivial, [], ⟨by simp, .inr ⟨g, 0, #[], rfl, hb, hg, Nat.le_refl _, Nat.zero_le _, by simp, by simp⟩⟩, Reps.none _ _⟩
theorem sizeS : (Try.prog.info? 39).map (·.size) = some 2 := by kernel_rfl
set_option maxHeartbeats 1000000 in
set_option maxRecDepth 100000 in
theorem parent_clo (h i : Nat) (w : World) (hh : h ≤ 62) (hi : i < 18446744073709551616) : Calls Try.prog 71 #[.agg #[.int .u8 h, .int .u64 i]] w fun e w' => e = .returned (.agg #[.int .u8 ((h + 1 : Nat) : Int), .int .u64 ((i / 2 : Nat) : Int)]) ∧ Below w.heap.size w w' := by
  have e1 : IntKind.u8.wrap ((h : Int) + 1) = ((h + 1 : Nat) : Int) := by rw [IntKind.wrap_u8]; omega
  have e2 : shr .u64 (i : Int) 1 = ((i / 2 : Nat) : Int) := by have := shr_nat i 1 (by omega); simpa using this
  go_enter Try.func71, Try.ntmps71
  go_wp2_with fail
  (try simp only [Exit.inBlock, Exit.then])
  refine bodyPost_ret (results_cell_row rfl _ _ (w.heap.size + 1) 39 #[.int .u8 ((h + 1 : Nat) : Int), .int .u64 ((i / 2 : Nat) : Int)] (0, 0) _ rfl (heap_new2 _ _ (by simp)) Try.underlying39 rfl (by rw [sizeS]; rfl)) rfl ?_
  exact ⟨rfl, below_alloc (bl_new w _) _⟩
set_option maxHeartbeats 1000000 in
set_option maxRecDepth 100000 in
theorem parent_kin (h i : Nat) (w : World) (hh : h < 62) (hf : (i / 2 + 1) * 2 ^ (h + 1) ≤ 4611686018427387904) (hfi : (i + 1) * 2 ^ h ≤ 4611686018427387904) :
    Calls Try.prog 70 #[.int .u64 (placeN h i), .func (.func 71) #[] #[]] w fun e w' => e = .returned (.tuple #[.int .u64 (placeN (h + 1) (i / 2)), .bool true]) ∧ Below w.heap.size w w' := by
  obtain ⟨ks, hks⟩ := (spot_val h i hfi).rounds
  have hpl := place_val (h + 1) (i / 2) hf
  have hi1 : i + 1 ≤ 4611686018427387904 := Nat.le_trans (Nat.le_mul_of_pos_right _ (p2_pos h)) hfi
  have hne : ((h : Int) == 62) = false := by rw [beq_eq_false_iff_ne]; omega
  have HKs := Aside0.mk hks
  have HPl := Aside0.mk hpl
  have HC := Aside0.mk (parent_clo h i)
  generalize placeN h i = pl at *
  generalize placeN (h + 1) (i / 2) = pu at *
  clear hks hpl hf hfi
  go_enter Try.func70, Try.ntmps70
  go_wp2_with fail
  refine (pos_Spot.calls ks pl _ _ _ _ HKs.out).mono ?_
  rintro e w1 ⟨rfl, hb1⟩
  have HB1 := Aside0.mk hb1
  clear hb1
  go_wp2_with (first | (go_at_call 71; go_loud (refine (HC.out _ (by omega) (by omega)).mono ?_; rintro e w2 ⟨rfl, hb2⟩; have HB2 := Aside0.mk (blt (below_alloc HB1.out _) hb2); clear hb2)) | (go_at_call 46; go_loud (refine (pos_Place.calls _ _ _ _ _ HPl.out).mono ?_; rintro e w3 ⟨rfl, hd3⟩; have HB3 := Aside0.mk (blt HB2.out hd3); clear hd3)))
  go_ret2
  exact ⟨rfl, HB3.out⟩
theorem parent_calls (h i : Nat) (w : World) (hh : h < 62) (hf : (i / 2 + 1) * 2 ^ (h + 1) ≤ 4611686018427387904) (hfi : (i + 1) * 2 ^ h ≤ 4611686018427387904) :
    Calls Try.prog 40 #[.int .u64 (placeN h i)] w fun e w' => e = .returned (.tuple #[.int .u64 (placeN (h + 1) (i / 2)), .bool true]) ∧ Below w.heap.size w w' := by
  have HK := Aside0.mk (parent_kin h i w hh hf hfi)
  generalize placeN h i = pl at *
  generalize placeN (h + 1) (i / 2) = pu at *
  clear hf hfi
  go_enter Try.func40, Try.ntmps40
  go_wp2_with fail
  refine HK.out.mono ?_
  rintro e w1 ⟨rfl, hb1⟩
  have HB1 := Aside0.mk hb1
  clear hb1
  go_wp2_with fail
  go_ret2
  exact ⟨rfl, HB1.out⟩
set_option maxHeartbeats 1000000 in
set_option maxRecDepth 100000 in
/-- The same numbers in a list of their own that goes on behind them. -/
theorem numbers_calls (l : List Int) (A : Option Addr) (c : Nat) (w : World) (hl : l.length ≤ 1000000) (hC : Kd.C (Kd.int .u64) w A l.length l) :
    Calls Try.prog 34 #[.slice A l.length c] w fun e w' => ∃ A' c', e = .returned (.slice A' l.length c') ∧ Kd.R (Kd.int .u64) 22 w' w.heap.size (fun _ => True) (.slice A' (l.length + 1) c') (l ++ [171]) ∧ Below w.heap.size w w' := by
  have HC := Aside0.mk hC
  clear hC
  go_enter Try.func34, Try.ntmps34
  have HE := Aside0.mk (R_empty (e := 22) (base := w.heap.size) rfl (heap_new w (.cells #[] 22)) (Nat.le_refl _))
  go_wp2_with (first | ((with_reducible refine gate_builtin (b := .append) (xs := #[.tmp 3, .tmp 4]) rfl ?_); at_builtin; go_loud (refine app_row .u64 w.heap.size rfl (.tmp 3) (.tmp 4) 23 22 (.int .u64 0) 8 rfl Try.underlying23 info22 rfl (by omega) (.slice (some ⟨w.heap.size, 0, none⟩) 0 0) [] l A l.length c rfl rfl HE.out (Kd.C_below HC.out (bl_new w _)) (by simp) (by simp; omega) ?_; intro A2 c2 w2 hr2 hf2 hat2; simp only [List.length_nil, Nat.zero_add, List.nil_append] at hr2 ⊢; have HR2 := Aside0.mk hr2; have hb2 := Aside0.mk ((bl_new w _).trans (hf2.below (by simp) (fun k hk => Kd.R_base HE.out k hk.symm))); clear hr2 hf2 hat2)) | ((with_reducible refine gate_builtin (b := .append) (xs := #[.tmp 5, .tmp 6]) rfl ?_); at_builtin; go_loud (refine app_one (Kd.int .u64) w.heap.size rfl (.tmp 5) (.tmp 6) 23 22 (.int .u64 0) 8 rfl Try.underlying23 info22 rfl (by decide) (by omega) _ l 171 [.int .u64 171] rfl rfl rfl HR2.out hb2.out.size (by omega) ?_; intro A3 c3 w3 hr3 hf3 hat3; have hle := (Kd.R_reads' hr3).2.1; have hle2 : l.length ≤ c3 := Nat.le_trans (Nat.le_succ _) hle; have HR3 := Aside0.mk hr3; have hb3 := Aside0.mk (hb2.out.trans (hf3.below hb2.out.size (fun k hk => Kd.R_base HR2.out k hk.symm))); clear hr3 hf3 hat3)))
  go_ret
  exact ⟨A3, c3, rfl, HR3.out, hb3.out⟩
end Go.Proofs.Ytagcabmccpekaaa.M

namespace Go.Proofs.Ytagcabmccpekaaa.M
open Go.RowKit Go.Proofs.YtagcabmccpekaaaW.PrintWords Go.Proofs.YtagcabmccpekaaaW.PrintLast Go.Proofs.YtagcabmccpekaaaW.PrintMore Go.Proofs.Ytagcabmccpekaaa.Leaf

def SetsM (Z : List Int) (idx : List Nat) (n : Nat) (S : Nat → Nat) : Prop := ∀ j, j < Z.length → ∃ h i : Nat, Z[j]? = some ((placeN h i : Nat) : Int) ∧ h < 62 ∧ placeN h i < nodesN n ∧ up (h, i) ≤ n ∧ S (j + 1) = S j + 2 ^ h ∧ S j ≤ n ∧
  (∀ x ∈ idx, ¬ (lo (h, i) ≤ x ∧ x < up (h, i))) ∧ (nodesN n ≤ placeN (h + 1) (i / 2) ∨ ∃ x ∈ idx, lo (h + 1, i / 2) ≤ x ∧ x < up (h + 1, i / 2)) ∧
  ∀ q, j = q + 1 → ∃ h' i' : Nat, Z[q]? = some ((placeN h' i' : Nat) : Int) ∧ up (h', i') ≤ lo (h, i) ∧ placeN h' i' < placeN h i
theorem top_over {n : Nat} {t : Nat × Nat} (ht : t ∈ topsN n) (hn : n ≤ 1099511627776) : nodesN n ≤ placeN (t.1 + 1) (t.2 / 2) := by
  obtain ⟨h1, h2, h3⟩ := tops_mem 63 n t ht
  have ho := (bit_mod n t.1).1 h2
  have hq : t.2 / 2 = n / 2 ^ (t.1 + 1) := by
    rw [← half_up, h3]
    generalize n / 2 ^ t.1 = a at *
    omega
  rw [hq]
  have hlt : n < (n / 2 ^ (t.1 + 1) + 1) * 2 ^ (t.1 + 1) := by
    have := Nat.lt_mul_div_succ n (p2_pos (t.1 + 1))
    rw [Nat.mul_comm] at this
    exact this
  have hle := Nat.div_mul_le_self n (2 ^ (t.1 + 1))
  have e : (n / 2 ^ (t.1 + 1) + 1) * 2 ^ (t.1 + 1) = n / 2 ^ (t.1 + 1) * 2 ^ (t.1 + 1) + 2 ^ (t.1 + 1) := by rw [Nat.add_mul, Nat.one_mul]
  have hp : 2 ^ (t.1 + 1) ≤ 2 ^ 63 := Nat.pow_le_pow_right (by omega) (by omega)
  unfold placeN
  generalize (n / 2 ^ (t.1 + 1) + 1) * 2 ^ (t.1 + 1) = m at *
  have := nodes_mono (m - 1 - n) n (by omega)
  rw [show n + (m - 1 - n) = m - 1 by omega] at this
  omega
theorem sets_many {idx : List Nat} {n : Nat} (hn : n ≤ 1099511627776) (hu : Up idx) (hl : ∀ x ∈ idx, x < n) : SetsM (placesOf (manySpots idx n)) idx n (fun j => idx.length + leavesN ((manySpots idx n).take j)) ∧ idx.length + leavesN ((manySpots idx n).take (placesOf (manySpots idx n)).length) = n := by
  have ho := many_ord idx n (by omega)
  have hc := many_count idx n (by omega) hu hl
  have hfrom : ∀ s ∈ manySpots idx n, (∀ x ∈ idx, ¬ Und x s) ∧ (nodesN n ≤ placeN (s.1 + 1) (s.2 / 2) ∨ ∃ x ∈ idx, Und x (s.1 + 1, s.2 / 2)) := by
    intro s hs
    unfold manySpots at hs
    obtain ⟨t, ht, hs⟩ := List.mem_flatMap.1 hs
    refine ⟨mneed_not _ _ _ s hs, ?_⟩
    rcases mneed_met _ _ _ s hs with h | h
    · subst h
      exact .inl (top_over ht hn)
    · exact .inr h
  generalize manySpots idx n = L at *
  have hlen : (placesOf L).length = L.length := by simp [placesOf]
  refine ⟨?_, by rw [hlen, List.take_length]; omega⟩
  intro j hj
  have hj : j < L.length := by omega
  have hget : ∀ m (hm : m < L.length), (placesOf L)[m]? = some ((placeN L[m].1 L[m].2 : Nat) : Int) := fun m hm => by
    unfold placesOf
    rw [List.getElem?_map, List.getElem?_eq_getElem hm]
    rfl
  have hm := List.getElem_mem hj
  have hof := ho.1 _ hm
  have hfit : (L[j].2 + 1) * 2 ^ L[j].1 ≤ n := hof.2
  have e := up_lo L[j]
  have hh : L[j].1 < 62 := by
    refine Nat.lt_of_not_le (fun h => ?_)
    have : 2 ^ 62 ≤ 2 ^ L[j].1 := Nat.pow_le_pow_right (by omega) h
    omega
  obtain ⟨f1, f2⟩ := hfrom _ hm
  refine ⟨L[j].1, L[j].2, hget j hj, hh, place_under (by omega) hfit, hfit, ?_, ?_, ?_, ?_, ?_⟩
  · show idx.length + leavesN (L.take (j + 1)) = idx.length + leavesN (L.take j) + _
    rw [leaves_take L j hj]
    omega
  · have := leaves_take_le L j
    show idx.length + leavesN (L.take j) ≤ n
    omega
  · intro x hx h
    exact f1 x hx ((und_iff _ _ _).2 h)
  · rcases f2 with h | ⟨x, hx, h⟩
    · exact .inl h
    · exact .inr ⟨x, hx, (und_iff _ _ _).1 h⟩
  · rintro q rfl
    have hb := List.pairwise_iff_getElem.1 ho.2 q (q + 1) (by omega) hj (by omega)
    exact ⟨_, _, hget q (by omega), hb, place_bef hb (by omega)⟩
theorem rd_nat (l : List Nat) (j : Nat) (hj : j < l.length) : rd (intsOf l) (j : Int) = (l[j] : Int) := rd_ints l j hj
theorem numbers_C {l : List Nat} {w : World} {A : Option Addr} {c base : Nat} (h : Kd.R (Kd.int .u64) 22 w base (fun _ => True) (.slice A (l.length + 1) c) (intsOf l ++ [171])) : Kd.C (Kd.int .u64) w A l.length (intsOf l) ∧ l.length ≤ c ∧ c ≤ 9223372036854775807 := by
  obtain ⟨_, h2, h3⟩ := Kd.R_reads' h
  have h5 := R_cap h
  have e : intsOf l ++ [171] = intsOf (l ++ [171]) := by simp [intsOf]
  rw [e] at h3
  have h3' : Kd.C (Kd.int .u64) w A (l ++ [171]).length (intsOf (l ++ [171])) := by rw [ints_len] at h3; exact h3
  have h4 := C_ints_take h3' l.length (by simp)
  rw [List.take_left] at h4
  exact ⟨h4, by omega, h5⟩
set_option maxHeartbeats 2000000 in
set_option maxRecDepth 100000 in
theorem many_sets_big (idx : List Nat) (n : Nat) (A : Option Addr) (c : Nat) (w : World) (h : 200 < idx.length ∨ (idx.length ≤ 200 ∧ 1099511627776 < n)) :
    Calls Try.prog 8 #[.slice A idx.length c, .int .u64 n] w fun e w' => e = .returned (.bool true) ∧ Below w.heap.size w w' := by
  rcases h with d1 | ⟨d1, d2⟩
  all_goals
    go_enter Try.func8, Try.ntmps8
    go_wp2_with fail
    go_ret
    exact ⟨rfl, Below.refl _ _⟩
set_option maxHeartbeats 4000000 in
set_option maxRecDepth 100000 in
theorem many_sets_small (idx : List Nat) (n : Nat) (A : Option Addr) (c : Nat) (w : World) (hil : idx.length ≤ 200) (hn : n ≤ 1099511627776) (hC : Kd.C (Kd.int .u64) w A idx.length (intsOf idx)) :
    Calls Try.prog 8 #[.slice A idx.length c, .int .u64 n] w fun e w' => e = .returned (.bool true) ∧ Below w.heap.size w w' := by
  have hnum := numbers_calls (intsOf idx) A c w (by rw [ints_len]; omega) (by rw [ints_len]; exact hC)
  rw [ints_len] at hnum
  have d1 : ¬ (200 < idx.length) := by omega
  have d2 : ¬ (1099511627776 < n) := by omega
  have HNum := Aside0.mk hnum
  have HI := Aside0.mk hC
  clear hnum hC
  go_enter Try.func8, Try.ntmps8
  go_wp2_with fail
  refine HNum.out.mono ?_
  rintro e w1 ⟨A1, c1, rfl, hr1, hb1⟩
  obtain ⟨hC1, hl1, hc1⟩ := numbers_C hr1
  have hmp := many_places idx n A1 c1 w1 (by omega) hl1 hc1 hC1
  have HB1 := Aside0.mk hb1
  have hans : manyAns idx n = if lookN idx n = 0 then (placesOf (manySpots idx n), 0) else ([], lookN idx n) := rfl
  clear hr1 hb1 hC1 HNum
  by_cases h0 : lookN idx n = 0
  · rw [hans, if_pos h0] at hmp
    have hup : (∀ x ∈ idx, x < n) ∧ Up idx := by
      have h4 := h0
      unfold lookN at h4
      rw [if_neg (by omega)] at h4
      obtain ⟨i1, i2, _⟩ := look_up n idx none h4
      exact ⟨i1, i2⟩
    obtain ⟨hset, hsum⟩ := sets_many hn hup.2 hup.1
    have hS0 : (fun j => idx.length + leavesN ((manySpots idx n).take j)) 0 = idx.length := by simp [leavesN]
    have hSn : (fun j => idx.length + leavesN ((manySpots idx n).take j)) (placesOf (manySpots idx n)).length = n := hsum
    have hnodes : pos_Nodes.f (n : Int) = some (((nodesN n : Nat) : Int), true) := by
      unfold pos_Nodes.f
      rw [if_neg (by omega), nodes_val n (by omega)]
      rfl
    clear hsum hans hup h0
    generalize (fun j => idx.length + leavesN ((manySpots idx n).take j)) = S at *
    generalize placesOf (manySpots idx n) = Z at *
    have HMP := Aside0.mk hmp
    have HS := Aside0.mk hset
    have HS0 := Aside0.mk hS0
    have HSn := Aside0.mk hSn
    have hsz' : nodesN n = nodesN n := rfl
    generalize hszd : nodesN n = sz at hnodes hsz'
    have HN := Aside0.mk hnodes
    have HSz := Aside0.mk hszd
    clear hmp hset hS0 hSn hnodes hsz' hszd
    have e0 : IntKind.u64.wrap ((idx.length : Nat) : Int) = ((idx.length : Nat) : Int) := w64_nat _ (by omega)
    go_wp2_with fail
    refine HMP.out.mono ?_
    rintro e w2 ⟨v2, rfl, hr2, hb2⟩
    obtain ⟨A2, c2, e2⟩ := Kd.R_slice hr2
    subst e2
    have hzl : Z.length ≤ 9223372036854775807 := Nat.le_trans (Kd.R_reads' hr2).2.1 (R_cap hr2)
    have HR2 := Aside0.mk (Rd.of_R hr2)
    have HB2 := Aside0.mk (blt HB1.out hb2)
    clear hr2 hb2 HMP
    go_wp2_with fail
    refine (pos_Nodes.calls n _ _ _ HN.out).mono ?_
    rintro e w3 ⟨rfl, hd3⟩
    have HB3 := Aside0.mk (blt HB2.out hd3.below)
    have HR3 := Aside0.mk (HR2.out.below hd3.below)
    clear hd3 HR2 HB2 HB1
    go_wp2_with fail
    go_loopw [9, 10] (fun sum k wr => ∃ j sm : Nat, j ≤ Z.length ∧ k = .int .i64 j ∧ sum = .int .u64 (sm : Int) ∧ Aside0 (sm = S j) ∧ Aside0 (Below w.heap.size w wr ∧ Rd .u64 wr (.slice A2 Z.length c2) Z)) (fun _ k _ => Z.length - (intOf k).toNat)
    case atStart => exact ⟨0, idx.length, Nat.zero_le _, rfl, rfl, ⟨HS0.out.symm⟩, ⟨HB3.out, HR3.out⟩⟩
    case round =>
      obtain ⟨j, sm, hj, rfl, rfl, HSm, HW⟩ := hrel
      clear HB3 HR3
      by_cases hlt : j < Z.length
      · obtain ⟨h, i, hz, hh, hpl, hup, hSj, hSl, hout, hmet, hprev⟩ := HS.out j hlt
        have hlu := up_lo (h, i)
        have hpw := p2_pos h
        have hq2 : i / 2 * 2 ≤ i := by omega
        have hfit2 : (i / 2 + 1) * 2 ^ (h + 1) ≤ 4611686018427387904 := by
          have h1 : (i / 2 + 1) * 2 ^ (h + 1) = (2 * (i / 2) + 2) * 2 ^ h := by rw [Nat.pow_succ, Nat.mul_comm (2 ^ h) 2, ← Nat.mul_assoc, Nat.add_mul]; congr 1; omega
          have h2 : (2 * (i / 2) + 2) * 2 ^ h ≤ (2 * (i + 1)) * 2 ^ h := Nat.mul_le_mul_right _ (by omega)
          have h3 : (2 * (i + 1)) * 2 ^ h = 2 * up (h, i) := by unfold up; rw [Nat.mul_assoc]
          omega
        have hfit1 : (i + 1) * 2 ^ h ≤ 4611686018427387904 := by have : up (h, i) = (i + 1) * 2 ^ h := rfl; omega
        have hpar := parent_calls h i
        obtain ⟨ku, hku⟩ := (under_val h i hfit1).rounds
        obtain ⟨kp, hkp⟩ := (under_val (h + 1) (i / 2) hfit2).rounds
        have hpc : ∀ w, Calls Try.prog 40 #[.int .u64 (placeN h i)] w fun e w' => e = .returned (.tuple #[.int .u64 (placeN (h + 1) (i / 2)), .bool true]) ∧ Below w.heap.size w w' := fun w => hpar w hh hfit2 hfit1
        rw [show (i * 2 ^ h) = lo (h, i) from rfl, show ((i + 1) * 2 ^ h) = up (h, i) from rfl] at hku
        rw [show (i / 2 * 2 ^ (h + 1)) = lo (h + 1, i / 2) from rfl, show ((i / 2 + 1) * 2 ^ (h + 1)) = up (h + 1, i / 2) from rfl] at hkp
        have hprev' : ∀ q, j = q + 1 → ∃ pl' lo' hi' : Nat, Z[q]? = some (pl' : Int) ∧ (∃ k, pos_Under.f k (pl' : Int) = some ((lo' : Int), (hi' : Int), true)) ∧ lo' < hi' ∧ hi' ≤ lo (h, i) ∧ pl' < placeN h i := by
          intro q hq
          obtain ⟨h', i', p1, p2, p3⟩ := hprev q hq
          have u1 := up_lo (h', i')
          have u2 := p2_pos h'
          have u3 : up (h', i') = (i' + 1) * 2 ^ h' := rfl
          have u4 : lo (h, i) ≤ up (h, i) := by rw [hlu]; exact Nat.le_add_right _ _
          refine ⟨_, _, _, p1, (under_val h' i' (by omega)).rounds, ?_, p2, p3⟩
          show lo (h', i') < up (h', i')
          have : 2 ^ (h', i').1 = 2 ^ h' := rfl
          omega
        rw [HSz.out] at hpl hmet
        have hd : up (h, i) = lo (h, i) + 2 ^ h := hlu
        clear hprev hpar hfit1 hfit2 hq2 hlu
        generalize lo (h, i) = lo_ at *
        generalize up (h, i) = hi_ at *
        generalize lo (h + 1, i / 2) = a_ at *
        generalize up (h + 1, i / 2) = b_ at *
        generalize placeN h i = pl at *
        generalize placeN (h + 1) (i / 2) = pu at *
        generalize 2 ^ h = d at *
        obtain ⟨q1, q2⟩ := HW.out
        obtain ⟨_, _, ev, _, hCz⟩ := q2
        injection ev with ev1 ev2 ev3
        subst ev1
        obtain ⟨ad, ea, hx⟩ := Kd.at_int hCz (j : Int) (by omega) (by omega)
        subst ea
        have hrz : rd Z (j : Int) = (pl : Int) := by simp [rd, List.getD_eq_getElem?_getD, hz]
        rw [Int.toNat_natCast, hrz] at hx
        have HKu := Aside0.mk hku
        have HKp := Aside0.mk hkp
        have HPc := Aside0.mk hpc
        have HPv := Aside0.mk hprev'
        have HMet := Aside0.mk hmet
        have HOut := Aside0.mk hout
        have HRz := Aside0.mk hrz
        have HSj := Aside0.mk hSj
        have HSl := Aside0.mk hSl
        clear hku hkp hpc hprev' hmet hout hz hSj hSl hCz ev2 ev3 q1
        go_wp2_with fail
        refine (pos_Under.calls ku pl _ _ _ _ HKu.out).mono ?_
        rintro e w3 ⟨rfl, hb3⟩
        have HB3 := Aside0.mk (blt HW.out.1 hb3)
        have HR3 := Aside0.mk (HW.out.2.below hb3)
        clear hb3 hx HW
        have hx3 : w3.cell? (ad.add j) = some (.int .u64 pl) := by
          obtain ⟨_, _, ev, _, hCz⟩ := HR3.out
          injection ev with ev1 ev2 ev3
          subst ev1
          obtain ⟨ad1, ea1, hx1⟩ := Kd.at_int hCz (j : Int) (by omega) (by omega)
          injection ea1 with ea1
          subst ea1
          rw [Int.toNat_natCast, HRz.out] at hx1
          exact hx1
        have g1 : decide ((sz : Int) ≤ (pl : Int)) = false := decide_eq_false (by omega)
        have d4 : ¬ (sz ≤ pl) := by omega
        have g9 : (j : Int) < (Z.length : Int) := by omega
        have e2 : IntKind.u64.wrap ((hi_ : Int) - (lo_ : Int)) = (d : Int) := by rw [w64_of _ (by omega) (by omega)]; omega
        have HD := Aside0.mk (show sm + d = S (j + 1) by have := HSj.out; have := HSl.out; have := HSm.out; omega)
        have hsd : sm + d ≤ 9300000000000000000 := by have := HSm.out; have := HSl.out; omega
        have hlh : lo_ < hi_ := by omega
        have HHn := Aside0.mk hup
        clear hd hup hpl
        have hjq : (decide ((0 : Int) < (j : Int)) = false ∧ decide (0 < j) = false) ∨ ∃ q, j = q + 1 := by
          by_cases hj0 : j = 0
          · exact .inl ⟨decide_eq_false (by omega), decide_eq_false (by omega)⟩
          · exact .inr ⟨j - 1, by omega⟩
        go_upto_region 12 with (fail)
        go_cut [94] (fun v wc => v = .bool false ∧ Aside0 (Below w.heap.size w wc ∧ Rd .u64 wc (.slice (some ad) Z.length c2) Z) ∧ wc.cell? (ad.add j) = some (.int .u64 pl))
        case first =>
          rcases hjq with ⟨g0, g3⟩ | ⟨q, hq⟩
          · go_quiet (fail)
            go_wp2_with fail
            go_meet
            case rel => exact ⟨rfl, ⟨pw_below_drewN HB3.out _, HR3.out.drewN _⟩, hx3⟩
          · obtain ⟨pl', lo', hi', hz', _, _, _, hlt'⟩ := HPv.out q hq
            obtain ⟨_, _, ev, _, hCz⟩ := HR3.out
            injection ev with ev1 ev2 ev3
            subst ev1
            obtain ⟨adq, eaq, hxq⟩ := Kd.at_int hCz (q : Int) (by omega) (by omega)
            injection eaq with eaq
            subst eaq
            rw [Int.toNat_natCast, show rd Z (q : Int) = (pl' : Int) by simp [rd, List.getD_eq_getElem?_getD, hz']] at hxq
            have e4 : IntKind.i64.wrap ((j : Int) - 1) = (q : Int) := by rw [IntKind.wrap_i64]; omega
            have e3 : wrap64 ((j : Int) - 1) = (q : Int) := by rw [i64_of _ (by omega) (by omega)]; omega
            have hqz : q < Z.length := by omega
            have hj1 : 0 < j := by omega
            have d8 : ¬ (pl ≤ pl') := by omega
            have g8 : (q : Int) < (Z.length : Int) := by omega
            clear hz' hq hlt' hCz ev2 ev3
            go_quiet (fail)
            go_wp2_with fail
            go_meet
            case rel => exact ⟨rfl, ⟨pw_below_drewN HB3.out _, HR3.out.drewN _⟩, hx3⟩
        case rest =>
          obtain ⟨rfl, HWc, hxc⟩ := hcut
          clear HB3 HR3 hx3
          go_wp2_with fail
          refine (HPc.out _).mono ?_
          rintro e w4 ⟨rfl, hb4⟩
          have HW4 := Aside0.mk (And.intro (blt HWc.out.1 hb4) (HWc.out.2.below hb4))
          clear hb4 HWc hxc
          go_wp2_with fail
          refine (pos_Under.calls kp pu _ _ _ _ HKp.out).mono ?_
          rintro e w5 ⟨rfl, hb5⟩
          have HW5 := Aside0.mk (And.intro (blt HW4.out.1 hb5) (HW4.out.2.below hb5))
          clear hb5 HW4
          go_wp2_with fail
          go_loopw [19, 20] (fun b k wr => ∃ (p : Nat) (bb : Bool), p ≤ idx.length ∧ k = .int .i64 p ∧ b = .bool bb ∧ Aside0 (bb = true ↔ (sz ≤ pu ∨ ∃ x ∈ idx.take p, a_ ≤ x ∧ x < b_)) ∧ Aside0 (Below w.heap.size w wr ∧ Rd .u64 wr (.slice (some ad) Z.length c2) Z)) (fun _ k _ => idx.length - (intOf k).toNat)
          case atStart => exact ⟨0, _, Nat.zero_le _, rfl, rfl, ⟨by simp⟩, HW5⟩
          case round =>
            clear HW5
            obtain ⟨p, bb, hp, rfl, rfl, HBB, HW⟩ := hrel
            by_cases hlt2 : p < idx.length
            · obtain ⟨adi, eai, hxi⟩ := Kd.at_int (Kd.C_below HI.out HW.out.1) (p : Int) (by omega) (by omega)
              rw [Int.toNat_natCast, rd_nat idx p hlt2] at hxi
              subst eai
              have hox := HOut.out _ (List.getElem_mem hlt2)
              have hstep : (∃ x ∈ idx.take (p + 1), a_ ≤ x ∧ x < b_) ↔ ((∃ x ∈ idx.take p, a_ ≤ x ∧ x < b_) ∨ (a_ ≤ idx[p] ∧ idx[p] < b_)) := by
                rw [List.take_add_one, List.getElem?_eq_getElem hlt2]
                show (∃ x ∈ idx.take p ++ [idx[p]], a_ ≤ x ∧ x < b_) ↔ _
                constructor
                · rintro ⟨x, hx, h⟩
                  rcases List.mem_append.1 hx with hx | hx
                  · exact .inl ⟨x, hx, h⟩
                  · simp at hx
                    subst hx
                    exact .inr h
                · rintro (⟨x, hx, h⟩ | h)
                  · exact ⟨x, List.mem_append_left _ hx, h⟩
                  · exact ⟨_, List.mem_append_right _ List.mem_cons_self, h⟩
              generalize idx[p] = x at *
              have HStep := Aside0.mk hstep
              have hox2 : ¬ (lo_ ≤ x) ∨ (lo_ ≤ x ∧ ¬ (x < hi_)) := by omega
              clear hox hstep
              cases bb with
              | true =>
                have HNew := Aside0.mk (show true = true ↔ (sz ≤ pu ∨ ∃ x ∈ idx.take (p + 1), a_ ≤ x ∧ x < b_) by
                  rw [HStep.out]
                  have := HBB.out.1 rfl
                  exact ⟨fun _ => by rcases this with h | h; exact .inl h; exact .inr (.inl h), fun _ => rfl⟩)
                rcases hox2 with d5 | ⟨d5, d6⟩
                all_goals
                  go_wp2_with fail
                  go_roundw
                  case rel => exact ⟨p + 1, true, by omega, by go_num, rfl, HNew, HW⟩
                  case measure => simp [intOf]; omega
              | false =>
                have hab : ¬ (a_ ≤ x) ∨ (a_ ≤ x ∧ ¬ (x < b_)) ∨ (a_ ≤ x ∧ x < b_) := by omega
                have HNew : ∀ b : Bool, (b = true ↔ (a_ ≤ x ∧ x < b_)) → Aside0 (b = true ↔ (sz ≤ pu ∨ ∃ x ∈ idx.take (p + 1), a_ ≤ x ∧ x < b_)) := fun b hb => ⟨by
                  rw [HStep.out, hb]
                  have h0 : ¬ (sz ≤ pu ∨ ∃ x ∈ idx.take p, a_ ≤ x ∧ x < b_) := fun h => by have := HBB.out.2 h; simp at this
                  exact ⟨fun h => .inr (.inr h), fun h => by rcases h with h | h | h; exact absurd (.inl h) h0; exact absurd (.inr h) h0; exact h⟩⟩
                have HNewA := Aside0.mk HNew
                clear HNew
                rcases hab with d7 | ⟨d7, d8⟩ | ⟨d7, d8⟩
                · rcases hox2 with d5 | ⟨d5, d6⟩
                  all_goals
                    go_wp2_with fail
                    go_roundw
                    case rel => exact ⟨p + 1, false, by omega, by go_num, rfl, HNewA.out false (by simp; omega), HW⟩
                    case measure => simp [intOf]; omega
                · rcases hox2 with d5 | ⟨d5, d6⟩
                  all_goals
                    go_wp2_with fail
                    go_roundw
                    case rel => exact ⟨p + 1, false, by omega, by go_num, rfl, HNewA.out false (by simp; omega), HW⟩
                    case measure => simp [intOf]; omega
                · rcases hox2 with d5 | ⟨d5, d6⟩
                  all_goals
                    go_wp2_with fail
                    go_roundw
                    case rel => exact ⟨p + 1, true, by omega, by go_num, rfl, HNewA.out true (by simp; omega), HW⟩
                    case measure => simp [intOf]; omega
            · have hpl : p = idx.length := by omega
              have hbb : bb = true := by rw [HBB.out, hpl, List.take_length]; exact HMet.out
              subst hbb
              rcases hjq with ⟨g0, g3⟩ | ⟨q, hq⟩
              · go_wp2_with fail
                go_roundw
                case rel => exact ⟨j + 1, sm + d, by omega, by go_num, by go_num, HD, HW⟩
                case measure => simp [intOf]; omega
              · obtain ⟨pl', lo', hi', hz', ⟨kq, hkq⟩, t1, t2, hlt'⟩ := HPv.out q hq
                obtain ⟨_, _, ev, _, hCz⟩ := HW.out.2
                injection ev with ev1 ev2 ev3
                subst ev1
                obtain ⟨adq, eaq, hxq⟩ := Kd.at_int hCz (q : Int) (by omega) (by omega)
                injection eaq with eaq
                subst eaq
                rw [Int.toNat_natCast, show rd Z (q : Int) = (pl' : Int) by simp [rd, List.getD_eq_getElem?_getD, hz']] at hxq
                have e3 : wrap64 ((j : Int) - 1) = (q : Int) := by rw [i64_of _ (by omega) (by omega)]; omega
                have hqz : q < Z.length := by omega
                have hj1 : 0 < j := by omega
                have e4 : IntKind.i64.wrap ((j : Int) - 1) = (q : Int) := by rw [IntKind.wrap_i64]; omega
                have g8 : (q : Int) < (Z.length : Int) := by omega
                have t3 : lo' < hi_ := by omega
                have t4 : ¬ (lo_ < hi') := by omega
                have HKq := Aside0.mk hkq
                clear hz' hq hlt' hCz ev2 ev3 hkq
                go_wp2_with fail
                refine (pos_Under.calls kq pl' _ _ _ _ HKq.out).mono ?_
                rintro e w6 ⟨rfl, hb6⟩
                have HW6 := Aside0.mk (And.intro (blt HW.out.1 hb6) (HW.out.2.below hb6))
                clear hb6 HW hxq
                go_wp2_with fail
                go_roundw
                case rel => exact ⟨j + 1, sm + d, by omega, by go_num, by go_num, HD, HW6⟩
                case measure => simp [intOf]; omega
      · have hjz : j = Z.length := by omega
        subst hjz
        have hsm : sm = n := by have := HSm.out; have := HSn.out; omega
        subst hsm
        go_wp2_with fail
        refine (awake10 _).mono ?_
        rintro e w6 ⟨rfl, hb6⟩
        have HB6 := Aside0.mk (blt HW.out.1 hb6)
        clear hb6
        go_wp2_with fail
        go_ret
        exact ⟨rfl, HB6.out⟩
  · rw [hans, if_neg h0] at hmp
    have HMP := Aside0.mk hmp
    have hd : (lookN idx n != 0) = true := by rw [bne_iff_ne]; exact h0
    clear hmp hans h0
    generalize lookN idx n = er at *
    go_wp2_with fail
    refine HMP.out.mono ?_
    rintro e w2 ⟨v2, rfl, hr2, hb2⟩
    obtain ⟨A2, c2, e2⟩ := Kd.R_slice hr2
    subst e2
    have HB2 := Aside0.mk (blt HB1.out hb2)
    clear hr2 hb2 HMP
    go_wp2_with fail
    refine (awake10 _).mono ?_
    rintro e w6 ⟨rfl, hb6⟩
    have HB6 := Aside0.mk (blt HB2.out hb6)
    clear hb6
    go_wp2_with fail
    go_ret
    exact ⟨rfl, HB6.out⟩
theorem many_sets_law (idx : List Nat) (n : Nat) (A : Option Addr) (c : Nat) (w : World) (hC : Kd.C (Kd.int .u64) w A idx.length (intsOf idx)) :
    Calls Try.prog 8 #[.slice A idx.length c, .int .u64 n] w fun e w' => e = .returned (.bool true) ∧ Below w.heap.size w w' := by
  by_cases h : 200 < idx.length ∨ (idx.length ≤ 200 ∧ 1099511627776 < n)
  · exact many_sets_big idx n A c w h
  · exact many_sets_small idx n A c w (by omega) (by omega) hC
end Go.Proofs.Ytagcabmccpekaaa.M
