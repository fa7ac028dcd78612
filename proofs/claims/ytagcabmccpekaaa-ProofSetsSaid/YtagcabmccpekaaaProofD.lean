/- What massiflaw7.ProofSets asks of a proof's places, as plain facts; the law's walk. -/
import Derived.Test.YtagcabmccpekaaaProofC
namespace Go.Proofs.Ytagcabmccpekaaa.M
open Go.RowKit Go.Proofs.YtagcabmccpekaaaW.PrintWords Go.Proofs.YtagcabmccpekaaaW.PrintLast Go.Proofs.YtagcabmccpekaaaW.PrintMore Go.Proofs.Ytagcabmccpekaaa.Leaf

def SetsOK (zs : List Int) (i n : Nat) (S : Nat → Nat) : Prop := ∀ j, j < zs.length → ∃ pl lo hi : Nat, zs[j]? = some (pl : Int) ∧ pl < nodesN n ∧ (∃ k, pos_Under.f k (pl : Int) = some ((lo : Int), (hi : Int), true)) ∧ lo ≤ hi ∧ hi ≤ n ∧ (i < lo ∨ hi ≤ i) ∧ S (j + 1) = S j + (hi - lo) ∧ S j ≤ n ∧ ∀ m, m < j → ∃ pl' lo' hi' : Nat, zs[m]? = some (pl' : Int) ∧ (∃ k, pos_Under.f k (pl' : Int) = some ((lo' : Int), (hi' : Int), true)) ∧ (hi ≤ lo' ∨ hi' ≤ lo)
theorem leaves_take (l : List (Nat × Nat)) (j : Nat) (hj : j < l.length) : leavesN (l.take (j + 1)) = leavesN (l.take j) + 2 ^ l[j].1 := by
  rw [List.take_add_one, List.getElem?_eq_getElem hj, leaves_app]
  simp [leavesN]
theorem leaves_take_le (l : List (Nat × Nat)) (j : Nat) : leavesN (l.take j) ≤ leavesN l := by
  have h := leaves_app (l.take j) (l.drop j)
  rw [List.take_append_drop] at h
  omega
theorem sets_proof {i n : Nat} (h : i < n) (hn : n ≤ 4611686018427387904) : SetsOK (placesOf (proofN i n)) i n (fun j => leavesN ((proofN i n).take j)) := by
  have hf := proof_fit h hn
  have ha := proof_apart h hn
  have ht := proof_not h hn
  have hs := proof_sum h hn
  generalize proofN i n = L at *
  intro j hj
  have hj : j < L.length := by simpa [placesOf] using hj
  have hget : ∀ m (hm : m < L.length), (placesOf L)[m]? = some ((placeN L[m].1 L[m].2 : Nat) : Int) := fun m hm => by
    unfold placesOf
    rw [List.getElem?_map, List.getElem?_eq_getElem hm]
    rfl
  have hu : ∀ m (hm : m < L.length), ∃ k, pos_Under.f k ((placeN L[m].1 L[m].2 : Nat) : Int) = some (((L[m].2 * 2 ^ L[m].1 : Nat) : Int), (((L[m].2 + 1) * 2 ^ L[m].1 : Nat) : Int), true) := fun m hm => by
    have := hf _ (List.getElem_mem hm)
    exact (under_val L[m].1 L[m].2 (by omega)).rounds
  have hfj := hf _ (List.getElem_mem hj)
  have hpw := p2_pos L[j].1
  have e1 : (L[j].2 + 1) * 2 ^ L[j].1 = L[j].2 * 2 ^ L[j].1 + 2 ^ L[j].1 := by rw [Nat.add_mul, Nat.one_mul]
  refine ⟨_, _, _, hget j hj, place_under (by omega) hfj, hu j hj, by omega, hfj, ?_, ?_, ?_, fun m hm => ⟨_, _, _, hget m (by omega), hu m (by omega), ?_⟩⟩
  · have h1 : ¬ Und i L[j] := ht _ (List.getElem_mem hj)
    have h2 : ¬ (L[j].2 * 2 ^ L[j].1 ≤ i ∧ i < (L[j].2 + 1) * 2 ^ L[j].1) := fun h3 => h1 ((und_iff _ _ _).2 h3)
    omega
  · show leavesN (L.take (j + 1)) = _
    rw [leaves_take L j hj]
    show _ = leavesN (L.take j) + _
    omega
  · have := leaves_take_le L j
    show leavesN (L.take j) ≤ n
    omega
  · have h1 := List.pairwise_iff_getElem.1 ha m j (by omega) hj hm
    have h2 : ¬ Meet L[m] L[j] := fun h3 => by
      obtain ⟨x, hx, hy⟩ := meet_und h3
      exact h1 x hx hy
    unfold Meet at h2
    omega

set_option maxHeartbeats 2000000 in
set_option maxRecDepth 100000 in
theorem proof_sets_some (i n : Nat) (w : World) (h : i < n) (hn : n ≤ 4611686018427387904) :
    Calls Try.prog 4 #[.int .u64 i, .int .u64 n] w fun e w' => e = .returned (.bool true) ∧ Below w.heap.size w w' := by
  have hp := proof_places_some i n
  have hset := sets_proof h hn
  have hsum := proof_sum h hn
  have hlen := proof_len h hn
  have hplen := proof_length h hn
  have hS0 : leavesN ((proofN i n).take 0) = 0 := rfl
  have hSn : leavesN ((proofN i n).take (placesOf (proofN i n)).length) + 1 = n := by
    rw [show (placesOf (proofN i n)).length = (proofN i n).length by simp [placesOf], List.take_length]
    exact hsum
  have hzl : (placesOf (proofN i n)).length = (proofN i n).length := by simp [placesOf]
  rw [← hzl] at hlen hplen
  have hdn : ¬ ((n : Int) > 4611686018427387904) := by omega
  have hdi : ¬ ((i : Int) ≥ (n : Int)) := by omega
  have hnodes : pos_Nodes.f (n : Int) = some (((nodesN n : Nat) : Int), true) := by
    unfold pos_Nodes.f
    rw [if_neg hdn, nodes_val n (by omega)]
    rfl
  have hfit := tops_fit 63 n (hiN i n, i / 2 ^ hiN i n) (List.mem_of_getElem? hlen.2.1)
  have hh63 : hiN i n ≤ 62 := hi_le h hn
  have ht63 : (topsN n).length ≤ 63 := topsF_len 63 n
  obtain ⟨ks, hks⟩ := (spot_val (hiN i n) (i / 2 ^ hiN i n) (by have := hfit.2; simp only at this; omega)).rounds
  obtain ⟨kp, hkp⟩ := (peak_val i n h hn).rounds
  obtain ⟨kt, hkt⟩ := (peaks_val n hn).rounds
  have htop : (placesOf (topsN n))[overN i n]? = some ((placeN (hiN i n) (i / 2 ^ hiN i n) : Nat) : Int) := by
    unfold placesOf
    rw [List.getElem?_map, hlen.2.1]
    rfl
  have htl : (topsN n).length = (placesOf (topsN n)).length := by simp [placesOf]
  rw [htl] at hlen ht63
  have hol := hlen.1
  have hzz := hlen.2.2
  have HP := Aside0.mk (fun w => hp w h hn)
  clear hp hsum hlen hzl htl hfit
  have hS0 : (fun j => leavesN ((proofN i n).take j)) 0 = 0 := hS0
  have hSn : (fun j => leavesN ((proofN i n).take j)) (placesOf (proofN i n)).length + 1 = n := hSn
  generalize (fun j => leavesN ((proofN i n).take j)) = S at *
  generalize placesOf (proofN i n) = Z at *
  generalize placesOf (topsN n) = T at *
  generalize placeN (hiN i n) (i / 2 ^ hiN i n) = tp at *
  generalize hiN i n = hh at *
  generalize overN i n = o at *
  generalize i / 2 ^ hh = q at *
  generalize hsz : nodesN n = sz at *
  have HSz := Aside0.mk hsz
  clear hsz
  have HN := Aside0.mk hnodes
  have HS := Aside0.mk hset
  have HS0 := Aside0.mk hS0
  have HSn := Aside0.mk hSn
  have HKs := Aside0.mk hks
  have HKp := Aside0.mk hkp
  have HKt := Aside0.mk hkt
  have HTop := Aside0.mk htop
  have HZZ := Aside0.mk hzz
  clear hnodes hset hS0 hSn hks hkp hkt htop hzz
  go_enter Try.func4, Try.ntmps4
  go_wp2_with fail
  refine (HP.out _).mono ?_
  rintro e w1 ⟨v1, rfl, hr, hb⟩
  obtain ⟨A1, c1, e1⟩ := Kd.R_slice hr
  subst e1
  have HR := Aside0.mk (Kd.R_reads' hr).2.2
  have HB := Aside0.mk hb
  clear hr hb
  go_wp2_with fail
  refine (pos_Nodes.calls n _ _ _ HN.out).mono ?_
  rintro e w2 ⟨rfl, hd2⟩
  have HB2 := Aside0.mk (blt HB.out hd2.below)
  have HR2 := Aside0.mk (Kd.C_below HR.out hd2.below)
  clear hd2 HR HB
  go_wp2_with fail
  go_loopw [9, 10] (fun sum k wr => ∃ j sm : Nat, j ≤ Z.length ∧ k = .int .i64 j ∧ sum = .int .u64 (sm : Int) ∧ Aside0 (sm = 1 + S j) ∧ Aside0 (Below w.heap.size w wr) ∧ Aside0 (Kd.C (Kd.int .u64) wr A1 Z.length Z)) (fun _ k _ => Z.length - (intOf k).toNat)
  case atStart => exact ⟨0, 1, Nat.zero_le _, rfl, rfl, ⟨by rw [HS0.out]⟩, HB2, HR2⟩
  case round =>
    obtain ⟨j, sm, hj, rfl, rfl, HSm, HBr, HRr⟩ := hrel
    clear HB2 HR2
    by_cases hlt : j < Z.length
    · obtain ⟨pl, lo, hi, hz, hpl, ⟨ku, hku⟩, hlh, hhn, hio, hSj, hSn, hm⟩ := HS.out j hlt
      obtain ⟨ad, ea, hx⟩ := Kd.at_int HRr.out (j : Int) (by omega) (by omega)
      rw [Int.toNat_natCast, show rd Z (j : Int) = (pl : Int) by simp [rd, List.getD_eq_getElem?_getD, hz]] at hx
      subst ea
      have HRd := Aside0.mk (show rd Z (j : Int) = (pl : Int) by simp [rd, List.getD_eq_getElem?_getD, hz])
      have HKu := Aside0.mk hku
      rw [HSz.out] at hpl
      have HM := Aside0.mk hm
      have HSj := Aside0.mk hSj
      have HSn2 := Aside0.mk hSn
      have HSh := Aside0.mk hhn
      clear hku hm hz hSj
      go_wp2_with fail
      refine (pos_Under.calls ku pl _ _ _ _ HKu.out).mono ?_
      rintro e w3 ⟨rfl, hb3⟩
      have HB3 := Aside0.mk (blt HBr.out hb3)
      have HR3 := Aside0.mk (Kd.C_below HRr.out hb3)
      obtain ⟨ad3, ea3, hx3⟩ := Kd.at_int HR3.out (j : Int) (by omega) (by omega)
      injection ea3 with ea3
      subst ea3
      rw [Int.toNat_natCast, HRd.out] at hx3
      clear hb3 hx
      have d1 : ¬ (sz ≤ pl) := by omega
      obtain ⟨d, hd⟩ : ∃ d, hi = lo + d := ⟨hi - lo, by omega⟩
      have e1 : IntKind.u64.wrap ((hi : Int) - (lo : Int)) = (d : Int) := by rw [w64_of _ (by omega) (by omega)]; omega
      have HD := Aside0.mk (show sm + d = 1 + S (j + 1) by have := HSj.out; have := HSn2.out; have := HSm.out; omega)
      have hsd : sm + d ≤ 9300000000000000000 := by have := HSm.out; have := HSn2.out; have := HSh.out; omega
      have hgo : (¬ (lo ≤ i)) ∨ (lo ≤ i ∧ ¬ (i < hi)) := by omega
      clear hio hpl hlh hhn hSn
      clear hd
      rcases hgo with d2 | ⟨d2, d3⟩
      all_goals
        go_wp2_with fail
        go_loopw [14] (fun m wr' => ∃ a : Nat, a ≤ j ∧ m = .int .i64 a ∧ Aside0 (Below w.heap.size w wr') ∧ Aside0 (Kd.C (Kd.int .u64) wr' (some ad) Z.length Z)) (fun m _ => j - (intOf m).toNat)
        case atStart => exact ⟨0, Nat.zero_le _, rfl, HB3, HR3⟩
        case round =>
          obtain ⟨a, haj, rfl, HBi, HRi⟩ := hrel
          clear HB3 HR3 hx3
          by_cases hlt2 : a < j
          · obtain ⟨pl', lo', hi', hz', ⟨ku', hku'⟩, hap⟩ := HM.out a hlt2
            obtain ⟨ad', ea', hx'⟩ := Kd.at_int HRi.out (a : Int) (by omega) (by omega)
            injection ea' with ea'
            subst ea'
            rw [Int.toNat_natCast, show rd Z (a : Int) = (pl' : Int) by simp [rd, List.getD_eq_getElem?_getD, hz']] at hx'
            have HKu' := Aside0.mk hku'
            have HG := Aside0.mk (show (¬ (lo' < hi)) ∨ (lo' < hi ∧ ¬ (lo < hi')) by omega)
            clear hap
            clear hku' hz'
            go_wp2_with fail
            refine (pos_Under.calls ku' pl' _ _ _ _ HKu'.out).mono ?_
            rintro e w4 ⟨rfl, hb4⟩
            have HB4 := Aside0.mk (blt HBi.out hb4)
            have HR4 := Aside0.mk (Kd.C_below HRi.out hb4)
            clear hb4 hx'
            rcases HG.out with d5 | ⟨d5, d6⟩
            all_goals
              go_wp2_with fail
              go_roundw
              case rel => exact ⟨a + 1, by omega, by go_num, HB4, HR4⟩
              case measure => simp [intOf]; omega
          · go_wp2_with fail
            go_roundw
            case rel => exact ⟨j + 1, sm + d, by omega, by go_num, by go_num, HD, HBi, HRi⟩
            case measure => simp [intOf]; omega
    · have hjz : j = Z.length := by omega
      subst hjz
      have hsm : sm = n := by have := HSm.out; have := HSn.out; omega
      subst hsm
      go_wp2_with fail
      refine (pos_Peak.calls kp i sm _ _ _ HKp.out).mono ?_
      rintro e w3 ⟨rfl, hd3⟩
      have HB3 := Aside0.mk (blt HBr.out hd3.below)
      clear hd3 HBr HRr
      go_wp2_with fail
      refine (pos_Peaks.calls kt sm _ _ HKt.out).mono ?_
      rintro e w4 ⟨v4, rfl, hr4, hb4⟩
      obtain ⟨A4, c4, e4⟩ := Kd.R_slice hr4
      subst e4
      have HC4 := Aside0.mk (Kd.R_reads' hr4).2.2
      have HB4 := Aside0.mk (blt HB3.out hb4)
      obtain ⟨ad4, ea4, hx4⟩ := Kd.at_int HC4.out (o : Int) (by omega) (by omega)
      rw [Int.toNat_natCast, show rd T (o : Int) = (tp : Int) by have := HTop.out; simp [rd, List.getD_eq_getElem?_getD, this]] at hx4
      subst ea4
      clear hr4 hb4
      have hol2 : ¬ (T.length ≤ o) := by omega
      go_wp2_with fail
      refine (pos_Spot.calls ks tp _ _ _ _ HKs.out).mono ?_
      rintro e w5 ⟨rfl, hb5⟩
      have HB5 := Aside0.mk (blt HB4.out hb5)
      clear hb5 hx4
      have hlast : (Z.length : Int) = (hh : Int) + (T.length : Int) - 1 := by have := HZZ.out; omega
      go_wp2_with fail
      refine (awake7 _).mono ?_
      rintro e w6 ⟨rfl, hb6⟩
      have HB6 := Aside0.mk (blt (below_alloc HB5.out _) hb6)
      clear hb6
      go_wp2_with fail
      go_ret
      exact ⟨rfl, HB6.out⟩
set_option maxHeartbeats 2000000 in
set_option maxRecDepth 100000 in
theorem proof_sets_none (i n : Nat) (w : World) (h : 4611686018427387904 < n ∨ n ≤ i) :
    Calls Try.prog 4 #[.int .u64 i, .int .u64 n] w fun e w' => e = .returned (.bool true) ∧ Below w.heap.size w w' := by
  have HP := Aside0.mk (fun w => proof_places_none i n w h)
  by_cases hn : 4611686018427387904 < n
  · have e0 : (if 4611686018427387904 < n then (30 : Int) else 32) = 30 := if_pos hn
    rw [e0] at HP
    have hd : ((n : Int) > 4611686018427387904) := by omega
    clear h e0
    go_enter Try.func4, Try.ntmps4
    go_wp2_with fail
    refine (HP.out _).mono ?_
    rintro e w1 ⟨rfl, hb1⟩
    have HB1 := Aside0.mk hb1
    clear hb1
    go_wp2_with fail
    refine (awake7 _).mono ?_
    rintro e w6 ⟨rfl, hb6⟩
    have HB6 := Aside0.mk (blt HB1.out hb6)
    clear hb6
    go_wp2_with fail
    go_ret
    exact ⟨rfl, HB6.out⟩
  · have e0 : (if 4611686018427387904 < n then (30 : Int) else 32) = 32 := if_neg hn
    rw [e0] at HP
    have hd : ¬ ((n : Int) > 4611686018427387904) := by omega
    have hi : ((i : Int) ≥ (n : Int)) := by omega
    clear h e0
    go_enter Try.func4, Try.ntmps4
    go_wp2_with fail
    refine (HP.out _).mono ?_
    rintro e w1 ⟨rfl, hb1⟩
    have HB1 := Aside0.mk hb1
    clear hb1
    go_wp2_with fail
    refine (awake7 _).mono ?_
    rintro e w6 ⟨rfl, hb6⟩
    have HB6 := Aside0.mk (blt HB1.out hb6)
    clear hb6
    go_wp2_with fail
    go_ret
    exact ⟨rfl, HB6.out⟩
theorem proof_sets_law (i n : Nat) (w : World) :
    Calls Try.prog 4 #[.int .u64 i, .int .u64 n] w fun e w' => e = .returned (.bool true) ∧ Below w.heap.size w w' := by
  by_cases h : 4611686018427387904 < n ∨ n ≤ i
  · exact proof_sets_none i n w h
  · exact proof_sets_some i n w (by omega) (by omega)
end Go.Proofs.Ytagcabmccpekaaa.M
