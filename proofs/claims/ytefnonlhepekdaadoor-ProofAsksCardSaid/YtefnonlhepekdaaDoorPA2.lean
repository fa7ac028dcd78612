/- proof.Places. cut.Span. massifref4.Span. proof.PrefixPlaces, massifref7.PrefixPlaces. massifref7.PrefixPlaces. proof.Make, proof.MakePrefix, asked of a spy. Hashes in a region that only reads and draws its order: two operations and a walk that takes them. massiflaw7.asked: true of what a spy was asked and told. num.Short and massifref1.Short make the same bytes. slices.Grow of nil, slices.Concat of byte rows. -/
import Derived.Test.YtefnonlhepekdaaDoorPA1
import Derived.BigQuiet
import Derived.Deep.QuietTactic
import Derived.Test.YtefnonlhepekdaaDoorPA0
set_option linter.unusedVariables false
set_option linter.unusedSimpArgs false
set_option linter.unusedVariables false
set_option linter.unusedSimpArgs false
namespace Go.Proofs.YtefnonlhepekdaaDoor.M
open Go.RowKit Go.Proofs.YtefnonlhepekdaaDoorW.PrintWords Go.Proofs.YtefnonlhepekdaaDoorW.PrintLast Go.Proofs.YtefnonlhepekdaaDoorW.PrintMore Go.Proofs.YtefnonlhepekdaaDoor.Leaf

theorem placesOf_eraseIdx (l : List (Nat × Nat)) (k : Nat) : (placesOf l).eraseIdx k = placesOf (l.eraseIdx k) := by
  unfold placesOf
  rw [List.eraseIdx_eq_take_drop_succ, List.eraseIdx_eq_take_drop_succ, List.map_append, List.map_take, List.map_drop]
set_option maxHeartbeats 1000000 in
set_option maxRecDepth 100000 in
theorem proof_places_none (i n : Nat) (w : World) (h : 4611686018427387904 < n ∨ n ≤ i) :
    Calls Tryd.prog 18 #[.int .u64 i, .int .u64 n] w fun e w' => e = .returned (.tuple #[.slice none 0 0, .int .i64 (if 4611686018427387904 < n then 30 else 32)]) ∧ Below w.heap.size w w' := by
  by_cases hn : 4611686018427387904 < n
  · have e0 : (if 4611686018427387904 < n then (30 : Int) else 32) = 30 := if_pos hn
    rw [e0]
    have hd : ((n : Int) > 4611686018427387904) := by omega
    go_enter Tryd.func18, Tryd.ntmps18
    go_wp2
    go_ret2
    exact ⟨rfl, Below.refl _ _⟩
  · have e0 : (if 4611686018427387904 < n then (30 : Int) else 32) = 32 := if_neg hn
    rw [e0]
    have hd : ¬ ((n : Int) > 4611686018427387904) := by omega
    obtain ⟨k, hk⟩ := (path_none i n (by omega)).rounds
    have HK := Aside0.mk hk
    clear hk
    go_enter Tryd.func18, Tryd.ntmps18
    go_wp2_with fail
    refine (pos_Path.calls k i n _ _ _ HK.out).mono ?_
    rintro e w1 ⟨v1, rfl, hr, hb⟩
    obtain ⟨A1, c1, e1⟩ := Kd.R_slice hr
    rw [e1]
    have HB := Aside0.mk hb
    clear hr hb e1
    go_wp2
    go_ret2
    exact ⟨rfl, HB.out⟩
set_option maxHeartbeats 1000000 in
set_option maxRecDepth 100000 in
theorem proof_places_some (i n : Nat) (w : World) (h : i < n) (hn : n ≤ 4611686018427387904) :
    Calls Tryd.prog 18 #[.int .u64 i, .int .u64 n] w fun e w' => ∃ v, e = .returned (.tuple #[v, .int .i64 0]) ∧ Kd.R (Kd.int .u64) 30 w' w.heap.size (fun _ => True) v (placesOf (proofN i n)) ∧ Below w.heap.size w w' := by
  have hd : ¬ ((n : Int) > 4611686018427387904) := by omega
  have hlen := proof_length h hn
  have hpl := proof_len h hn
  have hN : placesOf (proofN i n) = placesOf (sibsN i (hiN i n)) ++ (placesOf (topsN n)).eraseIdx (overN i n) := by
    rw [placesOf_eraseIdx]
    unfold proofN placesOf
    rw [List.map_append]
  have hO : overN i n ≤ 64 := pop_lef 64 _
  have hol : overN i n < (placesOf (topsN n)).length := by simpa [placesOf] using hpl.1
  have hl2 : (placesOf (sibsN i (hiN i n))).length ≤ 62 := by have := hi_le h hn; simp [placesOf, sibsN]; exact this
  have hl3 : (placesOf (topsN n)).length ≤ 63 := by simp only [placesOf, List.length_map]; exact topsF_len 63 n
  obtain ⟨k1, hk1⟩ := (path_val i n h hn).rounds
  obtain ⟨k2, hk2⟩ := (peak_val i n h hn).rounds
  obtain ⟨k3, hk3⟩ := (peaks_val n hn).rounds
  rw [hN]
  clear hN hlen hpl
  generalize placesOf (sibsN i (hiN i n)) = X at *
  generalize placesOf (topsN n) = Y at *
  generalize overN i n = o at *
  have HK1 := Aside0.mk hk1
  have HK2 := Aside0.mk hk2
  have HK3 := Aside0.mk hk3
  clear hk1 hk2 hk3
  go_enter Tryd.func18, Tryd.ntmps18
  go_wp2_with fail
  refine (pos_Path.calls k1 i n _ _ _ HK1.out).mono ?_
  rintro e w1 ⟨v1, rfl, hr, hb⟩
  obtain ⟨A1, c1, e1⟩ := Kd.R_slice hr
  subst e1
  have HR := Aside0.mk hr
  have HB := Aside0.mk hb
  clear hr hb
  go_wp2_with fail
  refine (pos_Peak.calls k2 i n _ _ _ HK2.out).mono ?_
  rintro e w2 ⟨rfl, hd2⟩
  have HD2 := Aside0.mk hd2
  clear hd2
  go_wp2_with fail
  refine (pos_Peaks.calls k3 n _ _ HK3.out).mono ?_
  rintro e w3 ⟨v3, rfl, hr3, hb3⟩
  obtain ⟨A3, c3, e3⟩ := Kd.R_slice hr3
  subst e3
  have HR3 := Aside0.mk hr3
  have HB3 := Aside0.mk hb3
  clear hr3 hb3
  go_wp2_with fail
  refine (delete_one o (o + 1) rfl w3 w2.heap.size _ Y HR3.out (by omega)).mono ?_
  rintro e w4 ⟨v4, rfl, hr4, hf4, ho4⟩
  have hs12 := HD2.out.below.size
  have hs23 := HB3.out.size
  have hlt1 := Kd.R_lt HR.out
  have hb3 := Kd.R_base HR3.out
  have hr1 := R_frm (flat_int .u64) (Kd.R_below (Kd.R_below HR.out HD2.out.below) HB3.out) hf4 (fun k hk hs => by have := hlt1 k hk; have := hb3 k hs.symm; omega)
  have hbl : Below w.heap.size w w4 := below_on (blt (blt HB.out HD2.out.below) HB3.out) (by have := HB.out.size; omega) (Below.refl _ _) |>.trans (hf4.below (by have := HB.out.size; omega) (fun k hk => by have := hb3 k hk.symm; have := HB.out.size; omega))
  have hs4 := hf4.size
  have hw4 : w.heap.size ≤ w4.heap.size := by have := HB.out.size; omega
  have hle : (Y.eraseIdx o).length ≤ 63 := Nat.le_trans (List.length_eraseIdx_le ..) hl3
  obtain ⟨A4, c4, e4⟩ := Kd.R_slice hr4
  subst e4
  have HR1 := Aside0.mk hr1
  have HC4 := Aside0.mk (Kd.R_reads' hr4).2.2
  have HBL := Aside0.mk hbl
  have HW4 := Aside0.mk hw4
  have HLE := Aside0.mk hle
  have HL2 := Aside0.mk hl2
  have H4 := Aside0.mk hlt1
  have H5 := Aside0.mk (Kd.R_base HR.out)
  clear hr4 hr1 hbl hf4 ho4 hle hl2 hlt1 hb3 hs12 hs23 hs4 hw4 hol hl3
  go_wp2_with (at_builtin; go_loud (refine app_row .u64 w.heap.size rfl (.tmp 26) (.tmp 32) 31 30 (.int .u64 0) 8 rfl Tryd.underlying31 info30 rfl (by omega) _ _ _ _ _ _ rfl rfl HR1.out HC4.out HW4.out (by have := HLE.out; have := HL2.out; omega) ?_; intro A5 c5 w5 hr5 hf5 hat5; have HR5 := Aside0.mk hr5; have HF5 := Aside0.mk hf5; clear hr5 hf5 hat5))
  go_ret2
  exact ⟨_, rfl, HR5.out, HBL.out.trans (HF5.out.below HW4.out (fun k hk => H5.out k hk.symm))⟩
theorem proof_places (i n : Nat) (w : World) :
    Calls Tryd.prog 18 #[.int .u64 i, .int .u64 n] w fun e w' => ∃ v, e = .returned (.tuple #[v, .int .i64 (proofAns i n).2]) ∧ Kd.R (Kd.int .u64) 30 w' w.heap.size (fun _ => True) v (proofAns i n).1 ∧ Below w.heap.size w w' := by
  by_cases h : 4611686018427387904 < n ∨ n ≤ i
  · refine (proof_places_none i n w h).mono ?_
    rintro e w' ⟨he, hb⟩
    have e1 : proofAns i n = ([], if 4611686018427387904 < n then 30 else 32) := by
      unfold proofAns
      by_cases c1 : 4611686018427387904 < n
      · rw [if_pos c1, if_pos c1]
      · rw [if_neg c1, if_neg c1, if_pos (by omega)]
    rw [e1]
    exact ⟨_, he, Kd.R_nil _ _ _ _ _, hb⟩
  · have e1 : proofAns i n = (placesOf (proofN i n), 0) := by
      unfold proofAns
      rw [if_neg (by omega), if_neg (by omega)]
    rw [e1]
    exact proof_places_some i n w (by omega) (by omega)
end Go.Proofs.YtefnonlhepekdaaDoor.M

set_option linter.unusedVariables false
set_option linter.unusedSimpArgs false
namespace Go.Proofs.YtefnonlhepekdaaDoor.M
open Go.RowKit Go.Proofs.YtefnonlhepekdaaDoorW.PrintWords Go.Proofs.YtefnonlhepekdaaDoorW.PrintLast Go.Proofs.YtefnonlhepekdaaDoorW.PrintMore Go.Proofs.YtefnonlhepekdaaDoor.Leaf

set_option maxHeartbeats 1000000 in
set_option maxRecDepth 100000 in
theorem span_calls (a b : Nat) (w : World) (ha : a < 18446744073709551616) (hb : b ≤ 4611686018427387904) (hT : DB w) :
    Calls Tryd.prog 43 #[.int .u64 a, .int .u64 b] w fun e w' => ∃ v, e = .returned v ∧ kS.R 74 w' w.heap.size (fun _ => True) v (spanN a b) ∧ Below w.heap.size w w' := by
  have HT := Aside0.mk hT
  have hlen := span_len a b hb
  have HL := Aside0.mk hlen
  clear hT hlen
  have hd : ¬ ((b : Int) > 4611686018427387904) := by omega
  go_enter Tryd.func43, Tryd.ntmps43
  go_wp2_with fail
  go_loopw [0, 5] (fun q s wr => ∃ (c : Nat) (P : List (Nat × Nat)), c < 18446744073709551616 ∧ q = .int .u64 c ∧ Aside0 (P ++ spanN c b = spanN a b) ∧ Aside0 (kS.R 74 wr w.heap.size (fun _ => True) s P) ∧ Aside0 (Below w.heap.size w wr)) (fun q _ _ => b - (intOf q).toNat)
  case atStart => exact ⟨a, [], ha, rfl, ⟨rfl⟩, ⟨Kd.R_nil _ _ _ _ _⟩, ⟨Below.refl _ _⟩⟩
  case round =>
    obtain ⟨c, P, hc, rfl, HP, HS, HB⟩ := hrel
    by_cases hlt : c < b
    · obtain ⟨k1, k2, k3⟩ := h_facts hlt hb
      have hstep := span_step hlt hb
      have hPl : P.length ≤ 127 := by have := HL.out; rw [← HP.out, List.length_append] at this; omega
      have hsub : IntKind.u64.wrap ((b : Int) - (c : Int)) = ((b - c : Nat) : Int) := by rw [IntKind.wrap_u64]; omega
      have hp := p2_pos (hN c b)
      have hmin : min (loN c : Int) ((Lib.bitLen (b - c) - 1 : Nat) : Int) = (hN c b : Int) := by unfold hN; omega
      have hu8 : IntKind.u8.wrap (hN c b : Int) = (hN c b : Int) := by rw [IntKind.wrap_u8]; omega
      have hshr := shr_nat c (hN c b) (by omega)
      have hshl : shl .u64 1 (hN c b : Int) = ((2 ^ hN c b : Nat) : Int) := by have := shl_nat 1 (hN c b) (by omega) (by omega); rwa [Nat.one_mul] at this
      have hadd : IntKind.u64.wrap ((c : Int) + ((2 ^ hN c b : Nat) : Int)) = ((c + 2 ^ hN c b : Nat) : Int) := by rw [IntKind.wrap_u64]; omega
      have hne : b - c ≠ 0 := by omega
      have hble : b - c ≤ 4611686018427387904 := by omega
      obtain ⟨dd, hdd⟩ : ∃ d, d = b - c := ⟨_, rfl⟩
      rw [← hdd] at hsub hne hble hmin
      have HHI := Aside0.mk (high_calls dd hne hble)
      have HLO := Aside0.mk (low_calls c hc)
      have HST := Aside0.mk hstep
      have HK := Aside0.mk (show c + 2 ^ hN c b ≤ b by omega)
      have hs5 := HB.out.size
      have HHC := Aside0.mk (show ((hN c b : Nat) : Int) = (hN c b : Int) from rfl)
      clear hstep hne hble hdd k2 k3
      generalize Lib.bitLen dd - 1 = uu at *
      generalize hN c b = hh at *
      generalize loN c = lo at *
      obtain ⟨qq, hqq⟩ : ∃ q, q = c / 2 ^ hh := ⟨_, rfl⟩
      obtain ⟨pp, hpp⟩ : ∃ p, p = 2 ^ hh := ⟨_, rfl⟩
      obtain ⟨c2, hc2⟩ : ∃ z, z = c + pp := ⟨_, rfl⟩
      have hq2 : (c : Int) / 2 ^ hh = (qq : Int) := by rw [hqq]; push_cast; rfl
      have hp2 : IntKind.u64.wrap ((2 : Int) ^ hh) = (pp : Int) := by
        have h2 : ((2 : Int) ^ hh) = (pp : Int) := by rw [hpp]; push_cast; rfl
        have hk := HK.out
        rw [← hpp] at hk
        rw [h2, IntKind.wrap_u64]
        omega
      rw [← hqq] at hshr HST
      rw [← hpp] at hshl hadd HK hp HST
      rw [← hc2] at hadd HK HST
      have HC2 := Aside0.mk hc2
      clear hqq hpp hc2
      obtain ⟨As, ms, cs, e9⟩ : ∃ A m c, u5 = .slice A m c := by obtain ⟨A, c, h⟩ := Kd.R_slice HS.out; exact ⟨A, _, c, h⟩
      subst e9
      go_wp2_with fail
      refine (HLO.out _ (HT.out.below HB.out)).mono ?_
      rintro e w1 ⟨rfl, rfl⟩
      go_wp2_with fail
      refine (HHI.out _).mono ?_
      rintro e w2 ⟨rfl, hd2⟩
      have hs7 := hd2.below.size
      have HR2 := Aside0.mk (Kd.R_below HS.out hd2.below)
      have HB2 := Aside0.mk (blt HB.out hd2.below)
      have hbase : w.heap.size ≤ w2.heap.size := by omega
      clear hd2 HS HB hs5 hs7
      go_wp2_with ((with_reducible refine gate_builtin (b := .append) (xs := #[.tmp 19, .tmp 26]) rfl ?_); at_builtin; go_loud (refine app_oneN kS w.heap.size rfl (.tmp 19) (.tmp 26) 70 74 (.agg #[.int .u8 0, .int .u64 0]) 16 rfl Tryd.underlying70 infoS rfl (by decide) (by decide) (.slice As ms cs) P (hh, qq) (spCells (hh, qq)) rfl rfl rfl HR2.out hbase (by omega) ?_; intro A9 n9 c9 w9 hr9 hf9 ha9; have HR9 := Aside0.mk hr9; have HF9 := Aside0.mk hf9; have HA9 := Aside0.mk ha9; clear hr9 hf9 ha9))
      go_roundw
      case rel => exact ⟨c2, P ++ [(hh, qq)], by have := HK.out; omega, by go_num, ⟨by rw [List.append_assoc, List.singleton_append, ← HST.out]; exact HP.out⟩, HR9, ⟨HB2.out.trans (HF9.out.below hbase (fun k hk => Kd.R_base HR2.out k hk.symm))⟩⟩
      case measure => have := HC2.out; have := HK.out; simp [intOf]; omega
    · have hcb : b ≤ c := by omega
      have hPf := HP.out
      rw [span_stop hcb, List.append_nil] at hPf
      have HPf := Aside0.mk hPf
      clear hPf hcb
      obtain ⟨As, ms, cs, e9⟩ : ∃ A m c, u5 = .slice A m c := by obtain ⟨A, c, h⟩ := Kd.R_slice HS.out; exact ⟨A, _, c, h⟩
      subst e9
      go_wp2_with fail
      go_ret
      exact ⟨_, rfl, HPf.out ▸ HS.out, HB.out⟩
end Go.Proofs.YtefnonlhepekdaaDoor.M

set_option linter.unusedVariables false
set_option linter.unusedSimpArgs false
namespace Go.Proofs.YtefnonlhepekdaaDoor.M
open Go.RowKit Go.Proofs.YtefnonlhepekdaaDoorW.PrintWords Go.Proofs.YtefnonlhepekdaaDoorW.PrintLast Go.Proofs.YtefnonlhepekdaaDoorW.PrintMore Go.Proofs.YtefnonlhepekdaaDoor.Leaf

theorem h_go {a b t : Nat} (hab : a < b) (hb : b ≤ 4611686018427387904) (ht : t < hN a b) : t < 62 ∧ a % 2 ^ (t + 1) = 0 ∧ 2 ^ (t + 1) ≤ b - a := by
  obtain ⟨h1, h2, h3⟩ := h_facts hab hb
  exact ⟨by omega, Nat.mod_eq_zero_of_dvd (Nat.dvd_trans (Nat.pow_dvd_pow 2 ht) h3), Nat.le_trans (Nat.pow_le_pow_right (by omega) ht) h2⟩
theorem h_stop {a b : Nat} (hab : a < b) (hb : b ≤ 4611686018427387904) (h0 : a % 2 ^ (hN a b + 1) = 0) : b - a < 2 ^ (hN a b + 1) := by
  have hl := len_facts (x := b - a) (by omega) (by omega)
  rcases Nat.lt_or_ge (loN a) (Lib.bitLen (b - a) - 1) with h | h
  · have e : hN a b = loN a := Nat.min_eq_left (by omega)
    rw [e] at h0
    by_cases hz : a = 0
    · subst hz
      have : loN 0 = 64 := rfl
      omega
    · exact absurd (Nat.dvd_of_mod_eq_zero h0) (lo_not hz (by omega) (by omega))
  · have e : hN a b = Lib.bitLen (b - a) - 1 := Nat.min_eq_right h
    rw [e, show Lib.bitLen (b - a) - 1 + 1 = Lib.bitLen (b - a) by omega]
    exact hl.2.2.1
theorem power_calls (h : Nat) (hh : h ≤ 63) (w : World) :
    Calls Tryd.prog 100 #[.int .i64 h] w fun e w' => e = .returned (.int .u64 ((2 ^ h : Nat) : Int)) ∧ Drawn0 w w' := by
  obtain ⟨k, hk⟩ := (power_val h hh).rounds
  exact massifref3_Power.calls k _ _ w hk

set_option maxHeartbeats 1000000 in
set_option maxRecDepth 100000 in
theorem span4_calls (a b : Nat) (w : World) (ha : a < 18446744073709551616) (hb : b ≤ 4611686018427387904) :
    Calls Tryd.prog 61 #[.int .u64 a, .int .u64 b] w fun e w' => ∃ v, e = .returned v ∧ kS.R 74 w' w.heap.size (fun _ => True) v (spanN a b) ∧ Below w.heap.size w w' := by
  have hlen := span_len a b hb
  have HL := Aside0.mk hlen
  clear hlen
  have hd : ¬ ((b : Int) > 4611686018427387904) := by omega
  by_cases hab : a < b
  · have hge : ¬ ((a : Int) ≥ (b : Int)) := by omega
    go_enter Tryd.func61, Tryd.ntmps61
    go_wp2_with fail
    clear hge
    go_loopw [0, 5] (fun q s wr => ∃ (c : Nat) (P : List (Nat × Nat)), c < 18446744073709551616 ∧ q = .int .u64 c ∧ Aside0 (P ++ spanN c b = spanN a b) ∧ Aside0 (kS.R 74 wr w.heap.size (fun _ => True) s P) ∧ Aside0 (Below w.heap.size w wr)) (fun q _ _ => b - (intOf q).toNat)
    case atStart => exact ⟨a, [], ha, rfl, ⟨rfl⟩, ⟨Kd.R_nil _ _ _ _ _⟩, ⟨Below.refl _ _⟩⟩
    case round =>
      obtain ⟨c, P, hc, rfl, HP, HS, HB⟩ := hrel
      by_cases hlt : c < b
      · obtain ⟨k1, k2, k3⟩ := h_facts hlt hb
        have hstep := span_step hlt hb
        have hPl : P.length ≤ 127 := by have := HL.out; rw [← HP.out, List.length_append] at this; omega
        have hgo : ∀ t, t < hN c b → t < 62 ∧ c % 2 ^ (t + 1) = 0 ∧ 2 ^ (t + 1) ≤ b - c := fun t ht => h_go hlt hb ht
        have hst : c % 2 ^ (hN c b + 1) = 0 → b - c < 2 ^ (hN c b + 1) := h_stop hlt hb
        have hsub : IntKind.u64.wrap ((b : Int) - (c : Int)) = ((b - c : Nat) : Int) := by rw [IntKind.wrap_u64]; omega
        obtain ⟨dd, hdd⟩ : ∃ d, d = b - c := ⟨_, rfl⟩
        rw [← hdd] at hsub
        have HGO := Aside0.mk hgo
        have HST := Aside0.mk hstep
        have HSP := Aside0.mk hst
        have HDD := Aside0.mk hdd
        have HK := Aside0.mk (show c + 2 ^ hN c b ≤ b by omega)
        clear hgo hstep hst hdd k2 k3
        generalize hN c b = hh at *
        obtain ⟨As, ms, cs, e9⟩ : ∃ A m c, u5 = .slice A m c := by obtain ⟨A, c, h⟩ := Kd.R_slice HS.out; exact ⟨A, _, c, h⟩
        subst e9
        go_upto_block 2 with (fail)
        go_cut [6] from 15 to 52 (fun q wc => q = .int .i64 hh ∧ Aside0 (Below wr.heap.size wr wc))
        case first =>
          go_wp2_with fail
          go_loopw [6] (fun q w3 => ∃ t : Nat, t ≤ hh ∧ q = .int .i64 t ∧ Aside0 (Below wr.heap.size wr w3)) (fun q _ => hh - (intOf q).toNat)
          case atStart => exact ⟨0, Nat.zero_le _, rfl, ⟨Below.refl _ _⟩⟩
          case round =>
            obtain ⟨t, ht, rfl, HB3⟩ := hrel
            by_cases hth : t < hh
            · obtain ⟨g1, g2, g3⟩ := HGO.out t hth
              have hpw : ∀ w, Calls Tryd.prog 100 #[.int .i64 ((t : Int) + 1)] w fun e w' => e = .returned (.int .u64 ((2 ^ (t + 1) : Nat) : Int)) ∧ Drawn0 w w' := power_calls (t + 1) (Nat.le_trans g1 (by decide))
              have hp := p2_pos (t + 1)
              have e1 : wrap64 ((t : Int) + 1) = ((t + 1 : Nat) : Int) := by rw [i64_of _ (by omega) (by omega)]; omega
              rw [← HDD.out] at g3
              have hpl := p2_le (show t + 1 ≤ 63 from Nat.le_trans g1 (by decide))
              generalize 2 ^ (t + 1) = pp at *
              have HPW := Aside0.mk hpw
              clear hpw
              have hmod : (c : Int) % (pp : Int) = 0 := by omega
              go_wp2_with fail
              refine (HPW.out _).mono ?_
              rintro e w4 ⟨rfl, hd4⟩
              have HB4 := Aside0.mk (blt HB3.out hd4.below)
              clear hd4
              go_wp2_with fail
              refine (HPW.out _).mono ?_
              rintro e w5 ⟨rfl, hd5⟩
              have HB5 := Aside0.mk (blt HB4.out hd5.below)
              clear hd5
              go_wp2_with fail
              go_roundw
              case rel => exact ⟨t + 1, by omega, by go_num, HB5⟩
              case measure => simp [intOf]; omega
            · obtain rfl : t = hh := by omega
              by_cases h62 : t < 62
              · have hpw : ∀ w, Calls Tryd.prog 100 #[.int .i64 ((t : Int) + 1)] w fun e w' => e = .returned (.int .u64 ((2 ^ (t + 1) : Nat) : Int)) ∧ Drawn0 w w' := power_calls (t + 1) (by omega)
                have hp := p2_pos (t + 1)
                have e1 : wrap64 ((t : Int) + 1) = ((t + 1 : Nat) : Int) := by rw [i64_of _ (by omega) (by omega)]; omega
                have hsp := HSP.out
                rw [← HDD.out] at hsp
                generalize 2 ^ (t + 1) = pp at *
                have HPW := Aside0.mk hpw
                clear hpw
                by_cases hm : c % pp = 0
                · have hmod : (c : Int) % (pp : Int) = 0 := by omega
                  have hle := hsp hm
                  clear hsp
                  go_wp2_with fail
                  refine (HPW.out _).mono ?_
                  rintro e w4 ⟨rfl, hd4⟩
                  have HB4 := Aside0.mk (blt HB3.out hd4.below)
                  clear hd4
                  go_wp2_with fail
                  refine (HPW.out _).mono ?_
                  rintro e w5 ⟨rfl, hd5⟩
                  have HB5 := Aside0.mk (blt HB4.out hd5.below)
                  clear hd5
                  go_wp2_with fail
                  go_meet
                  case rel => exact ⟨rfl, HB5⟩
                · have hmod : ¬ ((c : Int) % (pp : Int) = 0) := by omega
                  clear hsp
                  go_wp2_with fail
                  refine (HPW.out _).mono ?_
                  rintro e w4 ⟨rfl, hd4⟩
                  have HB4 := Aside0.mk (blt HB3.out hd4.below)
                  clear hd4
                  go_wp2_with fail
                  go_meet
                  case rel => exact ⟨rfl, HB4⟩
              · have h62' : ¬ ((t : Int) < 62) := by omega
                go_wp2_with fail
                go_meet
                case rel => exact ⟨rfl, HB3⟩
        case rest =>
          obtain ⟨rfl, HBc⟩ := hcut
          have hpw : ∀ w, Calls Tryd.prog 100 #[.int .i64 (hh : Int)] w fun e w' => e = .returned (.int .u64 ((2 ^ hh : Nat) : Int)) ∧ Drawn0 w w' := power_calls hh (by omega)
          have hp := p2_pos hh
          obtain ⟨qq, hqq⟩ : ∃ q, q = c / 2 ^ hh := ⟨_, rfl⟩
          obtain ⟨pp, hpp⟩ : ∃ p, p = 2 ^ hh := ⟨_, rfl⟩
          obtain ⟨c2, hc2⟩ : ∃ z, z = c + pp := ⟨_, rfl⟩
          have hst := HST.out
          have hk := HK.out
          rw [← hqq] at hst
          rw [← hpp] at hst hk hpw hp hqq
          rw [← hc2] at hst hk
          have hq2 : (c : Int) / (pp : Int) = (qq : Int) := by rw [hqq]; push_cast; rfl
          have hadd : IntKind.u64.wrap ((c : Int) + (pp : Int)) = (c2 : Int) := by rw [IntKind.wrap_u64]; omega
          have hqc : qq ≤ c := by rw [hqq]; exact Nat.div_le_self _ _
          have hwq : IntKind.u64.wrap (qq : Int) = (qq : Int) := w64_nat qq (Nat.lt_of_le_of_lt hqc hc)
          have hu8 : IntKind.u8.wrap (hh : Int) = (hh : Int) := by rw [IntKind.wrap_u8]; omega
          have HPW := Aside0.mk hpw
          have HST2 := Aside0.mk hst
          have HK2 := Aside0.mk hk
          have HC2 := Aside0.mk hc2
          have HR2 := Aside0.mk (Kd.R_below HS.out HBc.out)
          have HB2 := Aside0.mk (blt HB.out HBc.out)
          clear hpw hst hk hc2 hqq hpp HST HK HGO HSP HDD hsub
          go_wp2_with fail
          refine (HPW.out _).mono ?_
          rintro e w4 ⟨rfl, hd4⟩
          have HR4 := Aside0.mk (Kd.R_below HR2.out hd4.below)
          have HB4 := Aside0.mk (blt HB2.out hd4.below)
          have hbase : w.heap.size ≤ w4.heap.size := HB4.out.size
          clear hd4 HS HR2 HB2
          go_wp2_with ((with_reducible refine gate_builtin (b := .append) (xs := #[.tmp 39, .tmp 47]) rfl ?_); at_builtin; go_loud (refine app_oneN kS w.heap.size rfl (.tmp 39) (.tmp 47) 70 74 (.agg #[.int .u8 0, .int .u64 0]) 16 rfl Tryd.underlying70 infoS rfl (by decide) (by decide) (.slice As ms cs) P (hh, qq) (spCells (hh, qq)) rfl rfl rfl HR4.out hbase (by omega) ?_; intro A9 n9 c9 w9 hr9 hf9 ha9; have HR9 := Aside0.mk hr9; have HF9 := Aside0.mk hf9; have HA9 := Aside0.mk ha9; clear hr9 hf9 ha9))
          refine (HPW.out _).mono ?_
          rintro e w6 ⟨rfl, hd6⟩
          have HR6 := Aside0.mk (Kd.R_below HR9.out hd6.below)
          have HB6 := Aside0.mk (blt (HB4.out.trans (HF9.out.below hbase (fun k hk => Kd.R_base HR4.out k hk.symm))) hd6.below)
          clear hd6
          go_wp2_with fail
          go_roundw
          case rel => exact ⟨c2, P ++ [(hh, qq)], by have := HK2.out; omega, by go_num, ⟨by rw [List.append_assoc, List.singleton_append, ← HST2.out]; exact HP.out⟩, HR6, HB6⟩
          case measure => have := HC2.out; have := HK2.out; simp [intOf]; omega
      · have hcb : b ≤ c := by omega
        have hPf := HP.out
        rw [span_stop hcb, List.append_nil] at hPf
        have HPf := Aside0.mk hPf
        clear hPf hcb
        obtain ⟨As, ms, cs, e9⟩ : ∃ A m c, u5 = .slice A m c := by obtain ⟨A, c, h⟩ := Kd.R_slice HS.out; exact ⟨A, _, c, h⟩
        subst e9
        go_wp2_with fail
        go_ret
        exact ⟨_, rfl, HPf.out ▸ HS.out, HB.out⟩
  · have hge : (a : Int) ≥ (b : Int) := by omega
    go_enter Tryd.func61, Tryd.ntmps61
    go_wp2_with fail
    go_ret
    exact ⟨_, rfl, by rw [span_stop (by omega)]; exact Kd.R_nil _ _ _ _ _, Below.refl _ _⟩
end Go.Proofs.YtefnonlhepekdaaDoor.M

set_option linter.unusedVariables false
set_option linter.unusedSimpArgs false
namespace Go.Proofs.YtefnonlhepekdaaDoor.M
open Go.RowKit Go.Proofs.YtefnonlhepekdaaDoorW.PrintWords Go.Proofs.YtefnonlhepekdaaDoorW.PrintLast Go.Proofs.YtefnonlhepekdaaDoorW.PrintMore Go.Proofs.YtefnonlhepekdaaDoor.Leaf

theorem at_spot {w : World} {A : Option Addr} {n : Nat} {xs : List (Nat × Nat)} (h : kS.C w A n xs) (j : Nat) (hj : j < n) : ∃ ad : Addr, A = some ad ∧ w.cell? (ad.add (j * 2)) = some (.int .u8 ((xs.getD j (0, 0)).1 : Int)) ∧ w.cell? ⟨(ad.add (j * 2)).block, (ad.add (j * 2)).off + 1, none⟩ = some (.int .u64 ((xs.getD j (0, 0)).2 : Int)) := by
  obtain ⟨ad, c, e, _, hK, hc0⟩ := Kd.C_get h (0, 0) (j : Int) (by omega) (by omega)
  have hc : ∀ k u, c[k]? = some u → w.cell? (ad.add (j * 2 + k)) = some u := hc0
  have hK : c = spCells (xs.getD j (0, 0)) := hK
  subst hK
  exact ⟨ad, e, hc 0 _ rfl, by rw [← add_field _ _ 1 (by omega)]; exact hc 1 _ rfl⟩
theorem place_calls (h i : Nat) (w : World) (hi : (i + 1) * 2 ^ h ≤ 4611686018427387904) :
    Calls Tryd.prog 67 #[.agg #[.int .u8 h, .int .u64 i]] w fun e w' => e = .returned (.tuple #[.int .u64 ((placeN h i : Nat) : Int), .bool true]) ∧ Below w.heap.size w w' :=
  pos_Place.calls _ _ _ _ w (place_val h i hi)
theorem peaks_calls (n : Nat) (w : World) (hn : n ≤ 4611686018427387904) :
    Calls Tryd.prog 66 #[.int .u64 n] w fun e w' => ∃ v, e = .returned v ∧ Kd.R (Kd.int .u64) 30 w' w.heap.size (fun _ => True) v (placesOf (topsN n)) ∧ Below w.heap.size w w' := by
  obtain ⟨k, hk⟩ := (peaks_val n hn).rounds
  exact pos_Peaks.calls k n _ w hk
theorem pref_none (m n : Nat) (w : World) (h : 4611686018427387904 < n ∨ n < m) :
    Calls Tryd.prog 19 #[.int .u64 m, .int .u64 n] w fun e w' => e = .returned (.tuple #[.slice none 0 0, .int .i64 30]) ∧ Below w.heap.size w w' := by
  by_cases hn : 4611686018427387904 < n
  · have hd : ((n : Int) > 4611686018427387904) := by omega
    clear h
    go_enter Tryd.func19, Tryd.ntmps19
    go_wp2
    go_ret2
    exact ⟨rfl, Below.refl _ _⟩
  · have hd : ¬ ((n : Int) > 4611686018427387904) := by omega
    have hm : (m : Int) > (n : Int) := by omega
    clear h
    go_enter Tryd.func19, Tryd.ntmps19
    go_wp2
    go_ret2
    exact ⟨rfl, Below.refl _ _⟩
set_option maxHeartbeats 1000000 in
set_option maxRecDepth 100000 in
theorem pref_some (m n : Nat) (w : World) (hmn : m ≤ n) (hn : n ≤ 4611686018427387904) (hT : DB w) :
    Calls Tryd.prog 19 #[.int .u64 m, .int .u64 n] w fun e w' => ∃ v, e = .returned (.tuple #[v, .int .i64 0]) ∧ Kd.R (Kd.int .u64) 30 w' w.heap.size (fun _ => True) v (placesOf (prefN m n)) ∧ Below w.heap.size w w' := by
  have hd : ¬ ((n : Int) > 4611686018427387904) := by omega
  have hd2 : ¬ ((m : Int) > (n : Int)) := by omega
  have HT := Aside0.mk hT
  have HPK := Aside0.mk (fun W => peaks_calls m W (Nat.le_trans hmn hn))
  have HSP := Aside0.mk (fun W => span_calls m n W (by omega) hn)
  have hL1 : (placesOf (topsN m)).length ≤ 63 := by simp only [placesOf, List.length_map]; exact topsF_len 63 m
  have HL := Aside0.mk hL1
  have HS1 := Aside0.mk (span_len m n hn)
  have HF := Aside0.mk (fun s hs => Nat.le_trans (span_fit n hn (n - m) m (Nat.le_refl _) s hs).1 hn)
  have HN := Aside0.mk (show placesOf (prefN m n) = placesOf (topsN m) ++ placesOf (spanN m n) by unfold prefN placesOf; rw [List.map_append])
  clear hT hmn hn hL1
  generalize spanN m n = L at *
  generalize placesOf (topsN m) = P0 at *
  go_enter Tryd.func19, Tryd.ntmps19
  go_wp2_with fail
  refine (HPK.out _).mono ?_
  rintro e w1 ⟨v1, rfl, hr1, hb1⟩
  have HR1 := Aside0.mk hr1
  have HB1 := Aside0.mk hb1
  clear hr1 hb1
  obtain ⟨A1, n1, c1, e9⟩ : ∃ A m c, v1 = .slice A m c := by obtain ⟨A, c, h⟩ := Kd.R_slice HR1.out; exact ⟨A, _, c, h⟩
  subst e9
  go_wp2_with fail
  refine (HSP.out _ (HT.out.below HB1.out)).mono ?_
  rintro e w2 ⟨v2, rfl, hr2, hb2⟩
  obtain ⟨A2, c2, e2⟩ := Kd.R_slice hr2
  subst e2
  have hbA := HB1.out.size
  have HC2 := Aside0.mk (Kd.R_lower hr2 hbA)
  have HR2 := Aside0.mk (Kd.R_below HR1.out hb2)
  have HB2 := Aside0.mk (blt HB1.out hb2)
  clear hr2 hb2 HR1 HSP HPK HT HB1 hbA
  go_wp2_with fail
  go_loopw [6, 24] (fun s q wr => ∃ j : Nat, j ≤ L.length ∧ q = .int .i64 j ∧ Aside0 (Kd.R (Kd.int .u64) 30 wr w.heap.size (fun _ => True) s (P0 ++ placesOf (L.take j))) ∧ Aside0 (kS.R 74 wr w.heap.size (fun _ => True) (.slice A2 L.length c2) L) ∧ Aside0 (Below w.heap.size w wr)) (fun _ q _ => L.length - (intOf q).toNat)
  case atStart => exact ⟨0, Nat.zero_le _, rfl, ⟨by rw [List.take_zero, show placesOf [] = [] from rfl, List.append_nil]; exact HR2.out⟩, HC2, HB2⟩
  case round =>
    obtain ⟨j, hj, rfl, HS, HC, HB⟩ := hrel
    have hL127 := HS1.out
    clear HC2 HB2 HR2
    obtain ⟨As, ms, cs, e9⟩ : ∃ A m c, u6 = .slice A m c := by obtain ⟨A, c, h⟩ := Kd.R_slice HS.out; exact ⟨A, _, c, h⟩
    subst e9
    by_cases hlt : j < L.length
    · obtain ⟨ad, ea, hx, hy⟩ := at_spot (R_C HC.out) j hlt
      subst ea
      have hfit := HF.out (L[j]) (List.getElem_mem hlt)
      have hcat : placesOf (L.take (j + 1)) = placesOf (L.take j) ++ [((placeN (L[j]).1 (L[j]).2 : Nat) : Int)] := by
        unfold placesOf
        rw [List.take_add_one, List.getElem?_eq_getElem hlt, List.map_append]
        rfl
      rw [List.getD_eq_getElem?_getD, List.getElem?_eq_getElem hlt] at hx hy
      simp only [Option.getD_some] at hx hy
      obtain ⟨sp, hsp⟩ : ∃ s, s = L[j] := ⟨_, rfl⟩
      rw [← hsp] at hfit hcat hx hy
      clear hsp
      obtain ⟨hh, ii⟩ := sp
      simp only at hfit hcat hx hy
      have HPL := Aside0.mk (fun W => place_calls hh ii W hfit)
      have HCat := Aside0.mk hcat
      have hlen : (placesOf (L.take j)).length ≤ 127 := by
        have := HS1.out
        simp only [placesOf, List.length_map, List.length_take]
        omega
      have hl0 := HL.out
      clear hfit hcat
      generalize placeN hh ii = pl at *
      obtain ⟨P1, hP1⟩ : ∃ P, P = P0 ++ placesOf (L.take j) := ⟨_, rfl⟩
      have hP1l : P1.length ≤ 190 := by rw [hP1, List.length_append]; omega
      rw [← hP1] at HS
      have HP1 := Aside0.mk hP1
      clear hP1 hlen hl0
      go_wp2_with fail
      refine (HPL.out _).mono ?_
      rintro e w4 ⟨rfl, hb4⟩
      have HB4 := Aside0.mk ((bl_new wr _).trans (hb4.mono (by simp)))
      have HR4 := Aside0.mk (Kd.R_below HS.out HB4.out)
      have HBW := Aside0.mk (blt HB.out HB4.out)
      have HC4 := Aside0.mk (Kd.R_below HC.out HB4.out)
      have HAP := Aside0.mk (show ∀ k, (Value.slice As ms cs).ownBlock = some k → (Value.slice (some ad) L.length c2).ownBlock = some k → False from fun k h1 h2 => own_types HR4.out HC4.out (by decide) h1 h2)
      have hbase : w.heap.size ≤ w4.heap.size := HBW.out.size
      clear hb4 HS HC
      go_wp2_with ((with_reducible refine gate_builtin (b := .append) (xs := #[.tmp 33, .tmp 35]) rfl ?_); at_builtin; go_loud (refine app_oneN (Kd.int .u64) w.heap.size rfl (.tmp 33) (.tmp 35) 31 30 (.int .u64 0) 8 rfl Tryd.underlying31 info30 rfl (by decide) (by omega) (.slice As ms cs) P1 (pl : Int) [.int .u64 (pl : Int)] rfl rfl rfl HR4.out hbase (by omega) ?_; intro A9 n9 c9 w9 hr9 hf9 ha9; have HR9 := Aside0.mk hr9; have HF9 := Aside0.mk hf9; have HA9 := Aside0.mk ha9; clear hr9 hf9 ha9))
      go_roundw
      case rel => exact ⟨j + 1, by omega, by go_num, ⟨by rw [HCat.out, ← List.append_assoc, ← HP1.out]; exact HR9.out⟩, ⟨R_frm flat_kS HC4.out HF9.out (fun k hk hs => HAP.out k hs.symm hk)⟩, ⟨HBW.out.trans (HF9.out.below hbase (fun k hk => Kd.R_base HR4.out k hk.symm))⟩⟩
      case measure => simp [intOf]; omega
    · have hjl : j = L.length := by omega
      subst hjl
      have hS := HS.out
      rw [List.take_length, ← HN.out] at hS
      have HS2 := Aside0.mk hS
      clear hS HS
      go_wp2_with fail
      go_ret2
      exact ⟨_, rfl, HS2.out, HB.out⟩
end Go.Proofs.YtefnonlhepekdaaDoor.M

set_option linter.unusedVariables false
set_option linter.unusedSimpArgs false
namespace Go.Proofs.YtefnonlhepekdaaDoor.M
open Go.RowKit Go.Proofs.YtefnonlhepekdaaDoorW.PrintWords Go.Proofs.YtefnonlhepekdaaDoorW.PrintLast Go.Proofs.YtefnonlhepekdaaDoorW.PrintMore Go.Proofs.YtefnonlhepekdaaDoor.Leaf

theorem place3_calls (h i : Nat) (w : World) (hi : (i + 1) * 2 ^ h ≤ 4611686018427387904) :
    Calls Tryd.prog 62 #[.agg #[.int .u8 h, .int .u64 i]] w fun e w' => e = .returned (.tuple #[.int .u64 ((placeN h i : Nat) : Int), .bool true]) ∧ Below w.heap.size w w' := by
  obtain ⟨k, hk⟩ := (place3_val h i hi).rounds
  exact massifref3_Place.calls k _ _ _ _ w hk
theorem peaks3_calls (n : Nat) (w : World) (hn : n ≤ 4611686018427387904) :
    Calls Tryd.prog 60 #[.int .u64 n] w fun e w' => ∃ v, e = .returned v ∧ Kd.R (Kd.int .u64) 30 w' w.heap.size (fun _ => True) v (placesOf (topsN n)) ∧ Below w.heap.size w w' := by
  obtain ⟨k, hk⟩ := (peaks3_val n hn).rounds
  exact massifref3_Peaks.calls k n _ w hk
theorem pref7_none (m n : Nat) (w : World) (h : 4611686018427387904 < n ∨ n < m) :
    Calls Tryd.prog 17 #[.int .u64 m, .int .u64 n] w fun e w' => e = .returned (.tuple #[.slice none 0 0, .int .i64 30]) ∧ Below w.heap.size w w' := by
  by_cases hn : 4611686018427387904 < n
  · have hd : ((n : Int) > 4611686018427387904) := by omega
    clear h
    go_enter Tryd.func17, Tryd.ntmps17
    go_wp2
    go_ret2
    exact ⟨rfl, Below.refl _ _⟩
  · have hd : ¬ ((n : Int) > 4611686018427387904) := by omega
    have hm : (m : Int) > (n : Int) := by omega
    clear h
    go_enter Tryd.func17, Tryd.ntmps17
    go_wp2
    go_ret2
    exact ⟨rfl, Below.refl _ _⟩
set_option maxHeartbeats 1000000 in
set_option maxRecDepth 100000 in
theorem pref7_some (m n : Nat) (w : World) (hmn : m ≤ n) (hn : n ≤ 4611686018427387904) :
    Calls Tryd.prog 17 #[.int .u64 m, .int .u64 n] w fun e w' => ∃ v, e = .returned (.tuple #[v, .int .i64 0]) ∧ Kd.R (Kd.int .u64) 30 w' w.heap.size (fun _ => True) v (placesOf (prefN m n)) ∧ Below w.heap.size w w' := by
  have hd : ¬ ((n : Int) > 4611686018427387904) := by omega
  have hd2 : ¬ ((m : Int) > (n : Int)) := by omega
  have HPK := Aside0.mk (fun W => peaks3_calls m W (Nat.le_trans hmn hn))
  have HSP := Aside0.mk (fun W => span4_calls m n W (by omega) hn)
  have hL1 : (placesOf (topsN m)).length ≤ 63 := by simp only [placesOf, List.length_map]; exact topsF_len 63 m
  have HL := Aside0.mk hL1
  have HS1 := Aside0.mk (span_len m n hn)
  have HF := Aside0.mk (fun s hs => Nat.le_trans (span_fit n hn (n - m) m (Nat.le_refl _) s hs).1 hn)
  have HN := Aside0.mk (show placesOf (prefN m n) = placesOf (topsN m) ++ placesOf (spanN m n) by unfold prefN placesOf; rw [List.map_append])
  clear hmn hn hL1
  generalize spanN m n = L at *
  generalize placesOf (topsN m) = P0 at *
  go_enter Tryd.func17, Tryd.ntmps17
  go_wp2_with fail
  refine (HPK.out _).mono ?_
  rintro e w1 ⟨v1, rfl, hr1, hb1⟩
  have HR1 := Aside0.mk hr1
  have HB1 := Aside0.mk hb1
  clear hr1 hb1
  obtain ⟨A1, n1, c1, e9⟩ : ∃ A m c, v1 = .slice A m c := by obtain ⟨A, c, h⟩ := Kd.R_slice HR1.out; exact ⟨A, _, c, h⟩
  subst e9
  go_wp2_with fail
  refine (HSP.out _).mono ?_
  rintro e w2 ⟨v2, rfl, hr2, hb2⟩
  obtain ⟨A2, c2, e2⟩ := Kd.R_slice hr2
  subst e2
  have hbA := HB1.out.size
  have HC2 := Aside0.mk (Kd.R_lower hr2 hbA)
  have HR2 := Aside0.mk (Kd.R_below HR1.out hb2)
  have HB2 := Aside0.mk (blt HB1.out hb2)
  clear hr2 hb2 HR1 HSP HPK HB1 hbA
  go_wp2_with fail
  go_loopw [6, 8] (fun s q wr => ∃ j : Nat, j ≤ L.length ∧ q = .int .i64 j ∧ Aside0 (Kd.R (Kd.int .u64) 30 wr w.heap.size (fun _ => True) s (P0 ++ placesOf (L.take j))) ∧ Aside0 (kS.R 74 wr w.heap.size (fun _ => True) (.slice A2 L.length c2) L) ∧ Aside0 (Below w.heap.size w wr)) (fun _ q _ => L.length - (intOf q).toNat)
  case atStart => exact ⟨0, Nat.zero_le _, rfl, ⟨by rw [List.take_zero, show placesOf [] = [] from rfl, List.append_nil]; exact HR2.out⟩, HC2, HB2⟩
  case round =>
    obtain ⟨j, hj, rfl, HS, HC, HB⟩ := hrel
    have hL127 := HS1.out
    clear HC2 HB2 HR2
    obtain ⟨As, ms, cs, e9⟩ : ∃ A m c, u6 = .slice A m c := by obtain ⟨A, c, h⟩ := Kd.R_slice HS.out; exact ⟨A, _, c, h⟩
    subst e9
    by_cases hlt : j < L.length
    · obtain ⟨ad, ea, hx, hy⟩ := at_spot (R_C HC.out) j hlt
      subst ea
      have hfit := HF.out (L[j]) (List.getElem_mem hlt)
      have hcat : placesOf (L.take (j + 1)) = placesOf (L.take j) ++ [((placeN (L[j]).1 (L[j]).2 : Nat) : Int)] := by
        unfold placesOf
        rw [List.take_add_one, List.getElem?_eq_getElem hlt, List.map_append]
        rfl
      rw [List.getD_eq_getElem?_getD, List.getElem?_eq_getElem hlt] at hx hy
      simp only [Option.getD_some] at hx hy
      obtain ⟨sp, hsp⟩ : ∃ s, s = L[j] := ⟨_, rfl⟩
      rw [← hsp] at hfit hcat hx hy
      clear hsp
      obtain ⟨hh, ii⟩ := sp
      simp only at hfit hcat hx hy
      have HPL := Aside0.mk (fun W => place3_calls hh ii W hfit)
      have HCat := Aside0.mk hcat
      have hlen : (placesOf (L.take j)).length ≤ 127 := by
        have := HS1.out
        simp only [placesOf, List.length_map, List.length_take]
        omega
      have hl0 := HL.out
      clear hfit hcat
      generalize placeN hh ii = pl at *
      obtain ⟨P1, hP1⟩ : ∃ P, P = P0 ++ placesOf (L.take j) := ⟨_, rfl⟩
      have hP1l : P1.length ≤ 190 := by rw [hP1, List.length_append]; omega
      rw [← hP1] at HS
      have HP1 := Aside0.mk hP1
      clear hP1 hlen hl0
      go_wp2_with fail
      refine (HPL.out _).mono ?_
      rintro e w4 ⟨rfl, hb4⟩
      have HB4 := Aside0.mk hb4
      have HR4 := Aside0.mk (Kd.R_below HS.out HB4.out)
      have HBW := Aside0.mk (blt HB.out HB4.out)
      have HC4 := Aside0.mk (Kd.R_below HC.out HB4.out)
      have HAP := Aside0.mk (show ∀ k, (Value.slice As ms cs).ownBlock = some k → (Value.slice (some ad) L.length c2).ownBlock = some k → False from fun k h1 h2 => own_types HR4.out HC4.out (by decide) h1 h2)
      have hbase : w.heap.size ≤ w4.heap.size := HBW.out.size
      clear hb4 HS HC
      go_wp2_with ((with_reducible refine gate_builtin (b := .append) (xs := #[.tmp 37, .tmp 39]) rfl ?_); at_builtin; go_loud (refine app_oneN (Kd.int .u64) w.heap.size rfl (.tmp 37) (.tmp 39) 31 30 (.int .u64 0) 8 rfl Tryd.underlying31 info30 rfl (by decide) (by omega) (.slice As ms cs) P1 (pl : Int) [.int .u64 (pl : Int)] rfl rfl rfl HR4.out hbase (by omega) ?_; intro A9 n9 c9 w9 hr9 hf9 ha9; have HR9 := Aside0.mk hr9; have HF9 := Aside0.mk hf9; have HA9 := Aside0.mk ha9; clear hr9 hf9 ha9))
      go_roundw
      case rel => exact ⟨j + 1, by omega, by go_num, ⟨by rw [HCat.out, ← List.append_assoc, ← HP1.out]; exact HR9.out⟩, ⟨R_frm flat_kS HC4.out HF9.out (fun k hk hs => HAP.out k hs.symm hk)⟩, ⟨HBW.out.trans (HF9.out.below hbase (fun k hk => Kd.R_base HR4.out k hk.symm))⟩⟩
      case measure => simp [intOf]; omega
    · have hjl : j = L.length := by omega
      subst hjl
      have hS := HS.out
      rw [List.take_length, ← HN.out] at hS
      have HS2 := Aside0.mk hS
      clear hS HS
      go_wp2_with fail
      go_ret2
      exact ⟨_, rfl, HS2.out, HB.out⟩
/-- Both answer alike. -/
theorem pref7_calls (m n : Nat) (w : World) :
    Calls Tryd.prog 17 #[.int .u64 m, .int .u64 n] w fun e w' => ∃ v, e = .returned (.tuple #[v, .int .i64 (prefAns m n).2]) ∧ Kd.R (Kd.int .u64) 30 w' w.heap.size (fun _ => True) v (prefAns m n).1 ∧ Below w.heap.size w w' := by
  by_cases h : 4611686018427387904 < n ∨ n < m
  · refine (pref7_none m n w h).mono ?_
    rintro e w' ⟨he, hb⟩
    have e1 : prefAns m n = ([], 30) := if_pos h
    rw [e1]
    exact ⟨_, he, Kd.R_nil _ _ _ _ _, hb⟩
  · have e1 : prefAns m n = (placesOf (prefN m n), 0) := if_neg h
    rw [e1]
    exact pref7_some m n w (by omega) (by omega)
theorem pref_calls (m n : Nat) (w : World) (hT : DB w) :
    Calls Tryd.prog 19 #[.int .u64 m, .int .u64 n] w fun e w' => ∃ v, e = .returned (.tuple #[v, .int .i64 (prefAns m n).2]) ∧ Kd.R (Kd.int .u64) 30 w' w.heap.size (fun _ => True) v (prefAns m n).1 ∧ Below w.heap.size w w' := by
  by_cases h : 4611686018427387904 < n ∨ n < m
  · refine (pref_none m n w h).mono ?_
    rintro e w' ⟨he, hb⟩
    have e1 : prefAns m n = ([], 30) := if_pos h
    rw [e1]
    exact ⟨_, he, Kd.R_nil _ _ _ _ _, hb⟩
  · have e1 : prefAns m n = (placesOf (prefN m n), 0) := if_neg h
    rw [e1]
    exact pref_some m n w (by omega) (by omega) hT
end Go.Proofs.YtefnonlhepekdaaDoor.M

set_option linter.unusedVariables false
set_option linter.unusedSimpArgs false
namespace Go.Proofs.YtefnonlhepekdaaDoor.M
open Go.RowKit Go.Proofs.YtefnonlhepekdaaDoorW.PrintWords Go.Proofs.YtefnonlhepekdaaDoorW.PrintLast Go.Proofs.YtefnonlhepekdaaDoorW.PrintMore Go.Proofs.YtefnonlhepekdaaDoor.Leaf

/-- What a source that refuses from question R on gives for a list of places. -/
def Told (P : List Int × Int) (R : Int) (er : Int) (hs : List Hsh) (ask : List Int) : Prop :=
  (P.2 ≠ 0 ∧ er = P.2 ∧ hs = [] ∧ ask = []) ∨ (P.2 = 0 ∧ ∃ L : List Nat, P.1 = natsI L ∧ ((L.length ≤ R.toNat ∧ er = 0 ∧ hs = tellU L L.length ∧ ask = natsI L) ∨ (R.toNat < L.length ∧ er = 50 ∧ hs = [] ∧ ask = natsI (L.take (R.toNat + 1)))))
def Fits (P : List Int) : Prop := ∃ L : List Nat, P = natsI L ∧ L.length ≤ 500 ∧ ∀ x ∈ L, x < 18446744073709551616
theorem natsI_inj {L M : List Nat} (h : natsI L = natsI M) : L = M := by
  have e : ∀ K : List Nat, (natsI K).map Int.toNat = K := fun K => by
    unfold natsI
    rw [List.map_map]
    exact (List.map_congr_left (fun x _ => Int.toNat_natCast x)).trans (List.map_id K)
  rw [← e L, h, e M]
theorem placesOf_nats (l : List (Nat × Nat)) : placesOf l = natsI (l.map fun s => placeN s.1 s.2) := by
  unfold placesOf natsI
  rw [List.map_map]
  rfl
theorem fits_of (l : List (Nat × Nat)) (hl : l.length ≤ 500) (h : ∀ s ∈ l, (s.2 + 1) * 2 ^ s.1 ≤ 4611686018427387904) : Fits (placesOf l) := by
  refine ⟨_, placesOf_nats l, by rw [List.length_map]; exact hl, fun x hx => ?_⟩
  obtain ⟨s, hs, rfl⟩ := List.mem_map.1 hx
  have := place_lt s.1 s.2 (Nat.le_trans (h s hs) (by decide))
  omega
theorem fits_proof (i n : Nat) : Fits (proofAns i n).1 := by
  unfold proofAns
  split
  · exact ⟨[], rfl, by simp, by simp⟩
  · split
    · exact ⟨[], rfl, by simp, by simp⟩
    · next h1 h2 =>
      have h1 : n ≤ 4611686018427387904 := by omega
      have h2 : i < n := by omega
      exact fits_of _ (by have := proof_length h2 h1; omega) (fun s hs => Nat.le_trans (proof_fit h2 h1 s hs) h1)
theorem fits_pref (m n : Nat) : Fits (prefAns m n).1 := by
  unfold prefAns
  split
  · exact ⟨[], rfl, by simp, by simp⟩
  · next h =>
    have h1 : n ≤ 4611686018427387904 := by omega
    have h2 : m ≤ n := by omega
    refine fits_of _ (by have := pref_len m n h1; omega) (fun s hs => ?_)
    rcases List.mem_append.1 hs with h | h
    · have := (tops_fit 63 m s h).2; omega
    · have := (span_fit n h1 (n - m) m (Nat.le_refl _) s h).1; omega
theorem told_of (P : List Int × Int) (R : Int) (h : Fits P.1) : ∃ er hs ask, Told P R er hs ask := by
  by_cases h0 : P.2 = 0
  · obtain ⟨L, hL, _⟩ := h
    by_cases hR : L.length ≤ R.toNat
    · exact ⟨_, _, _, .inr ⟨h0, L, hL, .inl ⟨hR, rfl, rfl, rfl⟩⟩⟩
    · exact ⟨_, _, _, .inr ⟨h0, L, hL, .inr ⟨by omega, rfl, rfl, rfl⟩⟩⟩
  · exact ⟨_, _, _, .inl ⟨h0, rfl, rfl, rfl⟩⟩
theorem told_nil {P : List Int × Int} {R er : Int} {hs : List Hsh} {ask : List Int} (h : Told P R er hs ask) (he : er ≠ 0) : hs = [] := by
  rcases h with h | ⟨_, L, _, h | h⟩
  · exact h.2.2.1
  · exact absurd h.2.1 he
  · exact h.2.2.1
theorem told_first {P : List Int × Int} {R er : Int} {hs : List Hsh} {ask : List Int} (h : Told P R er hs ask) (he : P.2 ≠ 0) : er = P.2 ∧ hs = [] ∧ ask = [] := by
  rcases h with h | h
  · exact h.2
  · exact absurd h.1 he
theorem spy_fresh {w w1 : World} {b : Nat} {R : Int} {n c : Nat} {l : List Int} (h : Spy w w1 b R none n c l) (hn : n = 0) (hc : c = 0) : Spy w1 w1 b R none 0 0 [] := by
  subst hn hc
  exact ⟨h.1, Kd.R_nil _ _ _ _ _⟩
theorem spy_lower {w w1 w2 : World} {b n c : Nat} {R : Int} {A : Option Addr} {l : List Int} (h : Spy w1 w2 b R A n c l) (hb : w.heap.size ≤ w1.heap.size) : Spy w w2 b R A n c l := ⟨h.1, Kd.R_lower h.2 hb⟩
/-- Behind the last store of a made proof. -/
theorem make_end {w w5 w7 : World} {b n c : Nat} {R : Int} {A : Option Addr} {l : List Int} {v : Value} {hs : List Hsh} {t : TypeId} {cs : List Value} (hb : b < w.heap.size) (hS : Spy w w5 b R A n c l) (hH : kH.R 63 w5 w.heap.size (fun _ => True) v hs) (hF : Frm (fun q => q = b) w w5) (hz : Blk w5 w.heap.size t cs)
    (t1 : 63 ≠ t) (t2 : 30 ≠ t) (h7 : Frm (fun k => k = w.heap.size) w5 w7) : Spy w w7 b R A n c l ∧ kH.R 63 w7 w.heap.size (fun _ => True) v hs ∧ Frm (fun q => q = b) w w7 := by
  refine ⟨⟨(h7.block _ (blk_lt hS.1) (by show ¬ (b = w.heap.size); omega)).trans hS.1, R_frm (flat_int .u64) hS.2 h7 (fun k hk e => Kd.R_ne hS.2 hz t2 (by rw [← e]; exact hk.symm))⟩, R_frm flat_kH hH h7 (fun k hk e => Kd.R_ne hH hz t1 (by rw [← e]; exact hk.symm)), ?_⟩
  refine hF.trans h7 (fun i hi h => ?_)
  have h : i = w.heap.size := h
  omega
def zero3 : List Value := [.int .u64 0, .int .u64 0, .slice none 0 0]
theorem zero3_one : ∀ u ∈ zero3, u.oneCell' = true := by decide
theorem one3 (x y : Int) (A : Option Addr) (n c : Nat) : ∀ u ∈ [Value.int .u64 x, .int .u64 y, .slice A n c], u.oneCell' = true := by simp [Value.oneCell']
theorem zero3_sz : (Tryd.prog.info? 41).map (·.size) = some zero3.length := by kernel_rfl
theorem zero3_sx : (Tryd.prog.info? 43).map (·.size) = some zero3.length := by kernel_rfl
/-- Behind the fetching of nodes. -/
theorem make_mid {w wp w5 : World} {b n c : Nat} {R : Int} {A : Option Addr} {l : List Int} {v : Value} {hs : List Hsh} {t : TypeId} {cs : List Value} (hb : b < w.heap.size) (hp : Below w.heap.size w wp) (hz : Blk wp w.heap.size t cs) (hS : Spy wp w5 b R A n c l) (hH : kH.R 63 w5 wp.heap.size (fun _ => True) v hs) (hF : Frm (fun q => q = b) wp w5) :
    Spy w w5 b R A n c l ∧ kH.R 63 w5 w.heap.size (fun _ => True) v hs ∧ Frm (fun q => q = b) w w5 ∧ Blk w5 w.heap.size t cs :=
  ⟨spy_lower hS hp.size, Kd.R_lower hH hp.size, (Frm.of_below hp (fun q => q = b)).trans hF (fun _ _ h => h), (hF.block _ (blk_lt hz) (by show ¬ (w.heap.size = b); omega)).trans hz⟩
/-- fetch, of the answer for places. -/
theorem fetch_told {P : List Int × Int} {R er : Int} {hs : List Hsh} {ask : List Int} {b cB nB base0 : Nat} {B : Option Addr} {w : World} (hF : Fits P.1) (hT : Told P R er hs ask) (h0 : P.2 = 0) (hn : nB = P.1.length) (hC : (Kd.int .u64).R 30 w base0 (fun _ => True) (.slice B nB cB) P.1) (hS : Spy w w b R none 0 0 []) (hbR : b < w.heap.size) :
    Calls Tryd.prog 73 #[.iface 53 (.pointer (some ⟨b, 0, none⟩)), .slice B nB cB] w fun e w' => ∃ v A n c, e = .returned (.tuple #[v, .int .i64 er]) ∧
      kH.R 63 w' w.heap.size (fun _ => True) v hs ∧ Spy w w' b R A n c ask ∧ Frm (fun q => q = b) w w' := by
  obtain ⟨L, hL, hl, h64⟩ := hF
  rcases hT with hT | ⟨_, M, hM, hT⟩
  · exact absurd h0 hT.1
  have e : L = M := natsI_inj (hL.symm.trans hM)
  subst e
  rw [hL, natsI_len] at hn
  rw [hL] at hC
  subst hn
  rcases hT with ⟨h1, h2, h3, h4⟩ | ⟨h1, h2, h3, h4⟩
  · subst h4
    exact fetch_calls L b R B cB w er hs L (.inl ⟨h1, h2, h3, rfl⟩) hl h64 base0 hC hS hbR
  · subst h4
    exact fetch_calls L b R B cB w er hs _ (.inr ⟨h1, h2, h3, rfl⟩) hl h64 base0 hC hS hbR
set_option maxHeartbeats 2000000 in
set_option maxRecDepth 100000 in
theorem make_calls (i n b : Nat) (R er : Int) (hs : List Hsh) (ask : List Int) (w : World) (hT : Told (proofAns i n) R er hs ask) (hS : Spy w w b R none 0 0 []) (hbR : b < w.heap.size) :
    Calls Tryd.prog 32 #[.iface 53 (.pointer (some ⟨b, 0, none⟩)), .int .u64 i, .int .u64 n] w fun e w' => ∃ A1 n1 c1 A n2 c, e = .returned (.tuple #[.agg #[.int .u64 (if er = 0 then n else 0), .int .u64 (if er = 0 then i else 0), .slice A1 n1 c1], .int .i64 er]) ∧
      kH.R 63 w' w.heap.size (fun _ => True) (.slice A1 n1 c1) hs ∧ Spy w w' b R A n2 c ask ∧ Frm (fun q => q = b) w w' := by
  have hF := fits_proof i n
  have hpl := fun w => proof_places i n w
  generalize proofAns i n = P at *
  have HT := Aside0.mk hT
  have HFi := Aside0.mk hF
  have HPl := Aside0.mk hpl
  have HS := Aside0.mk hS
  clear hT hF hpl hS
  go_enter Tryd.func32, Tryd.ntmps32
  go_upto_region 1 with (fail)
  generalize hwz : w.alloc _ = wz
  have bz : Blk wz w.heap.size 41 zero3 := by rw [← hwz]; exact heap_new w _
  have hbz : Below w.heap.size w wz := by rw [← hwz]; exact bl_new w _
  have HBz := Aside0.mk bz
  have Hbz := Aside0.mk hbz
  clear hwz bz hbz
  go_wp2_with fail
  refine (HPl.out wz).mono ?_
  rintro e wp ⟨v, rfl, hr, hb⟩
  obtain ⟨B, nB, cB, e9⟩ : ∃ A m c, v = .slice A m c := by obtain ⟨A, c, h⟩ := Kd.R_slice hr; exact ⟨A, _, c, h⟩
  subst e9
  have HB := Aside0.mk ((hb.block _ (blk_lt HBz.out)).trans HBz.out)
  have Hbp := Aside0.mk (blt Hbz.out hb)
  have HR := Aside0.mk hr
  have hbp := Nat.lt_of_lt_of_le hbR Hbp.out.size
  have HSp := Aside0.mk (spy_fresh (HS.out.below Hbp.out) rfl rfl)
  clear hr hb HBz Hbz
  by_cases h0 : P.2 = 0
  · have hn := (Kd.R_reads' HR.out).1
    have hfetch := fetch_told HFi.out HT.out h0 hn HR.out HSp.out hbp
    have HFe := Aside0.mk hfetch
    rw [h0]
    clear hfetch hn
    go_wp2_with fail
    refine HFe.out.mono ?_
    rintro e w5 ⟨v, A, n2, c, rfl, h1, h2, h3⟩
    obtain ⟨A1, n1, c1, e9⟩ : ∃ A m c, v = .slice A m c := by obtain ⟨A, c, h⟩ := Kd.R_slice h1; exact ⟨A, _, c, h⟩
    subst e9
    have hm := make_mid hbR Hbp.out HB.out h2 h1 h3
    have HM := Aside0.mk hm
    have HB5 := Aside0.mk hm.2.2.2
    clear h1 h2 h3 hm
    by_cases he : er = 0
    · subst he
      go_wp2_with ((with_reducible refine gate_store (t := 41) (p := 6) (v := .tmp 34) rfl ?_); go_loud (refine store_var 41 [Value.int .u64 n, .int .u64 i, .slice A1 n1 c1] rfl rfl (.tmp 6) (.tmp 34) rfl zero3_sz (one3 _ _ _ _ _) w.heap.size 41 zero3 HB5.out rfl rfl rfl ?_; intro w7 hz7 hf7; have HZ7 := Aside0.mk hz7; have HF7 := Aside0.mk hf7; clear hz7 hf7))
      (try simp only [Exit.inBlock, Exit.then])
      refine bodyPost_ret (results_ct rfl _ _ w.heap.size 41 #[Value.int .u64 n, .int .u64 i, .slice A1 n1 c1] (0, 0) _ rfl HZ7.out Tryd.underlying41 rfl zero3_sz) rfl ?_
      obtain ⟨f1, f2, f3⟩ := make_end hbR HM.out.1 HM.out.2.1 HM.out.2.2.1 HB5.out (by decide) (by decide) HF7.out
      exact ⟨A1, n1, c1, rfl, f2, ⟨A, n2, c, f1⟩, f3⟩
    · have hn := told_nil HT.out he
      have he1 : (er != 0) = true := by rw [bne_iff_ne]; exact he
      have he2 : ¬ (er = 0) := he
      subst hn
      clear he
      go_wp2_with ((with_reducible refine gate_store (t := 41) (p := 6) (v := .tmp 29) rfl ?_); go_loud (refine store_var 41 zero3 rfl rfl (.tmp 6) (.tmp 29) rfl zero3_sz zero3_one w.heap.size 41 zero3 HB5.out rfl rfl rfl ?_; intro w7 hz7 hf7; have HZ7 := Aside0.mk hz7; have HF7 := Aside0.mk hf7; clear hz7 hf7))
      (try simp only [Exit.inBlock, Exit.then])
      refine bodyPost_ret (results_ct rfl _ _ w.heap.size 41 zero3.toArray (0, 0) _ rfl HZ7.out Tryd.underlying41 rfl zero3_sz) rfl ?_
      obtain ⟨f1, f2, f3⟩ := make_end hbR HM.out.1 HM.out.2.1 HM.out.2.2.1 HB5.out (by decide) (by decide) HF7.out
      exact ⟨none, 0, 0, rfl, Kd.R_nil _ _ _ _ _, ⟨A, n2, c, f1⟩, f3⟩
  · obtain ⟨e1, e2, e3⟩ := told_first HT.out h0
    subst e1 e2 e3
    have he1 : (P.2 != 0) = true := by rw [bne_iff_ne]; exact h0
    have hSw := spy_lower (w := w) HSp.out Hbp.out.size
    have HSw := Aside0.mk hSw
    clear hSw
    go_wp2_with ((with_reducible refine gate_store (t := 41) (p := 6) (v := .tmp 19) rfl ?_); go_loud (refine store_var 41 zero3 rfl rfl (.tmp 6) (.tmp 19) rfl zero3_sz zero3_one w.heap.size 41 zero3 HB.out rfl rfl rfl ?_; intro w7 hz7 hf7; have HZ7 := Aside0.mk hz7; have HF7 := Aside0.mk hf7; clear hz7 hf7))
    (try simp only [Exit.inBlock, Exit.then])
    refine bodyPost_ret (results_ct rfl _ _ w.heap.size 41 zero3.toArray (0, 0) _ rfl HZ7.out Tryd.underlying41 rfl zero3_sz) rfl ?_
    obtain ⟨f1, f2, f3⟩ := make_end hbR HSw.out (Kd.R_nil _ _ _ _ _) (Frm.of_below Hbp.out (fun q => q = b)) HB.out (by decide) (by decide) HF7.out
    exact ⟨none, 0, 0, rfl, Kd.R_nil _ _ _ _ _, ⟨none, 0, 0, f1⟩, f3⟩
set_option maxHeartbeats 2000000 in
set_option maxRecDepth 100000 in
theorem makep_calls (m n b : Nat) (R er : Int) (hs : List Hsh) (ask : List Int) (w : World) (hT : Told (prefAns m n) R er hs ask) (hS : Spy w w b R none 0 0 []) (hbR : b < w.heap.size) (hD : DB w) :
    Calls Tryd.prog 34 #[.iface 53 (.pointer (some ⟨b, 0, none⟩)), .int .u64 m, .int .u64 n] w fun e w' => ∃ A1 n1 c1 A n2 c, e = .returned (.tuple #[.agg #[.int .u64 (if er = 0 then m else 0), .int .u64 (if er = 0 then n else 0), .slice A1 n1 c1], .int .i64 er]) ∧
      kH.R 63 w' w.heap.size (fun _ => True) (.slice A1 n1 c1) hs ∧ Spy w w' b R A n2 c ask ∧ Frm (fun q => q = b) w w' := by
  have hF := fits_pref m n
  have hpl := fun w hD => pref_calls m n w hD
  generalize prefAns m n = P at *
  have HT := Aside0.mk hT
  have HFi := Aside0.mk hF
  have HPl := Aside0.mk hpl
  have HS := Aside0.mk hS
  have HD := Aside0.mk hD
  clear hT hF hpl hS hD
  go_enter Tryd.func34, Tryd.ntmps34
  go_upto_region 1 with (fail)
  generalize hwz : w.alloc _ = wz
  have bz : Blk wz w.heap.size 43 zero3 := by rw [← hwz]; exact heap_new w _
  have hbz : Below w.heap.size w wz := by rw [← hwz]; exact bl_new w _
  have HBz := Aside0.mk bz
  have Hbz := Aside0.mk hbz
  clear hwz bz hbz
  go_wp2_with fail
  refine (HPl.out wz (HD.out.below Hbz.out)).mono ?_
  rintro e wp ⟨v, rfl, hr, hb⟩
  obtain ⟨B, nB, cB, e9⟩ : ∃ A m c, v = .slice A m c := by obtain ⟨A, c, h⟩ := Kd.R_slice hr; exact ⟨A, _, c, h⟩
  subst e9
  have HB := Aside0.mk ((hb.block _ (blk_lt HBz.out)).trans HBz.out)
  have Hbp := Aside0.mk (blt Hbz.out hb)
  have HR := Aside0.mk hr
  have hbp := Nat.lt_of_lt_of_le hbR Hbp.out.size
  have HSp := Aside0.mk (spy_fresh (HS.out.below Hbp.out) rfl rfl)
  clear hr hb HBz Hbz
  by_cases h0 : P.2 = 0
  · have hn := (Kd.R_reads' HR.out).1
    have hfetch := fetch_told HFi.out HT.out h0 hn HR.out HSp.out hbp
    have HFe := Aside0.mk hfetch
    rw [h0]
    clear hfetch hn
    go_wp2_with fail
    refine HFe.out.mono ?_
    rintro e w5 ⟨v, A, n2, c, rfl, h1, h2, h3⟩
    obtain ⟨A1, n1, c1, e9⟩ : ∃ A m c, v = .slice A m c := by obtain ⟨A, c, h⟩ := Kd.R_slice h1; exact ⟨A, _, c, h⟩
    subst e9
    have hm := make_mid hbR Hbp.out HB.out h2 h1 h3
    have HM := Aside0.mk hm
    have HB5 := Aside0.mk hm.2.2.2
    clear h1 h2 h3 hm
    by_cases he : er = 0
    · subst he
      go_wp2_with ((with_reducible refine gate_store (t := 43) (p := 6) (v := .tmp 34) rfl ?_); go_loud (refine store_var 43 [Value.int .u64 m, .int .u64 n, .slice A1 n1 c1] rfl rfl (.tmp 6) (.tmp 34) rfl zero3_sx (one3 _ _ _ _ _) w.heap.size 43 zero3 HB5.out rfl rfl rfl ?_; intro w7 hz7 hf7; have HZ7 := Aside0.mk hz7; have HF7 := Aside0.mk hf7; clear hz7 hf7))
      (try simp only [Exit.inBlock, Exit.then])
      refine bodyPost_ret (results_ct rfl _ _ w.heap.size 43 #[Value.int .u64 m, .int .u64 n, .slice A1 n1 c1] (0, 0) _ rfl HZ7.out Tryd.underlying43 rfl zero3_sx) rfl ?_
      obtain ⟨f1, f2, f3⟩ := make_end hbR HM.out.1 HM.out.2.1 HM.out.2.2.1 HB5.out (by decide) (by decide) HF7.out
      exact ⟨A1, n1, c1, rfl, f2, ⟨A, n2, c, f1⟩, f3⟩
    · have hn := told_nil HT.out he
      have he1 : (er != 0) = true := by rw [bne_iff_ne]; exact he
      have he2 : ¬ (er = 0) := he
      subst hn
      clear he
      go_wp2_with ((with_reducible refine gate_store (t := 43) (p := 6) (v := .tmp 29) rfl ?_); go_loud (refine store_var 43 zero3 rfl rfl (.tmp 6) (.tmp 29) rfl zero3_sx zero3_one w.heap.size 43 zero3 HB5.out rfl rfl rfl ?_; intro w7 hz7 hf7; have HZ7 := Aside0.mk hz7; have HF7 := Aside0.mk hf7; clear hz7 hf7))
      (try simp only [Exit.inBlock, Exit.then])
      refine bodyPost_ret (results_ct rfl _ _ w.heap.size 43 zero3.toArray (0, 0) _ rfl HZ7.out Tryd.underlying43 rfl zero3_sx) rfl ?_
      obtain ⟨f1, f2, f3⟩ := make_end hbR HM.out.1 HM.out.2.1 HM.out.2.2.1 HB5.out (by decide) (by decide) HF7.out
      exact ⟨none, 0, 0, rfl, Kd.R_nil _ _ _ _ _, ⟨A, n2, c, f1⟩, f3⟩
  · obtain ⟨e1, e2, e3⟩ := told_first HT.out h0
    subst e1 e2 e3
    have he1 : (P.2 != 0) = true := by rw [bne_iff_ne]; exact h0
    have hSw := spy_lower (w := w) HSp.out Hbp.out.size
    have HSw := Aside0.mk hSw
    clear hSw
    go_wp2_with ((with_reducible refine gate_store (t := 43) (p := 6) (v := .tmp 19) rfl ?_); go_loud (refine store_var 43 zero3 rfl rfl (.tmp 6) (.tmp 19) rfl zero3_sx zero3_one w.heap.size 43 zero3 HB.out rfl rfl rfl ?_; intro w7 hz7 hf7; have HZ7 := Aside0.mk hz7; have HF7 := Aside0.mk hf7; clear hz7 hf7))
    (try simp only [Exit.inBlock, Exit.then])
    refine bodyPost_ret (results_ct rfl _ _ w.heap.size 43 zero3.toArray (0, 0) _ rfl HZ7.out Tryd.underlying43 rfl zero3_sx) rfl ?_
    obtain ⟨f1, f2, f3⟩ := make_end hbR HSw.out (Kd.R_nil _ _ _ _ _) (Frm.of_below Hbp.out (fun q => q = b)) HB.out (by decide) (by decide) HF7.out
    exact ⟨none, 0, 0, rfl, Kd.R_nil _ _ _ _ _, ⟨none, 0, 0, f1⟩, f3⟩
end Go.Proofs.YtefnonlhepekdaaDoor.M

set_option linter.unusedVariables false
set_option linter.unusedSimpArgs false
namespace Go.Proofs.YtefnonlhepekdaaDoor.M
open Go.RowKit Go.Proofs.YtefnonlhepekdaaDoorW.PrintWords Go.Proofs.YtefnonlhepekdaaDoorW.PrintLast Go.Proofs.YtefnonlhepekdaaDoorW.PrintMore

section
variable {o : Oper} {a : Act} {w : World} {K : Act → Prop}
theorem quiet_load_hash (x : Operand) (ho : o.op = .load 63 x) (ad : Addr) (h : Hsh) (hx : a.eval x = .pointer (some ad)) (hr : HashAt w ad h) (hk : K (a.put o.dst h.val)) : o.quiet Tryd.prog a (fun w' => ∃ n, w' = w.drewN n) K := by
  refine ⟨h.val, fun w' hw' => ?_, hk⟩
  obtain ⟨n, rfl⟩ := hw'
  obtain ⟨b, off, rfl, hrg⟩ := hr.below (pw_below_drewN (Below.refl _ _) n)
  unfold Oper.quietAt execOp
  simp only [ho, hx, Instr.loadAt, Instr.sureAddr, Sem.run_bind, Sem.run_pure, Result.andThen_ok, run_loadVar_mid (w.drewN n) b off 63 h.cells _ hrg Tryd.underlying63 rfl (by rw [Hsh.cells_len]; exact sizeH)]
  exact ⟨rfl, rfl⟩
theorem quiet_neq_hash (x y : Operand) (ty : TypeId) (ho : o.op = .binOp .neq 63 x y ty) (h g : Hsh) (hx : a.eval x = h.val) (hy : a.eval y = g.val) (b : Bool) (hb : (!decide (h = g)) = b) (hk : K (a.put o.dst (.bool b))) : o.quiet Tryd.prog a (fun w' => ∃ n, w' = w.drewN n) K := by
  refine ⟨.bool b, fun w' hw' => ?_, hk⟩
  unfold Oper.quietAt execOp
  simp only [ho, hx, hy, Sem.run_bind, hash_guard, hash_neq, Result.andThen_ok, Sem.run_pure, hb]
  exact ⟨rfl, rfl⟩
end
end Go.Proofs.YtefnonlhepekdaaDoor.M

set_option linter.unusedVariables false
set_option linter.unusedSimpArgs false
namespace Go.Proofs.YtefnonlhepekdaaDoor.M
open Go.RowKit Go.Proofs.YtefnonlhepekdaaDoorW.PrintWords Go.Proofs.YtefnonlhepekdaaDoorW.PrintLast Go.Proofs.YtefnonlhepekdaaDoorW.PrintMore Go.Proofs.YtefnonlhepekdaaDoor.Leaf

theorem ask_at {w : World} {A B : Option Addr} {L : List Nat} {N : Nat} {ask : List Int} (hN : N ≤ L.length) (ha : ask = natsI (L.take N)) (hA : Kd.C (Kd.int .u64) w A ask.length ask) (hB : Kd.C (Kd.int .u64) w B L.length (natsI L)) : ∀ k, k < N → ∃ ad1 ad2, ∃ p : Nat, A = some ad1 ∧ B = some ad2 ∧ w.cell? (ad1.add k) = some (.int .u64 (p : Int)) ∧ w.cell? (ad2.add k) = some (.int .u64 (p : Int)) ∧ p = L.getD k 0 := by
  intro k hk
  have hl : ask.length = N := by rw [ha, natsI_len, List.length_take]; omega
  obtain ⟨ad1, e1, h1⟩ := C_at hA k (by omega)
  obtain ⟨ad2, e2, h2⟩ := C_at hB k (by omega)
  rw [ha, natsI_at _ _ (by rw [List.length_take]; omega)] at h1
  rw [natsI_at _ _ (by omega)] at h2
  have e : (L.take N).getD k 0 = L.getD k 0 := by
    rw [List.getD_eq_getElem?_getD, List.getD_eq_getElem?_getD, List.getElem?_take_of_lt hk]
  rw [e] at h1
  exact ⟨ad1, ad2, _, e1, e2, h1, h2, rfl⟩
theorem quo256 {L : List Nat} {k p : Nat} (w64 : ∀ x ∈ L, x < 18446744073709551616) (hk : k < L.length) (hp : p = L.getD k 0) : IntKind.u64.wrap ((p : Int) / 256) = (p : Int) / 256 := by
  have h : p < 18446744073709551616 := by
    rw [hp, List.getD_eq_getElem?_getD, List.getElem?_eq_getElem hk]
    exact w64 _ (List.getElem_mem hk)
  rw [IntKind.wrap_u64]
  omega
theorem tell_at {w : World} {A : Option Addr} {L : List Nat} {hs : List Hsh} (h : hs = tellU L L.length) (hH : kH.C w A hs.length hs) : ∀ k, k < L.length → ∃ ad, A = some ad ∧ HashAt w (ad.add (k * 32)) (tellN (L.getD k 0) (k + 1)) := by
  intro k hk
  subst h
  obtain ⟨ad, e, hx⟩ := C_hash hH k (by rw [tellU_len]; exact hk)
  refine ⟨ad, e, ?_⟩
  have e2 : (tellU L L.length)[k]'(by rw [tellU_len]; exact hk) = tellN (L.getD k 0) (k + 1) := by simp [tellU]
  rw [e2] at hx
  exact hx
set_option maxHeartbeats 2000000 in
set_option maxRecDepth 100000 in
theorem asked_calls (P : List Int × Int) (R er : Int) (hs : List Hsh) (ask : List Int) (w0 w : World) (b n c c1 cB : Nat) (A A1 B : Option Addr) (hT : Told P R er hs ask) (hF : Fits P.1) (hS : Spy w0 w b R A n c ask) (hC : Kd.C (Kd.int .u64) w B P.1.length P.1) (hH : kH.C w A1 hs.length hs) :
    Calls Tryd.prog 33 #[.pointer (some ⟨b, 0, none⟩), .slice B P.1.length cB, .int .i64 P.2, .slice A1 hs.length c1, .int .i64 er] w fun e w' => e = .returned (.bool true) ∧ ∃ d, w' = w.drewN d := by
  have k0 := (blk_cell hS.1 0).trans (rfl : _ = some (Value.slice A n c))
  have k1 := (blk_cell hS.1 1).trans (rfl : _ = some (Value.int .i64 R))
  obtain ⟨hn, hnc, hCA⟩ := Kd.R_reads' hS.2
  subst hn
  by_cases h0 : P.2 = 0
  · obtain ⟨L, hL, hl, h64⟩ := hF
    rcases hT with hT | ⟨_, M, hM, hT⟩
    · exact absurd h0 hT.1
    have e : L = M := natsI_inj (hL.symm.trans hM)
    subst e
    rw [hL, natsI_len] at hC
    rw [hL, natsI_len, h0]
    clear hL hM h0
    rcases hT with ⟨h1, h2, h3, h4⟩ | ⟨h1, h2, h3, h4⟩
    · have hal : ask.length = L.length := by rw [h4, natsI_len]
      have hsl : hs.length = L.length := by rw [h3, tellU_len]
      have HRD := Aside0.mk (ask_at (Nat.le_refl _) (h4.trans (by rw [List.take_length])) hCA hC)
      have HHD := Aside0.mk (tell_at h3 hH)
      rw [hsl]
      have HNL := Aside0.mk hl
      have H64 := Aside0.mk h64
      have HNA := Aside0.mk hal
      have halI : (ask.length : Int) = (L.length : Int) := by omega
      have hl62 : (L.length : Int) ≤ 500 := by omega
      clear hC hH hS hCA h64 h4 hal hsl h3 hnc hl
      subst h2
      by_cases hR : R < 0
      · have h0L : L.length = 0 := by omega
        rw [h0L]
        have halI : (ask.length : Int) = 0 := by omega
        go_enter Tryd.func33, Tryd.ntmps33
        go_wp2_with fail
        go_loopw [13] (fun s wr => s = .int .i64 0 ∧ wr = w) (fun s _ => 0)
        case atStart => exact ⟨rfl, rfl⟩
        case round =>
          obtain ⟨rfl, rfl⟩ := hrel
          go_wp2_with fail
          go_ret
          first | exact ⟨rfl, 0, rfl⟩ | exact ⟨0, rfl⟩
      · have h0L : ¬ (R < (L.length : Int)) := by omega
        go_enter Tryd.func33, Tryd.ntmps33
        go_wp2_with fail
        go_loopw [13] (fun s wr => ∃ k d : Nat, k ≤ L.length ∧ s = .int .i64 k ∧ wr = w.drewN d) (fun s _ => L.length - (intOf s).toNat)
        case atStart => exact ⟨0, 0, Nat.zero_le _, rfl, rfl⟩
        case round =>
          obtain ⟨k, d, hk, rfl, rfl⟩ := hrel
          by_cases hlt : k < L.length
          · obtain ⟨ad1, ad2, p, y1, y2, y3, y4, hp⟩ := HRD.out k hlt
            subst y1 y2
            have hkI : (k : Int) < (L.length : Int) := by omega
            have hkA : (k : Int) < (ask.length : Int) := by have := HNA.out; omega
            have hkL : (k : Int) < (L.length : Int) := by have := HNL.out; have := HNA.out; omega
            have HPk := Aside0.mk hp
            clear hp
            obtain ⟨ad3, y5, hh⟩ := HHD.out k hlt
            subst y5
            rw [← HPk.out] at hh
            have hh := hh.below (pw_below_drewN (Below.refl _ _) d)
            have HH3 := Aside0.mk hh
            clear hh
            have hs256 := quo256 (w64 := H64.out) hlt HPk.out
            go_wp2_with fail
            refine wp_region_quiet_lit (by kernel_rfl) (by kernel_rfl) ?_
            (first | go_big_quiet_skip | (go_big_quiet_want; go_big_quiet_op; go_big_quiet_on)); (first | go_big_quiet_skip | (go_big_quiet_want; go_big_quiet_op; go_big_quiet_on)); (first | go_big_quiet_skip | (go_big_quiet_want; go_big_quiet_op; go_big_quiet_on)); (first | go_big_quiet_skip | (go_big_quiet_want; go_big_quiet_op; go_big_quiet_on)); (first | go_big_quiet_skip | (go_big_quiet_want; go_big_quiet_op; go_big_quiet_on)); (first | go_big_quiet_skip | (go_big_quiet_want; go_big_quiet_op; go_big_quiet_on)); (first | go_big_quiet_skip | (go_big_quiet_want; go_big_quiet_op; go_big_quiet_on)); (first | go_big_quiet_skip | (go_big_quiet_want; go_big_quiet_op; go_big_quiet_on)); (first | go_big_quiet_skip | (go_big_quiet_want; go_big_quiet_op; go_big_quiet_on)); (first | go_big_quiet_skip | (go_big_quiet_want; go_big_quiet_op; go_big_quiet_on)); (first | go_big_quiet_skip | (go_big_quiet_want; go_big_quiet_op; go_big_quiet_on)); (first | go_big_quiet_skip | (go_big_quiet_want; go_big_quiet_op; go_big_quiet_on)); (first | go_big_quiet_skip | (go_big_quiet_want; go_big_quiet_op; go_big_quiet_on)); (first | go_big_quiet_skip | (go_big_quiet_want; go_big_quiet_op; go_big_quiet_on)); (first | go_big_quiet_skip | (go_big_quiet_want; go_big_quiet_op; go_big_quiet_on)); (first | go_big_quiet_skip | (go_big_quiet_want; go_big_quiet_op; go_big_quiet_on)); (first | go_big_quiet_skip | (go_big_quiet_want; go_big_quiet_op; go_big_quiet_on)); (first | go_big_quiet_skip | (go_big_quiet_want; go_big_quiet_op; go_big_quiet_on)); (first | go_big_quiet_skip | (go_big_quiet_want; go_big_quiet_op; go_big_quiet_on))
            go_big_quiet_want; refine quiet_load_hash (.tmp 90) rfl (ad3.add (k * 32)) (tellN p (k + 1)) rfl HH3.out ?_; simp only [Act.put, List.setIfInBounds_toArray, List.set_cons_zero, List.set_cons_succ]; go_big_quiet_on
            (first | go_big_quiet_skip | (go_big_quiet_want; go_big_quiet_op; go_big_quiet_on)); (first | go_big_quiet_skip | (go_big_quiet_want; go_big_quiet_op; go_big_quiet_on)); (first | go_big_quiet_skip | (go_big_quiet_want; go_big_quiet_op; go_big_quiet_on)); (first | go_big_quiet_skip | (go_big_quiet_want; go_big_quiet_op; go_big_quiet_on)); (first | go_big_quiet_skip | (go_big_quiet_want; go_big_quiet_op; go_big_quiet_on)); (first | go_big_quiet_skip | (go_big_quiet_want; go_big_quiet_op; go_big_quiet_on)); (first | go_big_quiet_skip | (go_big_quiet_want; go_big_quiet_op; go_big_quiet_on)); (first | go_big_quiet_skip | (go_big_quiet_want; go_big_quiet_op; go_big_quiet_on)); (first | go_big_quiet_skip | (go_big_quiet_want; go_big_quiet_op; go_big_quiet_on)); (first | go_big_quiet_skip | (go_big_quiet_want; go_big_quiet_op; go_big_quiet_on)); (first | go_big_quiet_skip | (go_big_quiet_want; go_big_quiet_op; go_big_quiet_on)); (first | go_big_quiet_skip | (go_big_quiet_want; go_big_quiet_op; go_big_quiet_on)); (first | go_big_quiet_skip | (go_big_quiet_want; go_big_quiet_op; go_big_quiet_on)); (first | go_big_quiet_skip | (go_big_quiet_want; go_big_quiet_op; go_big_quiet_on)); (first | go_big_quiet_skip | (go_big_quiet_want; go_big_quiet_op; go_big_quiet_on))
            go_big_quiet_want; refine quiet_neq_hash (.tmp 91) (.tmp 106) _ rfl (tellN p (k + 1)) (tellN p (k + 1)) rfl rfl false (by simp) ?_; simp only [Act.put, List.setIfInBounds_toArray, List.set_cons_zero, List.set_cons_succ]; go_big_quiet_on
            (first | go_big_quiet_skip | (go_big_quiet_want; go_big_quiet_op; go_big_quiet_on)); (first | go_big_quiet_skip | (go_big_quiet_want; go_big_quiet_op; go_big_quiet_on))
            refine wpQuiet_nil ?_
            intro _ hw'
            obtain ⟨nq, hw''⟩ := hw'
            subst hw''
            go_wp2_with fail
            go_roundw
            case rel => exact ⟨k + 1, _, hlt, by rw [Int.natCast_add]; rfl, rfl⟩
            case measure => simp [intOf]; omega
          · have hkI : ¬ ((k : Int) < (L.length : Int)) := by omega
            go_wp2_with fail
            go_ret
            first | exact ⟨rfl, _, rfl⟩ | exact ⟨_, rfl⟩
    · subst h2 h3
      have hN : R.toNat + 1 ≤ L.length := h1
      have HRD := Aside0.mk (ask_at hN h4 hCA hC)
      have hal : ask.length = R.toNat + 1 := by rw [h4, natsI_len, List.length_take]; omega
      have HNL := Aside0.mk hN
      have HNA := Aside0.mk hal
      clear hC hH hS hCA h64 h4 hnc
      by_cases hR : R < 0
      · have hr0 : R.toNat = 0 := by omega
        rw [hr0] at HRD HNL HNA hal
        have h0L : (0 : Int) < (L.length : Int) := by omega
        have halI : (ask.length : Int) = 1 := by omega
        go_enter Tryd.func33, Tryd.ntmps33
        go_wp2_with fail
        go_loopw [13] (fun s wr => ∃ k d : Nat, k ≤ 1 ∧ s = .int .i64 k ∧ wr = w.drewN d) (fun s _ => 1 - (intOf s).toNat)
        case atStart => exact ⟨0, 0, Nat.zero_le _, rfl, rfl⟩
        case round =>
          obtain ⟨k, d, hk, rfl, rfl⟩ := hrel
          by_cases hlt : k < 1
          · obtain ⟨ad1, ad2, p, y1, y2, y3, y4, hp⟩ := HRD.out k hlt
            subst y1 y2
            have hkI : (k : Int) < 1 := by omega
            have hkA : (k : Int) < (ask.length : Int) := by have := HNA.out; omega
            have hkL : (k : Int) < (L.length : Int) := by have := HNL.out; have := HNA.out; omega
            have HPk := Aside0.mk hp
            clear hp
            go_wp2_with fail; go_quiet (fail)
            go_wp2_with fail
            go_roundw
            case rel => exact ⟨k + 1, _, hlt, by rw [Int.natCast_add]; rfl, rfl⟩
            case measure => simp [intOf]; omega
          · have hkI : ¬ ((k : Int) < 1) := by omega
            go_wp2_with fail
            go_ret
            first | exact ⟨rfl, _, rfl⟩ | exact ⟨_, rfl⟩
      · obtain ⟨r, rfl⟩ : ∃ r : Nat, R = (r : Int) := ⟨R.toNat, by omega⟩
        rw [Int.toNat_natCast] at HRD HNL HNA hal hN
        have h0L : (r : Int) < (L.length : Int) := by omega
        have halI : (ask.length : Int) = (r : Int) + 1 := by omega
        have hr5 : (r : Int) < 500 := by omega
        clear hal hN h1 hl
        go_enter Tryd.func33, Tryd.ntmps33
        go_wp2_with fail
        go_loopw [13] (fun s wr => ∃ k d : Nat, k ≤ (r + 1) ∧ s = .int .i64 k ∧ wr = w.drewN d) (fun s _ => (r + 1) - (intOf s).toNat)
        case atStart => exact ⟨0, 0, Nat.zero_le _, rfl, rfl⟩
        case round =>
          obtain ⟨k, d, hk, rfl, rfl⟩ := hrel
          by_cases hlt : k < (r + 1)
          · obtain ⟨ad1, ad2, p, y1, y2, y3, y4, hp⟩ := HRD.out k hlt
            subst y1 y2
            have hkI : (k : Int) < ((r : Int) + 1) := by omega
            have hkA : (k : Int) < (ask.length : Int) := by have := HNA.out; omega
            have hkL : (k : Int) < (L.length : Int) := by have := HNL.out; have := HNA.out; omega
            have HPk := Aside0.mk hp
            clear hp
            go_wp2_with fail; go_quiet (fail)
            go_wp2_with fail
            go_roundw
            case rel => exact ⟨k + 1, _, hlt, by rw [Int.natCast_add]; rfl, rfl⟩
            case measure => simp [intOf]; omega
          · have hkI : ¬ ((k : Int) < ((r : Int) + 1)) := by omega
            go_wp2_with fail
            go_ret
            first | exact ⟨rfl, _, rfl⟩ | exact ⟨_, rfl⟩
  · obtain ⟨e1, e2, e3⟩ := told_first hT h0
    subst e1 e2 e3
    have he1 : (P.2 != 0) = true := by rw [bne_iff_ne]; exact h0
    clear hC hH hS hCA hT hF
    go_enter Tryd.func33, Tryd.ntmps33
    go_wp2_with fail
    go_ret
    exact ⟨rfl, 0, rfl⟩
end Go.Proofs.YtefnonlhepekdaaDoor.M

set_option linter.unusedVariables false
set_option linter.unusedSimpArgs false
namespace Go.Proofs.YtefnonlhepekdaaDoor.M
open Go.RowKit Go.Proofs.YtefnonlhepekdaaDoorW.PrintWords Go.Proofs.YtefnonlhepekdaaDoorW.PrintLast Go.Proofs.YtefnonlhepekdaaDoorW.PrintMore Go.Proofs.YtefnonlhepekdaaDoor.Leaf

/-- A number in as few bytes as it needs, by at most f + 1 of them. -/
def shortF : Nat → Nat → List Nat
  | 0, x => [x]
  | f + 1, x => if x < 128 then [x] else (128 + x % 128) :: shortF f (x / 128)
def shortI (x : Nat) : List Int := (shortF 9 x).map fun (b : Nat) => (b : Int)
theorem shortF_len : ∀ f x, (shortF f x).length ≤ f + 1
  | 0, x => by simp [shortF]
  | f + 1, x => by
    have := shortF_len f (x / 128)
    simp only [shortF]
    split <;> simp <;> omega
theorem or128 (x : Nat) : Go.bits .or .u8 ((x : Int) % 256) 128 = ((128 + x % 128 : Nat) : Int) := by
  have h := u8_or_nat (x % 256) 128 (by omega) (by omega)
  have h2 : x % 256 ||| 128 = 128 + x % 128 := by
    have : ∀ y : Fin 256, y.val ||| 128 = 128 + y.val % 128 := by decide +kernel
    have h3 := this ⟨x % 256, by omega⟩
    simp only at h3
    omega
  rw [h2] at h
  exact h
theorem short_loop (f : Nat) : ∀ (x : Nat) (xs : List Int), x < 2 ^ (7 * f + 1) → f ≤ 9 → xs.length + f ≤ 9 → Ev (fun k => num_Short.l0 k (x : Int) xs) (xs ++ (shortF f x).map fun (b : Nat) => (b : Int)) := by
  induction f with
  | zero =>
    intro x xs hx hf hl
    simp at hx
    exact Ev.step (f := fun _ => some (xs ++ [(x : Int)])) (fun k => by simp only [num_Short.l0]; rw [if_neg (by omega), if_pos (by omega), show (x : Int) % 256 = x by omega]) (Ev.now _)
  | succ f ih =>
    intro x xs hx hf hl
    by_cases c : x < 128
    · rw [show shortF (f + 1) x = [x] by simp only [shortF]; rw [if_pos c]]
      exact Ev.step (f := fun _ => some (xs ++ [(x : Int)])) (fun k => by simp only [num_Short.l0]; rw [if_neg (by omega), if_pos (by omega), show (x : Int) % 256 = x by omega]) (Ev.now _)
    · rw [show shortF (f + 1) x = (128 + x % 128) :: shortF f (x / 128) by simp only [shortF]; rw [if_neg c]]
      have ih := ih (x / 128) (xs ++ [((128 + x % 128 : Nat) : Int)]) (by rw [show 7 * (f + 1) + 1 = (7 * f + 1) + 7 by omega, Nat.pow_add] at hx; omega) (by omega) (by simp; omega)
      rw [List.map_cons, show xs ++ ((128 + x % 128 : Nat) : Int) :: (shortF f (x / 128)).map (fun (b : Nat) => (b : Int)) = xs ++ [((128 + x % 128 : Nat) : Int)] ++ (shortF f (x / 128)).map (fun (b : Nat) => (b : Int)) by simp]
      refine Ev.step (fun k => by simp only [num_Short.l0]; rw [if_pos (by omega), if_pos (by omega), or128, show (x : Int) / 128 = ((x / 128 : Nat) : Int) by omega]) ih
theorem short_val (x : Nat) (hx : x < 18446744073709551616) : Ev (fun k => num_Short.f k (x : Int)) (shortI x) := by
  have h := short_loop 9 x [] (by omega) (by omega) (by simp)
  exact h
theorem shortI_len (x : Nat) : (shortI x).length ≤ 10 := by
  have := shortF_len 9 x
  simpa [shortI] using this
end Go.Proofs.YtefnonlhepekdaaDoor.M

set_option linter.unusedVariables false
set_option linter.unusedSimpArgs false
namespace Go.Proofs.YtefnonlhepekdaaDoor.M
open Go.RowKit Go.Proofs.YtefnonlhepekdaaDoorW.PrintWords Go.Proofs.YtefnonlhepekdaaDoorW.PrintLast Go.Proofs.YtefnonlhepekdaaDoorW.PrintMore Go.Proofs.YtefnonlhepekdaaDoor.Leaf

set_option maxHeartbeats 1000000 in
set_option maxRecDepth 100000 in
theorem grow_nil (n : Nat) (w : World) (hn : n ≤ 140737488355328) :
    Calls Tryd.prog 127 #[.slice none 0 0, .int .i64 n] w fun e w' => ∃ v, e = .returned v ∧ Kd.R (Kd.int .u8) 5 w' w.heap.size (fun _ => True) v [] ∧ Below w.heap.size w w' := by
  by_cases h0 : n = 0
  · subst h0
    go_enter Tryd.func127, Tryd.ntmps127
    go_wp2
    go_ret
    exact ⟨_, rfl, Kd.R_nil _ _ _ _ _, Below.refl _ _⟩
  · have hp : 0 < n := by omega
    go_enter Tryd.func127, Tryd.ntmps127
    go_wp2_with (at_builtin; go_loud (refine Kd.R_append_zeros (Kd.int .u8) (w0 := w) w.heap.size rfl (.tmp 20) (.tmp 21) 22 3 5 (.int .u8 0) 1 rfl Tryd.underlying22 Tryd.underlying3 info5 rfl (by decide) (by omega) (.slice none 0 0) [] (0 : Int) (kx := .i64) (n : Int) (fun _ => True) rfl rfl rfl (fun _ _ => trivial) (Kd.R_nil _ _ _ _ _) (by omega) (Below.refl _ _) (Nat.le_refl _) (by simp; omega) ?_; intro v1 w1 hr hb hg hat; obtain ⟨A1, c1, e1⟩ := Kd.R_slice hr; have HR := Aside0.mk hr; have HB := Aside0.mk hb; have HE := Aside0.mk e1; clear hr hb hg hat e1; rw [HE.out]))
    go_ret
    have hr := HR.out
    rw [HE.out] at hr
    exact ⟨_, rfl, by have := Kd.R_take hr (Nat.zero_le _); rwa [List.take_zero] at this, HB.out⟩

theorem rd_rows {w : World} {A : Option Addr} {n : Nat} {LL : List (List Int)} (h : Kd.C (Kd.slice 5 (Kd.int .u8)) w A n LL) (j : Nat) (hj : j < LL.length) : ∃ ad A0 c0, A = some ad ∧ w.cell? (ad.add j) = some (.slice A0 (LL[j]).length c0) ∧ (LL[j]).length ≤ c0 ∧ (Kd.int .u8).C w A0 (LL[j]).length (LL[j]) := by
  have hl := Kd.C_len h
  obtain ⟨ad, c, e, _, hK, hc0⟩ := Kd.C_get h ([] : List Int) (j : Int) (by omega) (by omega)
  have hc : ∀ i u, c[i]? = some u → w.cell? (ad.add (j * 1 + i)) = some u := hc0
  rw [Int.toNat_natCast, List.getD_eq_getElem?_getD, List.getElem?_eq_getElem hj] at hK
  obtain ⟨A0, c0, rfl, l0, g0⟩ := hK
  exact ⟨ad, A0, c0, e, by have hq := hc 0 _ rfl; rwa [Nat.mul_one, Nat.add_zero] at hq, l0, g0⟩
theorem flat_take_le (LL : List (List Int)) (j : Nat) : (LL.take j).flatten.length ≤ LL.flatten.length := by
  conv => rhs; rw [← List.take_append_drop j LL]
  rw [List.flatten_append, List.length_append]
  omega
theorem flat_take_succ (LL : List (List Int)) (j : Nat) (hj : j < LL.length) : (LL.take (j + 1)).flatten = (LL.take j).flatten ++ LL[j] := by
  rw [List.take_add_one, List.getElem?_eq_getElem hj, List.flatten_append]
  simp

/-- The first j rows, one behind the other. -/
def fcat (LL : List (List Int)) (j : Nat) : List Int := (LL.take j).flatten
theorem fcat_zero (LL : List (List Int)) : fcat LL 0 = [] := by simp [fcat]
theorem fcat_all (LL : List (List Int)) : fcat LL LL.length = LL.flatten := by simp [fcat]
theorem fcat_le (LL : List (List Int)) (j : Nat) : (fcat LL j).length ≤ LL.flatten.length := flat_take_le LL j
theorem fcat_succ (LL : List (List Int)) (j : Nat) (hj : j < LL.length) : fcat LL (j + 1) = fcat LL j ++ LL[j] := flat_take_succ LL j hj
/-- How long the first j rows are together. -/
def flen (LL : List (List Int)) (j : Nat) : Nat := (LL.take j).flatten.length
theorem flen_zero (LL : List (List Int)) : flen LL 0 = 0 := by simp [flen]
theorem flen_le (LL : List (List Int)) (j : Nat) : flen LL j ≤ LL.flatten.length := flat_take_le LL j
theorem flen_succ (LL : List (List Int)) (j : Nat) (hj : j < LL.length) : flen LL (j + 1) = flen LL j + (LL[j]).length := by
  unfold flen
  rw [flat_take_succ LL j hj, List.length_append]
set_option maxHeartbeats 1000000 in
set_option maxRecDepth 100000 in
theorem concat_rows (A : Option Addr) (c : Nat) (LL : List (List Int)) (w : World) (hC : Kd.C (Kd.slice 5 (Kd.int .u8)) w A LL.length LL) (hl : LL.length ≤ 1000000) (hn : LL.flatten.length ≤ 140737488355328) :
    Calls Tryd.prog 104 #[.slice A LL.length c] w fun e w' => ∃ v, e = .returned v ∧ Kd.R (Kd.int .u8) 5 w' w.heap.size (fun _ => True) v LL.flatten ∧ Below w.heap.size w w' := by
  have HC := Aside0.mk hC
  clear hC
  go_enter Tryd.func104, Tryd.ntmps104
  go_wp2_with fail
  go_loop [3, 11] (fun s i => ∃ j : Nat, j ≤ LL.length ∧ i = .int .i64 j ∧ s = .int .i64 ((flen LL j : Nat) : Int)) (fun _ i => LL.length - (intOf i).toNat)
  case atStart => exact ⟨0, Nat.zero_le _, rfl, by rw [flen_zero]; rfl⟩
  case round =>
    obtain ⟨j, hj, rfl, rfl⟩ := hrel
    by_cases hlt : j < LL.length
    · obtain ⟨ad, A0, c0, ea, hx, hc0, hC0⟩ := rd_rows HC.out j hlt
      subst ea
      have hb1 := flen_le LL (j + 1)
      have hs := flen_succ LL j hlt
      have HS := Aside0.mk hs
      have hb2 : flen LL j + (LL[j]).length ≤ 140737488355328 := by omega
      clear hs hC0
      go_wp2_with fail
      go_round
      case rel => exact ⟨j + 1, by omega, by go_num, by rw [HS.out]; go_num⟩
      case measure => simp [intOf]; omega
    · have hjl : j = LL.length := by omega
      subst hjl
      have hn' : flen LL LL.length ≤ 140737488355328 := Nat.le_trans (flen_le _ _) hn
      go_wp2_with fail
      refine (grow_nil _ w hn').mono ?_
      rintro e w1 ⟨v1, rfl, hr, hb⟩
      obtain ⟨A1, cap1, e1⟩ := Kd.R_slice hr
      rw [e1] at hr ⊢
      have HR := Aside0.mk hr
      have HB := Aside0.mk hb
      clear hr hb e1
      go_wp2_with fail
      go_loopw [6, 27] (fun s i wr => ∃ j : Nat, j ≤ LL.length ∧ i = .int .i64 j ∧ Aside0 (Kd.R (Kd.int .u8) 5 wr w.heap.size (fun _ => True) s (fcat LL j)) ∧ Aside0 (Below w.heap.size w wr)) (fun _ i _ => LL.length - (intOf i).toNat)
      case atStart => exact ⟨0, Nat.zero_le _, rfl, by rw [fcat_zero]; exact HR, HB⟩
      case round =>
        obtain ⟨j, hj, rfl, HR2, HB2⟩ := hrel
        clear HR HB
        by_cases hlt : j < LL.length
        · obtain ⟨ad, A0, c0, ea, hx, hc0, hC0⟩ := rd_rows (Kd.C_below HC.out HB2.out) j hlt
          subst ea
          have hb1 := fcat_le LL (j + 1)
          have hs := fcat_succ LL j hlt
          rw [hs, List.length_append] at hb1
          have HS := Aside0.mk hs
          have HC0 := Aside0.mk hC0
          clear hs hC0
          have hbs := HB2.out.size
          go_wp2_with (at_builtin; go_loud (refine app_row .u8 w.heap.size rfl (.tmp 31) (.tmp 32) 22 5 (.int .u8 0) 1 rfl Tryd.underlying22 info5 rfl (by omega) _ _ _ _ _ _ rfl rfl HR2.out HC0.out hbs (by omega) ?_; intro A2 c2 w2 hr2 hf2 hat2; have HR3 := Aside0.mk hr2; have HF := Aside0.mk hf2; clear hr2 hf2 hat2))
          go_roundw
          case rel => exact ⟨j + 1, by omega, by go_num, ⟨by rw [HS.out]; exact HR3.out⟩, ⟨HB2.out.trans (HF.out.below hbs (fun k hk => Kd.R_base HR2.out k hk.symm))⟩⟩
          case measure => simp [intOf]; omega
        · have hjl : j = LL.length := by omega
          subst hjl
          obtain ⟨A2, cap2, e2⟩ := Kd.R_slice HR2.out
          have HE := Aside0.mk e2
          clear e2
          go_wp2_with fail
          go_ret
          exact ⟨_, rfl, by have := HR2.out; rwa [fcat_all] at this, HB2.out⟩
end Go.Proofs.YtefnonlhepekdaaDoor.M
