/- proof.Places. -/
import Derived.Test.YtagcabmccpekaaaMathF
import Derived.Test.YtagcabmccpekaaaDelA
namespace Go.Proofs.Ytagcabmccpekaaa.M
open Go.RowKit Go.Proofs.YtagcabmccpekaaaW.PrintWords Go.Proofs.YtagcabmccpekaaaW.PrintLast Go.Proofs.YtagcabmccpekaaaW.PrintMore Go.Proofs.Ytagcabmccpekaaa.Leaf

/-- What proof.Places answers. -/
def proofAns (i n : Nat) : List Int × Int := if 4611686018427387904 < n then ([], 30) else if n ≤ i then ([], 32) else (placesOf (proofN i n), 0)
theorem placesOf_eraseIdx (l : List (Nat × Nat)) (k : Nat) : (placesOf l).eraseIdx k = placesOf (l.eraseIdx k) := by
  unfold placesOf
  rw [List.eraseIdx_eq_take_drop_succ, List.eraseIdx_eq_take_drop_succ, List.map_append, List.map_take, List.map_drop]
theorem proof_length {i n : Nat} (h : i < n) (hn : n ≤ 4611686018427387904) : (proofN i n).length ≤ 124 := by
  have h1 := (proof_len h hn).2.2
  have h2 := hi_le h hn
  have h3 : (topsN n).length ≤ 63 := topsF_len 63 n
  omega

set_option maxHeartbeats 1000000 in
set_option maxRecDepth 100000 in
theorem proof_places_none (i n : Nat) (w : World) (h : 4611686018427387904 < n ∨ n ≤ i) :
    Calls Try.prog 15 #[.int .u64 i, .int .u64 n] w fun e w' => e = .returned (.tuple #[.slice none 0 0, .int .i64 (if 4611686018427387904 < n then 30 else 32)]) ∧ Below w.heap.size w w' := by
  by_cases hn : 4611686018427387904 < n
  · have e0 : (if 4611686018427387904 < n then (30 : Int) else 32) = 30 := if_pos hn
    rw [e0]
    have hd : ((n : Int) > 4611686018427387904) := by omega
    go_enter Try.func15, Try.ntmps15
    go_wp2
    go_ret2
    exact ⟨rfl, Below.refl _ _⟩
  · have e0 : (if 4611686018427387904 < n then (30 : Int) else 32) = 32 := if_neg hn
    rw [e0]
    have hd : ¬ ((n : Int) > 4611686018427387904) := by omega
    obtain ⟨k, hk⟩ := (path_none i n (by omega)).rounds
    have HK := Aside0.mk hk
    clear hk
    go_enter Try.func15, Try.ntmps15
    go_wp2_with fail
    refine (pos_Path.calls k i n _ _ _ HK.out).mono ?_
    rintro e w1 ⟨v1, rfl, hr, hb⟩
    obtain ⟨A1, c1, e1⟩ := Kd.R_slice hr
    rw [e1]
    have HB := Aside0.mk hb
    clear hr hb e1
    go_wp2
    go_ret2
    exact ⟨rfl, HB.out⟩
set_option maxHeartbeats 1000000 in
set_option maxRecDepth 100000 in
theorem proof_places_some (i n : Nat) (w : World) (h : i < n) (hn : n ≤ 4611686018427387904) :
    Calls Try.prog 15 #[.int .u64 i, .int .u64 n] w fun e w' => ∃ v, e = .returned (.tuple #[v, .int .i64 0]) ∧ Kd.R (Kd.int .u64) 22 w' w.heap.size (fun _ => True) v (placesOf (proofN i n)) ∧ Below w.heap.size w w' := by
  have hd : ¬ ((n : Int) > 4611686018427387904) := by omega
  have hlen := proof_length h hn
  have hpl := proof_len h hn
  have hN : placesOf (proofN i n) = placesOf (sibsN i (hiN i n)) ++ (placesOf (topsN n)).eraseIdx (overN i n) := by
    rw [placesOf_eraseIdx]
    unfold proofN placesOf
    rw [List.map_append]
  have hO : overN i n ≤ 64 := pop_lef 64 _
  have hol : overN i n < (placesOf (topsN n)).length := by simpa [placesOf] using hpl.1
  have hl2 : (placesOf (sibsN i (hiN i n))).length ≤ 62 := by have := hi_le h hn; simp [placesOf, sibsN]; exact this
  have hl3 : (placesOf (topsN n)).length ≤ 63 := by simp only [placesOf, List.length_map]; exact topsF_len 63 n
  obtain ⟨k1, hk1⟩ := (path_val i n h hn).rounds
  obtain ⟨k2, hk2⟩ := (peak_val i n h hn).rounds
  obtain ⟨k3, hk3⟩ := (peaks_val n hn).rounds
  rw [hN]
  clear hN hlen hpl
  generalize placesOf (sibsN i (hiN i n)) = X at *
  generalize placesOf (topsN n) = Y at *
  generalize overN i n = o at *
  have HK1 := Aside0.mk hk1
  have HK2 := Aside0.mk hk2
  have HK3 := Aside0.mk hk3
  clear hk1 hk2 hk3
  go_enter Try.func15, Try.ntmps15
  go_wp2_with fail
  refine (pos_Path.calls k1 i n _ _ _ HK1.out).mono ?_
  rintro e w1 ⟨v1, rfl, hr, hb⟩
  obtain ⟨A1, c1, e1⟩ := Kd.R_slice hr
  subst e1
  have HR := Aside0.mk hr
  have HB := Aside0.mk hb
  clear hr hb
  go_wp2_with fail
  refine (pos_Peak.calls k2 i n _ _ _ HK2.out).mono ?_
  rintro e w2 ⟨rfl, hd2⟩
  have HD2 := Aside0.mk hd2
  clear hd2
  go_wp2_with fail
  refine (pos_Peaks.calls k3 n _ _ HK3.out).mono ?_
  rintro e w3 ⟨v3, rfl, hr3, hb3⟩
  obtain ⟨A3, c3, e3⟩ := Kd.R_slice hr3
  subst e3
  have HR3 := Aside0.mk hr3
  have HB3 := Aside0.mk hb3
  clear hr3 hb3
  go_wp2_with fail
  refine (delete_one o (o + 1) rfl w3 w2.heap.size _ Y HR3.out (by omega)).mono ?_
  rintro e w4 ⟨v4, rfl, hr4, hf4, ho4⟩
  have hs12 := HD2.out.below.size
  have hs23 := HB3.out.size
  have hlt1 := Kd.R_lt HR.out
  have hb3 := Kd.R_base HR3.out
  have hr1 := R_frm (flat_int .u64) (Kd.R_below (Kd.R_below HR.out HD2.out.below) HB3.out) hf4 (fun k hk hs => by have := hlt1 k hk; have := hb3 k hs.symm; omega)
  have hbl : Below w.heap.size w w4 := below_on (blt (blt HB.out HD2.out.below) HB3.out) (by have := HB.out.size; omega) (Below.refl _ _) |>.trans (hf4.below (by have := HB.out.size; omega) (fun k hk => by have := hb3 k hk.symm; have := HB.out.size; omega))
  have hs4 := hf4.size
  have hw4 : w.heap.size ≤ w4.heap.size := by have := HB.out.size; omega
  have hle : (Y.eraseIdx o).length ≤ 63 := Nat.le_trans (List.length_eraseIdx_le ..) hl3
  obtain ⟨A4, c4, e4⟩ := Kd.R_slice hr4
  subst e4
  have HR1 := Aside0.mk hr1
  have HC4 := Aside0.mk (Kd.R_reads' hr4).2.2
  have HBL := Aside0.mk hbl
  have HW4 := Aside0.mk hw4
  have HLE := Aside0.mk hle
  have HL2 := Aside0.mk hl2
  have H4 := Aside0.mk hlt1
  have H5 := Aside0.mk (Kd.R_base HR.out)
  clear hr4 hr1 hbl hf4 ho4 hle hl2 hlt1 hb3 hs12 hs23 hs4 hw4 hol hl3
  go_wp2_with (at_builtin; go_loud (refine app_row .u64 w.heap.size rfl (.tmp 26) (.tmp 32) 23 22 (.int .u64 0) 8 rfl Try.underlying23 info22 rfl (by omega) _ _ _ _ _ _ rfl rfl HR1.out HC4.out HW4.out (by have := HLE.out; have := HL2.out; omega) ?_; intro A5 c5 w5 hr5 hf5 hat5; have HR5 := Aside0.mk hr5; have HF5 := Aside0.mk hf5; clear hr5 hf5 hat5))
  go_ret2
  exact ⟨_, rfl, HR5.out, HBL.out.trans (HF5.out.below HW4.out (fun k hk => H5.out k hk.symm))⟩
theorem proof_places (i n : Nat) (w : World) :
    Calls Try.prog 15 #[.int .u64 i, .int .u64 n] w fun e w' => ∃ v, e = .returned (.tuple #[v, .int .i64 (proofAns i n).2]) ∧ Kd.R (Kd.int .u64) 22 w' w.heap.size (fun _ => True) v (proofAns i n).1 ∧ Below w.heap.size w w' := by
  by_cases h : 4611686018427387904 < n ∨ n ≤ i
  · refine (proof_places_none i n w h).mono ?_
    rintro e w' ⟨he, hb⟩
    have e1 : proofAns i n = ([], if 4611686018427387904 < n then 30 else 32) := by
      unfold proofAns
      by_cases c1 : 4611686018427387904 < n
      · rw [if_pos c1, if_pos c1]
      · rw [if_neg c1, if_neg c1, if_pos (by omega)]
    rw [e1]
    exact ⟨_, he, Kd.R_nil _ _ _ _ _, hb⟩
  · have e1 : proofAns i n = (placesOf (proofN i n), 0) := by
      unfold proofAns
      rw [if_neg (by omega), if_neg (by omega)]
    rw [e1]
    exact proof_places_some i n w (by omega) (by omega)
end Go.Proofs.Ytagcabmccpekaaa.M
