/- slices.Grow of nil, slices.Concat of byte rows. -/
import Derived.Test.YtagcabmccpekaaaBase
import Derived.Test.YtagcabmccpekaaaMathC
namespace Go.Proofs.Ytagcabmccpekaaa.M
open Go.RowKit Go.Proofs.YtagcabmccpekaaaW.PrintWords Go.Proofs.YtagcabmccpekaaaW.PrintLast Go.Proofs.YtagcabmccpekaaaW.PrintMore Go.Proofs.Ytagcabmccpekaaa.Leaf

set_option maxHeartbeats 1000000 in
set_option maxRecDepth 100000 in
theorem grow_nil (n : Nat) (w : World) (hn : n ≤ 140737488355328) :
    Calls Try.prog 80 #[.slice none 0 0, .int .i64 n] w fun e w' => ∃ v, e = .returned v ∧ Kd.R (Kd.int .u8) 5 w' w.heap.size (fun _ => True) v [] ∧ Below w.heap.size w w' := by
  by_cases h0 : n = 0
  · subst h0
    go_enter Try.func80, Try.ntmps80
    go_wp2
    go_ret
    exact ⟨_, rfl, Kd.R_nil _ _ _ _ _, Below.refl _ _⟩
  · have hp : 0 < n := by omega
    go_enter Try.func80, Try.ntmps80
    go_wp2_with (at_builtin; go_loud (refine Kd.R_append_zeros (Kd.int .u8) (w0 := w) w.heap.size rfl (.tmp 20) (.tmp 21) 46 3 5 (.int .u8 0) 1 rfl Try.underlying46 Try.underlying3 info5 rfl (by decide) (by omega) (.slice none 0 0) [] (0 : Int) (kx := .i64) (n : Int) (fun _ => True) rfl rfl rfl (fun _ _ => trivial) (Kd.R_nil _ _ _ _ _) (by omega) (Below.refl _ _) (Nat.le_refl _) (by simp; omega) ?_; intro v1 w1 hr hb hg hat; obtain ⟨A1, c1, e1⟩ := Kd.R_slice hr; have HR := Aside0.mk hr; have HB := Aside0.mk hb; have HE := Aside0.mk e1; clear hr hb hg hat e1; rw [HE.out]))
    go_ret
    have hr := HR.out
    rw [HE.out] at hr
    exact ⟨_, rfl, by have := Kd.R_take hr (Nat.zero_le _); rwa [List.take_zero] at this, HB.out⟩

theorem rd_rows {w : World} {A : Option Addr} {n : Nat} {LL : List (List Int)} (h : Kd.C (Kd.slice 5 (Kd.int .u8)) w A n LL) (j : Nat) (hj : j < LL.length) : ∃ ad A0 c0, A = some ad ∧ w.cell? (ad.add j) = some (.slice A0 (LL[j]).length c0) ∧ (LL[j]).length ≤ c0 ∧ (Kd.int .u8).C w A0 (LL[j]).length (LL[j]) := by
  have hl := Kd.C_len h
  obtain ⟨ad, c, e, _, hK, hc0⟩ := Kd.C_get h ([] : List Int) (j : Int) (by omega) (by omega)
  have hc : ∀ i u, c[i]? = some u → w.cell? (ad.add (j * 1 + i)) = some u := hc0
  rw [Int.toNat_natCast, List.getD_eq_getElem?_getD, List.getElem?_eq_getElem hj] at hK
  obtain ⟨A0, c0, rfl, l0, g0⟩ := hK
  exact ⟨ad, A0, c0, e, by have hq := hc 0 _ rfl; rwa [Nat.mul_one, Nat.add_zero] at hq, l0, g0⟩
theorem flat_take_le (LL : List (List Int)) (j : Nat) : (LL.take j).flatten.length ≤ LL.flatten.length := by
  conv => rhs; rw [← List.take_append_drop j LL]
  rw [List.flatten_append, List.length_append]
  omega
theorem flat_take_succ (LL : List (List Int)) (j : Nat) (hj : j < LL.length) : (LL.take (j + 1)).flatten = (LL.take j).flatten ++ LL[j] := by
  rw [List.take_add_one, List.getElem?_eq_getElem hj, List.flatten_append]
  simp

/-- The first j rows, one behind the other. -/
def fcat (LL : List (List Int)) (j : Nat) : List Int := (LL.take j).flatten
theorem fcat_zero (LL : List (List Int)) : fcat LL 0 = [] := by simp [fcat]
theorem fcat_all (LL : List (List Int)) : fcat LL LL.length = LL.flatten := by simp [fcat]
theorem fcat_le (LL : List (List Int)) (j : Nat) : (fcat LL j).length ≤ LL.flatten.length := flat_take_le LL j
theorem fcat_succ (LL : List (List Int)) (j : Nat) (hj : j < LL.length) : fcat LL (j + 1) = fcat LL j ++ LL[j] := flat_take_succ LL j hj
/-- How long the first j rows are together. -/
def flen (LL : List (List Int)) (j : Nat) : Nat := (LL.take j).flatten.length
theorem flen_zero (LL : List (List Int)) : flen LL 0 = 0 := by simp [flen]
theorem flen_le (LL : List (List Int)) (j : Nat) : flen LL j ≤ LL.flatten.length := flat_take_le LL j
theorem flen_succ (LL : List (List Int)) (j : Nat) (hj : j < LL.length) : flen LL (j + 1) = flen LL j + (LL[j]).length := by
  unfold flen
  rw [flat_take_succ LL j hj, List.length_append]
set_option maxHeartbeats 1000000 in
set_option maxRecDepth 100000 in
theorem concat_rows (A : Option Addr) (c : Nat) (LL : List (List Int)) (w : World) (hC : Kd.C (Kd.slice 5 (Kd.int .u8)) w A LL.length LL) (hl : LL.length ≤ 1000000) (hn : LL.flatten.length ≤ 140737488355328) :
    Calls Try.prog 57 #[.slice A LL.length c] w fun e w' => ∃ v, e = .returned v ∧ Kd.R (Kd.int .u8) 5 w' w.heap.size (fun _ => True) v LL.flatten ∧ Below w.heap.size w w' := by
  have HC := Aside0.mk hC
  clear hC
  go_enter Try.func57, Try.ntmps57
  go_wp2_with fail
  go_loop [3, 11] (fun s i => ∃ j : Nat, j ≤ LL.length ∧ i = .int .i64 j ∧ s = .int .i64 ((flen LL j : Nat) : Int)) (fun _ i => LL.length - (intOf i).toNat)
  case atStart => exact ⟨0, Nat.zero_le _, rfl, by rw [flen_zero]; rfl⟩
  case round =>
    obtain ⟨j, hj, rfl, rfl⟩ := hrel
    by_cases hlt : j < LL.length
    · obtain ⟨ad, A0, c0, ea, hx, hc0, hC0⟩ := rd_rows HC.out j hlt
      subst ea
      have hb1 := flen_le LL (j + 1)
      have hs := flen_succ LL j hlt
      have HS := Aside0.mk hs
      have hb2 : flen LL j + (LL[j]).length ≤ 140737488355328 := by omega
      clear hs hC0
      go_wp2_with fail
      go_round
      case rel => exact ⟨j + 1, by omega, by go_num, by rw [HS.out]; go_num⟩
      case measure => simp [intOf]; omega
    · have hjl : j = LL.length := by omega
      subst hjl
      have hn' : flen LL LL.length ≤ 140737488355328 := Nat.le_trans (flen_le _ _) hn
      go_wp2_with fail
      refine (grow_nil _ w hn').mono ?_
      rintro e w1 ⟨v1, rfl, hr, hb⟩
      obtain ⟨A1, cap1, e1⟩ := Kd.R_slice hr
      rw [e1] at hr ⊢
      have HR := Aside0.mk hr
      have HB := Aside0.mk hb
      clear hr hb e1
      go_wp2_with fail
      go_loopw [6, 27] (fun s i wr => ∃ j : Nat, j ≤ LL.length ∧ i = .int .i64 j ∧ Aside0 (Kd.R (Kd.int .u8) 5 wr w.heap.size (fun _ => True) s (fcat LL j)) ∧ Aside0 (Below w.heap.size w wr)) (fun _ i _ => LL.length - (intOf i).toNat)
      case atStart => exact ⟨0, Nat.zero_le _, rfl, by rw [fcat_zero]; exact HR, HB⟩
      case round =>
        obtain ⟨j, hj, rfl, HR2, HB2⟩ := hrel
        clear HR HB
        by_cases hlt : j < LL.length
        · obtain ⟨ad, A0, c0, ea, hx, hc0, hC0⟩ := rd_rows (Kd.C_below HC.out HB2.out) j hlt
          subst ea
          have hb1 := fcat_le LL (j + 1)
          have hs := fcat_succ LL j hlt
          rw [hs, List.length_append] at hb1
          have HS := Aside0.mk hs
          have HC0 := Aside0.mk hC0
          clear hs hC0
          have hbs := HB2.out.size
          go_wp2_with (at_builtin; go_loud (refine app_row .u8 w.heap.size rfl (.tmp 31) (.tmp 32) 46 5 (.int .u8 0) 1 rfl Try.underlying46 info5 rfl (by omega) _ _ _ _ _ _ rfl rfl HR2.out HC0.out hbs (by omega) ?_; intro A2 c2 w2 hr2 hf2 hat2; have HR3 := Aside0.mk hr2; have HF := Aside0.mk hf2; clear hr2 hf2 hat2))
          go_roundw
          case rel => exact ⟨j + 1, by omega, by go_num, ⟨by rw [HS.out]; exact HR3.out⟩, ⟨HB2.out.trans (HF.out.below hbs (fun k hk => Kd.R_base HR2.out k hk.symm))⟩⟩
          case measure => simp [intOf]; omega
        · have hjl : j = LL.length := by omega
          subst hjl
          obtain ⟨A2, cap2, e2⟩ := Kd.R_slice HR2.out
          have HE := Aside0.mk e2
          clear e2
          go_wp2_with fail
          go_ret
          exact ⟨_, rfl, by have := HR2.out; rwa [fcat_all] at this, HB2.out⟩
end Go.Proofs.Ytagcabmccpekaaa.M
