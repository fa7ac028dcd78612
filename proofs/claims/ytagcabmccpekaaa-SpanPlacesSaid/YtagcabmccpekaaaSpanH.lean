/- massiflaw20.SpanPlaces returns true: the walk. -/
import Derived.Test.YtagcabmccpekaaaSpanG
namespace Go.Proofs.Ytagcabmccpekaaa.M
open Go.RowKit Go.Proofs.YtagcabmccpekaaaW.PrintWords Go.Proofs.YtagcabmccpekaaaW.PrintLast Go.Proofs.YtagcabmccpekaaaW.PrintMore Go.Proofs.Ytagcabmccpekaaa.Leaf

set_option maxHeartbeats 2000000 in
set_option maxRecDepth 100000 in
theorem span_places_law (f t n : Nat) (w : World) :
    Calls Try.prog 3 #[.int .u64 f, .int .u64 t, .int .u64 n] w fun e w' => e = .returned (.bool true) ∧ Below w.heap.size w w' := by
  have hr := ref20_calls f t n
  have hp := span_places f t n
  have hlen := spanAns_len f t n
  generalize (spanAns f t n).1 = L at *
  generalize (spanAns f t n).2 = er at *
  have HRef := Aside0.mk hr
  have HP := Aside0.mk hp
  clear hr hp
  go_enter Try.func3, Try.ntmps3
  go_wp2_with fail
  refine (HRef.out _).mono ?_
  rintro e w1 ⟨vw, rfl, hw, hb1⟩
  obtain ⟨Aw, nw, cw, ew⟩ : ∃ A l c, vw = .slice A l c := (by obtain ⟨A, c, h⟩ := Kd.R_slice hw; exact ⟨A, _, c, h⟩)
  subst ew
  have HW1 := Aside0.mk hw
  have HB1 := Aside0.mk hb1
  clear hw hb1
  go_wp2_with fail
  refine (HP.out _).mono ?_
  rintro e w2 ⟨va, rfl, ha, hb2⟩
  obtain ⟨Aa, na, ca, ea⟩ : ∃ A l c, va = .slice A l c := (by obtain ⟨A, c, h⟩ := Kd.R_slice ha; exact ⟨A, _, c, h⟩)
  subst ea
  have HA2 := Aside0.mk ha
  have HB2 := Aside0.mk hb2
  clear ha hb2
  go_wp2_with fail
  refine (HP.out _).mono ?_
  rintro e w3 ⟨vb, rfl, hb, hb3⟩
  obtain ⟨Ab, nb, cb, eb⟩ : ∃ A l c, vb = .slice A l c := (by obtain ⟨A, c, h⟩ := Kd.R_slice hb; exact ⟨A, _, c, h⟩)
  subst eb
  have HBB3 := Aside0.mk hb
  have HB3 := Aside0.mk hb3
  clear hb hb3
  have hab := Aside0.mk (apart_new HA2.out HBB3.out)
  have hwa := Aside0.mk (apart_new HW1.out HA2.out)
  have hwb := Aside0.mk (apart_new (Kd.R_below HW1.out HB2.out) HBB3.out)
  have S0 := Aside0.mk (show SpL1 w (.slice Aa na ca) (.slice Ab nb cb) (.slice Aw nw cw) L 0 w3 from ⟨by rw [mk_zero]; exact Kd.R_lower (Kd.R_below HA2.out HB3.out) HB1.out.size, by rw [mk_zero]; exact Kd.R_lower HBB3.out (Nat.le_trans HB1.out.size HB2.out.size), Kd.R_below (Kd.R_below HW1.out HB2.out) HB3.out, below_on (below_on HB1.out HB1.out.size HB2.out) (Nat.le_trans HB1.out.size HB2.out.size) HB3.out⟩)
  clear HW1 HA2 HBB3 HB1 HB2 HB3
  have hna : na = L.length := by have := (Kd.R_reads' S0.out.1).1; rwa [mk_zero] at this
  have hnb : nb = L.length := by have := (Kd.R_reads' S0.out.2.1).1; rwa [mk_zero] at this
  subst na nb
  have he1 : (er != er) = false := by simp
  have he2 : (er == er) = true := by simp
  have RA := Aside0.mk (Rd.of_R (by have := S0.out.1; rwa [mk_zero] at this))
  have RB := Aside0.mk (Rd.of_R (by have := S0.out.2.1; rwa [mk_zero] at this))
  have RW := Aside0.mk (Rd.of_R S0.out.2.2.1)
  go_wp2_with (first | (go_at_call 13; go_loud (refine (same_true (xs := L) (by (repeat (with_reducible refine Rd.drewN ?_ _)); with_reducible first | exact RA.out | exact RB.out) (by (repeat (with_reducible refine Rd.drewN ?_ _)); exact RW.out) (by omega)).mono ?_; rintro e w4 ⟨rfl, ⟨nd, rfl⟩⟩)))
  have S1 := Aside0.mk (SpL1.drewN (SpL1.drewN S0.out nd) 0)
  clear RA RB RW S1
  go_loopw [13] (fun c wr => ∃ j : Nat, j ≤ L.length ∧ c = .int .i64 j ∧ Aside0 (SpL1 w (.slice Aa L.length ca) (.slice Ab L.length cb) (.slice Aw nw cw) L j wr)) (fun c _ => L.length - (intOf c).toNat)
  case atStart => exact ⟨0, Nat.zero_le _, rfl, ⟨SpL1.drewN S0.out _⟩⟩
  case round =>
    obtain ⟨j, hj, rfl, HS⟩ := hrel
    clear S0
    by_cases hlt : j < L.length
    · obtain ⟨ga, gb, ea, eb, hne, ⟨x1, k1⟩, k2, k3, k4⟩ := SpL1.form HS.out hlt hab.out
      subst ea eb
      obtain ⟨x3, k3⟩ := k3 (.int .u64 201)
      have k4 := k4 (.int .u64 201)
      go_wp2_with fail
      go_roundw
      case rel => exact ⟨j + 1, by omega, by go_num, ⟨SpL1.next HS.out hlt hab.out hwa.out hwb.out⟩⟩
      case measure => simp [intOf]; omega
    · have hjl : j = L.length := by omega
      subst hjl
      have SA := Aside0.mk (show Kd.R (Kd.int .u64) 22 wr w.heap.size (fun _ => True) (.slice Aa L.length ca) (List.replicate L.length 201) from mk_all 201 L ▸ HS.out.1)
      have SB := Aside0.mk (show Kd.R (Kd.int .u64) 22 wr w.heap.size (fun _ => True) (.slice Ab L.length cb) (List.replicate L.length 202) from mk_all 202 L ▸ HS.out.2.1)
      have hsz := HS.out.2.2.2.size
      go_wp2_with (first | ((with_reducible refine gate_builtin (b := .append) (xs := #[.tmp 70, .tmp 71]) rfl ?_); at_builtin; go_loud (refine app_one (Kd.int .u64) w.heap.size rfl (.tmp 70) (.tmp 71) 23 22 (.int .u64 0) 8 rfl Try.underlying23 info22 rfl (by decide) (by omega) _ _ 201 [.int .u64 201] rfl rfl rfl SA.out hsz (by simp; omega) ?_; intro A5 c5 w5 hr5 hf5 ha5; rw [List.length_replicate] at hr5 ha5 ⊢; have HR5 := Aside0.mk hr5; have HF5 := Aside0.mk hf5; have HA5 := Aside0.mk ha5; clear hr5 hf5 ha5)) | ((with_reducible refine gate_builtin (b := .append) (xs := #[.tmp 73, .tmp 74]) rfl ?_); at_builtin; go_loud (refine app_one (Kd.int .u64) w.heap.size rfl (.tmp 73) (.tmp 74) 23 22 (.int .u64 0) 8 rfl Try.underlying23 info22 rfl (by decide) (by omega) _ _ 202 [.int .u64 202] rfl rfl rfl (R_frm (flat_int .u64) SB.out HF5.out (fun k hk he => hab.out k he.symm hk)) (Nat.le_trans hsz HF5.out.size) (by simp; omega) ?_; intro A6 c6 w6 hr6 hf6 ha6; rw [List.length_replicate] at hr6 ha6 ⊢; have HR6 := Aside0.mk hr6; have HF6 := Aside0.mk hf6; have HA6 := Aside0.mk ha6; clear hr6 hf6 ha6)))
      have M2 := SpL2.make HS.out hab.out hwa.out hwb.out HR5.out HF5.out HA5.out HR6.out HF6.out HA6.out
      have HM := Aside0.mk M2.1
      have hab2 := Aside0.mk M2.2
      clear M2 HR5 HF5 HA5 HR6 HF6 HA6 SA SB
      go_loop [14] (fun c => ∃ j : Nat, j ≤ L.length + 1 ∧ c = .int .i64 j) (fun c => L.length + 1 - (intOf c).toNat)
      case atStart => exact ⟨0, Nat.zero_le _, rfl⟩
      case round =>
        obtain ⟨j, hj, rfl⟩ := hrel
        by_cases hlt : j < L.length + 1
        · obtain ⟨ad5, ea5, k5⟩ := rep_cell HM.out.1 j hlt
          obtain ⟨ad6, ea6, k6⟩ := rep_cell HM.out.2.1 j hlt
          subst ea5 ea6
          go_wp2_with fail
          go_round
          case rel => exact ⟨j + 1, by omega, by go_num⟩
          case measure => simp [intOf]; omega
        · have hjl : j = L.length + 1 := by omega
          subst hjl
          go_wp2_with fail
          refine (HP.out _).mono ?_
          rintro e w7 ⟨vc, rfl, hc, hb7⟩
          obtain ⟨Ac, nc, cc, ec⟩ : ∃ A l c, vc = .slice A l c := (by obtain ⟨A, c, h⟩ := Kd.R_slice hc; exact ⟨A, _, c, h⟩)
          subst ec
          have RC := Aside0.mk (Rd.of_R hc)
          have RW7 := Aside0.mk ((Rd.of_R HM.out.2.2.1).below hb7)
          have HB7 := Aside0.mk (below_on HM.out.2.2.2 HM.out.2.2.2.size hb7)
          clear hc hb7
          go_wp2_with (first | (go_at_call 13; go_loud (refine (same_true (xs := L) RC.out RW7.out (by omega)).mono ?_; rintro e w8 ⟨rfl, ⟨nd8, rfl⟩⟩)) | (go_at_call 14; go_loud (refine (awake20 _).mono ?_; rintro e w9 ⟨rfl, hb9⟩; have HB9 := Aside0.mk hb9; clear hb9)))
          go_ret
          exact ⟨rfl, below_on (pw_below_drewN HB7.out _) (by exact HB7.out.size) HB9.out⟩
end Go.Proofs.Ytagcabmccpekaaa.M
