/- span.Encode. -/
import Derived.Test.YtagcabmccpekaaaSpanD
import Derived.Test.YtagcabmccpekaaaBytesA
import Derived.Test.YtagcabmccpekaaaShort
import Derived.Test.YtagcabmccpekaaaHash
namespace Go.Proofs.Ytagcabmccpekaaa.M
open Go.RowKit Go.Proofs.YtagcabmccpekaaaW.PrintWords Go.Proofs.YtagcabmccpekaaaW.PrintLast Go.Proofs.YtagcabmccpekaaaW.PrintMore Go.Proofs.Ytagcabmccpekaaa.Leaf

/-- The bytes of hashes, one behind the other. -/
def nodesI (ns : List Hsh) : List Int := ns.flatMap Hsh.b
def spanBytes (f t n : Nat) (ns : List Hsh) : List Int := [83] ++ shortI n ++ shortI f ++ shortI (t - f) ++ nodesI ns
def encAns (f t n : Nat) (ns : List Hsh) : List Int × Int := if chkN f t n ns.length = 0 then (spanBytes f t n ns, 0) else ([], chkN f t n ns.length)

theorem short_calls (x : Nat) (hx : x < 18446744073709551616) (w : World) :
    Calls Try.prog 58 #[.int .u64 x] w fun e w' => ∃ v, e = .returned v ∧ Kd.R (Kd.int .u8) 5 w' w.heap.size (fun _ => True) v (shortI x) ∧ Below w.heap.size w w' := by
  obtain ⟨k, hk⟩ := (short_val x hx).rounds
  exact num_Short.calls k x _ w hk

set_option maxHeartbeats 2000000 in
set_option maxRecDepth 100000 in
theorem span_encode (f t n c : Nat) (ns : List Hsh) (A : Option Addr) (w : World) (hf : f < 18446744073709551616) (ht : t < 18446744073709551616) (hn : n < 18446744073709551616) (hA : kH.C w A ns.length ns) :
    Calls Try.prog 24 #[.agg #[.int .u64 n, .int .u64 f, .int .u64 t, .slice A ns.length c]] w fun e w' => ∃ v, e = .returned (.tuple #[v, .int .i64 (encAns f t n ns).2]) ∧ Kd.R (Kd.int .u8) 5 w' w.heap.size (fun _ => True) v (encAns f t n ns).1 ∧ Below w.heap.size w w' := by
  have hck := span_checked f t n ns.length c A
  have hea : encAns f t n ns = if chkN f t n ns.length = 0 then (spanBytes f t n ns, 0) else ([], chkN f t n ns.length) := rfl
  have hle : chkN f t n ns.length = 0 → ns.length ≤ 8001 ∧ f ≤ t := by
    intro h
    unfold chkN at h
    split at h
    · omega
    · next h2 =>
      have h3 := spanAns_len f t n
      have : ¬ (spanAns f t n).1.length ≠ ns.length := fun h4 => h2 ⟨h, h4⟩
      refine ⟨by omega, ?_⟩
      unfold spanAns at h
      split at h
      · simp at h
      · split at h
        · simp at h
        · omega
  generalize encAns f t n ns = E at *
  generalize chkN f t n ns.length = r at *
  have HC := Aside0.mk hck
  have HE := Aside0.mk hea
  have HN := Aside0.mk hA
  have HL := Aside0.mk hle
  clear hck hea hA hle
  go_enter Try.func24, Try.ntmps24
  go_wp2_with fail
  refine (HC.out _).mono ?_
  rintro e w1 ⟨rfl, hb⟩
  have hb0 : Below w.heap.size w w1 := (bl_new w _).trans (hb.mono (by simp))
  have hbx : w1.heap[w.heap.size]? = some (.cells #[.int .u64 n, .int .u64 f, .int .u64 t, .slice A ns.length c] 45 (0, 0)) := (hb.block _ (by simp)).trans (heap_new w _)
  have hz1 := hb.size
  simp at hz1
  have HB := Aside0.mk hb0
  have HX := Aside0.mk hbx
  clear hb hb0 hbx
  by_cases h0 : r = 0
  · subst h0
    obtain ⟨hns, hft⟩ := HL.out rfl
    clear HL HC
    go_wp2_with fail
    go_upto_region 4 with (fail)
    go_cut [5] (fun v5 wc => ∃ A5 l5 c5, v5 = .slice A5 l5 c5 ∧ Aside0 (Kd.R (Kd.int .u8) 5 wc w.heap.size (fun _ => True) v5 ([83] ++ shortI n ++ shortI f ++ shortI (t - f)) ∧ Below w.heap.size w wc ∧ wc.heap[w.heap.size]? = some (.cells #[.int .u64 n, .int .u64 f, .int .u64 t, .slice A ns.length c] 45 (0, 0)) ∧ w.heap.size < wc.heap.size))
    case first =>
      have hx0 : w1.cell? ⟨w.heap.size, 0, none⟩ = some (.int .u64 n) := (blk_cell HX.out 0).trans rfl
      have hx1 : w1.cell? ⟨w.heap.size, 1, none⟩ = some (.int .u64 f) := (blk_cell HX.out 1).trans rfl
      have hx2 : w1.cell? ⟨w.heap.size, 2, none⟩ = some (.int .u64 t) := (blk_cell HX.out 2).trans rfl
      have e1 : IntKind.u64.wrap ((t : Int) - (f : Int)) = ((t - f : Nat) : Int) := by rw [w64_of _ (by omega) (by omega)]; omega
      have hz2 : w.heap.size < w1.heap.size := by omega
      go_region_held3 (fun w' => w'.cell? ⟨w.heap.size, 0, none⟩ = some (.int .u64 n) ∧ w'.cell? ⟨w.heap.size, 1, none⟩ = some (.int .u64 f) ∧ w'.cell? ⟨w.heap.size, 2, none⟩ = some (.int .u64 t)) ((exact keep3 hx0 hx1 hx2 hz2 (by repeat (with_reducible first | exact Below.refl _ _ | refine blt ?_ bd.out | refine blt ?_ ba.out | refine blt ?_ bb.out | refine blt ?_ bc.out | refine below_alloc ?_ _ | refine below_drew ?_)))) (first | (go_at_call_of 58 (Value.int .u64 (n : Int)); refine (short_calls n hn _).mono ?_; rintro e wa ⟨va, rfl, hra, hba⟩; obtain ⟨Aa, ca, ea⟩ := Kd.R_slice hra; rw [ea] at hra ⊢; have ra := Aside0.mk (Rd.of_R hra); have ba := Aside0.mk hba; clear hra hba ea) | (go_at_call_of 58 (Value.int .u64 (f : Int)); refine (short_calls f hf _).mono ?_; rintro e wb ⟨vb, rfl, hrb, hbb⟩; obtain ⟨Ab, cb, eb⟩ := Kd.R_slice hrb; rw [eb] at hrb ⊢; have rb := Aside0.mk (Rd.of_R hrb); have bb := Aside0.mk hbb; clear hrb hbb eb) | (go_at_call_of 58 (Value.int .u64 ((t - f : Nat) : Int)); refine (short_calls (t - f) (by omega) _).mono ?_; rintro e wc ⟨vc, rfl, hrc, hbc⟩; obtain ⟨Ac, cc, ec⟩ := Kd.R_slice hrc; rw [ec] at hrc ⊢; have rc := Aside0.mk (Rd.of_R hrc); have bc := Aside0.mk hbc; clear hrc hbc ec) | (go_at_call 57; refine (concat_rows (some ⟨_, 0, none⟩) 4 [[83], shortI n, shortI f, shortI (t - f)] _ (C_rows4 .u8 5 _ _ _ _ _ 46 _ _ _ _ (by repeat (with_reducible first | exact ra.out | exact rb.out | exact rc.out | exact Rd.one _ _ _ _ (by simp [World.drew]) | refine Rd.below ?_ ba.out | refine Rd.below ?_ bb.out | refine Rd.below ?_ bc.out | refine Rd.alloc ?_ _ | refine Rd.drew ?_)) (by repeat (with_reducible first | exact ra.out | exact rb.out | exact rc.out | exact Rd.one _ _ _ _ (by simp [World.drew]) | refine Rd.below ?_ ba.out | refine Rd.below ?_ bb.out | refine Rd.below ?_ bc.out | refine Rd.alloc ?_ _ | refine Rd.drew ?_)) (by repeat (with_reducible first | exact ra.out | exact rb.out | exact rc.out | exact Rd.one _ _ _ _ (by simp [World.drew]) | refine Rd.below ?_ ba.out | refine Rd.below ?_ bb.out | refine Rd.below ?_ bc.out | refine Rd.alloc ?_ _ | refine Rd.drew ?_)) (by repeat (with_reducible first | exact ra.out | exact rb.out | exact rc.out | exact Rd.one _ _ _ _ (by simp [World.drew]) | refine Rd.below ?_ ba.out | refine Rd.below ?_ bb.out | refine Rd.below ?_ bc.out | refine Rd.alloc ?_ _ | refine Rd.drew ?_)) (by simp [World.drew])) (by simp) (by have := shortI_len n; have := shortI_len f; have := shortI_len (t - f); simp; omega)).mono ?_; rintro e wd ⟨vd, rfl, hrd, hbd⟩; obtain ⟨Ad, ld, cd, ed⟩ : ∃ A l c, vd = .slice A l c := (by obtain ⟨A, c, h⟩ := Kd.R_slice hrd; exact ⟨A, _, c, h⟩); rw [ed] at hrd ⊢; have rd := Aside0.mk hrd; have bd := Aside0.mk hbd; clear hrd hbd ed))
      all_goals
        have hq : Below w1.heap.size w1 wd := (by repeat (with_reducible first | exact Below.refl _ _ | refine blt ?_ bd.out | refine blt ?_ ba.out | refine blt ?_ bb.out | refine blt ?_ bc.out | refine below_alloc ?_ _ | refine below_drew ?_))
        go_wp2_with fail
        go_meet
        case rel => exact ⟨_, _, _, rfl, ⟨⟨Kd.R_lower (by have := rd.out; rw [show [[83], shortI n, shortI f, shortI (t - f)].flatten = [83] ++ shortI n ++ shortI f ++ shortI (t - f) by simp] at this; exact this) (Nat.le_trans HB.out.size (Below.size (B := w1.heap.size) (w := w1) (by repeat (with_reducible first | exact Below.refl _ _ | refine blt ?_ ba.out | refine blt ?_ bb.out | refine blt ?_ bc.out | refine below_alloc ?_ _ | refine below_drew ?_)))), HB.out.trans (hq.mono HB.out.size), (hq.block _ hz2).trans HX.out, by have := hq.size; omega⟩⟩⟩
    case rest =>
      obtain ⟨A5, l5, c5, rfl, hcc⟩ := hcut
      obtain ⟨g1, g2, g3, g4⟩ := hcc.out
      obtain ⟨P0, hP⟩ : ∃ P, P = [83] ++ shortI n ++ shortI f ++ shortI (t - f) := ⟨_, rfl⟩
      rw [← hP] at g1
      have hPl : P0.length ≤ 31 := by have := shortI_len n; have := shortI_len f; have := shortI_len (t - f); rw [hP]; simp only [List.length_append, List.length_singleton]; omega
      have HP := Aside0.mk hP
      have hx3 : wc.cell? ⟨w.heap.size, 3, none⟩ = some (.slice A ns.length c) := (blk_cell g3 3).trans rfl
      have G1 := Aside0.mk g1
      have G2 := Aside0.mk g2
      clear g1 g2 g3 hcc hP
      go_wp2_with fail
      go_loopw [5, 31] (fun s i wr => ∃ j : Nat, j ≤ ns.length ∧ i = .int .i64 j ∧ Aside0 (Kd.R (Kd.int .u8) 5 wr w.heap.size (fun _ => True) s (P0 ++ nodesI (ns.take j))) ∧ Aside0 (Below w.heap.size w wr)) (fun _ i _ => ns.length - (intOf i).toNat)
      case atStart => exact ⟨0, Nat.zero_le _, rfl, by rw [List.take_zero]; simp only [nodesI, List.flatMap_nil, List.append_nil]; exact G1, G2⟩
      case round =>
        obtain ⟨j, hj, rfl, HR, HW⟩ := hrel
        clear G1 G2
        by_cases hlt : j < ns.length
        · obtain ⟨ad, ea, hh⟩ := C_hash (Kd.C_below HN.out HW.out) j hlt
          subst ea
          have HH := Aside0.mk hh
          clear hh
          obtain ⟨hv, hhv⟩ : ∃ h, h = ns[j] := ⟨_, rfl⟩
          rw [← hhv] at HH
          have hcat : nodesI (ns.take (j + 1)) = nodesI (ns.take j) ++ hv.b := by
            rw [List.take_add_one, List.getElem?_eq_getElem hlt, ← hhv]
            show nodesI (ns.take j ++ [hv]) = _
            unfold nodesI
            rw [List.flatMap_append]
            simp only [List.flatMap_cons, List.flatMap_nil, List.append_nil]
          have hlen : (nodesI (ns.take (j + 1))).length ≤ 32 * 8001 := by
            have h1 : ∀ l : List Hsh, (nodesI l).length = 32 * l.length := by
              intro l
              induction l with
              | nil => rfl
              | cons x l ih =>
                rw [show nodesI (x :: l) = x.b ++ nodesI l from rfl, List.length_append, ih, x.len, List.length_cons]
                omega
            rw [h1]
            have := List.length_take_le (j + 1) ns
            omega
          rw [hcat, List.length_append, hv.len] at hlen
          have HCat := Aside0.mk hcat
          clear hcat hhv
          have hsz := HW.out.size
          obtain ⟨P1, hP1⟩ : ∃ P, P = P0 ++ nodesI (ns.take j) := ⟨_, rfl⟩
          have hP1l : P1.length ≤ 300000 := by rw [hP1, List.length_append]; omega
          rw [← hP1] at HR
          have HP1 := Aside0.mk hP1
          clear hP1
          go_wp2_with (first | ((with_reducible refine gate_dst (N := 34) rfl ?_); go_loud (refine load_hash rfl (.tmp 33) rfl _ _ rfl HH.out ?_)) | ((with_reducible refine gate_store (t := 73) (p := 7) (v := .tmp 34) rfl ?_); go_loud (refine store_hash rfl rfl (.tmp 7) (.tmp 34) rfl _ rfl _ _ rfl hv rfl rfl ?_)) | ((with_reducible refine gate_builtin (b := .append) (xs := #[.tmp 35, .tmp 36]) rfl ?_); at_builtin; go_loud (refine app_row .u8 w.heap.size rfl (.tmp 35) (.tmp 36) 46 5 (.int .u8 0) 1 rfl Try.underlying46 info5 rfl (by omega) _ P1 hv.b _ 32 32 rfl rfl (Kd.R_alloc HR.out _) (C_hash_row wr hv _ rfl) (by simp; omega) (by omega) ?_; intro A2 c2 w2 hr2 hf2 hat2; have HR2 := Aside0.mk hr2; have HF2 := Aside0.mk hf2; clear hr2 hf2 hat2)))
          go_roundw
          case rel => exact ⟨j + 1, by omega, by go_num, ⟨by rw [HCat.out, ← List.append_assoc, ← HP1.out]; exact HR2.out⟩, ⟨(below_alloc HW.out _).trans (HF2.out.below (by simp; omega) (fun k hk => Kd.R_base HR.out k hk.symm))⟩⟩
          case measure => simp [intOf]; omega
        · have hjl : j = ns.length := by omega
          subst hjl
          obtain ⟨A6, l6, c6, e6⟩ : ∃ A l c, u5 = .slice A l c := (by obtain ⟨A, c, h⟩ := Kd.R_slice HR.out; exact ⟨A, _, c, h⟩)
          have HE6 := Aside0.mk e6
          clear e6
          go_wp2_with fail
          go_ret2
          have he := HE.out
          rw [if_pos (by first | rfl | trivial)] at he
          rw [he]
          refine ⟨_, rfl, ?_, HW.out⟩
          have hq := HR.out
          rw [List.take_length, HP.out] at hq
          exact hq
  · have hd : (r != 0) = true := by rw [bne_iff_ne]; exact h0
    have HK := Aside0.mk h0
    clear h0 HL HC
    go_wp2
    go_ret2
    have he := HE.out
    rw [if_neg HK.out] at he
    rw [he]
    exact ⟨_, rfl, Kd.R_nil _ _ _ _ _, HB.out⟩
end Go.Proofs.Ytagcabmccpekaaa.M
