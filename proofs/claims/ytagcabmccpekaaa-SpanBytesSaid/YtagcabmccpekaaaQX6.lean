/- Of any proof of a span and any bytes massiflaw20.SpanBytes returns true: the bytes of any proof, and what any bytes read as, are the reference's; the arguments stay as they were. -/
import Derived.Test.YtagcabmccpekaaaRows
import Derived.Test.YtagcabmccpekaaaQX0
import Derived.Test.YtagcabmccpekaaaQX2
import Derived.Test.YtagcabmccpekaaaQX5
import Derived.Carry
set_option linter.unusedVariables false
set_option linter.unusedSimpArgs false
set_option linter.unusedVariables false
set_option linter.unusedSimpArgs false
namespace Go.Proofs.Ytagcabmccpekaaa.spanBytes
open Go.ChangeShapes Go.WideShapes Go.ChangeAt Go.RowKit Go.Proofs.YtagcabmccpekaaaW.PrintWords
set_option linter.unusedVariables false      -- a walk need not use every 'w<i>' (that an integer argument fits its kind)

theorem laid : laidOutB Try.prog = true := by kernel_rfl
theorem own : ownKnob Try.prog.godebug = none := by kernel_rfl

theorem bytes_of {xs : List Int} (h : ∀ x ∈ xs, (Lit.int .u8 x).wf = true) : M.Bytes xs := fun x hx => by
  have := bounds_u8 (h x hx)
  omega
/-! ### THE ROW's STEP: WRITTEN OUT: LEAVE IT -/
set_option maxRecDepth 100000 in
theorem lifted (os : Os) (started : os.Started) (H : Type) (enc : TypeId × Value → H) :
    ReturnsInHanded {} Try.checked os 5 .any (Rows.spanBytesSpec.pre6 enc Try.prog Try.f5 Rows.spanBytesRow.domain false) (Rows.spanBytesSpec.post enc Try.prog Try.f5 false true false false) := by
  refine returnsInHanded_of_change (C := Try.checked) own started (by kernel_rfl) Try.func5
    (ChangeSpec.witness6 (enc := enc) (C := Try.checked) false ⟨#[], #[.agg #[.int .u64 0, .int .u64 0, .int .u64 0, .slice none 0 0], .slice none 0 0], []⟩ 8 (by kernel_rfl) (by kernel_rfl) (by kernel_rfl) (by kernel_rfl)) ?_
  intro W base args ds gs before hval0 hW hcnd _
  have hval : ∀ (j : Nat) t v, Try.f5.params[j]? = some t → args[j]? = some v → Value.okWide Try.prog W .any base t v := hval0
  have hW' := hW
  obtain ⟨p, q, hA0, hV, rfl, hfz, hnd⟩ := hW
  have hA : DataW.TrodAll enc Try.prog W 0 (fun _ => true) true Try.f5.params.toList args.toList ds p := hA0
  rw [Try.params5] at hA hval
  obtain ⟨v0, vs0, d0, ds0, p0, q0, hargs, rfl, rfl, h0, r0⟩ := trodAll_cons hA
  obtain ⟨v1, vs1, d1, ds1, p1, q1, rfl, rfl, rfl, h1, r1⟩ := trodAll_cons r0
  obtain ⟨rfl, rfl, rfl⟩ := trodAll_nil r1
  obtain rfl : args = #[v0, v1] := by cases args; simp_all
  obtain ⟨rfl, rfl⟩ := trodVars_none hV
  have hlt : ∀ x ∈ p0 ++ (p1 ++ []), x.block < W.heap.size := fun x hx => hW'.lt x (by simpa using hx)
  obtain ⟨n, f, t, A0, c0, ns, rfl, hn, hf, ht, hl0, hC0, hns⟩ := M.open_reach (hval 0 45 v0 rfl rfl) h0
  obtain ⟨A1, c1, xs1, rfl, hl1, hm1, hC1, w1, shut1⟩ := M.open_row Try.underlying46 Try.underlying5 (by kernel_rfl) (hval 1 46 v1 rfl rfl) h1
  clear hA0 hval0
  simp only [List.append_nil] at hW'
  refine (M.span_bytes_law n f t ns A0 c0 xs1 A1 c1 W hn hf ht hl1 hns (bytes_of w1) hC0 hC1).mono fun e W' ⟨he, hg⟩ => ?_
  subst he
  have hp0 : p0 ++ (p1 ++ []) = p0 ++ p1 := by simp
  have hres : ∀ sp : Nat → Bool, (∀ p ∈ p0 ++ p1, sp p.block = true) → DataW.Trod enc Try.prog W' 0 sp true 45 (.agg #[.int .u64 n, .int .u64 f, .int .u64 t, .slice A0 ns.length c0]) d0 p0 := fun sp hsp =>
    Go.WideElems.Trod_stays laid (by kernel_rfl) (of_decide_eq_true (by kernel_rfl)) h0 (fun x hx => hg.same (hlt x (List.mem_append_left _ hx))) (fun x hx => hsp x (List.mem_append_left _ hx))
  exact ⟨_, rfl, M.post_of_below (pa := p0 ++ p1) (pv := []) hW' (fun _ _ _ => (trodAll_cons_mk (shut_bool Try.underlying4 _) trodAll_mk0)) (fun sp hsp => hp0 ▸ (trodAll_cons_mk (hres sp hsp) (trodAll_cons_mk (shut1 W' hg sp (fun p hp => hsp p (List.mem_append_right _ hp))) trodAll_mk0))) (fun _ _ => rfl) (List.append_nil _).symm
    hg (ok_one (by kernel_rfl) rfl (okWide_bool_mk Try.underlying4 _))⟩

theorem over : Rows.spanBytesRow.holds Try.pinned (OpenSpec.ofChange Rows.spanBytesSpec) :=
  OpenClaim.holds_of_wide 5 Try.f5 rfl rfl rfl rfl rfl rfl rfl ⟨rfl, rfl, rfl, rfl, rfl⟩ rfl rfl rfl rfl rfl (by kernel_rfl) Try.func5 (by kernel_rfl)
    (of_decide_eq_true (by kernel_rfl)) (by unfold Func.isWrapper; first | (rw [if_pos (by decide +kernel)]; kernel_rfl) | (rw [if_neg (by decide +kernel)]; exact ⟨rfl, rfl⟩))
    (fun os started H enc _ => lifted os started H enc)

/-- The statement. -/
theorem proved : Rows.SpanBytesSaid :=
  over
#print axioms proved
end Go.Proofs.Ytagcabmccpekaaa.spanBytes
