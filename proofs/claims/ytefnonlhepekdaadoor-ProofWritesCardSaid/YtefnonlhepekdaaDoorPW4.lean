/- Of any proof and any prefix proof massiflaw7.ProofWrites returns true, where Go's table math/bits.deBruijn64tab holds what its initialiser lays (the condition, tied to the program's text): the bytes that proof.Encode and proof.EncodePrefix answer are the reference's, two answers are apart, and the arguments stay as they were. -/
import Derived.Test.YtefnonlhepekdaaDoorPW1
import Derived.Test.YtefnonlhepekdaaDoorPW3
import Derived.Carry
set_option linter.unusedVariables false
set_option linter.unusedSimpArgs false
set_option linter.unusedVariables false
set_option linter.unusedSimpArgs false
namespace Go.Proofs.YtefnonlhepekdaaDoor.proofWrites
open Go Go.ChangeShapes Go.WideShapes Go.ChangeAt Go.RowKit Go.Proofs.YtefnonlhepekdaaDoorW.PrintWords
set_option linter.unusedVariables false

theorem laid : laidOutB Tryd.prog = true := by kernel_rfl
theorem bytes_of {xs : List Int} (h : ∀ x ∈ xs, (Lit.int .u8 x).wf = true) : M.Bytes xs := fun x hx => by
  have := bounds_u8 (h x hx)
  omega
set_option maxRecDepth 100000 in
theorem lifted (os : Os) (started : os.Started) (H : Type) (enc : TypeId × Value → H) :
    ReturnsInHanded {} Tryd.checked os 5 .any (fun w args => (Rows.proofWritesSpec.pre enc Tryd.prog Tryd.f5 [] false w args ∧ laidMetH Tryd.prog M.laidDB w) ∧ sizedMet enc Tryd.prog Tryd.f5 (OpenSpec.ofChange Rows.proofWritesSpec) false w args)
      (Rows.proofWritesSpec.post enc Tryd.prog Tryd.f5 false true false false) := by
  refine returnsInHanded_of_change_and (C := Tryd.checked) (X := fun w _ => laidMetH Tryd.prog M.laidDB w) (fun _ _ _ hh h => h.of_heap hh) M.ownKn started (by kernel_rfl) Tryd.func5
    (ChangeSpec.witness_shaped (enc := enc) (C := Tryd.checked) (os := os) (X := fun w _ => laidMetH Tryd.prog M.laidDB w) false (World.doorLaid Tryd.prog 24 os) #[.agg #[.int .u64 0, .int .u64 0, .slice none 0 0], .agg #[.int .u64 0, .int .u64 0, .slice none 0 0]] 8 rfl (World.shaped_of_RefB (by kernel_rfl) (by kernel_rfl)) (by kernel_rfl) (by kernel_rfl) (by kernel_rfl) (M.door_met os _)) ?_
  intro W base args ds gs before hval0 hW _ _ hL _
  have hval : ∀ (j : Nat) t v, Tryd.f5.params[j]? = some t → args[j]? = some v → Value.okWide Tryd.prog W .any base t v := hval0
  have hW' := hW
  obtain ⟨p, q, hA0, hV, rfl, hfz, hnd⟩ := hW
  have hA : DataW.TrodAll enc Tryd.prog W 0 (fun _ => true) true Tryd.f5.params.toList args.toList ds p := hA0
  rw [Tryd.params5] at hA hval
  obtain ⟨v0, vs0, d0, ds0, p0, q0, hargs, rfl, rfl, h0, r0⟩ := trodAll_cons hA
  obtain ⟨v1, vs1, d1, ds1, p1, q1, rfl, rfl, rfl, h1, r1⟩ := trodAll_cons r0
  obtain ⟨rfl, rfl, rfl⟩ := trodAll_nil r1
  obtain rfl : args = #[v0, v1] := by cases args; simp_all
  obtain ⟨rfl, rfl⟩ := trodVars_none hV
  have hlt : ∀ x ∈ p0 ++ (p1 ++ []), x.block < W.heap.size := fun x hx => hW'.lt x (by simpa using hx)
  obtain ⟨n, i, A0, c0, ns, rfl, hn, hi, hl0, hC0, hns⟩ := M.open_proof (hval 0 41 v0 rfl rfl) h0
  obtain ⟨m, q', B0, e0, xs, rfl, hm, hq, hl1, hC1, hxs⟩ := M.open_prefix (hval 1 43 v1 rfl rfl) h1
  have hT := M.db_of_laid hL
  clear hA0 hval0 hL
  simp only [List.append_nil] at hW'
  refine (M.proof_writes_law n i m q' c0 e0 ns xs A0 B0 W hn hi hm hq hC0 hC1 hT).mono fun e W' ⟨he, hg⟩ => ?_
  subst he
  have hp0 : p0 ++ (p1 ++ []) = p0 ++ p1 := by simp
  have hres : ∀ sp : Nat → Bool, (∀ p ∈ p0 ++ p1, sp p.block = true) → DataW.Trod enc Tryd.prog W' 0 sp true 41 (.agg #[.int .u64 n, .int .u64 i, .slice A0 ns.length c0]) d0 p0 := fun sp hsp =>
    Go.WideElems.Trod_stays laid (by kernel_rfl) (of_decide_eq_true (by kernel_rfl)) h0 (fun x hx => hg.same (hlt x (List.mem_append_left _ hx))) (fun x hx => hsp x (List.mem_append_left _ hx))
  have hres1 : ∀ sp : Nat → Bool, (∀ p ∈ p0 ++ p1, sp p.block = true) → DataW.Trod enc Tryd.prog W' 0 sp true 43 (.agg #[.int .u64 m, .int .u64 q', .slice B0 xs.length e0]) d1 p1 := fun sp hsp =>
    Go.WideElems.Trod_stays laid (by kernel_rfl) (of_decide_eq_true (by kernel_rfl)) h1 (fun x hx => hg.same (hlt x (List.mem_append_right _ (List.mem_append_left _ hx)))) (fun x hx => hsp x (List.mem_append_right _ hx))
  exact ⟨_, rfl, M.post_of_below (pa := p0 ++ p1) (pv := []) hW' (fun _ _ _ => (trodAll_cons_mk (shut_bool Tryd.underlying4 _) trodAll_mk0)) (fun sp hsp => hp0 ▸ (trodAll_cons_mk (hres sp hsp) (trodAll_cons_mk (hres1 sp hsp) trodAll_mk0))) (fun _ _ => rfl) (List.append_nil _).symm
    hg (ok_one (by kernel_rfl) rfl (okWide_bool_mk Tryd.underlying4 _))⟩

theorem over : Rows.proofWritesRow.holds Tryd.pinned (OpenSpec.ofChange Rows.proofWritesSpec) :=
  OpenClaim.holds_of_wide 5 Tryd.f5 rfl rfl rfl rfl rfl rfl rfl ⟨rfl, rfl, rfl, rfl, rfl⟩ rfl rfl rfl rfl rfl (by kernel_rfl) Tryd.func5 (by kernel_rfl)
    (of_decide_eq_true (by kernel_rfl)) (by unfold Func.isWrapper; first | (rw [if_pos (by decide +kernel)]; kernel_rfl) | (rw [if_neg (by decide +kernel)]; exact ⟨rfl, rfl⟩))
    (fun os started H enc _ => lifted os started H enc)

/-- The statement. -/
theorem proved : Rows.ProofWritesCardSaid :=
  Claim7.holds_tied_plain_at .later [] [.data] true Rows.proofWritesCard.stood.harness Rows.proofWritesCard.stood.looks
    over (fun _ h => by cases h) (by kernel_rfl) (fun _ h => by cases h) proofWrites_row_tie rfl ⟨rfl, rfl⟩ (by kernel_rfl) rfl
    (fun f fn hf hfn => by
      obtain rfl : f = 5 := Option.some.inj ((show Tryd.prog.funcNamed "massif/massiflaw7.ProofWrites" = some 5 by kernel_rfl).symm.trans hf) |>.symm
      obtain rfl : fn = Tryd.f5 := (Option.some.inj (Tryd.func5.symm.trans hfn)).symm
      exact ⟨by kernel_rfl, fun j t ht => by
        rw [Tryd.params5] at ht
        have hm : t ∈ [41, 43] := by simpa using Array.mem_of_getElem? ht
        have hall : ([41, 43].all fun u => !Tryd.prog.wantsStandIn u) = true := by kernel_rfl
        exact (show Tryd.prog.wantsStandIn t = false by simpa using List.all_eq_true.1 hall t hm)⟩)
    (by kernel_rfl)
#print axioms proved
end Go.Proofs.YtefnonlhepekdaaDoor.proofWrites
