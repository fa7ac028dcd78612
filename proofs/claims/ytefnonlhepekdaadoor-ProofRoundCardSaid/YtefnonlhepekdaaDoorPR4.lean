/- Of any proof, any prefix proof and any bytes massiflaw7.ProofRound returns true, where Go's table math/bits.deBruijn64tab holds what its initialiser lays (the condition, tied to the program's text): what proof.Encode writes is read back by proof.Decode, a byte less or more is refused, and bytes that are read are written the same. -/
import Derived.Test.YtefnonlhepekdaaDoorPR1
import Derived.Test.YtefnonlhepekdaaDoorPR3
import Derived.Carry
set_option linter.unusedVariables false
set_option linter.unusedSimpArgs false
set_option linter.unusedVariables false
set_option linter.unusedSimpArgs false
namespace Go.Proofs.YtefnonlhepekdaaDoor.proofRound
open Go Go.ChangeShapes Go.WideShapes Go.ChangeAt Go.RowKit Go.Proofs.YtefnonlhepekdaaDoorW.PrintWords
set_option linter.unusedVariables false

theorem laid : laidOutB Tryd.prog = true := by kernel_rfl
theorem bytes_of {xs : List Int} (h : ∀ x ∈ xs, (Lit.int .u8 x).wf = true) : M.Bytes xs := fun x hx => by
  have := bounds_u8 (h x hx)
  omega
set_option maxRecDepth 100000 in
theorem lifted (os : Os) (started : os.Started) (H : Type) (enc : TypeId × Value → H) :
    ReturnsInHanded {} Tryd.checked os 10 .any (fun w args => (Rows.proofRoundSpec.pre enc Tryd.prog Tryd.f10 [] false w args ∧ laidMetH Tryd.prog M.laidDB w) ∧ sizedMet enc Tryd.prog Tryd.f10 (OpenSpec.ofChange Rows.proofRoundSpec) false w args)
      (Rows.proofRoundSpec.post enc Tryd.prog Tryd.f10 false true false false) := by
  refine returnsInHanded_of_change_and (C := Tryd.checked) (X := fun w _ => laidMetH Tryd.prog M.laidDB w) (fun _ _ _ hh h => h.of_heap hh) M.ownKn started (by kernel_rfl) Tryd.func10
    (ChangeSpec.witness_shaped (enc := enc) (C := Tryd.checked) (os := os) (X := fun w _ => laidMetH Tryd.prog M.laidDB w) false (World.doorLaid Tryd.prog 24 os) #[.agg #[.int .u64 0, .int .u64 0, .slice none 0 0], .agg #[.int .u64 0, .int .u64 0, .slice none 0 0], .slice none 0 0] 8 rfl (World.shaped_of_RefB (by kernel_rfl) (by kernel_rfl)) (by kernel_rfl) (by kernel_rfl) (by kernel_rfl) (M.door_met os _)) ?_
  intro W base args ds gs before hval0 hW _ _ hL _
  have hval : ∀ (j : Nat) t v, Tryd.f10.params[j]? = some t → args[j]? = some v → Value.okWide Tryd.prog W .any base t v := hval0
  have hW' := hW
  obtain ⟨p, q, hA0, hV, rfl, hfz, hnd⟩ := hW
  have hA : DataW.TrodAll enc Tryd.prog W 0 (fun _ => true) true Tryd.f10.params.toList args.toList ds p := hA0
  rw [Tryd.params10] at hA hval
  obtain ⟨v0, vs0, d0, ds0, p0, q0, hargs, rfl, rfl, h0, r0⟩ := trodAll_cons hA
  obtain ⟨v1, vs1, d1, ds1, p1, q1, rfl, rfl, rfl, h1, r1⟩ := trodAll_cons r0
  obtain ⟨v2, vs2, d2, ds2, p2, q2, rfl, rfl, rfl, h2, r2⟩ := trodAll_cons r1
  obtain ⟨rfl, rfl, rfl⟩ := trodAll_nil r2
  obtain rfl : args = #[v0, v1, v2] := by cases args; simp_all
  obtain ⟨rfl, rfl⟩ := trodVars_none hV
  have hlt : ∀ x ∈ p0 ++ (p1 ++ (p2 ++ [])), x.block < W.heap.size := fun x hx => hW'.lt x (by simpa using hx)
  obtain ⟨n, i, A0, c0, ns, rfl, hn, hi, hl0, hC0, hns⟩ := M.open_proof (hval 0 41 v0 rfl rfl) h0
  obtain ⟨m, q', B0, e0, xs, rfl, hm, hq, hl1, hC1, hxs⟩ := M.open_prefix (hval 1 43 v1 rfl rfl) h1
  obtain ⟨A2, c2, bs, rfl, hl2, hm2, hC2, w2, shut2⟩ := M.open_row Tryd.underlying22 Tryd.underlying5 (by kernel_rfl) (hval 2 22 v2 rfl rfl) h2
  have hT := M.db_of_laid hL
  have hbs : M.Bytes bs := bytes_of w2
  clear hA0 hval0 hL
  simp only [List.append_nil] at hW'
  refine (M.proof_round_law n i m q' c0 e0 c2 ns xs bs A0 B0 A2 W hn hi hm hq hC0 hC1 hC2 hl2 hns hxs hbs hT).mono fun e W' ⟨he, hg⟩ => ?_
  subst he
  have hp0 : p0 ++ (p1 ++ (p2 ++ [])) = p0 ++ (p1 ++ p2) := by simp
  have hres : ∀ sp : Nat → Bool, (∀ p ∈ p0 ++ (p1 ++ p2), sp p.block = true) → DataW.Trod enc Tryd.prog W' 0 sp true 41 (.agg #[.int .u64 n, .int .u64 i, .slice A0 ns.length c0]) d0 p0 := fun sp hsp =>
    Go.WideElems.Trod_stays laid (by kernel_rfl) (of_decide_eq_true (by kernel_rfl)) h0 (fun x hx => hg.same (hlt x (List.mem_append_left _ hx))) (fun x hx => hsp x (List.mem_append_left _ hx))
  have hres1 : ∀ sp : Nat → Bool, (∀ p ∈ p0 ++ (p1 ++ p2), sp p.block = true) → DataW.Trod enc Tryd.prog W' 0 sp true 43 (.agg #[.int .u64 m, .int .u64 q', .slice B0 xs.length e0]) d1 p1 := fun sp hsp =>
    Go.WideElems.Trod_stays laid (by kernel_rfl) (of_decide_eq_true (by kernel_rfl)) h1 (fun x hx => hg.same (hlt x (List.mem_append_right _ (List.mem_append_left _ hx)))) (fun x hx => hsp x (List.mem_append_right _ (List.mem_append_left _ hx)))
  have hres2 : ∀ sp : Nat → Bool, (∀ p ∈ p0 ++ (p1 ++ p2), sp p.block = true) → DataW.Trod enc Tryd.prog W' 0 sp true 22 (.slice A2 bs.length c2) d2 p2 := fun sp hsp =>
    Go.WideElems.Trod_stays laid (by kernel_rfl) (of_decide_eq_true (by kernel_rfl)) h2 (fun x hx => hg.same (hlt x (List.mem_append_right _ (List.mem_append_right _ (List.mem_append_left _ hx))))) (fun x hx => hsp x (List.mem_append_right _ (List.mem_append_right _ hx)))
  exact ⟨_, rfl, M.post_of_below (pa := p0 ++ (p1 ++ p2)) (pv := []) hW' (fun _ _ _ => (trodAll_cons_mk (shut_bool Tryd.underlying4 _) trodAll_mk0)) (fun sp hsp => hp0 ▸ (trodAll_cons_mk (hres sp hsp) (trodAll_cons_mk (hres1 sp hsp) (trodAll_cons_mk (hres2 sp hsp) trodAll_mk0)))) (fun _ _ => rfl) (List.append_nil _).symm
    hg (ok_one (by kernel_rfl) rfl (okWide_bool_mk Tryd.underlying4 _))⟩

theorem over : Rows.proofRoundRow.holds Tryd.pinned (OpenSpec.ofChange Rows.proofRoundSpec) :=
  OpenClaim.holds_of_wide 10 Tryd.f10 rfl rfl rfl rfl rfl rfl rfl ⟨rfl, rfl, rfl, rfl, rfl⟩ rfl rfl rfl rfl rfl (by kernel_rfl) Tryd.func10 (by kernel_rfl)
    (of_decide_eq_true (by kernel_rfl)) (by unfold Func.isWrapper; first | (rw [if_pos (by decide +kernel)]; kernel_rfl) | (rw [if_neg (by decide +kernel)]; exact ⟨rfl, rfl⟩))
    (fun os started H enc _ => lifted os started H enc)

/-- The statement. -/
theorem proved : Rows.ProofRoundCardSaid :=
  Claim7.holds_tied_plain_at .later [] [.data] true Rows.proofRoundCard.stood.harness Rows.proofRoundCard.stood.looks
    over (fun _ h => by cases h) (by kernel_rfl) (fun _ h => by cases h) proofRound_row_tie rfl ⟨rfl, rfl⟩ (by kernel_rfl) rfl
    (fun f fn hf hfn => by
      obtain rfl : f = 10 := Option.some.inj ((show Tryd.prog.funcNamed "massif/massiflaw7.ProofRound" = some 10 by kernel_rfl).symm.trans hf) |>.symm
      obtain rfl : fn = Tryd.f10 := (Option.some.inj (Tryd.func10.symm.trans hfn)).symm
      exact ⟨by kernel_rfl, fun j t ht => by
        rw [Tryd.params10] at ht
        have hm : t ∈ [41, 43, 22] := by simpa using Array.mem_of_getElem? ht
        have hall : ([41, 43, 22].all fun u => !Tryd.prog.wantsStandIn u) = true := by kernel_rfl
        exact (show Tryd.prog.wantsStandIn t = false by simpa using List.all_eq_true.1 hall t hm)⟩)
    (by kernel_rfl)
#print axioms proved
end Go.Proofs.YtefnonlhepekdaaDoor.proofRound
