/- Of any unsigned numbers and any number of leaves massiflaw10.ManyPlaces returns true: many.Places answers as the reference does, what it answers is new, and what was handed in stays as it was. -/
import Derived.Test.YtagcabmccpekaaaRows
import Derived.Test.YtagcabmccpekaaaQV0
import Derived.Test.YtagcabmccpekaaaQV3
set_option linter.unusedVariables false
set_option linter.unusedSimpArgs false
namespace Go.Proofs.Ytagcabmccpekaaa.manyPlaces
open Go.ChangeShapes Go.WideShapes Go.ChangeAt Go.RowKit Go.Proofs.YtagcabmccpekaaaW.PrintWords
set_option linter.unusedVariables false      -- a walk need not use every 'w<i>' (that an integer argument fits its kind)

theorem own : ownKnob Try.prog.godebug = none := by kernel_rfl

theorem nat_of {a : Int} (h : (Lit.int .u64 a).wf = true) : ∃ n : Nat, a = (n : Int) := by
  have h0 := (bounds_u64 h).1
  exact ⟨a.toNat, by omega⟩
theorem nats_of : ∀ (xs : List Int), (∀ x ∈ xs, (Lit.int .u64 x).wf = true) → ∃ l : List Nat, xs = M.intsOf l
  | [], _ => ⟨[], rfl⟩
  | x :: r, h => by
    obtain ⟨n, hn⟩ := nat_of (h x List.mem_cons_self)
    obtain ⟨l, hl⟩ := nats_of r (fun y hy => h y (List.mem_cons_of_mem _ hy))
    exact ⟨n :: l, by rw [hn, hl]; rfl⟩

theorem walk (A : Option Addr) (c : Nat) (xs : List Int) (a1 : Int) (w0 : ∀ x ∈ xs, (Lit.int .u64 x).wf = true) (w1 : (Lit.int .u64 a1).wf = true) (w : World) (hc : xs.length ≤ c) (hC : Kd.C (Kd.int .u64) w A xs.length xs) :
    Calls Try.prog 7 #[.slice A xs.length c, .int .u64 a1] w fun e w' => e = .returned (.bool true) ∧ Below w.heap.size w w' := by
  obtain ⟨n, rfl⟩ := nat_of w1
  obtain ⟨l, rfl⟩ := nats_of xs w0
  rw [M.ints_len] at hC hc ⊢
  refine M.many_places_law l n A c w (fun x hx => ?_) hc hC
  have := (bounds_u64 (w0 (x : Int) (List.mem_map.2 ⟨x, hx, rfl⟩))).2
  omega

/-! ### THE ROW's STEP: WRITTEN OUT: LEAVE IT -/
set_option maxRecDepth 100000 in
theorem lifted (os : Os) (started : os.Started) (H : Type) (enc : TypeId × Value → H) :
    ReturnsInHanded {} Try.checked os 7 .any (Rows.manyPlacesSpec.pre6 enc Try.prog Try.f7 Rows.manyPlacesRow.domain false) (Rows.manyPlacesSpec.post enc Try.prog Try.f7 false true false false) := by
  refine returnsInHanded_of_change (C := Try.checked) own started (by kernel_rfl) Try.func7
    (ChangeSpec.witness6 (enc := enc) (C := Try.checked) false ⟨#[], #[.slice none 0 0, .int .u64 0], []⟩ 8 (by kernel_rfl) (by kernel_rfl) (by kernel_rfl) (by kernel_rfl)) ?_
  intro W base args ds gs before hval0 hW hcnd _
  have hval : ∀ (j : Nat) t v, Try.f7.params[j]? = some t → args[j]? = some v → Value.okWide Try.prog W .any base t v := hval0
  have hW' := hW
  obtain ⟨p, q, hA0, hV, rfl, hfz, hnd⟩ := hW
  have hA : DataW.TrodAll enc Try.prog W 0 (fun _ => true) true Try.f7.params.toList args.toList ds p := hA0
  rw [Try.params7] at hA hval
  obtain ⟨v0, vs0, d0, ds0, p0, q0, hargs, rfl, rfl, h0, r0⟩ := trodAll_cons hA
  obtain ⟨v1, vs1, d1, ds1, p1, q1, rfl, rfl, rfl, h1, r1⟩ := trodAll_cons r0
  obtain ⟨rfl, rfl, rfl⟩ := trodAll_nil r1
  obtain rfl : args = #[v0, v1] := by cases args; simp_all
  obtain ⟨rfl, rfl⟩ := trodVars_none hV
  obtain ⟨A0, c0, xs0, rfl, hl0, hm0, hC0, w0, shut0⟩ := M.open_row Try.underlying23 Try.underlying22 (by kernel_rfl) (hval 0 23 v0 rfl rfl) h0
  obtain ⟨a1, rfl, rfl, rfl, w1⟩ := open_int Try.underlying22 (hval 1 22 v1 rfl rfl) h1
  clear hA0 hval0
  simp only [List.append_nil] at hW'
  refine (walk A0 c0 xs0 a1 w0 w1 W hl0 hC0).mono fun e W' ⟨he, hg⟩ => ?_
  subst he
  have hp0 : p0 ++ ([] ++ []) = p0 := by simp
  exact ⟨_, rfl, M.post_of_below (pa := p0) (pv := []) hW' (fun _ _ _ => (trodAll_cons_mk (shut_bool Try.underlying4 _) trodAll_mk0)) (fun sp hsp => hp0 ▸ (trodAll_cons_mk (shut0 W' hg sp hsp) (trodAll_cons_mk (shut_int Try.underlying22 w1) trodAll_mk0))) (fun _ _ => rfl) (List.append_nil _).symm
    hg (ok_one (by kernel_rfl) rfl (okWide_bool_mk Try.underlying4 _))⟩

theorem over : Rows.manyPlacesRow.holds Try.pinned (OpenSpec.ofChange Rows.manyPlacesSpec) :=
  OpenClaim.holds_of_wide 7 Try.f7 rfl rfl rfl rfl rfl rfl rfl ⟨rfl, rfl, rfl, rfl, rfl⟩ rfl rfl rfl rfl rfl (by kernel_rfl) Try.func7 (by kernel_rfl)
    (of_decide_eq_true (by kernel_rfl)) (by unfold Func.isWrapper; first | (rw [if_pos (by decide +kernel)]; kernel_rfl) | (rw [if_neg (by decide +kernel)]; exact ⟨rfl, rfl⟩))
    (fun os started H enc _ => lifted os started H enc)

/-- The statement. -/
theorem proved : Rows.ManyPlacesSaid :=
  over
#print axioms proved
end Go.Proofs.Ytagcabmccpekaaa.manyPlaces
