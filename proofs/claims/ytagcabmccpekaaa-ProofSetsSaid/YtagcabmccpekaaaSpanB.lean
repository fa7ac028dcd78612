/- span.needed -/
import Derived.Test.YtagcabmccpekaaaSpanA
namespace Go.Proofs.Ytagcabmccpekaaa.M
open Go.RowKit Go.Proofs.YtagcabmccpekaaaW.PrintWords Go.Proofs.YtagcabmccpekaaaW.PrintLast Go.Proofs.YtagcabmccpekaaaW.PrintMore Go.Proofs.Ytagcabmccpekaaa.Leaf

/-- What a call of 'needed' leaves: the row in block bl is longer by ps. -/
def Told (bl : Nat) (base : Nat) (v : Value) (xs ps : List Int) (w : World) (e : Ending) (w' : World) : Prop :=
  e = .returned (.tuple #[]) ∧ ∃ v', w'.heap[bl]? = some (.cells #[v'] 23 (0, 0)) ∧ Kd.R (Kd.int .u64) 22 w' base (fun _ => True) v' (xs ++ ps) ∧
    Frm (fun k => k = bl ∨ some k = v.ownBlock) w w' ∧ (v'.ownBlock = v.ownBlock ∨ ∃ b, v'.ownBlock = some b ∧ w.heap.size ≤ b)

theorem Told.more {bl base : Nat} {v v1 : Value} {ps : List Int} {w w1 : World} (hf : Frm (fun k => k = bl ∨ some k = v.ownBlock) w w1) (ha : v1.ownBlock = v.ownBlock ∨ ∃ b, v1.ownBlock = some b ∧ w.heap.size ≤ b)
    {xs' : List Int} {e : Ending} {w' : World} (h : Told bl base v1 xs' ps w1 e w') {xs0 ps0 : List Int} (hx : xs' ++ ps = xs0 ++ ps0) : Told bl base v xs0 ps0 w e w' := by
  obtain ⟨he, v', h1, h2, h3, h4⟩ := h
  refine ⟨he, v', h1, hx ▸ h2, hf.trans h3 (fun i hi hk => ?_), ?_⟩
  · rcases hk with hk | hk
    · exact .inl hk
    · rcases ha with ha | ⟨b, ha, hb⟩
      · exact .inr (by rw [hk, ha])
      · rw [ha] at hk
        injection hk with hk
        omega
  · rcases h4 with h4 | ⟨b, h4, hb⟩
    · rcases ha with ha | ⟨b, ha, hb⟩
      · exact .inl (h4.trans ha)
      · exact .inr ⟨b, h4.trans ha, hb⟩
    · exact .inr ⟨b, h4, Nat.le_trans hf.size hb⟩

theorem span_tell' (h i p : Int) (b : Bool) (hp : pos_Place.f h i = some (p, b)) (bl : Nat) (v : Value) (xs : List Int) (base : Nat) (w W : World)
    (hbl : w.heap[bl]? = some (.cells #[v] 23 (0, 0))) (hv : Kd.R (Kd.int .u64) 22 w base (fun _ => True) v xs) (hbase : base ≤ w.heap.size) (hl : xs.length < 17592186044415) (hW : Below w.heap.size w W) :
    Calls Try.prog 45 #[.agg #[.int .u8 h, .int .u64 i], .pointer (some ⟨bl, 0, none⟩)] W (Told bl base v xs [p] w) := by
  refine (span_tell h i p b hp bl v xs base W ((hW.block bl (blk_lt hbl)).trans hbl) (Kd.R_below hv hW) (Nat.le_trans hbase hW.size) hl).mono ?_
  intro e w' h1
  exact Told.more (Frm.of_below hW _) (.inl rfl) h1 rfl

set_option maxHeartbeats 1000000 in
set_option maxRecDepth 100000 in
theorem needed_tell (f t h i a b : Nat) (p : Int) (bl : Nat) (v : Value) (xs : List Int) (base : Nat) (w : World) (hh : h ≤ 62) (hi1 : i + 1 < 18446744073709551616)
    (hp : pos_Place.f h i = some (p, true))
    (ha : IntKind.u64.wrap (↑i * 2 ^ h) = (a : Int)) (hb : IntKind.u64.wrap ((↑i + 1) * 2 ^ h) = (b : Int))
    (hbl : w.heap[bl]? = some (.cells #[v] 23 (0, 0))) (hv : Kd.R (Kd.int .u64) 22 w base (fun _ => True) v xs) (hbase : base ≤ w.heap.size) (hl : xs.length < 17592186044415)
    (hc : t ≤ f ∨ b ≤ f ∨ t ≤ a) :
    Calls Try.prog 44 #[.agg #[.int .u8 h, .int .u64 i], .int .u64 f, .int .u64 t, .func (.func 45) #[] #[.pointer (some ⟨bl, 0, none⟩)]] w (Told bl base v xs [p] w) := by
  have H := Aside0.mk hv
  have HB := Aside0.mk hbl
  have HP := Aside0.mk hp
  have hsz := blk_lt hbl
  clear hv hbl hp
  go_enter Try.func44, Try.ntmps44
  go_wp2_with fail
  go_quiet (fail)
  by_cases c1 : t ≤ f
  · go_wp2_with (go_at_call 45; go_loud (refine (span_tell' _ _ _ _ HP.out bl v xs base w _ HB.out H.out hbase hl (by exact pw_below_drewN ((Below.refl _ _).alloc (Nat.le_refl _) _) _)).mono ?_; intro e w1 h1; have h2 := Aside0.mk h1.2; rw [h1.1]; clear h1))
    go_end0
    exact ⟨rfl, h2.out⟩
  · by_cases c2 : b ≤ f
    · go_wp2_with (go_at_call 45; go_loud (refine (span_tell' _ _ _ _ HP.out bl v xs base w _ HB.out H.out hbase hl (by exact pw_below_drewN ((Below.refl _ _).alloc (Nat.le_refl _) _) _)).mono ?_; intro e w1 h1; have h2 := Aside0.mk h1.2; rw [h1.1]; clear h1))
      go_end0
      exact ⟨rfl, h2.out⟩
    · have c3 : t ≤ a := by omega
      go_wp2_with (go_at_call 45; go_loud (refine (span_tell' _ _ _ _ HP.out bl v xs base w _ HB.out H.out hbase hl (by exact pw_below_drewN ((Below.refl _ _).alloc (Nat.le_refl _) _) _)).mono ?_; intro e w1 h1; have h2 := Aside0.mk h1.2; rw [h1.1]; clear h1))
      go_end0
      exact ⟨rfl, h2.out⟩

set_option maxHeartbeats 1000000 in
set_option maxRecDepth 100000 in
theorem needed_all (f t h i a b : Nat) (c : Value) (w : World) (hh : h ≤ 62) (hi1 : i + 1 < 18446744073709551616)
    (ha : IntKind.u64.wrap (↑i * 2 ^ h) = (a : Int)) (hb : IntKind.u64.wrap ((↑i + 1) * 2 ^ h) = (b : Int))
    (c1 : f < t) (c2 : f < b) (c3 : a < t) (c4 : f ≤ a) (c5 : b ≤ t) :
    Calls Try.prog 44 #[.agg #[.int .u8 h, .int .u64 i], .int .u64 f, .int .u64 t, c] w fun e w' => e = .returned (.tuple #[]) ∧ Below w.heap.size w w' := by
  go_enter Try.func44, Try.ntmps44
  go_wp2_with fail
  go_quiet (fail)
  go_wp2
  go_end0
  exact ⟨rfl, pw_below_drewN ((Below.refl _ _).alloc (Nat.le_refl _) _) _⟩

set_option maxHeartbeats 1000000 in
set_option maxRecDepth 100000 in
theorem needed_two (f t h i a b : Nat) (bl : Nat) (v : Value) (xs ps qs : List Int) (base : Nat) (w : World) (hh : h + 1 ≤ 62) (hi : 2 * i + 2 < 18446744073709551616)
    (ha : IntKind.u64.wrap (↑i * 2 ^ (h + 1)) = (a : Int)) (hb : IntKind.u64.wrap ((↑i + 1) * 2 ^ (h + 1)) = (b : Int))
    (hbl : w.heap[bl]? = some (.cells #[v] 23 (0, 0))) (hv : Kd.R (Kd.int .u64) 22 w base (fun _ => True) v xs) (hbase : base ≤ w.heap.size)
    (c1 : f < t) (c2 : f < b) (c3 : a < t) (c4 : a < f ∨ t < b)
    (h1 : ∀ (w : World) (v : Value), w.heap[bl]? = some (.cells #[v] 23 (0, 0)) → Kd.R (Kd.int .u64) 22 w base (fun _ => True) v xs → base ≤ w.heap.size → Calls Try.prog 44 #[.agg #[.int .u8 h, .int .u64 (2 * i : Nat)], .int .u64 f, .int .u64 t, .func (.func 45) #[] #[.pointer (some ⟨bl, 0, none⟩)]] w (Told bl base v xs ps w))
    (h2 : ∀ (w : World) (v : Value), w.heap[bl]? = some (.cells #[v] 23 (0, 0)) → Kd.R (Kd.int .u64) 22 w base (fun _ => True) v (xs ++ ps) → base ≤ w.heap.size → Calls Try.prog 44 #[.agg #[.int .u8 h, .int .u64 (2 * i + 1 : Nat)], .int .u64 f, .int .u64 t, .func (.func 45) #[] #[.pointer (some ⟨bl, 0, none⟩)]] w (Told bl base v (xs ++ ps) qs w)) :
    Calls Try.prog 44 #[.agg #[.int .u8 (h + 1 : Nat), .int .u64 i], .int .u64 f, .int .u64 t, .func (.func 45) #[] #[.pointer (some ⟨bl, 0, none⟩)]] w (Told bl base v xs (ps ++ qs) w) := by
  have H := Aside0.mk hv
  have HB := Aside0.mk hbl
  have H1 := Aside0.mk h1
  have H2 := Aside0.mk h2
  have hsz := blk_lt hbl
  clear hv hbl h1 h2
  go_enter Try.func44, Try.ntmps44
  go_wp2_with fail
  go_quiet (fail)
  have hbw : ∀ o nq, Below w.heap.size w ((w.alloc o).drewN nq) := fun o nq => pw_below_drewN ((Below.refl _ _).alloc (Nat.le_refl _) _) _
  by_cases c5 : a < f
  · go_wp2_with fail
    refine (H1.out _ v ((hbw _ nq).block bl hsz |>.trans HB.out) (Kd.R_below H.out (hbw _ nq)) (by simp; omega)).mono ?_
    intro e w1 h1
    rw [h1.1]
    obtain ⟨_, v1, g1, g2, g3, g4⟩ := h1
    have gb : w1.heap[w.heap.size]? = some (.cells #[.int .u8 (h + 1 : Nat), .int .u64 i] 39 (0, 0)) := (g3.block w.heap.size (by simp) (by rintro (hk | hk); omega; have := Kd.R_lt H.out _ hk.symm; omega)).trans (heap_newN _ _ _)
    have k0 : w1.cell? ⟨w.heap.size, 0, none⟩ = some (.int .u8 ((h : Int) + 1)) := (blk_cell gb 0).trans rfl
    have k1 : w1.cell? ⟨w.heap.size, 1, none⟩ = some (.int .u64 i) := (blk_cell gb 1).trans rfl
    clear gb
    have G1 := Aside0.mk g1
    have G2 := Aside0.mk g2
    have G3 := Aside0.mk g3
    have G4 := Aside0.mk g4
    clear g1 g2 g3 g4
    go_wp2_with fail
    refine (H2.out _ v1 G1.out G2.out (by have := G3.out.size; simp at this; omega)).mono ?_
    intro e w2 h2
    have HF := Aside0.mk (Told.more (Frm.mono G3.out (fun _ _ hk => hk)) G4.out h2 (ps0 := ps ++ qs) (xs0 := xs) (by rw [List.append_assoc]))
    rw [h2.1]
    clear h2
    go_wp2_with fail
    go_end0
    exact Told.more (Frm.of_below (hbw _ nq) _) (.inl rfl) ⟨rfl, HF.out.2⟩ rfl
  · have c6 : f ≤ a := by omega
    have c7 : t < b := by omega
    go_wp2_with fail
    refine (H1.out _ v ((hbw _ nq).block bl hsz |>.trans HB.out) (Kd.R_below H.out (hbw _ nq)) (by simp; omega)).mono ?_
    intro e w1 h1
    rw [h1.1]
    obtain ⟨_, v1, g1, g2, g3, g4⟩ := h1
    have gb : w1.heap[w.heap.size]? = some (.cells #[.int .u8 (h + 1 : Nat), .int .u64 i] 39 (0, 0)) := (g3.block w.heap.size (by simp) (by rintro (hk | hk); omega; have := Kd.R_lt H.out _ hk.symm; omega)).trans (heap_newN _ _ _)
    have k0 : w1.cell? ⟨w.heap.size, 0, none⟩ = some (.int .u8 ((h : Int) + 1)) := (blk_cell gb 0).trans rfl
    have k1 : w1.cell? ⟨w.heap.size, 1, none⟩ = some (.int .u64 i) := (blk_cell gb 1).trans rfl
    clear gb
    have G1 := Aside0.mk g1
    have G2 := Aside0.mk g2
    have G3 := Aside0.mk g3
    have G4 := Aside0.mk g4
    clear g1 g2 g3 g4
    go_wp2_with fail
    refine (H2.out _ v1 G1.out G2.out (by have := G3.out.size; simp at this; omega)).mono ?_
    intro e w2 h2
    have HF := Aside0.mk (Told.more (Frm.mono G3.out (fun _ _ hk => hk)) G4.out h2 (ps0 := ps ++ qs) (xs0 := xs) (by rw [List.append_assoc]))
    rw [h2.1]
    clear h2
    go_wp2_with fail
    go_end0
    exact Told.more (Frm.of_below (hbw _ nq) _) (.inl rfl) ⟨rfl, HF.out.2⟩ rfl
end Go.Proofs.Ytagcabmccpekaaa.M
