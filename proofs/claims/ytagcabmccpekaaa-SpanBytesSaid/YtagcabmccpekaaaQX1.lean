/- span.needed. Hashes in memory: an element of a row of hashes is loaded, a variable takes one. The three closures of many.Places. Plain laws of a leaf's path and peak, with no program in sight: which spots a proof of a leaf has, that they and the leaf are all leaves, none twice. Plain laws of what many leaves need, with no program in sight. What massifref20.Places and massifref7.SameNumbers come to. What many.looked, slices.BinarySearch and the reference's Places of many leaves come to. (many.walk).down with the closures of many.Places. (many.walk).down: a spot with two kids. (many.walk).down, of any height; peaks; many.Places. Plain laws of a walk over the peaks, leaf by leaf. What pos.Peak, pos.Path, pos.Under come to, by the plain laws. A law on a list of operations serves a region that draws its order, too. (many.walk).peaks with the closures of many.Places. many.Places. span.needed tells the spots that a span needs; span.Places. span.Places in one contract; span.checked. slices.Grow of nil, slices.Concat of byte rows. span.Encode. many.checked and many.Encode. Plain laws of the order of spots, of how many leaves they have, and of which spots a span or many leaves need; with no program in sight. -/
import Derived.Test.YtagcabmccpekaaaQX0
import Derived.Deep.MidRow
import Derived.Laws.Rows
import Derived.Deep.RegionHeld3
import Derived.Deep.RegionLawGrows
set_option linter.unusedVariables false
set_option linter.unusedSimpArgs false
set_option linter.unusedVariables false
set_option linter.unusedSimpArgs false
namespace Go.Proofs.Ytagcabmccpekaaa.M
open Go.RowKit Go.Proofs.YtagcabmccpekaaaW.PrintWords Go.Proofs.YtagcabmccpekaaaW.PrintLast Go.Proofs.YtagcabmccpekaaaW.PrintMore Go.Proofs.Ytagcabmccpekaaa.Leaf

/-- What a call of 'needed' leaves: the row in block bl is longer by ps. -/
def Told (bl : Nat) (base : Nat) (v : Value) (xs ps : List Int) (w : World) (e : Ending) (w' : World) : Prop :=
  e = .returned (.tuple #[]) ∧ ∃ v', w'.heap[bl]? = some (.cells #[v'] 23 (0, 0)) ∧ Kd.R (Kd.int .u64) 22 w' base (fun _ => True) v' (xs ++ ps) ∧
    Frm (fun k => k = bl ∨ some k = v.ownBlock) w w' ∧ (v'.ownBlock = v.ownBlock ∨ ∃ b, v'.ownBlock = some b ∧ w.heap.size ≤ b)

theorem Told.more {bl base : Nat} {v v1 : Value} {ps : List Int} {w w1 : World} (hf : Frm (fun k => k = bl ∨ some k = v.ownBlock) w w1) (ha : v1.ownBlock = v.ownBlock ∨ ∃ b, v1.ownBlock = some b ∧ w.heap.size ≤ b)
    {xs' : List Int} {e : Ending} {w' : World} (h : Told bl base v1 xs' ps w1 e w') {xs0 ps0 : List Int} (hx : xs' ++ ps = xs0 ++ ps0) : Told bl base v xs0 ps0 w e w' := by
  obtain ⟨he, v', h1, h2, h3, h4⟩ := h
  refine ⟨he, v', h1, hx ▸ h2, hf.trans h3 (fun i hi hk => ?_), ?_⟩
  · rcases hk with hk | hk
    · exact .inl hk
    · rcases ha with ha | ⟨b, ha, hb⟩
      · exact .inr (by rw [hk, ha])
      · rw [ha] at hk
        injection hk with hk
        omega
  · rcases h4 with h4 | ⟨b, h4, hb⟩
    · rcases ha with ha | ⟨b, ha, hb⟩
      · exact .inl (h4.trans ha)
      · exact .inr ⟨b, h4.trans ha, hb⟩
    · exact .inr ⟨b, h4, Nat.le_trans hf.size hb⟩

theorem span_tell' (h i p : Int) (b : Bool) (hp : pos_Place.f h i = some (p, b)) (bl : Nat) (v : Value) (xs : List Int) (base : Nat) (w W : World)
    (hbl : w.heap[bl]? = some (.cells #[v] 23 (0, 0))) (hv : Kd.R (Kd.int .u64) 22 w base (fun _ => True) v xs) (hbase : base ≤ w.heap.size) (hl : xs.length < 17592186044415) (hW : Below w.heap.size w W) :
    Calls Try.prog 45 #[.agg #[.int .u8 h, .int .u64 i], .pointer (some ⟨bl, 0, none⟩)] W (Told bl base v xs [p] w) := by
  refine (span_tell h i p b hp bl v xs base W ((hW.block bl (blk_lt hbl)).trans hbl) (Kd.R_below hv hW) (Nat.le_trans hbase hW.size) hl).mono ?_
  intro e w' h1
  exact Told.more (Frm.of_below hW _) (.inl rfl) h1 rfl

set_option maxHeartbeats 1000000 in
set_option maxRecDepth 100000 in
theorem needed_tell (f t h i a b : Nat) (p : Int) (bl : Nat) (v : Value) (xs : List Int) (base : Nat) (w : World) (hh : h ≤ 62) (hi1 : i + 1 < 18446744073709551616)
    (hp : pos_Place.f h i = some (p, true))
    (ha : IntKind.u64.wrap (↑i * 2 ^ h) = (a : Int)) (hb : IntKind.u64.wrap ((↑i + 1) * 2 ^ h) = (b : Int))
    (hbl : w.heap[bl]? = some (.cells #[v] 23 (0, 0))) (hv : Kd.R (Kd.int .u64) 22 w base (fun _ => True) v xs) (hbase : base ≤ w.heap.size) (hl : xs.length < 17592186044415)
    (hc : t ≤ f ∨ b ≤ f ∨ t ≤ a) :
    Calls Try.prog 44 #[.agg #[.int .u8 h, .int .u64 i], .int .u64 f, .int .u64 t, .func (.func 45) #[] #[.pointer (some ⟨bl, 0, none⟩)]] w (Told bl base v xs [p] w) := by
  have H := Aside0.mk hv
  have HB := Aside0.mk hbl
  have HP := Aside0.mk hp
  have hsz := blk_lt hbl
  clear hv hbl hp
  go_enter Try.func44, Try.ntmps44
  go_wp2_with fail
  go_quiet (fail)
  by_cases c1 : t ≤ f
  · go_wp2_with (go_at_call 45; go_loud (refine (span_tell' _ _ _ _ HP.out bl v xs base w _ HB.out H.out hbase hl (by exact pw_below_drewN ((Below.refl _ _).alloc (Nat.le_refl _) _) _)).mono ?_; intro e w1 h1; have h2 := Aside0.mk h1.2; rw [h1.1]; clear h1))
    go_end0
    exact ⟨rfl, h2.out⟩
  · by_cases c2 : b ≤ f
    · go_wp2_with (go_at_call 45; go_loud (refine (span_tell' _ _ _ _ HP.out bl v xs base w _ HB.out H.out hbase hl (by exact pw_below_drewN ((Below.refl _ _).alloc (Nat.le_refl _) _) _)).mono ?_; intro e w1 h1; have h2 := Aside0.mk h1.2; rw [h1.1]; clear h1))
      go_end0
      exact ⟨rfl, h2.out⟩
    · have c3 : t ≤ a := by omega
      go_wp2_with (go_at_call 45; go_loud (refine (span_tell' _ _ _ _ HP.out bl v xs base w _ HB.out H.out hbase hl (by exact pw_below_drewN ((Below.refl _ _).alloc (Nat.le_refl _) _) _)).mono ?_; intro e w1 h1; have h2 := Aside0.mk h1.2; rw [h1.1]; clear h1))
      go_end0
      exact ⟨rfl, h2.out⟩

set_option maxHeartbeats 1000000 in
set_option maxRecDepth 100000 in
theorem needed_all (f t h i a b : Nat) (c : Value) (w : World) (hh : h ≤ 62) (hi1 : i + 1 < 18446744073709551616)
    (ha : IntKind.u64.wrap (↑i * 2 ^ h) = (a : Int)) (hb : IntKind.u64.wrap ((↑i + 1) * 2 ^ h) = (b : Int))
    (c1 : f < t) (c2 : f < b) (c3 : a < t) (c4 : f ≤ a) (c5 : b ≤ t) :
    Calls Try.prog 44 #[.agg #[.int .u8 h, .int .u64 i], .int .u64 f, .int .u64 t, c] w fun e w' => e = .returned (.tuple #[]) ∧ Below w.heap.size w w' := by
  go_enter Try.func44, Try.ntmps44
  go_wp2_with fail
  go_quiet (fail)
  go_wp2
  go_end0
  exact ⟨rfl, pw_below_drewN ((Below.refl _ _).alloc (Nat.le_refl _) _) _⟩

set_option maxHeartbeats 1000000 in
set_option maxRecDepth 100000 in
theorem needed_two (f t h i a b : Nat) (bl : Nat) (v : Value) (xs ps qs : List Int) (base : Nat) (w : World) (hh : h + 1 ≤ 62) (hi : 2 * i + 2 < 18446744073709551616)
    (ha : IntKind.u64.wrap (↑i * 2 ^ (h + 1)) = (a : Int)) (hb : IntKind.u64.wrap ((↑i + 1) * 2 ^ (h + 1)) = (b : Int))
    (hbl : w.heap[bl]? = some (.cells #[v] 23 (0, 0))) (hv : Kd.R (Kd.int .u64) 22 w base (fun _ => True) v xs) (hbase : base ≤ w.heap.size)
    (c1 : f < t) (c2 : f < b) (c3 : a < t) (c4 : a < f ∨ t < b)
    (h1 : ∀ (w : World) (v : Value), w.heap[bl]? = some (.cells #[v] 23 (0, 0)) → Kd.R (Kd.int .u64) 22 w base (fun _ => True) v xs → base ≤ w.heap.size → Calls Try.prog 44 #[.agg #[.int .u8 h, .int .u64 (2 * i : Nat)], .int .u64 f, .int .u64 t, .func (.func 45) #[] #[.pointer (some ⟨bl, 0, none⟩)]] w (Told bl base v xs ps w))
    (h2 : ∀ (w : World) (v : Value), w.heap[bl]? = some (.cells #[v] 23 (0, 0)) → Kd.R (Kd.int .u64) 22 w base (fun _ => True) v (xs ++ ps) → base ≤ w.heap.size → Calls Try.prog 44 #[.agg #[.int .u8 h, .int .u64 (2 * i + 1 : Nat)], .int .u64 f, .int .u64 t, .func (.func 45) #[] #[.pointer (some ⟨bl, 0, none⟩)]] w (Told bl base v (xs ++ ps) qs w)) :
    Calls Try.prog 44 #[.agg #[.int .u8 (h + 1 : Nat), .int .u64 i], .int .u64 f, .int .u64 t, .func (.func 45) #[] #[.pointer (some ⟨bl, 0, none⟩)]] w (Told bl base v xs (ps ++ qs) w) := by
  have H := Aside0.mk hv
  have HB := Aside0.mk hbl
  have H1 := Aside0.mk h1
  have H2 := Aside0.mk h2
  have hsz := blk_lt hbl
  clear hv hbl h1 h2
  go_enter Try.func44, Try.ntmps44
  go_wp2_with fail
  go_quiet (fail)
  have hbw : ∀ o nq, Below w.heap.size w ((w.alloc o).drewN nq) := fun o nq => pw_below_drewN ((Below.refl _ _).alloc (Nat.le_refl _) _) _
  by_cases c5 : a < f
  · go_wp2_with fail
    refine (H1.out _ v ((hbw _ nq).block bl hsz |>.trans HB.out) (Kd.R_below H.out (hbw _ nq)) (by simp; omega)).mono ?_
    intro e w1 h1
    rw [h1.1]
    obtain ⟨_, v1, g1, g2, g3, g4⟩ := h1
    have gb : w1.heap[w.heap.size]? = some (.cells #[.int .u8 (h + 1 : Nat), .int .u64 i] 39 (0, 0)) := (g3.block w.heap.size (by simp) (by rintro (hk | hk); omega; have := Kd.R_lt H.out _ hk.symm; omega)).trans (heap_newN _ _ _)
    have k0 : w1.cell? ⟨w.heap.size, 0, none⟩ = some (.int .u8 ((h : Int) + 1)) := (blk_cell gb 0).trans rfl
    have k1 : w1.cell? ⟨w.heap.size, 1, none⟩ = some (.int .u64 i) := (blk_cell gb 1).trans rfl
    clear gb
    have G1 := Aside0.mk g1
    have G2 := Aside0.mk g2
    have G3 := Aside0.mk g3
    have G4 := Aside0.mk g4
    clear g1 g2 g3 g4
    go_wp2_with fail
    refine (H2.out _ v1 G1.out G2.out (by have := G3.out.size; simp at this; omega)).mono ?_
    intro e w2 h2
    have HF := Aside0.mk (Told.more (Frm.mono G3.out (fun _ _ hk => hk)) G4.out h2 (ps0 := ps ++ qs) (xs0 := xs) (by rw [List.append_assoc]))
    rw [h2.1]
    clear h2
    go_wp2_with fail
    go_end0
    exact Told.more (Frm.of_below (hbw _ nq) _) (.inl rfl) ⟨rfl, HF.out.2⟩ rfl
  · have c6 : f ≤ a := by omega
    have c7 : t < b := by omega
    go_wp2_with fail
    refine (H1.out _ v ((hbw _ nq).block bl hsz |>.trans HB.out) (Kd.R_below H.out (hbw _ nq)) (by simp; omega)).mono ?_
    intro e w1 h1
    rw [h1.1]
    obtain ⟨_, v1, g1, g2, g3, g4⟩ := h1
    have gb : w1.heap[w.heap.size]? = some (.cells #[.int .u8 (h + 1 : Nat), .int .u64 i] 39 (0, 0)) := (g3.block w.heap.size (by simp) (by rintro (hk | hk); omega; have := Kd.R_lt H.out _ hk.symm; omega)).trans (heap_newN _ _ _)
    have k0 : w1.cell? ⟨w.heap.size, 0, none⟩ = some (.int .u8 ((h : Int) + 1)) := (blk_cell gb 0).trans rfl
    have k1 : w1.cell? ⟨w.heap.size, 1, none⟩ = some (.int .u64 i) := (blk_cell gb 1).trans rfl
    clear gb
    have G1 := Aside0.mk g1
    have G2 := Aside0.mk g2
    have G3 := Aside0.mk g3
    have G4 := Aside0.mk g4
    clear g1 g2 g3 g4
    go_wp2_with fail
    refine (H2.out _ v1 G1.out G2.out (by have := G3.out.size; simp at this; omega)).mono ?_
    intro e w2 h2
    have HF := Aside0.mk (Told.more (Frm.mono G3.out (fun _ _ hk => hk)) G4.out h2 (ps0 := ps ++ qs) (xs0 := xs) (by rw [List.append_assoc]))
    rw [h2.1]
    clear h2
    go_wp2_with fail
    go_end0
    exact Told.more (Frm.of_below (hbw _ nq) _) (.inl rfl) ⟨rfl, HF.out.2⟩ rfl
end Go.Proofs.Ytagcabmccpekaaa.M

set_option linter.unusedVariables false
set_option linter.unusedSimpArgs false
namespace Go.Proofs.Ytagcabmccpekaaa.M
open Go.RowKit Go.Proofs.YtagcabmccpekaaaW.PrintWords Go.Proofs.YtagcabmccpekaaaW.PrintLast Go.Proofs.YtagcabmccpekaaaW.PrintMore

theorem sizeH : (Try.prog.info? 73).map (·.size) = some 32 := by kernel_rfl
theorem infoH : (Try.prog.info? 73).map (fun i => (i.zero, i.size, i.bytes)) = some (some (.agg #[.int .u8 0, .int .u8 0, .int .u8 0, .int .u8 0, .int .u8 0, .int .u8 0, .int .u8 0, .int .u8 0, .int .u8 0, .int .u8 0, .int .u8 0, .int .u8 0, .int .u8 0, .int .u8 0, .int .u8 0, .int .u8 0, .int .u8 0, .int .u8 0, .int .u8 0, .int .u8 0, .int .u8 0, .int .u8 0, .int .u8 0, .int .u8 0, .int .u8 0, .int .u8 0, .int .u8 0, .int .u8 0, .int .u8 0, .int .u8 0, .int .u8 0, .int .u8 0]), 32, 32) := by kernel_rfl
/-- A hash lies there. -/
def HashAt (w : World) (ad : Addr) (h : Hsh) : Prop := ∃ b o, ad = ⟨b, o, none⟩ ∧ w.rangeAt b o h.cells
theorem HashAt.below {w w1 : World} {ad : Addr} {h : Hsh} (hh : HashAt w ad h) (hb : Below w.heap.size w w1) : HashAt w1 ad h := by
  obtain ⟨b, o, rfl, hr⟩ := hh
  exact ⟨b, o, rfl, fun j v hv => pw_cell_below hb (hr j v hv)⟩
theorem HashAt.block {w : World} {b : Nat} {h : Hsh} {t : TypeId} {fz : Nat × Nat} (hb : w.heap[b]? = some (.cells h.cells.toArray t fz)) : HashAt w ⟨b, 0, none⟩ h := by
  refine ⟨b, 0, rfl, fun j v hv => ?_⟩
  rw [Nat.zero_add, cell_of_row w b j _ t fz hb]
  simpa using hv
theorem Hsh.one (h : Hsh) : ∀ v ∈ h.cells, v.oneCell' = true := fun u hu => by
  obtain ⟨y, _, rfl⟩ := List.mem_map.1 hu
  rfl
/-- Element j of a row of hashes. -/
theorem C_hash {w : World} {A : Option Addr} {n : Nat} {ns : List Hsh} (h : kH.C w A n ns) (j : Nat) (hj : j < ns.length) : ∃ ad, A = some ad ∧ HashAt w (ad.add (j * 32)) (ns[j]) := by
  have hl := Kd.C_len h
  obtain ⟨_, _, hr⟩ := h
  obtain ⟨ad, e, hx⟩ := hr (by omega)
  obtain ⟨c, _, hk, hc⟩ := hx j _ (List.getElem?_eq_getElem hj)
  have hk : c = (ns[j]).cells := hk
  have hc : ∀ i u, c[i]? = some u → w.cell? (ad.add (j * 32 + i)) = some u := hc
  subst hk
  refine ⟨ad, e, ?_⟩
  have hlen := (ns[j]).cells_len
  have hsp : ad.spot = none ∨ j * 32 ≠ 0 := by
    by_cases h0 : j * 32 = 0
    · left
      have h1 := hc 0 _ (List.getElem?_eq_getElem (by omega))
      rw [h0] at h1
      by_cases hs : ad.spot = none
      · exact hs
      · exfalso
        have h2 : ad.add (0 + 0) = ad := by simp [Addr.add]
        rw [h2] at h1
        unfold World.cell? at h1
        have h3 : ad.spot.isSome = true := by cases hq : ad.spot with | none => exact absurd hq hs | some _ => rfl
        split at h1
        · rw [if_pos h3] at h1
          exact absurd h1 (by simp)
        · exact absurd h1 (by simp)
    · exact .inr h0
  refine ⟨ad.block, ad.off + j * 32, ?_, fun i v hv => ?_⟩
  · unfold Addr.add
    split
    · next h0 =>
      rcases hsp with hs | hs
      · rw [h0, Nat.add_zero]
        cases ad
        simp_all
      · exact absurd h0 hs
    · rfl
  · have h1 := hc i v hv
    rwa [show ad.add (j * 32 + i) = ⟨ad.block, ad.off + j * 32 + i, none⟩ by
      unfold Addr.add
      split
      · next h0 =>
        have h4 : j * 32 = 0 := by omega
        have h5 : i = 0 := by omega
        rcases hsp with hs | hs
        · cases ad
          simp_all
        · exact absurd h4 hs
      · rw [Nat.add_assoc]] at h1

/-- A variable that holds a hash reads as 32 numbers. -/
theorem C_hash_row (w : World) (h : Hsh) (t : TypeId) {b : Nat} (hb : b = w.heap.size) : (Kd.int .u8).C (w.alloc (.cells h.cells.toArray t)) (some ⟨b, 0, none⟩) 32 h.b := by
  subst hb
  have := C_int_block .u8 (xs := h.b) (heap_new w (.cells h.cells.toArray t)) (by rw [h.len]; omega) (fun j x hj => by
    rw [List.getElem?_toArray]
    unfold Hsh.cells
    rw [List.getElem?_map, hj]
    rfl)
  rwa [h.len] at this
theorem C_hash_one {w : World} {b : Nat} {h : Hsh} {t : TypeId} {fz : Nat × Nat} (hb : w.heap[b]? = some (.cells h.cells.toArray t fz)) : kH.C w (some ⟨b, 0, none⟩) 1 [h] := by
  refine ⟨rfl, by simp, fun _ => ⟨_, rfl, fun j x hj => ?_⟩⟩
  cases j with
  | zero =>
    simp at hj
    subst hj
    refine ⟨h.cells, h.cells_len, rfl, fun i u hi => ?_⟩
    rw [Nat.zero_mul, Nat.zero_add, add_plain, cell_of_row w b i _ t fz hb]
    simpa using hi
  | succ j => simp at hj
/-- The hash that begins with x, and is 0 behind it. -/
def hash1 (x : Int) : Hsh := ⟨[x, 0, 0, 0, 0, 0, 0, 0, 0, 0, 0, 0, 0, 0, 0, 0, 0, 0, 0, 0, 0, 0, 0, 0, 0, 0, 0, 0, 0, 0, 0, 0], rfl⟩
section
variable {ops : Array Oper} {rest : List Oper} {o : Oper} {a : Act} {Q : Exit → Act → World → Prop}
/-- 'load' of a hash. -/
theorem load_hash {W : World} (hgd : o.guard = none) (x : Operand) (ho : o.op = .load 73 x) (ad : Addr) (h : Hsh) (hx : a.eval x = .pointer (some ad)) (hr : HashAt W ad h)
    (k : wpList Try.prog ops Q rest (a.put o.dst h.val) W) : wpList Try.prog ops Q (o :: rest) a W := by
  obtain ⟨b, off, rfl, hrg⟩ := hr
  exact wpList_load_mid hgd _ x ho b off hx h.cells _ hrg Try.underlying73 rfl (by rw [Hsh.cells_len]; exact sizeH) k
theorem set_all (w : World) (t : TypeId) (z : Array Value) (vs : List Value) (hl : z.size = vs.length) : (w.alloc (.cells z t)).setCells w.heap.size 0 vs = w.alloc (.cells vs.toArray t) := by
  have key : ∀ (vs : List Value) (o : Nat) (cur : Array Value), o + vs.length ≤ cur.size → (w.alloc (.cells cur t)).setCells w.heap.size o vs = w.alloc (.cells (cur.toList.take o ++ vs ++ cur.toList.drop (o + vs.length)).toArray t) := by
    intro vs
    induction vs with
    | nil =>
      intro o cur _
      simp [World.setCells]
    | cons v vs ih =>
      intro o cur hle
      rw [List.length_cons] at hle
      have e1 : (w.alloc (.cells cur t)).setCell ⟨w.heap.size, o, none⟩ v = w.alloc (.cells (cur.setIfInBounds o v) t) := by
        rw [World.setCell_alloc_at _ _ _ _ _ rfl]
      rw [show (w.alloc (.cells cur t)).setCells w.heap.size o (v :: vs) = ((w.alloc (.cells cur t)).setCell ⟨w.heap.size, o, none⟩ v).setCells w.heap.size (o + 1) vs from rfl, e1, ih (o + 1) _ (by simp; omega)]
      congr 3
      apply List.ext_getElem?
      intro i
      simp only [Array.toList_setIfInBounds, List.length_cons, List.getElem?_append, List.length_append, List.length_take, List.length_set, Array.length_toList, List.getElem?_take, List.getElem?_drop, List.getElem?_set]
      have hmin : min o cur.size = o := by omega
      have hmin1 : min (o + 1) cur.size = o + 1 := by omega
      rw [hmin, hmin1]
      by_cases c1 : i < o
      · rw [if_pos (by omega), if_pos (by omega), if_pos (by omega), if_neg (by omega), if_pos (by omega), if_pos (by omega), if_pos c1]
      · by_cases c2 : i = o
        · subst c2
          rw [if_pos (show i < i + 1 + vs.length by omega), if_pos (show i < i + 1 by omega), if_pos (show i < i + 1 by omega), if_pos rfl, if_pos (by omega), if_pos (by omega), if_neg (by omega), Nat.sub_self]
          rfl
        · by_cases c3 : i < o + 1 + vs.length
          · rw [if_pos (by omega), if_neg (by omega), if_pos (by omega), if_neg (by omega)]
            obtain ⟨d, rfl⟩ : ∃ d, i = o + 1 + d := ⟨i - (o + 1), by omega⟩
            rw [show o + 1 + d - (o + 1) = d by omega, show o + 1 + d - o = d + 1 by omega, List.getElem?_cons_succ]
          · rw [if_neg (by omega), if_neg (by omega), if_neg (by omega)]
            congr 1
            omega
  rw [key vs 0 z (by omega), List.drop_of_length_le (by rw [Array.length_toList]; omega)]
  simp
/-- A hash goes into a variable that has just been made. -/
theorem store_hash {W : World} (hgd : o.guard = none) (hd : o.dst = none) (x y : Operand) (ho : o.op = .store 73 x y) (z : Array Value) (hz : z.size = 32) (t : TypeId) (b : Nat) (hb : b = W.heap.size) (h : Hsh) (hx : a.eval x = .pointer (some ⟨b, 0, none⟩)) (hy : a.eval y = h.val)
    (k : wpList Try.prog ops Q rest a (W.alloc (.cells h.cells.toArray t))) : wpList Try.prog ops Q (o :: rest) a (W.alloc (.cells z t)) := by
  subst hb
  refine wpList_store_mid hgd _ x y ho W.heap.size 0 h.cells.toArray hx hy (fun j hj => ?_) (by rw [List.size_toArray, Hsh.cells_len]; exact sizeH) (all_oneCell_toArray h.one) ?_
  · have hj32 : j < 32 := by rwa [List.size_toArray, Hsh.cells_len] at hj
    rw [Nat.zero_add, cell_of_row _ _ j z t (0, 0) (heap_new W _), frozen_of_row _ _ j z t (heap_new W _)]
    simp
    omega
  · rw [hd]
    show wpList _ _ _ _ a _
    rw [show h.cells.toArray.toList = h.cells by simp, set_all W t z h.cells (by rw [hz, Hsh.cells_len])]
    exact k
end
end Go.Proofs.Ytagcabmccpekaaa.M

set_option linter.unusedVariables false
set_option linter.unusedSimpArgs false
namespace Go.Proofs.Ytagcabmccpekaaa.M
open Go.RowKit Go.Proofs.YtagcabmccpekaaaW.PrintWords Go.Proofs.YtagcabmccpekaaaW.PrintLast Go.Proofs.YtagcabmccpekaaaW.PrintMore Go.Proofs.Ytagcabmccpekaaa.Leaf

section
variable {ops : Array Oper} {rest : List Oper} {o : Oper} {a : Act} {Q : Exit → Act → World → Prop}
end
theorem heap_new2 (w : World) (o : Obj) {b : Nat} (hb : b = w.heap.size) : (w.alloc o).heap[b]? = some o := by subst hb; exact heap_new w o
/-- The hash of zeros. -/
def hashZ : Hsh := ⟨[0, 0, 0, 0, 0, 0, 0, 0, 0, 0, 0, 0, 0, 0, 0, 0, 0, 0, 0, 0, 0, 0, 0, 0, 0, 0, 0, 0, 0, 0, 0, 0], rfl⟩
end Go.Proofs.Ytagcabmccpekaaa.M

set_option linter.unusedVariables false
set_option linter.unusedSimpArgs false
namespace Go.Proofs.Ytagcabmccpekaaa.M

/-! Splitting the peaks. -/
theorem bit_mod (n g : Nat) : n.testBit g = true ↔ n / 2 ^ g % 2 = 1 := by rw [Nat.testBit_eq_decide_div_mod_eq]; simp
/-! Two numbers that part at bit k. -/
def Lv (x y k : Nat) : Prop := x / 2 ^ k ≠ y / 2 ^ k ∧ x / 2 ^ (k + 1) = y / 2 ^ (k + 1)
theorem Lv.symm {x y k : Nat} (h : Lv x y k) : Lv y x k := ⟨fun e => h.1 e.symm, h.2.symm⟩
theorem half_up (x k : Nat) : x / 2 ^ k / 2 = x / 2 ^ (k + 1) := by rw [Nat.div_div_eq_div_mul, Nat.pow_succ]
/-! Places below a size. -/
end Go.Proofs.Ytagcabmccpekaaa.M

set_option linter.unusedVariables false
set_option linter.unusedSimpArgs false
namespace Go.Proofs.Ytagcabmccpekaaa.M

/-! A rising list, cut at a number. -/
/-! What is told of a list of leaves that may not be. -/
end Go.Proofs.Ytagcabmccpekaaa.M

set_option linter.unusedVariables false
set_option linter.unusedSimpArgs false
namespace Go.Proofs.Ytagcabmccpekaaa.M
open Go.RowKit Go.Proofs.YtagcabmccpekaaaW.PrintWords Go.Proofs.YtagcabmccpekaaaW.PrintLast Go.Proofs.YtagcabmccpekaaaW.PrintMore Go.Proofs.Ytagcabmccpekaaa.Leaf

theorem mul_cast (i h : Nat) : (i : Int) * ((2 ^ h : Nat) : Int) = ((i * 2 ^ h : Nat) : Int) := by push_cast; rfl
theorem spots_fits {h i : Nat} (hi : (i + 1) * 2 ^ h ≤ 4611686018427387904) : i * 2 ^ h ≤ 4611686018427387904 ∧ i + 1 ≤ 4611686018427387904 ∧ (i + 1) * 2 ^ h = i * 2 ^ h + 2 ^ h ∧ h ≤ 62 :=
  have h1 : (i + 1) * 2 ^ h = i * 2 ^ h + 2 ^ h := by rw [Nat.add_mul, Nat.one_mul]
  ⟨by have := p2_pos h; omega, Nat.le_trans (Nat.le_mul_of_pos_right _ (p2_pos h)) hi, h1, height_le h i hi⟩
theorem ends_val {h i : Nat} (hi : (i + 1) * 2 ^ h ≤ 4611686018427387904) : wrap64 (h : Int) = h ∧ IntKind.u64.wrap ((i : Int) * ((2 ^ h : Nat) : Int)) = ((i * 2 ^ h : Nat) : Int) ∧ IntKind.u64.wrap (IntKind.u64.wrap ((i : Int) + 1) * ((2 ^ h : Nat) : Int)) = (((i + 1) * 2 ^ h : Nat) : Int) := by
  obtain ⟨h1, h2, h3, h4⟩ := spots_fits hi
  refine ⟨i64_of _ (by omega) (by omega), ?_, ?_⟩
  · rw [mul_cast, w64_nat _ (by omega)]
  · rw [w64_of ((i : Int) + 1) (by omega) (by omega), show ((i : Int) + 1) = ((i + 1 : Nat) : Int) by omega, mul_cast, w64_nat _ (by omega)]
theorem meets_val (h i f t : Nat) (hi : (i + 1) * 2 ^ h ≤ 4611686018427387904) : Ev (fun k => massifref20_meets.f k (h : Int) (i : Int) (f : Int) (t : Int)) (decide (f < t ∧ i * 2 ^ h < t ∧ f < (i + 1) * 2 ^ h)) := by
  obtain ⟨e1, e2, e3⟩ := ends_val hi
  have h4 := (spots_fits hi).2.2.2
  unfold massifref20_meets.f
  rw [e1]
  refine Ev.bind (power_val h (by omega)) ?_
  rw [e2, e3]
  by_cases c1 : f < t
  · refine Ev.congr (fun k => if_pos (by omega)) ?_
    by_cases c2 : i * 2 ^ h < t
    · refine Ev.congr (fun k => if_pos (by omega)) ?_
      rw [show decide (f < t ∧ i * 2 ^ h < t ∧ f < (i + 1) * 2 ^ h) = decide ((((i + 1) * 2 ^ h : Nat) : Int) > (f : Int)) by apply decide_eq_decide.2; omega]
      exact Ev.now _
    · refine Ev.congr (fun k => if_neg (by omega)) ?_
      rw [decide_eq_false (by omega)]
      exact Ev.now _
  · refine Ev.congr (fun k => if_neg (by omega)) ?_
    rw [decide_eq_false (by omega)]
    exact Ev.now _
theorem within_val (h i f t : Nat) (hi : (i + 1) * 2 ^ h ≤ 4611686018427387904) : Ev (fun k => massifref20_within.f k (h : Int) (i : Int) (f : Int) (t : Int)) (decide (f ≤ i * 2 ^ h ∧ (i + 1) * 2 ^ h ≤ t)) := by
  obtain ⟨e1, e2, e3⟩ := ends_val hi
  have h4 := (spots_fits hi).2.2.2
  unfold massifref20_within.f
  rw [e1]
  refine Ev.bind (power_val h (by omega)) ?_
  rw [e2, e3]
  by_cases c1 : f ≤ i * 2 ^ h
  · refine Ev.congr (fun k => if_pos (by omega)) ?_
    rw [show decide (f ≤ i * 2 ^ h ∧ (i + 1) * 2 ^ h ≤ t) = decide ((((i + 1) * 2 ^ h : Nat) : Int) ≤ (t : Int)) by apply decide_eq_decide.2; omega]
    exact Ev.now _
  · refine Ev.congr (fun k => if_neg (by omega)) ?_
    rw [decide_eq_false (by omega)]
    exact Ev.now _
theorem spots_tell {f t h i : Nat} (c : ¬ (f < t ∧ i * 2 ^ h < t ∧ f < (i + 1) * 2 ^ h)) : spots f t h i = [(h, i)] := by
  cases h <;> simp only [spots] <;> rw [if_pos (by simp at c ⊢; omega)]
theorem spots_in {f t h i : Nat} (c : f < t ∧ i * 2 ^ h < t ∧ f < (i + 1) * 2 ^ h) (d : f ≤ i * 2 ^ h ∧ (i + 1) * 2 ^ h ≤ t) : spots f t h i = [] := by
  cases h
  · simp only [spots]
    rw [if_neg (by simp at c d; omega)]
  · simp only [spots]
    rw [if_neg (by omega), if_pos (by omega)]
theorem spots_two {f t h i : Nat} (c : f < t ∧ i * 2 ^ (h + 1) < t ∧ f < (i + 1) * 2 ^ (h + 1)) (d : ¬ (f ≤ i * 2 ^ (h + 1) ∧ (i + 1) * 2 ^ (h + 1) ≤ t)) : spots f t (h + 1) i = spots f t h (2 * i) ++ spots f t h (2 * i + 1) := by
  simp only [spots]
  rw [if_neg (by omega), if_neg (by omega)]
theorem needs_val (f t : Nat) (h : Nat) : ∀ i : Nat, (i + 1) * 2 ^ h ≤ 4611686018427387904 → Ev (fun k => massifref20_needs.f k (h : Int) (i : Int) (f : Int) (t : Int)) (spotsOf (spots f t h i)) := by
  induction h with
  | zero =>
    intro i hi
    refine Ev.step (fun k => by simp only [massifref20_needs.f]; rfl) ?_
    refine Ev.bind (meets_val 0 i f t hi) ?_
    by_cases c : f < t ∧ i * 2 ^ 0 < t ∧ f < (i + 1) * 2 ^ 0
    · refine Ev.congr (fun k => if_pos (decide_eq_true c)) ?_
      refine Ev.bind (within_val 0 i f t hi) ?_
      refine Ev.congr (fun k => if_pos (decide_eq_true (by simp at c ⊢; omega))) ?_
      rw [spots_in c (by simp at c ⊢; omega)]
      exact Ev.now _
    · refine Ev.congr (fun k => if_neg (by rw [decide_eq_true_eq]; exact c)) ?_
      rw [spots_tell c]
      exact Ev.now _
  | succ h ih =>
    intro i hi
    have hs := spots_fits hi
    refine Ev.step (fun k => by simp only [massifref20_needs.f]; rfl) ?_
    refine Ev.bind (meets_val (h + 1) i f t hi) ?_
    by_cases c : f < t ∧ i * 2 ^ (h + 1) < t ∧ f < (i + 1) * 2 ^ (h + 1)
    · refine Ev.congr (fun k => if_pos (decide_eq_true c)) ?_
      refine Ev.bind (within_val (h + 1) i f t hi) ?_
      by_cases d : f ≤ i * 2 ^ (h + 1) ∧ (i + 1) * 2 ^ (h + 1) ≤ t
      · refine Ev.congr (fun k => if_pos (decide_eq_true d)) ?_
        rw [spots_in c d]
        exact Ev.now _
      · refine Ev.congr (fun k => if_neg (by rw [decide_eq_true_eq]; exact d)) ?_
        have hr := kid_right h i
        have hm : (2 * i + 1) * 2 ^ h ≤ (2 * i + 1 + 1) * 2 ^ h := Nat.mul_le_mul_right _ (by omega)
        have i1 := ih (2 * i) (by omega)
        have i2 := ih (2 * i + 1) (by omega)
        have l1 := spots_len f t h (2 * i)
        have l2 := spots_len f t h (2 * i + 1)
        rw [spots_two c d, show ((((h + 1 : Nat) : Int) - 1) % 256) = (h : Int) by omega, w64_of (2 * (i : Int)) (by omega) (by omega), show (2 * (i : Int)) = ((2 * i : Nat) : Int) by omega, w64_of (((2 * i : Nat) : Int) + 1) (by omega) (by omega), show (((2 * i : Nat) : Int) + 1) = ((2 * i + 1 : Nat) : Int) by omega]
        refine Ev.bind i1 ?_
        refine Ev.congr (fun k => Option.bind_some _ _) ?_
        refine Ev.congr (fun k => if_pos (by simp [spotsOf]; omega)) ?_
        refine Ev.congr (fun k => Option.bind_some _ _) ?_
        refine Ev.bind i2 ?_
        refine Ev.congr (fun k => if_pos (by simp [spotsOf]; omega)) ?_
        rw [show [] ++ spotsOf (spots f t h (2 * i)) ++ spotsOf (spots f t h (2 * i + 1)) = spotsOf (spots f t h (2 * i) ++ spots f t h (2 * i + 1)) by simp [spotsOf]]
        exact Ev.now _
    · refine Ev.congr (fun k => if_neg (by rw [decide_eq_true_eq]; exact c)) ?_
      rw [spots_tell c]
      exact Ev.now _

theorem placesOf_cons (s : Nat × Nat) (l : List (Nat × Nat)) : placesOf (s :: l) = [((placeN s.1 s.2 : Nat) : Int)] ++ placesOf l := rfl
theorem rd_spots (l : List (Nat × Nat)) (j : Nat) (hj : j < l.length) : rd_T39 (spotsOf l) (j : Int) = ⟨((l[j]).1 : Int), ((l[j]).2 : Int)⟩ := by
  simp [rd_T39, spotsOf, List.getD_eq_getElem?_getD, List.getElem?_eq_getElem hj]
theorem places_l1 (f t : Int) (tops : List S39) (i : Int) (l : List (Nat × Nat)) (r : List Int × Int) (hl : l.length < 4294967296) (hfit : ∀ s ∈ l, (s.2 + 1) * 2 ^ s.1 ≤ 4611686018427387904) :
    ∀ (d j : Nat) (acc : List Int), j + d = l.length → acc.length + d < 17592186044416 → Ev (fun k => massifref20_Places.l0 k f t (acc ++ placesOf (l.drop j)) tops (wrap64 (i + 1))) r →
      Ev (fun k => massifref20_Places.l1 k f t acc tops i (spotsOf l) (j : Int)) r
  | 0, j, acc, hj, _, hr => by
    rw [List.drop_of_length_le (by omega), show acc ++ placesOf [] = acc by simp [placesOf]] at hr
    exact Ev.step (fun k => by simp only [massifref20_Places.l1]; rw [if_neg (by simp [spotsOf]; omega)]) hr
  | d + 1, j, acc, hj, ha, hr => by
    have hjl : j < l.length := by omega
    have e1 : wrap64 ((j : Int) + 1) = ((j + 1 : Nat) : Int) := by rw [i64_of _ (by omega) (by omega)]; omega
    rw [List.drop_eq_getElem_cons hjl, show acc ++ placesOf (l[j] :: l.drop (j + 1)) = acc ++ [((placeN (l[j]).1 (l[j]).2 : Nat) : Int)] ++ placesOf (l.drop (j + 1)) by rw [placesOf_cons, List.append_assoc]] at hr
    have ih := places_l1 f t tops i l r hl hfit d (j + 1) (acc ++ [((placeN (l[j]).1 (l[j]).2 : Nat) : Int)]) (by omega) (by simp; omega) hr
    have pv := place3_val (l[j]).1 (l[j]).2 (hfit _ (List.getElem_mem hjl))
    refine Ev.step (fun k => by simp only [massifref20_Places.l1]; rw [if_pos (by simp [spotsOf]; omega), if_pos (by omega), rd_spots l j hjl]) ?_
    refine Ev.bind pv ?_
    refine Ev.congr (fun k => if_pos (by omega)) ?_
    rw [e1]
    exact ih
theorem places_l0 (f t : Nat) (tops : List (Nat × Nat)) (hl : tops.length ≤ 63) (hfit : ∀ s ∈ tops, (s.2 + 1) * 2 ^ s.1 ≤ 4611686018427387904) :
    ∀ (d i : Nat) (acc : List Int), i + d = tops.length → acc.length + 127 * d < 17592186044416 →
      Ev (fun k => massifref20_Places.l0 k (f : Int) (t : Int) acc (spotsOf tops) (i : Int)) (acc ++ placesOf ((tops.drop i).flatMap fun s => spots f t s.1 s.2), 0)
  | 0, i, acc, hi, _ => by
    rw [List.drop_of_length_le (by omega), show acc ++ placesOf (([] : List (Nat × Nat)).flatMap fun s => spots f t s.1 s.2) = acc by simp [placesOf]]
    exact Ev.step (f := fun _ => some (acc, 0)) (fun k => by simp only [massifref20_Places.l0]; rw [if_neg (by simp [spotsOf]; omega)]) (Ev.now _)
  | d + 1, i, acc, hi, ha => by
    have hil : i < tops.length := by omega
    have hf := hfit _ (List.getElem_mem hil)
    have h62 := (spots_fits hf).2.2.2
    have hlen := spots_len f t (tops[i]).1 (tops[i]).2
    have e1 : wrap64 ((i : Int) + 1) = ((i + 1 : Nat) : Int) := by rw [i64_of _ (by omega) (by omega)]; omega
    rw [List.drop_eq_getElem_cons hil, List.flatMap_cons, show acc ++ placesOf (spots f t (tops[i]).1 (tops[i]).2 ++ (tops.drop (i + 1)).flatMap fun s => spots f t s.1 s.2) = acc ++ placesOf (spots f t (tops[i]).1 (tops[i]).2) ++ placesOf ((tops.drop (i + 1)).flatMap fun s => spots f t s.1 s.2) by simp [placesOf]]
    have ih := places_l0 f t tops hl hfit d (i + 1) (acc ++ placesOf (spots f t (tops[i]).1 (tops[i]).2)) (by omega) (by simp [placesOf]; omega)
    refine Ev.step (fun k => by simp only [massifref20_Places.l0]; rw [if_pos (by simp [spotsOf]; omega), if_pos (by omega), rd_spots tops i hil]) ?_
    refine Ev.bind (needs_val f t (tops[i]).1 (tops[i]).2 hf) ?_
    refine places_l1 f t (spotsOf tops) i _ _ (by omega) (fun s hs => ?_) _ 0 acc (Nat.zero_add _) (by omega) ?_
    · have := (spots_fit f t _ _ s hs).2
      omega
    · rw [List.drop_zero, e1]
      exact ih
def spanAns (f t n : Nat) : List Int × Int := if 4611686018427387904 < n then ([], 30) else if t < f ∨ n < t then ([], 32) else (intsOf (spanPlaces f t n), 0)
theorem places_eq (f t n : Nat) : placesOf (spanSpots f t n) = intsOf (spanPlaces f t n) := by simp [placesOf, intsOf, spanPlaces, List.map_map, Function.comp_def]
theorem tops_fits (n : Nat) (hn : n ≤ 4611686018427387904) : ∀ s ∈ topsN n, (s.2 + 1) * 2 ^ s.1 ≤ 4611686018427387904 := fun s hs => Nat.le_trans (tops_fit 63 n s hs).2 hn
theorem ref20_places (f t n : Nat) : Ev (fun k => massifref20_Places.f k (f : Int) (t : Int) (n : Int)) (spanAns f t n) := by
  unfold spanAns massifref20_Places.f
  by_cases c1 : 4611686018427387904 < n
  · rw [if_pos c1]
    exact Ev.congr (fun k => if_pos (by omega)) (Ev.now _)
  · rw [if_neg c1]
    refine Ev.congr (fun k => if_neg (by omega)) ?_
    by_cases c2 : t < f
    · rw [if_pos (Or.inl c2)]
      refine Ev.congr (fun k => if_pos (by omega)) ?_
      exact Ev.step (f := fun _ => some ([], 32)) (fun k => by simp only [massifref20_Places.j0]; rw [if_pos (by trivial)]) (Ev.now _)
    · refine Ev.congr (fun k => if_neg (by omega)) ?_
      by_cases c3 : n < t
      · rw [if_pos (Or.inr c3)]
        exact Ev.step (f := fun _ => some ([], 32)) (fun k => by simp only [massifref20_Places.j0]; rw [if_pos (by rw [decide_eq_true_eq]; omega)]) (Ev.now _)
      · rw [if_neg (by omega)]
        refine Ev.step (fun k => by simp only [massifref20_Places.j0]; rw [if_neg (by rw [decide_eq_true_eq]; omega)]) ?_
        refine Ev.bind (tops_val n (by omega)) ?_
        have h := places_l0 f t (topsN n) (topsF_len 63 n) (tops_fits n (by omega)) _ 0 [] (Nat.zero_add _) (by have := topsF_len 63 n; simp only [List.length_nil, topsN]; omega)
        rw [List.nil_append, List.drop_zero, show (topsN n).flatMap (fun s => spots f t s.1 s.2) = spanSpots f t n from rfl, places_eq] at h
        exact h
end Go.Proofs.Ytagcabmccpekaaa.M

set_option linter.unusedVariables false
set_option linter.unusedSimpArgs false
namespace Go.Proofs.Ytagcabmccpekaaa.M
open Go.RowKit Go.Proofs.YtagcabmccpekaaaW.PrintWords Go.Proofs.YtagcabmccpekaaaW.PrintLast Go.Proofs.YtagcabmccpekaaaW.PrintMore Go.Proofs.Ytagcabmccpekaaa.Leaf

/-! The reference. -/
end Go.Proofs.Ytagcabmccpekaaa.M

set_option linter.unusedVariables false
set_option linter.unusedSimpArgs false
namespace Go.Proofs.Ytagcabmccpekaaa.M
open Go.RowKit Go.Proofs.YtagcabmccpekaaaW.PrintWords Go.Proofs.YtagcabmccpekaaaW.PrintLast Go.Proofs.YtagcabmccpekaaaW.PrintMore Go.Proofs.Ytagcabmccpekaaa.Leaf

theorem Told.below {bl base : Nat} {v : Value} {xs ps : List Int} {w w' : World} {e : Ending} (h : Told bl base v xs ps w e w') (hb : base ≤ bl) (hv : ∀ k, v.ownBlock = some k → base ≤ k) (hw : base ≤ w.heap.size) : Below base w w' := by
  obtain ⟨_, v', h1, h2, h3, h4⟩ := h
  exact h3.below hw (fun k hk => by
    rcases hk with hk | hk
    · omega
    · exact hv k hk.symm)

/-- What down's own three blocks hold. -/
def Own (W : World) (n bl h i : Nat) (r : Hsh) : Prop :=
  W.heap[n]? = some (.cells #[.func (.func 65) #[] #[.pointer (some ⟨bl, 0, none⟩)], .func (.func 66) #[] #[], .func (.func 67) #[] #[]] 98 (0, 0)) ∧
  W.heap[n + 1]? = some (.cells #[.int .u8 h, .int .u64 i] 39 (0, 0)) ∧ W.heap[n + 1 + 1]? = some (.cells r.cells.toArray 73 (0, 0))
theorem Own.frm {W W' : World} {n bl h i : Nat} {r : Hsh} (o : Own W n bl h i r) {S : Nat → Prop} (hf : Frm S W W') (hS : ∀ k, n ≤ k → k < W.heap.size → ¬ S k) : Own W' n bl h i r := by
  obtain ⟨h1, h2, h3⟩ := o
  have l3 := blk_lt h3
  exact ⟨(hf.block _ (blk_lt h1) (hS _ (by omega) (blk_lt h1))).trans h1, (hf.block _ (blk_lt h2) (hS _ (by omega) (blk_lt h2))).trans h2, (hf.block _ l3 (hS _ (by omega) l3)).trans h3⟩
theorem Own.below {W W' : World} {n bl h i : Nat} {r : Hsh} (o : Own W n bl h i r) (hb : Below W.heap.size W W') : Own W' n bl h i r := o.frm (Frm.of_below hb (fun _ => False)) (fun _ _ _ => id)
theorem Own.cells {W : World} {n bl h i : Nat} {r : Hsh} (o : Own W n bl h i r) :
    W.cell? ⟨n, 0, none⟩ = some (.func (.func 65) #[] #[.pointer (some ⟨bl, 0, none⟩)]) ∧ W.cell? ⟨n, 1, none⟩ = some (.func (.func 66) #[] #[]) ∧ W.cell? ⟨n, 2, none⟩ = some (.func (.func 67) #[] #[]) ∧
    W.cell? ⟨n + 1, 0, none⟩ = some (.int .u8 h) ∧ W.cell? ⟨n + 1, 1, none⟩ = some (.int .u64 i) :=
  ⟨(blk_cell o.1 0).trans rfl, (blk_cell o.1 1).trans rfl, (blk_cell o.1 2).trans rfl, (blk_cell o.2.1 0).trans rfl, (blk_cell o.2.1 1).trans rfl⟩
/-- How far the telling has come: since w the row in block bl is xs. -/
structure St (bl base : Nat) (v : Value) (w w' : World) (v' : Value) (xs : List Int) : Prop where
  cell : w'.heap[bl]? = some (.cells #[v'] 23 (0, 0))
  row : Kd.R (Kd.int .u64) 22 w' base (fun _ => True) v' xs
  frm : Frm (fun k => k = bl ∨ some k = v.ownBlock) w w'
  own : v'.ownBlock = v.ownBlock ∨ ∃ b, v'.ownBlock = some b ∧ w.heap.size ≤ b
theorem St.below {bl base : Nat} {v v' : Value} {w w' w'' : World} {xs : List Int} (s : St bl base v w w' v' xs) (hb : Below w'.heap.size w' w'') : St bl base v w w'' v' xs :=
  ⟨(hb.block bl (blk_lt s.cell)).trans s.cell, Kd.R_below s.row hb, s.frm.trans (Frm.of_below hb (fun k => k = bl ∨ some k = v.ownBlock)) (fun _ _ hk => hk), s.own⟩
theorem St.told {bl base : Nat} {v v' : Value} {w w' w'' : World} {xs ps : List Int} {e : Ending} (s : St bl base v w w' v' xs) (h : Told bl base v' xs ps w' e w'') : ∃ v'', St bl base v w w'' v'' (xs ++ ps) := by
  obtain ⟨_, v'', h1, h2, h3, h4⟩ := Told.more (ps0 := ps) (xs0 := xs) s.frm s.own h rfl
  exact ⟨v'', h1, h2, h3, h4⟩
theorem St.store {bl base g : Nat} {v v' : Value} {w w' w'' : World} {xs : List Int} (s : St bl base v w w' v' xs) {c : Array Value} {t : TypeId} (hg : w'.heap[g]? = some (.cells c t (0, 0))) (ht : t ≠ 22) (ht2 : t ≠ 23) (hw : w.heap.size ≤ g) (hf : Frm (fun k => k = g) w' w'') : St bl base v w w'' v' xs := by
  have hne : some g ≠ v'.ownBlock := Kd.R_ne s.row hg (by simpa using ht.symm)
  have hbl : bl ≠ g := by
    rintro rfl
    rw [s.cell] at hg
    injection hg with hg
    injection hg with _ h2
    exact ht2 h2.symm
  exact ⟨(hf.block bl (blk_lt s.cell) hbl).trans s.cell, R_frm (flat_int .u64) s.row hf (fun k hk he => hne (by rw [hk, he])), s.frm.trans hf (fun k hk he => by omega), s.own⟩
theorem Own.told {n bl base h i : Nat} {r : Hsh} {v v' : Value} {w w' w'' : World} {xs ps : List Int} {e : Ending} (o : Own w' n bl h i r) (s : St bl base v w w' v' xs) (ht : Told bl base v' xs ps w' e w'') : Own w'' n bl h i r := by
  obtain ⟨_, v'', _, _, h3, _⟩ := ht
  obtain ⟨o1, o2, o3⟩ := o
  have key : ∀ (g : Nat) (c : Array Value) (t : TypeId), w'.heap[g]? = some (.cells c t (0, 0)) → t ≠ 22 → t ≠ 23 → w''.heap[g]? = some (.cells c t (0, 0)) := by
    intro g c t hg ht ht2
    have hne : some g ≠ v'.ownBlock := Kd.R_ne s.row hg (by simpa using ht.symm)
    refine (h3.block g (blk_lt hg) (fun hk => ?_)).trans hg
    rcases hk with hk | hk
    · subst hk
      rw [s.cell] at hg
      injection hg with hg
      injection hg with _ h2
      exact ht2 h2.symm
    · exact hne hk
  exact ⟨key _ _ _ o1 (by decide) (by decide), key _ _ _ o2 (by decide) (by decide), key _ _ _ o3 (by decide) (by decide)⟩
end Go.Proofs.Ytagcabmccpekaaa.M

set_option linter.unusedVariables false
set_option linter.unusedSimpArgs false
namespace Go.Proofs.Ytagcabmccpekaaa.M
open Go.RowKit Go.Proofs.YtagcabmccpekaaaW.PrintWords Go.Proofs.YtagcabmccpekaaaW.PrintLast Go.Proofs.YtagcabmccpekaaaW.PrintMore Go.Proofs.Ytagcabmccpekaaa.Leaf

theorem Own.set {W : World} {n bl h i g : Nat} {r : Hsh} (o : Own W n bl h i r) (hg : n + 1 + 1 < g) (vs : List Value) (off : Nat) : Own (W.setCells g off vs) n bl h i r :=
  ⟨(setCells_far vs off n (by omega)).trans o.1, (setCells_far vs off (n + 1) (by omega)).trans o.2.1, (setCells_far vs off (n + 1 + 1) (by omega)).trans o.2.2⟩
end Go.Proofs.Ytagcabmccpekaaa.M

set_option linter.unusedVariables false
set_option linter.unusedSimpArgs false
namespace Go.Proofs.Ytagcabmccpekaaa.M
open Go.RowKit Go.Proofs.YtagcabmccpekaaaW.PrintWords Go.Proofs.YtagcabmccpekaaaW.PrintLast Go.Proofs.YtagcabmccpekaaaW.PrintMore Go.Proofs.Ytagcabmccpekaaa.Leaf

end Go.Proofs.Ytagcabmccpekaaa.M

set_option linter.unusedVariables false
set_option linter.unusedSimpArgs false
namespace Go.Proofs.Ytagcabmccpekaaa.M

end Go.Proofs.Ytagcabmccpekaaa.M

set_option linter.unusedVariables false
set_option linter.unusedSimpArgs false
namespace Go.Proofs.Ytagcabmccpekaaa.M
open Go.RowKit Go.Proofs.YtagcabmccpekaaaW.PrintWords Go.Proofs.YtagcabmccpekaaaW.PrintLast Go.Proofs.YtagcabmccpekaaaW.PrintMore Go.Proofs.Ytagcabmccpekaaa.Leaf

end Go.Proofs.Ytagcabmccpekaaa.M

set_option linter.unusedVariables false
set_option linter.unusedSimpArgs false
namespace Go.Proofs.Ytagcabmccpekaaa.M
open Go.RowKit

theorem step_of_list {P : Program} {ops : Array Oper} {o : Oper} {a : Act} {w : World} {K : Act → World → Prop} {Q : Exit → Act → World → Prop} {E : Prop} (hg : o.guard = none)
    (h : wpList P ops (fun e a w => e = .normal ∧ K a w) [o] a w) : if Region.wanted o (yielded ops a.tmps) = true then Oper.wp P o a w K Q else E := by
  have hw : Region.wanted o (yielded ops a.tmps) = true := by simp [Region.wanted, hg]
  rw [if_pos hw]
  unfold wpList at h
  rw [if_pos hw] at h
  rcases h with h | h
  · have h2 := Oper.wp_mono (K' := K) (fun a w hk => hk.2) h
    unfold Oper.wp at h2 ⊢
    generalize (execOp a.eval o).run P w = r at *
    cases r with
    | ok n w' =>
      cases n <;> simp only [Oper.upon] at h2 ⊢ <;>
        first
          | exact h2
          | exact Calls.mono h2 (fun e w'' he => by cases e <;> first | exact he | exact absurd (show _ ∧ _ from he).1 (by simp) | (obtain ⟨_, _, h9, _⟩ := (show LetsOut _ from he); exact absurd h9 (by simp)))
          | exact Rows.mono h2 (fun _ _ he => he)
    | halt x w' => cases x <;> simp only [Oper.upon] at h2 ⊢ <;> first | exact h2 | exact absurd h2.1 (by simp)
  · obtain ⟨_, a', w', h3, _⟩ := h
    exact absurd h3 (by simp)
end Go.Proofs.Ytagcabmccpekaaa.M

set_option linter.unusedVariables false
set_option linter.unusedSimpArgs false
namespace Go.Proofs.Ytagcabmccpekaaa.M
open Go.RowKit Go.Proofs.YtagcabmccpekaaaW.PrintWords Go.Proofs.YtagcabmccpekaaaW.PrintLast Go.Proofs.YtagcabmccpekaaaW.PrintMore Go.Proofs.Ytagcabmccpekaaa.Leaf

/-- The three closures, in block n. -/
def Clo (W : World) (n bl : Nat) : Prop :=
  W.heap[n]? = some (.cells #[.func (.func 65) #[] #[.pointer (some ⟨bl, 0, none⟩)], .func (.func 66) #[] #[], .func (.func 67) #[] #[]] 98 (0, 0))

theorem Clo.told {n bl base : Nat} {v v' : Value} {w w' w'' : World} {xs ps : List Int} {e : Ending} (o : Clo w' n bl) (s : St bl base v w w' v' xs) (ht : Told bl base v' xs ps w' e w'') : Clo w'' n bl := by
  obtain ⟨_, v'', _, _, h3, _⟩ := ht
  have hne : some n ≠ v'.ownBlock := Kd.R_ne s.row o (by decide)
  refine (h3.block n (blk_lt o) (fun hk => ?_)).trans o
  rcases hk with hk | hk
  · subst hk
    have h1 := s.cell
    rw [show w'.heap[n]? = _ from o] at h1
    injection h1 with h1
    injection h1 with _ h2
    exact absurd h2 (by decide)
  · exact hne hk
theorem Clo.below {n bl : Nat} {w w' : World} (o : Clo w n bl) (hb : Below w.heap.size w w') : Clo w' n bl := (hb.block n (blk_lt o)).trans o
/-- A row that is not told. -/
def Off (W : World) (B bl : Nat) (v' vX : Value) (ys : List Int) : Prop := Kd.R (Kd.int .u64) 22 W B (fun _ => True) vX ys ∧ ∀ k, vX.ownBlock = some k → some k ≠ v'.ownBlock ∧ k ≠ bl
theorem Off.below {W W' : World} {B bl : Nat} {v' vX : Value} {ys : List Int} (o : Off W B bl v' vX ys) (hb : Below W.heap.size W W') : Off W' B bl v' vX ys := ⟨Kd.R_below o.1 hb, o.2⟩
end Go.Proofs.Ytagcabmccpekaaa.M

set_option linter.unusedVariables false
set_option linter.unusedSimpArgs false
namespace Go.Proofs.Ytagcabmccpekaaa.M
open Go.RowKit Go.Proofs.YtagcabmccpekaaaW.PrintWords Go.Proofs.YtagcabmccpekaaaW.PrintLast Go.Proofs.YtagcabmccpekaaaW.PrintMore Go.Proofs.Ytagcabmccpekaaa.Leaf

end Go.Proofs.Ytagcabmccpekaaa.M

set_option linter.unusedVariables false
set_option linter.unusedSimpArgs false
namespace Go.Proofs.Ytagcabmccpekaaa.M
open Go.RowKit Go.Proofs.YtagcabmccpekaaaW.PrintWords Go.Proofs.YtagcabmccpekaaaW.PrintLast Go.Proofs.YtagcabmccpekaaaW.PrintMore Go.Proofs.Ytagcabmccpekaaa.Leaf

theorem ends_int {h i : Nat} (hi : (i + 1) * 2 ^ h ≤ 4611686018427387904) : IntKind.u64.wrap ((i : Int) * 2 ^ h) = ((i * 2 ^ h : Nat) : Int) ∧ IntKind.u64.wrap (((i : Int) + 1) * 2 ^ h) = (((i + 1) * 2 ^ h : Nat) : Int) := by
  obtain ⟨h1, h2, h3, h4⟩ := spots_fits hi
  refine ⟨?_, ?_⟩
  · rw [show (i : Int) * 2 ^ h = ((i * 2 ^ h : Nat) : Int) by push_cast; rfl, w64_nat _ (by omega)]
  · rw [show ((i : Int) + 1) * 2 ^ h = (((i + 1) * 2 ^ h : Nat) : Int) by push_cast; rfl, w64_nat _ (by omega)]
theorem placesOf_length (l : List (Nat × Nat)) : (placesOf l).length = l.length := by simp only [placesOf, List.length_map]
theorem told_none {bl base : Nat} {v : Value} {xs : List Int} {w w' : World} {e : Ending} (hbl : w.heap[bl]? = some (.cells #[v] 23 (0, 0))) (hv : Kd.R (Kd.int .u64) 22 w base (fun _ => True) v xs)
    (h : e = .returned (.tuple #[]) ∧ Below w.heap.size w w') : Told bl base v xs [] w e w' :=
  ⟨h.1, v, (h.2.block bl (blk_lt hbl)).trans hbl, by rw [List.append_nil]; exact Kd.R_below hv h.2, Frm.of_below h.2 _, .inl rfl⟩
theorem span_needed (f t bl base : Nat) (h : Nat) : ∀ (i : Nat) (w : World) (v : Value) (xs : List Int), (i + 1) * 2 ^ h ≤ 4611686018427387904 → w.heap[bl]? = some (.cells #[v] 23 (0, 0)) →
    Kd.R (Kd.int .u64) 22 w base (fun _ => True) v xs → base ≤ w.heap.size → xs.length + (spots f t h i).length < 17592186044415 →
    Calls Try.prog 44 #[.agg #[.int .u8 h, .int .u64 i], .int .u64 f, .int .u64 t, .func (.func 45) #[] #[.pointer (some ⟨bl, 0, none⟩)]] w (Told bl base v xs (placesOf (spots f t h i)) w) := by
  induction h with
  | zero =>
    intro i w v xs hi hbl hv hbase hl
    obtain ⟨ea, eb⟩ := ends_int hi
    have hs := spots_fits hi
    by_cases c : f < t ∧ i * 2 ^ 0 < t ∧ f < (i + 1) * 2 ^ 0
    · have d : f ≤ i * 2 ^ 0 ∧ (i + 1) * 2 ^ 0 ≤ t := by simp at c ⊢; omega
      rw [spots_in c d]
      exact (needed_all f t 0 i _ _ _ w (by omega) (by omega) ea eb c.1 c.2.2 c.2.1 d.1 d.2).mono fun _ _ h => told_none hbl hv h
    · rw [spots_tell c] at hl ⊢
      simp only [List.length_singleton] at hl
      exact needed_tell f t 0 i _ _ _ bl v xs base w (by omega) (by omega) (place_val 0 i hi) ea eb hbl hv hbase (by omega) (by omega)
  | succ h ih =>
    intro i w v xs hi hbl hv hbase hl
    obtain ⟨ea, eb⟩ := ends_int hi
    have hs := spots_fits hi
    by_cases c : f < t ∧ i * 2 ^ (h + 1) < t ∧ f < (i + 1) * 2 ^ (h + 1)
    · by_cases d : f ≤ i * 2 ^ (h + 1) ∧ (i + 1) * 2 ^ (h + 1) ≤ t
      · rw [spots_in c d]
        exact (needed_all f t (h + 1) i _ _ _ w (by omega) (by omega) ea eb c.1 c.2.2 c.2.1 d.1 d.2).mono fun _ _ h => told_none hbl hv h
      · rw [spots_two c d] at hl ⊢
        rw [List.length_append] at hl
        have hr := kid_right h i
        have hm : (2 * i + 1) * 2 ^ h ≤ (2 * i + 1 + 1) * 2 ^ h := Nat.mul_le_mul_right _ (by omega)
        rw [show placesOf (spots f t h (2 * i) ++ spots f t h (2 * i + 1)) = placesOf (spots f t h (2 * i)) ++ placesOf (spots f t h (2 * i + 1)) by simp [placesOf]]
        exact needed_two f t h i _ _ bl v xs (placesOf (spots f t h (2 * i))) (placesOf (spots f t h (2 * i + 1))) base w (by omega) (by omega) ea eb hbl hv hbase c.1 c.2.2 c.2.1 (by omega)
          (fun w v h1 h2 h3 => ih (2 * i) w v xs (by omega) h1 h2 h3 (by omega)) (fun w v h1 h2 h3 => ih (2 * i + 1) w v _ (by omega) h1 h2 h3 (by simp [placesOf]; omega))
    · rw [spots_tell c] at hl ⊢
      simp only [List.length_singleton] at hl
      exact needed_tell f t (h + 1) i _ _ _ bl v xs base w (by omega) (by omega) (place_val (h + 1) i hi) ea eb hbl hv hbase (by omega) (by omega)

set_option maxHeartbeats 1000000 in
set_option maxRecDepth 100000 in
theorem span_places_none (f t n : Nat) (w : World) (h : 4611686018427387904 < n ∨ t < f ∨ n < t) :
    Calls Try.prog 12 #[.int .u64 f, .int .u64 t, .int .u64 n] w fun e w' => e = .returned (.tuple #[.slice none 0 0, .int .i64 (spanAns f t n).2]) ∧ Below w.heap.size w w' := by
  by_cases c1 : 4611686018427387904 < n
  · rw [show (spanAns f t n).2 = 30 by simp [spanAns, c1]]
    go_enter Try.func12, Try.ntmps12
    go_wp2
    go_ret2
    exact ⟨rfl, Below.refl _ _⟩
  · rw [show (spanAns f t n).2 = 32 by unfold spanAns; rw [if_neg c1, if_pos (by omega)]]
    by_cases c2 : t < f
    · go_enter Try.func12, Try.ntmps12
      go_wp2
      go_ret2
      exact ⟨rfl, Below.refl _ _⟩
    · have c3 : n < t := by omega
      go_enter Try.func12, Try.ntmps12
      go_wp2
      go_ret2
      exact ⟨rfl, Below.refl _ _⟩

/-- The loop of span.Places after j peaks. -/
def SpSt (f t n : Nat) (w : World) (v1 : Value) (L : List Int) (j : Nat) (wr : World) : Prop :=
  ∃ v, wr.heap[w.heap.size]? = some (.cells #[v] 23 (0, 0)) ∧ Kd.R (Kd.int .u64) 22 wr w.heap.size (fun _ => True) v (placesOf (((topsN n).take j).flatMap fun s => spots f t s.1 s.2)) ∧
    Kd.R (Kd.int .u64) 22 wr w.heap.size (fun _ => True) v1 L ∧ (∀ k, v1.ownBlock = some k → v.ownBlock ≠ some k) ∧ Below w.heap.size w wr ∧ w.heap.size < wr.heap.size

theorem spots_total (f t n j : Nat) : (((topsN n).take j).flatMap fun s => spots f t s.1 s.2).length ≤ 63 * 127 := by
  have h1 : ∀ l : List (Nat × Nat), (∀ s ∈ l, s.1 ≤ 62) → (l.flatMap fun s => spots f t s.1 s.2).length ≤ l.length * 127 := by
    intro l
    induction l with
    | nil => simp
    | cons s l ih =>
      intro hl
      have := ih (fun s hs => hl s (List.mem_cons_of_mem _ hs))
      have h2 := spots_len f t s.1 s.2
      have h3 := hl s (List.mem_cons_self ..)
      rw [List.flatMap_cons, List.length_append, List.length_cons]
      omega
  have h2 := h1 ((topsN n).take j) (fun s hs => by have := (tops_fit 63 n s (List.mem_of_mem_take hs)).1; omega)
  have h3 := topsF_len 63 n
  have h4 : ((topsN n).take j).length ≤ (topsN n).length := List.length_take_le' _ _
  unfold topsN at h4 h2 ⊢
  omega

theorem SpSt.next {f t n : Nat} {w : World} {v1 v : Value} {L : List Int} {j : Nat} {wr W w' : World} {e : Ending} {s : Nat × Nat} {ys : List Int} (hj : j < (topsN n).length) (hs : s = (topsN n)[j])
    (g1 : wr.heap[w.heap.size]? = some (.cells #[v] 23 (0, 0))) (g2 : Kd.R (Kd.int .u64) 22 wr w.heap.size (fun _ => True) v ys) (g3 : Kd.R (Kd.int .u64) 22 wr w.heap.size (fun _ => True) v1 L) (g4 : ∀ k, v1.ownBlock = some k → v.ownBlock ≠ some k) (g5 : Below w.heap.size w wr) (g6 : w.heap.size < wr.heap.size)
    (hW : Below wr.heap.size wr W) (h : Told w.heap.size w.heap.size v (placesOf (((topsN n).take j).flatMap fun s => spots f t s.1 s.2)) (placesOf (spots f t s.1 s.2)) W e w') : SpSt f t n w v1 L (j + 1) w' := by
  obtain ⟨_, v2, h1, h2, h3, h4⟩ := h
  have hv : ∀ k, v.ownBlock = some k → v1.ownBlock ≠ some k := fun k hk h => g4 k h hk
  have hlt := Kd.R_lt g3
  refine ⟨v2, h1, ?_, ?_, ?_, ?_, ?_⟩
  · rw [List.take_add_one, List.getElem?_eq_getElem hj, ← hs]
    rw [show placesOf (((topsN n).take j ++ (some s).toList).flatMap fun s => spots f t s.1 s.2) = placesOf (((topsN n).take j).flatMap fun s => spots f t s.1 s.2) ++ placesOf (spots f t s.1 s.2) by simp [placesOf]]
    exact h2
  · refine Kd.R_mono (Kd.R_step (w := W) (ok := fun k => some k = v1.ownBlock) ?_ (fun k hk hkl => h3.block k hkl ?_)) (fun _ _ => trivial)
    · obtain ⟨_, q⟩ := Kd.R_below g3 hW
      exact ⟨fun k hk => hk.symm, q.imp_ (fun _ _ hp => hp)⟩
    · rintro (hk1 | hk1)
      · subst hk1
        exact Kd.R_ne g3 g1 (by decide) hk
      · exact hv k hk1.symm hk.symm
  · intro k hk
    rcases h4 with h4 | ⟨b, h4, hb⟩
    · rw [h4]
      exact g4 k hk
    · rw [h4]
      have := hlt k hk
      have := hW.size
      intro he
      injection he with he
      omega
  · refine g5.trans ⟨h3.os.trans hW.os, h3.tape.trans hW.tape, h3.output.trans hW.output, Nat.le_trans hW.size h3.size, fun k hk => ?_⟩
    have hs1 := hW.size
    rw [h3.block k (by omega) ?_, hW.block k (by omega)]
    rintro (hk1 | hk1)
    · omega
    · have := Kd.R_base g2 k hk1.symm
      omega
  · have := hW.size
    have := h3.size
    omega

set_option maxHeartbeats 1000000 in
set_option maxRecDepth 100000 in
theorem span_places_some (f t n : Nat) (w : World) (c1 : ¬ 4611686018427387904 < n) (c2 : ¬ t < f) (c3 : ¬ n < t) :
    Calls Try.prog 12 #[.int .u64 f, .int .u64 t, .int .u64 n] w fun e w' => ∃ v, e = .returned (.tuple #[v, .int .i64 0]) ∧ Kd.R (Kd.int .u64) 22 w' w.heap.size (fun _ => True) v (placesOf (spanSpots f t n)) ∧ Below w.heap.size w w' := by
  obtain ⟨L, hL⟩ : ∃ L, L = placesOf (topsN n) := ⟨_, rfl⟩
  have hLn : L.length = (topsN n).length := by rw [hL]; simp [placesOf]
  have hL63 : L.length ≤ 63 := by rw [hLn]; exact topsF_len 63 n
  obtain ⟨k1, hk1⟩ := (peaks_val n (by omega)).rounds
  rw [← hL] at hk1
  have HK := Aside0.mk hk1
  have HL := Aside0.mk hL
  have HLn := Aside0.mk hLn
  clear hk1 hL hLn
  go_enter Try.func12, Try.ntmps12
  go_wp2_with fail
  refine (pos_Peaks.calls k1 n _ _ HK.out).mono ?_
  rintro e w1 ⟨v1, rfl, hr, hb⟩
  obtain ⟨A1, cap1, e1⟩ := Kd.R_slice hr
  rw [e1]
  have hb0 : Below w.heap.size w w1 := (bl_new w _).trans (hb.mono (by simp))
  have HS := Aside0.mk (show SpSt f t n w v1 L 0 w1 from ⟨_, (hb.block w.heap.size (by simp)).trans (heap_new w _), Kd.R_nil _ _ _ _ _, Kd.R_lower hr (by simp), (fun _ _ => by simp [Value.ownBlock]), hb0, by have := hb.size; simp at this; omega⟩)
  have HE := Aside0.mk e1
  clear hb hb0 hr e1
  go_wp2_with fail
  go_loopw [28] (fun c wr => ∃ j : Nat, j ≤ L.length ∧ c = .int .i64 j ∧ Aside0 (SpSt f t n w v1 L j wr)) (fun c _ => L.length - (intOf c).toNat)
  case atStart => exact ⟨0, Nat.zero_le _, rfl, HS⟩
  case round =>
    obtain ⟨j, hj, rfl, HJ⟩ := hrel
    clear HS
    by_cases hlt : j < L.length
    · obtain ⟨v, g1, g2, g3, g4, g5, g6⟩ := HJ.out
      rw [HE.out] at g3
      obtain ⟨_, _, hC⟩ := Kd.R_reads' g3
      obtain ⟨ad, ea, hx⟩ := Kd.at_int hC j (by omega) (by omega)
      subst ea
      rw [Int.toNat_natCast] at hx
      have hjt : j < (topsN n).length := by have := HLn.out; omega
      obtain ⟨s, hs⟩ : ∃ s, s = (topsN n)[j] := ⟨_, rfl⟩
      have hrd : rd L (j : Int) = ((placeN s.1 s.2 : Nat) : Int) := by
        rw [HL.out, hs]
        simp [rd, placesOf, List.getD_eq_getElem?_getD, List.getElem?_eq_getElem hjt]
      have hfit : (s.2 + 1) * 2 ^ s.1 ≤ 4611686018427387904 := tops_fits n (by omega) s (by rw [hs]; exact List.getElem_mem hjt)
      obtain ⟨k2, hk2⟩ := (spot_val s.1 s.2 hfit).rounds
      rw [← hrd] at hk2
      have HK2 := Aside0.mk hk2
      have G1 := Aside0.mk g1
      have G2 := Aside0.mk g2
      have G3 := Aside0.mk g3
      have G4 := Aside0.mk g4
      have G5 := Aside0.mk g5
      have HF := Aside0.mk hfit
      have HS := Aside0.mk hs
      clear g1 g2 g3 g4 g5 hC hk2 hrd hs hfit
      go_wp2_with fail
      refine (pos_Spot.calls k2 _ _ _ _ _ HK2.out).mono ?_
      rintro e w2 ⟨rfl, hb2⟩
      have H2 := Aside0.mk hb2
      clear hb2
      go_wp2_with fail
      refine (span_needed f t w.heap.size w.heap.size s.1 s.2 _ v _ HF.out ((((H2.out.trans (Below.alloc (Below.refl _ _) H2.out.size _)).block _ g6)).trans G1.out) (Kd.R_below G2.out (H2.out.trans (Below.alloc (Below.refl _ _) H2.out.size _))) (by have := H2.out.size; simp; omega) (by have := spots_total f t n j; have := spots_len f t s.1 s.2; have := (spots_fits HF.out).2.2.2; rw [placesOf_length]; omega)).mono ?_
      intro e w3 h3
      have H3 := Aside0.mk (SpSt.next hjt HS.out G1.out G2.out (HE.out ▸ G3.out) G4.out G5.out g6 (H2.out.trans (Below.alloc (Below.refl _ _) H2.out.size _)) h3)
      rw [h3.1]
      clear h3
      go_wp2_with fail
      go_roundw
      case rel => exact ⟨j + 1, by omega, by go_num, H3⟩
      case measure => simp [intOf]; omega
    · have hjl : j = L.length := by omega
      subst hjl
      obtain ⟨v, g1, g2, g3, g4, g5, g6⟩ := HJ.out
      obtain ⟨A2, cap2, e2⟩ := Kd.R_slice g2
      have hc0 : wr.cell? ⟨w.heap.size, 0, none⟩ = some v := (blk_cell g1 0).trans rfl
      have HV := Aside0.mk e2
      have G2 := Aside0.mk g2
      clear g1 g2 g3 g4 e2
      go_wp2_with fail
      go_ret2
      refine ⟨v, rfl, ?_, g5⟩
      have hq := G2.out
      rw [HLn.out, List.take_length] at hq
      exact hq
end Go.Proofs.Ytagcabmccpekaaa.M

set_option linter.unusedVariables false
set_option linter.unusedSimpArgs false
namespace Go.Proofs.Ytagcabmccpekaaa.M
open Go.RowKit Go.Proofs.YtagcabmccpekaaaW.PrintWords Go.Proofs.YtagcabmccpekaaaW.PrintLast Go.Proofs.YtagcabmccpekaaaW.PrintMore Go.Proofs.Ytagcabmccpekaaa.Leaf

theorem span_places (f t n : Nat) (w : World) :
    Calls Try.prog 12 #[.int .u64 f, .int .u64 t, .int .u64 n] w fun e w' => ∃ v, e = .returned (.tuple #[v, .int .i64 (spanAns f t n).2]) ∧ Kd.R (Kd.int .u64) 22 w' w.heap.size (fun _ => True) v (spanAns f t n).1 ∧ Below w.heap.size w w' := by
  by_cases h : 4611686018427387904 < n ∨ t < f ∨ n < t
  · refine (span_places_none f t n w h).mono ?_
    rintro e w' ⟨he, hb⟩
    refine ⟨_, he, ?_, hb⟩
    have : (spanAns f t n).1 = [] := by
      unfold spanAns
      by_cases c1 : 4611686018427387904 < n
      · rw [if_pos c1]
      · rw [if_neg c1, if_pos (by omega)]
    rw [this]
    exact Kd.R_nil _ _ _ _ _
  · refine (span_places_some f t n w (by omega) (by omega) (by omega)).mono ?_
    rintro e w' ⟨v, he, hr, hb⟩
    have : spanAns f t n = (placesOf (spanSpots f t n), 0) := by
      unfold spanAns
      rw [if_neg (by omega), if_neg (by omega), places_eq]
    rw [this]
    exact ⟨v, he, hr, hb⟩
theorem spanAns_err (f t n : Nat) : (spanAns f t n).2 = 0 ∨ (spanAns f t n).2 = 30 ∨ (spanAns f t n).2 = 32 := by
  unfold spanAns
  split
  · simp
  · split <;> simp
theorem spanAns_len (f t n : Nat) : (spanAns f t n).1.length ≤ 8001 := by
  unfold spanAns
  split
  · simp
  · split
    · simp
    · rw [← places_eq, placesOf_length]
      have := spots_total f t n (topsN n).length
      rw [List.take_length] at this
      exact this
/-- What span.checked answers of a proof with k nodes. -/
def chkN (f t n k : Nat) : Int := if (spanAns f t n).2 = 0 ∧ (spanAns f t n).1.length ≠ k then 70 else (spanAns f t n).2

set_option maxHeartbeats 1000000 in
set_option maxRecDepth 100000 in
theorem span_checked (f t n k c : Nat) (A : Option Addr) (w : World) :
    Calls Try.prog 56 #[.agg #[.int .u64 n, .int .u64 f, .int .u64 t, .slice A k c]] w fun e w' => e = .returned (.int .i64 (chkN f t n k)) ∧ Below w.heap.size w w' := by
  have hc := span_places f t n
  have hlen := spanAns_len f t n
  have hchk : chkN f t n k = if (spanAns f t n).2 = 0 ∧ (spanAns f t n).1.length ≠ k then 70 else (spanAns f t n).2 := rfl
  generalize chkN f t n k = r at *
  generalize (spanAns f t n).1 = L at *
  have he := spanAns_err f t n
  generalize (spanAns f t n).2 = er at *
  have HC := Aside0.mk hc
  have HE := Aside0.mk hchk
  clear hc hchk
  go_enter Try.func56, Try.ntmps56
  go_wp2_with fail
  refine (HC.out _).mono ?_
  rintro e w1 ⟨v1, rfl, hr, hb⟩
  obtain ⟨A1, cap1, e1⟩ := Kd.R_slice hr
  rw [e1]
  have hb0 : Below w.heap.size w w1 := (bl_new w _).trans (hb.mono (by simp))
  have hbx : w1.heap[w.heap.size]? = some (.cells #[.int .u64 n, .int .u64 f, .int .u64 t, .slice A k c] 45 (0, 0)) := (hb.block _ (by simp)).trans (heap_new w _)
  have hx3 : w1.cell? ⟨w.heap.size, 3, none⟩ = some (.slice A k c) := (blk_cell hbx 3).trans rfl
  have HB := Aside0.mk hb0
  clear hr hb hb0 hbx e1
  by_cases h0 : er = 0
  · subst h0
    by_cases hk2 : L.length = k
    · have hd : ((L.length : Int) != (k : Int)) = false := by rw [bne_eq_false_iff_eq]; omega
      have HK := Aside0.mk hk2
      clear hk2
      go_wp2
      go_ret
      exact ⟨by have := HK.out; rw [HE.out, if_neg (by omega)]; rfl, HB.out⟩
    · have hd : ((L.length : Int) != (k : Int)) = true := by rw [bne_iff_ne]; omega
      have HK := Aside0.mk hk2
      clear hk2
      go_wp2
      go_ret
      exact ⟨by rw [HE.out, if_pos (by first | exact ⟨rfl, HK.out⟩ | exact ⟨trivial, HK.out⟩)]; rfl, HB.out⟩
  · have hd : (er == 0) = false := by rw [beq_eq_false_iff_ne]; exact h0
    have HK := Aside0.mk h0
    clear h0
    go_wp2
    go_ret
    exact ⟨by rw [HE.out, if_neg (fun h => HK.out h.1)]; rfl, HB.out⟩
end Go.Proofs.Ytagcabmccpekaaa.M

set_option linter.unusedVariables false
set_option linter.unusedSimpArgs false
namespace Go.Proofs.Ytagcabmccpekaaa.M
open Go.RowKit Go.Proofs.YtagcabmccpekaaaW.PrintWords Go.Proofs.YtagcabmccpekaaaW.PrintLast Go.Proofs.YtagcabmccpekaaaW.PrintMore Go.Proofs.Ytagcabmccpekaaa.Leaf

set_option maxHeartbeats 1000000 in
set_option maxRecDepth 100000 in
theorem grow_nil (n : Nat) (w : World) (hn : n ≤ 140737488355328) :
    Calls Try.prog 80 #[.slice none 0 0, .int .i64 n] w fun e w' => ∃ v, e = .returned v ∧ Kd.R (Kd.int .u8) 5 w' w.heap.size (fun _ => True) v [] ∧ Below w.heap.size w w' := by
  by_cases h0 : n = 0
  · subst h0
    go_enter Try.func80, Try.ntmps80
    go_wp2
    go_ret
    exact ⟨_, rfl, Kd.R_nil _ _ _ _ _, Below.refl _ _⟩
  · have hp : 0 < n := by omega
    go_enter Try.func80, Try.ntmps80
    go_wp2_with (at_builtin; go_loud (refine Kd.R_append_zeros (Kd.int .u8) (w0 := w) w.heap.size rfl (.tmp 20) (.tmp 21) 46 3 5 (.int .u8 0) 1 rfl Try.underlying46 Try.underlying3 info5 rfl (by decide) (by omega) (.slice none 0 0) [] (0 : Int) (kx := .i64) (n : Int) (fun _ => True) rfl rfl rfl (fun _ _ => trivial) (Kd.R_nil _ _ _ _ _) (by omega) (Below.refl _ _) (Nat.le_refl _) (by simp; omega) ?_; intro v1 w1 hr hb hg hat; obtain ⟨A1, c1, e1⟩ := Kd.R_slice hr; have HR := Aside0.mk hr; have HB := Aside0.mk hb; have HE := Aside0.mk e1; clear hr hb hg hat e1; rw [HE.out]))
    go_ret
    have hr := HR.out
    rw [HE.out] at hr
    exact ⟨_, rfl, by have := Kd.R_take hr (Nat.zero_le _); rwa [List.take_zero] at this, HB.out⟩

theorem rd_rows {w : World} {A : Option Addr} {n : Nat} {LL : List (List Int)} (h : Kd.C (Kd.slice 5 (Kd.int .u8)) w A n LL) (j : Nat) (hj : j < LL.length) : ∃ ad A0 c0, A = some ad ∧ w.cell? (ad.add j) = some (.slice A0 (LL[j]).length c0) ∧ (LL[j]).length ≤ c0 ∧ (Kd.int .u8).C w A0 (LL[j]).length (LL[j]) := by
  have hl := Kd.C_len h
  obtain ⟨ad, c, e, _, hK, hc0⟩ := Kd.C_get h ([] : List Int) (j : Int) (by omega) (by omega)
  have hc : ∀ i u, c[i]? = some u → w.cell? (ad.add (j * 1 + i)) = some u := hc0
  rw [Int.toNat_natCast, List.getD_eq_getElem?_getD, List.getElem?_eq_getElem hj] at hK
  obtain ⟨A0, c0, rfl, l0, g0⟩ := hK
  exact ⟨ad, A0, c0, e, by have hq := hc 0 _ rfl; rwa [Nat.mul_one, Nat.add_zero] at hq, l0, g0⟩
theorem flat_take_le (LL : List (List Int)) (j : Nat) : (LL.take j).flatten.length ≤ LL.flatten.length := by
  conv => rhs; rw [← List.take_append_drop j LL]
  rw [List.flatten_append, List.length_append]
  omega
theorem flat_take_succ (LL : List (List Int)) (j : Nat) (hj : j < LL.length) : (LL.take (j + 1)).flatten = (LL.take j).flatten ++ LL[j] := by
  rw [List.take_add_one, List.getElem?_eq_getElem hj, List.flatten_append]
  simp

/-- The first j rows, one behind the other. -/
def fcat (LL : List (List Int)) (j : Nat) : List Int := (LL.take j).flatten
theorem fcat_zero (LL : List (List Int)) : fcat LL 0 = [] := by simp [fcat]
theorem fcat_all (LL : List (List Int)) : fcat LL LL.length = LL.flatten := by simp [fcat]
theorem fcat_le (LL : List (List Int)) (j : Nat) : (fcat LL j).length ≤ LL.flatten.length := flat_take_le LL j
theorem fcat_succ (LL : List (List Int)) (j : Nat) (hj : j < LL.length) : fcat LL (j + 1) = fcat LL j ++ LL[j] := flat_take_succ LL j hj
/-- How long the first j rows are together. -/
def flen (LL : List (List Int)) (j : Nat) : Nat := (LL.take j).flatten.length
theorem flen_zero (LL : List (List Int)) : flen LL 0 = 0 := by simp [flen]
theorem flen_le (LL : List (List Int)) (j : Nat) : flen LL j ≤ LL.flatten.length := flat_take_le LL j
theorem flen_succ (LL : List (List Int)) (j : Nat) (hj : j < LL.length) : flen LL (j + 1) = flen LL j + (LL[j]).length := by
  unfold flen
  rw [flat_take_succ LL j hj, List.length_append]
set_option maxHeartbeats 1000000 in
set_option maxRecDepth 100000 in
theorem concat_rows (A : Option Addr) (c : Nat) (LL : List (List Int)) (w : World) (hC : Kd.C (Kd.slice 5 (Kd.int .u8)) w A LL.length LL) (hl : LL.length ≤ 1000000) (hn : LL.flatten.length ≤ 140737488355328) :
    Calls Try.prog 57 #[.slice A LL.length c] w fun e w' => ∃ v, e = .returned v ∧ Kd.R (Kd.int .u8) 5 w' w.heap.size (fun _ => True) v LL.flatten ∧ Below w.heap.size w w' := by
  have HC := Aside0.mk hC
  clear hC
  go_enter Try.func57, Try.ntmps57
  go_wp2_with fail
  go_loop [3, 11] (fun s i => ∃ j : Nat, j ≤ LL.length ∧ i = .int .i64 j ∧ s = .int .i64 ((flen LL j : Nat) : Int)) (fun _ i => LL.length - (intOf i).toNat)
  case atStart => exact ⟨0, Nat.zero_le _, rfl, by rw [flen_zero]; rfl⟩
  case round =>
    obtain ⟨j, hj, rfl, rfl⟩ := hrel
    by_cases hlt : j < LL.length
    · obtain ⟨ad, A0, c0, ea, hx, hc0, hC0⟩ := rd_rows HC.out j hlt
      subst ea
      have hb1 := flen_le LL (j + 1)
      have hs := flen_succ LL j hlt
      have HS := Aside0.mk hs
      have hb2 : flen LL j + (LL[j]).length ≤ 140737488355328 := by omega
      clear hs hC0
      go_wp2_with fail
      go_round
      case rel => exact ⟨j + 1, by omega, by go_num, by rw [HS.out]; go_num⟩
      case measure => simp [intOf]; omega
    · have hjl : j = LL.length := by omega
      subst hjl
      have hn' : flen LL LL.length ≤ 140737488355328 := Nat.le_trans (flen_le _ _) hn
      go_wp2_with fail
      refine (grow_nil _ w hn').mono ?_
      rintro e w1 ⟨v1, rfl, hr, hb⟩
      obtain ⟨A1, cap1, e1⟩ := Kd.R_slice hr
      rw [e1] at hr ⊢
      have HR := Aside0.mk hr
      have HB := Aside0.mk hb
      clear hr hb e1
      go_wp2_with fail
      go_loopw [6, 27] (fun s i wr => ∃ j : Nat, j ≤ LL.length ∧ i = .int .i64 j ∧ Aside0 (Kd.R (Kd.int .u8) 5 wr w.heap.size (fun _ => True) s (fcat LL j)) ∧ Aside0 (Below w.heap.size w wr)) (fun _ i _ => LL.length - (intOf i).toNat)
      case atStart => exact ⟨0, Nat.zero_le _, rfl, by rw [fcat_zero]; exact HR, HB⟩
      case round =>
        obtain ⟨j, hj, rfl, HR2, HB2⟩ := hrel
        clear HR HB
        by_cases hlt : j < LL.length
        · obtain ⟨ad, A0, c0, ea, hx, hc0, hC0⟩ := rd_rows (Kd.C_below HC.out HB2.out) j hlt
          subst ea
          have hb1 := fcat_le LL (j + 1)
          have hs := fcat_succ LL j hlt
          rw [hs, List.length_append] at hb1
          have HS := Aside0.mk hs
          have HC0 := Aside0.mk hC0
          clear hs hC0
          have hbs := HB2.out.size
          go_wp2_with (at_builtin; go_loud (refine app_row .u8 w.heap.size rfl (.tmp 31) (.tmp 32) 46 5 (.int .u8 0) 1 rfl Try.underlying46 info5 rfl (by omega) _ _ _ _ _ _ rfl rfl HR2.out HC0.out hbs (by omega) ?_; intro A2 c2 w2 hr2 hf2 hat2; have HR3 := Aside0.mk hr2; have HF := Aside0.mk hf2; clear hr2 hf2 hat2))
          go_roundw
          case rel => exact ⟨j + 1, by omega, by go_num, ⟨by rw [HS.out]; exact HR3.out⟩, ⟨HB2.out.trans (HF.out.below hbs (fun k hk => Kd.R_base HR2.out k hk.symm))⟩⟩
          case measure => simp [intOf]; omega
        · have hjl : j = LL.length := by omega
          subst hjl
          obtain ⟨A2, cap2, e2⟩ := Kd.R_slice HR2.out
          have HE := Aside0.mk e2
          clear e2
          go_wp2_with fail
          go_ret
          exact ⟨_, rfl, by have := HR2.out; rwa [fcat_all] at this, HB2.out⟩
end Go.Proofs.Ytagcabmccpekaaa.M

set_option linter.unusedVariables false
set_option linter.unusedSimpArgs false
namespace Go.Proofs.Ytagcabmccpekaaa.M
open Go.RowKit Go.Proofs.YtagcabmccpekaaaW.PrintWords Go.Proofs.YtagcabmccpekaaaW.PrintLast Go.Proofs.YtagcabmccpekaaaW.PrintMore Go.Proofs.Ytagcabmccpekaaa.Leaf

/-- The bytes of hashes, one behind the other. -/
def nodesI (ns : List Hsh) : List Int := ns.flatMap Hsh.b
def spanBytes (f t n : Nat) (ns : List Hsh) : List Int := [83] ++ shortI n ++ shortI f ++ shortI (t - f) ++ nodesI ns
def encAns (f t n : Nat) (ns : List Hsh) : List Int × Int := if chkN f t n ns.length = 0 then (spanBytes f t n ns, 0) else ([], chkN f t n ns.length)

theorem short_calls (x : Nat) (hx : x < 18446744073709551616) (w : World) :
    Calls Try.prog 58 #[.int .u64 x] w fun e w' => ∃ v, e = .returned v ∧ Kd.R (Kd.int .u8) 5 w' w.heap.size (fun _ => True) v (shortI x) ∧ Below w.heap.size w w' := by
  obtain ⟨k, hk⟩ := (short_val x hx).rounds
  exact num_Short.calls k x _ w hk

set_option maxHeartbeats 2000000 in
set_option maxRecDepth 100000 in
theorem span_encode (f t n c : Nat) (ns : List Hsh) (A : Option Addr) (w : World) (hf : f < 18446744073709551616) (ht : t < 18446744073709551616) (hn : n < 18446744073709551616) (hA : kH.C w A ns.length ns) :
    Calls Try.prog 24 #[.agg #[.int .u64 n, .int .u64 f, .int .u64 t, .slice A ns.length c]] w fun e w' => ∃ v, e = .returned (.tuple #[v, .int .i64 (encAns f t n ns).2]) ∧ Kd.R (Kd.int .u8) 5 w' w.heap.size (fun _ => True) v (encAns f t n ns).1 ∧ Below w.heap.size w w' := by
  have hck := span_checked f t n ns.length c A
  have hea : encAns f t n ns = if chkN f t n ns.length = 0 then (spanBytes f t n ns, 0) else ([], chkN f t n ns.length) := rfl
  have hle : chkN f t n ns.length = 0 → ns.length ≤ 8001 ∧ f ≤ t := by
    intro h
    unfold chkN at h
    split at h
    · omega
    · next h2 =>
      have h3 := spanAns_len f t n
      have : ¬ (spanAns f t n).1.length ≠ ns.length := fun h4 => h2 ⟨h, h4⟩
      refine ⟨by omega, ?_⟩
      unfold spanAns at h
      split at h
      · simp at h
      · split at h
        · simp at h
        · omega
  generalize encAns f t n ns = E at *
  generalize chkN f t n ns.length = r at *
  have HC := Aside0.mk hck
  have HE := Aside0.mk hea
  have HN := Aside0.mk hA
  have HL := Aside0.mk hle
  clear hck hea hA hle
  go_enter Try.func24, Try.ntmps24
  go_wp2_with fail
  refine (HC.out _).mono ?_
  rintro e w1 ⟨rfl, hb⟩
  have hb0 : Below w.heap.size w w1 := (bl_new w _).trans (hb.mono (by simp))
  have hbx : w1.heap[w.heap.size]? = some (.cells #[.int .u64 n, .int .u64 f, .int .u64 t, .slice A ns.length c] 45 (0, 0)) := (hb.block _ (by simp)).trans (heap_new w _)
  have hz1 := hb.size
  simp at hz1
  have HB := Aside0.mk hb0
  have HX := Aside0.mk hbx
  clear hb hb0 hbx
  by_cases h0 : r = 0
  · subst h0
    obtain ⟨hns, hft⟩ := HL.out rfl
    clear HL HC
    go_wp2_with fail
    go_upto_region 4 with (fail)
    go_cut [5] (fun v5 wc => ∃ A5 l5 c5, v5 = .slice A5 l5 c5 ∧ Aside0 (Kd.R (Kd.int .u8) 5 wc w.heap.size (fun _ => True) v5 ([83] ++ shortI n ++ shortI f ++ shortI (t - f)) ∧ Below w.heap.size w wc ∧ wc.heap[w.heap.size]? = some (.cells #[.int .u64 n, .int .u64 f, .int .u64 t, .slice A ns.length c] 45 (0, 0)) ∧ w.heap.size < wc.heap.size))
    case first =>
      have hx0 : w1.cell? ⟨w.heap.size, 0, none⟩ = some (.int .u64 n) := (blk_cell HX.out 0).trans rfl
      have hx1 : w1.cell? ⟨w.heap.size, 1, none⟩ = some (.int .u64 f) := (blk_cell HX.out 1).trans rfl
      have hx2 : w1.cell? ⟨w.heap.size, 2, none⟩ = some (.int .u64 t) := (blk_cell HX.out 2).trans rfl
      have e1 : IntKind.u64.wrap ((t : Int) - (f : Int)) = ((t - f : Nat) : Int) := by rw [w64_of _ (by omega) (by omega)]; omega
      have hz2 : w.heap.size < w1.heap.size := by omega
      go_region_held3 (fun w' => w'.cell? ⟨w.heap.size, 0, none⟩ = some (.int .u64 n) ∧ w'.cell? ⟨w.heap.size, 1, none⟩ = some (.int .u64 f) ∧ w'.cell? ⟨w.heap.size, 2, none⟩ = some (.int .u64 t)) ((exact keep3 hx0 hx1 hx2 hz2 (by repeat (with_reducible first | exact Below.refl _ _ | refine blt ?_ bd.out | refine blt ?_ ba.out | refine blt ?_ bb.out | refine blt ?_ bc.out | refine below_alloc ?_ _ | refine below_drew ?_)))) (first | (go_at_call_of 58 (Value.int .u64 (n : Int)); refine (short_calls n hn _).mono ?_; rintro e wa ⟨va, rfl, hra, hba⟩; obtain ⟨Aa, ca, ea⟩ := Kd.R_slice hra; rw [ea] at hra ⊢; have ra := Aside0.mk (Rd.of_R hra); have ba := Aside0.mk hba; clear hra hba ea) | (go_at_call_of 58 (Value.int .u64 (f : Int)); refine (short_calls f hf _).mono ?_; rintro e wb ⟨vb, rfl, hrb, hbb⟩; obtain ⟨Ab, cb, eb⟩ := Kd.R_slice hrb; rw [eb] at hrb ⊢; have rb := Aside0.mk (Rd.of_R hrb); have bb := Aside0.mk hbb; clear hrb hbb eb) | (go_at_call_of 58 (Value.int .u64 ((t - f : Nat) : Int)); refine (short_calls (t - f) (by omega) _).mono ?_; rintro e wc ⟨vc, rfl, hrc, hbc⟩; obtain ⟨Ac, cc, ec⟩ := Kd.R_slice hrc; rw [ec] at hrc ⊢; have rc := Aside0.mk (Rd.of_R hrc); have bc := Aside0.mk hbc; clear hrc hbc ec) | (go_at_call 57; refine (concat_rows (some ⟨_, 0, none⟩) 4 [[83], shortI n, shortI f, shortI (t - f)] _ (C_rows4 .u8 5 _ _ _ _ _ 46 _ _ _ _ (by repeat (with_reducible first | exact ra.out | exact rb.out | exact rc.out | exact Rd.one _ _ _ _ (by first | rfl | simp [World.drew]) | refine Rd.below ?_ ba.out | refine Rd.below ?_ bb.out | refine Rd.below ?_ bc.out | refine Rd.alloc ?_ _ | refine Rd.drew ?_)) (by repeat (with_reducible first | exact ra.out | exact rb.out | exact rc.out | exact Rd.one _ _ _ _ (by first | rfl | simp [World.drew]) | refine Rd.below ?_ ba.out | refine Rd.below ?_ bb.out | refine Rd.below ?_ bc.out | refine Rd.alloc ?_ _ | refine Rd.drew ?_)) (by repeat (with_reducible first | exact ra.out | exact rb.out | exact rc.out | exact Rd.one _ _ _ _ (by first | rfl | simp [World.drew]) | refine Rd.below ?_ ba.out | refine Rd.below ?_ bb.out | refine Rd.below ?_ bc.out | refine Rd.alloc ?_ _ | refine Rd.drew ?_)) (by repeat (with_reducible first | exact ra.out | exact rb.out | exact rc.out | exact Rd.one _ _ _ _ (by first | rfl | simp [World.drew]) | refine Rd.below ?_ ba.out | refine Rd.below ?_ bb.out | refine Rd.below ?_ bc.out | refine Rd.alloc ?_ _ | refine Rd.drew ?_)) (by first | rfl | simp [World.drew])) (by simp) (by have := shortI_len n; have := shortI_len f; have := shortI_len (t - f); simp; omega)).mono ?_; rintro e wd ⟨vd, rfl, hrd, hbd⟩; obtain ⟨Ad, ld, cd, ed⟩ : ∃ A l c, vd = .slice A l c := (by obtain ⟨A, c, h⟩ := Kd.R_slice hrd; exact ⟨A, _, c, h⟩); rw [ed] at hrd ⊢; have rd := Aside0.mk hrd; have bd := Aside0.mk hbd; clear hrd hbd ed))
      all_goals
        have hq : Below w1.heap.size w1 wd := (by repeat (with_reducible first | exact Below.refl _ _ | refine blt ?_ bd.out | refine blt ?_ ba.out | refine blt ?_ bb.out | refine blt ?_ bc.out | refine below_alloc ?_ _ | refine below_drew ?_))
        go_wp2_with fail
        go_meet
        case rel => exact ⟨_, _, _, rfl, ⟨⟨Kd.R_lower (by have := rd.out; rw [show [[83], shortI n, shortI f, shortI (t - f)].flatten = [83] ++ shortI n ++ shortI f ++ shortI (t - f) by simp] at this; exact this) (Nat.le_trans HB.out.size (Below.size (B := w1.heap.size) (w := w1) (by repeat (with_reducible first | exact Below.refl _ _ | refine blt ?_ ba.out | refine blt ?_ bb.out | refine blt ?_ bc.out | refine below_alloc ?_ _ | refine below_drew ?_)))), HB.out.trans (hq.mono HB.out.size), (hq.block _ hz2).trans HX.out, by have := hq.size; omega⟩⟩⟩
    case rest =>
      obtain ⟨A5, l5, c5, rfl, hcc⟩ := hcut
      obtain ⟨g1, g2, g3, g4⟩ := hcc.out
      obtain ⟨P0, hP⟩ : ∃ P, P = [83] ++ shortI n ++ shortI f ++ shortI (t - f) := ⟨_, rfl⟩
      rw [← hP] at g1
      have hPl : P0.length ≤ 31 := by have := shortI_len n; have := shortI_len f; have := shortI_len (t - f); rw [hP]; simp only [List.length_append, List.length_singleton]; omega
      have HP := Aside0.mk hP
      have hx3 : wc.cell? ⟨w.heap.size, 3, none⟩ = some (.slice A ns.length c) := (blk_cell g3 3).trans rfl
      have G1 := Aside0.mk g1
      have G2 := Aside0.mk g2
      clear g1 g2 g3 hcc hP
      go_wp2_with fail
      go_loopw [5, 31] (fun s i wr => ∃ j : Nat, j ≤ ns.length ∧ i = .int .i64 j ∧ Aside0 (Kd.R (Kd.int .u8) 5 wr w.heap.size (fun _ => True) s (P0 ++ nodesI (ns.take j))) ∧ Aside0 (Below w.heap.size w wr)) (fun _ i _ => ns.length - (intOf i).toNat)
      case atStart => exact ⟨0, Nat.zero_le _, rfl, by rw [List.take_zero]; simp only [nodesI, List.flatMap_nil, List.append_nil]; exact G1, G2⟩
      case round =>
        obtain ⟨j, hj, rfl, HR, HW⟩ := hrel
        clear G1 G2
        by_cases hlt : j < ns.length
        · obtain ⟨ad, ea, hh⟩ := C_hash (Kd.C_below HN.out HW.out) j hlt
          subst ea
          have HH := Aside0.mk hh
          clear hh
          obtain ⟨hv, hhv⟩ : ∃ h, h = ns[j] := ⟨_, rfl⟩
          rw [← hhv] at HH
          have hcat : nodesI (ns.take (j + 1)) = nodesI (ns.take j) ++ hv.b := by
            rw [List.take_add_one, List.getElem?_eq_getElem hlt, ← hhv]
            show nodesI (ns.take j ++ [hv]) = _
            unfold nodesI
            rw [List.flatMap_append]
            simp only [List.flatMap_cons, List.flatMap_nil, List.append_nil]
          have hlen : (nodesI (ns.take (j + 1))).length ≤ 32 * 8001 := by
            have h1 : ∀ l : List Hsh, (nodesI l).length = 32 * l.length := by
              intro l
              induction l with
              | nil => rfl
              | cons x l ih =>
                rw [show nodesI (x :: l) = x.b ++ nodesI l from rfl, List.length_append, ih, x.len, List.length_cons]
                omega
            rw [h1]
            have := List.length_take_le (j + 1) ns
            omega
          rw [hcat, List.length_append, hv.len] at hlen
          have HCat := Aside0.mk hcat
          clear hcat hhv
          have hsz := HW.out.size
          obtain ⟨P1, hP1⟩ : ∃ P, P = P0 ++ nodesI (ns.take j) := ⟨_, rfl⟩
          have hP1l : P1.length ≤ 300000 := by rw [hP1, List.length_append]; omega
          rw [← hP1] at HR
          have HP1 := Aside0.mk hP1
          clear hP1
          go_wp2_with (first | ((with_reducible refine gate_dst (N := 34) rfl ?_); go_loud (refine load_hash rfl (.tmp 33) rfl _ _ rfl HH.out ?_)) | ((with_reducible refine gate_store (t := 73) (p := 7) (v := .tmp 34) rfl ?_); go_loud (refine store_hash rfl rfl (.tmp 7) (.tmp 34) rfl _ rfl _ _ rfl hv rfl rfl ?_)) | ((with_reducible refine gate_builtin (b := .append) (xs := #[.tmp 35, .tmp 36]) rfl ?_); at_builtin; go_loud (refine app_row .u8 w.heap.size rfl (.tmp 35) (.tmp 36) 46 5 (.int .u8 0) 1 rfl Try.underlying46 info5 rfl (by omega) _ P1 hv.b _ 32 32 rfl rfl (Kd.R_alloc HR.out _) (C_hash_row wr hv _ rfl) (by simp; omega) (by omega) ?_; intro A2 c2 w2 hr2 hf2 hat2; have HR2 := Aside0.mk hr2; have HF2 := Aside0.mk hf2; clear hr2 hf2 hat2)))
          go_roundw
          case rel => exact ⟨j + 1, by omega, by go_num, ⟨by rw [HCat.out, ← List.append_assoc, ← HP1.out]; exact HR2.out⟩, ⟨(below_alloc HW.out _).trans (HF2.out.below (by simp; omega) (fun k hk => Kd.R_base HR.out k hk.symm))⟩⟩
          case measure => simp [intOf]; omega
        · have hjl : j = ns.length := by omega
          subst hjl
          obtain ⟨A6, l6, c6, e6⟩ : ∃ A l c, u5 = .slice A l c := (by obtain ⟨A, c, h⟩ := Kd.R_slice HR.out; exact ⟨A, _, c, h⟩)
          have HE6 := Aside0.mk e6
          clear e6
          go_wp2_with fail
          go_ret2
          have he := HE.out
          rw [if_pos (by first | rfl | trivial)] at he
          rw [he]
          refine ⟨_, rfl, ?_, HW.out⟩
          have hq := HR.out
          rw [List.take_length, HP.out] at hq
          exact hq
  · have hd : (r != 0) = true := by rw [bne_iff_ne]; exact h0
    have HK := Aside0.mk h0
    clear h0 HL HC
    go_wp2
    go_ret2
    have he := HE.out
    rw [if_neg HK.out] at he
    rw [he]
    exact ⟨_, rfl, Kd.R_nil _ _ _ _ _, HB.out⟩
end Go.Proofs.Ytagcabmccpekaaa.M

set_option linter.unusedVariables false
set_option linter.unusedSimpArgs false
namespace Go.Proofs.Ytagcabmccpekaaa.M
open Go.RowKit Go.Proofs.YtagcabmccpekaaaW.PrintWords Go.Proofs.YtagcabmccpekaaaW.PrintLast Go.Proofs.YtagcabmccpekaaaW.PrintMore Go.Proofs.Ytagcabmccpekaaa.Leaf

theorem nodes_len : ∀ l : List Hsh, (nodesI l).length = 32 * l.length
  | [] => rfl
  | x :: l => by
    rw [show nodesI (x :: l) = x.b ++ nodesI l from rfl, List.length_append, nodes_len l, x.len, List.length_cons]
    omega
end Go.Proofs.Ytagcabmccpekaaa.M

set_option linter.unusedVariables false
set_option linter.unusedSimpArgs false
namespace Go.Proofs.Ytagcabmccpekaaa.M

/-- The leaves under a spot: from, to. -/
def lo (s : Nat × Nat) : Nat := s.2 * 2 ^ s.1
def up (s : Nat × Nat) : Nat := (s.2 + 1) * 2 ^ s.1
theorem up_lo (s : Nat × Nat) : up s = lo s + 2 ^ s.1 := by unfold up lo; rw [Nat.add_mul, Nat.one_mul]
/-- a is left of b. -/
def Bef (a b : Nat × Nat) : Prop := up a ≤ lo b
/-- Spots from the left to the right, within lo, .., hi - 1. -/
def Ord (l h : Nat) (L : List (Nat × Nat)) : Prop := (∀ s ∈ L, l ≤ lo s ∧ up s ≤ h) ∧ L.Pairwise Bef
theorem Ord.nil (l h : Nat) : Ord l h [] := ⟨fun s hs => by simp at hs, List.Pairwise.nil⟩
theorem Ord.one {l h : Nat} (s : Nat × Nat) (h1 : l ≤ lo s) (h2 : up s ≤ h) : Ord l h [s] := ⟨fun x hx => by simp at hx; subst hx; exact ⟨h1, h2⟩, List.pairwise_singleton _ _⟩
theorem Ord.app {l m h : Nat} {a b : List (Nat × Nat)} (ha : Ord l m a) (hb : Ord m h b) (h1 : l ≤ m) (h2 : m ≤ h) : Ord l h (a ++ b) := by
  refine ⟨fun s hs => ?_, List.pairwise_append.2 ⟨ha.2, hb.2, fun x hx y hy => ?_⟩⟩
  · rcases List.mem_append.1 hs with hs | hs
    · have := ha.1 s hs; omega
    · have := hb.1 s hs; omega
  · have := ha.1 x hx
    have := hb.1 y hy
    unfold Bef
    omega
theorem bit_step (n g : Nat) : (n.testBit g = true ∧ 1 ≤ n / 2 ^ g ∧ lo (g, n / 2 ^ g - 1) = n / 2 ^ (g + 1) * 2 ^ (g + 1) ∧ up (g, n / 2 ^ g - 1) = n / 2 ^ g * 2 ^ g) ∨ (n.testBit g = false ∧ n / 2 ^ g * 2 ^ g = n / 2 ^ (g + 1) * 2 ^ (g + 1)) := by
  have hh := half_up n g
  have hk := kid_left g (n / 2 ^ (g + 1))
  cases hb : n.testBit g with
  | true =>
    have h1 := (bit_mod n g).1 hb
    have h2 : 1 ≤ n / 2 ^ g ∧ n / 2 ^ g - 1 = 2 * (n / 2 ^ (g + 1)) := by
      generalize n / 2 ^ g = a at *
      generalize n / 2 ^ (g + 1) = b at *
      omega
    refine .inl ⟨rfl, h2.1, ?_, ?_⟩
    · show (n / 2 ^ g - 1) * 2 ^ g = _
      rw [← hk, h2.2]
    · show (n / 2 ^ g - 1 + 1) * 2 ^ g = _
      rw [Nat.sub_add_cancel h2.1]
  | false =>
    have h1 : ¬ n / 2 ^ g % 2 = 1 := fun h => by rw [(bit_mod n g).2 h] at hb; simp at hb
    refine .inr ⟨rfl, ?_⟩
    have h2 : n / 2 ^ g = 2 * (n / 2 ^ (g + 1)) := by
      generalize n / 2 ^ g = a at *
      generalize n / 2 ^ (g + 1) = b at *
      omega
    rw [← hk, h2]
theorem div_le_up (n g : Nat) : n / 2 ^ (g + 1) * 2 ^ (g + 1) ≤ n / 2 ^ g * 2 ^ g ∧ n / 2 ^ g * 2 ^ g ≤ n := by
  have hk := kid_left g (n / 2 ^ (g + 1))
  have hh := half_up n g
  refine ⟨by rw [← hk]; refine Nat.mul_le_mul_right _ ?_; generalize n / 2 ^ g = a at *; generalize n / 2 ^ (g + 1) = b at *; omega, Nat.div_mul_le_self _ _⟩
theorem tops_ord (n : Nat) (F : Nat × Nat → List (Nat × Nat)) (hF : ∀ s, Ord (lo s) (up s) (F s)) : ∀ g, Ord (n / 2 ^ g * 2 ^ g) n ((topsF g n).flatMap F)
  | 0 => by simp only [topsF, List.flatMap_nil]; exact Ord.nil _ _
  | g + 1 => by
    have ih := tops_ord n F hF g
    have hd := div_le_up n g
    simp only [topsF]
    rcases bit_step n g with ⟨hb, h1, h2, h3⟩ | ⟨hb, h2⟩
    · rw [if_pos hb, List.flatMap_append]
      simp only [List.flatMap_cons, List.flatMap_nil, List.append_nil]
      refine Ord.app (m := n / 2 ^ g * 2 ^ g) ?_ ih hd.1 hd.2
      rw [← h2, ← h3]
      exact hF _
    · rw [if_neg (by simp [hb]), List.nil_append, ← h2]
      exact ih
/-- One if p. -/
def cN (f : Nat) (s : Nat × Nat) : Nat := if lo s < f ∧ f < up s then 62 else 0
theorem spots_short (f t h i : Nat) (hh : h ≤ 62) : (spots f t h i).length ≤ 1 + cN f (h, i) + cN t (h, i) := by
  by_cases c1 : f ≤ lo (h, i)
  · have h1 := spots_left f t h i c1
    by_cases c2 : t ≤ lo (h, i)
    · have : spots f t h i = [(h, i)] := spots_tell (by have : i * 2 ^ h = lo (h, i) := rfl; omega)
      rw [this]; simp; omega
    · by_cases c3 : t < up (h, i)
      · have : cN t (h, i) = 62 := if_pos ⟨by omega, c3⟩
        omega
      · have h2 := up_lo (h, i)
        have hp := p2_pos h
        have : spots f t h i = [] := spots_in (by have : i * 2 ^ h = lo (h, i) := rfl; have : (i + 1) * 2 ^ h = up (h, i) := rfl; simp only at h2; omega) ⟨c1, by have : (i + 1) * 2 ^ h = up (h, i) := rfl; omega⟩
        rw [this]; simp
  · by_cases c2 : f < up (h, i)
    · have e1 : cN f (h, i) = 62 := if_pos ⟨by omega, c2⟩
      by_cases c3 : up (h, i) ≤ t
      · have h1 := spots_right f t h i c3
        omega
      · by_cases c4 : lo (h, i) < t
        · have e2 : cN t (h, i) = 62 := if_pos ⟨c4, by omega⟩
          have := spots_len f t h i
          omega
        · have : spots f t h i = [(h, i)] := spots_tell (by have : i * 2 ^ h = lo (h, i) := rfl; omega)
          rw [this]; simp; omega
    · have : spots f t h i = [(h, i)] := spots_tell (by have : (i + 1) * 2 ^ h = up (h, i) := rfl; omega)
      rw [this]; simp; omega
theorem cN_once (f : Nat) : ∀ (L : List (Nat × Nat)), L.Pairwise Bef → (L.map (cN f)).sum ≤ 62 ∧ ((∀ s ∈ L, f ≤ lo s) → (L.map (cN f)).sum = 0)
  | [], _ => ⟨by simp, fun _ => rfl⟩
  | s :: r, h => by
    obtain ⟨h1, h2⟩ := List.pairwise_cons.1 h
    have ih := cN_once f r h2
    rw [List.map_cons, List.sum_cons]
    refine ⟨?_, fun hk => ?_⟩
    · by_cases c : lo s < f ∧ f < up s
      · have : (r.map (cN f)).sum = 0 := ih.2 (fun x hx => by have := h1 x hx; unfold Bef at this; omega)
        rw [show cN f s = 62 from if_pos c]
        omega
      · rw [show cN f s = 0 from if_neg c]
        omega
    · have := hk s List.mem_cons_self
      rw [show cN f s = 0 from if_neg (by omega), ih.2 (fun x hx => hk x (List.mem_cons_of_mem _ hx))]
theorem tops_bef (n : Nat) : (topsN n).Pairwise Bef := by
  have := (tops_ord n (fun s => [s]) (fun s => Ord.one s (Nat.le_refl _) (Nat.le_refl _)) 63).2
  rwa [show (topsF 63 n).flatMap (fun s => [s]) = topsN n by rw [List.flatMap_singleton']; rfl] at this
theorem flat_short (f t : Nat) : ∀ (L : List (Nat × Nat)), (∀ s ∈ L, s.1 ≤ 62) → (L.flatMap fun s => spots f t s.1 s.2).length ≤ L.length + (L.map (cN f)).sum + (L.map (cN t)).sum
  | [], _ => by simp
  | s :: r, h => by
    have ih := flat_short f t r (fun x hx => h x (List.mem_cons_of_mem _ hx))
    have h1 := spots_short f t s.1 s.2 (h s List.mem_cons_self)
    have e1 : cN f (s.1, s.2) = cN f s := rfl
    have e2 : cN t (s.1, s.2) = cN t s := rfl
    rw [List.flatMap_cons, List.length_append, List.map_cons, List.map_cons, List.sum_cons, List.sum_cons, List.length_cons]
    omega
theorem span_short (f t n : Nat) : (spanSpots f t n).length ≤ 187 := by
  have h1 := flat_short f t (topsN n) (fun s hs => by have := (tops_fit 63 n s hs).1; omega)
  have h2 := (cN_once f _ (tops_bef n)).1
  have h3 := (cN_once t _ (tops_bef n)).1
  have h4 : (topsN n).length ≤ 63 := topsF_len 63 n
  unfold spanSpots
  omega
end Go.Proofs.Ytagcabmccpekaaa.M
