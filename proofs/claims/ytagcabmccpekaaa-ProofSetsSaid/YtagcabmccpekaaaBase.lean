/- Words of this session: what a call may change ('Frm'), and how rows of the call's own live on. -/
import Derived.Test.YtagcabmccpekaaaLeaf
namespace Go.Proofs.Ytagcabmccpekaaa.M
open Go.RowKit Go.Proofs.YtagcabmccpekaaaW.PrintWords Go.Proofs.YtagcabmccpekaaaW.PrintLast Go.Proofs.YtagcabmccpekaaaW.PrintMore

/-- Of the blocks that were there only those of S may have changed. -/
structure Frm (S : Nat → Prop) (w w' : World) : Prop where
  os : w'.os = w.os
  tape : w'.tape = w.tape
  output : w'.output = w.output
  size : w.heap.size ≤ w'.heap.size
  block : ∀ k, k < w.heap.size → ¬ S k → w'.heap[k]? = w.heap[k]?

theorem Frm.refl (S : Nat → Prop) (w : World) : Frm S w w := ⟨rfl, rfl, rfl, Nat.le_refl _, fun _ _ _ => rfl⟩
theorem Frm.trans {S S' : Nat → Prop} {a b c : World} (h : Frm S a b) (k : Frm S' b c) (hs : ∀ i, i < a.heap.size → S' i → S i) : Frm S a c :=
  ⟨k.os.trans h.os, k.tape.trans h.tape, k.output.trans h.output, Nat.le_trans h.size k.size, fun i hi hn => (k.block i (Nat.lt_of_lt_of_le hi h.size) (fun hs' => hn (hs i hi hs'))).trans (h.block i hi hn)⟩
theorem Frm.of_below {w w' : World} (h : Below w.heap.size w w') (S : Nat → Prop) : Frm S w w' := ⟨h.os, h.tape, h.output, h.size, fun k hk _ => h.block k hk⟩
theorem Frm.below {S : Nat → Prop} {w w' : World} (h : Frm S w w') {B : Nat} (hB : B ≤ w.heap.size) (hs : ∀ i, S i → B ≤ i) : Below B w w' :=
  ⟨h.os, h.tape, h.output, h.size, fun k hk => h.block k (Nat.lt_of_lt_of_le hk hB) (fun hsk => by have := hs k hsk; omega)⟩
theorem Frm.of_grown {w w' : World} {row : Option Nat} (h : w.grownBy w' row) : Frm (fun k => some k = row) w w' := ⟨h.os, h.tape, h.output, h.size, fun k hk hn => h.block k hk hn⟩
theorem Frm.of_set (w : World) (p : Addr) (u : Value) : Frm (fun k => k = p.block) w (w.setCell p u) :=
  ⟨rfl, rfl, rfl, by simp [World.setCell], fun k _ hn => Below.heap_setCell w p u k hn⟩
theorem Frm.of_drawn {w w' : World} (h : Drawn0 w w') (S : Nat → Prop) : Frm S w w' := Frm.of_below h.below S
theorem Frm.mono {S S' : Nat → Prop} {w w' : World} (h : Frm S w w') (hs : ∀ k, k < w.heap.size → S k → S' k) : Frm S' w w' :=
  ⟨h.os, h.tape, h.output, h.size, fun k hk hn => h.block k hk (fun hk' => hn (hs k hk hk'))⟩
theorem heap_new (w : World) (o : Obj) : (w.alloc o).heap[w.heap.size]? = some o := by
  show (w.heap.push o)[w.heap.size]? = some o
  simp
theorem heap_newN (w : World) (o : Obj) (n : Nat) : ((w.alloc o).drewN n).heap[w.heap.size]? = some o := heap_new w o
theorem bl_new (w : World) (o : Obj) : Below w.heap.size w (w.alloc o) := (Below.refl _ _).alloc (Nat.le_refl _) _
theorem bl_newN (w : World) (o : Obj) (n : Nat) : Below w.heap.size w ((w.alloc o).drewN n) := pw_below_drewN ((Below.refl _ _).alloc (Nat.le_refl _) _) _

/-! Flat kinds: an element is its cells, whatever the world. -/
def Flat {α : Type} (d : Kd α) : Prop := ∀ (w w' : World) (b b' : Nat) (ok ok' : Nat → Prop) (x : α) (cs : List Value), d.M w b ok x cs → d.M w' b' ok' x cs
theorem flat_int (k : IntKind) : Flat (Kd.int k) := fun _ _ _ _ _ _ _ _ h => h
def flat {α : Type} (enc : α → List Value) (n : Nat) (hn : ∀ x, (enc x).length = n) (h1 : ∀ x, ∀ u ∈ enc x, u.oneCell' = true) : Kd α where
  sz := n
  E := []
  K := fun _ x cs => cs = enc x
  M := fun _ _ _ x cs => cs = enc x
  K_len := fun h => by rw [h]; exact hn _
  K_one := fun h u hu => by rw [h] at hu; exact h1 _ u hu
  K_below := fun _ h => h
  K_of_M := fun h => h
  M_mono := fun _ h => h
  M_bound := fun h => h
  M_move := fun _ h => h
  M_lower := fun _ h => h
/-- A hash: 32 numbers. -/
structure Hsh where
  b : List Int
  len : b.length = 32
deriving DecidableEq
def Hsh.cells (h : Hsh) : List Value := h.b.map (Value.int .u8)
theorem Hsh.cells_len (h : Hsh) : h.cells.length = 32 := by simp [Hsh.cells, h.len]
def kH : Kd Hsh := flat Hsh.cells 32 Hsh.cells_len (fun x u hu => by
  obtain ⟨y, _, rfl⟩ := List.mem_map.1 hu
  rfl)
theorem flat_kH : Flat kH := fun _ _ _ _ _ _ _ _ h => h
/-- A hash as a value. -/
def Hsh.val (h : Hsh) : Value := .agg h.cells.toArray

section
variable {α : Type} {d : Kd α} {e : Nat} {w w1 : World} {base : Nat} {v : Value} {xs : List α}
theorem R_self (hd : Flat d) (h : d.R e w base (fun _ => True) v xs) : d.R e w base (fun k => some k = v.ownBlock) v xs := by
  obtain ⟨_, q⟩ := h
  exact ⟨fun k hk => hk.symm, q.imp_ (fun _ _ hp => hd _ _ _ _ _ _ _ _ hp)⟩
theorem R_frm (hd : Flat d) (h : d.R e w base (fun _ => True) v xs) {S : Nat → Prop} (hf : Frm S w w1) (hS : ∀ k, v.ownBlock = some k → ¬ S k) : d.R e w1 base (fun _ => True) v xs :=
  Kd.R_mono (Kd.R_step (R_self hd h) (fun k hk hkl => hf.block k hkl (hS k hk.symm))) (fun _ _ => trivial)
end

section
variable {P : Program} {ops : Array Oper} {rest : List Oper} {o : Oper} {a : Act} {Q : Exit → Act → World → Prop} {α : Type}
/-- append(v, x), behind 'at_builtin': the row of one's own is longer by p. -/
theorem app_one (d : Kd α) {W : World} (base : Nat) (hgd : o.guard = none) (s x : Operand) (t e : TypeId) (z : Value) (bytes : Nat)
    (ho : o.op = .call { callee := .builtin .append, args := #[s, x], argTypes := #[t, t] })
    (ht : P.underlying t = some (.slice e)) (hinfo : (P.info? e).map (fun i => (i.zero, i.size, i.bytes)) = some (some z, d.sz, bytes)) (hz : z.cells.size = d.sz) (hs0 : 0 < d.sz) (hb0 : 0 < bytes)
    (v : Value) (xs : List α) (p : α) (cs : List Value) (hs : a.eval s = v) (hx : a.eval x = .slice (some ⟨W.heap.size, 0, none⟩) 1 1) (hp : d.M W base (fun _ => False) p cs)
    (HO : d.R e W base (fun _ => True) v xs) (hbase : base ≤ W.heap.size) (hl : (xs.length + 1) * bytes ≤ 140737488355328)
    (h : ∀ A1 c1 w1, d.R e w1 base (fun _ => True) (.slice A1 (xs.length + 1) c1) (xs ++ [p]) → Frm (fun k => some k = v.ownBlock) W w1 →
      ((Value.slice A1 (xs.length + 1) c1).ownBlock = v.ownBlock ∨ ∃ b, (Value.slice A1 (xs.length + 1) c1).ownBlock = some b ∧ W.heap.size ≤ b) → wpList P ops Q rest (a.put o.dst (.slice A1 (xs.length + 1) c1)) w1) :
    wpList P ops Q (o :: rest) a (W.alloc (.cells cs.toArray e)) := by
  refine Kd.R_append d (w0 := W) base hgd s x t e z bytes ho ht hinfo hz hs0 hb0 v xs p cs (fun _ => True) (fun _ => False) hs hx hp (fun _ hk => hk.elim) (fun _ _ => trivial) HO (Below.refl _ _) hbase hl ?_
  intro v1 w1 hr _ hg hat
  obtain ⟨A1, c1, e1⟩ := Kd.R_slice hr
  rw [List.length_append] at e1
  rw [e1] at hr hat ⊢
  exact h A1 c1 w1 hr (Frm.of_grown hg) hat
/-- append(v, ys...) of numbers. -/
theorem app_row (k : IntKind) {W : World} (base : Nat) (hgd : o.guard = none) (s x : Operand) (t e : TypeId) (z : Value) (bytes : Nat)
    (ho : o.op = .call { callee := .builtin .append, args := #[s, x], argTypes := #[t, t] })
    (ht : P.underlying t = some (.slice e)) (hinfo : (P.info? e).map (fun i => (i.zero, i.size, i.bytes)) = some (some z, 1, bytes)) (hz : z.cells.size = 1) (hb0 : 0 < bytes)
    (v : Value) (xs ys : List Int) (A : Option Addr) (m c : Nat) (hs : a.eval s = v) (hx : a.eval x = .slice A m c)
    (HO : (Kd.int k).R e W base (fun _ => True) v xs) (HR : (Kd.int k).C W A m ys) (hbase : base ≤ W.heap.size) (hl : (xs.length + m) * bytes ≤ 140737488355328)
    (h : ∀ A1 c1 w1, (Kd.int k).R e w1 base (fun _ => True) (.slice A1 (xs.length + m) c1) (xs ++ ys) → Frm (fun k => some k = v.ownBlock) W w1 →
      ((Value.slice A1 (xs.length + m) c1).ownBlock = v.ownBlock ∨ ∃ b, (Value.slice A1 (xs.length + m) c1).ownBlock = some b ∧ W.heap.size ≤ b) → wpList P ops Q rest (a.put o.dst (.slice A1 (xs.length + m) c1)) w1) :
    wpList P ops Q (o :: rest) a W := by
  refine Kd.R_append_row (Value.int k) 0 (w0 := W) base hgd s x t e z bytes ho ht hinfo hz hb0 v xs ys A m c (fun _ => True) hs hx (fun _ _ => trivial) HO HR (Below.refl _ _) hbase hl ?_
  intro v1 w1 hr _ hg hat
  obtain ⟨A1, c1, e1⟩ := Kd.R_slice hr
  rw [List.length_append, Kd.C_len HR] at e1
  rw [e1] at hr hat ⊢
  exact h A1 c1 w1 hr (Frm.of_grown hg) hat
/-- append(v, ys...) of elements of a flat kind. -/
theorem app_rows (d : Kd α) (hKM : ∀ (w : World) b ok x cs, d.K w x cs → d.M w b ok x cs) {W : World} (base : Nat) (hgd : o.guard = none) (s x : Operand) (t e : TypeId) (z : Value) (bytes : Nat)
    (ho : o.op = .call { callee := .builtin .append, args := #[s, x], argTypes := #[t, t] })
    (ht : P.underlying t = some (.slice e)) (hinfo : (P.info? e).map (fun i => (i.zero, i.size, i.bytes)) = some (some z, d.sz, bytes)) (hz : z.cells.size = d.sz) (hs0 : 0 < d.sz) (hb0 : 0 < bytes)
    (v : Value) (xs ys : List α) (A : Option Addr) (m c : Nat) (hs : a.eval s = v) (hx : a.eval x = .slice A m c)
    (HO : d.R e W base (fun _ => True) v xs) (HR : d.C W A m ys) (hbase : base ≤ W.heap.size) (hl : (xs.length + m) * bytes ≤ 140737488355328)
    (h : ∀ A1 c1 w1, d.R e w1 base (fun _ => True) (.slice A1 (xs.length + m) c1) (xs ++ ys) → Frm (fun k => some k = v.ownBlock) W w1 →
      ((Value.slice A1 (xs.length + m) c1).ownBlock = v.ownBlock ∨ ∃ b, (Value.slice A1 (xs.length + m) c1).ownBlock = some b ∧ W.heap.size ≤ b) → wpList P ops Q rest (a.put o.dst (.slice A1 (xs.length + m) c1)) w1) :
    wpList P ops Q (o :: rest) a W := by
  refine Kd.R_append_rows d (Rr := d.K W) (w0 := W) base hgd s x t e z bytes ho ht hinfo hz hs0 hb0 v xs ys A m c (fun _ => True) (fun _ => False) hs hx HO HR (fun x cs hk => hKM W base _ x cs hk) (fun _ hk => hk.elim) (fun _ _ => trivial) (Below.refl _ _) hbase hl ?_
  intro v1 w1 hr _ hg hat
  obtain ⟨A1, c1, e1⟩ := Kd.R_slice hr
  rw [List.length_append, Kd.C_len HR] at e1
  rw [e1] at hr hat ⊢
  exact h A1 c1 w1 hr (Frm.of_grown hg) hat
end

theorem bcell {W w1 : World} (hb : Below W.heap.size W w1) : (∀ b o, b < W.heap.size → w1.cell? ⟨b, o, none⟩ = W.cell? ⟨b, o, none⟩) ∧ (∀ b o, b < W.heap.size → w1.frozen? ⟨b, o, none⟩ = W.frozen? ⟨b, o, none⟩) :=
  ⟨fun b o h => hb.cell (p := ⟨b, o, none⟩) h, fun b o h => hb.frozen (p := ⟨b, o, none⟩) h⟩
theorem below_on {B : Nat} {w W w1 : World} (h : Below B w W) (hB : B ≤ W.heap.size) (k : Below W.heap.size W w1) : Below B w w1 := h.trans (k.mono hB)

theorem blt {w W w1 : World} (h : Below w.heap.size w W) (k : Below W.heap.size W w1) : Below w.heap.size w w1 := h.trans (k.mono h.size)
theorem keep3 {W w' : World} {b : Nat} {v0 v1 v2 : Value} (h0 : W.cell? ⟨b, 0, none⟩ = some v0) (h1 : W.cell? ⟨b, 1, none⟩ = some v1) (h2 : W.cell? ⟨b, 2, none⟩ = some v2) (hz : b < W.heap.size) (hb : Below W.heap.size W w') :
    w'.cell? ⟨b, 0, none⟩ = some v0 ∧ w'.cell? ⟨b, 1, none⟩ = some v1 ∧ w'.cell? ⟨b, 2, none⟩ = some v2 :=
  ⟨((bcell hb).1 b 0 hz).trans h0, ((bcell hb).1 b 1 hz).trans h1, ((bcell hb).1 b 2 hz).trans h2⟩
/-- A slice value that reads as these numbers (of one kind). -/
def Rd (k : IntKind) (w : World) (v : Value) (xs : List Int) : Prop := ∃ A c, v = .slice A xs.length c ∧ xs.length ≤ c ∧ (Kd.int k).C w A xs.length xs
theorem Rd.below {k : IntKind} {w w1 : World} {v : Value} {xs : List Int} (h : Rd k w v xs) (hb : Below w.heap.size w w1) : Rd k w1 v xs := by
  obtain ⟨A, c, e, hl, hc⟩ := h
  exact ⟨A, c, e, hl, Kd.C_below hc hb⟩
theorem Rd.alloc {k : IntKind} {w : World} {v : Value} {xs : List Int} (h : Rd k w v xs) (o : Obj) : Rd k (w.alloc o) v xs := h.below (bl_new w o)
theorem Rd.drewN {k : IntKind} {w : World} {v : Value} {xs : List Int} (h : Rd k w v xs) (n : Nat) : Rd k (w.drewN n) v xs := h.below (pw_below_drewN (Below.refl _ _) n)
theorem Rd.drew {k : IntKind} {w : World} {v : Value} {xs : List Int} (h : Rd k w v xs) : Rd k w.drew v xs := h.below (below_drew (Below.refl _ _))
theorem Rd.of_R {k : IntKind} {e base : Nat} {w : World} {v : Value} {xs : List Int} (h : (Kd.int k).R e w base (fun _ => True) v xs) : Rd k w v xs := by
  obtain ⟨A, c, e1, hl, hc⟩ := Kd.R_reads h
  exact ⟨A, c, e1, hl, hc⟩
theorem C_int_block (k : IntKind) {w : World} {b : Nat} {cs : Array Value} {t : TypeId} {fz : Nat × Nat} {xs : List Int} (h : w.heap[b]? = some (.cells cs t fz)) (hm : xs.length ≤ 9223372036854775807) (hc : ∀ (j : Nat) (x : Int), xs[j]? = some x → cs[j]? = some (.int k x)) :
    (Kd.int k).C w (some ⟨b, 0, none⟩) xs.length xs := by
  refine ⟨rfl, hm, fun _ => ⟨_, rfl, fun j x hj => ⟨[.int k x], rfl, rfl, fun i u hi => ?_⟩⟩⟩
  cases i with
  | zero =>
    simp at hi
    subst hi
    rw [show j * (Kd.int k).sz + 0 = j from Nat.mul_one j, add_plain]
    show (match w.heap[b]? with | some (.cells c _ _) => if (none : Option Nat).isSome then none else c[j]? | _ => none) = _
    rw [h]
    exact hc j x hj
  | succ i => simp at hi
theorem Rd.one (k : IntKind) (w : World) (x : Int) (e : Nat) {b : Nat} (hb : b = w.heap.size) : Rd k (w.alloc (.cells #[.int k x] e)) (.slice (some ⟨b, 0, none⟩) 1 1) [x] := by
  subst hb
  refine ⟨some ⟨w.heap.size, 0, none⟩, 1, rfl, by simp, C_int_block k (heap_new w _) (by simp) (fun j y hj => ?_)⟩
  cases j with
  | zero => simp at hj; subst hj; rfl
  | succ j => simp at hj
/-- A block of slices that read as rows. -/
theorem C_rows (k : IntKind) (e : Nat) {w : World} {b : Nat} {cs : Array Value} {t : TypeId} {fz : Nat × Nat} {xs : List (List Int)} (h : w.heap[b]? = some (.cells cs t fz)) (hm : xs.length ≤ 9223372036854775807) (hc : ∀ (j : Nat) (x : List Int), xs[j]? = some x → ∃ v, cs[j]? = some v ∧ Rd k w v x) :
    Kd.C (Kd.slice e (Kd.int k)) w (some ⟨b, 0, none⟩) xs.length xs := by
  refine ⟨rfl, hm, fun _ => ⟨_, rfl, fun j x hj => ?_⟩⟩
  obtain ⟨v, hv, A, c, rfl, hl, hr⟩ := hc j x hj
  refine ⟨[_], rfl, ⟨A, c, rfl, hl, hr⟩, fun i u hi => ?_⟩
  cases i with
  | zero =>
    simp at hi
    subst hi
    rw [show j * (Kd.slice e (Kd.int k)).sz + 0 = j from Nat.mul_one j, add_plain]
    show (match w.heap[b]? with | some (.cells c _ _) => if (none : Option Nat).isSome then none else c[j]? | _ => none) = _
    rw [h]
    exact hv
  | succ i => simp at hi
theorem C_rows4 (k : IntKind) (e : Nat) (w : World) (v0 v1 v2 v3 : Value) (t : TypeId) (x0 x1 x2 x3 : List Int) (h0 : Rd k w v0 x0) (h1 : Rd k w v1 x1) (h2 : Rd k w v2 x2) (h3 : Rd k w v3 x3) {b : Nat} (hb : b = w.heap.size) :
    Kd.C (Kd.slice e (Kd.int k)) (w.alloc (.cells #[v0, v1, v2, v3] t)) (some ⟨b, 0, none⟩) 4 [x0, x1, x2, x3] := by
  subst hb
  refine C_rows k e (heap_new w _) (by simp) (fun j x hj => ?_)
  match j, hj with
  | 0, hj => exact ⟨v0, rfl, by simp at hj; subst hj; exact h0.alloc _⟩
  | 1, hj => exact ⟨v1, rfl, by simp at hj; subst hj; exact h1.alloc _⟩
  | 2, hj => exact ⟨v2, rfl, by simp at hj; subst hj; exact h2.alloc _⟩
  | 3, hj => exact ⟨v3, rfl, by simp at hj; subst hj; exact h3.alloc _⟩
  | j + 4, hj => simp at hj
theorem C_rows3 (k : IntKind) (e : Nat) (w : World) (v0 v1 v2 : Value) (t : TypeId) (x0 x1 x2 : List Int) (h0 : Rd k w v0 x0) (h1 : Rd k w v1 x1) (h2 : Rd k w v2 x2) {b : Nat} (hb : b = w.heap.size) :
    Kd.C (Kd.slice e (Kd.int k)) (w.alloc (.cells #[v0, v1, v2] t)) (some ⟨b, 0, none⟩) 3 [x0, x1, x2] := by
  subst hb
  refine C_rows k e (heap_new w _) (by simp) (fun j x hj => ?_)
  match j, hj with
  | 0, hj => exact ⟨v0, rfl, by simp at hj; subst hj; exact h0.alloc _⟩
  | 1, hj => exact ⟨v1, rfl, by simp at hj; subst hj; exact h1.alloc _⟩
  | 2, hj => exact ⟨v2, rfl, by simp at hj; subst hj; exact h2.alloc _⟩
  | j + 3, hj => simp at hj
end Go.Proofs.Ytagcabmccpekaaa.M
