/- Words of this session: what a call may change ('Frm'), and how rows of the call's own live on. A row's 'post' where the call has at most laid new blocks (Below): 'post_of_same' with Below for the frame and for what is frozen. A parameter that is a slice of integers: what it reads as, and that it reads the same where the call has at most laid new blocks. Plain laws of places, with no program in sight: set bits, how many nodes n leaves have, the greatest n with so many nodes, peaks, the spots that a span needs. Plain laws of a leaf's path and peak, with no program in sight: which spots a proof of a leaf has, that they and the leaf are all leaves, none twice. Plain laws of what many leaves need, with no program in sight. Plain laws of a walk over the peaks, leaf by leaf. math/bits.OnesCount64's arithmetic counts the set bits. -/
import Derived.Test.YtagcabmccpekaaaLeaf
import Derived.Test.YtagcabmccpekaaaRows
import Derived.WalkKit
import Derived.ProofKit
import Derived.OpenShut
import Derived.ChangeSlices
import Derived.Lib.BitFns
set_option linter.unusedVariables false
set_option linter.unusedSimpArgs false
namespace Go.Proofs.Ytagcabmccpekaaa.M
open Go.RowKit Go.Proofs.YtagcabmccpekaaaW.PrintWords Go.Proofs.YtagcabmccpekaaaW.PrintLast Go.Proofs.YtagcabmccpekaaaW.PrintMore

/-- Of the blocks that were there only those of S may have changed. -/
structure Frm (S : Nat → Prop) (w w' : World) : Prop where
  os : w'.os = w.os
  tape : w'.tape = w.tape
  output : w'.output = w.output
  size : w.heap.size ≤ w'.heap.size
  block : ∀ k, k < w.heap.size → ¬ S k → w'.heap[k]? = w.heap[k]?

theorem Frm.refl (S : Nat → Prop) (w : World) : Frm S w w := ⟨rfl, rfl, rfl, Nat.le_refl _, fun _ _ _ => rfl⟩
theorem Frm.trans {S S' : Nat → Prop} {a b c : World} (h : Frm S a b) (k : Frm S' b c) (hs : ∀ i, i < a.heap.size → S' i → S i) : Frm S a c :=
  ⟨k.os.trans h.os, k.tape.trans h.tape, k.output.trans h.output, Nat.le_trans h.size k.size, fun i hi hn => (k.block i (Nat.lt_of_lt_of_le hi h.size) (fun hs' => hn (hs i hi hs'))).trans (h.block i hi hn)⟩
theorem Frm.of_below {w w' : World} (h : Below w.heap.size w w') (S : Nat → Prop) : Frm S w w' := ⟨h.os, h.tape, h.output, h.size, fun k hk _ => h.block k hk⟩
theorem Frm.below {S : Nat → Prop} {w w' : World} (h : Frm S w w') {B : Nat} (hB : B ≤ w.heap.size) (hs : ∀ i, S i → B ≤ i) : Below B w w' :=
  ⟨h.os, h.tape, h.output, h.size, fun k hk => h.block k (Nat.lt_of_lt_of_le hk hB) (fun hsk => by have := hs k hsk; omega)⟩
theorem Frm.of_grown {w w' : World} {row : Option Nat} (h : w.grownBy w' row) : Frm (fun k => some k = row) w w' := ⟨h.os, h.tape, h.output, h.size, fun k hk hn => h.block k hk hn⟩
theorem Frm.of_set (w : World) (p : Addr) (u : Value) : Frm (fun k => k = p.block) w (w.setCell p u) :=
  ⟨rfl, rfl, rfl, by simp [World.setCell], fun k _ hn => Below.heap_setCell w p u k hn⟩
theorem Frm.of_drawn {w w' : World} (h : Drawn0 w w') (S : Nat → Prop) : Frm S w w' := Frm.of_below h.below S
theorem Frm.mono {S S' : Nat → Prop} {w w' : World} (h : Frm S w w') (hs : ∀ k, k < w.heap.size → S k → S' k) : Frm S' w w' :=
  ⟨h.os, h.tape, h.output, h.size, fun k hk hn => h.block k hk (fun hk' => hn (hs k hk hk'))⟩
theorem heap_new (w : World) (o : Obj) : (w.alloc o).heap[w.heap.size]? = some o := by
  show (w.heap.push o)[w.heap.size]? = some o
  simp
theorem heap_newN (w : World) (o : Obj) (n : Nat) : ((w.alloc o).drewN n).heap[w.heap.size]? = some o := heap_new w o
theorem bl_new (w : World) (o : Obj) : Below w.heap.size w (w.alloc o) := (Below.refl _ _).alloc (Nat.le_refl _) _
theorem bl_newN (w : World) (o : Obj) (n : Nat) : Below w.heap.size w ((w.alloc o).drewN n) := pw_below_drewN ((Below.refl _ _).alloc (Nat.le_refl _) _) _

/-! Flat kinds: an element is its cells, whatever the world. -/
def Flat {α : Type} (d : Kd α) : Prop := ∀ (w w' : World) (b b' : Nat) (ok ok' : Nat → Prop) (x : α) (cs : List Value), d.M w b ok x cs → d.M w' b' ok' x cs
theorem flat_int (k : IntKind) : Flat (Kd.int k) := fun _ _ _ _ _ _ _ _ h => h
def flat {α : Type} (enc : α → List Value) (n : Nat) (hn : ∀ x, (enc x).length = n) (h1 : ∀ x, ∀ u ∈ enc x, u.oneCell' = true) : Kd α where
  sz := n
  E := []
  K := fun _ x cs => cs = enc x
  M := fun _ _ _ x cs => cs = enc x
  K_len := fun h => by rw [h]; exact hn _
  K_one := fun h u hu => by rw [h] at hu; exact h1 _ u hu
  K_below := fun _ h => h
  K_of_M := fun h => h
  M_mono := fun _ h => h
  M_bound := fun h => h
  M_move := fun _ h => h
  M_lower := fun _ h => h
/-- A hash: 32 numbers. -/
structure Hsh where
  b : List Int
  len : b.length = 32
deriving DecidableEq
def Hsh.cells (h : Hsh) : List Value := h.b.map (Value.int .u8)
theorem Hsh.cells_len (h : Hsh) : h.cells.length = 32 := by simp [Hsh.cells, h.len]
def kH : Kd Hsh := flat Hsh.cells 32 Hsh.cells_len (fun x u hu => by
  obtain ⟨y, _, rfl⟩ := List.mem_map.1 hu
  rfl)
theorem flat_kH : Flat kH := fun _ _ _ _ _ _ _ _ h => h
/-- A hash as a value. -/
def Hsh.val (h : Hsh) : Value := .agg h.cells.toArray

section
variable {α : Type} {d : Kd α} {e : Nat} {w w1 : World} {base : Nat} {v : Value} {xs : List α}
theorem R_self (hd : Flat d) (h : d.R e w base (fun _ => True) v xs) : d.R e w base (fun k => some k = v.ownBlock) v xs := by
  obtain ⟨_, q⟩ := h
  exact ⟨fun k hk => hk.symm, q.imp_ (fun _ _ hp => hd _ _ _ _ _ _ _ _ hp)⟩
theorem R_frm (hd : Flat d) (h : d.R e w base (fun _ => True) v xs) {S : Nat → Prop} (hf : Frm S w w1) (hS : ∀ k, v.ownBlock = some k → ¬ S k) : d.R e w1 base (fun _ => True) v xs :=
  Kd.R_mono (Kd.R_step (R_self hd h) (fun k hk hkl => hf.block k hkl (hS k hk.symm))) (fun _ _ => trivial)
end

section
variable {P : Program} {ops : Array Oper} {rest : List Oper} {o : Oper} {a : Act} {Q : Exit → Act → World → Prop} {α : Type}
/-- append(v, x), behind 'at_builtin': the row of one's own is longer by p. -/
theorem app_one (d : Kd α) {W : World} (base : Nat) (hgd : o.guard = none) (s x : Operand) (t e : TypeId) (z : Value) (bytes : Nat)
    (ho : o.op = .call { callee := .builtin .append, args := #[s, x], argTypes := #[t, t] })
    (ht : P.underlying t = some (.slice e)) (hinfo : (P.info? e).map (fun i => (i.zero, i.size, i.bytes)) = some (some z, d.sz, bytes)) (hz : z.cells.size = d.sz) (hs0 : 0 < d.sz) (hb0 : 0 < bytes)
    (v : Value) (xs : List α) (p : α) (cs : List Value) (hs : a.eval s = v) (hx : a.eval x = .slice (some ⟨W.heap.size, 0, none⟩) 1 1) (hp : d.M W base (fun _ => False) p cs)
    (HO : d.R e W base (fun _ => True) v xs) (hbase : base ≤ W.heap.size) (hl : (xs.length + 1) * bytes ≤ 140737488355328)
    (h : ∀ A1 c1 w1, d.R e w1 base (fun _ => True) (.slice A1 (xs.length + 1) c1) (xs ++ [p]) → Frm (fun k => some k = v.ownBlock) W w1 →
      ((Value.slice A1 (xs.length + 1) c1).ownBlock = v.ownBlock ∨ ∃ b, (Value.slice A1 (xs.length + 1) c1).ownBlock = some b ∧ W.heap.size ≤ b) → wpList P ops Q rest (a.put o.dst (.slice A1 (xs.length + 1) c1)) w1) :
    wpList P ops Q (o :: rest) a (W.alloc (.cells cs.toArray e)) := by
  refine Kd.R_append d (w0 := W) base hgd s x t e z bytes ho ht hinfo hz hs0 hb0 v xs p cs (fun _ => True) (fun _ => False) hs hx hp (fun _ hk => hk.elim) (fun _ _ => trivial) HO (Below.refl _ _) hbase hl ?_
  intro v1 w1 hr _ hg hat
  obtain ⟨A1, c1, e1⟩ := Kd.R_slice hr
  rw [List.length_append] at e1
  rw [e1] at hr hat ⊢
  exact h A1 c1 w1 hr (Frm.of_grown hg) hat
/-- append(v, ys...) of numbers. -/
theorem app_row (k : IntKind) {W : World} (base : Nat) (hgd : o.guard = none) (s x : Operand) (t e : TypeId) (z : Value) (bytes : Nat)
    (ho : o.op = .call { callee := .builtin .append, args := #[s, x], argTypes := #[t, t] })
    (ht : P.underlying t = some (.slice e)) (hinfo : (P.info? e).map (fun i => (i.zero, i.size, i.bytes)) = some (some z, 1, bytes)) (hz : z.cells.size = 1) (hb0 : 0 < bytes)
    (v : Value) (xs ys : List Int) (A : Option Addr) (m c : Nat) (hs : a.eval s = v) (hx : a.eval x = .slice A m c)
    (HO : (Kd.int k).R e W base (fun _ => True) v xs) (HR : (Kd.int k).C W A m ys) (hbase : base ≤ W.heap.size) (hl : (xs.length + m) * bytes ≤ 140737488355328)
    (h : ∀ A1 c1 w1, (Kd.int k).R e w1 base (fun _ => True) (.slice A1 (xs.length + m) c1) (xs ++ ys) → Frm (fun k => some k = v.ownBlock) W w1 →
      ((Value.slice A1 (xs.length + m) c1).ownBlock = v.ownBlock ∨ ∃ b, (Value.slice A1 (xs.length + m) c1).ownBlock = some b ∧ W.heap.size ≤ b) → wpList P ops Q rest (a.put o.dst (.slice A1 (xs.length + m) c1)) w1) :
    wpList P ops Q (o :: rest) a W := by
  refine Kd.R_append_row (Value.int k) 0 (w0 := W) base hgd s x t e z bytes ho ht hinfo hz hb0 v xs ys A m c (fun _ => True) hs hx (fun _ _ => trivial) HO HR (Below.refl _ _) hbase hl ?_
  intro v1 w1 hr _ hg hat
  obtain ⟨A1, c1, e1⟩ := Kd.R_slice hr
  rw [List.length_append, Kd.C_len HR] at e1
  rw [e1] at hr hat ⊢
  exact h A1 c1 w1 hr (Frm.of_grown hg) hat
/-- append(v, ys...) of elements of a flat kind. -/
theorem app_rows (d : Kd α) (hKM : ∀ (w : World) b ok x cs, d.K w x cs → d.M w b ok x cs) {W : World} (base : Nat) (hgd : o.guard = none) (s x : Operand) (t e : TypeId) (z : Value) (bytes : Nat)
    (ho : o.op = .call { callee := .builtin .append, args := #[s, x], argTypes := #[t, t] })
    (ht : P.underlying t = some (.slice e)) (hinfo : (P.info? e).map (fun i => (i.zero, i.size, i.bytes)) = some (some z, d.sz, bytes)) (hz : z.cells.size = d.sz) (hs0 : 0 < d.sz) (hb0 : 0 < bytes)
    (v : Value) (xs ys : List α) (A : Option Addr) (m c : Nat) (hs : a.eval s = v) (hx : a.eval x = .slice A m c)
    (HO : d.R e W base (fun _ => True) v xs) (HR : d.C W A m ys) (hbase : base ≤ W.heap.size) (hl : (xs.length + m) * bytes ≤ 140737488355328)
    (h : ∀ A1 c1 w1, d.R e w1 base (fun _ => True) (.slice A1 (xs.length + m) c1) (xs ++ ys) → Frm (fun k => some k = v.ownBlock) W w1 →
      ((Value.slice A1 (xs.length + m) c1).ownBlock = v.ownBlock ∨ ∃ b, (Value.slice A1 (xs.length + m) c1).ownBlock = some b ∧ W.heap.size ≤ b) → wpList P ops Q rest (a.put o.dst (.slice A1 (xs.length + m) c1)) w1) :
    wpList P ops Q (o :: rest) a W := by
  refine Kd.R_append_rows d (Rr := d.K W) (w0 := W) base hgd s x t e z bytes ho ht hinfo hz hs0 hb0 v xs ys A m c (fun _ => True) (fun _ => False) hs hx HO HR (fun x cs hk => hKM W base _ x cs hk) (fun _ hk => hk.elim) (fun _ _ => trivial) (Below.refl _ _) hbase hl ?_
  intro v1 w1 hr _ hg hat
  obtain ⟨A1, c1, e1⟩ := Kd.R_slice hr
  rw [List.length_append, Kd.C_len HR] at e1
  rw [e1] at hr hat ⊢
  exact h A1 c1 w1 hr (Frm.of_grown hg) hat
end

theorem bcell {W w1 : World} (hb : Below W.heap.size W w1) : (∀ b o, b < W.heap.size → w1.cell? ⟨b, o, none⟩ = W.cell? ⟨b, o, none⟩) ∧ (∀ b o, b < W.heap.size → w1.frozen? ⟨b, o, none⟩ = W.frozen? ⟨b, o, none⟩) :=
  ⟨fun b o h => hb.cell (p := ⟨b, o, none⟩) h, fun b o h => hb.frozen (p := ⟨b, o, none⟩) h⟩
theorem below_on {B : Nat} {w W w1 : World} (h : Below B w W) (hB : B ≤ W.heap.size) (k : Below W.heap.size W w1) : Below B w w1 := h.trans (k.mono hB)

theorem blt {w W w1 : World} (h : Below w.heap.size w W) (k : Below W.heap.size W w1) : Below w.heap.size w w1 := h.trans (k.mono h.size)
theorem keep3 {W w' : World} {b : Nat} {v0 v1 v2 : Value} (h0 : W.cell? ⟨b, 0, none⟩ = some v0) (h1 : W.cell? ⟨b, 1, none⟩ = some v1) (h2 : W.cell? ⟨b, 2, none⟩ = some v2) (hz : b < W.heap.size) (hb : Below W.heap.size W w') :
    w'.cell? ⟨b, 0, none⟩ = some v0 ∧ w'.cell? ⟨b, 1, none⟩ = some v1 ∧ w'.cell? ⟨b, 2, none⟩ = some v2 :=
  ⟨((bcell hb).1 b 0 hz).trans h0, ((bcell hb).1 b 1 hz).trans h1, ((bcell hb).1 b 2 hz).trans h2⟩
/-- A slice value that reads as these numbers (of one kind). -/
def Rd (k : IntKind) (w : World) (v : Value) (xs : List Int) : Prop := ∃ A c, v = .slice A xs.length c ∧ xs.length ≤ c ∧ (Kd.int k).C w A xs.length xs
theorem Rd.below {k : IntKind} {w w1 : World} {v : Value} {xs : List Int} (h : Rd k w v xs) (hb : Below w.heap.size w w1) : Rd k w1 v xs := by
  obtain ⟨A, c, e, hl, hc⟩ := h
  exact ⟨A, c, e, hl, Kd.C_below hc hb⟩
theorem Rd.alloc {k : IntKind} {w : World} {v : Value} {xs : List Int} (h : Rd k w v xs) (o : Obj) : Rd k (w.alloc o) v xs := h.below (bl_new w o)
theorem Rd.drewN {k : IntKind} {w : World} {v : Value} {xs : List Int} (h : Rd k w v xs) (n : Nat) : Rd k (w.drewN n) v xs := h.below (pw_below_drewN (Below.refl _ _) n)
theorem Rd.drew {k : IntKind} {w : World} {v : Value} {xs : List Int} (h : Rd k w v xs) : Rd k w.drew v xs := h.below (below_drew (Below.refl _ _))
theorem Rd.of_R {k : IntKind} {e base : Nat} {w : World} {v : Value} {xs : List Int} (h : (Kd.int k).R e w base (fun _ => True) v xs) : Rd k w v xs := by
  obtain ⟨A, c, e1, hl, hc⟩ := Kd.R_reads h
  exact ⟨A, c, e1, hl, hc⟩
theorem C_int_block (k : IntKind) {w : World} {b : Nat} {cs : Array Value} {t : TypeId} {fz : Nat × Nat} {xs : List Int} (h : w.heap[b]? = some (.cells cs t fz)) (hm : xs.length ≤ 9223372036854775807) (hc : ∀ (j : Nat) (x : Int), xs[j]? = some x → cs[j]? = some (.int k x)) :
    (Kd.int k).C w (some ⟨b, 0, none⟩) xs.length xs := by
  refine ⟨rfl, hm, fun _ => ⟨_, rfl, fun j x hj => ⟨[.int k x], rfl, rfl, fun i u hi => ?_⟩⟩⟩
  cases i with
  | zero =>
    simp at hi
    subst hi
    rw [show j * (Kd.int k).sz + 0 = j from Nat.mul_one j, add_plain]
    show (match w.heap[b]? with | some (.cells c _ _) => if (none : Option Nat).isSome then none else c[j]? | _ => none) = _
    rw [h]
    exact hc j x hj
  | succ i => simp at hi
theorem Rd.one (k : IntKind) (w : World) (x : Int) (e : Nat) {b : Nat} (hb : b = w.heap.size) : Rd k (w.alloc (.cells #[.int k x] e)) (.slice (some ⟨b, 0, none⟩) 1 1) [x] := by
  subst hb
  refine ⟨some ⟨w.heap.size, 0, none⟩, 1, rfl, by simp, C_int_block k (heap_new w _) (by simp) (fun j y hj => ?_)⟩
  cases j with
  | zero => simp at hj; subst hj; rfl
  | succ j => simp at hj
/-- A block of slices that read as rows. -/
theorem C_rows (k : IntKind) (e : Nat) {w : World} {b : Nat} {cs : Array Value} {t : TypeId} {fz : Nat × Nat} {xs : List (List Int)} (h : w.heap[b]? = some (.cells cs t fz)) (hm : xs.length ≤ 9223372036854775807) (hc : ∀ (j : Nat) (x : List Int), xs[j]? = some x → ∃ v, cs[j]? = some v ∧ Rd k w v x) :
    Kd.C (Kd.slice e (Kd.int k)) w (some ⟨b, 0, none⟩) xs.length xs := by
  refine ⟨rfl, hm, fun _ => ⟨_, rfl, fun j x hj => ?_⟩⟩
  obtain ⟨v, hv, A, c, rfl, hl, hr⟩ := hc j x hj
  refine ⟨[_], rfl, ⟨A, c, rfl, hl, hr⟩, fun i u hi => ?_⟩
  cases i with
  | zero =>
    simp at hi
    subst hi
    rw [show j * (Kd.slice e (Kd.int k)).sz + 0 = j from Nat.mul_one j, add_plain]
    show (match w.heap[b]? with | some (.cells c _ _) => if (none : Option Nat).isSome then none else c[j]? | _ => none) = _
    rw [h]
    exact hv
  | succ i => simp at hi
theorem C_rows4 (k : IntKind) (e : Nat) (w : World) (v0 v1 v2 v3 : Value) (t : TypeId) (x0 x1 x2 x3 : List Int) (h0 : Rd k w v0 x0) (h1 : Rd k w v1 x1) (h2 : Rd k w v2 x2) (h3 : Rd k w v3 x3) {b : Nat} (hb : b = w.heap.size) :
    Kd.C (Kd.slice e (Kd.int k)) (w.alloc (.cells #[v0, v1, v2, v3] t)) (some ⟨b, 0, none⟩) 4 [x0, x1, x2, x3] := by
  subst hb
  refine C_rows k e (heap_new w _) (by simp) (fun j x hj => ?_)
  match j, hj with
  | 0, hj => exact ⟨v0, rfl, by simp at hj; subst hj; exact h0.alloc _⟩
  | 1, hj => exact ⟨v1, rfl, by simp at hj; subst hj; exact h1.alloc _⟩
  | 2, hj => exact ⟨v2, rfl, by simp at hj; subst hj; exact h2.alloc _⟩
  | 3, hj => exact ⟨v3, rfl, by simp at hj; subst hj; exact h3.alloc _⟩
  | j + 4, hj => simp at hj
theorem C_rows3 (k : IntKind) (e : Nat) (w : World) (v0 v1 v2 : Value) (t : TypeId) (x0 x1 x2 : List Int) (h0 : Rd k w v0 x0) (h1 : Rd k w v1 x1) (h2 : Rd k w v2 x2) {b : Nat} (hb : b = w.heap.size) :
    Kd.C (Kd.slice e (Kd.int k)) (w.alloc (.cells #[v0, v1, v2] t)) (some ⟨b, 0, none⟩) 3 [x0, x1, x2] := by
  subst hb
  refine C_rows k e (heap_new w _) (by simp) (fun j x hj => ?_)
  match j, hj with
  | 0, hj => exact ⟨v0, rfl, by simp at hj; subst hj; exact h0.alloc _⟩
  | 1, hj => exact ⟨v1, rfl, by simp at hj; subst hj; exact h1.alloc _⟩
  | 2, hj => exact ⟨v2, rfl, by simp at hj; subst hj; exact h2.alloc _⟩
  | j + 3, hj => simp at hj
end Go.Proofs.Ytagcabmccpekaaa.M

namespace Go.Proofs.Ytagcabmccpekaaa.M
open Go.ChangeShapes Go.WideShapes Go.ChangeAt Go.RowKit

theorem post_of_below {H : Type} {enc : TypeId × Value → H} {P : Program} {f : Func} {s : ChangeSpec} {apart fresh handsOn again : Bool} {W W' : World} {args : Array Value} {v : Value} {ds gs : List (DataW H)} {before pa pv : List MemPlace}
    (hW : DataW.Whole enc P f.params.toList s.vars apart W args.toList ds gs before)
    (hres : ∀ (b : Nat) (sp : Nat → Bool) (hd : Bool), DataW.TrodAll enc P W' b sp hd f.resultTypes.toList (v.resultList f.resultTypes.size) (s.fn H (ds ++ gs)).results [])
    (hargs : ∀ sp : Nat → Bool, (∀ p ∈ before, sp p.block = true) → DataW.TrodAll enc P W' 0 sp true f.params.toList args.toList (s.fn H (ds ++ gs)).args pa)
    (hvars : ∀ sp : Nat → Bool, (∀ p ∈ before, sp p.block = true) → DataW.TrodVars enc P W' sp s.vars (s.fn H (ds ++ gs)).vars pv)
    (hps : before = pa ++ pv) (hb : Below W.heap.size W W')
    (hok : ∀ (j : Nat) (t : TypeId) (r : Value), f.resultTypes[j]? = some t → (v.resultList f.resultTypes.size)[j]? = some r → Value.okWide P W' .any 0 t r) :
    s.post enc P f apart fresh handsOn again W args v W' := by
  have hold : ∀ p ∈ before, (fun b => decide (b < W.heap.size)) p.block = true := fun p hp => by simpa using hW.lt p hp
  have hlt := hW.lt
  refine ⟨ds, gs, before, [], pa, pv, hW, hres _ _ _, hargs _ hold, hvars _ hold, World.keptBut_mono (fun p hp => ⟨hp, ?_⟩) (hb.frame (· ∈ before)), fun _ => ?_⟩
  · rw [hps, List.mem_append] at hp
    exact Or.inr hp
  · obtain ⟨_, _, _, _, _, hz, hn⟩ := hW
    refine ⟨hok, _, _, ([] ++ pa) ++ pv, ⟨[] ++ pa, pv, trodAll_append (hargs _ (fun _ _ => rfl)) (hres _ _ _), hvars _ (fun _ _ => rfl), rfl, ?_, ?_⟩, ?_⟩
    · intro b off hp
      have hm : MemPlace.cell b off ∈ before := by rw [hps]; simpa using hp
      rw [hb.frozen (p := ⟨b, off, none⟩) (hlt _ hm)]
      exact hz b off hm
    · intro ha
      have := hn ha
      rw [hps] at this
      simpa using this
    · intro p hp _
      rw [hps]
      simpa using hp
end Go.Proofs.Ytagcabmccpekaaa.M

namespace Go.Proofs.Ytagcabmccpekaaa.M
open Go.ChangeShapes Go.WideShapes Go.ChangeAt Go.RowKit Go.Proofs.YtagcabmccpekaaaW.PrintWords Go.Proofs.YtagcabmccpekaaaW.PrintLast Go.Proofs.YtagcabmccpekaaaW.PrintMore

theorem open_row {H : Type} {enc : TypeId × Value → H} {P : Program} {W : World} {t e : TypeId} {k : IntKind} {v : Value} {d : DataW H} {ps : List MemPlace} (ht : P.underlying t = some (.slice e)) (he : P.underlying e = some (.int k)) (hc : P.cellsOf e = 1)
    (hval : Value.okWide P W .any 0 t v) (hd : DataW.Trod enc P W 0 (fun _ => true) true t v d ps) :
    ∃ (A : Option Addr) (cap : Nat) (xs : List Int), v = .slice A xs.length cap ∧ xs.length ≤ cap ∧ cap ≤ 9223372036854775807 ∧ Kd.C (Kd.int k) W A xs.length xs ∧ (∀ x ∈ xs, (Lit.int k x).wf = true) ∧
      ∀ W', Below W.heap.size W W' → ∀ sp : Nat → Bool, (∀ p ∈ ps, sp p.block = true) → DataW.Trod enc P W' 0 sp true t v d ps := by
  obtain ⟨a0, len0, cap0, rfl⟩ := okWide_slice ht hval
  obtain ⟨fuel, hf⟩ := hd
  rcases open_ints ht he hc hf with ⟨hcs, hx⟩ | ⟨a, len, cap, zs, hcs, _, hle, hmax, hall, hx, hcell, hwf⟩
  · simp [Value.cells] at hcs
    obtain ⟨rfl, rfl, rfl⟩ := hcs
    simp only [Prod.mk.injEq] at hx
    obtain ⟨rfl, rfl⟩ := hx
    refine ⟨none, 0, [], rfl, Nat.le_refl _, by omega, ⟨rfl, by simp, fun h => absurd h (by simp)⟩, fun x hx => by simp at hx, fun W' _ sp _ => ⟨1, ?_⟩⟩
    simp [DataW.trod, ht, Value.cells]
  · simp [Value.cells] at hcs
    obtain ⟨rfl, rfl, rfl⟩ := hcs
    simp only [Prod.mk.injEq] at hx
    obtain ⟨rfl, rfl⟩ := hx
    simp only [if_true] at hall
    have hmax2 : cap0 ≤ 9223372036854775807 := hmax
    have hlen : (zs.take len0).length = len0 := by rw [List.length_take]; omega
    refine ⟨some a, cap0, zs.take len0, by rw [hlen], by omega, hmax2, ⟨rfl, by omega, fun _ => ⟨a, rfl, fun j x hj => ⟨[.int k x], rfl, rfl, fun i u hi => ?_⟩⟩⟩, fun x hx => hwf x (List.mem_of_mem_take hx), fun W' hb sp hsp => ?_⟩
    · cases i with
      | succ i => simp at hi
      | zero =>
        simp at hi
        subst hi
        rw [Nat.add_zero]
        rw [List.getElem?_take] at hj
        split at hj
        · next hjl =>
          have hjz : j < zs.length := by omega
          have := hcell j hjz
          rw [show (Kd.int k).sz = 1 from rfl, Nat.mul_one, this]
          rw [List.getD_eq_getElem?_getD, hj]
          rfl
        · simp at hj
    · refine ⟨2, shut_ints 0 ht he hc (Nat.zero_le _) hle hmax ?_ (fun i hi => ?_) hwf⟩
      · by_cases h0 : zs.length = 0
        · split <;> omega
        · rw [if_pos, hall]
          have := hsp (.cell a.block (a.off + 0)) (List.mem_map.2 ⟨0, List.mem_range.2 (by omega), rfl⟩)
          exact this
      · have h1 := hcell i hi
        have hlt : (a.add i).block < W.heap.size := by
          refine Decidable.by_contra (fun hn => ?_)
          have hnone : W.heap[(a.add i).block]? = none := Array.getElem?_eq_none (by omega)
          simp [World.cell?, hnone] at h1
        rw [World.cell?_of_block (hb.block _ hlt)]
        exact h1
end Go.Proofs.Ytagcabmccpekaaa.M

namespace Go.Proofs.Ytagcabmccpekaaa.M

theorem pop_le : ∀ (f x : Nat), Lib.popAux f x ≤ x
  | 0, _ => Nat.zero_le _
  | f + 1, x => by
    have := pop_le f (x / 2)
    simp only [Lib.popAux]
    omega
theorem pop_lef : ∀ (f x : Nat), Lib.popAux f x ≤ f
  | 0, _ => Nat.zero_le _
  | f + 1, x => by
    have := pop_lef f (x / 2)
    simp only [Lib.popAux]
    omega
theorem pop_zero : ∀ f, Lib.popAux f 0 = 0
  | 0 => rfl
  | f + 1 => by simp only [Lib.popAux]; rw [pop_zero f]
theorem pop_fuel : ∀ (f x g : Nat), x < 2 ^ f → f ≤ g → Lib.popAux g x = Lib.popAux f x
  | 0, x, g, hx, _ => by
    have : x = 0 := by simpa using hx
    subst this
    rw [pop_zero, pop_zero]
  | f + 1, x, g, hx, hg => by
    obtain ⟨g, rfl⟩ : ∃ g', g = g' + 1 := ⟨g - 1, by omega⟩
    simp only [Lib.popAux]
    rw [pop_fuel f (x / 2) g (by rw [Nat.pow_succ] at hx; omega) (by omega)]
theorem pop_top : ∀ (g x : Nat), x < 2 ^ g → Lib.popAux (g + 1) (2 ^ g + x) = 1 + Lib.popAux g x
  | 0, x, hx => by
    have : x = 0 := by simpa using hx
    subst this
    rfl
  | g + 1, x, hx => by
    have h2 : 2 ^ (g + 1) = 2 * 2 ^ g := by rw [Nat.pow_succ]; omega
    have ih := pop_top g (x / 2) (by omega)
    rw [show Lib.popAux (g + 1 + 1) (2 ^ (g + 1) + x) = (2 ^ (g + 1) + x) % 2 + Lib.popAux (g + 1) ((2 ^ (g + 1) + x) / 2) from rfl, show (2 ^ (g + 1) + x) / 2 = 2 ^ g + x / 2 by omega, ih, show Lib.popAux (g + 1) x = x % 2 + Lib.popAux g (x / 2) from rfl]
    omega

/-- How many nodes n leaves have. -/
def nodesN (n : Nat) : Nat := 2 * n - Lib.popAux 64 n
theorem nodes_top (g x : Nat) (hg : g ≤ 63) (hx : x < 2 ^ g) : nodesN (2 ^ g + x) = 2 ^ (g + 1) - 1 + nodesN x := by
  unfold nodesN
  have h2 : 2 ^ (g + 1) = 2 * 2 ^ g := by rw [Nat.pow_succ]; omega
  rw [pop_fuel (g + 1) (2 ^ g + x) 64 (by omega) (by omega), pop_top g x hx, pop_fuel g x 64 hx (by omega)]
  have := pop_le g x
  have : 0 < 2 ^ g := Nat.pow_pos (by omega)
  omega
theorem nodes_ones : ∀ (g : Nat), g ≤ 63 → nodesN (2 ^ g - 1) = 2 ^ (g + 1) - 2 - g
  | 0, _ => by rfl
  | g + 1, hg => by
    have ih := nodes_ones g (by omega)
    have h2 : 2 ^ (g + 1) = 2 * 2 ^ g := by rw [Nat.pow_succ]; omega
    have h3 : 2 ^ (g + 1 + 1) = 2 * 2 ^ (g + 1) := by rw [Nat.pow_succ]; omega
    have hp : 0 < 2 ^ g := Nat.pow_pos (by omega)
    have hl : g < 2 ^ g := Nat.lt_two_pow_self
    rw [show 2 ^ (g + 1) - 1 = 2 ^ g + (2 ^ g - 1) by omega, nodes_top g _ (by omega) (by omega), ih]
    omega
theorem nodes_lt (g x : Nat) (hg : g ≤ 63) (hx : x < 2 ^ g) : nodesN x + g ≤ 2 ^ (g + 1) - 2 := by
  induction g generalizing x with
  | zero =>
    have : x = 0 := by simpa using hx
    subst this
    decide
  | succ g ih =>
    have h2 : 2 ^ (g + 1) = 2 * 2 ^ g := by rw [Nat.pow_succ]; omega
    have h3 : 2 ^ (g + 1 + 1) = 2 * 2 ^ (g + 1) := by rw [Nat.pow_succ]; omega
    have hp : 0 < 2 ^ g := Nat.pow_pos (by omega)
    by_cases hb : x < 2 ^ g
    · have := ih x (by omega) hb
      omega
    · have := ih (x - 2 ^ g) (by omega) (by omega)
      rw [show x = 2 ^ g + (x - 2 ^ g) by omega, nodes_top g _ (by omega) (by omega)]
      omega
theorem nodes_half (x : Nat) (hx : x < 2 ^ 64) : nodesN x = x + nodesN (x / 2) := by
  unfold nodesN
  rw [show Lib.popAux 64 x = x % 2 + Lib.popAux 63 (x / 2) from rfl, pop_fuel 63 (x / 2) 64 (by omega) (by omega)]
  have := pop_le 63 (x / 2)
  omega
theorem nodes_zero : nodesN 0 = 0 := by decide
theorem nodes_le (x : Nat) : nodesN x ≤ 2 * x := by unfold nodesN; omega

/-- The greatest n of which not more than p nodes come, by g bits. -/
def lastF : Nat → Nat → Nat
  | 0, _ => 0
  | g + 1, p => if 2 ^ (g + 1) - 1 ≤ p then 2 ^ g + lastF g (p - (2 ^ (g + 1) - 1)) else lastF g p
theorem lastF_nodes (h : Nat) : ∀ (g x : Nat), g ≤ 63 → x < 2 ^ g → (∀ b, b < h → b < g → x.testBit b = true) → lastF g (nodesN x + h) = x
  | 0, x, _, hx, _ => by
    have : x = 0 := by simpa using hx
    subst this
    rfl
  | g + 1, x, hg, hx, hb => by
    have h2 : 2 ^ (g + 1) = 2 * 2 ^ g := by rw [Nat.pow_succ]; omega
    have hp : 0 < 2 ^ g := Nat.pow_pos (by omega)
    simp only [lastF]
    by_cases hs : x < 2 ^ g
    · have hn : ¬ g < h := by
        intro hgh
        have := hb g hgh (by omega)
        rw [Nat.testBit_lt_two_pow hs] at this
        exact absurd this (by simp)
      have := nodes_lt g x (by omega) hs
      rw [if_neg (by omega)]
      exact lastF_nodes h g x (by omega) hs (fun b h1 h2 => hb b h1 (by omega))
    · obtain ⟨y, rfl⟩ : ∃ y, x = 2 ^ g + y := ⟨x - 2 ^ g, by omega⟩
      rw [nodes_top g y (by omega) (by omega), if_pos (by omega), show 2 ^ (g + 1) - 1 + nodesN y + h - (2 ^ (g + 1) - 1) = nodesN y + h by omega]
      rw [lastF_nodes h g y (by omega) (by omega) (fun b h1 h2 => by
        have := hb b h1 (by omega)
        rwa [Nat.testBit_two_pow_add_gt h2] at this)]

/-- The place of a spot. -/
def placeN (h i : Nat) : Nat := nodesN ((i + 1) * 2 ^ h - 1) + h
theorem bits_low (h i b : Nat) (hb : b < h) : ((i + 1) * 2 ^ h - 1).testBit b = true := by
  have hp : 0 < 2 ^ h := Nat.pow_pos (by omega)
  rw [show (i + 1) * 2 ^ h - 1 = 2 ^ h * i + (2 ^ h - 1) by rw [Nat.add_mul, Nat.mul_comm i]; omega, Nat.testBit_two_pow_mul_add i (by omega), if_pos hb, Nat.testBit_two_pow_sub_one]
  simp [hb]
theorem last_place (h i : Nat) (hi : (i + 1) * 2 ^ h ≤ 2 ^ 62) : lastF 63 (placeN h i) = (i + 1) * 2 ^ h - 1 := by
  unfold placeN
  exact lastF_nodes h 63 _ (by omega) (by omega) (fun b hb _ => bits_low h i b hb)
theorem place_sub (h i : Nat) : placeN h i - nodesN ((i + 1) * 2 ^ h - 1) = h := by unfold placeN; omega
theorem height_le (h i : Nat) (hi : (i + 1) * 2 ^ h ≤ 2 ^ 62) : h ≤ 62 := by
  have h1 : 2 ^ h ≤ (i + 1) * 2 ^ h := Nat.le_mul_of_pos_left _ (by omega)
  exact (Nat.pow_le_pow_iff_right (by omega : 1 < 2)).1 (Nat.le_trans h1 hi)
theorem place_lt (h i : Nat) (hi : (i + 1) * 2 ^ h ≤ 2 ^ 62) : placeN h i ≤ 2 ^ 63 - 2 := by
  have hp : 0 < 2 ^ h := Nat.pow_pos (by omega)
  have := height_le h i hi
  have := nodes_lt 62 ((i + 1) * 2 ^ h - 1) (by omega) (by omega)
  unfold placeN
  omega

/-- The peaks' spots of n leaves, of the heights below g, from the highest on. -/
def topsF : Nat → Nat → List (Nat × Nat)
  | 0, _ => []
  | g + 1, n => (if n.testBit g then [(g, n / 2 ^ g - 1)] else []) ++ topsF g n
def topsN (n : Nat) : List (Nat × Nat) := topsF 63 n
theorem topsF_len : ∀ g n, (topsF g n).length ≤ g
  | 0, _ => Nat.le_refl _
  | g + 1, n => by
    have := topsF_len g n
    simp only [topsF, List.length_append]
    split <;> simp <;> omega
theorem tops_fit : ∀ (g n : Nat) (s : Nat × Nat), s ∈ topsF g n → s.1 < g ∧ (s.2 + 1) * 2 ^ s.1 ≤ n
  | 0, _, s, hs => by simp [topsF] at hs
  | g + 1, n, s, hs => by
    simp only [topsF, List.mem_append] at hs
    rcases hs with hs | hs
    · split at hs
      · next hb =>
        simp at hs
        subst hs
        have hp : 0 < 2 ^ g := Nat.pow_pos (by omega)
        have h1 : 2 ^ g ≤ n := Nat.ge_two_pow_of_testBit hb
        have h2 : 1 ≤ n / 2 ^ g := (Nat.one_le_div_iff hp).2 h1
        refine ⟨by simp, ?_⟩
        show (n / 2 ^ g - 1 + 1) * 2 ^ g ≤ n
        rw [Nat.sub_add_cancel h2]
        exact Nat.div_mul_le_self n (2 ^ g)
      · simp at hs
    · have := tops_fit g n s hs
      exact ⟨by omega, this.2⟩

/-- The spots at or under (h, i) that the span f, .., t - 1 needs, from the left. -/
def spots (f t : Nat) : Nat → Nat → List (Nat × Nat)
  | 0, i => if t ≤ f ∨ i + 1 ≤ f ∨ t ≤ i then [(0, i)] else []
  | h + 1, i => if t ≤ f ∨ (i + 1) * 2 ^ (h + 1) ≤ f ∨ t ≤ i * 2 ^ (h + 1) then [(h + 1, i)] else
      if f ≤ i * 2 ^ (h + 1) ∧ (i + 1) * 2 ^ (h + 1) ≤ t then [] else spots f t h (2 * i) ++ spots f t h (2 * i + 1)
theorem kid_left (h i : Nat) : (2 * i) * 2 ^ h = i * 2 ^ (h + 1) := by rw [Nat.pow_succ, Nat.mul_comm 2 i, Nat.mul_assoc, Nat.mul_comm 2]
theorem kid_mid (h i : Nat) : (2 * i + 1) * 2 ^ h = i * 2 ^ (h + 1) + 2 ^ h := by rw [Nat.add_mul, kid_left, Nat.one_mul]
theorem kid_right (h i : Nat) : (2 * i + 1 + 1) * 2 ^ h = (i + 1) * 2 ^ (h + 1) := by rw [show 2 * i + 1 + 1 = 2 * (i + 1) by omega, kid_left]
theorem spots_left (f t : Nat) : ∀ (h i : Nat), f ≤ i * 2 ^ h → (spots f t h i).length ≤ h + 1
  | 0, i, _ => by simp only [spots]; split <;> simp
  | h + 1, i, hf => by
    simp only [spots]
    split
    · simp
    · next c =>
      split
      · simp
      · next c2 =>
        have hk := kid_mid h i
        have h1 := spots_left f t h (2 * i) (by rw [kid_left]; exact hf)
        have hp : 0 < 2 ^ h := Nat.pow_pos (by omega)
        have h2 := spots_left f t h (2 * i + 1) (by rw [hk]; omega)
        rw [List.length_append]
        by_cases hm : t ≤ i * 2 ^ (h + 1) + 2 ^ h
        · have : (spots f t h (2 * i + 1)).length = 1 := by
            cases h <;> simp only [spots] <;> rw [if_pos (by first | (right; right; simp at hm ⊢; omega) | (right; right; rw [hk]; exact hm))] <;> rfl
          omega
        · have : (spots f t h (2 * i)).length = 0 := by
            have h3 : (2 * i + 1) * 2 ^ h = i * 2 ^ (h + 1) + 2 ^ h := hk
            have h4 : (2 * i) * 2 ^ h = i * 2 ^ (h + 1) := kid_left h i
            have hp : 0 < 2 ^ h := Nat.pow_pos (by omega)
            cases h with
            | zero => simp only [spots]; rw [if_neg (by simp at hm h4 hf; omega)]; rfl
            | succ h => simp only [spots]; rw [if_neg (by omega), if_pos (by omega)]; rfl
          omega
theorem spots_right (f t : Nat) : ∀ (h i : Nat), (i + 1) * 2 ^ h ≤ t → (spots f t h i).length ≤ h + 1
  | 0, i, _ => by simp only [spots]; split <;> simp
  | h + 1, i, hf => by
    simp only [spots]
    split
    · simp
    · next c =>
      split
      · simp
      · next c2 =>
        have hk := kid_mid h i
        have hr := kid_right h i
        have h1 := spots_right f t h (2 * i) (Nat.le_trans (Nat.mul_le_mul_right (2 ^ h) (by omega : 2 * i + 1 ≤ 2 * i + 1 + 1)) (by rw [hr]; exact hf))
        have h2 := spots_right f t h (2 * i + 1) (by rw [hr]; exact hf)
        rw [List.length_append]
        by_cases hm : i * 2 ^ (h + 1) + 2 ^ h ≤ f
        · have : (spots f t h (2 * i)).length = 1 := by
            cases h <;> simp only [spots] <;> rw [if_pos (by first | (right; left; simp at hm ⊢; omega) | (right; left; rw [hk]; exact hm))] <;> rfl
          omega
        · have : (spots f t h (2 * i + 1)).length = 0 := by
            have hx : (2 * i + 1 + 1) * 2 ^ h = (2 * i + 1) * 2 ^ h + 2 ^ h := by rw [Nat.add_mul (2 * i + 1), Nat.one_mul]
            have hp : 0 < 2 ^ h := Nat.pow_pos (by omega)
            cases h with
            | zero => simp only [spots]; rw [if_neg (by simp at hm hr hf; omega)]; rfl
            | succ h => simp only [spots]; rw [if_neg (by omega), if_pos (by omega)]; rfl
          omega
theorem spots_len (f t : Nat) : ∀ (h i : Nat), (spots f t h i).length ≤ 2 * h + 1
  | 0, i => by simp only [spots]; split <;> simp
  | h + 1, i => by
    simp only [spots]
    split
    · simp
    · split
      · simp
      · have hk := kid_mid h i
        have h0 := spots_len f t h (2 * i)
        have h1 := spots_len f t h (2 * i + 1)
        rw [List.length_append]
        by_cases hm : i * 2 ^ (h + 1) + 2 ^ h ≤ f
        · have : (spots f t h (2 * i)).length = 1 := by
            cases h <;> simp only [spots] <;> rw [if_pos (by first | (right; left; simp at hm ⊢; omega) | (right; left; rw [hk]; exact hm))] <;> rfl
          omega
        · by_cases hm2 : t ≤ i * 2 ^ (h + 1) + 2 ^ h
          · have : (spots f t h (2 * i + 1)).length = 1 := by
              cases h <;> simp only [spots] <;> rw [if_pos (by first | (right; right; simp at hm2 ⊢; omega) | (right; right; rw [hk]; exact hm2))] <;> rfl
            omega
          · have h2 := spots_right f t h (2 * i) (by rw [hk]; omega)
            have h3 := spots_left f t h (2 * i + 1) (by rw [hk]; omega)
            omega
theorem spots_fit (f t : Nat) : ∀ (h i : Nat) (s : Nat × Nat), s ∈ spots f t h i → s.1 ≤ h ∧ (s.2 + 1) * 2 ^ s.1 ≤ (i + 1) * 2 ^ h
  | 0, i, s, hs => by
    simp only [spots] at hs
    split at hs
    · simp at hs
      subst hs
      simp
    · simp at hs
  | h + 1, i, s, hs => by
    simp only [spots] at hs
    split at hs
    · simp at hs
      subst hs
      simp
    · split at hs
      · simp at hs
      · rcases List.mem_append.1 hs with hs | hs
        · have := spots_fit f t h (2 * i) s hs
          have hr := kid_right h i
          have : (2 * i + 1) * 2 ^ h ≤ (2 * i + 1 + 1) * 2 ^ h := Nat.mul_le_mul_right _ (by omega)
          exact ⟨by omega, by omega⟩
        · have := spots_fit f t h (2 * i + 1) s hs
          have hr := kid_right h i
          exact ⟨by omega, by omega⟩

/-- What the span f, .., t - 1 of n leaves needs. -/
def spanSpots (f t n : Nat) : List (Nat × Nat) := (topsN n).flatMap fun s => spots f t s.1 s.2
def spanPlaces (f t n : Nat) : List Nat := (spanSpots f t n).map fun s => placeN s.1 s.2
end Go.Proofs.Ytagcabmccpekaaa.M

namespace Go.Proofs.Ytagcabmccpekaaa.M

/-! Splitting the peaks. -/
theorem pop_snoc : ∀ (d y : Nat), Lib.popAux (d + 1) y = Lib.popAux d y + y / 2 ^ d % 2
  | 0, y => by simp [Lib.popAux]
  | d + 1, y => by
    have ih := pop_snoc d (y / 2)
    rw [show Lib.popAux (d + 1 + 1) y = y % 2 + Lib.popAux (d + 1) (y / 2) from rfl, ih, show Lib.popAux (d + 1) y = y % 2 + Lib.popAux d (y / 2) from rfl, Nat.div_div_eq_div_mul, show 2 * 2 ^ d = 2 ^ (d + 1) by rw [Nat.pow_succ]; omega]
    omega
theorem bit_mod (n g : Nat) : n.testBit g = true ↔ n / 2 ^ g % 2 = 1 := by rw [Nat.testBit_eq_decide_div_mod_eq]; simp
theorem tops_split (g n : Nat) : ∀ d, ∃ T, topsF (g + d) n = T ++ topsF g n ∧ T.length = Lib.popAux d (n / 2 ^ g) ∧ ∀ s ∈ T, g ≤ s.1
  | 0 => ⟨[], rfl, rfl, fun s hs => by simp at hs⟩
  | d + 1 => by
    obtain ⟨T, h1, h2, h3⟩ := tops_split g n d
    refine ⟨(if n.testBit (g + d) then [(g + d, n / 2 ^ (g + d) - 1)] else []) ++ T, ?_, ?_, ?_⟩
    · rw [show g + (d + 1) = g + d + 1 by omega]
      simp only [topsF]
      rw [h1, List.append_assoc]
    · rw [List.length_append, h2, pop_snoc, Nat.div_div_eq_div_mul, ← Nat.pow_add]
      have hb := bit_mod n (g + d)
      split
      · next hc => rw [hb.1 hc]; simp; omega
      · next hc =>
        have : ¬ n / 2 ^ (g + d) % 2 = 1 := fun h => hc (hb.2 h)
        rw [show n / 2 ^ (g + d) % 2 = 0 by omega]; simp
    · intro s hs
      rcases List.mem_append.1 hs with hs | hs
      · split at hs
        · simp at hs; subst hs; simp
        · simp at hs
      · exact h3 s hs
theorem tops_mem : ∀ (g n : Nat) (s : Nat × Nat), s ∈ topsF g n → s.1 < g ∧ n.testBit s.1 = true ∧ s.2 = n / 2 ^ s.1 - 1
  | 0, _, s, hs => by simp [topsF] at hs
  | g + 1, n, s, hs => by
    simp only [topsF, List.mem_append] at hs
    rcases hs with hs | hs
    · split at hs
      · next hb => simp at hs; subst hs; exact ⟨by simp, hb, rfl⟩
      · simp at hs
    · have := tops_mem g n s hs
      exact ⟨by omega, this.2⟩
theorem tops_down : ∀ (g n : Nat), (topsF g n).Pairwise (fun a b => b.1 < a.1)
  | 0, _ => by simp [topsF]
  | g + 1, n => by
    simp only [topsF, List.pairwise_append]
    refine ⟨by split <;> simp, tops_down g n, ?_⟩
    intro a ha b hb
    have := (tops_mem g n b hb).1
    split at ha
    · simp at ha; subst ha; exact this
    · simp at ha
/-- How many leaves a list of spots has. -/
def leavesN (l : List (Nat × Nat)) : Nat := (l.map fun s => 2 ^ s.1).sum
theorem leaves_app (a b : List (Nat × Nat)) : leavesN (a ++ b) = leavesN a + leavesN b := by simp [leavesN]
theorem leaves_cons (s : Nat × Nat) (b : List (Nat × Nat)) : leavesN (s :: b) = 2 ^ s.1 + leavesN b := by simp [leavesN]
theorem tops_sum : ∀ (g n : Nat), leavesN (topsF g n) = n % 2 ^ g
  | 0, n => by simp [topsF, leavesN, Nat.mod_one]
  | g + 1, n => by
    have ih := tops_sum g n
    have hb := bit_mod n g
    have hm : n % 2 ^ (g + 1) = n % 2 ^ g + 2 ^ g * (n / 2 ^ g % 2) := by rw [Nat.pow_succ, Nat.mod_mul]
    simp only [topsF]
    rw [leaves_app, ih, hm]
    split
    · next hc => rw [hb.1 hc]; simp [leavesN]; omega
    · next hc =>
      have : ¬ n / 2 ^ g % 2 = 1 := fun h => hc (hb.2 h)
      rw [show n / 2 ^ g % 2 = 0 by omega]; simp [leavesN]

/-! Two numbers that part at bit k. -/
def Lv (x y k : Nat) : Prop := x / 2 ^ k ≠ y / 2 ^ k ∧ x / 2 ^ (k + 1) = y / 2 ^ (k + 1)
theorem div_up (x : Nat) {k m : Nat} (h : k ≤ m) : x / 2 ^ m = x / 2 ^ k / 2 ^ (m - k) := by
  rw [Nat.div_div_eq_div_mul, ← Nat.pow_add, Nat.add_sub_cancel' h]
theorem eq_up {x y k m : Nat} (h : x / 2 ^ k = y / 2 ^ k) (hm : k ≤ m) : x / 2 ^ m = y / 2 ^ m := by rw [div_up x hm, div_up y hm, h]
theorem Lv.uniq {x y a b : Nat} (h : Lv x y a) (k : Lv x y b) : a = b := by
  rcases Nat.lt_trichotomy a b with hl | he | hl
  · exact absurd (eq_up h.2 hl) k.1
  · exact he
  · exact absurd (eq_up k.2 hl) h.1
theorem Lv.symm {x y k : Nat} (h : Lv x y k) : Lv y x k := ⟨fun e => h.1 e.symm, h.2.symm⟩
/-- x is under the spot. -/
def Und (x : Nat) (s : Nat × Nat) : Prop := x / 2 ^ s.1 = s.2
theorem und_iff (x k j : Nat) : x / 2 ^ k = j ↔ j * 2 ^ k ≤ x ∧ x < (j + 1) * 2 ^ k := by
  have hp : 0 < 2 ^ k := Nat.pow_pos (by omega)
  constructor
  · rintro rfl
    exact ⟨Nat.div_mul_le_self x _, by rw [Nat.mul_comm]; exact Nat.lt_mul_div_succ x hp⟩
  · rintro ⟨h1, h2⟩
    exact Nat.le_antisymm (Nat.lt_succ_iff.1 ((Nat.div_lt_iff_lt_mul hp).2 h2)) ((Nat.le_div_iff_mul_le hp).2 h1)
/-- The two spans of leaves meet. -/
def Meet (a b : Nat × Nat) : Prop := a.2 * 2 ^ a.1 < (b.2 + 1) * 2 ^ b.1 ∧ b.2 * 2 ^ b.1 < (a.2 + 1) * 2 ^ a.1
theorem meet_und {a b : Nat × Nat} (h : Meet a b) : ∃ x, Und x a ∧ Und x b := by
  have hp : 0 < 2 ^ a.1 := Nat.pow_pos (by omega)
  have hq : 0 < 2 ^ b.1 := Nat.pow_pos (by omega)
  have h1 := h.1
  have h2 := h.2
  have e1 : (a.2 + 1) * 2 ^ a.1 = a.2 * 2 ^ a.1 + 2 ^ a.1 := by rw [Nat.add_mul, Nat.one_mul]
  have e2 : (b.2 + 1) * 2 ^ b.1 = b.2 * 2 ^ b.1 + 2 ^ b.1 := by rw [Nat.add_mul, Nat.one_mul]
  refine ⟨max (a.2 * 2 ^ a.1) (b.2 * 2 ^ b.1), (und_iff _ _ _).2 ⟨by omega, by omega⟩, (und_iff _ _ _).2 ⟨by omega, by omega⟩⟩

/-- The number beside. -/
def sibN (x : Nat) : Nat := if x % 2 = 0 then x + 1 else x - 1
theorem sib_half (x : Nat) : sibN x / 2 = x / 2 := by unfold sibN; split <;> omega
theorem sib_ne (x : Nat) : sibN x ≠ x := by unfold sibN; split <;> omega
theorem sib_xor (x : Nat) : x ^^^ 1 = sibN x := by
  have h1 : (x ^^^ 1) / 2 = x / 2 := by
    have := Nat.shiftRight_xor_distrib (a := x) (b := 1) (i := 1)
    simpa [Nat.shiftRight_eq_div_pow] using this
  have h2 : (x ^^^ 1) % 2 = 1 - x % 2 := by
    have := Nat.xor_mod_two_eq_one (a := x) (b := 1)
    omega
  unfold sibN
  split <;> omega
def sibsN (i h : Nat) : List (Nat × Nat) := (List.range h).map fun k => (k, sibN (i / 2 ^ k))
theorem half_up (x k : Nat) : x / 2 ^ k / 2 = x / 2 ^ (k + 1) := by rw [Nat.div_div_eq_div_mul, Nat.pow_succ]
theorem sibs_lv {i h : Nat} {s : Nat × Nat} (hs : s ∈ sibsN i h) : s.1 < h ∧ s.2 = sibN (i / 2 ^ s.1) ∧ ∀ x, Und x s → Lv x i s.1 := by
  simp only [sibsN, List.mem_map, List.mem_range] at hs
  obtain ⟨k, hk, rfl⟩ := hs
  refine ⟨hk, rfl, fun x hx => ?_⟩
  have hx : x / 2 ^ k = sibN (i / 2 ^ k) := hx
  refine ⟨fun e => sib_ne (i / 2 ^ k) (by rw [← hx]; exact e), ?_⟩
  show x / 2 ^ (k + 1) = i / 2 ^ (k + 1)
  rw [← half_up, hx, sib_half, half_up]
theorem sibs_up (i h : Nat) : (sibsN i h).Pairwise (fun a b => a.1 < b.1) := by
  unfold sibsN
  rw [List.pairwise_map]
  exact List.pairwise_lt_range
theorem sibs_sum (i : Nat) : ∀ h, leavesN (sibsN i h) = 2 ^ h - 1
  | 0 => rfl
  | h + 1 => by
    have ih := sibs_sum i h
    have hp : 0 < 2 ^ h := Nat.pow_pos (by omega)
    have h2 : 2 ^ (h + 1) = 2 * 2 ^ h := by rw [Nat.pow_succ]; omega
    unfold sibsN at ih ⊢
    rw [List.range_succ, List.map_append, leaves_app, ih]
    simp only [List.map_cons, List.map_nil, leavesN, List.sum_cons, List.sum_nil]
    omega

/-- The highest bit in which i and n are unlike. -/
def hiN (i n : Nat) : Nat := Lib.bitLen (i ^^^ n) - 1
theorem len_zero (f : Nat) : Lib.bitLenAux f 0 = 0 := by cases f <;> simp [Lib.bitLenAux]
theorem xor_zero_eq {a b : Nat} (h : a ^^^ b = 0) : a = b := by
  have e : (a ^^^ b) ^^^ b = a := by rw [Nat.xor_assoc, Nat.xor_self, Nat.xor_zero]
  rw [h, Nat.zero_xor] at e
  exact e.symm
theorem len_lo : ∀ (f x : Nat), x ≠ 0 → x < 2 ^ f → 1 ≤ Lib.bitLenAux f x ∧ 2 ^ (Lib.bitLenAux f x - 1) ≤ x ∧ x < 2 ^ (Lib.bitLenAux f x)
  | 0, x, h0, hx => by simp at hx; omega
  | f + 1, x, h0, hx => by
    have h2 : 2 ^ (f + 1) = 2 * 2 ^ f := by rw [Nat.pow_succ]; omega
    simp only [Lib.bitLenAux]
    rw [if_neg h0]
    by_cases h1 : x / 2 = 0
    · have : x = 1 := by omega
      subst this
      rw [len_zero]
      simp
    · have ih := len_lo f (x / 2) h1 (by omega)
      obtain ⟨q, hq⟩ : ∃ q, Lib.bitLenAux f (x / 2) = q + 1 := ⟨_, (Nat.sub_add_cancel ih.1).symm⟩
      rw [hq] at ih ⊢
      have e1 : 2 ^ (q + 1) = 2 * 2 ^ q := by rw [Nat.pow_succ]; omega
      have e2 : 2 ^ (1 + (q + 1)) = 2 * 2 ^ (q + 1) := by rw [Nat.add_comm 1, Nat.pow_succ]; omega
      have i2 := ih.2.1
      have i3 := ih.2.2
      rw [show q + 1 - 1 = q by omega] at i2
      rw [show 1 + (q + 1) - 1 = q + 1 by omega]
      omega
theorem hi_lv {i n : Nat} (h : i < n) (hn : n < 2 ^ 64) : Lv i n (hiN i n) ∧ Lib.bitLen (i ^^^ n) = hiN i n + 1 := by
  have hx : i ^^^ n < 2 ^ 64 := Nat.xor_lt_two_pow (by omega) hn
  have h0 : i ^^^ n ≠ 0 := by
    intro e
    have : i = n := xor_zero_eq e
    omega
  have hl := len_lo 64 _ h0 hx
  have he : Lib.bitLen (i ^^^ n) = hiN i n + 1 := (Nat.sub_add_cancel hl.1).symm
  refine ⟨?_, he⟩
  have l2 : 2 ^ hiN i n ≤ i ^^^ n := hl.2.1
  have l3 : i ^^^ n < 2 ^ (hiN i n + 1) := by rw [← he]; exact hl.2.2
  generalize hiN i n = q at *
  have hp : 0 < 2 ^ q := Nat.pow_pos (by omega)
  refine ⟨fun e => ?_, ?_⟩
  · have h3 := Nat.shiftRight_xor_distrib (a := i) (b := n) (i := q)
    rw [Nat.shiftRight_eq_div_pow, Nat.shiftRight_eq_div_pow, Nat.shiftRight_eq_div_pow, e, Nat.xor_self] at h3
    have := (Nat.one_le_div_iff hp).2 l2
    omega
  · have h3 := Nat.shiftRight_xor_distrib (a := i) (b := n) (i := q + 1)
    rw [Nat.shiftRight_eq_div_pow, Nat.shiftRight_eq_div_pow, Nat.shiftRight_eq_div_pow, Nat.div_eq_of_lt l3] at h3
    exact xor_zero_eq h3.symm
/-- Over a leaf i < n stands the peak of that height. -/
theorem hi_peak {i n : Nat} (h : i < n) (hn : n < 2 ^ 64) : i / 2 ^ hiN i n = n / 2 ^ hiN i n - 1 ∧ n.testBit (hiN i n) = true ∧ 1 ≤ n / 2 ^ hiN i n := by
  have hl := (hi_lv h hn).1
  generalize hiN i n = q at *
  have h1 := hl.1
  have h2 := hl.2
  rw [← half_up, ← half_up] at h2
  have h3 : i / 2 ^ q ≤ n / 2 ^ q := Nat.div_le_div_right (by omega)
  rw [bit_mod]
  generalize i / 2 ^ q = a at *
  generalize n / 2 ^ q = b at *
  omega
theorem hi_le {i n : Nat} (h : i < n) (hn : n ≤ 4611686018427387904) : hiN i n ≤ 62 := by
  have hb := (hi_peak h (by omega)).2.1
  have hg := Nat.ge_two_pow_of_testBit hb
  have : 2 ^ hiN i n ≤ 2 ^ 62 := by omega
  exact (Nat.pow_le_pow_iff_right (by omega : 1 < 2)).1 this

/-- Which peak stands over leaf i. -/
def overN (i n : Nat) : Nat := Lib.popAux 64 (n / 2 ^ (hiN i n + 1))
/-- The spots of a leaf's proof. -/
def proofN (i n : Nat) : List (Nat × Nat) := sibsN i (hiN i n) ++ (topsN n).eraseIdx (overN i n)
theorem over_split {i n : Nat} (h : i < n) (hn : n ≤ 4611686018427387904) : ∃ T, topsN n = T ++ (hiN i n, i / 2 ^ hiN i n) :: topsF (hiN i n) n ∧ T.length = overN i n ∧ ∀ s ∈ T, hiN i n < s.1 := by
  have hle := hi_le h hn
  have hp := hi_peak h (by omega)
  obtain ⟨T, h1, h2, h3⟩ := tops_split (hiN i n + 1) n (62 - hiN i n)
  rw [show hiN i n + 1 + (62 - hiN i n) = 63 by omega] at h1
  refine ⟨T, ?_, ?_, fun s hs => h3 s hs⟩
  · rw [show topsN n = topsF 63 n from rfl, h1]
    simp only [topsF]
    rw [if_pos hp.2.1, hp.1]
    rfl
  · rw [h2]
    refine (pop_fuel _ _ 64 ?_ (by omega)).symm
    rw [Nat.div_lt_iff_lt_mul (Nat.pow_pos (by omega)), ← Nat.pow_add, show 62 - hiN i n + (hiN i n + 1) = 63 by omega]
    omega
theorem erase_mid {α : Type} (T : List α) (x : α) (R : List α) : (T ++ x :: R).eraseIdx T.length = T ++ R := by
  rw [List.eraseIdx_append_of_length_le (Nat.le_refl _)]
  simp
theorem proof_split {i n : Nat} (h : i < n) (hn : n ≤ 4611686018427387904) : ∃ T, topsN n = T ++ (hiN i n, i / 2 ^ hiN i n) :: topsF (hiN i n) n ∧ T.length = overN i n ∧ (∀ s ∈ T, hiN i n < s.1) ∧ proofN i n = sibsN i (hiN i n) ++ (T ++ topsF (hiN i n) n) := by
  obtain ⟨T, h1, h2, h3⟩ := over_split h hn
  refine ⟨T, h1, h2, h3, ?_⟩
  unfold proofN
  rw [h1, ← h2, erase_mid]
theorem proof_sum {i n : Nat} (h : i < n) (hn : n ≤ 4611686018427387904) : leavesN (proofN i n) + 1 = n := by
  obtain ⟨T, h1, h2, h3, h4⟩ := proof_split h hn
  have hs : leavesN (topsN n) = n := by
    rw [show topsN n = topsF 63 n from rfl, tops_sum]
    exact Nat.mod_eq_of_lt (by omega)
  rw [h1, leaves_app, leaves_cons] at hs
  rw [h4, leaves_app, leaves_app, sibs_sum]
  have hp : 0 < 2 ^ hiN i n := Nat.pow_pos (by omega)
  have : 2 ^ (hiN i n, i / 2 ^ hiN i n).1 = 2 ^ hiN i n := rfl
  omega
theorem proof_len {i n : Nat} (h : i < n) (hn : n ≤ 4611686018427387904) : overN i n < (topsN n).length ∧ (topsN n)[overN i n]? = some (hiN i n, i / 2 ^ hiN i n) ∧ (proofN i n).length + 1 = hiN i n + (topsN n).length := by
  obtain ⟨T, h1, h2, h3, h4⟩ := proof_split h hn
  rw [h1, h4, ← h2]
  simp [sibsN]
  omega
theorem tops_lv {n : Nat} {s : Nat × Nat} {g : Nat} (hs : s ∈ topsF g n) {x : Nat} (hx : Und x s) : Lv x n s.1 := by
  have hm := tops_mem g n s hs
  have hb := (bit_mod n s.1).1 hm.2.1
  have hx : x / 2 ^ s.1 = n / 2 ^ s.1 - 1 := hx.trans hm.2.2
  have e1 := half_up x s.1
  have e2 := half_up n s.1
  unfold Lv
  rw [← e1, ← e2, hx]
  generalize n / 2 ^ s.1 = b at *
  omega
/-- Any spot of a proof: whether x is under it is told by where x parts from i and from n. -/
theorem proof_apart {i n : Nat} (h : i < n) (hn : n ≤ 4611686018427387904) : (proofN i n).Pairwise (fun a b => ∀ x, Und x a → Und x b → False) := by
  obtain ⟨T, h1, h2, h3, h4⟩ := proof_split h hn
  have hl := (hi_lv h (by omega)).1
  have hd := tops_down 63 n
  have hm := tops_mem 63 n
  rw [show topsF 63 n = topsN n from rfl, h1] at hd hm
  have htop : ∀ s, s ∈ T ++ topsF (hiN i n) n → s ∈ topsF 63 n ∧ s.1 ≠ hiN i n := by
    intro s hs
    rw [show topsF 63 n = topsN n from rfl, h1]
    rcases List.mem_append.1 hs with hs | hs
    · exact ⟨List.mem_append.2 (.inl hs), by have := h3 s hs; omega⟩
    · exact ⟨List.mem_append.2 (.inr (List.mem_cons_of_mem _ hs)), by have := (tops_mem _ n s hs).1; omega⟩
  rw [h4, List.pairwise_append]
  refine ⟨?_, ?_, ?_⟩
  · refine List.Pairwise.imp_of_mem ?_ (sibs_up i (hiN i n))
    intro a b ha hb hab x hx hy
    have := Lv.uniq ((sibs_lv ha).2.2 x hx) ((sibs_lv hb).2.2 x hy)
    omega
  · have hd2 : (T ++ topsF (hiN i n) n).Pairwise (fun a b => b.1 < a.1) := by
      refine hd.sublist ?_
      exact List.Sublist.append (List.Sublist.refl _) (List.sublist_cons_self _ _)
    refine List.Pairwise.imp_of_mem ?_ hd2
    intro a b ha hb hab x hx hy
    have := Lv.uniq (tops_lv (htop a ha).1 hx) (tops_lv (htop b hb).1 hy)
    omega
  · intro a ha b hb x hx hy
    have hs := sibs_lv ha
    have l1 := hs.2.2 x hx
    have l2 := tops_lv (htop b hb).1 hy
    have e : x / 2 ^ hiN i n = i / 2 ^ hiN i n := eq_up l1.2 hs.1
    have l3 : Lv x n (hiN i n) := ⟨by rw [e]; exact hl.1, (eq_up l1.2 (by omega)).trans hl.2⟩
    exact (htop b hb).2 (Lv.uniq l2 l3)
theorem proof_not {i n : Nat} (h : i < n) (hn : n ≤ 4611686018427387904) : ∀ s ∈ proofN i n, ¬ Und i s := by
  obtain ⟨T, h1, h2, h3, h4⟩ := proof_split h hn
  have hl := (hi_lv h (by omega)).1
  intro s hs hx
  rw [h4] at hs
  rcases List.mem_append.1 hs with hs | hs
  · exact ((sibs_lv hs).2.2 i hx).1 rfl
  · have hm : s ∈ topsF 63 n ∧ s.1 ≠ hiN i n := by
      rw [show topsF 63 n = topsN n from rfl, h1]
      rcases List.mem_append.1 hs with hs | hs
      · exact ⟨List.mem_append.2 (.inl hs), by have := h3 s hs; omega⟩
      · exact ⟨List.mem_append.2 (.inr (List.mem_cons_of_mem _ hs)), by have := (tops_mem _ n s hs).1; omega⟩
    exact hm.2 (Lv.uniq (tops_lv hm.1 hx) hl)
theorem up_fit {j j' k m n : Nat} (hj : j' / 2 ^ (m - k) = j) (hkm : k ≤ m) (h : (j + 1) * 2 ^ m ≤ n) : (j' + 1) * 2 ^ k ≤ n := by
  refine Nat.le_trans ?_ h
  have hp : 0 < 2 ^ (m - k) := Nat.pow_pos (by omega)
  have h1 := (und_iff j' (m - k) j).1 hj
  rw [show 2 ^ m = 2 ^ (m - k) * 2 ^ k by rw [← Nat.pow_add, Nat.sub_add_cancel hkm], ← Nat.mul_assoc]
  exact Nat.mul_le_mul_right _ h1.2
theorem proof_fit {i n : Nat} (h : i < n) (hn : n ≤ 4611686018427387904) : ∀ s ∈ proofN i n, (s.2 + 1) * 2 ^ s.1 ≤ n := by
  obtain ⟨T, h1, h2, h3, h4⟩ := proof_split h hn
  have hp := hi_peak h (by omega)
  intro s hs
  rw [h4] at hs
  rcases List.mem_append.1 hs with hs | hs
  · have hk := sibs_lv hs
    have hb : (i / 2 ^ hiN i n + 1) * 2 ^ hiN i n ≤ n := by rw [hp.1, Nat.sub_add_cancel hp.2.2]; exact Nat.div_mul_le_self n _
    refine up_fit (m := hiN i n) (j := i / 2 ^ hiN i n) ?_ (by omega) hb
    rw [hk.2.1]
    have e : 2 ^ (hiN i n - s.1) = 2 * 2 ^ (hiN i n - s.1 - 1) := by rw [Nat.mul_comm, ← Nat.pow_succ]; exact congrArg (2 ^ ·) (by omega)
    rw [e, ← Nat.div_div_eq_div_mul, sib_half, Nat.div_div_eq_div_mul, ← e, ← div_up i (by omega)]
  · refine (tops_fit 63 n s ?_).2
    rw [show topsF 63 n = topsN n from rfl, h1]
    rcases List.mem_append.1 hs with hs | hs
    · exact List.mem_append.2 (.inl hs)
    · exact List.mem_append.2 (.inr (List.mem_cons_of_mem _ hs))

/-! Places below a size. -/
theorem nodes_succ : ∀ (m x : Nat), x < m → x + 1 < 2 ^ 64 → nodesN x < nodesN (x + 1)
  | 0, x, h, _ => by omega
  | m + 1, x, h, hx => by
    rw [nodes_half x (by omega), nodes_half (x + 1) hx]
    by_cases he : x % 2 = 0
    · rw [show (x + 1) / 2 = x / 2 by omega]; omega
    · rw [show (x + 1) / 2 = x / 2 + 1 by omega]
      by_cases h0 : x = 0
      · omega
      · have := nodes_succ m (x / 2) (by omega) (by omega)
        omega
theorem nodes_mono : ∀ (d x : Nat), x + d < 2 ^ 64 → nodesN x ≤ nodesN (x + d)
  | 0, _, _ => Nat.le_refl _
  | d + 1, x, h => Nat.le_trans (nodes_mono d x (by omega)) (Nat.le_of_lt (nodes_succ (x + d + 1) (x + d) (by omega) (by omega)))
theorem place_end : ∀ (k j : Nat), (j + 1) * 2 ^ k < 2 ^ 64 → placeN k j < nodesN ((j + 1) * 2 ^ k)
  | 0, j, h => by
    have := nodes_succ (j + 1) j (by omega) (by simpa using h)
    simpa [placeN] using this
  | k + 1, j, h => by
    have hp : 0 < 2 ^ k := Nat.pow_pos (by omega)
    have e : (j + 1) * 2 ^ (k + 1) = 2 * ((j + 1) * 2 ^ k) := by rw [Nat.pow_succ]; rw [← Nat.mul_assoc, Nat.mul_comm]
    have ih := place_end k j (by omega)
    have hq : 0 < (j + 1) * 2 ^ k := Nat.mul_pos (by omega) hp
    unfold placeN at ih ⊢
    rw [e] at h ⊢
    generalize (j + 1) * 2 ^ k = y at *
    rw [nodes_half (2 * y - 1) (by omega), nodes_half (2 * y) h, show (2 * y - 1) / 2 = y - 1 by omega, show 2 * y / 2 = y by omega]
    omega
theorem place_under {n : Nat} (hn : n < 2 ^ 64) {s : Nat × Nat} (h : (s.2 + 1) * 2 ^ s.1 ≤ n) : placeN s.1 s.2 < nodesN n := by
  refine Nat.lt_of_lt_of_le (place_end s.1 s.2 (by omega)) ?_
  have := nodes_mono (n - (s.2 + 1) * 2 ^ s.1) ((s.2 + 1) * 2 ^ s.1) (by omega)
  rwa [Nat.add_sub_cancel' h] at this
end Go.Proofs.Ytagcabmccpekaaa.M

namespace Go.Proofs.Ytagcabmccpekaaa.M

/-- Those of a list under a spot. -/
def undL (h i : Nat) (l : List Nat) : List Nat := l.filter (fun x => decide (x / 2 ^ h = i))
/-- The spots under one, or this one, that the leaves of l need, from the left. -/
def mneed : Nat → Nat → List Nat → List (Nat × Nat)
  | 0, i, l => if undL 0 i l = [] then [(0, i)] else []
  | h + 1, i, l => if undL (h + 1) i l = [] then [(h + 1, i)] else mneed h (2 * i) (undL (h + 1) i l) ++ mneed h (2 * i + 1) (undL (h + 1) i l)
theorem und_idem (h i : Nat) (l : List Nat) : undL h i (undL h i l) = undL h i l := by simp [undL]
theorem mneed_und (h i : Nat) (l : List Nat) : mneed h i (undL h i l) = mneed h i l := by
  cases h <;> simp only [mneed, und_idem]
theorem und_all {h i : Nat} {l : List Nat} (hl : ∀ x ∈ l, x / 2 ^ h = i) : undL h i l = l := List.filter_eq_self.2 (fun x hx => by simpa using hl x hx)
theorem und_mem {h i : Nat} {l : List Nat} : ∀ x ∈ undL h i l, x / 2 ^ h = i := fun x hx => by simpa using (List.mem_filter.1 hx).2
theorem und_kids (h i : Nat) : ∀ (u : List Nat), (∀ x ∈ u, x / 2 ^ (h + 1) = i) → (undL h (2 * i) u).length + (undL h (2 * i + 1) u).length = u.length
  | [], _ => rfl
  | x :: r, hu => by
    have ih := und_kids h i r (fun y hy => hu y (List.mem_cons_of_mem _ hy))
    have hx := hu x List.mem_cons_self
    rw [← half_up] at hx
    unfold undL at *
    rw [List.filter_cons, List.filter_cons]
    generalize x / 2 ^ h = a at *
    by_cases c : a = 2 * i
    · rw [if_pos (by simpa using c), if_neg (by simp; omega)]
      simp only [List.length_cons]
      omega
    · rw [if_neg (by simpa using c), if_pos (by simp; omega)]
      simp only [List.length_cons]
      omega
theorem und_len (h i : Nat) (l : List Nat) : (undL h i l).length ≤ l.length := List.length_filter_le _ _
theorem mneed_len : ∀ (h i : Nat) (l : List Nat), (mneed h i l).length ≤ 1 + h * (undL h i l).length
  | 0, i, l => by simp only [mneed]; split <;> simp
  | h + 1, i, l => by
    simp only [mneed]
    split
    · simp
    · next c =>
      have h1 := mneed_len h (2 * i) (undL (h + 1) i l)
      have h2 := mneed_len h (2 * i + 1) (undL (h + 1) i l)
      have hk := und_kids h i (undL (h + 1) i l) und_mem
      have hp : 0 < (undL (h + 1) i l).length := List.length_pos_iff.2 c
      rw [List.length_append]
      have e : (h + 1) * (undL (h + 1) i l).length = h * (undL h (2 * i) (undL (h + 1) i l)).length + h * (undL h (2 * i + 1) (undL (h + 1) i l)).length + (undL (h + 1) i l).length := by
        rw [Nat.add_mul, Nat.one_mul, ← Nat.mul_add, hk]
      omega
theorem mneed_fit : ∀ (h i : Nat) (l : List Nat) (s : Nat × Nat), s ∈ mneed h i l → s.1 ≤ h ∧ (s.2 + 1) * 2 ^ s.1 ≤ (i + 1) * 2 ^ h
  | 0, i, l, s, hs => by
    simp only [mneed] at hs
    split at hs
    · simp at hs; subst hs; simp
    · simp at hs
  | h + 1, i, l, s, hs => by
    simp only [mneed] at hs
    split at hs
    · simp at hs; subst hs; simp
    · rcases List.mem_append.1 hs with hs | hs
      · have := mneed_fit h (2 * i) _ s hs
        have hr := kid_right h i
        have : (2 * i + 1) * 2 ^ h ≤ (2 * i + 1 + 1) * 2 ^ h := Nat.mul_le_mul_right _ (by omega)
        exact ⟨by omega, by omega⟩
      · have := mneed_fit h (2 * i + 1) _ s hs
        have hr := kid_right h i
        exact ⟨by omega, by omega⟩

/-! A rising list, cut at a number. -/
def Up (l : List Nat) : Prop := l.Pairwise (· < ·)
def cutN (l : List Nat) (t : Nat) : Nat := (l.filter (fun x => decide (x < t))).length
theorem up_cut : ∀ (l : List Nat) (t : Nat), Up l → l.take (cutN l t) = l.filter (fun x => decide (x < t)) ∧ l.drop (cutN l t) = l.filter (fun x => decide (t ≤ x))
  | [], t, _ => ⟨rfl, rfl⟩
  | x :: r, t, h => by
    obtain ⟨h1, h2⟩ := List.pairwise_cons.1 h
    have ih := up_cut r t h2
    unfold cutN at *
    by_cases c : x < t
    · rw [List.filter_cons, if_pos (by simpa using c), List.filter_cons, if_neg (by simp; omega)]
      simp only [List.length_cons, List.take_succ_cons, List.drop_succ_cons]
      exact ⟨congrArg _ ih.1, ih.2⟩
    · have e : (x :: r).filter (fun x => decide (x < t)) = [] := List.filter_eq_nil_iff.2 (fun y hy => by
        rcases List.mem_cons.1 hy with rfl | hy
        · simpa using c
        · have := h1 y hy; simp; omega)
      have e2 : (x :: r).filter (fun x => decide (t ≤ x)) = x :: r := List.filter_eq_self.2 (fun y hy => by
        rcases List.mem_cons.1 hy with rfl | hy
        · simp; omega
        · have := h1 y hy; simp; omega)
      rw [e, e2]
      exact ⟨rfl, rfl⟩
theorem cut_le (l : List Nat) (t : Nat) : cutN l t ≤ l.length := List.length_filter_le _ _
theorem up_at {l : List Nat} {t : Nat} (h : Up l) (j : Nat) (hj : j < l.length) : l[j] < t ↔ j < cutN l t := by
  have hc := up_cut l t h
  constructor
  · intro hx
    refine Decidable.by_contra (fun hn => ?_)
    have hm : l[j] ∈ l.drop (cutN l t) := List.mem_drop_iff_getElem.2 ⟨j - cutN l t, by omega, by congr 1; omega⟩
    rw [hc.2] at hm
    have := (List.mem_filter.1 hm).2
    simp at this
    omega
  · intro hx
    have hm : l[j] ∈ l.take (cutN l t) := List.mem_take_iff_getElem.2 ⟨j, by omega, rfl⟩
    rw [hc.1] at hm
    simpa using (List.mem_filter.1 hm).2
theorem up_filter {l : List Nat} (h : Up l) (p : Nat → Bool) : Up (l.filter p) := h.sublist List.filter_sublist
/-- The leaves of a spot, cut at its middle. -/
theorem kids_cut {h i : Nat} {u : List Nat} (hu : Up u) (hm : ∀ x ∈ u, x / 2 ^ (h + 1) = i) : u.take (cutN u ((2 * i + 1) * 2 ^ h)) = undL h (2 * i) u ∧ u.drop (cutN u ((2 * i + 1) * 2 ^ h)) = undL h (2 * i + 1) u := by
  have hc := up_cut u ((2 * i + 1) * 2 ^ h) hu
  have hp : 0 < 2 ^ h := Nat.pow_pos (by omega)
  have key : ∀ x ∈ u, (x < (2 * i + 1) * 2 ^ h ↔ x / 2 ^ h = 2 * i) ∧ ((2 * i + 1) * 2 ^ h ≤ x ↔ x / 2 ^ h = 2 * i + 1) := by
    intro x hx
    have h1 := hm x hx
    rw [← half_up] at h1
    have h2 : (2 * i + 1) * 2 ^ h ≤ x ↔ 2 * i + 1 ≤ x / 2 ^ h := (Nat.le_div_iff_mul_le hp).symm
    generalize x / 2 ^ h = a at *
    constructor
    · constructor
      · intro h3
        have : ¬ 2 * i + 1 ≤ a := fun h4 => by have := h2.2 h4; omega
        omega
      · intro h3
        refine Nat.lt_of_not_le (fun h4 => ?_)
        have := h2.1 h4
        omega
    · rw [h2]
      omega
  rw [hc.1, hc.2]
  unfold undL
  refine ⟨List.filter_congr (fun x hx => ?_), List.filter_congr (fun x hx => ?_)⟩
  · exact decide_eq_decide.2 (key x hx).1
  · exact decide_eq_decide.2 (key x hx).2

/-! What is told of a list of leaves that may not be. -/
def badP : Option Nat → Nat → Bool
  | some y, x => decide (x ≤ y)
  | none, _ => false
def lookF (n : Nat) : Option Nat → List Nat → Int
  | _, [] => 0
  | p, x :: r => if badP p x = true then 71 else if n ≤ x then 32 else lookF n (some x) r
theorem lookF_nil (n : Nat) (p : Option Nat) : lookF n p [] = 0 := by cases p <;> rfl
theorem lookF_cons (n : Nat) (p : Option Nat) (x : Nat) (r : List Nat) : lookF n p (x :: r) = if badP p x = true then 71 else if n ≤ x then 32 else lookF n (some x) r := by cases p <;> rfl
theorem lookF_bad {n : Nat} {p : Option Nat} {x : Nat} {r : List Nat} (h : badP p x = true) : lookF n p (x :: r) = 71 := by rw [lookF_cons, if_pos h]
theorem lookF_big {n : Nat} {p : Option Nat} {x : Nat} {r : List Nat} (h : badP p x = false) (h2 : n ≤ x) : lookF n p (x :: r) = 32 := by rw [lookF_cons, if_neg (by simp [h]), if_pos h2]
theorem lookF_go {n : Nat} {p : Option Nat} {x : Nat} {r : List Nat} (h : badP p x = false) (h2 : ¬ n ≤ x) : lookF n p (x :: r) = lookF n (some x) r := by rw [lookF_cons, if_neg (by simp [h]), if_neg h2]
def lookN (l : List Nat) (n : Nat) : Int := if 4611686018427387904 < n then 30 else lookF n none l
theorem look_up (n : Nat) : ∀ (l : List Nat) (p : Option Nat), lookF n p l = 0 → (∀ x ∈ l, x < n) ∧ Up l ∧ ∀ y, p = some y → ∀ x ∈ l, y < x
  | [], p, _ => ⟨fun x hx => by simp at hx, List.Pairwise.nil, fun y _ x hx => by simp at hx⟩
  | x :: r, p, h => by
    rw [lookF_cons] at h
    have hb : badP p x = false := by
      cases hc : badP p x with
      | true => rw [hc, if_pos rfl] at h; simp at h
      | false => rfl
    rw [if_neg (by simp [hb])] at h
    have hp : ∀ y, p = some y → y < x := by
      intro y hy
      subst hy
      simp [badP] at hb
      omega
    have h2 := h
    split at h2
    · simp at h2
    · next c2 =>
      obtain ⟨i1, i2, i3⟩ := look_up n r (some x) h2
      refine ⟨fun y hy => ?_, List.pairwise_cons.2 ⟨fun y hy => i3 x rfl y hy, i2⟩, fun y hy z hz => ?_⟩
      · rcases List.mem_cons.1 hy with rfl | hy
        · omega
        · exact i1 y hy
      · have h3 := hp y hy
        rcases List.mem_cons.1 hz with rfl | hz
        · exact h3
        · have := i3 x rfl z hz
          omega
/-- The spots that leaves need. -/
def manySpots (l : List Nat) (n : Nat) : List (Nat × Nat) := (topsN n).flatMap fun s => mneed s.1 s.2 l
end Go.Proofs.Ytagcabmccpekaaa.M

namespace Go.Proofs.Ytagcabmccpekaaa.M

/-- What a walk over peaks tells: each takes the leaves that end under it. -/
def runN : List (Nat × Nat) → List Nat → List (Nat × Nat)
  | [], _ => []
  | s :: r, l => mneed s.1 s.2 (l.take (cutN l ((s.2 + 1) * 2 ^ s.1))) ++ runN r (l.drop (cutN l ((s.2 + 1) * 2 ^ s.1)))
/-- Each peak's leaves are under it. -/
def RunOK : List (Nat × Nat) → List Nat → Prop
  | [], _ => True
  | s :: r, l => (∀ x ∈ l.take (cutN l ((s.2 + 1) * 2 ^ s.1)), x / 2 ^ s.1 = s.2) ∧ RunOK r (l.drop (cutN l ((s.2 + 1) * 2 ^ s.1)))
theorem flat_congr {α β : Type} {l : List α} {f g : α → List β} (h : ∀ x ∈ l, f x = g x) : l.flatMap f = l.flatMap g := by
  induction l with
  | nil => rfl
  | cons a r ih => rw [List.flatMap_cons, List.flatMap_cons, h a List.mem_cons_self, ih (fun x hx => h x (List.mem_cons_of_mem _ hx))]
theorem run_tops (n : Nat) : ∀ (g : Nat) (l : List Nat), Up l → (∀ x ∈ l, x < n ∧ x / 2 ^ g = n / 2 ^ g) → RunOK (topsF g n) l ∧ runN (topsF g n) l = (topsF g n).flatMap (fun s => mneed s.1 s.2 l)
  | 0, l, _, _ => ⟨trivial, rfl⟩
  | g + 1, l, hu, hl => by
    have hp : 0 < 2 ^ g := Nat.pow_pos (by omega)
    simp only [topsF]
    by_cases hb : n.testBit g = true
    · rw [if_pos hb]
      have hodd := (bit_mod n g).1 hb
      have hq : 1 ≤ n / 2 ^ g := by generalize n / 2 ^ g = b at *; omega
      have key : ∀ x ∈ l, (x < (n / 2 ^ g - 1 + 1) * 2 ^ g ↔ x / 2 ^ g = n / 2 ^ g - 1) ∧ ((n / 2 ^ g - 1 + 1) * 2 ^ g ≤ x → x / 2 ^ g = n / 2 ^ g) := by
        intro x hx
        obtain ⟨h1, h2⟩ := hl x hx
        rw [← half_up, ← half_up] at h2
        have h3 : x / 2 ^ g ≤ n / 2 ^ g := Nat.div_le_div_right (by omega)
        have h4 : (n / 2 ^ g - 1 + 1) * 2 ^ g ≤ x ↔ n / 2 ^ g - 1 + 1 ≤ x / 2 ^ g := (Nat.le_div_iff_mul_le hp).symm
        generalize (n / 2 ^ g - 1 + 1) * 2 ^ g = m at *
        generalize x / 2 ^ g = a at *
        generalize n / 2 ^ g = b at *
        omega
      have hc := up_cut l ((n / 2 ^ g - 1 + 1) * 2 ^ g) hu
      have ht : l.take (cutN l ((n / 2 ^ g - 1 + 1) * 2 ^ g)) = undL g (n / 2 ^ g - 1) l := by
        rw [hc.1]
        exact List.filter_congr (fun x hx => decide_eq_decide.2 (key x hx).1)
      have hd : ∀ x ∈ l.drop (cutN l ((n / 2 ^ g - 1 + 1) * 2 ^ g)), x < n ∧ x / 2 ^ g = n / 2 ^ g := by
        intro x hx
        rw [hc.2] at hx
        obtain ⟨h1, h2⟩ := List.mem_filter.1 hx
        exact ⟨(hl x h1).1, (key x h1).2 (by simpa using h2)⟩
      have ih := run_tops n g _ (hu.sublist (List.drop_sublist _ _)) hd
      refine ⟨⟨?_, ih.1⟩, ?_⟩
      · intro x hx
        have hx : x ∈ l.take (cutN l ((n / 2 ^ g - 1 + 1) * 2 ^ g)) := hx
        rw [ht] at hx
        exact und_mem x hx
      · show mneed g (n / 2 ^ g - 1) (l.take (cutN l ((n / 2 ^ g - 1 + 1) * 2 ^ g))) ++ runN (topsF g n) (l.drop (cutN l ((n / 2 ^ g - 1 + 1) * 2 ^ g))) = mneed g (n / 2 ^ g - 1) l ++ (topsF g n).flatMap (fun s => mneed s.1 s.2 l)
        rw [ht, mneed_und, ih.2]
        refine congrArg _ (flat_congr (fun s hs => ?_))
        have hm := tops_mem g n s hs
        have hund : undL s.1 s.2 (l.drop (cutN l ((n / 2 ^ g - 1 + 1) * 2 ^ g))) = undL s.1 s.2 l := by
          conv => rhs; rw [← List.take_append_drop (cutN l ((n / 2 ^ g - 1 + 1) * 2 ^ g)) l]
          unfold undL
          rw [List.filter_append]
          have e0 : (l.take (cutN l ((n / 2 ^ g - 1 + 1) * 2 ^ g))).filter (fun x => decide (x / 2 ^ s.1 = s.2)) = [] := by
            refine List.filter_eq_nil_iff.2 (fun x hx => ?_)
            rw [ht] at hx
            have h1 := und_mem x hx
            simp only [decide_eq_true_eq]
            intro h2
            have h3 : x / 2 ^ (s.1 + 1) = n / 2 ^ (s.1 + 1) := (tops_lv hs (show Und x s from h2)).2
            have h4 := eq_up h3 (show s.1 + 1 ≤ g by omega)
            omega
          rw [e0, List.nil_append]
        rw [← mneed_und s.1 s.2 l, ← mneed_und s.1 s.2 (l.drop _), hund]
    · rw [if_neg hb]
      have heven : n / 2 ^ g % 2 = 0 := by
        have : ¬ n / 2 ^ g % 2 = 1 := fun h => hb ((bit_mod n g).2 h)
        omega
      refine run_tops n g l hu (fun x hx => ?_)
      obtain ⟨h1, h2⟩ := hl x hx
      rw [← half_up, ← half_up] at h2
      have h3 : x / 2 ^ g ≤ n / 2 ^ g := Nat.div_le_div_right (by omega)
      refine ⟨h1, ?_⟩
      generalize x / 2 ^ g = a at *
      generalize n / 2 ^ g = b at *
      omega
end Go.Proofs.Ytagcabmccpekaaa.M

namespace Go.Proofs.Ytagcabmccpekaaa.M
open Go.RowKit Go.Proofs.YtagcabmccpekaaaW.PrintWords Go.Proofs.YtagcabmccpekaaaW.PrintLast Go.Proofs.YtagcabmccpekaaaW.PrintMore Go.Proofs.Ytagcabmccpekaaa.Leaf

theorem and_split (u v p q : Nat) (hu : u < 256) (hp : p < 256) : (u + 256 * v) &&& (p + 256 * q) = (u &&& p) + 256 * (v &&& q) := by
  have hup : u &&& p < 2 ^ 8 := Nat.and_lt_two_pow _ hp
  rw [show u + 256 * v = 2 ^ 8 * v + u by omega, show p + 256 * q = 2 ^ 8 * q + p by omega, show (u &&& p) + 256 * (v &&& q) = 2 ^ 8 * (v &&& q) + (u &&& p) by omega]
  apply Nat.eq_of_testBit_eq
  intro i
  rw [Nat.testBit_and, Nat.testBit_two_pow_mul_add v hu, Nat.testBit_two_pow_mul_add q hp, Nat.testBit_two_pow_mul_add (v &&& q) hup]
  split <;> simp [Nat.testBit_and]

def st1 (m x : Nat) : Nat := (x / 2 &&& m) + (x &&& m)
def st2 (m x : Nat) : Nat := (x / 4 &&& m) + (x &&& m)
def st3 (m x : Nat) : Nat := (x / 16 + x) &&& m
theorem by1 : ∀ b : Fin 256, ∀ c : Fin 2, ((b.val / 2 + 128 * c.val) &&& 85) + (b.val &&& 85) = st1 85 b.val ∧ st1 85 b.val ≤ 170 := by decide +kernel
theorem by2 : ∀ b : Fin 171, ∀ c : Fin 4, ((b.val / 4 + 64 * c.val) &&& 51) + (b.val &&& 51) = st2 51 b.val ∧ st2 51 b.val ≤ 102 := by decide +kernel
theorem by3 : ∀ b : Fin 103, ∀ c : Fin 5, b.val % 16 ≤ 4 → b.val / 16 ≤ 4 → ((b.val / 16 + 16 * c.val + b.val) &&& 15) = st3 15 b.val := by decide +kernel
theorem by4 : ∀ b : Fin 256, st3 15 (st2 51 (st1 85 b.val)) = Lib.popAux 8 b.val ∧ st2 51 (st1 85 b.val) % 16 ≤ 4 ∧ st2 51 (st1 85 b.val) / 16 ≤ 4 := by decide +kernel

theorem st1_byte (b y m : Nat) (hb : b < 256) : st1 (85 + 256 * m) (b + 256 * y) = st1 85 b + 256 * st1 m y := by
  have h := (by1 ⟨b, hb⟩ ⟨y % 2, by omega⟩).1
  simp only at h
  unfold st1 at h ⊢
  rw [show (b + 256 * y) / 2 = (b / 2 + 128 * (y % 2)) + 256 * (y / 2) by omega, and_split _ _ _ _ (by omega) (by omega), and_split _ _ _ _ hb (by omega)]
  omega
theorem st2_byte (b y m : Nat) (hb : b ≤ 170) : st2 (51 + 256 * m) (b + 256 * y) = st2 51 b + 256 * st2 m y := by
  have h := (by2 ⟨b, by omega⟩ ⟨y % 4, by omega⟩).1
  simp only at h
  unfold st2 at h ⊢
  rw [show (b + 256 * y) / 4 = (b / 4 + 64 * (y % 4)) + 256 * (y / 4) by omega, and_split _ _ _ _ (by omega) (by omega), and_split _ _ _ _ (by omega) (by omega)]
  omega
theorem st3_byte (b y m : Nat) (hb1 : b % 16 ≤ 4) (hb2 : b / 16 ≤ 4) (hy : y % 16 ≤ 4) : st3 (15 + 256 * m) (b + 256 * y) = st3 15 b + 256 * st3 m y := by
  have h := by3 ⟨b, by omega⟩ ⟨y % 16, by omega⟩ hb1 hb2
  simp only at h
  unfold st3 at h ⊢
  rw [show (b + 256 * y) / 16 + (b + 256 * y) = (b / 16 + 16 * (y % 16) + b) + 256 * (y / 16 + y) by omega, and_split _ _ _ _ (by omega) (by omega), h]

theorem pop_join : ∀ (f k x y : Nat), x < 2 ^ f → Lib.popAux (f + k) (x + 2 ^ f * y) = Lib.popAux f x + Lib.popAux k y
  | 0, k, x, y, hx => by
    have : x = 0 := by simpa using hx
    subst this
    simp [Lib.popAux]
  | f + 1, k, x, y, hx => by
    have h2 : 2 ^ (f + 1) = 2 * 2 ^ f := by rw [Nat.pow_succ]; omega
    have ih := pop_join f k (x / 2) y (by omega)
    have e : 2 ^ (f + 1) * y = 2 * (2 ^ f * y) := by rw [h2, Nat.mul_assoc]
    rw [show f + 1 + k = (f + k) + 1 by omega]
    simp only [Lib.popAux]
    rw [show (x + 2 ^ (f + 1) * y) / 2 = x / 2 + 2 ^ f * y by rw [e]; omega, ih, show (x + 2 ^ (f + 1) * y) % 2 = x % 2 by rw [e]; omega]
    omega

/-- What the first three steps make of a number, byte by byte. -/
def swar (x : Nat) : Nat := st3 1085102592571150095 (st2 3689348814741910323 (st1 6148914691236517205 x))
theorem swar_bytes (b0 b1 b2 b3 b4 b5 b6 b7 : Nat) (h0 : b0 < 256) (h1 : b1 < 256) (h2 : b2 < 256) (h3 : b3 < 256) (h4 : b4 < 256) (h5 : b5 < 256) (h6 : b6 < 256) (h7 : b7 < 256) :
    swar (b0 + 256 * (b1 + 256 * (b2 + 256 * (b3 + 256 * (b4 + 256 * (b5 + 256 * (b6 + 256 * b7))))))) =
      Lib.popAux 8 b0 + 256 * (Lib.popAux 8 b1 + 256 * (Lib.popAux 8 b2 + 256 * (Lib.popAux 8 b3 + 256 * (Lib.popAux 8 b4 + 256 * (Lib.popAux 8 b5 + 256 * (Lib.popAux 8 b6 + 256 * Lib.popAux 8 b7)))))) := by
  have s1 : ∀ b, b < 256 → st1 85 b ≤ 170 := fun b hb => (by1 ⟨b, hb⟩ 0).2
  have s4 : ∀ b, b < 256 → st3 15 (st2 51 (st1 85 b)) = Lib.popAux 8 b ∧ st2 51 (st1 85 b) % 16 ≤ 4 ∧ st2 51 (st1 85 b) / 16 ≤ 4 := fun b hb => by4 ⟨b, hb⟩
  unfold swar
  rw [show 6148914691236517205 = 85 + 256 * (85 + 256 * (85 + 256 * (85 + 256 * (85 + 256 * (85 + 256 * (85 + 256 * 85)))))) from rfl,
    show 3689348814741910323 = 51 + 256 * (51 + 256 * (51 + 256 * (51 + 256 * (51 + 256 * (51 + 256 * (51 + 256 * 51)))))) from rfl,
    show 1085102592571150095 = 15 + 256 * (15 + 256 * (15 + 256 * (15 + 256 * (15 + 256 * (15 + 256 * (15 + 256 * 15)))))) from rfl]
  rw [st1_byte _ _ _ h0, st1_byte _ _ _ h1, st1_byte _ _ _ h2, st1_byte _ _ _ h3, st1_byte _ _ _ h4, st1_byte _ _ _ h5, st1_byte _ _ _ h6]
  rw [st2_byte _ _ _ (s1 _ h0), st2_byte _ _ _ (s1 _ h1), st2_byte _ _ _ (s1 _ h2), st2_byte _ _ _ (s1 _ h3), st2_byte _ _ _ (s1 _ h4), st2_byte _ _ _ (s1 _ h5), st2_byte _ _ _ (s1 _ h6)]
  obtain ⟨a0, c0, d0⟩ := s4 _ h0
  obtain ⟨a1, c1, d1⟩ := s4 _ h1
  obtain ⟨a2, c2, d2⟩ := s4 _ h2
  obtain ⟨a3, c3, d3⟩ := s4 _ h3
  obtain ⟨a4, c4, d4⟩ := s4 _ h4
  obtain ⟨a5, c5, d5⟩ := s4 _ h5
  obtain ⟨a6, c6, d6⟩ := s4 _ h6
  obtain ⟨a7, c7, d7⟩ := s4 _ h7
  rw [st3_byte _ _ _ c0 d0 (by omega), st3_byte _ _ _ c1 d1 (by omega), st3_byte _ _ _ c2 d2 (by omega), st3_byte _ _ _ c3 d3 (by omega), st3_byte _ _ _ c4 d4 (by omega), st3_byte _ _ _ c5 d5 (by omega), st3_byte _ _ _ c6 d6 (by omega), a0, a1, a2, a3, a4, a5, a6, a7]
theorem div_digit (p q x : Nat) (hx : x = p + 256 * q) (hp : p < 256) : x / 256 = q := by omega
theorem fold_bytes (x : Nat) (p0 p1 p2 p3 p4 p5 p6 p7 : Nat) (h0 : p0 ≤ 8) (h1 : p1 ≤ 8) (h2 : p2 ≤ 8) (h3 : p3 ≤ 8) (h4 : p4 ≤ 8) (h5 : p5 ≤ 8) (h6 : p6 ≤ 8) (h7 : p7 ≤ 8)
    (hx : x = p0 + 256 * (p1 + 256 * (p2 + 256 * (p3 + 256 * (p4 + 256 * (p5 + 256 * (p6 + 256 * p7))))))) :
    ((x + x / 256) + (x + x / 256) / 65536 + ((x + x / 256) + (x + x / 256) / 65536) / 4294967296) % 128 = p0 + p1 + p2 + p3 + p4 + p5 + p6 + p7 := by
  obtain ⟨q6, e6⟩ : ∃ q, q = p6 + 256 * p7 := ⟨_, rfl⟩
  obtain ⟨q5, e5⟩ : ∃ q, q = p5 + 256 * q6 := ⟨_, rfl⟩
  obtain ⟨q4, e4⟩ : ∃ q, q = p4 + 256 * q5 := ⟨_, rfl⟩
  obtain ⟨q3, e3⟩ : ∃ q, q = p3 + 256 * q4 := ⟨_, rfl⟩
  obtain ⟨q2, e2⟩ : ∃ q, q = p2 + 256 * q3 := ⟨_, rfl⟩
  obtain ⟨q1, e1⟩ : ∃ q, q = p1 + 256 * q2 := ⟨_, rfl⟩
  rw [← e6, ← e5, ← e4, ← e3, ← e2, ← e1] at hx
  rw [div_digit p0 q1 x hx (by omega)]
  have y1 : x + q1 = (p0 + p1) + 256 * (q1 + q2) := by omega
  have y2 : q1 + q2 = (p1 + p2) + 256 * (q2 + q3) := by omega
  have y3 : q2 + q3 = (p2 + p3) + 256 * (q3 + q4) := by omega
  have y4 : q3 + q4 = (p3 + p4) + 256 * (q4 + q5) := by omega
  have y5 : q4 + q5 = (p4 + p5) + 256 * (q5 + q6) := by omega
  have y6 : q5 + q6 = (p5 + p6) + 256 * (q6 + p7) := by omega
  have y7 : q6 + p7 = (p6 + p7) + 256 * p7 := by omega
  clear e1 e2 e3 e4 e5 e6 hx
  generalize x + q1 = r0 at *
  generalize q1 + q2 = r1 at *
  generalize q2 + q3 = r2 at *
  generalize q3 + q4 = r3 at *
  generalize q4 + q5 = r4 at *
  generalize q5 + q6 = r5 at *
  generalize q6 + p7 = r6 at *
  rw [show r0 / 65536 = r0 / 256 / 256 by omega, div_digit _ _ r0 y1 (by omega), div_digit _ _ r1 y2 (by omega)]
  have z1 : r0 + r2 = (p0 + p1 + p2 + p3) + 256 * (r1 + r3) := by omega
  have z2 : r1 + r3 = (p1 + p2 + p3 + p4) + 256 * (r2 + r4) := by omega
  have z3 : r2 + r4 = (p2 + p3 + p4 + p5) + 256 * (r3 + r5) := by omega
  have z4 : r3 + r5 = (p3 + p4 + p5 + p6) + 256 * (r4 + r6) := by omega
  have z5 : r4 + r6 = (p4 + p5 + p6 + p7) + 256 * (r5 + p7) := by omega
  clear y1 y2 y3 y4 y5 y6 y7
  generalize r0 + r2 = s0 at *
  generalize r1 + r3 = s1 at *
  generalize r2 + r4 = s2 at *
  generalize r3 + r5 = s3 at *
  generalize r4 + r6 = s4 at *
  rw [show s0 / 4294967296 = s0 / 256 / 256 / 256 / 256 by omega, div_digit _ _ s0 z1 (by omega), div_digit _ _ s1 z2 (by omega), div_digit _ _ s2 z3 (by omega), div_digit _ _ s3 z4 (by omega)]
  omega
theorem pop_bytes (b0 b1 b2 b3 b4 b5 b6 b7 : Nat) (h0 : b0 < 256) (h1 : b1 < 256) (h2 : b2 < 256) (h3 : b3 < 256) (h4 : b4 < 256) (h5 : b5 < 256) (h6 : b6 < 256) :
    Lib.popAux 64 (b0 + 256 * (b1 + 256 * (b2 + 256 * (b3 + 256 * (b4 + 256 * (b5 + 256 * (b6 + 256 * b7))))))) =
      Lib.popAux 8 b0 + Lib.popAux 8 b1 + Lib.popAux 8 b2 + Lib.popAux 8 b3 + Lib.popAux 8 b4 + Lib.popAux 8 b5 + Lib.popAux 8 b6 + Lib.popAux 8 b7 := by
  rw [show 64 = 8 + 56 from rfl, pop_join 8 56 b0 _ h0, show 56 = 8 + 48 from rfl, pop_join 8 48 b1 _ h1, show 48 = 8 + 40 from rfl, pop_join 8 40 b2 _ h2, show 40 = 8 + 32 from rfl, pop_join 8 32 b3 _ h3,
    show 32 = 8 + 24 from rfl, pop_join 8 24 b4 _ h4, show 24 = 8 + 16 from rfl, pop_join 8 16 b5 _ h5, show 16 = 8 + 8 from rfl, pop_join 8 8 b6 _ h6]
  omega
theorem swar_pop (x : Nat) (hx : x < 18446744073709551616) : ((swar x + swar x / 256) + (swar x + swar x / 256) / 65536 + ((swar x + swar x / 256) + (swar x + swar x / 256) / 65536) / 4294967296) % 128 = Lib.popAux 64 x ∧ swar x ≤ 1085102592571150095 := by
  refine ⟨?_, Nat.and_le_right⟩
  obtain ⟨b0, b1, b2, b3, b4, b5, b6, b7, h0, h1, h2, h3, h4, h5, h6, h7, rfl⟩ : ∃ b0 b1 b2 b3 b4 b5 b6 b7 : Nat, b0 < 256 ∧ b1 < 256 ∧ b2 < 256 ∧ b3 < 256 ∧ b4 < 256 ∧ b5 < 256 ∧ b6 < 256 ∧ b7 < 256 ∧ x = b0 + 256 * (b1 + 256 * (b2 + 256 * (b3 + 256 * (b4 + 256 * (b5 + 256 * (b6 + 256 * b7)))))) :=
    ⟨x % 256, x / 256 % 256, x / 65536 % 256, x / 16777216 % 256, x / 4294967296 % 256, x / 1099511627776 % 256, x / 281474976710656 % 256, x / 72057594037927936, by omega, by omega, by omega, by omega, by omega, by omega, by omega, by omega, by omega⟩
  rw [pop_bytes b0 b1 b2 b3 b4 b5 b6 b7 h0 h1 h2 h3 h4 h5 h6]
  exact fold_bytes _ _ _ _ _ _ _ _ _ (pop_lef _ _) (pop_lef _ _) (pop_lef _ _) (pop_lef _ _) (pop_lef _ _) (pop_lef _ _) (pop_lef _ _) (pop_lef _ _) (swar_bytes b0 b1 b2 b3 b4 b5 b6 b7 h0 h1 h2 h3 h4 h5 h6 h7)

theorem w64_nat (n : Nat) (h : n < 18446744073709551616) : IntKind.u64.wrap (n : Int) = n := by rw [IntKind.wrap_u64]; omega
theorem and64 (a b : Nat) (ha : a < 18446744073709551616) (hb : b < 18446744073709551616) : Go.bits .and .u64 (a : Int) (b : Int) = ((a &&& b : Nat) : Int) := u64_and_nat a b ha hb
theorem ones_end (x6 p : Nat) (b6 : x6 < 9223372036854775808) (h : x6 % 128 = p) : some (Go.bits .and .i64 (wrap64 (x6 : Int)) 127) = some (p : Int) := by
  have k4 : wrap64 (x6 : Int) = (x6 : Int) := by unfold wrap64; omega
  have := bits_mask .i64 63 (by decide) (fun n h0 h1 => by rw [IntKind.wrap_i64]; omega) 7 (by decide) (x6 : Int) (by omega) (by omega)
  rw [k4, show (127 : Int) = 2 ^ 7 - 1 by rfl, this, ← h]
  congr 1
theorem ones_val (n : Nat) (hn : n < 18446744073709551616) : bits_OnesCount64.f (n : Int) = some ((Lib.popAux 64 n : Nat) : Int) := by
  have hs := swar_pop n hn
  have b1 : st1 6148914691236517205 n ≤ 12297829382473034410 := by
    have := @Nat.and_le_right (n / 2) 6148914691236517205
    have := @Nat.and_le_right n 6148914691236517205
    unfold st1
    omega
  have e1 : Go.bits .and .u64 ((n : Int) / 2) 6148914691236517205 = ((n / 2 &&& 6148914691236517205 : Nat) : Int) := and64 (n / 2) 6148914691236517205 (by omega) (by omega)
  have e2 : Go.bits .and .u64 (n : Int) 6148914691236517205 = ((n &&& 6148914691236517205 : Nat) : Int) := and64 n 6148914691236517205 hn (by omega)
  have e3 : IntKind.u64.wrap (((n / 2 &&& 6148914691236517205 : Nat) : Int) + ((n &&& 6148914691236517205 : Nat) : Int)) = ((st1 6148914691236517205 n : Nat) : Int) := w64_nat (st1 6148914691236517205 n) (by omega)
  unfold swar at hs
  unfold bits_OnesCount64.f
  rw [e1, e2, e3]
  generalize st1 6148914691236517205 n = x1 at *
  have b2 : st2 3689348814741910323 x1 ≤ 7378697629483820646 := by
    have := @Nat.and_le_right (x1 / 4) 3689348814741910323
    have := @Nat.and_le_right x1 3689348814741910323
    unfold st2
    omega
  have f1 : Go.bits .and .u64 ((x1 : Int) / 4) 3689348814741910323 = ((x1 / 4 &&& 3689348814741910323 : Nat) : Int) := and64 (x1 / 4) 3689348814741910323 (by omega) (by omega)
  have f2 : Go.bits .and .u64 (x1 : Int) 3689348814741910323 = ((x1 &&& 3689348814741910323 : Nat) : Int) := and64 x1 3689348814741910323 (by omega) (by omega)
  have f3 : IntKind.u64.wrap (((x1 / 4 &&& 3689348814741910323 : Nat) : Int) + ((x1 &&& 3689348814741910323 : Nat) : Int)) = ((st2 3689348814741910323 x1 : Nat) : Int) := w64_nat (st2 3689348814741910323 x1) (by omega)
  rw [f1, f2, f3]
  generalize st2 3689348814741910323 x1 = x2 at *
  have g1 : IntKind.u64.wrap ((x2 : Int) / 16 + (x2 : Int)) = ((x2 / 16 + x2 : Nat) : Int) := w64_nat (x2 / 16 + x2) (by omega)
  have g2 : Go.bits .and .u64 ((x2 / 16 + x2 : Nat) : Int) 1085102592571150095 = ((st3 1085102592571150095 x2 : Nat) : Int) := and64 (x2 / 16 + x2) 1085102592571150095 (by omega) (by omega)
  rw [g1, g2]
  generalize st3 1085102592571150095 x2 = x3 at *
  have k1 : IntKind.u64.wrap ((x3 : Int) + (x3 : Int) / 256) = ((x3 + x3 / 256 : Nat) : Int) := w64_nat (x3 + x3 / 256) (by omega)
  rw [k1]
  have b4 : x3 + x3 / 256 ≤ 1089341274573693651 := by omega
  generalize x3 + x3 / 256 = x4 at *
  have k2 : IntKind.u64.wrap ((x4 : Int) + (x4 : Int) / 65536) = ((x4 + x4 / 65536 : Nat) : Int) := w64_nat (x4 + x4 / 65536) (by omega)
  rw [k2]
  have b5 : x4 + x4 / 65536 ≤ 1089360000000000000 := by omega
  generalize x4 + x4 / 65536 = x5 at *
  have k3 : IntKind.u64.wrap ((x5 : Int) + (x5 : Int) / 4294967296) = ((x5 + x5 / 4294967296 : Nat) : Int) := w64_nat (x5 + x5 / 4294967296) (by omega)
  rw [k3]
  have b6 : x5 + x5 / 4294967296 < 9223372036854775808 := by clear hs; omega
  have hs1 := hs.1
  clear hs
  generalize x5 + x5 / 4294967296 = x6 at *
  exact ones_end x6 _ b6 hs1
end Go.Proofs.Ytagcabmccpekaaa.M
