/- Words of this session: what a call may change ('Frm'), and how rows of the call's own live on. A row's 'post' where the call has at most laid new blocks (Below): 'post_of_same' with Below for the frame and for what is frozen. A parameter that is a slice of integers: what it reads as, and that it reads the same where the call has at most laid new blocks. Plain laws of places, with no program in sight: set bits, how many nodes n leaves have, the greatest n with so many nodes, peaks, the spots that a span needs. math/bits.OnesCount64's arithmetic counts the set bits. What the functions of pos and of massifref3 come to, by the plain laws. num.Short and massifref1.Short make the same bytes. num.Long reads back what num.Short writes, and reads nothing else. span.Places$1: the closure that appends a spot's place. -/
import Derived.Test.YtagcabmccpekaaaLeaf
import Derived.Test.YtagcabmccpekaaaRows
import Derived.WalkKit
import Derived.ProofKit
import Derived.OpenShut
import Derived.ChangeSlices
import Derived.Lib.BitFns
set_option linter.unusedVariables false
set_option linter.unusedSimpArgs false
set_option linter.unusedVariables false
set_option linter.unusedSimpArgs false
namespace Go.Proofs.Ytagcabmccpekaaa.M
open Go.RowKit Go.Proofs.YtagcabmccpekaaaW.PrintWords Go.Proofs.YtagcabmccpekaaaW.PrintLast Go.Proofs.YtagcabmccpekaaaW.PrintMore

/-- Of the blocks that were there only those of S may have changed. -/
structure Frm (S : Nat → Prop) (w w' : World) : Prop where
  os : w'.os = w.os
  tape : w'.tape = w.tape
  output : w'.output = w.output
  size : w.heap.size ≤ w'.heap.size
  block : ∀ k, k < w.heap.size → ¬ S k → w'.heap[k]? = w.heap[k]?

theorem Frm.refl (S : Nat → Prop) (w : World) : Frm S w w := ⟨rfl, rfl, rfl, Nat.le_refl _, fun _ _ _ => rfl⟩
theorem Frm.trans {S S' : Nat → Prop} {a b c : World} (h : Frm S a b) (k : Frm S' b c) (hs : ∀ i, i < a.heap.size → S' i → S i) : Frm S a c :=
  ⟨k.os.trans h.os, k.tape.trans h.tape, k.output.trans h.output, Nat.le_trans h.size k.size, fun i hi hn => (k.block i (Nat.lt_of_lt_of_le hi h.size) (fun hs' => hn (hs i hi hs'))).trans (h.block i hi hn)⟩
theorem Frm.of_below {w w' : World} (h : Below w.heap.size w w') (S : Nat → Prop) : Frm S w w' := ⟨h.os, h.tape, h.output, h.size, fun k hk _ => h.block k hk⟩
theorem Frm.below {S : Nat → Prop} {w w' : World} (h : Frm S w w') {B : Nat} (hB : B ≤ w.heap.size) (hs : ∀ i, S i → B ≤ i) : Below B w w' :=
  ⟨h.os, h.tape, h.output, h.size, fun k hk => h.block k (Nat.lt_of_lt_of_le hk hB) (fun hsk => by have := hs k hsk; omega)⟩
theorem Frm.of_grown {w w' : World} {row : Option Nat} (h : w.grownBy w' row) : Frm (fun k => some k = row) w w' := ⟨h.os, h.tape, h.output, h.size, fun k hk hn => h.block k hk hn⟩
theorem Frm.of_set (w : World) (p : Addr) (u : Value) : Frm (fun k => k = p.block) w (w.setCell p u) :=
  ⟨rfl, rfl, rfl, by simp [World.setCell], fun k _ hn => Below.heap_setCell w p u k hn⟩
theorem Frm.mono {S S' : Nat → Prop} {w w' : World} (h : Frm S w w') (hs : ∀ k, k < w.heap.size → S k → S' k) : Frm S' w w' :=
  ⟨h.os, h.tape, h.output, h.size, fun k hk hn => h.block k hk (fun hk' => hn (hs k hk hk'))⟩
theorem heap_new (w : World) (o : Obj) : (w.alloc o).heap[w.heap.size]? = some o := by
  show (w.heap.push o)[w.heap.size]? = some o
  simp
theorem heap_newN (w : World) (o : Obj) (n : Nat) : ((w.alloc o).drewN n).heap[w.heap.size]? = some o := heap_new w o
theorem bl_new (w : World) (o : Obj) : Below w.heap.size w (w.alloc o) := (Below.refl _ _).alloc (Nat.le_refl _) _
/-! Flat kinds: an element is its cells, whatever the world. -/
def Flat {α : Type} (d : Kd α) : Prop := ∀ (w w' : World) (b b' : Nat) (ok ok' : Nat → Prop) (x : α) (cs : List Value), d.M w b ok x cs → d.M w' b' ok' x cs
theorem flat_int (k : IntKind) : Flat (Kd.int k) := fun _ _ _ _ _ _ _ _ h => h
def flat {α : Type} (enc : α → List Value) (n : Nat) (hn : ∀ x, (enc x).length = n) (h1 : ∀ x, ∀ u ∈ enc x, u.oneCell' = true) : Kd α where
  sz := n
  E := []
  K := fun _ x cs => cs = enc x
  M := fun _ _ _ x cs => cs = enc x
  K_len := fun h => by rw [h]; exact hn _
  K_one := fun h u hu => by rw [h] at hu; exact h1 _ u hu
  K_below := fun _ h => h
  K_of_M := fun h => h
  M_mono := fun _ h => h
  M_bound := fun h => h
  M_move := fun _ h => h
  M_lower := fun _ h => h
/-- A hash: 32 numbers. -/
structure Hsh where
  b : List Int
  len : b.length = 32
deriving DecidableEq
def Hsh.cells (h : Hsh) : List Value := h.b.map (Value.int .u8)
theorem Hsh.cells_len (h : Hsh) : h.cells.length = 32 := by simp [Hsh.cells, h.len]
def kH : Kd Hsh := flat Hsh.cells 32 Hsh.cells_len (fun x u hu => by
  obtain ⟨y, _, rfl⟩ := List.mem_map.1 hu
  rfl)
theorem flat_kH : Flat kH := fun _ _ _ _ _ _ _ _ h => h
/-- A hash as a value. -/
def Hsh.val (h : Hsh) : Value := .agg h.cells.toArray

section
variable {α : Type} {d : Kd α} {e : Nat} {w w1 : World} {base : Nat} {v : Value} {xs : List α}
theorem R_self (hd : Flat d) (h : d.R e w base (fun _ => True) v xs) : d.R e w base (fun k => some k = v.ownBlock) v xs := by
  obtain ⟨_, q⟩ := h
  exact ⟨fun k hk => hk.symm, q.imp_ (fun _ _ hp => hd _ _ _ _ _ _ _ _ hp)⟩
theorem R_frm (hd : Flat d) (h : d.R e w base (fun _ => True) v xs) {S : Nat → Prop} (hf : Frm S w w1) (hS : ∀ k, v.ownBlock = some k → ¬ S k) : d.R e w1 base (fun _ => True) v xs :=
  Kd.R_mono (Kd.R_step (R_self hd h) (fun k hk hkl => hf.block k hkl (hS k hk.symm))) (fun _ _ => trivial)
end

section
variable {P : Program} {ops : Array Oper} {rest : List Oper} {o : Oper} {a : Act} {Q : Exit → Act → World → Prop} {α : Type}
/-- append(v, x), behind 'at_builtin': the row of one's own is longer by p. -/
theorem app_one (d : Kd α) {W : World} (base : Nat) (hgd : o.guard = none) (s x : Operand) (t e : TypeId) (z : Value) (bytes : Nat)
    (ho : o.op = .call { callee := .builtin .append, args := #[s, x], argTypes := #[t, t] })
    (ht : P.underlying t = some (.slice e)) (hinfo : (P.info? e).map (fun i => (i.zero, i.size, i.bytes)) = some (some z, d.sz, bytes)) (hz : z.cells.size = d.sz) (hs0 : 0 < d.sz) (hb0 : 0 < bytes)
    (v : Value) (xs : List α) (p : α) (cs : List Value) (hs : a.eval s = v) (hx : a.eval x = .slice (some ⟨W.heap.size, 0, none⟩) 1 1) (hp : d.M W base (fun _ => False) p cs)
    (HO : d.R e W base (fun _ => True) v xs) (hbase : base ≤ W.heap.size) (hl : (xs.length + 1) * bytes ≤ 140737488355328)
    (h : ∀ A1 c1 w1, d.R e w1 base (fun _ => True) (.slice A1 (xs.length + 1) c1) (xs ++ [p]) → Frm (fun k => some k = v.ownBlock) W w1 →
      ((Value.slice A1 (xs.length + 1) c1).ownBlock = v.ownBlock ∨ ∃ b, (Value.slice A1 (xs.length + 1) c1).ownBlock = some b ∧ W.heap.size ≤ b) → wpList P ops Q rest (a.put o.dst (.slice A1 (xs.length + 1) c1)) w1) :
    wpList P ops Q (o :: rest) a (W.alloc (.cells cs.toArray e)) := by
  refine Kd.R_append d (w0 := W) base hgd s x t e z bytes ho ht hinfo hz hs0 hb0 v xs p cs (fun _ => True) (fun _ => False) hs hx hp (fun _ hk => hk.elim) (fun _ _ => trivial) HO (Below.refl _ _) hbase hl ?_
  intro v1 w1 hr _ hg hat
  obtain ⟨A1, c1, e1⟩ := Kd.R_slice hr
  rw [List.length_append] at e1
  rw [e1] at hr hat ⊢
  exact h A1 c1 w1 hr (Frm.of_grown hg) hat
/-- append(v, ys...) of numbers. -/
theorem app_row (k : IntKind) {W : World} (base : Nat) (hgd : o.guard = none) (s x : Operand) (t e : TypeId) (z : Value) (bytes : Nat)
    (ho : o.op = .call { callee := .builtin .append, args := #[s, x], argTypes := #[t, t] })
    (ht : P.underlying t = some (.slice e)) (hinfo : (P.info? e).map (fun i => (i.zero, i.size, i.bytes)) = some (some z, 1, bytes)) (hz : z.cells.size = 1) (hb0 : 0 < bytes)
    (v : Value) (xs ys : List Int) (A : Option Addr) (m c : Nat) (hs : a.eval s = v) (hx : a.eval x = .slice A m c)
    (HO : (Kd.int k).R e W base (fun _ => True) v xs) (HR : (Kd.int k).C W A m ys) (hbase : base ≤ W.heap.size) (hl : (xs.length + m) * bytes ≤ 140737488355328)
    (h : ∀ A1 c1 w1, (Kd.int k).R e w1 base (fun _ => True) (.slice A1 (xs.length + m) c1) (xs ++ ys) → Frm (fun k => some k = v.ownBlock) W w1 →
      ((Value.slice A1 (xs.length + m) c1).ownBlock = v.ownBlock ∨ ∃ b, (Value.slice A1 (xs.length + m) c1).ownBlock = some b ∧ W.heap.size ≤ b) → wpList P ops Q rest (a.put o.dst (.slice A1 (xs.length + m) c1)) w1) :
    wpList P ops Q (o :: rest) a W := by
  refine Kd.R_append_row (Value.int k) 0 (w0 := W) base hgd s x t e z bytes ho ht hinfo hz hb0 v xs ys A m c (fun _ => True) hs hx (fun _ _ => trivial) HO HR (Below.refl _ _) hbase hl ?_
  intro v1 w1 hr _ hg hat
  obtain ⟨A1, c1, e1⟩ := Kd.R_slice hr
  rw [List.length_append, Kd.C_len HR] at e1
  rw [e1] at hr hat ⊢
  exact h A1 c1 w1 hr (Frm.of_grown hg) hat
/-- append(v, ys...) of elements of a flat kind. -/
theorem app_rows (d : Kd α) (hKM : ∀ (w : World) b ok x cs, d.K w x cs → d.M w b ok x cs) {W : World} (base : Nat) (hgd : o.guard = none) (s x : Operand) (t e : TypeId) (z : Value) (bytes : Nat)
    (ho : o.op = .call { callee := .builtin .append, args := #[s, x], argTypes := #[t, t] })
    (ht : P.underlying t = some (.slice e)) (hinfo : (P.info? e).map (fun i => (i.zero, i.size, i.bytes)) = some (some z, d.sz, bytes)) (hz : z.cells.size = d.sz) (hs0 : 0 < d.sz) (hb0 : 0 < bytes)
    (v : Value) (xs ys : List α) (A : Option Addr) (m c : Nat) (hs : a.eval s = v) (hx : a.eval x = .slice A m c)
    (HO : d.R e W base (fun _ => True) v xs) (HR : d.C W A m ys) (hbase : base ≤ W.heap.size) (hl : (xs.length + m) * bytes ≤ 140737488355328)
    (h : ∀ A1 c1 w1, d.R e w1 base (fun _ => True) (.slice A1 (xs.length + m) c1) (xs ++ ys) → Frm (fun k => some k = v.ownBlock) W w1 →
      ((Value.slice A1 (xs.length + m) c1).ownBlock = v.ownBlock ∨ ∃ b, (Value.slice A1 (xs.length + m) c1).ownBlock = some b ∧ W.heap.size ≤ b) → wpList P ops Q rest (a.put o.dst (.slice A1 (xs.length + m) c1)) w1) :
    wpList P ops Q (o :: rest) a W := by
  refine Kd.R_append_rows d (Rr := d.K W) (w0 := W) base hgd s x t e z bytes ho ht hinfo hz hs0 hb0 v xs ys A m c (fun _ => True) (fun _ => False) hs hx HO HR (fun x cs hk => hKM W base _ x cs hk) (fun _ hk => hk.elim) (fun _ _ => trivial) (Below.refl _ _) hbase hl ?_
  intro v1 w1 hr _ hg hat
  obtain ⟨A1, c1, e1⟩ := Kd.R_slice hr
  rw [List.length_append, Kd.C_len HR] at e1
  rw [e1] at hr hat ⊢
  exact h A1 c1 w1 hr (Frm.of_grown hg) hat
end

theorem bcell {W w1 : World} (hb : Below W.heap.size W w1) : (∀ b o, b < W.heap.size → w1.cell? ⟨b, o, none⟩ = W.cell? ⟨b, o, none⟩) ∧ (∀ b o, b < W.heap.size → w1.frozen? ⟨b, o, none⟩ = W.frozen? ⟨b, o, none⟩) :=
  ⟨fun b o h => hb.cell (p := ⟨b, o, none⟩) h, fun b o h => hb.frozen (p := ⟨b, o, none⟩) h⟩
theorem below_on {B : Nat} {w W w1 : World} (h : Below B w W) (hB : B ≤ W.heap.size) (k : Below W.heap.size W w1) : Below B w w1 := h.trans (k.mono hB)

theorem blt {w W w1 : World} (h : Below w.heap.size w W) (k : Below W.heap.size W w1) : Below w.heap.size w w1 := h.trans (k.mono h.size)
theorem keep3 {W w' : World} {b : Nat} {v0 v1 v2 : Value} (h0 : W.cell? ⟨b, 0, none⟩ = some v0) (h1 : W.cell? ⟨b, 1, none⟩ = some v1) (h2 : W.cell? ⟨b, 2, none⟩ = some v2) (hz : b < W.heap.size) (hb : Below W.heap.size W w') :
    w'.cell? ⟨b, 0, none⟩ = some v0 ∧ w'.cell? ⟨b, 1, none⟩ = some v1 ∧ w'.cell? ⟨b, 2, none⟩ = some v2 :=
  ⟨((bcell hb).1 b 0 hz).trans h0, ((bcell hb).1 b 1 hz).trans h1, ((bcell hb).1 b 2 hz).trans h2⟩
/-- A slice value that reads as these numbers (of one kind). -/
def Rd (k : IntKind) (w : World) (v : Value) (xs : List Int) : Prop := ∃ A c, v = .slice A xs.length c ∧ xs.length ≤ c ∧ (Kd.int k).C w A xs.length xs
theorem Rd.below {k : IntKind} {w w1 : World} {v : Value} {xs : List Int} (h : Rd k w v xs) (hb : Below w.heap.size w w1) : Rd k w1 v xs := by
  obtain ⟨A, c, e, hl, hc⟩ := h
  exact ⟨A, c, e, hl, Kd.C_below hc hb⟩
theorem Rd.alloc {k : IntKind} {w : World} {v : Value} {xs : List Int} (h : Rd k w v xs) (o : Obj) : Rd k (w.alloc o) v xs := h.below (bl_new w o)
theorem Rd.drewN {k : IntKind} {w : World} {v : Value} {xs : List Int} (h : Rd k w v xs) (n : Nat) : Rd k (w.drewN n) v xs := h.below (pw_below_drewN (Below.refl _ _) n)
theorem Rd.drew {k : IntKind} {w : World} {v : Value} {xs : List Int} (h : Rd k w v xs) : Rd k w.drew v xs := h.below (below_drew (Below.refl _ _))
theorem Rd.of_R {k : IntKind} {e base : Nat} {w : World} {v : Value} {xs : List Int} (h : (Kd.int k).R e w base (fun _ => True) v xs) : Rd k w v xs := by
  obtain ⟨A, c, e1, hl, hc⟩ := Kd.R_reads h
  exact ⟨A, c, e1, hl, hc⟩
theorem C_int_block (k : IntKind) {w : World} {b : Nat} {cs : Array Value} {t : TypeId} {fz : Nat × Nat} {xs : List Int} (h : w.heap[b]? = some (.cells cs t fz)) (hm : xs.length ≤ 9223372036854775807) (hc : ∀ (j : Nat) (x : Int), xs[j]? = some x → cs[j]? = some (.int k x)) :
    (Kd.int k).C w (some ⟨b, 0, none⟩) xs.length xs := by
  refine ⟨rfl, hm, fun _ => ⟨_, rfl, fun j x hj => ⟨[.int k x], rfl, rfl, fun i u hi => ?_⟩⟩⟩
  cases i with
  | zero =>
    simp at hi
    subst hi
    rw [show j * (Kd.int k).sz + 0 = j from Nat.mul_one j, add_plain]
    show (match w.heap[b]? with | some (.cells c _ _) => if (none : Option Nat).isSome then none else c[j]? | _ => none) = _
    rw [h]
    exact hc j x hj
  | succ i => simp at hi
theorem Rd.one (k : IntKind) (w : World) (x : Int) (e : Nat) {b : Nat} (hb : b = w.heap.size) : Rd k (w.alloc (.cells #[.int k x] e)) (.slice (some ⟨b, 0, none⟩) 1 1) [x] := by
  subst hb
  refine ⟨some ⟨w.heap.size, 0, none⟩, 1, rfl, by simp, C_int_block k (heap_new w _) (by simp) (fun j y hj => ?_)⟩
  cases j with
  | zero => simp at hj; subst hj; rfl
  | succ j => simp at hj
/-- A block of slices that read as rows. -/
theorem C_rows (k : IntKind) (e : Nat) {w : World} {b : Nat} {cs : Array Value} {t : TypeId} {fz : Nat × Nat} {xs : List (List Int)} (h : w.heap[b]? = some (.cells cs t fz)) (hm : xs.length ≤ 9223372036854775807) (hc : ∀ (j : Nat) (x : List Int), xs[j]? = some x → ∃ v, cs[j]? = some v ∧ Rd k w v x) :
    Kd.C (Kd.slice e (Kd.int k)) w (some ⟨b, 0, none⟩) xs.length xs := by
  refine ⟨rfl, hm, fun _ => ⟨_, rfl, fun j x hj => ?_⟩⟩
  obtain ⟨v, hv, A, c, rfl, hl, hr⟩ := hc j x hj
  refine ⟨[_], rfl, ⟨A, c, rfl, hl, hr⟩, fun i u hi => ?_⟩
  cases i with
  | zero =>
    simp at hi
    subst hi
    rw [show j * (Kd.slice e (Kd.int k)).sz + 0 = j from Nat.mul_one j, add_plain]
    show (match w.heap[b]? with | some (.cells c _ _) => if (none : Option Nat).isSome then none else c[j]? | _ => none) = _
    rw [h]
    exact hv
  | succ i => simp at hi
theorem C_rows4 (k : IntKind) (e : Nat) (w : World) (v0 v1 v2 v3 : Value) (t : TypeId) (x0 x1 x2 x3 : List Int) (h0 : Rd k w v0 x0) (h1 : Rd k w v1 x1) (h2 : Rd k w v2 x2) (h3 : Rd k w v3 x3) {b : Nat} (hb : b = w.heap.size) :
    Kd.C (Kd.slice e (Kd.int k)) (w.alloc (.cells #[v0, v1, v2, v3] t)) (some ⟨b, 0, none⟩) 4 [x0, x1, x2, x3] := by
  subst hb
  refine C_rows k e (heap_new w _) (by simp) (fun j x hj => ?_)
  match j, hj with
  | 0, hj => exact ⟨v0, rfl, by simp at hj; subst hj; exact h0.alloc _⟩
  | 1, hj => exact ⟨v1, rfl, by simp at hj; subst hj; exact h1.alloc _⟩
  | 2, hj => exact ⟨v2, rfl, by simp at hj; subst hj; exact h2.alloc _⟩
  | 3, hj => exact ⟨v3, rfl, by simp at hj; subst hj; exact h3.alloc _⟩
  | j + 4, hj => simp at hj
end Go.Proofs.Ytagcabmccpekaaa.M

set_option linter.unusedVariables false
set_option linter.unusedSimpArgs false
namespace Go.Proofs.Ytagcabmccpekaaa.M
open Go.ChangeShapes Go.WideShapes Go.ChangeAt Go.RowKit

theorem post_of_below {H : Type} {enc : TypeId × Value → H} {P : Program} {f : Func} {s : ChangeSpec} {apart fresh handsOn again : Bool} {W W' : World} {args : Array Value} {v : Value} {ds gs : List (DataW H)} {before pa pv : List MemPlace}
    (hW : DataW.Whole enc P f.params.toList s.vars apart W args.toList ds gs before)
    (hres : ∀ (b : Nat) (sp : Nat → Bool) (hd : Bool), DataW.TrodAll enc P W' b sp hd f.resultTypes.toList (v.resultList f.resultTypes.size) (s.fn H (ds ++ gs)).results [])
    (hargs : ∀ sp : Nat → Bool, (∀ p ∈ before, sp p.block = true) → DataW.TrodAll enc P W' 0 sp true f.params.toList args.toList (s.fn H (ds ++ gs)).args pa)
    (hvars : ∀ sp : Nat → Bool, (∀ p ∈ before, sp p.block = true) → DataW.TrodVars enc P W' sp s.vars (s.fn H (ds ++ gs)).vars pv)
    (hps : before = pa ++ pv) (hb : Below W.heap.size W W')
    (hok : ∀ (j : Nat) (t : TypeId) (r : Value), f.resultTypes[j]? = some t → (v.resultList f.resultTypes.size)[j]? = some r → Value.okWide P W' .any 0 t r) :
    s.post enc P f apart fresh handsOn again W args v W' := by
  have hold : ∀ p ∈ before, (fun b => decide (b < W.heap.size)) p.block = true := fun p hp => by simpa using hW.lt p hp
  have hlt := hW.lt
  refine ⟨ds, gs, before, [], pa, pv, hW, hres _ _ _, hargs _ hold, hvars _ hold, World.keptBut_mono (fun p hp => ⟨hp, ?_⟩) (hb.frame (· ∈ before)), fun _ => ?_⟩
  · rw [hps, List.mem_append] at hp
    exact Or.inr hp
  · obtain ⟨_, _, _, _, _, hz, hn⟩ := hW
    refine ⟨hok, _, _, ([] ++ pa) ++ pv, ⟨[] ++ pa, pv, trodAll_append (hargs _ (fun _ _ => rfl)) (hres _ _ _), hvars _ (fun _ _ => rfl), rfl, ?_, ?_⟩, ?_⟩
    · intro b off hp
      have hm : MemPlace.cell b off ∈ before := by rw [hps]; simpa using hp
      rw [hb.frozen (p := ⟨b, off, none⟩) (hlt _ hm)]
      exact hz b off hm
    · intro ha
      have := hn ha
      rw [hps] at this
      simpa using this
    · intro p hp _
      rw [hps]
      simpa using hp
end Go.Proofs.Ytagcabmccpekaaa.M

set_option linter.unusedVariables false
set_option linter.unusedSimpArgs false
namespace Go.Proofs.Ytagcabmccpekaaa.M
open Go.ChangeShapes Go.WideShapes Go.ChangeAt Go.RowKit Go.Proofs.YtagcabmccpekaaaW.PrintWords Go.Proofs.YtagcabmccpekaaaW.PrintLast Go.Proofs.YtagcabmccpekaaaW.PrintMore

theorem open_row {H : Type} {enc : TypeId × Value → H} {P : Program} {W : World} {t e : TypeId} {k : IntKind} {v : Value} {d : DataW H} {ps : List MemPlace} (ht : P.underlying t = some (.slice e)) (he : P.underlying e = some (.int k)) (hc : P.cellsOf e = 1)
    (hval : Value.okWide P W .any 0 t v) (hd : DataW.Trod enc P W 0 (fun _ => true) true t v d ps) :
    ∃ (A : Option Addr) (cap : Nat) (xs : List Int), v = .slice A xs.length cap ∧ xs.length ≤ cap ∧ cap ≤ 9223372036854775807 ∧ Kd.C (Kd.int k) W A xs.length xs ∧ (∀ x ∈ xs, (Lit.int k x).wf = true) ∧
      ∀ W', Below W.heap.size W W' → ∀ sp : Nat → Bool, (∀ p ∈ ps, sp p.block = true) → DataW.Trod enc P W' 0 sp true t v d ps := by
  obtain ⟨a0, len0, cap0, rfl⟩ := okWide_slice ht hval
  obtain ⟨fuel, hf⟩ := hd
  rcases open_ints ht he hc hf with ⟨hcs, hx⟩ | ⟨a, len, cap, zs, hcs, _, hle, hmax, hall, hx, hcell, hwf⟩
  · simp [Value.cells] at hcs
    obtain ⟨rfl, rfl, rfl⟩ := hcs
    simp only [Prod.mk.injEq] at hx
    obtain ⟨rfl, rfl⟩ := hx
    refine ⟨none, 0, [], rfl, Nat.le_refl _, by omega, ⟨rfl, by simp, fun h => absurd h (by simp)⟩, fun x hx => by simp at hx, fun W' _ sp _ => ⟨1, ?_⟩⟩
    simp [DataW.trod, ht, Value.cells]
  · simp [Value.cells] at hcs
    obtain ⟨rfl, rfl, rfl⟩ := hcs
    simp only [Prod.mk.injEq] at hx
    obtain ⟨rfl, rfl⟩ := hx
    simp only [if_true] at hall
    have hmax2 : cap0 ≤ 9223372036854775807 := hmax
    have hlen : (zs.take len0).length = len0 := by rw [List.length_take]; omega
    refine ⟨some a, cap0, zs.take len0, by rw [hlen], by omega, hmax2, ⟨rfl, by omega, fun _ => ⟨a, rfl, fun j x hj => ⟨[.int k x], rfl, rfl, fun i u hi => ?_⟩⟩⟩, fun x hx => hwf x (List.mem_of_mem_take hx), fun W' hb sp hsp => ?_⟩
    · cases i with
      | succ i => simp at hi
      | zero =>
        simp at hi
        subst hi
        rw [Nat.add_zero]
        rw [List.getElem?_take] at hj
        split at hj
        · next hjl =>
          have hjz : j < zs.length := by omega
          have := hcell j hjz
          rw [show (Kd.int k).sz = 1 from rfl, Nat.mul_one, this]
          rw [List.getD_eq_getElem?_getD, hj]
          rfl
        · simp at hj
    · refine ⟨2, shut_ints 0 ht he hc (Nat.zero_le _) hle hmax ?_ (fun i hi => ?_) hwf⟩
      · by_cases h0 : zs.length = 0
        · split <;> omega
        · rw [if_pos, hall]
          have := hsp (.cell a.block (a.off + 0)) (List.mem_map.2 ⟨0, List.mem_range.2 (by omega), rfl⟩)
          exact this
      · have h1 := hcell i hi
        have hlt : (a.add i).block < W.heap.size := by
          refine Decidable.by_contra (fun hn => ?_)
          have hnone : W.heap[(a.add i).block]? = none := Array.getElem?_eq_none (by omega)
          simp [World.cell?, hnone] at h1
        rw [World.cell?_of_block (hb.block _ hlt)]
        exact h1
end Go.Proofs.Ytagcabmccpekaaa.M

set_option linter.unusedVariables false
set_option linter.unusedSimpArgs false
namespace Go.Proofs.Ytagcabmccpekaaa.M

theorem pop_le : ∀ (f x : Nat), Lib.popAux f x ≤ x
  | 0, _ => Nat.zero_le _
  | f + 1, x => by
    have := pop_le f (x / 2)
    simp only [Lib.popAux]
    omega
theorem pop_lef : ∀ (f x : Nat), Lib.popAux f x ≤ f
  | 0, _ => Nat.zero_le _
  | f + 1, x => by
    have := pop_lef f (x / 2)
    simp only [Lib.popAux]
    omega
theorem pop_zero : ∀ f, Lib.popAux f 0 = 0
  | 0 => rfl
  | f + 1 => by simp only [Lib.popAux]; rw [pop_zero f]
theorem pop_fuel : ∀ (f x g : Nat), x < 2 ^ f → f ≤ g → Lib.popAux g x = Lib.popAux f x
  | 0, x, g, hx, _ => by
    have : x = 0 := by simpa using hx
    subst this
    rw [pop_zero, pop_zero]
  | f + 1, x, g, hx, hg => by
    obtain ⟨g, rfl⟩ : ∃ g', g = g' + 1 := ⟨g - 1, by omega⟩
    simp only [Lib.popAux]
    rw [pop_fuel f (x / 2) g (by rw [Nat.pow_succ] at hx; omega) (by omega)]
theorem pop_top : ∀ (g x : Nat), x < 2 ^ g → Lib.popAux (g + 1) (2 ^ g + x) = 1 + Lib.popAux g x
  | 0, x, hx => by
    have : x = 0 := by simpa using hx
    subst this
    rfl
  | g + 1, x, hx => by
    have h2 : 2 ^ (g + 1) = 2 * 2 ^ g := by rw [Nat.pow_succ]; omega
    have ih := pop_top g (x / 2) (by omega)
    rw [show Lib.popAux (g + 1 + 1) (2 ^ (g + 1) + x) = (2 ^ (g + 1) + x) % 2 + Lib.popAux (g + 1) ((2 ^ (g + 1) + x) / 2) from rfl, show (2 ^ (g + 1) + x) / 2 = 2 ^ g + x / 2 by omega, ih, show Lib.popAux (g + 1) x = x % 2 + Lib.popAux g (x / 2) from rfl]
    omega

/-- How many nodes n leaves have. -/
def nodesN (n : Nat) : Nat := 2 * n - Lib.popAux 64 n
theorem nodes_top (g x : Nat) (hg : g ≤ 63) (hx : x < 2 ^ g) : nodesN (2 ^ g + x) = 2 ^ (g + 1) - 1 + nodesN x := by
  unfold nodesN
  have h2 : 2 ^ (g + 1) = 2 * 2 ^ g := by rw [Nat.pow_succ]; omega
  rw [pop_fuel (g + 1) (2 ^ g + x) 64 (by omega) (by omega), pop_top g x hx, pop_fuel g x 64 hx (by omega)]
  have := pop_le g x
  have : 0 < 2 ^ g := Nat.pow_pos (by omega)
  omega
theorem nodes_lt (g x : Nat) (hg : g ≤ 63) (hx : x < 2 ^ g) : nodesN x + g ≤ 2 ^ (g + 1) - 2 := by
  induction g generalizing x with
  | zero =>
    have : x = 0 := by simpa using hx
    subst this
    decide
  | succ g ih =>
    have h2 : 2 ^ (g + 1) = 2 * 2 ^ g := by rw [Nat.pow_succ]; omega
    have h3 : 2 ^ (g + 1 + 1) = 2 * 2 ^ (g + 1) := by rw [Nat.pow_succ]; omega
    have hp : 0 < 2 ^ g := Nat.pow_pos (by omega)
    by_cases hb : x < 2 ^ g
    · have := ih x (by omega) hb
      omega
    · have := ih (x - 2 ^ g) (by omega) (by omega)
      rw [show x = 2 ^ g + (x - 2 ^ g) by omega, nodes_top g _ (by omega) (by omega)]
      omega
theorem nodes_half (x : Nat) (hx : x < 2 ^ 64) : nodesN x = x + nodesN (x / 2) := by
  unfold nodesN
  rw [show Lib.popAux 64 x = x % 2 + Lib.popAux 63 (x / 2) from rfl, pop_fuel 63 (x / 2) 64 (by omega) (by omega)]
  have := pop_le 63 (x / 2)
  omega
theorem nodes_zero : nodesN 0 = 0 := by decide
theorem nodes_le (x : Nat) : nodesN x ≤ 2 * x := by unfold nodesN; omega

/-- The greatest n of which not more than p nodes come, by g bits. -/
def lastF : Nat → Nat → Nat
  | 0, _ => 0
  | g + 1, p => if 2 ^ (g + 1) - 1 ≤ p then 2 ^ g + lastF g (p - (2 ^ (g + 1) - 1)) else lastF g p
theorem lastF_nodes (h : Nat) : ∀ (g x : Nat), g ≤ 63 → x < 2 ^ g → (∀ b, b < h → b < g → x.testBit b = true) → lastF g (nodesN x + h) = x
  | 0, x, _, hx, _ => by
    have : x = 0 := by simpa using hx
    subst this
    rfl
  | g + 1, x, hg, hx, hb => by
    have h2 : 2 ^ (g + 1) = 2 * 2 ^ g := by rw [Nat.pow_succ]; omega
    have hp : 0 < 2 ^ g := Nat.pow_pos (by omega)
    simp only [lastF]
    by_cases hs : x < 2 ^ g
    · have hn : ¬ g < h := by
        intro hgh
        have := hb g hgh (by omega)
        rw [Nat.testBit_lt_two_pow hs] at this
        exact absurd this (by simp)
      have := nodes_lt g x (by omega) hs
      rw [if_neg (by omega)]
      exact lastF_nodes h g x (by omega) hs (fun b h1 h2 => hb b h1 (by omega))
    · obtain ⟨y, rfl⟩ : ∃ y, x = 2 ^ g + y := ⟨x - 2 ^ g, by omega⟩
      rw [nodes_top g y (by omega) (by omega), if_pos (by omega), show 2 ^ (g + 1) - 1 + nodesN y + h - (2 ^ (g + 1) - 1) = nodesN y + h by omega]
      rw [lastF_nodes h g y (by omega) (by omega) (fun b h1 h2 => by
        have := hb b h1 (by omega)
        rwa [Nat.testBit_two_pow_add_gt h2] at this)]

/-- The place of a spot. -/
def placeN (h i : Nat) : Nat := nodesN ((i + 1) * 2 ^ h - 1) + h
theorem bits_low (h i b : Nat) (hb : b < h) : ((i + 1) * 2 ^ h - 1).testBit b = true := by
  have hp : 0 < 2 ^ h := Nat.pow_pos (by omega)
  rw [show (i + 1) * 2 ^ h - 1 = 2 ^ h * i + (2 ^ h - 1) by rw [Nat.add_mul, Nat.mul_comm i]; omega, Nat.testBit_two_pow_mul_add i (by omega), if_pos hb, Nat.testBit_two_pow_sub_one]
  simp [hb]
theorem last_place (h i : Nat) (hi : (i + 1) * 2 ^ h ≤ 2 ^ 62) : lastF 63 (placeN h i) = (i + 1) * 2 ^ h - 1 := by
  unfold placeN
  exact lastF_nodes h 63 _ (by omega) (by omega) (fun b hb _ => bits_low h i b hb)
theorem place_sub (h i : Nat) : placeN h i - nodesN ((i + 1) * 2 ^ h - 1) = h := by unfold placeN; omega
theorem height_le (h i : Nat) (hi : (i + 1) * 2 ^ h ≤ 2 ^ 62) : h ≤ 62 := by
  have h1 : 2 ^ h ≤ (i + 1) * 2 ^ h := Nat.le_mul_of_pos_left _ (by omega)
  exact (Nat.pow_le_pow_iff_right (by omega : 1 < 2)).1 (Nat.le_trans h1 hi)
theorem place_lt (h i : Nat) (hi : (i + 1) * 2 ^ h ≤ 2 ^ 62) : placeN h i ≤ 2 ^ 63 - 2 := by
  have hp : 0 < 2 ^ h := Nat.pow_pos (by omega)
  have := height_le h i hi
  have := nodes_lt 62 ((i + 1) * 2 ^ h - 1) (by omega) (by omega)
  unfold placeN
  omega

/-- The peaks' spots of n leaves, of the heights below g, from the highest on. -/
def topsF : Nat → Nat → List (Nat × Nat)
  | 0, _ => []
  | g + 1, n => (if n.testBit g then [(g, n / 2 ^ g - 1)] else []) ++ topsF g n
def topsN (n : Nat) : List (Nat × Nat) := topsF 63 n
theorem topsF_len : ∀ g n, (topsF g n).length ≤ g
  | 0, _ => Nat.le_refl _
  | g + 1, n => by
    have := topsF_len g n
    simp only [topsF, List.length_append]
    split <;> simp <;> omega
theorem tops_fit : ∀ (g n : Nat) (s : Nat × Nat), s ∈ topsF g n → s.1 < g ∧ (s.2 + 1) * 2 ^ s.1 ≤ n
  | 0, _, s, hs => by simp [topsF] at hs
  | g + 1, n, s, hs => by
    simp only [topsF, List.mem_append] at hs
    rcases hs with hs | hs
    · split at hs
      · next hb =>
        simp at hs
        subst hs
        have hp : 0 < 2 ^ g := Nat.pow_pos (by omega)
        have h1 : 2 ^ g ≤ n := Nat.ge_two_pow_of_testBit hb
        have h2 : 1 ≤ n / 2 ^ g := (Nat.one_le_div_iff hp).2 h1
        refine ⟨by simp, ?_⟩
        show (n / 2 ^ g - 1 + 1) * 2 ^ g ≤ n
        rw [Nat.sub_add_cancel h2]
        exact Nat.div_mul_le_self n (2 ^ g)
      · simp at hs
    · have := tops_fit g n s hs
      exact ⟨by omega, this.2⟩

/-- The spots at or under (h, i) that the span f, .., t - 1 needs, from the left. -/
def spots (f t : Nat) : Nat → Nat → List (Nat × Nat)
  | 0, i => if t ≤ f ∨ i + 1 ≤ f ∨ t ≤ i then [(0, i)] else []
  | h + 1, i => if t ≤ f ∨ (i + 1) * 2 ^ (h + 1) ≤ f ∨ t ≤ i * 2 ^ (h + 1) then [(h + 1, i)] else
      if f ≤ i * 2 ^ (h + 1) ∧ (i + 1) * 2 ^ (h + 1) ≤ t then [] else spots f t h (2 * i) ++ spots f t h (2 * i + 1)
theorem kid_left (h i : Nat) : (2 * i) * 2 ^ h = i * 2 ^ (h + 1) := by rw [Nat.pow_succ, Nat.mul_comm 2 i, Nat.mul_assoc, Nat.mul_comm 2]
theorem kid_mid (h i : Nat) : (2 * i + 1) * 2 ^ h = i * 2 ^ (h + 1) + 2 ^ h := by rw [Nat.add_mul, kid_left, Nat.one_mul]
theorem kid_right (h i : Nat) : (2 * i + 1 + 1) * 2 ^ h = (i + 1) * 2 ^ (h + 1) := by rw [show 2 * i + 1 + 1 = 2 * (i + 1) by omega, kid_left]
theorem spots_left (f t : Nat) : ∀ (h i : Nat), f ≤ i * 2 ^ h → (spots f t h i).length ≤ h + 1
  | 0, i, _ => by simp only [spots]; split <;> simp
  | h + 1, i, hf => by
    simp only [spots]
    split
    · simp
    · next c =>
      split
      · simp
      · next c2 =>
        have hk := kid_mid h i
        have h1 := spots_left f t h (2 * i) (by rw [kid_left]; exact hf)
        have hp : 0 < 2 ^ h := Nat.pow_pos (by omega)
        have h2 := spots_left f t h (2 * i + 1) (by rw [hk]; omega)
        rw [List.length_append]
        by_cases hm : t ≤ i * 2 ^ (h + 1) + 2 ^ h
        · have : (spots f t h (2 * i + 1)).length = 1 := by
            cases h <;> simp only [spots] <;> rw [if_pos (by first | (right; right; simp at hm ⊢; omega) | (right; right; rw [hk]; exact hm))] <;> rfl
          omega
        · have : (spots f t h (2 * i)).length = 0 := by
            have h3 : (2 * i + 1) * 2 ^ h = i * 2 ^ (h + 1) + 2 ^ h := hk
            have h4 : (2 * i) * 2 ^ h = i * 2 ^ (h + 1) := kid_left h i
            have hp : 0 < 2 ^ h := Nat.pow_pos (by omega)
            cases h with
            | zero => simp only [spots]; rw [if_neg (by simp at hm h4 hf; omega)]; rfl
            | succ h => simp only [spots]; rw [if_neg (by omega), if_pos (by omega)]; rfl
          omega
theorem spots_right (f t : Nat) : ∀ (h i : Nat), (i + 1) * 2 ^ h ≤ t → (spots f t h i).length ≤ h + 1
  | 0, i, _ => by simp only [spots]; split <;> simp
  | h + 1, i, hf => by
    simp only [spots]
    split
    · simp
    · next c =>
      split
      · simp
      · next c2 =>
        have hk := kid_mid h i
        have hr := kid_right h i
        have h1 := spots_right f t h (2 * i) (Nat.le_trans (Nat.mul_le_mul_right (2 ^ h) (by omega : 2 * i + 1 ≤ 2 * i + 1 + 1)) (by rw [hr]; exact hf))
        have h2 := spots_right f t h (2 * i + 1) (by rw [hr]; exact hf)
        rw [List.length_append]
        by_cases hm : i * 2 ^ (h + 1) + 2 ^ h ≤ f
        · have : (spots f t h (2 * i)).length = 1 := by
            cases h <;> simp only [spots] <;> rw [if_pos (by first | (right; left; simp at hm ⊢; omega) | (right; left; rw [hk]; exact hm))] <;> rfl
          omega
        · have : (spots f t h (2 * i + 1)).length = 0 := by
            have hx : (2 * i + 1 + 1) * 2 ^ h = (2 * i + 1) * 2 ^ h + 2 ^ h := by rw [Nat.add_mul (2 * i + 1), Nat.one_mul]
            have hp : 0 < 2 ^ h := Nat.pow_pos (by omega)
            cases h with
            | zero => simp only [spots]; rw [if_neg (by simp at hm hr hf; omega)]; rfl
            | succ h => simp only [spots]; rw [if_neg (by omega), if_pos (by omega)]; rfl
          omega
theorem spots_len (f t : Nat) : ∀ (h i : Nat), (spots f t h i).length ≤ 2 * h + 1
  | 0, i => by simp only [spots]; split <;> simp
  | h + 1, i => by
    simp only [spots]
    split
    · simp
    · split
      · simp
      · have hk := kid_mid h i
        have h0 := spots_len f t h (2 * i)
        have h1 := spots_len f t h (2 * i + 1)
        rw [List.length_append]
        by_cases hm : i * 2 ^ (h + 1) + 2 ^ h ≤ f
        · have : (spots f t h (2 * i)).length = 1 := by
            cases h <;> simp only [spots] <;> rw [if_pos (by first | (right; left; simp at hm ⊢; omega) | (right; left; rw [hk]; exact hm))] <;> rfl
          omega
        · by_cases hm2 : t ≤ i * 2 ^ (h + 1) + 2 ^ h
          · have : (spots f t h (2 * i + 1)).length = 1 := by
              cases h <;> simp only [spots] <;> rw [if_pos (by first | (right; right; simp at hm2 ⊢; omega) | (right; right; rw [hk]; exact hm2))] <;> rfl
            omega
          · have h2 := spots_right f t h (2 * i) (by rw [hk]; omega)
            have h3 := spots_left f t h (2 * i + 1) (by rw [hk]; omega)
            omega
theorem spots_fit (f t : Nat) : ∀ (h i : Nat) (s : Nat × Nat), s ∈ spots f t h i → s.1 ≤ h ∧ (s.2 + 1) * 2 ^ s.1 ≤ (i + 1) * 2 ^ h
  | 0, i, s, hs => by
    simp only [spots] at hs
    split at hs
    · simp at hs
      subst hs
      simp
    · simp at hs
  | h + 1, i, s, hs => by
    simp only [spots] at hs
    split at hs
    · simp at hs
      subst hs
      simp
    · split at hs
      · simp at hs
      · rcases List.mem_append.1 hs with hs | hs
        · have := spots_fit f t h (2 * i) s hs
          have hr := kid_right h i
          have : (2 * i + 1) * 2 ^ h ≤ (2 * i + 1 + 1) * 2 ^ h := Nat.mul_le_mul_right _ (by omega)
          exact ⟨by omega, by omega⟩
        · have := spots_fit f t h (2 * i + 1) s hs
          have hr := kid_right h i
          exact ⟨by omega, by omega⟩

/-- What the span f, .., t - 1 of n leaves needs. -/
def spanSpots (f t n : Nat) : List (Nat × Nat) := (topsN n).flatMap fun s => spots f t s.1 s.2
def spanPlaces (f t n : Nat) : List Nat := (spanSpots f t n).map fun s => placeN s.1 s.2
end Go.Proofs.Ytagcabmccpekaaa.M

set_option linter.unusedVariables false
set_option linter.unusedSimpArgs false
namespace Go.Proofs.Ytagcabmccpekaaa.M
open Go.RowKit Go.Proofs.YtagcabmccpekaaaW.PrintWords Go.Proofs.YtagcabmccpekaaaW.PrintLast Go.Proofs.YtagcabmccpekaaaW.PrintMore Go.Proofs.Ytagcabmccpekaaa.Leaf

theorem and_split (u v p q : Nat) (hu : u < 256) (hp : p < 256) : (u + 256 * v) &&& (p + 256 * q) = (u &&& p) + 256 * (v &&& q) := by
  have hup : u &&& p < 2 ^ 8 := Nat.and_lt_two_pow _ hp
  rw [show u + 256 * v = 2 ^ 8 * v + u by omega, show p + 256 * q = 2 ^ 8 * q + p by omega, show (u &&& p) + 256 * (v &&& q) = 2 ^ 8 * (v &&& q) + (u &&& p) by omega]
  apply Nat.eq_of_testBit_eq
  intro i
  rw [Nat.testBit_and, Nat.testBit_two_pow_mul_add v hu, Nat.testBit_two_pow_mul_add q hp, Nat.testBit_two_pow_mul_add (v &&& q) hup]
  split <;> simp [Nat.testBit_and]

def st1 (m x : Nat) : Nat := (x / 2 &&& m) + (x &&& m)
def st2 (m x : Nat) : Nat := (x / 4 &&& m) + (x &&& m)
def st3 (m x : Nat) : Nat := (x / 16 + x) &&& m
theorem by1 : ∀ b : Fin 256, ∀ c : Fin 2, ((b.val / 2 + 128 * c.val) &&& 85) + (b.val &&& 85) = st1 85 b.val ∧ st1 85 b.val ≤ 170 := by decide +kernel
theorem by2 : ∀ b : Fin 171, ∀ c : Fin 4, ((b.val / 4 + 64 * c.val) &&& 51) + (b.val &&& 51) = st2 51 b.val ∧ st2 51 b.val ≤ 102 := by decide +kernel
theorem by3 : ∀ b : Fin 103, ∀ c : Fin 5, b.val % 16 ≤ 4 → b.val / 16 ≤ 4 → ((b.val / 16 + 16 * c.val + b.val) &&& 15) = st3 15 b.val := by decide +kernel
theorem by4 : ∀ b : Fin 256, st3 15 (st2 51 (st1 85 b.val)) = Lib.popAux 8 b.val ∧ st2 51 (st1 85 b.val) % 16 ≤ 4 ∧ st2 51 (st1 85 b.val) / 16 ≤ 4 := by decide +kernel

theorem st1_byte (b y m : Nat) (hb : b < 256) : st1 (85 + 256 * m) (b + 256 * y) = st1 85 b + 256 * st1 m y := by
  have h := (by1 ⟨b, hb⟩ ⟨y % 2, by omega⟩).1
  simp only at h
  unfold st1 at h ⊢
  rw [show (b + 256 * y) / 2 = (b / 2 + 128 * (y % 2)) + 256 * (y / 2) by omega, and_split _ _ _ _ (by omega) (by omega), and_split _ _ _ _ hb (by omega)]
  omega
theorem st2_byte (b y m : Nat) (hb : b ≤ 170) : st2 (51 + 256 * m) (b + 256 * y) = st2 51 b + 256 * st2 m y := by
  have h := (by2 ⟨b, by omega⟩ ⟨y % 4, by omega⟩).1
  simp only at h
  unfold st2 at h ⊢
  rw [show (b + 256 * y) / 4 = (b / 4 + 64 * (y % 4)) + 256 * (y / 4) by omega, and_split _ _ _ _ (by omega) (by omega), and_split _ _ _ _ (by omega) (by omega)]
  omega
theorem st3_byte (b y m : Nat) (hb1 : b % 16 ≤ 4) (hb2 : b / 16 ≤ 4) (hy : y % 16 ≤ 4) : st3 (15 + 256 * m) (b + 256 * y) = st3 15 b + 256 * st3 m y := by
  have h := by3 ⟨b, by omega⟩ ⟨y % 16, by omega⟩ hb1 hb2
  simp only at h
  unfold st3 at h ⊢
  rw [show (b + 256 * y) / 16 + (b + 256 * y) = (b / 16 + 16 * (y % 16) + b) + 256 * (y / 16 + y) by omega, and_split _ _ _ _ (by omega) (by omega), h]

theorem pop_join : ∀ (f k x y : Nat), x < 2 ^ f → Lib.popAux (f + k) (x + 2 ^ f * y) = Lib.popAux f x + Lib.popAux k y
  | 0, k, x, y, hx => by
    have : x = 0 := by simpa using hx
    subst this
    simp [Lib.popAux]
  | f + 1, k, x, y, hx => by
    have h2 : 2 ^ (f + 1) = 2 * 2 ^ f := by rw [Nat.pow_succ]; omega
    have ih := pop_join f k (x / 2) y (by omega)
    have e : 2 ^ (f + 1) * y = 2 * (2 ^ f * y) := by rw [h2, Nat.mul_assoc]
    rw [show f + 1 + k = (f + k) + 1 by omega]
    simp only [Lib.popAux]
    rw [show (x + 2 ^ (f + 1) * y) / 2 = x / 2 + 2 ^ f * y by rw [e]; omega, ih, show (x + 2 ^ (f + 1) * y) % 2 = x % 2 by rw [e]; omega]
    omega

/-- What the first three steps make of a number, byte by byte. -/
def swar (x : Nat) : Nat := st3 1085102592571150095 (st2 3689348814741910323 (st1 6148914691236517205 x))
theorem swar_bytes (b0 b1 b2 b3 b4 b5 b6 b7 : Nat) (h0 : b0 < 256) (h1 : b1 < 256) (h2 : b2 < 256) (h3 : b3 < 256) (h4 : b4 < 256) (h5 : b5 < 256) (h6 : b6 < 256) (h7 : b7 < 256) :
    swar (b0 + 256 * (b1 + 256 * (b2 + 256 * (b3 + 256 * (b4 + 256 * (b5 + 256 * (b6 + 256 * b7))))))) =
      Lib.popAux 8 b0 + 256 * (Lib.popAux 8 b1 + 256 * (Lib.popAux 8 b2 + 256 * (Lib.popAux 8 b3 + 256 * (Lib.popAux 8 b4 + 256 * (Lib.popAux 8 b5 + 256 * (Lib.popAux 8 b6 + 256 * Lib.popAux 8 b7)))))) := by
  have s1 : ∀ b, b < 256 → st1 85 b ≤ 170 := fun b hb => (by1 ⟨b, hb⟩ 0).2
  have s4 : ∀ b, b < 256 → st3 15 (st2 51 (st1 85 b)) = Lib.popAux 8 b ∧ st2 51 (st1 85 b) % 16 ≤ 4 ∧ st2 51 (st1 85 b) / 16 ≤ 4 := fun b hb => by4 ⟨b, hb⟩
  unfold swar
  rw [show 6148914691236517205 = 85 + 256 * (85 + 256 * (85 + 256 * (85 + 256 * (85 + 256 * (85 + 256 * (85 + 256 * 85)))))) from rfl,
    show 3689348814741910323 = 51 + 256 * (51 + 256 * (51 + 256 * (51 + 256 * (51 + 256 * (51 + 256 * (51 + 256 * 51)))))) from rfl,
    show 1085102592571150095 = 15 + 256 * (15 + 256 * (15 + 256 * (15 + 256 * (15 + 256 * (15 + 256 * (15 + 256 * 15)))))) from rfl]
  rw [st1_byte _ _ _ h0, st1_byte _ _ _ h1, st1_byte _ _ _ h2, st1_byte _ _ _ h3, st1_byte _ _ _ h4, st1_byte _ _ _ h5, st1_byte _ _ _ h6]
  rw [st2_byte _ _ _ (s1 _ h0), st2_byte _ _ _ (s1 _ h1), st2_byte _ _ _ (s1 _ h2), st2_byte _ _ _ (s1 _ h3), st2_byte _ _ _ (s1 _ h4), st2_byte _ _ _ (s1 _ h5), st2_byte _ _ _ (s1 _ h6)]
  obtain ⟨a0, c0, d0⟩ := s4 _ h0
  obtain ⟨a1, c1, d1⟩ := s4 _ h1
  obtain ⟨a2, c2, d2⟩ := s4 _ h2
  obtain ⟨a3, c3, d3⟩ := s4 _ h3
  obtain ⟨a4, c4, d4⟩ := s4 _ h4
  obtain ⟨a5, c5, d5⟩ := s4 _ h5
  obtain ⟨a6, c6, d6⟩ := s4 _ h6
  obtain ⟨a7, c7, d7⟩ := s4 _ h7
  rw [st3_byte _ _ _ c0 d0 (by omega), st3_byte _ _ _ c1 d1 (by omega), st3_byte _ _ _ c2 d2 (by omega), st3_byte _ _ _ c3 d3 (by omega), st3_byte _ _ _ c4 d4 (by omega), st3_byte _ _ _ c5 d5 (by omega), st3_byte _ _ _ c6 d6 (by omega), a0, a1, a2, a3, a4, a5, a6, a7]
theorem div_digit (p q x : Nat) (hx : x = p + 256 * q) (hp : p < 256) : x / 256 = q := by omega
theorem fold_bytes (x : Nat) (p0 p1 p2 p3 p4 p5 p6 p7 : Nat) (h0 : p0 ≤ 8) (h1 : p1 ≤ 8) (h2 : p2 ≤ 8) (h3 : p3 ≤ 8) (h4 : p4 ≤ 8) (h5 : p5 ≤ 8) (h6 : p6 ≤ 8) (h7 : p7 ≤ 8)
    (hx : x = p0 + 256 * (p1 + 256 * (p2 + 256 * (p3 + 256 * (p4 + 256 * (p5 + 256 * (p6 + 256 * p7))))))) :
    ((x + x / 256) + (x + x / 256) / 65536 + ((x + x / 256) + (x + x / 256) / 65536) / 4294967296) % 128 = p0 + p1 + p2 + p3 + p4 + p5 + p6 + p7 := by
  obtain ⟨q6, e6⟩ : ∃ q, q = p6 + 256 * p7 := ⟨_, rfl⟩
  obtain ⟨q5, e5⟩ : ∃ q, q = p5 + 256 * q6 := ⟨_, rfl⟩
  obtain ⟨q4, e4⟩ : ∃ q, q = p4 + 256 * q5 := ⟨_, rfl⟩
  obtain ⟨q3, e3⟩ : ∃ q, q = p3 + 256 * q4 := ⟨_, rfl⟩
  obtain ⟨q2, e2⟩ : ∃ q, q = p2 + 256 * q3 := ⟨_, rfl⟩
  obtain ⟨q1, e1⟩ : ∃ q, q = p1 + 256 * q2 := ⟨_, rfl⟩
  rw [← e6, ← e5, ← e4, ← e3, ← e2, ← e1] at hx
  rw [div_digit p0 q1 x hx (by omega)]
  have y1 : x + q1 = (p0 + p1) + 256 * (q1 + q2) := by omega
  have y2 : q1 + q2 = (p1 + p2) + 256 * (q2 + q3) := by omega
  have y3 : q2 + q3 = (p2 + p3) + 256 * (q3 + q4) := by omega
  have y4 : q3 + q4 = (p3 + p4) + 256 * (q4 + q5) := by omega
  have y5 : q4 + q5 = (p4 + p5) + 256 * (q5 + q6) := by omega
  have y6 : q5 + q6 = (p5 + p6) + 256 * (q6 + p7) := by omega
  have y7 : q6 + p7 = (p6 + p7) + 256 * p7 := by omega
  clear e1 e2 e3 e4 e5 e6 hx
  generalize x + q1 = r0 at *
  generalize q1 + q2 = r1 at *
  generalize q2 + q3 = r2 at *
  generalize q3 + q4 = r3 at *
  generalize q4 + q5 = r4 at *
  generalize q5 + q6 = r5 at *
  generalize q6 + p7 = r6 at *
  rw [show r0 / 65536 = r0 / 256 / 256 by omega, div_digit _ _ r0 y1 (by omega), div_digit _ _ r1 y2 (by omega)]
  have z1 : r0 + r2 = (p0 + p1 + p2 + p3) + 256 * (r1 + r3) := by omega
  have z2 : r1 + r3 = (p1 + p2 + p3 + p4) + 256 * (r2 + r4) := by omega
  have z3 : r2 + r4 = (p2 + p3 + p4 + p5) + 256 * (r3 + r5) := by omega
  have z4 : r3 + r5 = (p3 + p4 + p5 + p6) + 256 * (r4 + r6) := by omega
  have z5 : r4 + r6 = (p4 + p5 + p6 + p7) + 256 * (r5 + p7) := by omega
  clear y1 y2 y3 y4 y5 y6 y7
  generalize r0 + r2 = s0 at *
  generalize r1 + r3 = s1 at *
  generalize r2 + r4 = s2 at *
  generalize r3 + r5 = s3 at *
  generalize r4 + r6 = s4 at *
  rw [show s0 / 4294967296 = s0 / 256 / 256 / 256 / 256 by omega, div_digit _ _ s0 z1 (by omega), div_digit _ _ s1 z2 (by omega), div_digit _ _ s2 z3 (by omega), div_digit _ _ s3 z4 (by omega)]
  omega
theorem pop_bytes (b0 b1 b2 b3 b4 b5 b6 b7 : Nat) (h0 : b0 < 256) (h1 : b1 < 256) (h2 : b2 < 256) (h3 : b3 < 256) (h4 : b4 < 256) (h5 : b5 < 256) (h6 : b6 < 256) :
    Lib.popAux 64 (b0 + 256 * (b1 + 256 * (b2 + 256 * (b3 + 256 * (b4 + 256 * (b5 + 256 * (b6 + 256 * b7))))))) =
      Lib.popAux 8 b0 + Lib.popAux 8 b1 + Lib.popAux 8 b2 + Lib.popAux 8 b3 + Lib.popAux 8 b4 + Lib.popAux 8 b5 + Lib.popAux 8 b6 + Lib.popAux 8 b7 := by
  rw [show 64 = 8 + 56 from rfl, pop_join 8 56 b0 _ h0, show 56 = 8 + 48 from rfl, pop_join 8 48 b1 _ h1, show 48 = 8 + 40 from rfl, pop_join 8 40 b2 _ h2, show 40 = 8 + 32 from rfl, pop_join 8 32 b3 _ h3,
    show 32 = 8 + 24 from rfl, pop_join 8 24 b4 _ h4, show 24 = 8 + 16 from rfl, pop_join 8 16 b5 _ h5, show 16 = 8 + 8 from rfl, pop_join 8 8 b6 _ h6]
  omega
theorem swar_pop (x : Nat) (hx : x < 18446744073709551616) : ((swar x + swar x / 256) + (swar x + swar x / 256) / 65536 + ((swar x + swar x / 256) + (swar x + swar x / 256) / 65536) / 4294967296) % 128 = Lib.popAux 64 x ∧ swar x ≤ 1085102592571150095 := by
  refine ⟨?_, Nat.and_le_right⟩
  obtain ⟨b0, b1, b2, b3, b4, b5, b6, b7, h0, h1, h2, h3, h4, h5, h6, h7, rfl⟩ : ∃ b0 b1 b2 b3 b4 b5 b6 b7 : Nat, b0 < 256 ∧ b1 < 256 ∧ b2 < 256 ∧ b3 < 256 ∧ b4 < 256 ∧ b5 < 256 ∧ b6 < 256 ∧ b7 < 256 ∧ x = b0 + 256 * (b1 + 256 * (b2 + 256 * (b3 + 256 * (b4 + 256 * (b5 + 256 * (b6 + 256 * b7)))))) :=
    ⟨x % 256, x / 256 % 256, x / 65536 % 256, x / 16777216 % 256, x / 4294967296 % 256, x / 1099511627776 % 256, x / 281474976710656 % 256, x / 72057594037927936, by omega, by omega, by omega, by omega, by omega, by omega, by omega, by omega, by omega⟩
  rw [pop_bytes b0 b1 b2 b3 b4 b5 b6 b7 h0 h1 h2 h3 h4 h5 h6]
  exact fold_bytes _ _ _ _ _ _ _ _ _ (pop_lef _ _) (pop_lef _ _) (pop_lef _ _) (pop_lef _ _) (pop_lef _ _) (pop_lef _ _) (pop_lef _ _) (pop_lef _ _) (swar_bytes b0 b1 b2 b3 b4 b5 b6 b7 h0 h1 h2 h3 h4 h5 h6 h7)

theorem w64_nat (n : Nat) (h : n < 18446744073709551616) : IntKind.u64.wrap (n : Int) = n := by rw [IntKind.wrap_u64]; omega
theorem and64 (a b : Nat) (ha : a < 18446744073709551616) (hb : b < 18446744073709551616) : Go.bits .and .u64 (a : Int) (b : Int) = ((a &&& b : Nat) : Int) := u64_and_nat a b ha hb
theorem ones_end (x6 p : Nat) (b6 : x6 < 9223372036854775808) (h : x6 % 128 = p) : some (Go.bits .and .i64 (wrap64 (x6 : Int)) 127) = some (p : Int) := by
  have k4 : wrap64 (x6 : Int) = (x6 : Int) := by unfold wrap64; omega
  have := bits_mask .i64 63 (by decide) (fun n h0 h1 => by rw [IntKind.wrap_i64]; omega) 7 (by decide) (x6 : Int) (by omega) (by omega)
  rw [k4, show (127 : Int) = 2 ^ 7 - 1 by rfl, this, ← h]
  congr 1
theorem ones_val (n : Nat) (hn : n < 18446744073709551616) : bits_OnesCount64.f (n : Int) = some ((Lib.popAux 64 n : Nat) : Int) := by
  have hs := swar_pop n hn
  have b1 : st1 6148914691236517205 n ≤ 12297829382473034410 := by
    have := @Nat.and_le_right (n / 2) 6148914691236517205
    have := @Nat.and_le_right n 6148914691236517205
    unfold st1
    omega
  have e1 : Go.bits .and .u64 ((n : Int) / 2) 6148914691236517205 = ((n / 2 &&& 6148914691236517205 : Nat) : Int) := and64 (n / 2) 6148914691236517205 (by omega) (by omega)
  have e2 : Go.bits .and .u64 (n : Int) 6148914691236517205 = ((n &&& 6148914691236517205 : Nat) : Int) := and64 n 6148914691236517205 hn (by omega)
  have e3 : IntKind.u64.wrap (((n / 2 &&& 6148914691236517205 : Nat) : Int) + ((n &&& 6148914691236517205 : Nat) : Int)) = ((st1 6148914691236517205 n : Nat) : Int) := w64_nat (st1 6148914691236517205 n) (by omega)
  unfold swar at hs
  unfold bits_OnesCount64.f
  rw [e1, e2, e3]
  generalize st1 6148914691236517205 n = x1 at *
  have b2 : st2 3689348814741910323 x1 ≤ 7378697629483820646 := by
    have := @Nat.and_le_right (x1 / 4) 3689348814741910323
    have := @Nat.and_le_right x1 3689348814741910323
    unfold st2
    omega
  have f1 : Go.bits .and .u64 ((x1 : Int) / 4) 3689348814741910323 = ((x1 / 4 &&& 3689348814741910323 : Nat) : Int) := and64 (x1 / 4) 3689348814741910323 (by omega) (by omega)
  have f2 : Go.bits .and .u64 (x1 : Int) 3689348814741910323 = ((x1 &&& 3689348814741910323 : Nat) : Int) := and64 x1 3689348814741910323 (by omega) (by omega)
  have f3 : IntKind.u64.wrap (((x1 / 4 &&& 3689348814741910323 : Nat) : Int) + ((x1 &&& 3689348814741910323 : Nat) : Int)) = ((st2 3689348814741910323 x1 : Nat) : Int) := w64_nat (st2 3689348814741910323 x1) (by omega)
  rw [f1, f2, f3]
  generalize st2 3689348814741910323 x1 = x2 at *
  have g1 : IntKind.u64.wrap ((x2 : Int) / 16 + (x2 : Int)) = ((x2 / 16 + x2 : Nat) : Int) := w64_nat (x2 / 16 + x2) (by omega)
  have g2 : Go.bits .and .u64 ((x2 / 16 + x2 : Nat) : Int) 1085102592571150095 = ((st3 1085102592571150095 x2 : Nat) : Int) := and64 (x2 / 16 + x2) 1085102592571150095 (by omega) (by omega)
  rw [g1, g2]
  generalize st3 1085102592571150095 x2 = x3 at *
  have k1 : IntKind.u64.wrap ((x3 : Int) + (x3 : Int) / 256) = ((x3 + x3 / 256 : Nat) : Int) := w64_nat (x3 + x3 / 256) (by omega)
  rw [k1]
  have b4 : x3 + x3 / 256 ≤ 1089341274573693651 := by omega
  generalize x3 + x3 / 256 = x4 at *
  have k2 : IntKind.u64.wrap ((x4 : Int) + (x4 : Int) / 65536) = ((x4 + x4 / 65536 : Nat) : Int) := w64_nat (x4 + x4 / 65536) (by omega)
  rw [k2]
  have b5 : x4 + x4 / 65536 ≤ 1089360000000000000 := by omega
  generalize x4 + x4 / 65536 = x5 at *
  have k3 : IntKind.u64.wrap ((x5 : Int) + (x5 : Int) / 4294967296) = ((x5 + x5 / 4294967296 : Nat) : Int) := w64_nat (x5 + x5 / 4294967296) (by omega)
  rw [k3]
  have b6 : x5 + x5 / 4294967296 < 9223372036854775808 := by clear hs; omega
  have hs1 := hs.1
  clear hs
  generalize x5 + x5 / 4294967296 = x6 at *
  exact ones_end x6 _ b6 hs1
end Go.Proofs.Ytagcabmccpekaaa.M

set_option linter.unusedVariables false
set_option linter.unusedSimpArgs false
namespace Go.Proofs.Ytagcabmccpekaaa.M
open Go.RowKit Go.Proofs.YtagcabmccpekaaaW.PrintWords Go.Proofs.YtagcabmccpekaaaW.PrintLast Go.Proofs.YtagcabmccpekaaaW.PrintMore Go.Proofs.Ytagcabmccpekaaa.Leaf

theorem w64_of (z : Int) (h0 : 0 ≤ z) (h : z < 18446744073709551616) : IntKind.u64.wrap z = z := by rw [IntKind.wrap_u64]; omega
theorem i64_of (z : Int) (h0 : -9223372036854775808 ≤ z) (h : z < 9223372036854775808) : wrap64 z = z := by unfold wrap64; omega
theorem p2_le {h : Nat} (hh : h ≤ 63) : 2 ^ h ≤ 9223372036854775808 := Nat.pow_le_pow_right (by omega) hh
theorem p2_pos (h : Nat) : 0 < 2 ^ h := Nat.pow_pos (by omega)
theorem shl_nat (x h : Nat) (hh : h ≤ 64) (hx : x * 2 ^ h < 18446744073709551616) : shl .u64 (x : Int) (h : Int) = ((x * 2 ^ h : Nat) : Int) := by
  unfold shl
  rw [Int.toNat_natCast, show min h (IntKind.u64.bits) = h by simp [IntKind.bits]; omega, show ((x : Int) * 2 ^ h) = ((x * 2 ^ h : Nat) : Int) by push_cast; rfl]
  exact w64_nat _ hx
theorem shr_nat (x h : Nat) (hh : h ≤ 64) : shr .u64 (x : Int) (h : Int) = ((x / 2 ^ h : Nat) : Int) := by
  unfold shr
  rw [Int.toNat_natCast, show min h (IntKind.u64.bits) = h by simp [IntKind.bits]; omega]
  push_cast
  rfl

theorem nodes_val (n : Nat) (hn : n ≤ 9223372036854775807) : pos_nodes.f (n : Int) = some ((nodesN n : Nat) : Int) := by
  unfold pos_nodes.f num_Ones.f
  rw [ones_val n (by omega)]
  have := pop_lef 64 n
  have h2 := pop_le 64 n
  simp only [Option.bind_some]
  unfold nodesN
  generalize Lib.popAux 64 n = p at *
  rw [w64_of (2 * (n : Int)) (by omega) (by omega), w64_nat _ (by omega), w64_of _ (by omega) (by omega)]
  exact congrArg some (by omega)
theorem place_val (h i : Nat) (hi : (i + 1) * 2 ^ h ≤ 4611686018427387904) : pos_Place.f (h : Int) (i : Int) = some (((placeN h i : Nat) : Int), true) := by
  have hh := height_le h i hi
  have hp := p2_pos h
  have h1 : (i + 1) * 2 ^ h = i * 2 ^ h + 2 ^ h := by rw [Nat.add_mul, Nat.one_mul]
  unfold pos_Place.f
  rw [if_neg (by omega), if_pos (by omega)]
  have e0 : shr .u64 4611686018427387904 (h : Int) = ((4611686018427387904 / 2 ^ h : Nat) : Int) := shr_nat 4611686018427387904 h (by omega)
  have hlt : i < 4611686018427387904 / 2 ^ h := by rw [Nat.lt_div_iff_mul_lt hp]; omega
  have hi1 : i + 1 ≤ 4611686018427387904 := Nat.le_trans (Nat.le_mul_of_pos_right _ hp) hi
  rw [e0, if_neg (by omega), w64_of ((i : Int) + 1) (by omega) (by omega), show ((i : Int) + 1) = ((i + 1 : Nat) : Int) by omega, shl_nat (i + 1) h (by omega) (by omega), w64_of _ (by omega) (by omega),
    show (((i + 1) * 2 ^ h : Nat) : Int) - 1 = (((i + 1) * 2 ^ h - 1 : Nat) : Int) by omega, nodes_val _ (by omega)]
  simp only [Option.bind_some]
  have hn := place_lt h i hi
  unfold placeN at hn ⊢
  rw [w64_nat h (by omega), w64_of _ (by omega) (by omega)]
  rfl
theorem mask_val (g : Nat) (hg : g ≤ 62) : num_Mask.f ((g : Int) + 1) = some ((2 ^ (g + 1) - 1 : Nat) : Int) := by
  have := p2_le (by omega : g + 1 ≤ 63)
  have := p2_pos (g + 1)
  unfold num_Mask.f
  rw [if_neg (by omega), w64_of _ (by omega) (by omega), if_pos (by omega)]
  have e : shl .u64 1 ((g : Int) + 1) = ((1 * 2 ^ (g + 1) : Nat) : Int) := shl_nat 1 (g + 1) (by omega) (by omega)
  rw [e, w64_of _ (by omega) (by omega)]
  exact congrArg some (by omega)
theorem last_val : ∀ (g p n : Nat), g ≤ 63 → p < 18446744073709551616 → n + 2 ^ g ≤ 9223372036854775808 → Ev (fun k => pos_last.l0 k (p : Int) (n : Int) ((g : Int) - 1)) ((n + lastF g p : Nat) : Int)
  | 0, p, n, _, _, _ => Ev.step (f := fun _ => some ((n : Nat) : Int)) (fun k => by simp only [pos_last.l0]; rw [if_neg (by omega)]) (Ev.now _)
  | g + 1, p, n, hg, hp, hn => by
    have h2 : 2 ^ (g + 1) = 2 * 2 ^ g := by rw [Nat.pow_succ]; omega
    have e1 : (((g + 1 : Nat) : Int) - 1) = (g : Int) := by omega
    have em : num_Mask.f (wrap64 ((g : Int) + 1)) = some ((2 ^ (g + 1) - 1 : Nat) : Int) := by rw [i64_of _ (by omega) (by omega)]; exact mask_val g (by omega)
    have e2 : wrap64 ((g : Int) - 1) = (g : Int) - 1 := i64_of _ (by omega) (by omega)
    rw [e1]
    by_cases hc : 2 ^ (g + 1) - 1 ≤ p
    · have ih := last_val g (p - (2 ^ (g + 1) - 1)) (n + 2 ^ g) (by omega) (by omega) (by omega)
      have ea : IntKind.u64.wrap ((p : Int) - ((2 ^ (g + 1) - 1 : Nat) : Int)) = ((p - (2 ^ (g + 1) - 1) : Nat) : Int) := by rw [w64_of _ (by omega) (by omega)]; omega
      have eb : IntKind.u64.wrap ((n : Int) + shl .u64 1 (g : Int)) = ((n + 2 ^ g : Nat) : Int) := by
        have e : shl .u64 1 (g : Int) = ((1 * 2 ^ g : Nat) : Int) := shl_nat 1 g (by omega) (by omega)
        rw [e, w64_of _ (by omega) (by omega)]
        omega
      rw [show n + lastF (g + 1) p = n + 2 ^ g + lastF g (p - (2 ^ (g + 1) - 1)) by simp only [lastF]; rw [if_pos hc]; omega]
      exact Ev.step (fun k => by simp only [pos_last.l0]; rw [if_pos (by omega), em]; simp only [Option.bind_some]; rw [if_pos (by omega), if_pos (by omega), ea, eb, e2]) ih
    · have ih := last_val g p n (by omega) (by omega) (by omega)
      rw [show n + lastF (g + 1) p = n + lastF g p by simp only [lastF]; rw [if_neg hc]]
      exact Ev.step (fun k => by simp only [pos_last.l0]; rw [if_pos (by omega), em]; simp only [Option.bind_some]; rw [if_neg (by omega), e2]) ih
theorem nodes_most : pos_nodes.f 4611686018427387904 = some 9223372036854775807 := (nodes_val 4611686018427387904 (by omega)).trans (by decide +kernel)
theorem spot_val (h i : Nat) (hi : (i + 1) * 2 ^ h ≤ 4611686018427387904) : Ev (fun k => pos_Spot.f k ((placeN h i : Nat) : Int)) ((h : Int), (i : Int), true) := by
  have hh := height_le h i hi
  have hp := p2_pos h
  have hl := place_lt h i hi
  have h1 : (i + 1) * 2 ^ h = i * 2 ^ h + 2 ^ h := by rw [Nat.add_mul, Nat.one_mul]
  have hi1 : i + 1 ≤ 4611686018427387904 := Nat.le_trans (Nat.le_mul_of_pos_right _ hp) hi
  have hv := last_val 63 (placeN h i) 0 (by omega) (by omega) (by omega)
  rw [last_place h i hi, Nat.zero_add] at hv
  have hv' : Ev (fun k => pos_last.f k ((placeN h i : Nat) : Int)) (((i + 1) * 2 ^ h - 1 : Nat) : Int) := hv
  unfold pos_Spot.f
  rw [nodes_most]
  simp only [Option.bind_some]
  refine Ev.congr (fun k => if_neg (by omega)) ?_
  refine Ev.bind hv' ?_
  rw [nodes_val _ (by omega)]
  simp only [Option.bind_some]
  have hs := place_sub h i
  have hge : nodesN ((i + 1) * 2 ^ h - 1) ≤ placeN h i := by unfold placeN; omega
  have e1 : IntKind.u64.wrap (((placeN h i : Nat) : Int) - ((nodesN ((i + 1) * 2 ^ h - 1) : Nat) : Int)) = (h : Int) := by rw [w64_of _ (by omega) (by omega)]; omega
  rw [e1, if_pos (by omega), w64_of ((((i + 1) * 2 ^ h - 1 : Nat) : Int) + 1) (by omega) (by omega), show ((((i + 1) * 2 ^ h - 1 : Nat) : Int) + 1) = (((i + 1) * 2 ^ h : Nat) : Int) by omega, shr_nat _ h (by omega), Nat.mul_div_cancel _ hp, w64_of _ (by omega) (by omega)]
  rw [show (h : Int) % 256 = h by omega, show (((i + 1 : Nat) : Int) - 1) = (i : Int) by omega]
  exact Ev.now _
def intsOf (l : List Nat) : List Int := l.map fun (n : Nat) => (n : Int)
def placesOf (l : List (Nat × Nat)) : List Int := l.map fun s => ((placeN s.1 s.2 : Nat) : Int)
theorem bit_val (n g : Nat) (hn : n < 18446744073709551616) (hg : g ≤ 62) : Go.bits .and .u64 (shr .u64 (n : Int) (g : Int)) 1 = if n.testBit g then 1 else 0 := by
  rw [shr_nat n g (by omega)]
  have h1 := and64 (n / 2 ^ g) 1 (Nat.lt_of_le_of_lt (Nat.div_le_self _ _) hn) (by omega)
  have h2 : Go.bits .and .u64 ((n / 2 ^ g : Nat) : Int) 1 = ((n / 2 ^ g &&& 1 : Nat) : Int) := h1
  rw [h2, Nat.and_one_is_mod, Nat.testBit_eq_decide_div_mod_eq]
  by_cases hb : n / 2 ^ g % 2 = 1
  · rw [hb]; simp
  · rw [show n / 2 ^ g % 2 = 0 by omega]; simp
theorem peaks_loop (n : Nat) (hn : n ≤ 4611686018427387904) : ∀ (g : Nat) (xs : List Int), g ≤ 63 → xs.length + g ≤ 63 → Ev (fun k => pos_Peaks.l0 k (n : Int) xs ((g : Int) - 1)) (xs ++ placesOf (topsF g n))
  | 0, xs, _, _ => by
    rw [show xs ++ placesOf (topsF 0 n) = xs by simp [topsF, placesOf]]
    exact Ev.step (fun k => by simp only [pos_Peaks.l0]; rw [if_neg (by omega)]) (Ev.step (f := fun _ => some xs) (fun k => by simp only [pos_Peaks.j1]; rw [if_neg (by simp)]) (Ev.now _))
  | g + 1, xs, hg, hl => by
    have e1 : (((g + 1 : Nat) : Int) - 1) = (g : Int) := by omega
    have e2 : wrap64 ((g : Int) - 1) = (g : Int) - 1 := i64_of _ (by omega) (by omega)
    rw [e1]
    have hb := bit_val n g (by omega) (by omega)
    by_cases hc : n.testBit g = true
    · have hf := tops_fit (g + 1) n (g, n / 2 ^ g - 1) (by simp [topsF, hc])
      have ih := peaks_loop n hn g (xs ++ [((placeN g (n / 2 ^ g - 1) : Nat) : Int)]) (by omega) (by simp; omega)
      rw [show xs ++ placesOf (topsF (g + 1) n) = xs ++ [((placeN g (n / 2 ^ g - 1) : Nat) : Int)] ++ placesOf (topsF g n) by simp [topsF, hc, placesOf]]
      have hq : 1 ≤ n / 2 ^ g := (Nat.one_le_div_iff (p2_pos g)).2 (Nat.ge_two_pow_of_testBit hc)
      have hq2 : n / 2 ^ g ≤ n := Nat.div_le_self _ _
      have ep : IntKind.u64.wrap (shr .u64 (n : Int) (g : Int) - 1) = ((n / 2 ^ g - 1 : Nat) : Int) := by rw [shr_nat n g (by omega), w64_of _ (by omega) (by omega)]; omega
      have pv : pos_Place.f ((g : Int) % 256) (IntKind.u64.wrap (shr .u64 (n : Int) (g : Int) - 1)) = some (((placeN g (n / 2 ^ g - 1) : Nat) : Int), true) := by
        rw [ep, show (g : Int) % 256 = g by omega]
        exact place_val g (n / 2 ^ g - 1) (by have := hf.2; simp only at this; omega)
      rw [if_pos hc] at hb
      exact Ev.step (fun k => by simp only [pos_Peaks.l0]; rw [if_pos (by omega)]) (Ev.step (fun k => by simp only [pos_Peaks.j1]; rw [if_pos (by simp; omega), if_pos (by omega), if_pos hb, pv]; simp only [Option.bind_some]; rw [if_pos (by omega), e2]) ih)
    · have ih := peaks_loop n hn g xs (by omega) (by omega)
      rw [show xs ++ placesOf (topsF (g + 1) n) = xs ++ placesOf (topsF g n) by simp [topsF, hc]]
      rw [if_neg hc] at hb
      exact Ev.step (fun k => by simp only [pos_Peaks.l0]; rw [if_pos (by omega)]) (Ev.step (fun k => by simp only [pos_Peaks.j1]; rw [if_pos (by simp; omega), if_pos (by omega), if_neg (by rw [hb]; decide), e2]) ih)
theorem peaks_val (n : Nat) (hn : n ≤ 4611686018427387904) : Ev (fun k => pos_Peaks.f k (n : Int)) (placesOf (topsN n)) := by
  have h := peaks_loop n hn 63 [] (by omega) (by simp)
  rw [List.nil_append] at h
  exact h
theorem power_loop (h : Nat) (hh : h ≤ 63) : ∀ (d i : Nat), i + d = h → Ev (fun k => massifref3_Power.l0 k (h : Int) ((2 ^ i : Nat) : Int) (i : Int)) ((2 ^ h : Nat) : Int)
  | 0, i, hi => by
    have : i = h := by omega
    subst this
    exact Ev.step (f := fun _ => some ((2 ^ i : Nat) : Int)) (fun k => by simp only [massifref3_Power.l0]; rw [if_neg (by omega)]) (Ev.now _)
  | d + 1, i, hi => by
    have ih := power_loop h hh d (i + 1) (by omega)
    have := p2_le (by omega : i + 1 ≤ 63)
    have h2 : 2 ^ (i + 1) = 2 * 2 ^ i := by rw [Nat.pow_succ]; omega
    have e1 : IntKind.u64.wrap (2 * ((2 ^ i : Nat) : Int)) = ((2 ^ (i + 1) : Nat) : Int) := by rw [w64_of _ (by omega) (by omega)]; omega
    have e2 : wrap64 ((i : Int) + 1) = ((i + 1 : Nat) : Int) := by rw [i64_of _ (by omega) (by omega)]; omega
    exact Ev.step (fun k => by simp only [massifref3_Power.l0]; rw [if_pos (by omega), e1, e2]) ih
theorem power_val (h : Nat) (hh : h ≤ 63) : Ev (fun k => massifref3_Power.f k (h : Int)) ((2 ^ h : Nat) : Int) := power_loop h hh h 0 (by omega)

def spotsOf (l : List (Nat × Nat)) : List S39 := l.map fun s => ⟨(s.1 : Int), (s.2 : Int)⟩
theorem tops_loop (n : Nat) (hn : n ≤ 4611686018427387904) : ∀ (g : Nat) (xs : List S39), g ≤ 63 → xs.length + g ≤ 63 → Ev (fun k => massifref3_Tops.l0 k (n : Int) xs ((n - n % 2 ^ g : Nat) : Int) ((g : Int) - 1)) (xs ++ spotsOf (topsF g n))
  | 0, xs, _, _ => by
    rw [show xs ++ spotsOf (topsF 0 n) = xs by simp [topsF, spotsOf]]
    exact Ev.step (f := fun _ => some xs) (fun k => by simp only [massifref3_Tops.l0]; rw [if_neg (by omega)]) (Ev.now _)
  | g + 1, xs, hg, hl => by
    have e1 : (((g + 1 : Nat) : Int) - 1) = (g : Int) := by omega
    have e2 : wrap64 ((g : Int) - 1) = (g : Int) - 1 := i64_of _ (by omega) (by omega)
    rw [e1]
    have hp := p2_pos g
    have hple := p2_le (by omega : g ≤ 63)
    have h2 : 2 ^ (g + 1) = 2 ^ g * 2 := by rw [Nat.pow_succ]
    have hmod : n % 2 ^ (g + 1) = n % 2 ^ g + 2 ^ g * (n / 2 ^ g % 2) := by rw [h2, Nat.mod_mul]
    have hle : n % 2 ^ (g + 1) ≤ n := Nat.mod_le _ _
    have hlt : n % 2 ^ g < 2 ^ g := Nat.mod_lt _ hp
    have hdm := Nat.div_add_mod n (2 ^ g)
    have ea : IntKind.u64.wrap ((n : Int) - ((n - n % 2 ^ (g + 1) : Nat) : Int)) = ((n % 2 ^ (g + 1) : Nat) : Int) := by rw [w64_of _ (by omega) (by omega)]; omega
    have hpw := power_val g (by omega)
    by_cases hc : n.testBit g = true
    · have hb : n / 2 ^ g % 2 = 1 := by rw [Nat.testBit_eq_decide_div_mod_eq] at hc; simpa using hc
      rw [hb, Nat.mul_one] at hmod
      have hf := tops_fit (g + 1) n (g, n / 2 ^ g - 1) (by simp [topsF, hc])
      have ih := tops_loop n hn g (xs ++ [⟨(g : Int), ((n / 2 ^ g - 1 : Nat) : Int)⟩]) (by omega) (by simp; omega)
      rw [show xs ++ spotsOf (topsF (g + 1) n) = xs ++ [⟨(g : Int), ((n / 2 ^ g - 1 : Nat) : Int)⟩] ++ spotsOf (topsF g n) by simp [topsF, hc, spotsOf]]
      have hq : 1 ≤ n / 2 ^ g := (Nat.one_le_div_iff hp).2 (Nat.ge_two_pow_of_testBit hc)
      have hq2 : n / 2 ^ g ≤ n := Nat.div_le_self _ _
      have hval : n - n % 2 ^ (g + 1) = 2 ^ g * (n / 2 ^ g - 1) := by rw [Nat.mul_sub_one]; omega
      have et : Int.tdiv ((n - n % 2 ^ (g + 1) : Nat) : Int) ((2 ^ g : Nat) : Int) = ((n / 2 ^ g - 1 : Nat) : Int) := by
        rw [hval]
        show (((2 ^ g * (n / 2 ^ g - 1)) / 2 ^ g : Nat) : Int) = _
        rw [Nat.mul_div_cancel_left _ hp]
      have eb : IntKind.u64.wrap (((n - n % 2 ^ (g + 1) : Nat) : Int) + ((2 ^ g : Nat) : Int)) = ((n - n % 2 ^ g : Nat) : Int) := by rw [w64_of _ (by omega) (by omega)]; omega
      refine Ev.step (fun k => by simp only [massifref3_Tops.l0]; rw [if_pos (by omega)]) ?_
      refine Ev.bind hpw ?_
      rw [ea]
      refine Ev.congr (fun k => if_pos (by omega)) ?_
      refine Ev.bind hpw ?_
      refine Ev.congr (fun k => if_neg (by omega)) ?_
      refine Ev.congr (fun k => if_pos (by omega)) ?_
      refine Ev.bind hpw ?_
      rw [et, w64_of ((n / 2 ^ g - 1 : Nat) : Int) (by omega) (by omega), eb, e2, show (g : Int) % 256 = g by omega]
      exact ih
    · have hb : n / 2 ^ g % 2 = 0 := by rw [Nat.testBit_eq_decide_div_mod_eq] at hc; simp at hc; omega
      rw [hb, Nat.mul_zero, Nat.add_zero] at hmod
      have ih := tops_loop n hn g xs (by omega) (by omega)
      rw [show xs ++ spotsOf (topsF (g + 1) n) = xs ++ spotsOf (topsF g n) by simp [topsF, hc]]
      refine Ev.step (fun k => by simp only [massifref3_Tops.l0]; rw [if_pos (by omega)]) ?_
      refine Ev.bind hpw ?_
      rw [ea]
      refine Ev.congr (fun k => if_neg (by omega)) ?_
      rw [e2, hmod]
      exact ih
theorem tops_val (n : Nat) (hn : n ≤ 4611686018427387904) : Ev (fun k => massifref3_Tops.f k (n : Int)) (spotsOf (topsN n)) := by
  have h := tops_loop n hn 63 [] (by omega) (by simp)
  rw [List.nil_append, Nat.mod_eq_of_lt (by omega : n < 2 ^ 63), Nat.sub_self] at h
  refine Ev.congr (fun k => if_neg (by omega)) h
theorem nodes3_step (x s : Nat) (r : Int × Bool) (hx : x ≠ 0) (hb : x < 18446744073709551616) (hs : s + x < 18446744073709551616) (ih : Ev (fun k => massifref3_Nodes.l0 k ((x / 2 : Nat) : Int) ((s + x : Nat) : Int)) r) : Ev (fun k => massifref3_Nodes.l0 k (x : Int) (s : Int)) r := by
  have e1 : IntKind.u64.wrap (Int.tdiv (x : Int) 2) = ((x / 2 : Nat) : Int) := by rw [Int.tdiv_eq_ediv_of_nonneg (by omega), w64_of _ (by omega) (by omega)]; omega
  have e2 : IntKind.u64.wrap ((s : Int) + (x : Int)) = ((s + x : Nat) : Int) := by rw [w64_of _ (by omega) (by omega)]; omega
  exact Ev.step (fun k => by simp only [massifref3_Nodes.l0]; rw [if_pos (by omega), e1, e2]) ih
theorem nodes3_stop (s : Nat) : Ev (fun k => massifref3_Nodes.l0 k ((0 : Nat) : Int) (s : Int)) ((s : Int), true) :=
  Ev.step (f := fun _ => some ((s : Int), true)) (fun k => by simp only [massifref3_Nodes.l0]; rw [if_neg (by omega)]) (Ev.now _)
theorem nodes3_loop (f : Nat) : ∀ (x s : Nat), x < 2 ^ f → f ≤ 63 → s + nodesN x ≤ 18446744073709551615 → Ev (fun k => massifref3_Nodes.l0 k (x : Int) (s : Int)) (((s + nodesN x : Nat) : Int), true) := by
  induction f with
  | zero =>
    intro x s hx _ _
    have : x = 0 := by simpa using hx
    subst this
    rw [nodes_zero]
    exact nodes3_stop s
  | succ f ih =>
    intro x s hx hf hs
    have hple := p2_le hf
    by_cases h0 : x = 0
    · subst h0
      rw [nodes_zero]
      exact nodes3_stop s
    · have hh := nodes_half x (by omega)
      have ih := ih (x / 2) (s + x) (by rw [Nat.pow_succ] at hx; omega) (by omega) (by omega)
      rw [show s + nodesN x = s + x + nodesN (x / 2) by omega]
      exact nodes3_step x s _ h0 (by omega) (by omega) ih
theorem nodes3_val (n : Nat) (hn : n ≤ 4611686018427387904) : Ev (fun k => massifref3_Nodes.f k (n : Int)) (((nodesN n : Nat) : Int), true) := by
  have hl := nodes_le n
  have h := nodes3_loop 63 n 0 (by omega) (by omega) (by omega)
  rw [Nat.zero_add] at h
  exact Ev.congr (fun k => if_neg (by omega)) h
theorem place3_val (h i : Nat) (hi : (i + 1) * 2 ^ h ≤ 4611686018427387904) : Ev (fun k => massifref3_Place.f k (h : Int) (i : Int)) (((placeN h i : Nat) : Int), true) := by
  have hh := height_le h i hi
  have hp := p2_pos h
  have h1 : (i + 1) * 2 ^ h = i * 2 ^ h + 2 ^ h := by rw [Nat.add_mul, Nat.one_mul]
  have hi1 : i + 1 ≤ 4611686018427387904 := Nat.le_trans (Nat.le_mul_of_pos_right _ hp) hi
  have hlt : i < 2 ^ (62 - h) := by
    have e : 2 ^ (62 - h) * 2 ^ h = 4611686018427387904 := by rw [← Nat.pow_add, show 62 - h + h = 62 by omega]
    by_cases hc : i < 2 ^ (62 - h)
    · exact hc
    · have : (2 ^ (62 - h) + 1) * 2 ^ h ≤ (i + 1) * 2 ^ h := Nat.mul_le_mul_right _ (by omega)
      rw [Nat.add_mul, e, Nat.one_mul] at this
      omega
  have hn := place_lt h i hi
  have e0 : wrap64 (h : Int) = h := i64_of _ (by omega) (by omega)
  unfold massifref3_Place.f
  rw [e0]
  refine Ev.congr (fun k => if_neg (by omega)) ?_
  rw [i64_of (62 - (h : Int)) (by omega) (by omega), show (62 - (h : Int)) = ((62 - h : Nat) : Int) by omega]
  refine Ev.bind (power_val (62 - h) (by omega)) ?_
  refine Ev.step (fun k => by simp only [massifref3_Place.j0]; rw [if_neg (by rw [decide_eq_true_eq]; omega)]) ?_
  refine Ev.bind (power_val h (by omega)) ?_
  rw [w64_of ((i : Int) + 1) (by omega) (by omega), show ((i : Int) + 1) * ((2 ^ h : Nat) : Int) = (((i + 1) * 2 ^ h : Nat) : Int) by push_cast; rfl, w64_nat _ (by omega), w64_of ((((i + 1) * 2 ^ h : Nat) : Int) - 1) (by omega) (by omega),
    show (((i + 1) * 2 ^ h : Nat) : Int) - 1 = (((i + 1) * 2 ^ h - 1 : Nat) : Int) by omega]
  refine Ev.bind (nodes3_val _ (by omega)) ?_
  unfold placeN at hn ⊢
  rw [w64_nat h (by omega), w64_of _ (by omega) (by omega)]
  exact Ev.now _
end Go.Proofs.Ytagcabmccpekaaa.M

set_option linter.unusedVariables false
set_option linter.unusedSimpArgs false
namespace Go.Proofs.Ytagcabmccpekaaa.M
open Go.RowKit Go.Proofs.YtagcabmccpekaaaW.PrintWords Go.Proofs.YtagcabmccpekaaaW.PrintLast Go.Proofs.YtagcabmccpekaaaW.PrintMore Go.Proofs.Ytagcabmccpekaaa.Leaf

/-- A number in as few bytes as it needs, by at most f + 1 of them. -/
def shortF : Nat → Nat → List Nat
  | 0, x => [x]
  | f + 1, x => if x < 128 then [x] else (128 + x % 128) :: shortF f (x / 128)
def shortI (x : Nat) : List Int := (shortF 9 x).map fun (b : Nat) => (b : Int)
theorem shortF_len : ∀ f x, (shortF f x).length ≤ f + 1
  | 0, x => by simp [shortF]
  | f + 1, x => by
    have := shortF_len f (x / 128)
    simp only [shortF]
    split <;> simp <;> omega
theorem or128 (x : Nat) : Go.bits .or .u8 ((x : Int) % 256) 128 = ((128 + x % 128 : Nat) : Int) := by
  have h := u8_or_nat (x % 256) 128 (by omega) (by omega)
  have h2 : x % 256 ||| 128 = 128 + x % 128 := by
    have : ∀ y : Fin 256, y.val ||| 128 = 128 + y.val % 128 := by decide +kernel
    have h3 := this ⟨x % 256, by omega⟩
    simp only at h3
    omega
  rw [h2] at h
  exact h
theorem short_loop (f : Nat) : ∀ (x : Nat) (xs : List Int), x < 2 ^ (7 * f + 1) → f ≤ 9 → xs.length + f ≤ 9 → Ev (fun k => num_Short.l0 k (x : Int) xs) (xs ++ (shortF f x).map fun (b : Nat) => (b : Int)) := by
  induction f with
  | zero =>
    intro x xs hx hf hl
    simp at hx
    exact Ev.step (f := fun _ => some (xs ++ [(x : Int)])) (fun k => by simp only [num_Short.l0]; rw [if_neg (by omega), if_pos (by omega), show (x : Int) % 256 = x by omega]) (Ev.now _)
  | succ f ih =>
    intro x xs hx hf hl
    by_cases c : x < 128
    · rw [show shortF (f + 1) x = [x] by simp only [shortF]; rw [if_pos c]]
      exact Ev.step (f := fun _ => some (xs ++ [(x : Int)])) (fun k => by simp only [num_Short.l0]; rw [if_neg (by omega), if_pos (by omega), show (x : Int) % 256 = x by omega]) (Ev.now _)
    · rw [show shortF (f + 1) x = (128 + x % 128) :: shortF f (x / 128) by simp only [shortF]; rw [if_neg c]]
      have ih := ih (x / 128) (xs ++ [((128 + x % 128 : Nat) : Int)]) (by rw [show 7 * (f + 1) + 1 = (7 * f + 1) + 7 by omega, Nat.pow_add] at hx; omega) (by omega) (by simp; omega)
      rw [List.map_cons, show xs ++ ((128 + x % 128 : Nat) : Int) :: (shortF f (x / 128)).map (fun (b : Nat) => (b : Int)) = xs ++ [((128 + x % 128 : Nat) : Int)] ++ (shortF f (x / 128)).map (fun (b : Nat) => (b : Int)) by simp]
      refine Ev.step (fun k => by simp only [num_Short.l0]; rw [if_pos (by omega), if_pos (by omega), or128, show (x : Int) / 128 = ((x / 128 : Nat) : Int) by omega]) ih
theorem short_val (x : Nat) (hx : x < 18446744073709551616) : Ev (fun k => num_Short.f k (x : Int)) (shortI x) := by
  have h := short_loop 9 x [] (by omega) (by omega) (by simp)
  exact h
theorem short1_loop (f : Nat) : ∀ (x : Nat) (xs : List Int), x < 2 ^ (7 * f + 1) → f ≤ 9 → xs.length + f ≤ 9 → Ev (fun k => massifref1_Short.l0 k (x : Int) xs) (xs ++ (shortF f x).map fun (b : Nat) => (b : Int)) := by
  induction f with
  | zero =>
    intro x xs hx hf hl
    simp at hx
    exact Ev.step (f := fun _ => some (xs ++ [(x : Int)])) (fun k => by simp only [massifref1_Short.l0]; rw [if_neg (by omega), if_pos (by omega), show (x : Int) % 256 = x by omega]) (Ev.now _)
  | succ f ih =>
    intro x xs hx hf hl
    by_cases c : x < 128
    · rw [show shortF (f + 1) x = [x] by simp only [shortF]; rw [if_pos c]]
      exact Ev.step (f := fun _ => some (xs ++ [(x : Int)])) (fun k => by simp only [massifref1_Short.l0]; rw [if_neg (by omega), if_pos (by omega), show (x : Int) % 256 = x by omega]) (Ev.now _)
    · rw [show shortF (f + 1) x = (128 + x % 128) :: shortF f (x / 128) by simp only [shortF]; rw [if_neg c]]
      have hb : x < 18446744073709551616 := Nat.lt_of_lt_of_le hx (Nat.pow_le_pow_right (by omega) (by omega : 7 * (f + 1) + 1 ≤ 64))
      have ih := ih (x / 128) (xs ++ [((128 + x % 128 : Nat) : Int)]) (by rw [show 7 * (f + 1) + 1 = (7 * f + 1) + 7 by omega, Nat.pow_add] at hx; omega) (by omega) (by simp; omega)
      rw [List.map_cons, show xs ++ ((128 + x % 128 : Nat) : Int) :: (shortF f (x / 128)).map (fun (b : Nat) => (b : Int)) = xs ++ [((128 + x % 128 : Nat) : Int)] ++ (shortF f (x / 128)).map (fun (b : Nat) => (b : Int)) by simp]
      have e1 : IntKind.u64.wrap (Int.tmod (x : Int) 128 + 128) % 256 = ((128 + x % 128 : Nat) : Int) := by
        rw [Int.tmod_eq_emod_of_nonneg (by omega), w64_of _ (by omega) (by omega)]
        omega
      have e2 : IntKind.u64.wrap (Int.tdiv (x : Int) 128) = ((x / 128 : Nat) : Int) := by
        rw [Int.tdiv_eq_ediv_of_nonneg (by omega), w64_of _ (by omega) (by omega)]
        omega
      refine Ev.step (fun k => by simp only [massifref1_Short.l0]; rw [if_pos (by omega), if_pos (by omega), e1, e2]) ih
theorem short1_val (x : Nat) (hx : x < 18446744073709551616) : Ev (fun k => massifref1_Short.f k (x : Int)) (shortI x) := by
  have h := short1_loop 9 x [] (by omega) (by omega) (by simp)
  exact h
theorem shortI_len (x : Nat) : (shortI x).length ≤ 10 := by
  have := shortF_len 9 x
  simpa [shortI] using this
end Go.Proofs.Ytagcabmccpekaaa.M

set_option linter.unusedVariables false
set_option linter.unusedSimpArgs false
namespace Go.Proofs.Ytagcabmccpekaaa.M
open Go.RowKit Go.Proofs.YtagcabmccpekaaaW.PrintWords Go.Proofs.YtagcabmccpekaaaW.PrintLast Go.Proofs.YtagcabmccpekaaaW.PrintMore Go.Proofs.Ytagcabmccpekaaa.Leaf

/-- Reading the byte number i: x has been read. -/
def longF : Nat → Nat → Nat → List Int → Int × Int × Int
  | 0, _, _, _ => (0, 0, 10)
  | _ + 1, _, _, [] => (0, 0, 11)
  | d + 1, i, x, b :: r =>
    if i = 9 ∧ b > 1 then (0, 0, 10)
    else if b < 128 then (if 0 < i ∧ b = 0 then (0, 0, 12) else (((x + b.toNat % 128 * 2 ^ (7 * i) : Nat) : Int), ((i + 1 : Nat) : Int), 0))
    else longF d (i + 1) (x + b.toNat % 128 * 2 ^ (7 * i)) r
def longN (bs : List Int) : Int × Int × Int := longF 10 0 0 bs
def Bytes (bs : List Int) : Prop := ∀ b ∈ bs, 0 ≤ b ∧ b < 256
theorem or_high (x y i : Nat) (hx : x < 2 ^ i) : x ||| y * 2 ^ i = x + y * 2 ^ i := by
  rw [Nat.or_comm, Nat.mul_comm, ← Nat.two_pow_add_eq_or_of_lt hx, Nat.add_comm]
theorem long_step (x b i : Nat) (hi : i ≤ 9) (hx : x < 2 ^ (7 * i)) (hb : b < 256) (h9 : i = 9 → b ≤ 1) : Go.bits .or .u64 (x : Int) (shl .u64 (Go.bits .and .u64 (b : Int) 127) ((7 * i : Nat) : Int)) = ((x + b % 128 * 2 ^ (7 * i) : Nat) : Int) ∧ x + b % 128 * 2 ^ (7 * i) < 2 ^ 64 ∧ (i < 9 → x + b % 128 * 2 ^ (7 * i) < 2 ^ (7 * (i + 1))) := by
  have h1 : Go.bits .and .u64 (b : Int) 127 = ((b % 128 : Nat) : Int) := by
    have := and64 b 127 (by omega) (by omega)
    rw [show b &&& 127 = b % 128 from Nat.and_two_pow_sub_one_eq_mod b 7] at this
    exact this
  have hp : 0 < 2 ^ (7 * i) := p2_pos _
  have hm : b % 128 * 2 ^ (7 * i) ≤ 127 * 2 ^ (7 * i) := Nat.mul_le_mul_right _ (by omega)
  have hle : i < 9 → 2 ^ (7 * (i + 1)) ≤ 2 ^ 63 := fun h => Nat.pow_le_pow_right (by omega) (by omega)
  have hs : i < 9 → 2 ^ (7 * (i + 1)) = 128 * 2 ^ (7 * i) := fun _ => by rw [show 7 * (i + 1) = 7 * i + 7 by omega, Nat.pow_add]; omega
  have hlt : x + b % 128 * 2 ^ (7 * i) < 2 ^ 64 ∧ (i < 9 → x + b % 128 * 2 ^ (7 * i) < 2 ^ (7 * (i + 1))) := by
    by_cases h : i < 9
    · have := hle h
      have := hs h
      exact ⟨by omega, fun _ => by omega⟩
    · have h99 : i = 9 := by omega
      have := h9 h99
      subst h99
      have : b % 128 * 2 ^ (7 * 9) ≤ 1 * 2 ^ (7 * 9) := Nat.mul_le_mul_right _ (by omega)
      exact ⟨by omega, fun h => absurd h (by omega)⟩
  refine ⟨?_, hlt⟩
  rw [h1, shl_nat _ _ (by omega) (by omega)]
  have := u64_or_nat x (b % 128 * 2 ^ (7 * i)) (by omega) (by omega)
  rw [or_high x _ _ hx] at this
  exact this
theorem long_loop (bs : List Int) (hb : Bytes bs) (hl : bs.length < 9223372036854775807) : ∀ (d i x : Nat), i + d = 10 → i ≤ bs.length → x < 2 ^ (7 * i) → Ev (fun k => num_Long.l0 k bs (x : Int) (i : Int)) (longF d i x (bs.drop i))
  | 0, i, x, hd, _, _ => Ev.step (f := fun _ => some (0, 0, 10)) (fun k => by simp only [num_Long.l0]; rw [if_neg (by omega)]) (Ev.now _)
  | d + 1, i, x, hd, hi, hx => by
    by_cases he : i = bs.length
    · rw [List.drop_of_length_le (by omega)]
      exact Ev.step (f := fun _ => some (0, 0, 11)) (fun k => by simp only [num_Long.l0]; rw [if_pos (by omega), if_pos (by omega)]) (Ev.now _)
    · have hlt : i < bs.length := by omega
      have hr : rd bs (i : Int) = bs[i] := by simp [rd, List.getD_eq_getElem?_getD, List.getElem?_eq_getElem hlt]
      obtain ⟨h0, h256⟩ := hb _ (List.getElem_mem hlt)
      rw [List.drop_eq_getElem_cons hlt]
      generalize hbd : bs[i] = b at *
      obtain ⟨c, hc⟩ : ∃ c : Nat, b = (c : Int) := ⟨b.toNat, by omega⟩
      subst hc
      have SS := Aside0.mk (fun (hi9 : i ≤ 9) (h256 : c < 256) (h9 : i = 9 → c ≤ 1) => long_step x c i hi9 hx h256 h9)
      clear hx
      have hw : IntKind.u64.wrap (c : Int) = (c : Int) := w64_nat c (by omega)
      have h7 : wrap64 (7 * (i : Int)) = ((7 * i : Nat) : Int) := by rw [i64_of _ (by omega) (by omega)]; omega
      have tail : ∀ q : Bool, q = decide (i = 9 ∧ (c : Int) > 1) → Ev (fun k => num_Long.j1 k bs (x : Int) (i : Int) (c : Int) (i : Int) q) (longF (d + 1) i x ((c : Int) :: bs.drop (i + 1))) := by
        intro q hq
        simp only [longF]
        by_cases c9 : i = 9 ∧ (c : Int) > 1
        · rw [if_pos c9]
          rw [decide_eq_true c9] at hq
          subst hq
          exact Ev.step (f := fun _ => some (0, 0, 10)) (fun k => by simp only [num_Long.j1]; rw [if_pos trivial]) (Ev.now _)
        · rw [if_neg c9]
          rw [decide_eq_false c9] at hq
          subst hq
          have e1 : wrap64 ((i : Int) + 1) = ((i + 1 : Nat) : Int) := by rw [i64_of _ (by omega) (by omega)]; omega
          have h9 : ¬ (c : Int) < 128 → i < 9 := fun hc => Nat.lt_of_not_le (fun h => c9 ⟨by omega, by omega⟩)
          have g0 : (0 : Int) ≤ ((7 * i : Nat) : Int) := Int.natCast_nonneg _
          have gi : 0 < i → (i : Int) > 0 := fun h => by omega
          have gn : ¬ 0 < i → ¬ (i : Int) > 0 := fun h => by omega
          have gd : i + 1 + d = 10 := by omega
          have gl : i + 1 ≤ bs.length := by omega
          obtain ⟨s1, s2, s3⟩ := SS.out (by omega) (by omega) (fun h9 => by omega)
          rw [Int.toNat_natCast]
          obtain ⟨X, hX⟩ : ∃ X, X = x + c % 128 * 2 ^ (7 * i) := ⟨_, rfl⟩
          rw [← hX] at s1 s2 s3 ⊢
          have ihd : i < 9 → Ev (fun k => num_Long.l0 k bs (X : Int) ((i + 1 : Nat) : Int)) (longF d (i + 1) X (bs.drop (i + 1))) := fun h9 => long_loop bs hb hl d (i + 1) X gd gl (s3 h9)
          clear s2 s3 hX
          by_cases c128 : (c : Int) < 128
          · rw [if_pos c128]
            by_cases cf : 0 < i ∧ (c : Int) = 0
            · rw [if_pos cf]
              exact Ev.step (f := fun _ => some (0, 0, 12)) (fun k => by simp only [num_Long.j1]; rw [if_neg Bool.false_ne_true, h7, s1, if_pos g0, if_pos c128, if_pos (gi cf.1), if_pos cf.2]) (Ev.now _)
            · rw [if_neg cf]
              refine Ev.step (f := fun _ => some ((X : Int), ((i + 1 : Nat) : Int), 0)) (fun k => ?_) (Ev.now _)
              simp only [num_Long.j1]
              rw [if_neg Bool.false_ne_true, h7, s1, e1, if_pos g0, if_pos c128]
              by_cases hi0 : 0 < i
              · rw [if_pos (gi hi0), if_neg (fun h => cf ⟨hi0, h⟩)]
              · rw [if_neg (gn hi0)]
          · rw [if_neg c128]
            exact Ev.step (fun k => by simp only [num_Long.j1]; rw [if_neg Bool.false_ne_true, h7, s1, e1, if_pos g0, if_neg c128]) (ihd (h9 c128))
      have k1 : (i : Int) < 10 := by omega
      have k2 : ¬ (i : Int) = (bs.length : Int) := by omega
      have k3 : (0 : Int) ≤ (i : Int) := by omega
      have k4 : (i : Int) < (bs.length : Int) := by omega
      by_cases c9 : i = 9
      · have t := tail (decide ((c : Int) > 1)) (by simp [c9])
        have k5 : (i : Int) = 9 := by omega
        exact Ev.step (fun k => by simp only [num_Long.l0]; rw [if_pos k1, if_neg k2, if_pos k3, if_pos k4, if_pos k5, hr, hw]) t
      · have t := tail false (by simp [c9])
        have k5 : ¬ (i : Int) = 9 := by omega
        exact Ev.step (fun k => by simp only [num_Long.l0]; rw [if_pos k1, if_neg k2, if_pos k3, if_pos k4, if_neg k5, hr, hw]) t
theorem long_val (bs : List Int) (hb : Bytes bs) (hl : bs.length < 9223372036854775807) : Ev (fun k => num_Long.f k bs) (longN bs) := by
  have := long_loop bs hb hl 10 0 0 rfl (Nat.zero_le _) (by omega)
  rw [List.drop_zero] at this
  exact this
/-! There, and back. -/
theorem long_short (rest : List Int) : ∀ (f i acc x : Nat), i + f = 9 → x < 2 ^ (7 * f + 1) → (0 < i → 0 < x) → longF (f + 1) i acc ((shortF f x).map (fun (b : Nat) => (b : Int)) ++ rest) = (((acc + x * 2 ^ (7 * i) : Nat) : Int), ((i + (shortF f x).length : Nat) : Int), 0)
  | 0, i, acc, x, hf, hx, hp => by
    simp at hx
    simp only [shortF, List.map_cons, List.map_nil, List.cons_append, List.nil_append, longF, Int.toNat_natCast, List.length_singleton]
    rw [if_neg (by omega), if_pos (by omega), if_neg (by omega), Nat.mod_eq_of_lt (by omega)]
  | f + 1, i, acc, x, hf, hx, hp => by
    by_cases c : x < 128
    · rw [show shortF (f + 1) x = [x] by simp only [shortF]; rw [if_pos c]]
      simp only [List.map_cons, List.map_nil, List.cons_append, List.nil_append, longF, Int.toNat_natCast, List.length_singleton]
      rw [if_neg (by omega), if_pos (by omega), if_neg (by omega), Nat.mod_eq_of_lt c]
    · rw [show shortF (f + 1) x = (128 + x % 128) :: shortF f (x / 128) by simp only [shortF]; rw [if_neg c]]
      have ih := long_short rest f (i + 1) (acc + x % 128 * 2 ^ (7 * i)) (x / 128) (by omega) (by rw [show 7 * (f + 1) + 1 = (7 * f + 1) + 7 by omega, Nat.pow_add] at hx; omega) (fun _ => by omega)
      simp only [List.map_cons, List.cons_append, List.length_cons]
      rw [longF]
      rw [if_neg (by omega), if_neg (by omega), Int.toNat_natCast, show (128 + x % 128) % 128 = x % 128 by omega, ih]
      have e : acc + x % 128 * 2 ^ (7 * i) + x / 128 * 2 ^ (7 * (i + 1)) = acc + x * 2 ^ (7 * i) := by
        rw [show 7 * (i + 1) = 7 * i + 7 by omega, Nat.pow_add, show x / 128 * (2 ^ (7 * i) * 2 ^ 7) = (128 * (x / 128)) * 2 ^ (7 * i) by rw [← Nat.mul_assoc, Nat.mul_comm (x / 128), Nat.mul_assoc, Nat.mul_comm (2 ^ (7 * i))]; congr 1; omega, Nat.add_assoc, ← Nat.add_mul]
        congr 2
        omega
      rw [e, show i + 1 + (shortF f (x / 128)).length = i + ((shortF f (x / 128)).length + 1) by omega]
theorem longN_short (x : Nat) (rest : List Int) (hx : x < 18446744073709551616) : longN (shortI x ++ rest) = ((x : Int), ((shortI x).length : Int), 0) := by
  have := long_short rest 9 0 0 x rfl (by omega) (fun h => absurd h (by omega))
  unfold longN shortI
  rw [this]
  simp
theorem short_long : ∀ (d i acc : Nat) (bs : List Int) (v k : Int), Bytes bs → i + d = 9 → longF (d + 1) i acc bs = (v, k, 0) → ∃ y : Nat, y < 2 ^ (7 * d + 1) ∧ (0 < i → 0 < y) ∧ v = ((acc + y * 2 ^ (7 * i) : Nat) : Int) ∧ k = ((i + (shortF d y).length : Nat) : Int) ∧ ∃ rest, bs = (shortF d y).map (fun (b : Nat) => (b : Int)) ++ rest := by
  intro d
  induction d with
  | zero =>
    intro i acc bs v k hb hd h
    have hi : i = 9 := by omega
    cases bs with
    | nil => simp [longF] at h
    | cons b r =>
      obtain ⟨h0, h256⟩ := hb b List.mem_cons_self
      obtain ⟨c, hc⟩ : ∃ c : Nat, b = (c : Int) := ⟨b.toNat, by omega⟩
      subst hc
      rw [longF] at h
      split at h
      · simp at h
      · next c1 =>
        split at h
        · split at h
          · simp at h
          · next c3 =>
            rw [Int.toNat_natCast, Nat.mod_eq_of_lt (by omega)] at h
            injection h with h1 h2
            injection h2 with h2 _
            exact ⟨c, by omega, fun _ => by omega, h1.symm, by rw [← h2]; rfl, r, rfl⟩
        · simp only [longF] at h
          simp at h
  | succ d ih =>
    intro i acc bs v k hb hd h
    cases bs with
    | nil => simp [longF] at h
    | cons b r =>
      obtain ⟨h0, h256⟩ := hb b List.mem_cons_self
      obtain ⟨c, hc⟩ : ∃ c : Nat, b = (c : Int) := ⟨b.toNat, by omega⟩
      subst hc
      rw [longF] at h
      split at h
      · simp at h
      · next c1 =>
        split at h
        · next c2 =>
          split at h
          · simp at h
          · next c3 =>
            rw [Int.toNat_natCast, Nat.mod_eq_of_lt (by omega)] at h
            injection h with h1 h2
            injection h2 with h2 _
            have hs : shortF (d + 1) c = [c] := by simp only [shortF]; rw [if_pos (by omega)]
            refine ⟨c, ?_, fun _ => by omega, h1.symm, by rw [← h2, hs]; rfl, r, by rw [hs]; rfl⟩
            have : 2 ^ 8 ≤ 2 ^ (7 * (d + 1) + 1) := Nat.pow_le_pow_right (by omega) (by omega)
            omega
        · next c2 =>
          obtain ⟨y, y1, y2, y3, y4, rest, y5⟩ := ih (i + 1) _ r v k (fun x hx => hb x (List.mem_cons_of_mem _ hx)) (by omega) h
          have hy := y2 (by omega)
          rw [Int.toNat_natCast] at y3
          have hs : shortF (d + 1) (c % 128 + 128 * y) = (128 + c % 128) :: shortF d y := by
            simp only [shortF]
            rw [if_neg (by omega), show (c % 128 + 128 * y) % 128 = c % 128 by omega, show (c % 128 + 128 * y) / 128 = y by omega]
          refine ⟨c % 128 + 128 * y, ?_, fun _ => by omega, ?_, ?_, rest, ?_⟩
          · rw [show 7 * (d + 1) + 1 = (7 * d + 1) + 7 by omega, Nat.pow_add]
            omega
          · rw [y3, show 7 * (i + 1) = 7 * i + 7 by omega, Nat.pow_add, Nat.add_mul, show y * (2 ^ (7 * i) * 2 ^ 7) = 128 * y * 2 ^ (7 * i) by rw [← Nat.mul_assoc, Nat.mul_comm (y * 2 ^ (7 * i)), Nat.mul_assoc], Nat.add_assoc]
          · rw [y4, hs, List.length_cons]
            congr 1
            omega
          · rw [hs, List.map_cons, List.cons_append, ← y5]
            congr 1
            omega
theorem longN_back {bs : List Int} (hb : Bytes bs) {v k : Int} (h : longN bs = (v, k, 0)) : ∃ (x : Nat) (rest : List Int), x < 18446744073709551616 ∧ v = (x : Int) ∧ k = ((shortI x).length : Int) ∧ bs = shortI x ++ rest := by
  obtain ⟨y, y1, _, y3, y4, rest, y5⟩ := short_long 9 0 0 bs v k hb rfl h
  refine ⟨y, rest, by omega, by rw [y3]; simp, by rw [y4]; unfold shortI; simp, y5⟩
end Go.Proofs.Ytagcabmccpekaaa.M

set_option linter.unusedVariables false
set_option linter.unusedSimpArgs false
namespace Go.Proofs.Ytagcabmccpekaaa.M
open Go.RowKit Go.Proofs.YtagcabmccpekaaaW.PrintWords Go.Proofs.YtagcabmccpekaaaW.PrintLast Go.Proofs.YtagcabmccpekaaaW.PrintMore Go.Proofs.Ytagcabmccpekaaa.Leaf

set_option maxHeartbeats 1000000 in
set_option maxRecDepth 100000 in
theorem span_tell (h i p : Int) (b : Bool) (hp : pos_Place.f h i = some (p, b)) (bl : Nat) (v : Value) (xs : List Int) (base : Nat) (w : World)
    (hbl : w.heap[bl]? = some (.cells #[v] 23 (0, 0))) (hv : Kd.R (Kd.int .u64) 22 w base (fun _ => True) v xs) (hbase : base ≤ w.heap.size) (hl : xs.length < 17592186044415) :
    Calls Try.prog 45 #[.agg #[.int .u8 h, .int .u64 i], .pointer (some ⟨bl, 0, none⟩)] w fun e w' => e = .returned (.tuple #[]) ∧
      ∃ v', w'.heap[bl]? = some (.cells #[v'] 23 (0, 0)) ∧ Kd.R (Kd.int .u64) 22 w' base (fun _ => True) v' (xs ++ [p]) ∧
        Frm (fun k => k = bl ∨ some k = v.ownBlock) w w' ∧ (v'.ownBlock = v.ownBlock ∨ ∃ b, v'.ownBlock = some b ∧ w.heap.size ≤ b) := by
  go_enter Try.func45, Try.ntmps45
  have hlt := blk_lt hbl
  go_wp2_with fail
  refine (pos_Place.calls h i p b _ hp).mono ?_
  rintro e w1 ⟨rfl, hb⟩
  have hb0 : Below w.heap.size w w1 := ((Below.refl _ _).alloc (Nat.le_refl _) _).trans (hb.mono (by simp))
  have hbl1 : w1.heap[bl]? = some (.cells #[v] 23 (0, 0)) := (hb0.block bl hlt).trans hbl
  have hv1 := Kd.R_below hv hb0
  have hsz := hb0.size
  have hbs1 : base ≤ w1.heap.size := by omega
  have hc0 : w1.cell? ⟨bl, 0, none⟩ = some v := (blk_cell hbl1 0).trans rfl
  have H := Aside0.mk hv1
  have HB := Aside0.mk hbl1
  have HL := Aside0.mk hl
  have H0 := Aside0.mk hb0
  clear hv hbl hl hb hb0 hv1 hbl1
  go_wp2_with (at_builtin; go_loud (refine Kd.R_append (Kd.int .u64) (w0 := w1) base rfl (.tmp 10) (.tmp 12) 23 22 (.int .u64 0) 8 rfl Try.underlying23 info22 rfl (by decide) (by omega) v xs p [.int .u64 p] (fun _ => True) (fun _ => False) rfl rfl ?aP (fun _ hk => hk.elim) ?aF ?aO ?aB ?aS ?aL ?_; (case aP => exact rfl); (case aF => exact (fun _ _ => trivial)); (case aO => exact H.out); (case aB => exact Below.refl _ _); (case aS => exact hbs1); (case aL => have := HL.out; omega); intro v1 w2 ho _ hg hat; have HO := Aside0.mk ho; have HG := Aside0.mk hg; have HA := Aside0.mk hat; obtain ⟨A1, c1, e1⟩ : ∃ A1 c1, v1 = .slice A1 (xs.length + 1) c1 := (by obtain ⟨A1, c1, e1⟩ := Kd.R_slice ho; exact ⟨A1, c1, (by rw [e1]; simp)⟩); rw [e1]; have HE := Aside0.mk e1; clear ho hg hat e1; have hne := Aside0.mk (Kd.R_ne H.out HB.out (by decide)); have hbl2 := blk_grown HB.out HG.out hne.out; have hc2 : w2.cell? ⟨bl, 0, none⟩ = some v := (blk_cell hbl2 0).trans rfl; have hf2 : w2.frozen? ⟨bl, 0, none⟩ = false := blk_frozen hbl2 0; have HB2 := Aside0.mk hbl2; clear hbl2))
  go_end0
  refine ⟨rfl, _, blk_set HB2.out 0 _, ?_, ?_, ?_⟩
  · rw [← HE.out]
    exact Kd.R_set HO.out HB2.out (by decide) 0 _
  · exact ((Frm.of_below H0.out _).trans (Frm.of_grown HG.out) (fun _ _ hk => .inr hk)).trans (Frm.of_set _ _ _) (fun _ _ hk => .inl hk)
  · rw [← HE.out]
    rcases HA.out with h1 | ⟨b1, h1, h2⟩
    · exact .inl h1
    · exact .inr ⟨b1, h1, by omega⟩
end Go.Proofs.Ytagcabmccpekaaa.M
