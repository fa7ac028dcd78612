/- Words of this session: what a call may change ('Frm'), and how rows of the call's own live on. A row's 'post' where the call has at most laid new blocks (Below): 'post_of_same' with Below for the frame and for what is frozen. Plain laws of places, with no program in sight: set bits, how many nodes n leaves have, the greatest n with so many nodes, peaks, the spots that a span needs. math/bits.OnesCount64's arithmetic counts the set bits. What the functions of pos and of massifref3 come to, by the plain laws. Plain laws of a leaf's path and peak, with no program in sight: which spots a proof of a leaf has, that they and the leaf are all leaves, none twice. What pos.Peak, pos.Path, pos.Under come to, by the plain laws. The fewest spots over a span, in plain Lean: the lowest set bit, the greedy row of spots, its length and its ends. Hashes in memory: an element of a row of hashes is loaded, a variable takes one. -/
import Derived.Test.YtefnonlhepekdaaDoorLq
import Derived.Test.YtefnonlhepekdaaDoorRows
import Derived.WalkKit
import Derived.ProofKit
import Derived.OpenShut
import Derived.Lib.BitFns
import Derived.Deep.MidRow
set_option linter.unusedVariables false
set_option linter.unusedSimpArgs false
set_option linter.unusedVariables false
set_option linter.unusedSimpArgs false
namespace Go.Proofs.YtefnonlhepekdaaDoor.M
open Go.RowKit Go.Proofs.YtefnonlhepekdaaDoorW.PrintWords Go.Proofs.YtefnonlhepekdaaDoorW.PrintLast Go.Proofs.YtefnonlhepekdaaDoorW.PrintMore

/-- Of the blocks that were there only those of S may have changed. -/
structure Frm (S : Nat → Prop) (w w' : World) : Prop where
  os : w'.os = w.os
  tape : w'.tape = w.tape
  output : w'.output = w.output
  size : w.heap.size ≤ w'.heap.size
  block : ∀ k, k < w.heap.size → ¬ S k → w'.heap[k]? = w.heap[k]?

theorem Frm.refl (S : Nat → Prop) (w : World) : Frm S w w := ⟨rfl, rfl, rfl, Nat.le_refl _, fun _ _ _ => rfl⟩
theorem Frm.trans {S S' : Nat → Prop} {a b c : World} (h : Frm S a b) (k : Frm S' b c) (hs : ∀ i, i < a.heap.size → S' i → S i) : Frm S a c :=
  ⟨k.os.trans h.os, k.tape.trans h.tape, k.output.trans h.output, Nat.le_trans h.size k.size, fun i hi hn => (k.block i (Nat.lt_of_lt_of_le hi h.size) (fun hs' => hn (hs i hi hs'))).trans (h.block i hi hn)⟩
theorem Frm.of_below {w w' : World} (h : Below w.heap.size w w') (S : Nat → Prop) : Frm S w w' := ⟨h.os, h.tape, h.output, h.size, fun k hk _ => h.block k hk⟩
theorem Frm.below {S : Nat → Prop} {w w' : World} (h : Frm S w w') {B : Nat} (hB : B ≤ w.heap.size) (hs : ∀ i, S i → B ≤ i) : Below B w w' :=
  ⟨h.os, h.tape, h.output, h.size, fun k hk => h.block k (Nat.lt_of_lt_of_le hk hB) (fun hsk => by have := hs k hsk; omega)⟩
theorem Frm.of_grown {w w' : World} {row : Option Nat} (h : w.grownBy w' row) : Frm (fun k => some k = row) w w' := ⟨h.os, h.tape, h.output, h.size, fun k hk hn => h.block k hk hn⟩
theorem Frm.of_set (w : World) (p : Addr) (u : Value) : Frm (fun k => k = p.block) w (w.setCell p u) :=
  ⟨rfl, rfl, rfl, by simp [World.setCell], fun k _ hn => Below.heap_setCell w p u k hn⟩
theorem Frm.mono {S S' : Nat → Prop} {w w' : World} (h : Frm S w w') (hs : ∀ k, k < w.heap.size → S k → S' k) : Frm S' w w' :=
  ⟨h.os, h.tape, h.output, h.size, fun k hk hn => h.block k hk (fun hk' => hn (hs k hk hk'))⟩
theorem heap_new (w : World) (o : Obj) : (w.alloc o).heap[w.heap.size]? = some o := by
  show (w.heap.push o)[w.heap.size]? = some o
  simp
theorem bl_new (w : World) (o : Obj) : Below w.heap.size w (w.alloc o) := (Below.refl _ _).alloc (Nat.le_refl _) _
/-! Flat kinds: an element is its cells, whatever the world. -/
def Flat {α : Type} (d : Kd α) : Prop := ∀ (w w' : World) (b b' : Nat) (ok ok' : Nat → Prop) (x : α) (cs : List Value), d.M w b ok x cs → d.M w' b' ok' x cs
theorem flat_int (k : IntKind) : Flat (Kd.int k) := fun _ _ _ _ _ _ _ _ h => h
def flat {α : Type} (enc : α → List Value) (n : Nat) (hn : ∀ x, (enc x).length = n) (h1 : ∀ x, ∀ u ∈ enc x, u.oneCell' = true) : Kd α where
  sz := n
  E := []
  K := fun _ x cs => cs = enc x
  M := fun _ _ _ x cs => cs = enc x
  K_len := fun h => by rw [h]; exact hn _
  K_one := fun h u hu => by rw [h] at hu; exact h1 _ u hu
  K_below := fun _ h => h
  K_of_M := fun h => h
  M_mono := fun _ h => h
  M_bound := fun h => h
  M_move := fun _ h => h
  M_lower := fun _ h => h
/-- A hash: 32 numbers. -/
structure Hsh where
  b : List Int
  len : b.length = 32
deriving DecidableEq
def Hsh.cells (h : Hsh) : List Value := h.b.map (Value.int .u8)
theorem Hsh.cells_len (h : Hsh) : h.cells.length = 32 := by simp [Hsh.cells, h.len]
def kH : Kd Hsh := flat Hsh.cells 32 Hsh.cells_len (fun x u hu => by
  obtain ⟨y, _, rfl⟩ := List.mem_map.1 hu
  rfl)
theorem flat_kH : Flat kH := fun _ _ _ _ _ _ _ _ h => h
/-- A hash as a value. -/
def Hsh.val (h : Hsh) : Value := .agg h.cells.toArray

section
variable {α : Type} {d : Kd α} {e : Nat} {w w1 : World} {base : Nat} {v : Value} {xs : List α}
theorem R_self (hd : Flat d) (h : d.R e w base (fun _ => True) v xs) : d.R e w base (fun k => some k = v.ownBlock) v xs := by
  obtain ⟨_, q⟩ := h
  exact ⟨fun k hk => hk.symm, q.imp_ (fun _ _ hp => hd _ _ _ _ _ _ _ _ hp)⟩
theorem R_frm (hd : Flat d) (h : d.R e w base (fun _ => True) v xs) {S : Nat → Prop} (hf : Frm S w w1) (hS : ∀ k, v.ownBlock = some k → ¬ S k) : d.R e w1 base (fun _ => True) v xs :=
  Kd.R_mono (Kd.R_step (R_self hd h) (fun k hk hkl => hf.block k hkl (hS k hk.symm))) (fun _ _ => trivial)
end

section
variable {P : Program} {ops : Array Oper} {rest : List Oper} {o : Oper} {a : Act} {Q : Exit → Act → World → Prop} {α : Type}
/-- append(v, x), behind 'at_builtin': the row of one's own is longer by p. -/
theorem app_one (d : Kd α) {W : World} (base : Nat) (hgd : o.guard = none) (s x : Operand) (t e : TypeId) (z : Value) (bytes : Nat)
    (ho : o.op = .call { callee := .builtin .append, args := #[s, x], argTypes := #[t, t] })
    (ht : P.underlying t = some (.slice e)) (hinfo : (P.info? e).map (fun i => (i.zero, i.size, i.bytes)) = some (some z, d.sz, bytes)) (hz : z.cells.size = d.sz) (hs0 : 0 < d.sz) (hb0 : 0 < bytes)
    (v : Value) (xs : List α) (p : α) (cs : List Value) (hs : a.eval s = v) (hx : a.eval x = .slice (some ⟨W.heap.size, 0, none⟩) 1 1) (hp : d.M W base (fun _ => False) p cs)
    (HO : d.R e W base (fun _ => True) v xs) (hbase : base ≤ W.heap.size) (hl : (xs.length + 1) * bytes ≤ 140737488355328)
    (h : ∀ A1 c1 w1, d.R e w1 base (fun _ => True) (.slice A1 (xs.length + 1) c1) (xs ++ [p]) → Frm (fun k => some k = v.ownBlock) W w1 →
      ((Value.slice A1 (xs.length + 1) c1).ownBlock = v.ownBlock ∨ ∃ b, (Value.slice A1 (xs.length + 1) c1).ownBlock = some b ∧ W.heap.size ≤ b) → wpList P ops Q rest (a.put o.dst (.slice A1 (xs.length + 1) c1)) w1) :
    wpList P ops Q (o :: rest) a (W.alloc (.cells cs.toArray e)) := by
  refine Kd.R_append d (w0 := W) base hgd s x t e z bytes ho ht hinfo hz hs0 hb0 v xs p cs (fun _ => True) (fun _ => False) hs hx hp (fun _ hk => hk.elim) (fun _ _ => trivial) HO (Below.refl _ _) hbase hl ?_
  intro v1 w1 hr _ hg hat
  obtain ⟨A1, c1, e1⟩ := Kd.R_slice hr
  rw [List.length_append] at e1
  rw [e1] at hr hat ⊢
  exact h A1 c1 w1 hr (Frm.of_grown hg) hat
/-- append(v, ys...) of numbers. -/
theorem app_row (k : IntKind) {W : World} (base : Nat) (hgd : o.guard = none) (s x : Operand) (t e : TypeId) (z : Value) (bytes : Nat)
    (ho : o.op = .call { callee := .builtin .append, args := #[s, x], argTypes := #[t, t] })
    (ht : P.underlying t = some (.slice e)) (hinfo : (P.info? e).map (fun i => (i.zero, i.size, i.bytes)) = some (some z, 1, bytes)) (hz : z.cells.size = 1) (hb0 : 0 < bytes)
    (v : Value) (xs ys : List Int) (A : Option Addr) (m c : Nat) (hs : a.eval s = v) (hx : a.eval x = .slice A m c)
    (HO : (Kd.int k).R e W base (fun _ => True) v xs) (HR : (Kd.int k).C W A m ys) (hbase : base ≤ W.heap.size) (hl : (xs.length + m) * bytes ≤ 140737488355328)
    (h : ∀ A1 c1 w1, (Kd.int k).R e w1 base (fun _ => True) (.slice A1 (xs.length + m) c1) (xs ++ ys) → Frm (fun k => some k = v.ownBlock) W w1 →
      ((Value.slice A1 (xs.length + m) c1).ownBlock = v.ownBlock ∨ ∃ b, (Value.slice A1 (xs.length + m) c1).ownBlock = some b ∧ W.heap.size ≤ b) → wpList P ops Q rest (a.put o.dst (.slice A1 (xs.length + m) c1)) w1) :
    wpList P ops Q (o :: rest) a W := by
  refine Kd.R_append_row (Value.int k) 0 (w0 := W) base hgd s x t e z bytes ho ht hinfo hz hb0 v xs ys A m c (fun _ => True) hs hx (fun _ _ => trivial) HO HR (Below.refl _ _) hbase hl ?_
  intro v1 w1 hr _ hg hat
  obtain ⟨A1, c1, e1⟩ := Kd.R_slice hr
  rw [List.length_append, Kd.C_len HR] at e1
  rw [e1] at hr hat ⊢
  exact h A1 c1 w1 hr (Frm.of_grown hg) hat
end

theorem below_on {B : Nat} {w W w1 : World} (h : Below B w W) (hB : B ≤ W.heap.size) (k : Below W.heap.size W w1) : Below B w w1 := h.trans (k.mono hB)

theorem blt {w W w1 : World} (h : Below w.heap.size w W) (k : Below W.heap.size W w1) : Below w.heap.size w w1 := h.trans (k.mono h.size)
/-- A slice value that reads as these numbers (of one kind). -/
def Rd (k : IntKind) (w : World) (v : Value) (xs : List Int) : Prop := ∃ A c, v = .slice A xs.length c ∧ xs.length ≤ c ∧ (Kd.int k).C w A xs.length xs
theorem Rd.below {k : IntKind} {w w1 : World} {v : Value} {xs : List Int} (h : Rd k w v xs) (hb : Below w.heap.size w w1) : Rd k w1 v xs := by
  obtain ⟨A, c, e, hl, hc⟩ := h
  exact ⟨A, c, e, hl, Kd.C_below hc hb⟩
theorem Rd.alloc {k : IntKind} {w : World} {v : Value} {xs : List Int} (h : Rd k w v xs) (o : Obj) : Rd k (w.alloc o) v xs := h.below (bl_new w o)
theorem Rd.drewN {k : IntKind} {w : World} {v : Value} {xs : List Int} (h : Rd k w v xs) (n : Nat) : Rd k (w.drewN n) v xs := h.below (pw_below_drewN (Below.refl _ _) n)
theorem Rd.drew {k : IntKind} {w : World} {v : Value} {xs : List Int} (h : Rd k w v xs) : Rd k w.drew v xs := h.below (below_drew (Below.refl _ _))
theorem Rd.of_R {k : IntKind} {e base : Nat} {w : World} {v : Value} {xs : List Int} (h : (Kd.int k).R e w base (fun _ => True) v xs) : Rd k w v xs := by
  obtain ⟨A, c, e1, hl, hc⟩ := Kd.R_reads h
  exact ⟨A, c, e1, hl, hc⟩
theorem C_int_block (k : IntKind) {w : World} {b : Nat} {cs : Array Value} {t : TypeId} {fz : Nat × Nat} {xs : List Int} (h : w.heap[b]? = some (.cells cs t fz)) (hm : xs.length ≤ 9223372036854775807) (hc : ∀ (j : Nat) (x : Int), xs[j]? = some x → cs[j]? = some (.int k x)) :
    (Kd.int k).C w (some ⟨b, 0, none⟩) xs.length xs := by
  refine ⟨rfl, hm, fun _ => ⟨_, rfl, fun j x hj => ⟨[.int k x], rfl, rfl, fun i u hi => ?_⟩⟩⟩
  cases i with
  | zero =>
    simp at hi
    subst hi
    rw [show j * (Kd.int k).sz + 0 = j from Nat.mul_one j, add_plain]
    show (match w.heap[b]? with | some (.cells c _ _) => if (none : Option Nat).isSome then none else c[j]? | _ => none) = _
    rw [h]
    exact hc j x hj
  | succ i => simp at hi
theorem Rd.one (k : IntKind) (w : World) (x : Int) (e : Nat) {b : Nat} (hb : b = w.heap.size) : Rd k (w.alloc (.cells #[.int k x] e)) (.slice (some ⟨b, 0, none⟩) 1 1) [x] := by
  subst hb
  refine ⟨some ⟨w.heap.size, 0, none⟩, 1, rfl, by simp, C_int_block k (heap_new w _) (by simp) (fun j y hj => ?_)⟩
  cases j with
  | zero => simp at hj; subst hj; rfl
  | succ j => simp at hj
/-- A block of slices that read as rows. -/
theorem C_rows (k : IntKind) (e : Nat) {w : World} {b : Nat} {cs : Array Value} {t : TypeId} {fz : Nat × Nat} {xs : List (List Int)} (h : w.heap[b]? = some (.cells cs t fz)) (hm : xs.length ≤ 9223372036854775807) (hc : ∀ (j : Nat) (x : List Int), xs[j]? = some x → ∃ v, cs[j]? = some v ∧ Rd k w v x) :
    Kd.C (Kd.slice e (Kd.int k)) w (some ⟨b, 0, none⟩) xs.length xs := by
  refine ⟨rfl, hm, fun _ => ⟨_, rfl, fun j x hj => ?_⟩⟩
  obtain ⟨v, hv, A, c, rfl, hl, hr⟩ := hc j x hj
  refine ⟨[_], rfl, ⟨A, c, rfl, hl, hr⟩, fun i u hi => ?_⟩
  cases i with
  | zero =>
    simp at hi
    subst hi
    rw [show j * (Kd.slice e (Kd.int k)).sz + 0 = j from Nat.mul_one j, add_plain]
    show (match w.heap[b]? with | some (.cells c _ _) => if (none : Option Nat).isSome then none else c[j]? | _ => none) = _
    rw [h]
    exact hv
  | succ i => simp at hi
theorem C_rows3 (k : IntKind) (e : Nat) (w : World) (v0 v1 v2 : Value) (t : TypeId) (x0 x1 x2 : List Int) (h0 : Rd k w v0 x0) (h1 : Rd k w v1 x1) (h2 : Rd k w v2 x2) {b : Nat} (hb : b = w.heap.size) :
    Kd.C (Kd.slice e (Kd.int k)) (w.alloc (.cells #[v0, v1, v2] t)) (some ⟨b, 0, none⟩) 3 [x0, x1, x2] := by
  subst hb
  refine C_rows k e (heap_new w _) (by simp) (fun j x hj => ?_)
  match j, hj with
  | 0, hj => exact ⟨v0, rfl, by simp at hj; subst hj; exact h0.alloc _⟩
  | 1, hj => exact ⟨v1, rfl, by simp at hj; subst hj; exact h1.alloc _⟩
  | 2, hj => exact ⟨v2, rfl, by simp at hj; subst hj; exact h2.alloc _⟩
  | j + 3, hj => simp at hj
end Go.Proofs.YtefnonlhepekdaaDoor.M

set_option linter.unusedVariables false
set_option linter.unusedSimpArgs false
namespace Go.Proofs.YtefnonlhepekdaaDoor.M
open Go.ChangeShapes Go.WideShapes Go.ChangeAt Go.RowKit

theorem post_of_below {H : Type} {enc : TypeId × Value → H} {P : Program} {f : Func} {s : ChangeSpec} {apart fresh handsOn again : Bool} {W W' : World} {args : Array Value} {v : Value} {ds gs : List (DataW H)} {before pa pv : List MemPlace}
    (hW : DataW.Whole enc P f.params.toList s.vars apart W args.toList ds gs before)
    (hres : ∀ (b : Nat) (sp : Nat → Bool) (hd : Bool), DataW.TrodAll enc P W' b sp hd f.resultTypes.toList (v.resultList f.resultTypes.size) (s.fn H (ds ++ gs)).results [])
    (hargs : ∀ sp : Nat → Bool, (∀ p ∈ before, sp p.block = true) → DataW.TrodAll enc P W' 0 sp true f.params.toList args.toList (s.fn H (ds ++ gs)).args pa)
    (hvars : ∀ sp : Nat → Bool, (∀ p ∈ before, sp p.block = true) → DataW.TrodVars enc P W' sp s.vars (s.fn H (ds ++ gs)).vars pv)
    (hps : before = pa ++ pv) (hb : Below W.heap.size W W')
    (hok : ∀ (j : Nat) (t : TypeId) (r : Value), f.resultTypes[j]? = some t → (v.resultList f.resultTypes.size)[j]? = some r → Value.okWide P W' .any 0 t r) :
    s.post enc P f apart fresh handsOn again W args v W' := by
  have hold : ∀ p ∈ before, (fun b => decide (b < W.heap.size)) p.block = true := fun p hp => by simpa using hW.lt p hp
  have hlt := hW.lt
  refine ⟨ds, gs, before, [], pa, pv, hW, hres _ _ _, hargs _ hold, hvars _ hold, World.keptBut_mono (fun p hp => ⟨hp, ?_⟩) (hb.frame (· ∈ before)), fun _ => ?_⟩
  · rw [hps, List.mem_append] at hp
    exact Or.inr hp
  · obtain ⟨_, _, _, _, _, hz, hn⟩ := hW
    refine ⟨hok, _, _, ([] ++ pa) ++ pv, ⟨[] ++ pa, pv, trodAll_append (hargs _ (fun _ _ => rfl)) (hres _ _ _), hvars _ (fun _ _ => rfl), rfl, ?_, ?_⟩, ?_⟩
    · intro b off hp
      have hm : MemPlace.cell b off ∈ before := by rw [hps]; simpa using hp
      rw [hb.frozen (p := ⟨b, off, none⟩) (hlt _ hm)]
      exact hz b off hm
    · intro ha
      have := hn ha
      rw [hps] at this
      simpa using this
    · intro p hp _
      rw [hps]
      simpa using hp
end Go.Proofs.YtefnonlhepekdaaDoor.M

set_option linter.unusedVariables false
set_option linter.unusedSimpArgs false
namespace Go.Proofs.YtefnonlhepekdaaDoor.M

theorem pop_le : ∀ (f x : Nat), Lib.popAux f x ≤ x
  | 0, _ => Nat.zero_le _
  | f + 1, x => by
    have := pop_le f (x / 2)
    simp only [Lib.popAux]
    omega
theorem pop_lef : ∀ (f x : Nat), Lib.popAux f x ≤ f
  | 0, _ => Nat.zero_le _
  | f + 1, x => by
    have := pop_lef f (x / 2)
    simp only [Lib.popAux]
    omega
theorem pop_zero : ∀ f, Lib.popAux f 0 = 0
  | 0 => rfl
  | f + 1 => by simp only [Lib.popAux]; rw [pop_zero f]
theorem pop_fuel : ∀ (f x g : Nat), x < 2 ^ f → f ≤ g → Lib.popAux g x = Lib.popAux f x
  | 0, x, g, hx, _ => by
    have : x = 0 := by simpa using hx
    subst this
    rw [pop_zero, pop_zero]
  | f + 1, x, g, hx, hg => by
    obtain ⟨g, rfl⟩ : ∃ g', g = g' + 1 := ⟨g - 1, by omega⟩
    simp only [Lib.popAux]
    rw [pop_fuel f (x / 2) g (by rw [Nat.pow_succ] at hx; omega) (by omega)]
theorem pop_top : ∀ (g x : Nat), x < 2 ^ g → Lib.popAux (g + 1) (2 ^ g + x) = 1 + Lib.popAux g x
  | 0, x, hx => by
    have : x = 0 := by simpa using hx
    subst this
    rfl
  | g + 1, x, hx => by
    have h2 : 2 ^ (g + 1) = 2 * 2 ^ g := by rw [Nat.pow_succ]; omega
    have ih := pop_top g (x / 2) (by omega)
    rw [show Lib.popAux (g + 1 + 1) (2 ^ (g + 1) + x) = (2 ^ (g + 1) + x) % 2 + Lib.popAux (g + 1) ((2 ^ (g + 1) + x) / 2) from rfl, show (2 ^ (g + 1) + x) / 2 = 2 ^ g + x / 2 by omega, ih, show Lib.popAux (g + 1) x = x % 2 + Lib.popAux g (x / 2) from rfl]
    omega

/-- How many nodes n leaves have. -/
def nodesN (n : Nat) : Nat := 2 * n - Lib.popAux 64 n
theorem nodes_top (g x : Nat) (hg : g ≤ 63) (hx : x < 2 ^ g) : nodesN (2 ^ g + x) = 2 ^ (g + 1) - 1 + nodesN x := by
  unfold nodesN
  have h2 : 2 ^ (g + 1) = 2 * 2 ^ g := by rw [Nat.pow_succ]; omega
  rw [pop_fuel (g + 1) (2 ^ g + x) 64 (by omega) (by omega), pop_top g x hx, pop_fuel g x 64 hx (by omega)]
  have := pop_le g x
  have : 0 < 2 ^ g := Nat.pow_pos (by omega)
  omega
theorem nodes_ones : ∀ (g : Nat), g ≤ 63 → nodesN (2 ^ g - 1) = 2 ^ (g + 1) - 2 - g
  | 0, _ => by rfl
  | g + 1, hg => by
    have ih := nodes_ones g (by omega)
    have h2 : 2 ^ (g + 1) = 2 * 2 ^ g := by rw [Nat.pow_succ]; omega
    have h3 : 2 ^ (g + 1 + 1) = 2 * 2 ^ (g + 1) := by rw [Nat.pow_succ]; omega
    have hp : 0 < 2 ^ g := Nat.pow_pos (by omega)
    have hl : g < 2 ^ g := Nat.lt_two_pow_self
    rw [show 2 ^ (g + 1) - 1 = 2 ^ g + (2 ^ g - 1) by omega, nodes_top g _ (by omega) (by omega), ih]
    omega
theorem nodes_lt (g x : Nat) (hg : g ≤ 63) (hx : x < 2 ^ g) : nodesN x + g ≤ 2 ^ (g + 1) - 2 := by
  induction g generalizing x with
  | zero =>
    have : x = 0 := by simpa using hx
    subst this
    decide
  | succ g ih =>
    have h2 : 2 ^ (g + 1) = 2 * 2 ^ g := by rw [Nat.pow_succ]; omega
    have h3 : 2 ^ (g + 1 + 1) = 2 * 2 ^ (g + 1) := by rw [Nat.pow_succ]; omega
    have hp : 0 < 2 ^ g := Nat.pow_pos (by omega)
    by_cases hb : x < 2 ^ g
    · have := ih x (by omega) hb
      omega
    · have := ih (x - 2 ^ g) (by omega) (by omega)
      rw [show x = 2 ^ g + (x - 2 ^ g) by omega, nodes_top g _ (by omega) (by omega)]
      omega
theorem nodes_half (x : Nat) (hx : x < 2 ^ 64) : nodesN x = x + nodesN (x / 2) := by
  unfold nodesN
  rw [show Lib.popAux 64 x = x % 2 + Lib.popAux 63 (x / 2) from rfl, pop_fuel 63 (x / 2) 64 (by omega) (by omega)]
  have := pop_le 63 (x / 2)
  omega
theorem nodes_zero : nodesN 0 = 0 := by decide
theorem nodes_le (x : Nat) : nodesN x ≤ 2 * x := by unfold nodesN; omega

/-- The place of a spot. -/
def placeN (h i : Nat) : Nat := nodesN ((i + 1) * 2 ^ h - 1) + h
theorem height_le (h i : Nat) (hi : (i + 1) * 2 ^ h ≤ 2 ^ 62) : h ≤ 62 := by
  have h1 : 2 ^ h ≤ (i + 1) * 2 ^ h := Nat.le_mul_of_pos_left _ (by omega)
  exact (Nat.pow_le_pow_iff_right (by omega : 1 < 2)).1 (Nat.le_trans h1 hi)
theorem place_lt (h i : Nat) (hi : (i + 1) * 2 ^ h ≤ 2 ^ 62) : placeN h i ≤ 2 ^ 63 - 2 := by
  have hp : 0 < 2 ^ h := Nat.pow_pos (by omega)
  have := height_le h i hi
  have := nodes_lt 62 ((i + 1) * 2 ^ h - 1) (by omega) (by omega)
  unfold placeN
  omega

/-- The peaks' spots of n leaves, of the heights below g, from the highest on. -/
def topsF : Nat → Nat → List (Nat × Nat)
  | 0, _ => []
  | g + 1, n => (if n.testBit g then [(g, n / 2 ^ g - 1)] else []) ++ topsF g n
def topsN (n : Nat) : List (Nat × Nat) := topsF 63 n
theorem topsF_len : ∀ g n, (topsF g n).length ≤ g
  | 0, _ => Nat.le_refl _
  | g + 1, n => by
    have := topsF_len g n
    simp only [topsF, List.length_append]
    split <;> simp <;> omega
theorem tops_fit : ∀ (g n : Nat) (s : Nat × Nat), s ∈ topsF g n → s.1 < g ∧ (s.2 + 1) * 2 ^ s.1 ≤ n
  | 0, _, s, hs => by simp [topsF] at hs
  | g + 1, n, s, hs => by
    simp only [topsF, List.mem_append] at hs
    rcases hs with hs | hs
    · split at hs
      · next hb =>
        simp at hs
        subst hs
        have hp : 0 < 2 ^ g := Nat.pow_pos (by omega)
        have h1 : 2 ^ g ≤ n := Nat.ge_two_pow_of_testBit hb
        have h2 : 1 ≤ n / 2 ^ g := (Nat.one_le_div_iff hp).2 h1
        refine ⟨by simp, ?_⟩
        show (n / 2 ^ g - 1 + 1) * 2 ^ g ≤ n
        rw [Nat.sub_add_cancel h2]
        exact Nat.div_mul_le_self n (2 ^ g)
      · simp at hs
    · have := tops_fit g n s hs
      exact ⟨by omega, this.2⟩

/-- The spots at or under (h, i) that the span f, .., t - 1 needs, from the left. -/
def spots (f t : Nat) : Nat → Nat → List (Nat × Nat)
  | 0, i => if t ≤ f ∨ i + 1 ≤ f ∨ t ≤ i then [(0, i)] else []
  | h + 1, i => if t ≤ f ∨ (i + 1) * 2 ^ (h + 1) ≤ f ∨ t ≤ i * 2 ^ (h + 1) then [(h + 1, i)] else
      if f ≤ i * 2 ^ (h + 1) ∧ (i + 1) * 2 ^ (h + 1) ≤ t then [] else spots f t h (2 * i) ++ spots f t h (2 * i + 1)
theorem kid_left (h i : Nat) : (2 * i) * 2 ^ h = i * 2 ^ (h + 1) := by rw [Nat.pow_succ, Nat.mul_comm 2 i, Nat.mul_assoc, Nat.mul_comm 2]
theorem kid_mid (h i : Nat) : (2 * i + 1) * 2 ^ h = i * 2 ^ (h + 1) + 2 ^ h := by rw [Nat.add_mul, kid_left, Nat.one_mul]
theorem kid_right (h i : Nat) : (2 * i + 1 + 1) * 2 ^ h = (i + 1) * 2 ^ (h + 1) := by rw [show 2 * i + 1 + 1 = 2 * (i + 1) by omega, kid_left]
end Go.Proofs.YtefnonlhepekdaaDoor.M

set_option linter.unusedVariables false
set_option linter.unusedSimpArgs false
namespace Go.Proofs.YtefnonlhepekdaaDoor.M
open Go.RowKit Go.Proofs.YtefnonlhepekdaaDoorW.PrintWords Go.Proofs.YtefnonlhepekdaaDoorW.PrintLast Go.Proofs.YtefnonlhepekdaaDoorW.PrintMore Go.Proofs.YtefnonlhepekdaaDoor.Leaf

theorem and_split (u v p q : Nat) (hu : u < 256) (hp : p < 256) : (u + 256 * v) &&& (p + 256 * q) = (u &&& p) + 256 * (v &&& q) := by
  have hup : u &&& p < 2 ^ 8 := Nat.and_lt_two_pow _ hp
  rw [show u + 256 * v = 2 ^ 8 * v + u by omega, show p + 256 * q = 2 ^ 8 * q + p by omega, show (u &&& p) + 256 * (v &&& q) = 2 ^ 8 * (v &&& q) + (u &&& p) by omega]
  apply Nat.eq_of_testBit_eq
  intro i
  rw [Nat.testBit_and, Nat.testBit_two_pow_mul_add v hu, Nat.testBit_two_pow_mul_add q hp, Nat.testBit_two_pow_mul_add (v &&& q) hup]
  split <;> simp [Nat.testBit_and]

def st1 (m x : Nat) : Nat := (x / 2 &&& m) + (x &&& m)
def st2 (m x : Nat) : Nat := (x / 4 &&& m) + (x &&& m)
def st3 (m x : Nat) : Nat := (x / 16 + x) &&& m
theorem by1 : ∀ b : Fin 256, ∀ c : Fin 2, ((b.val / 2 + 128 * c.val) &&& 85) + (b.val &&& 85) = st1 85 b.val ∧ st1 85 b.val ≤ 170 := by decide +kernel
theorem by2 : ∀ b : Fin 171, ∀ c : Fin 4, ((b.val / 4 + 64 * c.val) &&& 51) + (b.val &&& 51) = st2 51 b.val ∧ st2 51 b.val ≤ 102 := by decide +kernel
theorem by3 : ∀ b : Fin 103, ∀ c : Fin 5, b.val % 16 ≤ 4 → b.val / 16 ≤ 4 → ((b.val / 16 + 16 * c.val + b.val) &&& 15) = st3 15 b.val := by decide +kernel
theorem by4 : ∀ b : Fin 256, st3 15 (st2 51 (st1 85 b.val)) = Lib.popAux 8 b.val ∧ st2 51 (st1 85 b.val) % 16 ≤ 4 ∧ st2 51 (st1 85 b.val) / 16 ≤ 4 := by decide +kernel

theorem st1_byte (b y m : Nat) (hb : b < 256) : st1 (85 + 256 * m) (b + 256 * y) = st1 85 b + 256 * st1 m y := by
  have h := (by1 ⟨b, hb⟩ ⟨y % 2, by omega⟩).1
  simp only at h
  unfold st1 at h ⊢
  rw [show (b + 256 * y) / 2 = (b / 2 + 128 * (y % 2)) + 256 * (y / 2) by omega, and_split _ _ _ _ (by omega) (by omega), and_split _ _ _ _ hb (by omega)]
  omega
theorem st2_byte (b y m : Nat) (hb : b ≤ 170) : st2 (51 + 256 * m) (b + 256 * y) = st2 51 b + 256 * st2 m y := by
  have h := (by2 ⟨b, by omega⟩ ⟨y % 4, by omega⟩).1
  simp only at h
  unfold st2 at h ⊢
  rw [show (b + 256 * y) / 4 = (b / 4 + 64 * (y % 4)) + 256 * (y / 4) by omega, and_split _ _ _ _ (by omega) (by omega), and_split _ _ _ _ (by omega) (by omega)]
  omega
theorem st3_byte (b y m : Nat) (hb1 : b % 16 ≤ 4) (hb2 : b / 16 ≤ 4) (hy : y % 16 ≤ 4) : st3 (15 + 256 * m) (b + 256 * y) = st3 15 b + 256 * st3 m y := by
  have h := by3 ⟨b, by omega⟩ ⟨y % 16, by omega⟩ hb1 hb2
  simp only at h
  unfold st3 at h ⊢
  rw [show (b + 256 * y) / 16 + (b + 256 * y) = (b / 16 + 16 * (y % 16) + b) + 256 * (y / 16 + y) by omega, and_split _ _ _ _ (by omega) (by omega), h]

theorem pop_join : ∀ (f k x y : Nat), x < 2 ^ f → Lib.popAux (f + k) (x + 2 ^ f * y) = Lib.popAux f x + Lib.popAux k y
  | 0, k, x, y, hx => by
    have : x = 0 := by simpa using hx
    subst this
    simp [Lib.popAux]
  | f + 1, k, x, y, hx => by
    have h2 : 2 ^ (f + 1) = 2 * 2 ^ f := by rw [Nat.pow_succ]; omega
    have ih := pop_join f k (x / 2) y (by omega)
    have e : 2 ^ (f + 1) * y = 2 * (2 ^ f * y) := by rw [h2, Nat.mul_assoc]
    rw [show f + 1 + k = (f + k) + 1 by omega]
    simp only [Lib.popAux]
    rw [show (x + 2 ^ (f + 1) * y) / 2 = x / 2 + 2 ^ f * y by rw [e]; omega, ih, show (x + 2 ^ (f + 1) * y) % 2 = x % 2 by rw [e]; omega]
    omega

/-- What the first three steps make of a number, byte by byte. -/
def swar (x : Nat) : Nat := st3 1085102592571150095 (st2 3689348814741910323 (st1 6148914691236517205 x))
theorem swar_bytes (b0 b1 b2 b3 b4 b5 b6 b7 : Nat) (h0 : b0 < 256) (h1 : b1 < 256) (h2 : b2 < 256) (h3 : b3 < 256) (h4 : b4 < 256) (h5 : b5 < 256) (h6 : b6 < 256) (h7 : b7 < 256) :
    swar (b0 + 256 * (b1 + 256 * (b2 + 256 * (b3 + 256 * (b4 + 256 * (b5 + 256 * (b6 + 256 * b7))))))) =
      Lib.popAux 8 b0 + 256 * (Lib.popAux 8 b1 + 256 * (Lib.popAux 8 b2 + 256 * (Lib.popAux 8 b3 + 256 * (Lib.popAux 8 b4 + 256 * (Lib.popAux 8 b5 + 256 * (Lib.popAux 8 b6 + 256 * Lib.popAux 8 b7)))))) := by
  have s1 : ∀ b, b < 256 → st1 85 b ≤ 170 := fun b hb => (by1 ⟨b, hb⟩ 0).2
  have s4 : ∀ b, b < 256 → st3 15 (st2 51 (st1 85 b)) = Lib.popAux 8 b ∧ st2 51 (st1 85 b) % 16 ≤ 4 ∧ st2 51 (st1 85 b) / 16 ≤ 4 := fun b hb => by4 ⟨b, hb⟩
  unfold swar
  rw [show 6148914691236517205 = 85 + 256 * (85 + 256 * (85 + 256 * (85 + 256 * (85 + 256 * (85 + 256 * (85 + 256 * 85)))))) from rfl,
    show 3689348814741910323 = 51 + 256 * (51 + 256 * (51 + 256 * (51 + 256 * (51 + 256 * (51 + 256 * (51 + 256 * 51)))))) from rfl,
    show 1085102592571150095 = 15 + 256 * (15 + 256 * (15 + 256 * (15 + 256 * (15 + 256 * (15 + 256 * (15 + 256 * 15)))))) from rfl]
  rw [st1_byte _ _ _ h0, st1_byte _ _ _ h1, st1_byte _ _ _ h2, st1_byte _ _ _ h3, st1_byte _ _ _ h4, st1_byte _ _ _ h5, st1_byte _ _ _ h6]
  rw [st2_byte _ _ _ (s1 _ h0), st2_byte _ _ _ (s1 _ h1), st2_byte _ _ _ (s1 _ h2), st2_byte _ _ _ (s1 _ h3), st2_byte _ _ _ (s1 _ h4), st2_byte _ _ _ (s1 _ h5), st2_byte _ _ _ (s1 _ h6)]
  obtain ⟨a0, c0, d0⟩ := s4 _ h0
  obtain ⟨a1, c1, d1⟩ := s4 _ h1
  obtain ⟨a2, c2, d2⟩ := s4 _ h2
  obtain ⟨a3, c3, d3⟩ := s4 _ h3
  obtain ⟨a4, c4, d4⟩ := s4 _ h4
  obtain ⟨a5, c5, d5⟩ := s4 _ h5
  obtain ⟨a6, c6, d6⟩ := s4 _ h6
  obtain ⟨a7, c7, d7⟩ := s4 _ h7
  rw [st3_byte _ _ _ c0 d0 (by omega), st3_byte _ _ _ c1 d1 (by omega), st3_byte _ _ _ c2 d2 (by omega), st3_byte _ _ _ c3 d3 (by omega), st3_byte _ _ _ c4 d4 (by omega), st3_byte _ _ _ c5 d5 (by omega), st3_byte _ _ _ c6 d6 (by omega), a0, a1, a2, a3, a4, a5, a6, a7]
theorem div_digit (p q x : Nat) (hx : x = p + 256 * q) (hp : p < 256) : x / 256 = q := by omega
theorem fold_bytes (x : Nat) (p0 p1 p2 p3 p4 p5 p6 p7 : Nat) (h0 : p0 ≤ 8) (h1 : p1 ≤ 8) (h2 : p2 ≤ 8) (h3 : p3 ≤ 8) (h4 : p4 ≤ 8) (h5 : p5 ≤ 8) (h6 : p6 ≤ 8) (h7 : p7 ≤ 8)
    (hx : x = p0 + 256 * (p1 + 256 * (p2 + 256 * (p3 + 256 * (p4 + 256 * (p5 + 256 * (p6 + 256 * p7))))))) :
    ((x + x / 256) + (x + x / 256) / 65536 + ((x + x / 256) + (x + x / 256) / 65536) / 4294967296) % 128 = p0 + p1 + p2 + p3 + p4 + p5 + p6 + p7 := by
  obtain ⟨q6, e6⟩ : ∃ q, q = p6 + 256 * p7 := ⟨_, rfl⟩
  obtain ⟨q5, e5⟩ : ∃ q, q = p5 + 256 * q6 := ⟨_, rfl⟩
  obtain ⟨q4, e4⟩ : ∃ q, q = p4 + 256 * q5 := ⟨_, rfl⟩
  obtain ⟨q3, e3⟩ : ∃ q, q = p3 + 256 * q4 := ⟨_, rfl⟩
  obtain ⟨q2, e2⟩ : ∃ q, q = p2 + 256 * q3 := ⟨_, rfl⟩
  obtain ⟨q1, e1⟩ : ∃ q, q = p1 + 256 * q2 := ⟨_, rfl⟩
  rw [← e6, ← e5, ← e4, ← e3, ← e2, ← e1] at hx
  rw [div_digit p0 q1 x hx (by omega)]
  have y1 : x + q1 = (p0 + p1) + 256 * (q1 + q2) := by omega
  have y2 : q1 + q2 = (p1 + p2) + 256 * (q2 + q3) := by omega
  have y3 : q2 + q3 = (p2 + p3) + 256 * (q3 + q4) := by omega
  have y4 : q3 + q4 = (p3 + p4) + 256 * (q4 + q5) := by omega
  have y5 : q4 + q5 = (p4 + p5) + 256 * (q5 + q6) := by omega
  have y6 : q5 + q6 = (p5 + p6) + 256 * (q6 + p7) := by omega
  have y7 : q6 + p7 = (p6 + p7) + 256 * p7 := by omega
  clear e1 e2 e3 e4 e5 e6 hx
  generalize x + q1 = r0 at *
  generalize q1 + q2 = r1 at *
  generalize q2 + q3 = r2 at *
  generalize q3 + q4 = r3 at *
  generalize q4 + q5 = r4 at *
  generalize q5 + q6 = r5 at *
  generalize q6 + p7 = r6 at *
  rw [show r0 / 65536 = r0 / 256 / 256 by omega, div_digit _ _ r0 y1 (by omega), div_digit _ _ r1 y2 (by omega)]
  have z1 : r0 + r2 = (p0 + p1 + p2 + p3) + 256 * (r1 + r3) := by omega
  have z2 : r1 + r3 = (p1 + p2 + p3 + p4) + 256 * (r2 + r4) := by omega
  have z3 : r2 + r4 = (p2 + p3 + p4 + p5) + 256 * (r3 + r5) := by omega
  have z4 : r3 + r5 = (p3 + p4 + p5 + p6) + 256 * (r4 + r6) := by omega
  have z5 : r4 + r6 = (p4 + p5 + p6 + p7) + 256 * (r5 + p7) := by omega
  clear y1 y2 y3 y4 y5 y6 y7
  generalize r0 + r2 = s0 at *
  generalize r1 + r3 = s1 at *
  generalize r2 + r4 = s2 at *
  generalize r3 + r5 = s3 at *
  generalize r4 + r6 = s4 at *
  rw [show s0 / 4294967296 = s0 / 256 / 256 / 256 / 256 by omega, div_digit _ _ s0 z1 (by omega), div_digit _ _ s1 z2 (by omega), div_digit _ _ s2 z3 (by omega), div_digit _ _ s3 z4 (by omega)]
  omega
theorem pop_bytes (b0 b1 b2 b3 b4 b5 b6 b7 : Nat) (h0 : b0 < 256) (h1 : b1 < 256) (h2 : b2 < 256) (h3 : b3 < 256) (h4 : b4 < 256) (h5 : b5 < 256) (h6 : b6 < 256) :
    Lib.popAux 64 (b0 + 256 * (b1 + 256 * (b2 + 256 * (b3 + 256 * (b4 + 256 * (b5 + 256 * (b6 + 256 * b7))))))) =
      Lib.popAux 8 b0 + Lib.popAux 8 b1 + Lib.popAux 8 b2 + Lib.popAux 8 b3 + Lib.popAux 8 b4 + Lib.popAux 8 b5 + Lib.popAux 8 b6 + Lib.popAux 8 b7 := by
  rw [show 64 = 8 + 56 from rfl, pop_join 8 56 b0 _ h0, show 56 = 8 + 48 from rfl, pop_join 8 48 b1 _ h1, show 48 = 8 + 40 from rfl, pop_join 8 40 b2 _ h2, show 40 = 8 + 32 from rfl, pop_join 8 32 b3 _ h3,
    show 32 = 8 + 24 from rfl, pop_join 8 24 b4 _ h4, show 24 = 8 + 16 from rfl, pop_join 8 16 b5 _ h5, show 16 = 8 + 8 from rfl, pop_join 8 8 b6 _ h6]
  omega
theorem swar_pop (x : Nat) (hx : x < 18446744073709551616) : ((swar x + swar x / 256) + (swar x + swar x / 256) / 65536 + ((swar x + swar x / 256) + (swar x + swar x / 256) / 65536) / 4294967296) % 128 = Lib.popAux 64 x ∧ swar x ≤ 1085102592571150095 := by
  refine ⟨?_, Nat.and_le_right⟩
  obtain ⟨b0, b1, b2, b3, b4, b5, b6, b7, h0, h1, h2, h3, h4, h5, h6, h7, rfl⟩ : ∃ b0 b1 b2 b3 b4 b5 b6 b7 : Nat, b0 < 256 ∧ b1 < 256 ∧ b2 < 256 ∧ b3 < 256 ∧ b4 < 256 ∧ b5 < 256 ∧ b6 < 256 ∧ b7 < 256 ∧ x = b0 + 256 * (b1 + 256 * (b2 + 256 * (b3 + 256 * (b4 + 256 * (b5 + 256 * (b6 + 256 * b7)))))) :=
    ⟨x % 256, x / 256 % 256, x / 65536 % 256, x / 16777216 % 256, x / 4294967296 % 256, x / 1099511627776 % 256, x / 281474976710656 % 256, x / 72057594037927936, by omega, by omega, by omega, by omega, by omega, by omega, by omega, by omega, by omega⟩
  rw [pop_bytes b0 b1 b2 b3 b4 b5 b6 b7 h0 h1 h2 h3 h4 h5 h6]
  exact fold_bytes _ _ _ _ _ _ _ _ _ (pop_lef _ _) (pop_lef _ _) (pop_lef _ _) (pop_lef _ _) (pop_lef _ _) (pop_lef _ _) (pop_lef _ _) (pop_lef _ _) (swar_bytes b0 b1 b2 b3 b4 b5 b6 b7 h0 h1 h2 h3 h4 h5 h6 h7)

theorem w64_nat (n : Nat) (h : n < 18446744073709551616) : IntKind.u64.wrap (n : Int) = n := by rw [IntKind.wrap_u64]; omega
theorem and64 (a b : Nat) (ha : a < 18446744073709551616) (hb : b < 18446744073709551616) : Go.bits .and .u64 (a : Int) (b : Int) = ((a &&& b : Nat) : Int) := u64_and_nat a b ha hb
theorem ones_end (x6 p : Nat) (b6 : x6 < 9223372036854775808) (h : x6 % 128 = p) : some (Go.bits .and .i64 (wrap64 (x6 : Int)) 127) = some (p : Int) := by
  have k4 : wrap64 (x6 : Int) = (x6 : Int) := by unfold wrap64; omega
  have := bits_mask .i64 63 (by decide) (fun n h0 h1 => by rw [IntKind.wrap_i64]; omega) 7 (by decide) (x6 : Int) (by omega) (by omega)
  rw [k4, show (127 : Int) = 2 ^ 7 - 1 by rfl, this, ← h]
  congr 1
theorem ones_val (n : Nat) (hn : n < 18446744073709551616) : bits_OnesCount64.f (n : Int) = some ((Lib.popAux 64 n : Nat) : Int) := by
  have hs := swar_pop n hn
  have b1 : st1 6148914691236517205 n ≤ 12297829382473034410 := by
    have := @Nat.and_le_right (n / 2) 6148914691236517205
    have := @Nat.and_le_right n 6148914691236517205
    unfold st1
    omega
  have e1 : Go.bits .and .u64 ((n : Int) / 2) 6148914691236517205 = ((n / 2 &&& 6148914691236517205 : Nat) : Int) := and64 (n / 2) 6148914691236517205 (by omega) (by omega)
  have e2 : Go.bits .and .u64 (n : Int) 6148914691236517205 = ((n &&& 6148914691236517205 : Nat) : Int) := and64 n 6148914691236517205 hn (by omega)
  have e3 : IntKind.u64.wrap (((n / 2 &&& 6148914691236517205 : Nat) : Int) + ((n &&& 6148914691236517205 : Nat) : Int)) = ((st1 6148914691236517205 n : Nat) : Int) := w64_nat (st1 6148914691236517205 n) (by omega)
  unfold swar at hs
  unfold bits_OnesCount64.f
  rw [e1, e2, e3]
  generalize st1 6148914691236517205 n = x1 at *
  have b2 : st2 3689348814741910323 x1 ≤ 7378697629483820646 := by
    have := @Nat.and_le_right (x1 / 4) 3689348814741910323
    have := @Nat.and_le_right x1 3689348814741910323
    unfold st2
    omega
  have f1 : Go.bits .and .u64 ((x1 : Int) / 4) 3689348814741910323 = ((x1 / 4 &&& 3689348814741910323 : Nat) : Int) := and64 (x1 / 4) 3689348814741910323 (by omega) (by omega)
  have f2 : Go.bits .and .u64 (x1 : Int) 3689348814741910323 = ((x1 &&& 3689348814741910323 : Nat) : Int) := and64 x1 3689348814741910323 (by omega) (by omega)
  have f3 : IntKind.u64.wrap (((x1 / 4 &&& 3689348814741910323 : Nat) : Int) + ((x1 &&& 3689348814741910323 : Nat) : Int)) = ((st2 3689348814741910323 x1 : Nat) : Int) := w64_nat (st2 3689348814741910323 x1) (by omega)
  rw [f1, f2, f3]
  generalize st2 3689348814741910323 x1 = x2 at *
  have g1 : IntKind.u64.wrap ((x2 : Int) / 16 + (x2 : Int)) = ((x2 / 16 + x2 : Nat) : Int) := w64_nat (x2 / 16 + x2) (by omega)
  have g2 : Go.bits .and .u64 ((x2 / 16 + x2 : Nat) : Int) 1085102592571150095 = ((st3 1085102592571150095 x2 : Nat) : Int) := and64 (x2 / 16 + x2) 1085102592571150095 (by omega) (by omega)
  rw [g1, g2]
  generalize st3 1085102592571150095 x2 = x3 at *
  have k1 : IntKind.u64.wrap ((x3 : Int) + (x3 : Int) / 256) = ((x3 + x3 / 256 : Nat) : Int) := w64_nat (x3 + x3 / 256) (by omega)
  rw [k1]
  have b4 : x3 + x3 / 256 ≤ 1089341274573693651 := by omega
  generalize x3 + x3 / 256 = x4 at *
  have k2 : IntKind.u64.wrap ((x4 : Int) + (x4 : Int) / 65536) = ((x4 + x4 / 65536 : Nat) : Int) := w64_nat (x4 + x4 / 65536) (by omega)
  rw [k2]
  have b5 : x4 + x4 / 65536 ≤ 1089360000000000000 := by omega
  generalize x4 + x4 / 65536 = x5 at *
  have k3 : IntKind.u64.wrap ((x5 : Int) + (x5 : Int) / 4294967296) = ((x5 + x5 / 4294967296 : Nat) : Int) := w64_nat (x5 + x5 / 4294967296) (by omega)
  rw [k3]
  have b6 : x5 + x5 / 4294967296 < 9223372036854775808 := by clear hs; omega
  have hs1 := hs.1
  clear hs
  generalize x5 + x5 / 4294967296 = x6 at *
  exact ones_end x6 _ b6 hs1
end Go.Proofs.YtefnonlhepekdaaDoor.M

set_option linter.unusedVariables false
set_option linter.unusedSimpArgs false
namespace Go.Proofs.YtefnonlhepekdaaDoor.M
open Go.RowKit Go.Proofs.YtefnonlhepekdaaDoorW.PrintWords Go.Proofs.YtefnonlhepekdaaDoorW.PrintLast Go.Proofs.YtefnonlhepekdaaDoorW.PrintMore Go.Proofs.YtefnonlhepekdaaDoor.Leaf

theorem w64_of (z : Int) (h0 : 0 ≤ z) (h : z < 18446744073709551616) : IntKind.u64.wrap z = z := by rw [IntKind.wrap_u64]; omega
theorem i64_of (z : Int) (h0 : -9223372036854775808 ≤ z) (h : z < 9223372036854775808) : wrap64 z = z := by unfold wrap64; omega
theorem p2_le {h : Nat} (hh : h ≤ 63) : 2 ^ h ≤ 9223372036854775808 := Nat.pow_le_pow_right (by omega) hh
theorem p2_pos (h : Nat) : 0 < 2 ^ h := Nat.pow_pos (by omega)
theorem shl_nat (x h : Nat) (hh : h ≤ 64) (hx : x * 2 ^ h < 18446744073709551616) : shl .u64 (x : Int) (h : Int) = ((x * 2 ^ h : Nat) : Int) := by
  unfold shl
  rw [Int.toNat_natCast, show min h (IntKind.u64.bits) = h by simp [IntKind.bits]; omega, show ((x : Int) * 2 ^ h) = ((x * 2 ^ h : Nat) : Int) by push_cast; rfl]
  exact w64_nat _ hx
theorem shr_nat (x h : Nat) (hh : h ≤ 64) : shr .u64 (x : Int) (h : Int) = ((x / 2 ^ h : Nat) : Int) := by
  unfold shr
  rw [Int.toNat_natCast, show min h (IntKind.u64.bits) = h by simp [IntKind.bits]; omega]
  push_cast
  rfl

theorem nodes_val (n : Nat) (hn : n ≤ 9223372036854775807) : pos_nodes.f (n : Int) = some ((nodesN n : Nat) : Int) := by
  unfold pos_nodes.f num_Ones.f
  rw [ones_val n (by omega)]
  have := pop_lef 64 n
  have h2 := pop_le 64 n
  simp only [Option.bind_some]
  unfold nodesN
  generalize Lib.popAux 64 n = p at *
  rw [w64_of (2 * (n : Int)) (by omega) (by omega), w64_nat _ (by omega), w64_of _ (by omega) (by omega)]
  exact congrArg some (by omega)
theorem place_val (h i : Nat) (hi : (i + 1) * 2 ^ h ≤ 4611686018427387904) : pos_Place.f (h : Int) (i : Int) = some (((placeN h i : Nat) : Int), true) := by
  have hh := height_le h i hi
  have hp := p2_pos h
  have h1 : (i + 1) * 2 ^ h = i * 2 ^ h + 2 ^ h := by rw [Nat.add_mul, Nat.one_mul]
  unfold pos_Place.f
  rw [if_neg (by omega), if_pos (by omega)]
  have e0 : shr .u64 4611686018427387904 (h : Int) = ((4611686018427387904 / 2 ^ h : Nat) : Int) := shr_nat 4611686018427387904 h (by omega)
  have hlt : i < 4611686018427387904 / 2 ^ h := by rw [Nat.lt_div_iff_mul_lt hp]; omega
  have hi1 : i + 1 ≤ 4611686018427387904 := Nat.le_trans (Nat.le_mul_of_pos_right _ hp) hi
  rw [e0, if_neg (by omega), w64_of ((i : Int) + 1) (by omega) (by omega), show ((i : Int) + 1) = ((i + 1 : Nat) : Int) by omega, shl_nat (i + 1) h (by omega) (by omega), w64_of _ (by omega) (by omega),
    show (((i + 1) * 2 ^ h : Nat) : Int) - 1 = (((i + 1) * 2 ^ h - 1 : Nat) : Int) by omega, nodes_val _ (by omega)]
  simp only [Option.bind_some]
  have hn := place_lt h i hi
  unfold placeN at hn ⊢
  rw [w64_nat h (by omega), w64_of _ (by omega) (by omega)]
  rfl
def placesOf (l : List (Nat × Nat)) : List Int := l.map fun s => ((placeN s.1 s.2 : Nat) : Int)
theorem bit_val (n g : Nat) (hn : n < 18446744073709551616) (hg : g ≤ 62) : Go.bits .and .u64 (shr .u64 (n : Int) (g : Int)) 1 = if n.testBit g then 1 else 0 := by
  rw [shr_nat n g (by omega)]
  have h1 := and64 (n / 2 ^ g) 1 (Nat.lt_of_le_of_lt (Nat.div_le_self _ _) hn) (by omega)
  have h2 : Go.bits .and .u64 ((n / 2 ^ g : Nat) : Int) 1 = ((n / 2 ^ g &&& 1 : Nat) : Int) := h1
  rw [h2, Nat.and_one_is_mod, Nat.testBit_eq_decide_div_mod_eq]
  by_cases hb : n / 2 ^ g % 2 = 1
  · rw [hb]; simp
  · rw [show n / 2 ^ g % 2 = 0 by omega]; simp
theorem peaks_loop (n : Nat) (hn : n ≤ 4611686018427387904) : ∀ (g : Nat) (xs : List Int), g ≤ 63 → xs.length + g ≤ 63 → Ev (fun k => pos_Peaks.l0 k (n : Int) xs ((g : Int) - 1)) (xs ++ placesOf (topsF g n))
  | 0, xs, _, _ => by
    rw [show xs ++ placesOf (topsF 0 n) = xs by simp [topsF, placesOf]]
    exact Ev.step (fun k => by simp only [pos_Peaks.l0]; rw [if_neg (by omega)]) (Ev.step (f := fun _ => some xs) (fun k => by simp only [pos_Peaks.j1]; rw [if_neg (by simp)]) (Ev.now _))
  | g + 1, xs, hg, hl => by
    have e1 : (((g + 1 : Nat) : Int) - 1) = (g : Int) := by omega
    have e2 : wrap64 ((g : Int) - 1) = (g : Int) - 1 := i64_of _ (by omega) (by omega)
    rw [e1]
    have hb := bit_val n g (by omega) (by omega)
    by_cases hc : n.testBit g = true
    · have hf := tops_fit (g + 1) n (g, n / 2 ^ g - 1) (by simp [topsF, hc])
      have ih := peaks_loop n hn g (xs ++ [((placeN g (n / 2 ^ g - 1) : Nat) : Int)]) (by omega) (by simp; omega)
      rw [show xs ++ placesOf (topsF (g + 1) n) = xs ++ [((placeN g (n / 2 ^ g - 1) : Nat) : Int)] ++ placesOf (topsF g n) by simp [topsF, hc, placesOf]]
      have hq : 1 ≤ n / 2 ^ g := (Nat.one_le_div_iff (p2_pos g)).2 (Nat.ge_two_pow_of_testBit hc)
      have hq2 : n / 2 ^ g ≤ n := Nat.div_le_self _ _
      have ep : IntKind.u64.wrap (shr .u64 (n : Int) (g : Int) - 1) = ((n / 2 ^ g - 1 : Nat) : Int) := by rw [shr_nat n g (by omega), w64_of _ (by omega) (by omega)]; omega
      have pv : pos_Place.f ((g : Int) % 256) (IntKind.u64.wrap (shr .u64 (n : Int) (g : Int) - 1)) = some (((placeN g (n / 2 ^ g - 1) : Nat) : Int), true) := by
        rw [ep, show (g : Int) % 256 = g by omega]
        exact place_val g (n / 2 ^ g - 1) (by have := hf.2; simp only at this; omega)
      rw [if_pos hc] at hb
      exact Ev.step (fun k => by simp only [pos_Peaks.l0]; rw [if_pos (by omega)]) (Ev.step (fun k => by simp only [pos_Peaks.j1]; rw [if_pos (by simp; omega), if_pos (by omega), if_pos hb, pv]; simp only [Option.bind_some]; rw [if_pos (by omega), e2]) ih)
    · have ih := peaks_loop n hn g xs (by omega) (by omega)
      rw [show xs ++ placesOf (topsF (g + 1) n) = xs ++ placesOf (topsF g n) by simp [topsF, hc]]
      rw [if_neg hc] at hb
      exact Ev.step (fun k => by simp only [pos_Peaks.l0]; rw [if_pos (by omega)]) (Ev.step (fun k => by simp only [pos_Peaks.j1]; rw [if_pos (by simp; omega), if_pos (by omega), if_neg (by rw [hb]; decide), e2]) ih)
theorem peaks_val (n : Nat) (hn : n ≤ 4611686018427387904) : Ev (fun k => pos_Peaks.f k (n : Int)) (placesOf (topsN n)) := by
  have h := peaks_loop n hn 63 [] (by omega) (by simp)
  rw [List.nil_append] at h
  exact h
theorem power_loop (h : Nat) (hh : h ≤ 63) : ∀ (d i : Nat), i + d = h → Ev (fun k => massifref3_Power.l0 k (h : Int) ((2 ^ i : Nat) : Int) (i : Int)) ((2 ^ h : Nat) : Int)
  | 0, i, hi => by
    have : i = h := by omega
    subst this
    exact Ev.step (f := fun _ => some ((2 ^ i : Nat) : Int)) (fun k => by simp only [massifref3_Power.l0]; rw [if_neg (by omega)]) (Ev.now _)
  | d + 1, i, hi => by
    have ih := power_loop h hh d (i + 1) (by omega)
    have := p2_le (by omega : i + 1 ≤ 63)
    have h2 : 2 ^ (i + 1) = 2 * 2 ^ i := by rw [Nat.pow_succ]; omega
    have e1 : IntKind.u64.wrap (2 * ((2 ^ i : Nat) : Int)) = ((2 ^ (i + 1) : Nat) : Int) := by rw [w64_of _ (by omega) (by omega)]; omega
    have e2 : wrap64 ((i : Int) + 1) = ((i + 1 : Nat) : Int) := by rw [i64_of _ (by omega) (by omega)]; omega
    exact Ev.step (fun k => by simp only [massifref3_Power.l0]; rw [if_pos (by omega), e1, e2]) ih
theorem power_val (h : Nat) (hh : h ≤ 63) : Ev (fun k => massifref3_Power.f k (h : Int)) ((2 ^ h : Nat) : Int) := power_loop h hh h 0 (by omega)

def spotsOf (l : List (Nat × Nat)) : List S74 := l.map fun s => ⟨(s.1 : Int), (s.2 : Int)⟩
theorem tops_loop (n : Nat) (hn : n ≤ 4611686018427387904) : ∀ (g : Nat) (xs : List S74), g ≤ 63 → xs.length + g ≤ 63 → Ev (fun k => massifref3_Tops.l0 k (n : Int) xs ((n - n % 2 ^ g : Nat) : Int) ((g : Int) - 1)) (xs ++ spotsOf (topsF g n))
  | 0, xs, _, _ => by
    rw [show xs ++ spotsOf (topsF 0 n) = xs by simp [topsF, spotsOf]]
    exact Ev.step (f := fun _ => some xs) (fun k => by simp only [massifref3_Tops.l0]; rw [if_neg (by omega)]) (Ev.now _)
  | g + 1, xs, hg, hl => by
    have e1 : (((g + 1 : Nat) : Int) - 1) = (g : Int) := by omega
    have e2 : wrap64 ((g : Int) - 1) = (g : Int) - 1 := i64_of _ (by omega) (by omega)
    rw [e1]
    have hp := p2_pos g
    have hple := p2_le (by omega : g ≤ 63)
    have h2 : 2 ^ (g + 1) = 2 ^ g * 2 := by rw [Nat.pow_succ]
    have hmod : n % 2 ^ (g + 1) = n % 2 ^ g + 2 ^ g * (n / 2 ^ g % 2) := by rw [h2, Nat.mod_mul]
    have hle : n % 2 ^ (g + 1) ≤ n := Nat.mod_le _ _
    have hlt : n % 2 ^ g < 2 ^ g := Nat.mod_lt _ hp
    have hdm := Nat.div_add_mod n (2 ^ g)
    have ea : IntKind.u64.wrap ((n : Int) - ((n - n % 2 ^ (g + 1) : Nat) : Int)) = ((n % 2 ^ (g + 1) : Nat) : Int) := by rw [w64_of _ (by omega) (by omega)]; omega
    have hpw := power_val g (by omega)
    by_cases hc : n.testBit g = true
    · have hb : n / 2 ^ g % 2 = 1 := by rw [Nat.testBit_eq_decide_div_mod_eq] at hc; simpa using hc
      rw [hb, Nat.mul_one] at hmod
      have hf := tops_fit (g + 1) n (g, n / 2 ^ g - 1) (by simp [topsF, hc])
      have ih := tops_loop n hn g (xs ++ [⟨(g : Int), ((n / 2 ^ g - 1 : Nat) : Int)⟩]) (by omega) (by simp; omega)
      rw [show xs ++ spotsOf (topsF (g + 1) n) = xs ++ [⟨(g : Int), ((n / 2 ^ g - 1 : Nat) : Int)⟩] ++ spotsOf (topsF g n) by simp [topsF, hc, spotsOf]]
      have hq : 1 ≤ n / 2 ^ g := (Nat.one_le_div_iff hp).2 (Nat.ge_two_pow_of_testBit hc)
      have hq2 : n / 2 ^ g ≤ n := Nat.div_le_self _ _
      have hval : n - n % 2 ^ (g + 1) = 2 ^ g * (n / 2 ^ g - 1) := by rw [Nat.mul_sub_one]; omega
      have et : Int.tdiv ((n - n % 2 ^ (g + 1) : Nat) : Int) ((2 ^ g : Nat) : Int) = ((n / 2 ^ g - 1 : Nat) : Int) := by
        rw [hval]
        show (((2 ^ g * (n / 2 ^ g - 1)) / 2 ^ g : Nat) : Int) = _
        rw [Nat.mul_div_cancel_left _ hp]
      have eb : IntKind.u64.wrap (((n - n % 2 ^ (g + 1) : Nat) : Int) + ((2 ^ g : Nat) : Int)) = ((n - n % 2 ^ g : Nat) : Int) := by rw [w64_of _ (by omega) (by omega)]; omega
      refine Ev.step (fun k => by simp only [massifref3_Tops.l0]; rw [if_pos (by omega)]) ?_
      refine Ev.bind hpw ?_
      rw [ea]
      refine Ev.congr (fun k => if_pos (by omega)) ?_
      refine Ev.bind hpw ?_
      refine Ev.congr (fun k => if_neg (by omega)) ?_
      refine Ev.congr (fun k => if_pos (by omega)) ?_
      refine Ev.bind hpw ?_
      rw [et, w64_of ((n / 2 ^ g - 1 : Nat) : Int) (by omega) (by omega), eb, e2, show (g : Int) % 256 = g by omega]
      exact ih
    · have hb : n / 2 ^ g % 2 = 0 := by rw [Nat.testBit_eq_decide_div_mod_eq] at hc; simp at hc; omega
      rw [hb, Nat.mul_zero, Nat.add_zero] at hmod
      have ih := tops_loop n hn g xs (by omega) (by omega)
      rw [show xs ++ spotsOf (topsF (g + 1) n) = xs ++ spotsOf (topsF g n) by simp [topsF, hc]]
      refine Ev.step (fun k => by simp only [massifref3_Tops.l0]; rw [if_pos (by omega)]) ?_
      refine Ev.bind hpw ?_
      rw [ea]
      refine Ev.congr (fun k => if_neg (by omega)) ?_
      rw [e2, hmod]
      exact ih
theorem tops_val (n : Nat) (hn : n ≤ 4611686018427387904) : Ev (fun k => massifref3_Tops.f k (n : Int)) (spotsOf (topsN n)) := by
  have h := tops_loop n hn 63 [] (by omega) (by simp)
  rw [List.nil_append, Nat.mod_eq_of_lt (by omega : n < 2 ^ 63), Nat.sub_self] at h
  refine Ev.congr (fun k => if_neg (by omega)) h
theorem nodes3_step (x s : Nat) (r : Int × Bool) (hx : x ≠ 0) (hb : x < 18446744073709551616) (hs : s + x < 18446744073709551616) (ih : Ev (fun k => massifref3_Nodes.l0 k ((x / 2 : Nat) : Int) ((s + x : Nat) : Int)) r) : Ev (fun k => massifref3_Nodes.l0 k (x : Int) (s : Int)) r := by
  have e1 : IntKind.u64.wrap (Int.tdiv (x : Int) 2) = ((x / 2 : Nat) : Int) := by rw [Int.tdiv_eq_ediv_of_nonneg (by omega), w64_of _ (by omega) (by omega)]; omega
  have e2 : IntKind.u64.wrap ((s : Int) + (x : Int)) = ((s + x : Nat) : Int) := by rw [w64_of _ (by omega) (by omega)]; omega
  exact Ev.step (fun k => by simp only [massifref3_Nodes.l0]; rw [if_pos (by omega), e1, e2]) ih
theorem nodes3_stop (s : Nat) : Ev (fun k => massifref3_Nodes.l0 k ((0 : Nat) : Int) (s : Int)) ((s : Int), true) :=
  Ev.step (f := fun _ => some ((s : Int), true)) (fun k => by simp only [massifref3_Nodes.l0]; rw [if_neg (by omega)]) (Ev.now _)
theorem nodes3_loop (f : Nat) : ∀ (x s : Nat), x < 2 ^ f → f ≤ 63 → s + nodesN x ≤ 18446744073709551615 → Ev (fun k => massifref3_Nodes.l0 k (x : Int) (s : Int)) (((s + nodesN x : Nat) : Int), true) := by
  induction f with
  | zero =>
    intro x s hx _ _
    have : x = 0 := by simpa using hx
    subst this
    rw [nodes_zero]
    exact nodes3_stop s
  | succ f ih =>
    intro x s hx hf hs
    have hple := p2_le hf
    by_cases h0 : x = 0
    · subst h0
      rw [nodes_zero]
      exact nodes3_stop s
    · have hh := nodes_half x (by omega)
      have ih := ih (x / 2) (s + x) (by rw [Nat.pow_succ] at hx; omega) (by omega) (by omega)
      rw [show s + nodesN x = s + x + nodesN (x / 2) by omega]
      exact nodes3_step x s _ h0 (by omega) (by omega) ih
theorem nodes3_val (n : Nat) (hn : n ≤ 4611686018427387904) : Ev (fun k => massifref3_Nodes.f k (n : Int)) (((nodesN n : Nat) : Int), true) := by
  have hl := nodes_le n
  have h := nodes3_loop 63 n 0 (by omega) (by omega) (by omega)
  rw [Nat.zero_add] at h
  exact Ev.congr (fun k => if_neg (by omega)) h
theorem place3_val (h i : Nat) (hi : (i + 1) * 2 ^ h ≤ 4611686018427387904) : Ev (fun k => massifref3_Place.f k (h : Int) (i : Int)) (((placeN h i : Nat) : Int), true) := by
  have hh := height_le h i hi
  have hp := p2_pos h
  have h1 : (i + 1) * 2 ^ h = i * 2 ^ h + 2 ^ h := by rw [Nat.add_mul, Nat.one_mul]
  have hi1 : i + 1 ≤ 4611686018427387904 := Nat.le_trans (Nat.le_mul_of_pos_right _ hp) hi
  have hlt : i < 2 ^ (62 - h) := by
    have e : 2 ^ (62 - h) * 2 ^ h = 4611686018427387904 := by rw [← Nat.pow_add, show 62 - h + h = 62 by omega]
    by_cases hc : i < 2 ^ (62 - h)
    · exact hc
    · have : (2 ^ (62 - h) + 1) * 2 ^ h ≤ (i + 1) * 2 ^ h := Nat.mul_le_mul_right _ (by omega)
      rw [Nat.add_mul, e, Nat.one_mul] at this
      omega
  have hn := place_lt h i hi
  have e0 : wrap64 (h : Int) = h := i64_of _ (by omega) (by omega)
  unfold massifref3_Place.f
  rw [e0]
  refine Ev.congr (fun k => if_neg (by omega)) ?_
  rw [i64_of (62 - (h : Int)) (by omega) (by omega), show (62 - (h : Int)) = ((62 - h : Nat) : Int) by omega]
  refine Ev.bind (power_val (62 - h) (by omega)) ?_
  refine Ev.step (fun k => by simp only [massifref3_Place.j0]; rw [if_neg (by rw [decide_eq_true_eq]; omega)]) ?_
  refine Ev.bind (power_val h (by omega)) ?_
  rw [w64_of ((i : Int) + 1) (by omega) (by omega), show ((i : Int) + 1) * ((2 ^ h : Nat) : Int) = (((i + 1) * 2 ^ h : Nat) : Int) by push_cast; rfl, w64_nat _ (by omega), w64_of ((((i + 1) * 2 ^ h : Nat) : Int) - 1) (by omega) (by omega),
    show (((i + 1) * 2 ^ h : Nat) : Int) - 1 = (((i + 1) * 2 ^ h - 1 : Nat) : Int) by omega]
  refine Ev.bind (nodes3_val _ (by omega)) ?_
  unfold placeN at hn ⊢
  rw [w64_nat h (by omega), w64_of _ (by omega) (by omega)]
  exact Ev.now _
end Go.Proofs.YtefnonlhepekdaaDoor.M

set_option linter.unusedVariables false
set_option linter.unusedSimpArgs false
namespace Go.Proofs.YtefnonlhepekdaaDoor.M

/-! Splitting the peaks. -/
theorem pop_snoc : ∀ (d y : Nat), Lib.popAux (d + 1) y = Lib.popAux d y + y / 2 ^ d % 2
  | 0, y => by simp [Lib.popAux]
  | d + 1, y => by
    have ih := pop_snoc d (y / 2)
    rw [show Lib.popAux (d + 1 + 1) y = y % 2 + Lib.popAux (d + 1) (y / 2) from rfl, ih, show Lib.popAux (d + 1) y = y % 2 + Lib.popAux d (y / 2) from rfl, Nat.div_div_eq_div_mul, show 2 * 2 ^ d = 2 ^ (d + 1) by rw [Nat.pow_succ]; omega]
    omega
theorem bit_mod (n g : Nat) : n.testBit g = true ↔ n / 2 ^ g % 2 = 1 := by rw [Nat.testBit_eq_decide_div_mod_eq]; simp
theorem tops_split (g n : Nat) : ∀ d, ∃ T, topsF (g + d) n = T ++ topsF g n ∧ T.length = Lib.popAux d (n / 2 ^ g) ∧ ∀ s ∈ T, g ≤ s.1
  | 0 => ⟨[], rfl, rfl, fun s hs => by simp at hs⟩
  | d + 1 => by
    obtain ⟨T, h1, h2, h3⟩ := tops_split g n d
    refine ⟨(if n.testBit (g + d) then [(g + d, n / 2 ^ (g + d) - 1)] else []) ++ T, ?_, ?_, ?_⟩
    · rw [show g + (d + 1) = g + d + 1 by omega]
      simp only [topsF]
      rw [h1, List.append_assoc]
    · rw [List.length_append, h2, pop_snoc, Nat.div_div_eq_div_mul, ← Nat.pow_add]
      have hb := bit_mod n (g + d)
      split
      · next hc => rw [hb.1 hc]; simp; omega
      · next hc =>
        have : ¬ n / 2 ^ (g + d) % 2 = 1 := fun h => hc (hb.2 h)
        rw [show n / 2 ^ (g + d) % 2 = 0 by omega]; simp
    · intro s hs
      rcases List.mem_append.1 hs with hs | hs
      · split at hs
        · simp at hs; subst hs; simp
        · simp at hs
      · exact h3 s hs
theorem tops_mem : ∀ (g n : Nat) (s : Nat × Nat), s ∈ topsF g n → s.1 < g ∧ n.testBit s.1 = true ∧ s.2 = n / 2 ^ s.1 - 1
  | 0, _, s, hs => by simp [topsF] at hs
  | g + 1, n, s, hs => by
    simp only [topsF, List.mem_append] at hs
    rcases hs with hs | hs
    · split at hs
      · next hb => simp at hs; subst hs; exact ⟨by simp, hb, rfl⟩
      · simp at hs
    · have := tops_mem g n s hs
      exact ⟨by omega, this.2⟩
/-! Two numbers that part at bit k. -/
def Lv (x y k : Nat) : Prop := x / 2 ^ k ≠ y / 2 ^ k ∧ x / 2 ^ (k + 1) = y / 2 ^ (k + 1)
theorem div_up (x : Nat) {k m : Nat} (h : k ≤ m) : x / 2 ^ m = x / 2 ^ k / 2 ^ (m - k) := by
  rw [Nat.div_div_eq_div_mul, ← Nat.pow_add, Nat.add_sub_cancel' h]
theorem eq_up {x y k m : Nat} (h : x / 2 ^ k = y / 2 ^ k) (hm : k ≤ m) : x / 2 ^ m = y / 2 ^ m := by rw [div_up x hm, div_up y hm, h]
theorem Lv.uniq {x y a b : Nat} (h : Lv x y a) (k : Lv x y b) : a = b := by
  rcases Nat.lt_trichotomy a b with hl | he | hl
  · exact absurd (eq_up h.2 hl) k.1
  · exact he
  · exact absurd (eq_up k.2 hl) h.1
theorem Lv.symm {x y k : Nat} (h : Lv x y k) : Lv y x k := ⟨fun e => h.1 e.symm, h.2.symm⟩
/-- x is under the spot. -/
def Und (x : Nat) (s : Nat × Nat) : Prop := x / 2 ^ s.1 = s.2
theorem und_iff (x k j : Nat) : x / 2 ^ k = j ↔ j * 2 ^ k ≤ x ∧ x < (j + 1) * 2 ^ k := by
  have hp : 0 < 2 ^ k := Nat.pow_pos (by omega)
  constructor
  · rintro rfl
    exact ⟨Nat.div_mul_le_self x _, by rw [Nat.mul_comm]; exact Nat.lt_mul_div_succ x hp⟩
  · rintro ⟨h1, h2⟩
    exact Nat.le_antisymm (Nat.lt_succ_iff.1 ((Nat.div_lt_iff_lt_mul hp).2 h2)) ((Nat.le_div_iff_mul_le hp).2 h1)
/-- The number beside. -/
def sibN (x : Nat) : Nat := if x % 2 = 0 then x + 1 else x - 1
theorem sib_half (x : Nat) : sibN x / 2 = x / 2 := by unfold sibN; split <;> omega
theorem sib_ne (x : Nat) : sibN x ≠ x := by unfold sibN; split <;> omega
theorem sib_xor (x : Nat) : x ^^^ 1 = sibN x := by
  have h1 : (x ^^^ 1) / 2 = x / 2 := by
    have := Nat.shiftRight_xor_distrib (a := x) (b := 1) (i := 1)
    simpa [Nat.shiftRight_eq_div_pow] using this
  have h2 : (x ^^^ 1) % 2 = 1 - x % 2 := by
    have := Nat.xor_mod_two_eq_one (a := x) (b := 1)
    omega
  unfold sibN
  split <;> omega
def sibsN (i h : Nat) : List (Nat × Nat) := (List.range h).map fun k => (k, sibN (i / 2 ^ k))
theorem half_up (x k : Nat) : x / 2 ^ k / 2 = x / 2 ^ (k + 1) := by rw [Nat.div_div_eq_div_mul, Nat.pow_succ]
theorem sibs_lv {i h : Nat} {s : Nat × Nat} (hs : s ∈ sibsN i h) : s.1 < h ∧ s.2 = sibN (i / 2 ^ s.1) ∧ ∀ x, Und x s → Lv x i s.1 := by
  simp only [sibsN, List.mem_map, List.mem_range] at hs
  obtain ⟨k, hk, rfl⟩ := hs
  refine ⟨hk, rfl, fun x hx => ?_⟩
  have hx : x / 2 ^ k = sibN (i / 2 ^ k) := hx
  refine ⟨fun e => sib_ne (i / 2 ^ k) (by rw [← hx]; exact e), ?_⟩
  show x / 2 ^ (k + 1) = i / 2 ^ (k + 1)
  rw [← half_up, hx, sib_half, half_up]
/-- The highest bit in which i and n are unlike. -/
def hiN (i n : Nat) : Nat := Lib.bitLen (i ^^^ n) - 1
theorem len_zero (f : Nat) : Lib.bitLenAux f 0 = 0 := by cases f <;> simp [Lib.bitLenAux]
theorem xor_zero_eq {a b : Nat} (h : a ^^^ b = 0) : a = b := by
  have e : (a ^^^ b) ^^^ b = a := by rw [Nat.xor_assoc, Nat.xor_self, Nat.xor_zero]
  rw [h, Nat.zero_xor] at e
  exact e.symm
theorem len_lo : ∀ (f x : Nat), x ≠ 0 → x < 2 ^ f → 1 ≤ Lib.bitLenAux f x ∧ 2 ^ (Lib.bitLenAux f x - 1) ≤ x ∧ x < 2 ^ (Lib.bitLenAux f x)
  | 0, x, h0, hx => by simp at hx; omega
  | f + 1, x, h0, hx => by
    have h2 : 2 ^ (f + 1) = 2 * 2 ^ f := by rw [Nat.pow_succ]; omega
    simp only [Lib.bitLenAux]
    rw [if_neg h0]
    by_cases h1 : x / 2 = 0
    · have : x = 1 := by omega
      subst this
      rw [len_zero]
      simp
    · have ih := len_lo f (x / 2) h1 (by omega)
      obtain ⟨q, hq⟩ : ∃ q, Lib.bitLenAux f (x / 2) = q + 1 := ⟨_, (Nat.sub_add_cancel ih.1).symm⟩
      rw [hq] at ih ⊢
      have e1 : 2 ^ (q + 1) = 2 * 2 ^ q := by rw [Nat.pow_succ]; omega
      have e2 : 2 ^ (1 + (q + 1)) = 2 * 2 ^ (q + 1) := by rw [Nat.add_comm 1, Nat.pow_succ]; omega
      have i2 := ih.2.1
      have i3 := ih.2.2
      rw [show q + 1 - 1 = q by omega] at i2
      rw [show 1 + (q + 1) - 1 = q + 1 by omega]
      omega
theorem hi_lv {i n : Nat} (h : i < n) (hn : n < 2 ^ 64) : Lv i n (hiN i n) ∧ Lib.bitLen (i ^^^ n) = hiN i n + 1 := by
  have hx : i ^^^ n < 2 ^ 64 := Nat.xor_lt_two_pow (by omega) hn
  have h0 : i ^^^ n ≠ 0 := by
    intro e
    have : i = n := xor_zero_eq e
    omega
  have hl := len_lo 64 _ h0 hx
  have he : Lib.bitLen (i ^^^ n) = hiN i n + 1 := (Nat.sub_add_cancel hl.1).symm
  refine ⟨?_, he⟩
  have l2 : 2 ^ hiN i n ≤ i ^^^ n := hl.2.1
  have l3 : i ^^^ n < 2 ^ (hiN i n + 1) := by rw [← he]; exact hl.2.2
  generalize hiN i n = q at *
  have hp : 0 < 2 ^ q := Nat.pow_pos (by omega)
  refine ⟨fun e => ?_, ?_⟩
  · have h3 := Nat.shiftRight_xor_distrib (a := i) (b := n) (i := q)
    rw [Nat.shiftRight_eq_div_pow, Nat.shiftRight_eq_div_pow, Nat.shiftRight_eq_div_pow, e, Nat.xor_self] at h3
    have := (Nat.one_le_div_iff hp).2 l2
    omega
  · have h3 := Nat.shiftRight_xor_distrib (a := i) (b := n) (i := q + 1)
    rw [Nat.shiftRight_eq_div_pow, Nat.shiftRight_eq_div_pow, Nat.shiftRight_eq_div_pow, Nat.div_eq_of_lt l3] at h3
    exact xor_zero_eq h3.symm
/-- Over a leaf i < n stands the peak of that height. -/
theorem hi_peak {i n : Nat} (h : i < n) (hn : n < 2 ^ 64) : i / 2 ^ hiN i n = n / 2 ^ hiN i n - 1 ∧ n.testBit (hiN i n) = true ∧ 1 ≤ n / 2 ^ hiN i n := by
  have hl := (hi_lv h hn).1
  generalize hiN i n = q at *
  have h1 := hl.1
  have h2 := hl.2
  rw [← half_up, ← half_up] at h2
  have h3 : i / 2 ^ q ≤ n / 2 ^ q := Nat.div_le_div_right (by omega)
  rw [bit_mod]
  generalize i / 2 ^ q = a at *
  generalize n / 2 ^ q = b at *
  omega
theorem hi_le {i n : Nat} (h : i < n) (hn : n ≤ 4611686018427387904) : hiN i n ≤ 62 := by
  have hb := (hi_peak h (by omega)).2.1
  have hg := Nat.ge_two_pow_of_testBit hb
  have : 2 ^ hiN i n ≤ 2 ^ 62 := by omega
  exact (Nat.pow_le_pow_iff_right (by omega : 1 < 2)).1 this

/-- Which peak stands over leaf i. -/
def overN (i n : Nat) : Nat := Lib.popAux 64 (n / 2 ^ (hiN i n + 1))
/-- The spots of a leaf's proof. -/
def proofN (i n : Nat) : List (Nat × Nat) := sibsN i (hiN i n) ++ (topsN n).eraseIdx (overN i n)
theorem over_split {i n : Nat} (h : i < n) (hn : n ≤ 4611686018427387904) : ∃ T, topsN n = T ++ (hiN i n, i / 2 ^ hiN i n) :: topsF (hiN i n) n ∧ T.length = overN i n ∧ ∀ s ∈ T, hiN i n < s.1 := by
  have hle := hi_le h hn
  have hp := hi_peak h (by omega)
  obtain ⟨T, h1, h2, h3⟩ := tops_split (hiN i n + 1) n (62 - hiN i n)
  rw [show hiN i n + 1 + (62 - hiN i n) = 63 by omega] at h1
  refine ⟨T, ?_, ?_, fun s hs => h3 s hs⟩
  · rw [show topsN n = topsF 63 n from rfl, h1]
    simp only [topsF]
    rw [if_pos hp.2.1, hp.1]
    rfl
  · rw [h2]
    refine (pop_fuel _ _ 64 ?_ (by omega)).symm
    rw [Nat.div_lt_iff_lt_mul (Nat.pow_pos (by omega)), ← Nat.pow_add, show 62 - hiN i n + (hiN i n + 1) = 63 by omega]
    omega
theorem erase_mid {α : Type} (T : List α) (x : α) (R : List α) : (T ++ x :: R).eraseIdx T.length = T ++ R := by
  rw [List.eraseIdx_append_of_length_le (Nat.le_refl _)]
  simp
theorem proof_split {i n : Nat} (h : i < n) (hn : n ≤ 4611686018427387904) : ∃ T, topsN n = T ++ (hiN i n, i / 2 ^ hiN i n) :: topsF (hiN i n) n ∧ T.length = overN i n ∧ (∀ s ∈ T, hiN i n < s.1) ∧ proofN i n = sibsN i (hiN i n) ++ (T ++ topsF (hiN i n) n) := by
  obtain ⟨T, h1, h2, h3⟩ := over_split h hn
  refine ⟨T, h1, h2, h3, ?_⟩
  unfold proofN
  rw [h1, ← h2, erase_mid]
theorem proof_len {i n : Nat} (h : i < n) (hn : n ≤ 4611686018427387904) : overN i n < (topsN n).length ∧ (topsN n)[overN i n]? = some (hiN i n, i / 2 ^ hiN i n) ∧ (proofN i n).length + 1 = hiN i n + (topsN n).length := by
  obtain ⟨T, h1, h2, h3, h4⟩ := proof_split h hn
  rw [h1, h4, ← h2]
  simp [sibsN]
  omega
theorem tops_lv {n : Nat} {s : Nat × Nat} {g : Nat} (hs : s ∈ topsF g n) {x : Nat} (hx : Und x s) : Lv x n s.1 := by
  have hm := tops_mem g n s hs
  have hb := (bit_mod n s.1).1 hm.2.1
  have hx : x / 2 ^ s.1 = n / 2 ^ s.1 - 1 := hx.trans hm.2.2
  have e1 := half_up x s.1
  have e2 := half_up n s.1
  unfold Lv
  rw [← e1, ← e2, hx]
  generalize n / 2 ^ s.1 = b at *
  omega
theorem up_fit {j j' k m n : Nat} (hj : j' / 2 ^ (m - k) = j) (hkm : k ≤ m) (h : (j + 1) * 2 ^ m ≤ n) : (j' + 1) * 2 ^ k ≤ n := by
  refine Nat.le_trans ?_ h
  have hp : 0 < 2 ^ (m - k) := Nat.pow_pos (by omega)
  have h1 := (und_iff j' (m - k) j).1 hj
  rw [show 2 ^ m = 2 ^ (m - k) * 2 ^ k by rw [← Nat.pow_add, Nat.sub_add_cancel hkm], ← Nat.mul_assoc]
  exact Nat.mul_le_mul_right _ h1.2
theorem proof_fit {i n : Nat} (h : i < n) (hn : n ≤ 4611686018427387904) : ∀ s ∈ proofN i n, (s.2 + 1) * 2 ^ s.1 ≤ n := by
  obtain ⟨T, h1, h2, h3, h4⟩ := proof_split h hn
  have hp := hi_peak h (by omega)
  intro s hs
  rw [h4] at hs
  rcases List.mem_append.1 hs with hs | hs
  · have hk := sibs_lv hs
    have hb : (i / 2 ^ hiN i n + 1) * 2 ^ hiN i n ≤ n := by rw [hp.1, Nat.sub_add_cancel hp.2.2]; exact Nat.div_mul_le_self n _
    refine up_fit (m := hiN i n) (j := i / 2 ^ hiN i n) ?_ (by omega) hb
    rw [hk.2.1]
    have e : 2 ^ (hiN i n - s.1) = 2 * 2 ^ (hiN i n - s.1 - 1) := by rw [Nat.mul_comm, ← Nat.pow_succ]; exact congrArg (2 ^ ·) (by omega)
    rw [e, ← Nat.div_div_eq_div_mul, sib_half, Nat.div_div_eq_div_mul, ← e, ← div_up i (by omega)]
  · refine (tops_fit 63 n s ?_).2
    rw [show topsF 63 n = topsN n from rfl, h1]
    rcases List.mem_append.1 hs with hs | hs
    · exact List.mem_append.2 (.inl hs)
    · exact List.mem_append.2 (.inr (List.mem_cons_of_mem _ hs))

/-! Places below a size. -/
theorem nodes_succ : ∀ (m x : Nat), x < m → x + 1 < 2 ^ 64 → nodesN x < nodesN (x + 1)
  | 0, x, h, _ => by omega
  | m + 1, x, h, hx => by
    rw [nodes_half x (by omega), nodes_half (x + 1) hx]
    by_cases he : x % 2 = 0
    · rw [show (x + 1) / 2 = x / 2 by omega]; omega
    · rw [show (x + 1) / 2 = x / 2 + 1 by omega]
      by_cases h0 : x = 0
      · omega
      · have := nodes_succ m (x / 2) (by omega) (by omega)
        omega
theorem nodes_mono : ∀ (d x : Nat), x + d < 2 ^ 64 → nodesN x ≤ nodesN (x + d)
  | 0, _, _ => Nat.le_refl _
  | d + 1, x, h => Nat.le_trans (nodes_mono d x (by omega)) (Nat.le_of_lt (nodes_succ (x + d + 1) (x + d) (by omega) (by omega)))
end Go.Proofs.YtefnonlhepekdaaDoor.M

set_option linter.unusedVariables false
set_option linter.unusedSimpArgs false
namespace Go.Proofs.YtefnonlhepekdaaDoor.M
open Go.RowKit Go.Proofs.YtefnonlhepekdaaDoorW.PrintWords Go.Proofs.YtefnonlhepekdaaDoorW.PrintLast Go.Proofs.YtefnonlhepekdaaDoorW.PrintMore Go.Proofs.YtefnonlhepekdaaDoor.Leaf

theorem xor64 (a b : Nat) (ha : a < 18446744073709551616) (hb : b < 18446744073709551616) : Go.bits .xor .u64 (a : Int) (b : Int) = ((a ^^^ b : Nat) : Int) := by
  have hx : a ^^^ b < 2 ^ 64 := Nat.xor_lt_two_pow (by omega) (by omega)
  have e1 : ((a : Int) % 18446744073709551616).toNat = a := by omega
  have e2 : ((b : Int) % 18446744073709551616).toNat = b := by omega
  show IntKind.u64.wrap ((((a : Int) % 18446744073709551616).toNat ^^^ ((b : Int) % 18446744073709551616).toNat : Nat) : Int) = _
  rw [e1, e2]
  exact w64_nat _ (by omega)
theorem height_val (i n k : Nat) (h : i < n) (hn : n ≤ 4611686018427387904) : pos_height.f k (i : Int) (n : Int) = some ((hiN i n : Nat) : Int) := by
  have hx : i ^^^ n < 2 ^ 64 := Nat.xor_lt_two_pow (by omega) (by omega)
  have hl := (hi_lv h (by omega)).2
  have hle := hi_le h hn
  unfold pos_height.f num_High.f bits_Len64.f
  rw [xor64 i n (by omega) (by omega), if_pos (by omega)]
  simp only [Option.bind_some, Int.toNat_natCast]
  rw [hl, i64_of _ (by omega) (by omega)]
  exact congrArg some (by omega)
theorem peak_val (i n : Nat) (h : i < n) (hn : n ≤ 4611686018427387904) : Ev (fun k => pos_Peak.f k (i : Int) (n : Int)) (((overN i n : Nat) : Int), true) := by
  have hle := hi_le h hn
  have hp := pop_lef 64 (n / 2 ^ (hiN i n + 1))
  unfold pos_Peak.f
  refine Ev.congr (fun k => if_neg (by omega)) ?_
  rw [show decide ((i : Int) ≥ (n : Int)) = false by simp; omega]
  refine Ev.step (fun k => by simp only [pos_Peak.j0]; rw [if_neg (by simp), height_val i n _ h hn, Option.bind_some]) ?_
  have e1 : shr .u64 (n : Int) ((hiN i n : Nat) : Int) / 2 = ((n / 2 ^ (hiN i n + 1) : Nat) : Int) := by
    rw [shr_nat n _ (by omega), ← half_up]
    omega
  refine Ev.congr (fun k => if_pos (by omega)) ?_
  rw [e1]
  unfold num_Ones.f
  rw [ones_val _ (Nat.lt_of_le_of_lt (Nat.div_le_self _ _) (by omega))]
  exact Ev.now _
theorem peak_none (i n : Nat) (h : n ≤ i ∨ 4611686018427387904 < n) : Ev (fun k => pos_Peak.f k (i : Int) (n : Int)) (0, false) := by
  unfold pos_Peak.f
  by_cases hc : 4611686018427387904 < n
  · refine Ev.congr (fun k => if_pos (by omega)) ?_
    exact Ev.step (f := fun _ => some (0, false)) (fun k => by simp only [pos_Peak.j0]; rw [if_pos trivial]) (Ev.now _)
  · refine Ev.congr (fun k => if_neg (by omega)) ?_
    rw [show decide ((i : Int) ≥ (n : Int)) = true by simp; omega]
    exact Ev.step (f := fun _ => some (0, false)) (fun k => by simp only [pos_Peak.j0]; rw [if_pos trivial]) (Ev.now _)
theorem path_loop (i n : Nat) (h : i < n) (hn : n ≤ 4611686018427387904) : ∀ (d k : Nat), k + d = hiN i n → Ev (fun j => pos_Path.l0 j (i : Int) (placesOf (sibsN i k)) ((hiN i n : Nat) : Int) (k : Int)) (placesOf (sibsN i (hiN i n)), true)
  | 0, k, hk => by
    have : k = hiN i n := by omega
    subst this
    exact Ev.step (f := fun _ => some (placesOf (sibsN i (hiN i n)), true)) (fun j => by simp only [pos_Path.l0]; rw [if_neg (by omega)]) (Ev.now _)
  | d + 1, k, hk => by
    have hle := hi_le h hn
    have ih := path_loop i n h hn d (k + 1) (by omega)
    have hq : i / 2 ^ k < 18446744073709551616 := Nat.lt_of_le_of_lt (Nat.div_le_self _ _) (by omega)
    have ex : Go.bits .xor .u64 (shr .u64 (i : Int) (k : Int)) 1 = ((sibN (i / 2 ^ k) : Nat) : Int) := by
      rw [shr_nat i k (by omega)]
      have := xor64 (i / 2 ^ k) 1 hq (by omega)
      rw [show (((1 : Nat) : Int)) = 1 from rfl] at this
      rw [this, sib_xor]
    have hm : (k, sibN (i / 2 ^ k)) ∈ proofN i n := by
      unfold proofN
      refine List.mem_append.2 (.inl ?_)
      simp only [sibsN, List.mem_map, List.mem_range]
      exact ⟨k, by omega, rfl⟩
    have hf := proof_fit h hn _ hm
    have pv : pos_Place.f ((k : Int) % 256) ((sibN (i / 2 ^ k) : Nat) : Int) = some (((placeN k (sibN (i / 2 ^ k)) : Nat) : Int), true) := by
      rw [show (k : Int) % 256 = k by omega]
      exact place_val k _ (by have := hf; simp only at this; omega)
    have e2 : wrap64 ((k : Int) + 1) = ((k + 1 : Nat) : Int) := by rw [i64_of _ (by omega) (by omega)]; omega
    have e3 : placesOf (sibsN i (k + 1)) = placesOf (sibsN i k) ++ [((placeN k (sibN (i / 2 ^ k)) : Nat) : Int)] := by
      simp [placesOf, sibsN, List.range_succ]
    have hlen : (placesOf (sibsN i k)).length < 17592186044416 := by simp [placesOf, sibsN]; omega
    rw [e3] at ih
    exact Ev.step (fun j => by simp only [pos_Path.l0]; rw [if_pos (by omega), if_pos (by omega), ex, pv]; simp only [Option.bind_some]; rw [if_pos hlen, e2]) ih
theorem path_val (i n : Nat) (h : i < n) (hn : n ≤ 4611686018427387904) : Ev (fun k => pos_Path.f k (i : Int) (n : Int)) (placesOf (sibsN i (hiN i n)), true) := by
  unfold pos_Path.f
  refine Ev.bind (peak_val i n h hn) ?_
  refine Ev.congr (fun k => if_pos rfl) ?_
  refine Ev.congr (fun k => by rw [height_val i n k h hn, Option.bind_some]) ?_
  exact path_loop i n h hn (hiN i n) 0 (by omega)
theorem path_none (i n : Nat) (h : n ≤ i ∨ 4611686018427387904 < n) : Ev (fun k => pos_Path.f k (i : Int) (n : Int)) ([], false) := by
  unfold pos_Path.f
  refine Ev.bind (peak_none i n h) ?_
  exact Ev.now _
end Go.Proofs.YtefnonlhepekdaaDoor.M

set_option linter.unusedVariables false
set_option linter.unusedSimpArgs false
namespace Go.Proofs.YtefnonlhepekdaaDoor.M
open Go.RowKit Go.Proofs.YtefnonlhepekdaaDoorW.PrintWords Go.Proofs.YtefnonlhepekdaaDoorW.PrintLast Go.Proofs.YtefnonlhepekdaaDoorW.PrintMore Go.Proofs.YtefnonlhepekdaaDoor.Leaf

/-- The lowest set bit. -/
def loF : Nat → Nat → Nat
  | 0, _ => 0
  | f + 1, x => if x % 2 = 1 then 0 else loF f (x / 2) + 1
def loN (x : Nat) : Nat := if x = 0 then 64 else loF 64 x
theorem loF_split : ∀ (f x : Nat), x ≠ 0 → x < 2 ^ f → loF f x < f ∧ ∃ m, x = 2 ^ loF f x * (2 * m + 1)
  | 0, x, h0, hx => by simp at hx; omega
  | f + 1, x, h0, hx => by
    by_cases h : x % 2 = 1
    · have e : loF (f + 1) x = 0 := if_pos h
      rw [e]
      exact ⟨by omega, x / 2, by omega⟩
    · have e : loF (f + 1) x = loF f (x / 2) + 1 := if_neg h
      rw [Nat.pow_succ] at hx
      obtain ⟨h1, m, h2⟩ := loF_split f (x / 2) (by omega) (by omega)
      rw [e]
      refine ⟨by omega, m, ?_⟩
      rw [Nat.pow_succ, Nat.mul_assoc, Nat.mul_left_comm, ← h2]
      omega
theorem lo_split {x : Nat} (h0 : x ≠ 0) (hx : x < 2 ^ 64) : loN x < 64 ∧ ∃ m, x = 2 ^ loN x * (2 * m + 1) := by
  have e : loN x = loF 64 x := if_neg h0
  rw [e]
  exact loF_split 64 x h0 hx
theorem lo_dvd (x : Nat) (hx : x < 2 ^ 64) (k : Nat) (hk : k ≤ loN x) : 2 ^ k ∣ x := by
  by_cases h0 : x = 0
  · subst h0; exact Nat.dvd_zero _
  · obtain ⟨_, m, hm⟩ := lo_split h0 hx
    have h1 : 2 ^ loN x ∣ x := ⟨2 * m + 1, hm⟩
    exact Nat.dvd_trans (Nat.pow_dvd_pow 2 hk) h1
theorem lo_not {x : Nat} (h0 : x ≠ 0) (hx : x < 2 ^ 64) {k : Nat} (hk : loN x < k) : ¬ 2 ^ k ∣ x := by
  intro h
  obtain ⟨_, m, hm⟩ := lo_split h0 hx
  have h1 : 2 ^ (loN x + 1) ∣ x := Nat.dvd_trans (Nat.pow_dvd_pow 2 hk) h
  obtain ⟨q, hq⟩ := h1
  rw [Nat.pow_succ, Nat.mul_assoc] at hq
  have h2 : 2 ^ loN x * (2 * m + 1) = 2 ^ loN x * (2 * q) := by rw [← hm]; exact hq
  have := Nat.eq_of_mul_eq_mul_left (Nat.pow_pos (by omega)) h2
  omega
/-- x and its negative have one bit in common. -/
theorem and_compl (m M j : Nat) (hM : M = 2 ^ j - 1) (hm : m ≤ M) : m &&& (M - m) = 0 := by
  apply Nat.eq_of_testBit_eq
  intro i
  have h0 : m < 2 ^ j := by have := Nat.pow_pos (n := j) (show 0 < 2 by omega); omega
  rw [Nat.testBit_and, Nat.zero_testBit, hM, show 2 ^ j - 1 - m = 2 ^ j - (m + 1) by omega, Nat.testBit_two_pow_sub_succ h0]
  cases m.testBit i <;> simp
theorem and_neg {x : Nat} (h0 : x ≠ 0) (hx : x < 2 ^ 64) : x &&& (2 ^ 64 - x) = 2 ^ loN x := by
  obtain ⟨hk, m, hm⟩ := lo_split h0 hx
  generalize loN x = k at *
  have e64 : (2 : Nat) ^ 64 = 2 ^ k * 2 ^ (64 - k) := by rw [← Nat.pow_add]; congr 1; omega
  have e63 : (2 : Nat) ^ (64 - k) = 2 * 2 ^ (63 - k) := by rw [show 64 - k = (63 - k) + 1 by omega, Nat.pow_succ, Nat.mul_comm]
  have hm2 : 2 * m + 1 < 2 ^ (64 - k) := by
    rw [hm, e64] at hx
    exact Nat.lt_of_mul_lt_mul_left hx
  have hsub : 2 ^ 64 - x = 2 ^ k * (2 * (2 ^ (63 - k) - 1 - m) + 1) := by
    rw [hm, e64, ← Nat.mul_sub]
    congr 1
    omega
  rw [hsub]
  have hx2 : x = (2 * m + 1) <<< k := by rw [Nat.shiftLeft_eq, Nat.mul_comm]; exact hm
  rw [hx2, Nat.mul_comm (2 ^ k), ← Nat.shiftLeft_eq, ← Nat.shiftLeft_and_distrib]
  have h1 : (2 * m + 1) &&& (2 * (2 ^ (63 - k) - 1 - m) + 1) = 1 := by
    apply Nat.eq_of_testBit_eq
    intro i
    cases i with
    | zero => simp
    | succ i =>
      rw [Nat.testBit_and, Nat.testBit_succ, Nat.testBit_succ, Nat.testBit_succ, show (2 * m + 1) / 2 = m by omega, show (2 * (2 ^ (63 - k) - 1 - m) + 1) / 2 = 2 ^ (63 - k) - 1 - m by omega, ← Nat.testBit_and,
        and_compl m (2 ^ (63 - k) - 1) (63 - k) rfl (by omega)]
  rw [h1, Nat.shiftLeft_eq, Nat.one_mul]

/-- The height of the next spot; the row of spots. -/
def hN (a b : Nat) : Nat := min (loN a) (Lib.bitLen (b - a) - 1)
def spanF : Nat → Nat → Nat → List (Nat × Nat)
  | 0, _, _ => []
  | f + 1, a, b => if a < b then (hN a b, a / 2 ^ hN a b) :: spanF f (a + 2 ^ hN a b) b else []
def spanN (a b : Nat) : List (Nat × Nat) := spanF (b - a) a b
theorem len_facts {x : Nat} (h0 : x ≠ 0) (hx : x ≤ 4611686018427387904) : 1 ≤ Lib.bitLen x ∧ 2 ^ (Lib.bitLen x - 1) ≤ x ∧ x < 2 ^ Lib.bitLen x ∧ Lib.bitLen x ≤ 63 := by
  have h := len_lo 64 x h0 (by omega)
  refine ⟨h.1, h.2.1, h.2.2, ?_⟩
  by_cases hc : Lib.bitLen x ≤ 63
  · exact hc
  · have := Nat.pow_le_pow_right (show 0 < 2 by omega) (show 63 ≤ Lib.bitLen x - 1 by omega)
    have h2 : 2 ^ (Lib.bitLen x - 1) ≤ x := h.2.1
    omega
theorem h_facts {a b : Nat} (hab : a < b) (hb : b ≤ 4611686018427387904) : hN a b ≤ 62 ∧ 2 ^ hN a b ≤ b - a ∧ 2 ^ hN a b ∣ a := by
  have h := len_facts (x := b - a) (by omega) (by omega)
  have h1 : hN a b ≤ Lib.bitLen (b - a) - 1 := Nat.min_le_right _ _
  have h2 : hN a b ≤ loN a := Nat.min_le_left _ _
  refine ⟨by omega, Nat.le_trans (Nat.pow_le_pow_right (by omega) h1) h.2.1, lo_dvd a (by omega) _ h2⟩
theorem spanF_fuel (b : Nat) (hb : b ≤ 4611686018427387904) : ∀ (f g a : Nat), b - a ≤ f → b - a ≤ g → spanF f a b = spanF g a b
  | 0, 0, _, _, _ => rfl
  | 0, g + 1, a, h, _ => by
    show [] = if a < b then _ else []
    rw [if_neg (by omega)]
  | f + 1, 0, a, _, h => by
    show (if a < b then _ else []) = []
    rw [if_neg (by omega)]
  | f + 1, g + 1, a, h1, h2 => by
    show (if a < b then (hN a b, a / 2 ^ hN a b) :: spanF f (a + 2 ^ hN a b) b else []) = if a < b then (hN a b, a / 2 ^ hN a b) :: spanF g (a + 2 ^ hN a b) b else []
    by_cases h : a < b
    · have hp := p2_pos (hN a b)
      rw [if_pos h, if_pos h, spanF_fuel b hb f g (a + 2 ^ hN a b) (by omega) (by omega)]
    · rw [if_neg h, if_neg h]
theorem span_step {a b : Nat} (h : a < b) (hb : b ≤ 4611686018427387904) : spanN a b = (hN a b, a / 2 ^ hN a b) :: spanN (a + 2 ^ hN a b) b := by
  unfold spanN
  have hp := p2_pos (hN a b)
  obtain ⟨f, hf⟩ : ∃ f, b - a = f + 1 := ⟨b - a - 1, by omega⟩
  rw [hf]
  show (if a < b then (hN a b, a / 2 ^ hN a b) :: spanF f (a + 2 ^ hN a b) b else []) = _
  rw [if_pos h, spanF_fuel b hb f (b - (a + 2 ^ hN a b)) _ (by omega) (by omega)]
theorem span_stop {a b : Nat} (h : b ≤ a) : spanN a b = [] := by
  unfold spanN
  rw [show b - a = 0 by omega]
  rfl
/-- Every spot is right, and they stand one behind the other. -/
theorem span_fit (b : Nat) (hb : b ≤ 4611686018427387904) : ∀ (f a : Nat), b - a ≤ f → ∀ s ∈ spanN a b, (s.2 + 1) * 2 ^ s.1 ≤ b ∧ a ≤ s.2 * 2 ^ s.1
  | 0, a, h, s, hs => by rw [span_stop (by omega)] at hs; cases hs
  | f + 1, a, h, s, hs => by
    by_cases hab : a < b
    · obtain ⟨h1, h2, q, hq⟩ := h_facts hab hb
      rw [span_step hab hb] at hs
      have hp := p2_pos (hN a b)
      have e1 : a / 2 ^ hN a b = q := by
        have := Nat.mul_div_cancel_left q hp
        rw [← hq] at this
        exact this
      have e2 : q * 2 ^ hN a b = a := by rw [Nat.mul_comm]; exact hq.symm
      cases hs with
      | head =>
        simp only [e1]
        rw [Nat.add_mul, e2]
        omega
      | tail _ hs =>
        have := span_fit b hb f (a + 2 ^ hN a b) (by omega) s hs
        omega
    · rw [span_stop (by omega)] at hs; cases hs
/-- The bound on how many there are yet. -/
def muN (a b : Nat) : Nat := if loN a ≤ Lib.bitLen (b - a) - 1 then 127 - loN a else Lib.bitLen (b - a)
theorem span_len_mu (b : Nat) (hb : b ≤ 4611686018427387904) : ∀ (f a : Nat), b - a ≤ f → a < b → (spanN a b).length ≤ muN a b
  | 0, a, h, hab => by omega
  | f + 1, a, h, hab => by
    obtain ⟨h1, h2, h3⟩ := h_facts hab hb
    have hp := p2_pos (hN a b)
    have hl := len_facts (x := b - a) (by omega) (by omega)
    rw [span_step hab hb, List.length_cons]
    by_cases hc : loN a ≤ Lib.bitLen (b - a) - 1
    · have hmu : muN a b = 127 - loN a := if_pos hc
      have hh : hN a b = loN a := Nat.min_eq_left hc
      rw [hh] at h1 h2 h3 hp ⊢
      by_cases hab' : a + 2 ^ loN a < b
      · have ih := span_len_mu b hb f (a + 2 ^ loN a) (by omega) hab'
        have hl2 := len_facts (x := b - (a + 2 ^ loN a)) (by omega) (by omega)
        have ha0 : a ≠ 0 := by
          rintro rfl
          have : loN 0 = 64 := rfl
          omega
        obtain ⟨hk, m, hm⟩ := lo_split ha0 (by omega)
        have hup : loN a < loN (a + 2 ^ loN a) := by
          rcases Nat.lt_or_ge (loN a) (loN (a + 2 ^ loN a)) with h | h
          · exact h
          · have hd : 2 ^ (loN a + 1) ∣ a + 2 ^ loN a := ⟨m + 1, by
              rw [Nat.pow_succ]
              have : 2 ^ loN a * (2 * m + 1) = 2 ^ loN a * 2 * m + 2 ^ loN a := by rw [Nat.mul_add, Nat.mul_one, Nat.mul_assoc]
              rw [Nat.mul_add, Nat.mul_one]
              omega⟩
            exact absurd hd (lo_not (by omega) (by omega) (by omega))
        have hmu2 : muN (a + 2 ^ loN a) b ≤ 126 - loN a := by
          unfold muN
          split <;> omega
        omega
      · rw [span_stop (by omega), List.length_nil, hmu]
        omega
    · have hmu : muN a b = Lib.bitLen (b - a) := if_neg hc
      have hh : hN a b = Lib.bitLen (b - a) - 1 := Nat.min_eq_right (by omega)
      rw [hh] at h1 h2 h3 hp ⊢
      by_cases hab' : a + 2 ^ (Lib.bitLen (b - a) - 1) < b
      · have ih := span_len_mu b hb f (a + 2 ^ (Lib.bitLen (b - a) - 1)) (by omega) hab'
        have hl2 := len_facts (x := b - (a + 2 ^ (Lib.bitLen (b - a) - 1))) (by omega) (by omega)
        -- the rest is less than the spot
        have hpow : 2 ^ Lib.bitLen (b - a) = 2 * 2 ^ (Lib.bitLen (b - a) - 1) := by
          obtain ⟨z, hz⟩ : ∃ z, Lib.bitLen (b - a) = z + 1 := ⟨Lib.bitLen (b - a) - 1, by omega⟩
          rw [hz, Nat.pow_succ, Nat.add_sub_cancel, Nat.mul_comm]
        have hlt : Lib.bitLen (b - (a + 2 ^ (Lib.bitLen (b - a) - 1))) < Lib.bitLen (b - a) := by
          rcases Nat.lt_or_ge (Lib.bitLen (b - (a + 2 ^ (Lib.bitLen (b - a) - 1)))) (Lib.bitLen (b - a)) with h | h
          · exact h
          · have := Nat.pow_le_pow_right (show 0 < 2 by omega) (show Lib.bitLen (b - a) - 1 ≤ Lib.bitLen (b - (a + 2 ^ (Lib.bitLen (b - a) - 1))) - 1 by omega)
            omega
        have hlo : Lib.bitLen (b - a) - 1 ≤ loN (a + 2 ^ (Lib.bitLen (b - a) - 1)) := by
          rcases Nat.lt_or_ge (loN (a + 2 ^ (Lib.bitLen (b - a) - 1))) (Lib.bitLen (b - a) - 1) with h | h
          · exact absurd (Nat.dvd_add h3 (Nat.dvd_refl _)) (lo_not (by omega) (by omega) h)
          · exact h
        have hmu2 : muN (a + 2 ^ (Lib.bitLen (b - a) - 1)) b ≤ Lib.bitLen (b - a) - 1 := by
          unfold muN
          rw [if_neg (by omega)]
          omega
        omega
      · rw [span_stop (by omega), List.length_nil, hmu]
        omega
theorem span_len (a b : Nat) (hb : b ≤ 4611686018427387904) : (spanN a b).length ≤ 127 := by
  by_cases h : a < b
  · have := span_len_mu b hb (b - a) a (Nat.le_refl _) h
    have hl := len_facts (x := b - a) (by omega) (by omega)
    unfold muN at this
    split at this <;> omega
  · rw [span_stop (by omega)]
    simp
/-- What proof.PrefixPlaces answers. -/
def prefN (m n : Nat) : List (Nat × Nat) := topsN m ++ spanN m n
def prefAns (m n : Nat) : List Int × Int := if 4611686018427387904 < n ∨ n < m then ([], 30) else (placesOf (prefN m n), 0)
theorem pref_len (m n : Nat) (hn : n ≤ 4611686018427387904) : (prefN m n).length ≤ 190 := by
  unfold prefN
  rw [List.length_append]
  have h1 : (topsN m).length ≤ 63 := topsF_len 63 m
  have h2 := span_len m n hn
  omega
theorem prefAns_len (m n : Nat) : (prefAns m n).1.length ≤ 190 := by
  unfold prefAns
  split
  · simp
  · have := pref_len m n (by omega)
    simpa [placesOf] using this
end Go.Proofs.YtefnonlhepekdaaDoor.M

set_option linter.unusedVariables false
set_option linter.unusedSimpArgs false
namespace Go.Proofs.YtefnonlhepekdaaDoor.M
open Go.RowKit Go.Proofs.YtefnonlhepekdaaDoorW.PrintWords Go.Proofs.YtefnonlhepekdaaDoorW.PrintLast Go.Proofs.YtefnonlhepekdaaDoorW.PrintMore

theorem sizeH : (Tryd.prog.info? 63).map (·.size) = some 32 := by kernel_rfl
theorem infoH : (Tryd.prog.info? 63).map (fun i => (i.zero, i.size, i.bytes)) = some (some (.agg #[.int .u8 0, .int .u8 0, .int .u8 0, .int .u8 0, .int .u8 0, .int .u8 0, .int .u8 0, .int .u8 0, .int .u8 0, .int .u8 0, .int .u8 0, .int .u8 0, .int .u8 0, .int .u8 0, .int .u8 0, .int .u8 0, .int .u8 0, .int .u8 0, .int .u8 0, .int .u8 0, .int .u8 0, .int .u8 0, .int .u8 0, .int .u8 0, .int .u8 0, .int .u8 0, .int .u8 0, .int .u8 0, .int .u8 0, .int .u8 0, .int .u8 0, .int .u8 0]), 32, 32) := by kernel_rfl
/-- A hash lies there. -/
def HashAt (w : World) (ad : Addr) (h : Hsh) : Prop := ∃ b o, ad = ⟨b, o, none⟩ ∧ w.rangeAt b o h.cells
theorem HashAt.below {w w1 : World} {ad : Addr} {h : Hsh} (hh : HashAt w ad h) (hb : Below w.heap.size w w1) : HashAt w1 ad h := by
  obtain ⟨b, o, rfl, hr⟩ := hh
  exact ⟨b, o, rfl, fun j v hv => pw_cell_below hb (hr j v hv)⟩
theorem HashAt.block {w : World} {b : Nat} {h : Hsh} {t : TypeId} {fz : Nat × Nat} (hb : w.heap[b]? = some (.cells h.cells.toArray t fz)) : HashAt w ⟨b, 0, none⟩ h := by
  refine ⟨b, 0, rfl, fun j v hv => ?_⟩
  rw [Nat.zero_add, cell_of_row w b j _ t fz hb]
  simpa using hv
theorem Hsh.one (h : Hsh) : ∀ v ∈ h.cells, v.oneCell' = true := fun u hu => by
  obtain ⟨y, _, rfl⟩ := List.mem_map.1 hu
  rfl
/-- Element j of a row of hashes. -/
theorem C_hash {w : World} {A : Option Addr} {n : Nat} {ns : List Hsh} (h : kH.C w A n ns) (j : Nat) (hj : j < ns.length) : ∃ ad, A = some ad ∧ HashAt w (ad.add (j * 32)) (ns[j]) := by
  have hl := Kd.C_len h
  obtain ⟨_, _, hr⟩ := h
  obtain ⟨ad, e, hx⟩ := hr (by omega)
  obtain ⟨c, _, hk, hc⟩ := hx j _ (List.getElem?_eq_getElem hj)
  have hk : c = (ns[j]).cells := hk
  have hc : ∀ i u, c[i]? = some u → w.cell? (ad.add (j * 32 + i)) = some u := hc
  subst hk
  refine ⟨ad, e, ?_⟩
  have hlen := (ns[j]).cells_len
  have hsp : ad.spot = none ∨ j * 32 ≠ 0 := by
    by_cases h0 : j * 32 = 0
    · left
      have h1 := hc 0 _ (List.getElem?_eq_getElem (by omega))
      rw [h0] at h1
      by_cases hs : ad.spot = none
      · exact hs
      · exfalso
        have h2 : ad.add (0 + 0) = ad := by simp [Addr.add]
        rw [h2] at h1
        unfold World.cell? at h1
        have h3 : ad.spot.isSome = true := by cases hq : ad.spot with | none => exact absurd hq hs | some _ => rfl
        split at h1
        · rw [if_pos h3] at h1
          exact absurd h1 (by simp)
        · exact absurd h1 (by simp)
    · exact .inr h0
  refine ⟨ad.block, ad.off + j * 32, ?_, fun i v hv => ?_⟩
  · unfold Addr.add
    split
    · next h0 =>
      rcases hsp with hs | hs
      · rw [h0, Nat.add_zero]
        cases ad
        simp_all
      · exact absurd h0 hs
    · rfl
  · have h1 := hc i v hv
    rwa [show ad.add (j * 32 + i) = ⟨ad.block, ad.off + j * 32 + i, none⟩ by
      unfold Addr.add
      split
      · next h0 =>
        have h4 : j * 32 = 0 := by omega
        have h5 : i = 0 := by omega
        rcases hsp with hs | hs
        · cases ad
          simp_all
        · exact absurd h4 hs
      · rw [Nat.add_assoc]] at h1

/-- A variable that holds a hash reads as 32 numbers. -/
theorem C_hash_row (w : World) (h : Hsh) (t : TypeId) {b : Nat} (hb : b = w.heap.size) : (Kd.int .u8).C (w.alloc (.cells h.cells.toArray t)) (some ⟨b, 0, none⟩) 32 h.b := by
  subst hb
  have := C_int_block .u8 (xs := h.b) (heap_new w (.cells h.cells.toArray t)) (by rw [h.len]; omega) (fun j x hj => by
    rw [List.getElem?_toArray]
    unfold Hsh.cells
    rw [List.getElem?_map, hj]
    rfl)
  rwa [h.len] at this
/-- The hash that begins with x, and is 0 behind it. -/
def hash1 (x : Int) : Hsh := ⟨[x, 0, 0, 0, 0, 0, 0, 0, 0, 0, 0, 0, 0, 0, 0, 0, 0, 0, 0, 0, 0, 0, 0, 0, 0, 0, 0, 0, 0, 0, 0, 0], rfl⟩
section
variable {ops : Array Oper} {rest : List Oper} {o : Oper} {a : Act} {Q : Exit → Act → World → Prop}
/-- 'load' of a hash. -/
theorem load_hash {W : World} (hgd : o.guard = none) (x : Operand) (ho : o.op = .load 63 x) (ad : Addr) (h : Hsh) (hx : a.eval x = .pointer (some ad)) (hr : HashAt W ad h)
    (k : wpList Tryd.prog ops Q rest (a.put o.dst h.val) W) : wpList Tryd.prog ops Q (o :: rest) a W := by
  obtain ⟨b, off, rfl, hrg⟩ := hr
  exact wpList_load_mid hgd _ x ho b off hx h.cells _ hrg Tryd.underlying63 rfl (by rw [Hsh.cells_len]; exact sizeH) k
theorem set_all (w : World) (t : TypeId) (z : Array Value) (vs : List Value) (hl : z.size = vs.length) : (w.alloc (.cells z t)).setCells w.heap.size 0 vs = w.alloc (.cells vs.toArray t) := by
  have key : ∀ (vs : List Value) (o : Nat) (cur : Array Value), o + vs.length ≤ cur.size → (w.alloc (.cells cur t)).setCells w.heap.size o vs = w.alloc (.cells (cur.toList.take o ++ vs ++ cur.toList.drop (o + vs.length)).toArray t) := by
    intro vs
    induction vs with
    | nil =>
      intro o cur _
      simp [World.setCells]
    | cons v vs ih =>
      intro o cur hle
      rw [List.length_cons] at hle
      have e1 : (w.alloc (.cells cur t)).setCell ⟨w.heap.size, o, none⟩ v = w.alloc (.cells (cur.setIfInBounds o v) t) := by
        rw [World.setCell_alloc_at _ _ _ _ _ rfl]
      rw [show (w.alloc (.cells cur t)).setCells w.heap.size o (v :: vs) = ((w.alloc (.cells cur t)).setCell ⟨w.heap.size, o, none⟩ v).setCells w.heap.size (o + 1) vs from rfl, e1, ih (o + 1) _ (by simp; omega)]
      congr 3
      apply List.ext_getElem?
      intro i
      simp only [Array.toList_setIfInBounds, List.length_cons, List.getElem?_append, List.length_append, List.length_take, List.length_set, Array.length_toList, List.getElem?_take, List.getElem?_drop, List.getElem?_set]
      have hmin : min o cur.size = o := by omega
      have hmin1 : min (o + 1) cur.size = o + 1 := by omega
      rw [hmin, hmin1]
      by_cases c1 : i < o
      · rw [if_pos (by omega), if_pos (by omega), if_pos (by omega), if_neg (by omega), if_pos (by omega), if_pos (by omega), if_pos c1]
      · by_cases c2 : i = o
        · subst c2
          rw [if_pos (show i < i + 1 + vs.length by omega), if_pos (show i < i + 1 by omega), if_pos (show i < i + 1 by omega), if_pos rfl, if_pos (by omega), if_pos (by omega), if_neg (by omega), Nat.sub_self]
          rfl
        · by_cases c3 : i < o + 1 + vs.length
          · rw [if_pos (by omega), if_neg (by omega), if_pos (by omega), if_neg (by omega)]
            obtain ⟨d, rfl⟩ : ∃ d, i = o + 1 + d := ⟨i - (o + 1), by omega⟩
            rw [show o + 1 + d - (o + 1) = d by omega, show o + 1 + d - o = d + 1 by omega, List.getElem?_cons_succ]
          · rw [if_neg (by omega), if_neg (by omega), if_neg (by omega)]
            congr 1
            omega
  rw [key vs 0 z (by omega), List.drop_of_length_le (by rw [Array.length_toList]; omega)]
  simp
/-- A hash goes into a variable that has just been made. -/
theorem store_hash {W : World} (hgd : o.guard = none) (hd : o.dst = none) (x y : Operand) (ho : o.op = .store 63 x y) (z : Array Value) (hz : z.size = 32) (t : TypeId) (b : Nat) (hb : b = W.heap.size) (h : Hsh) (hx : a.eval x = .pointer (some ⟨b, 0, none⟩)) (hy : a.eval y = h.val)
    (k : wpList Tryd.prog ops Q rest a (W.alloc (.cells h.cells.toArray t))) : wpList Tryd.prog ops Q (o :: rest) a (W.alloc (.cells z t)) := by
  subst hb
  refine wpList_store_mid hgd _ x y ho W.heap.size 0 h.cells.toArray hx hy (fun j hj => ?_) (by rw [List.size_toArray, Hsh.cells_len]; exact sizeH) (all_oneCell_toArray h.one) ?_
  · have hj32 : j < 32 := by rwa [List.size_toArray, Hsh.cells_len] at hj
    rw [Nat.zero_add, cell_of_row _ _ j z t (0, 0) (heap_new W _), frozen_of_row _ _ j z t (heap_new W _)]
    simp
    omega
  · rw [hd]
    show wpList _ _ _ _ a _
    rw [show h.cells.toArray.toList = h.cells by simp, set_all W t z h.cells (by rw [hz, Hsh.cells_len])]
    exact k
end
end Go.Proofs.YtefnonlhepekdaaDoor.M
