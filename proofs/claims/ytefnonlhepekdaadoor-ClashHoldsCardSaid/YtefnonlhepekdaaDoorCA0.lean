/- Words of this session: what a call may change ('Frm'), and how rows of the call's own live on. A row's 'post' where the call has at most laid new blocks (Below): 'post_of_same' with Below for the frame and for what is frozen. The hash, plainly: words of 32 bits as numbers, a block's step, a text's sum. Hashes in memory: an element of a row of hashes is loaded, a variable takes one. Two hashes, compared. append's laws once more, the new row's length under a name of its own. Hashes, further words: as bytes, read, compared, written; rows that are marked; what two rows of unlike types share. (For seats in which the texts of spans are not.). Arrays and structs in memory, of any length: a part of a block is loaded, is written; one is handed back; what 'clear' leaves. Plain laws of places, with no program in sight: set bits, how many nodes n leaves have, the greatest n with so many nodes, peaks, the spots that a span needs. math/bits.OnesCount64's arithmetic counts the set bits. What the functions of pos and of massifref3 come to, by the plain laws. hash.rotr, hash.word, hash.cut: the walks. num.Big. -/
import Derived.Test.YtefnonlhepekdaaDoorLq
import Derived.Test.YtefnonlhepekdaaDoorRows
import Derived.WalkKit
import Derived.ProofKit
import Derived.OpenShut
import Derived.Deep.MidRow
import Derived.ChangeKeysEq
import Derived.Laws.StructEq
import Derived.Great.BuildSlice
import Derived.BigQuiet
import Derived.StillTailTactics
import Derived.Lib.SliceRun
import Derived.Lib.BitFns
import Derived.Laws.BitsAllLaws
set_option linter.unusedVariables false
set_option linter.unusedSimpArgs false
set_option linter.unusedVariables false
set_option linter.unusedSimpArgs false
namespace Go.Proofs.YtefnonlhepekdaaDoor.M
open Go.RowKit Go.Proofs.YtefnonlhepekdaaDoorW.PrintWords Go.Proofs.YtefnonlhepekdaaDoorW.PrintLast Go.Proofs.YtefnonlhepekdaaDoorW.PrintMore

/-- Of the blocks that were there only those of S may have changed. -/
structure Frm (S : Nat → Prop) (w w' : World) : Prop where
  os : w'.os = w.os
  tape : w'.tape = w.tape
  output : w'.output = w.output
  size : w.heap.size ≤ w'.heap.size
  block : ∀ k, k < w.heap.size → ¬ S k → w'.heap[k]? = w.heap[k]?

theorem Frm.refl (S : Nat → Prop) (w : World) : Frm S w w := ⟨rfl, rfl, rfl, Nat.le_refl _, fun _ _ _ => rfl⟩
theorem Frm.trans {S S' : Nat → Prop} {a b c : World} (h : Frm S a b) (k : Frm S' b c) (hs : ∀ i, i < a.heap.size → S' i → S i) : Frm S a c :=
  ⟨k.os.trans h.os, k.tape.trans h.tape, k.output.trans h.output, Nat.le_trans h.size k.size, fun i hi hn => (k.block i (Nat.lt_of_lt_of_le hi h.size) (fun hs' => hn (hs i hi hs'))).trans (h.block i hi hn)⟩
theorem Frm.of_below {w w' : World} (h : Below w.heap.size w w') (S : Nat → Prop) : Frm S w w' := ⟨h.os, h.tape, h.output, h.size, fun k hk _ => h.block k hk⟩
theorem Frm.below {S : Nat → Prop} {w w' : World} (h : Frm S w w') {B : Nat} (hB : B ≤ w.heap.size) (hs : ∀ i, S i → B ≤ i) : Below B w w' :=
  ⟨h.os, h.tape, h.output, h.size, fun k hk => h.block k (Nat.lt_of_lt_of_le hk hB) (fun hsk => by have := hs k hsk; omega)⟩
theorem Frm.of_grown {w w' : World} {row : Option Nat} (h : w.grownBy w' row) : Frm (fun k => some k = row) w w' := ⟨h.os, h.tape, h.output, h.size, fun k hk hn => h.block k hk hn⟩
theorem Frm.of_set (w : World) (p : Addr) (u : Value) : Frm (fun k => k = p.block) w (w.setCell p u) :=
  ⟨rfl, rfl, rfl, by simp [World.setCell], fun k _ hn => Below.heap_setCell w p u k hn⟩
theorem Frm.mono {S S' : Nat → Prop} {w w' : World} (h : Frm S w w') (hs : ∀ k, k < w.heap.size → S k → S' k) : Frm S' w w' :=
  ⟨h.os, h.tape, h.output, h.size, fun k hk hn => h.block k hk (fun hk' => hn (hs k hk hk'))⟩
theorem heap_new (w : World) (o : Obj) : (w.alloc o).heap[w.heap.size]? = some o := by
  show (w.heap.push o)[w.heap.size]? = some o
  simp
theorem bl_new (w : World) (o : Obj) : Below w.heap.size w (w.alloc o) := (Below.refl _ _).alloc (Nat.le_refl _) _
/-! Flat kinds: an element is its cells, whatever the world. -/
def Flat {α : Type} (d : Kd α) : Prop := ∀ (w w' : World) (b b' : Nat) (ok ok' : Nat → Prop) (x : α) (cs : List Value), d.M w b ok x cs → d.M w' b' ok' x cs
theorem flat_int (k : IntKind) : Flat (Kd.int k) := fun _ _ _ _ _ _ _ _ h => h
def flat {α : Type} (enc : α → List Value) (n : Nat) (hn : ∀ x, (enc x).length = n) (h1 : ∀ x, ∀ u ∈ enc x, u.oneCell' = true) : Kd α where
  sz := n
  E := []
  K := fun _ x cs => cs = enc x
  M := fun _ _ _ x cs => cs = enc x
  K_len := fun h => by rw [h]; exact hn _
  K_one := fun h u hu => by rw [h] at hu; exact h1 _ u hu
  K_below := fun _ h => h
  K_of_M := fun h => h
  M_mono := fun _ h => h
  M_bound := fun h => h
  M_move := fun _ h => h
  M_lower := fun _ h => h
/-- A hash: 32 numbers. -/
structure Hsh where
  b : List Int
  len : b.length = 32
deriving DecidableEq
def Hsh.cells (h : Hsh) : List Value := h.b.map (Value.int .u8)
theorem Hsh.cells_len (h : Hsh) : h.cells.length = 32 := by simp [Hsh.cells, h.len]
def kH : Kd Hsh := flat Hsh.cells 32 Hsh.cells_len (fun x u hu => by
  obtain ⟨y, _, rfl⟩ := List.mem_map.1 hu
  rfl)
/-- A hash as a value. -/
def Hsh.val (h : Hsh) : Value := .agg h.cells.toArray

section
variable {α : Type} {d : Kd α} {e : Nat} {w w1 : World} {base : Nat} {v : Value} {xs : List α}
theorem R_self (hd : Flat d) (h : d.R e w base (fun _ => True) v xs) : d.R e w base (fun k => some k = v.ownBlock) v xs := by
  obtain ⟨_, q⟩ := h
  exact ⟨fun k hk => hk.symm, q.imp_ (fun _ _ hp => hd _ _ _ _ _ _ _ _ hp)⟩
theorem R_frm (hd : Flat d) (h : d.R e w base (fun _ => True) v xs) {S : Nat → Prop} (hf : Frm S w w1) (hS : ∀ k, v.ownBlock = some k → ¬ S k) : d.R e w1 base (fun _ => True) v xs :=
  Kd.R_mono (Kd.R_step (R_self hd h) (fun k hk hkl => hf.block k hkl (hS k hk.symm))) (fun _ _ => trivial)
end

section
variable {P : Program} {ops : Array Oper} {rest : List Oper} {o : Oper} {a : Act} {Q : Exit → Act → World → Prop} {α : Type}
/-- append(v, x), behind 'at_builtin': the row of one's own is longer by p. -/
theorem app_one (d : Kd α) {W : World} (base : Nat) (hgd : o.guard = none) (s x : Operand) (t e : TypeId) (z : Value) (bytes : Nat)
    (ho : o.op = .call { callee := .builtin .append, args := #[s, x], argTypes := #[t, t] })
    (ht : P.underlying t = some (.slice e)) (hinfo : (P.info? e).map (fun i => (i.zero, i.size, i.bytes)) = some (some z, d.sz, bytes)) (hz : z.cells.size = d.sz) (hs0 : 0 < d.sz) (hb0 : 0 < bytes)
    (v : Value) (xs : List α) (p : α) (cs : List Value) (hs : a.eval s = v) (hx : a.eval x = .slice (some ⟨W.heap.size, 0, none⟩) 1 1) (hp : d.M W base (fun _ => False) p cs)
    (HO : d.R e W base (fun _ => True) v xs) (hbase : base ≤ W.heap.size) (hl : (xs.length + 1) * bytes ≤ 140737488355328)
    (h : ∀ A1 c1 w1, d.R e w1 base (fun _ => True) (.slice A1 (xs.length + 1) c1) (xs ++ [p]) → Frm (fun k => some k = v.ownBlock) W w1 →
      ((Value.slice A1 (xs.length + 1) c1).ownBlock = v.ownBlock ∨ ∃ b, (Value.slice A1 (xs.length + 1) c1).ownBlock = some b ∧ W.heap.size ≤ b) → wpList P ops Q rest (a.put o.dst (.slice A1 (xs.length + 1) c1)) w1) :
    wpList P ops Q (o :: rest) a (W.alloc (.cells cs.toArray e)) := by
  refine Kd.R_append d (w0 := W) base hgd s x t e z bytes ho ht hinfo hz hs0 hb0 v xs p cs (fun _ => True) (fun _ => False) hs hx hp (fun _ hk => hk.elim) (fun _ _ => trivial) HO (Below.refl _ _) hbase hl ?_
  intro v1 w1 hr _ hg hat
  obtain ⟨A1, c1, e1⟩ := Kd.R_slice hr
  rw [List.length_append] at e1
  rw [e1] at hr hat ⊢
  exact h A1 c1 w1 hr (Frm.of_grown hg) hat
/-- append(v, ys...) of numbers. -/
theorem app_row (k : IntKind) {W : World} (base : Nat) (hgd : o.guard = none) (s x : Operand) (t e : TypeId) (z : Value) (bytes : Nat)
    (ho : o.op = .call { callee := .builtin .append, args := #[s, x], argTypes := #[t, t] })
    (ht : P.underlying t = some (.slice e)) (hinfo : (P.info? e).map (fun i => (i.zero, i.size, i.bytes)) = some (some z, 1, bytes)) (hz : z.cells.size = 1) (hb0 : 0 < bytes)
    (v : Value) (xs ys : List Int) (A : Option Addr) (m c : Nat) (hs : a.eval s = v) (hx : a.eval x = .slice A m c)
    (HO : (Kd.int k).R e W base (fun _ => True) v xs) (HR : (Kd.int k).C W A m ys) (hbase : base ≤ W.heap.size) (hl : (xs.length + m) * bytes ≤ 140737488355328)
    (h : ∀ A1 c1 w1, (Kd.int k).R e w1 base (fun _ => True) (.slice A1 (xs.length + m) c1) (xs ++ ys) → Frm (fun k => some k = v.ownBlock) W w1 →
      ((Value.slice A1 (xs.length + m) c1).ownBlock = v.ownBlock ∨ ∃ b, (Value.slice A1 (xs.length + m) c1).ownBlock = some b ∧ W.heap.size ≤ b) → wpList P ops Q rest (a.put o.dst (.slice A1 (xs.length + m) c1)) w1) :
    wpList P ops Q (o :: rest) a W := by
  refine Kd.R_append_row (Value.int k) 0 (w0 := W) base hgd s x t e z bytes ho ht hinfo hz hb0 v xs ys A m c (fun _ => True) hs hx (fun _ _ => trivial) HO HR (Below.refl _ _) hbase hl ?_
  intro v1 w1 hr _ hg hat
  obtain ⟨A1, c1, e1⟩ := Kd.R_slice hr
  rw [List.length_append, Kd.C_len HR] at e1
  rw [e1] at hr hat ⊢
  exact h A1 c1 w1 hr (Frm.of_grown hg) hat
end

theorem blt {w W w1 : World} (h : Below w.heap.size w W) (k : Below W.heap.size W w1) : Below w.heap.size w w1 := h.trans (k.mono h.size)
/-- A slice value that reads as these numbers (of one kind). -/
def Rd (k : IntKind) (w : World) (v : Value) (xs : List Int) : Prop := ∃ A c, v = .slice A xs.length c ∧ xs.length ≤ c ∧ (Kd.int k).C w A xs.length xs
theorem Rd.below {k : IntKind} {w w1 : World} {v : Value} {xs : List Int} (h : Rd k w v xs) (hb : Below w.heap.size w w1) : Rd k w1 v xs := by
  obtain ⟨A, c, e, hl, hc⟩ := h
  exact ⟨A, c, e, hl, Kd.C_below hc hb⟩
theorem Rd.alloc {k : IntKind} {w : World} {v : Value} {xs : List Int} (h : Rd k w v xs) (o : Obj) : Rd k (w.alloc o) v xs := h.below (bl_new w o)
theorem Rd.drewN {k : IntKind} {w : World} {v : Value} {xs : List Int} (h : Rd k w v xs) (n : Nat) : Rd k (w.drewN n) v xs := h.below (pw_below_drewN (Below.refl _ _) n)
theorem Rd.drew {k : IntKind} {w : World} {v : Value} {xs : List Int} (h : Rd k w v xs) : Rd k w.drew v xs := h.below (below_drew (Below.refl _ _))
theorem Rd.of_R {k : IntKind} {e base : Nat} {w : World} {v : Value} {xs : List Int} (h : (Kd.int k).R e w base (fun _ => True) v xs) : Rd k w v xs := by
  obtain ⟨A, c, e1, hl, hc⟩ := Kd.R_reads h
  exact ⟨A, c, e1, hl, hc⟩
theorem C_int_block (k : IntKind) {w : World} {b : Nat} {cs : Array Value} {t : TypeId} {fz : Nat × Nat} {xs : List Int} (h : w.heap[b]? = some (.cells cs t fz)) (hm : xs.length ≤ 9223372036854775807) (hc : ∀ (j : Nat) (x : Int), xs[j]? = some x → cs[j]? = some (.int k x)) :
    (Kd.int k).C w (some ⟨b, 0, none⟩) xs.length xs := by
  refine ⟨rfl, hm, fun _ => ⟨_, rfl, fun j x hj => ⟨[.int k x], rfl, rfl, fun i u hi => ?_⟩⟩⟩
  cases i with
  | zero =>
    simp at hi
    subst hi
    rw [show j * (Kd.int k).sz + 0 = j from Nat.mul_one j, add_plain]
    show (match w.heap[b]? with | some (.cells c _ _) => if (none : Option Nat).isSome then none else c[j]? | _ => none) = _
    rw [h]
    exact hc j x hj
  | succ i => simp at hi
theorem Rd.one (k : IntKind) (w : World) (x : Int) (e : Nat) {b : Nat} (hb : b = w.heap.size) : Rd k (w.alloc (.cells #[.int k x] e)) (.slice (some ⟨b, 0, none⟩) 1 1) [x] := by
  subst hb
  refine ⟨some ⟨w.heap.size, 0, none⟩, 1, rfl, by simp, C_int_block k (heap_new w _) (by simp) (fun j y hj => ?_)⟩
  cases j with
  | zero => simp at hj; subst hj; rfl
  | succ j => simp at hj
end Go.Proofs.YtefnonlhepekdaaDoor.M

set_option linter.unusedVariables false
set_option linter.unusedSimpArgs false
namespace Go.Proofs.YtefnonlhepekdaaDoor.M
open Go.ChangeShapes Go.WideShapes Go.ChangeAt Go.RowKit

theorem post_of_below {H : Type} {enc : TypeId × Value → H} {P : Program} {f : Func} {s : ChangeSpec} {apart fresh handsOn again : Bool} {W W' : World} {args : Array Value} {v : Value} {ds gs : List (DataW H)} {before pa pv : List MemPlace}
    (hW : DataW.Whole enc P f.params.toList s.vars apart W args.toList ds gs before)
    (hres : ∀ (b : Nat) (sp : Nat → Bool) (hd : Bool), DataW.TrodAll enc P W' b sp hd f.resultTypes.toList (v.resultList f.resultTypes.size) (s.fn H (ds ++ gs)).results [])
    (hargs : ∀ sp : Nat → Bool, (∀ p ∈ before, sp p.block = true) → DataW.TrodAll enc P W' 0 sp true f.params.toList args.toList (s.fn H (ds ++ gs)).args pa)
    (hvars : ∀ sp : Nat → Bool, (∀ p ∈ before, sp p.block = true) → DataW.TrodVars enc P W' sp s.vars (s.fn H (ds ++ gs)).vars pv)
    (hps : before = pa ++ pv) (hb : Below W.heap.size W W')
    (hok : ∀ (j : Nat) (t : TypeId) (r : Value), f.resultTypes[j]? = some t → (v.resultList f.resultTypes.size)[j]? = some r → Value.okWide P W' .any 0 t r) :
    s.post enc P f apart fresh handsOn again W args v W' := by
  have hold : ∀ p ∈ before, (fun b => decide (b < W.heap.size)) p.block = true := fun p hp => by simpa using hW.lt p hp
  have hlt := hW.lt
  refine ⟨ds, gs, before, [], pa, pv, hW, hres _ _ _, hargs _ hold, hvars _ hold, World.keptBut_mono (fun p hp => ⟨hp, ?_⟩) (hb.frame (· ∈ before)), fun _ => ?_⟩
  · rw [hps, List.mem_append] at hp
    exact Or.inr hp
  · obtain ⟨_, _, _, _, _, hz, hn⟩ := hW
    refine ⟨hok, _, _, ([] ++ pa) ++ pv, ⟨[] ++ pa, pv, trodAll_append (hargs _ (fun _ _ => rfl)) (hres _ _ _), hvars _ (fun _ _ => rfl), rfl, ?_, ?_⟩, ?_⟩
    · intro b off hp
      have hm : MemPlace.cell b off ∈ before := by rw [hps]; simpa using hp
      rw [hb.frozen (p := ⟨b, off, none⟩) (hlt _ hm)]
      exact hz b off hm
    · intro ha
      have := hn ha
      rw [hps] at this
      simpa using this
    · intro p hp _
      rw [hps]
      simpa using hp
end Go.Proofs.YtefnonlhepekdaaDoor.M

set_option linter.unusedVariables false
set_option linter.unusedSimpArgs false
namespace Go.Proofs.YtefnonlhepekdaaDoor.M
open Go.RowKit Go.Proofs.YtefnonlhepekdaaDoorW.PrintWords Go.Proofs.YtefnonlhepekdaaDoorW.PrintLast Go.Proofs.YtefnonlhepekdaaDoorW.PrintMore

def rotN (x n : Nat) : Nat := x / 2 ^ n + x % 2 ^ n * 2 ^ (32 - n)
def chN (x y z : Nat) : Nat := (x &&& y) ^^^ ((4294967295 - x) &&& z)
def majN (x y z : Nat) : Nat := (x &&& y) ^^^ (x &&& z) ^^^ (y &&& z)
def xorF : Nat → Nat → Nat → Nat → Nat
  | 0, _, _, _ => 0
  | f + 1, x, y, z => (x % 2 + y % 2 + z % 2) % 2 + 2 * xorF f (x / 2) (y / 2) (z / 2)
def chF : Nat → Nat → Nat → Nat → Nat
  | 0, _, _, _ => 0
  | f + 1, x, y, z => (if x % 2 = 1 then y % 2 else z % 2) + 2 * chF f (x / 2) (y / 2) (z / 2)
def majF : Nat → Nat → Nat → Nat → Nat
  | 0, _, _, _ => 0
  | f + 1, x, y, z => (x % 2 + y % 2 + z % 2) / 2 + 2 * majF f (x / 2) (y / 2) (z / 2)
theorem nat_ext2 {a b : Nat} (h1 : a % 2 = b % 2) (h2 : a / 2 = b / 2) : a = b := by omega
theorem and_mod2 (x y : Nat) : (x &&& y) % 2 = (x % 2) * (y % 2) := by
  have := Nat.and_mod_two_pow (a := x) (b := y) (n := 1)
  simp at this
  rw [this]
  rcases Nat.mod_two_eq_zero_or_one x with h | h <;> rcases Nat.mod_two_eq_zero_or_one y with k | k <;> rw [h, k] <;> rfl
theorem xor_mod2 (x y : Nat) : (x ^^^ y) % 2 = (x % 2 + y % 2) % 2 := by
  have := Nat.xor_mod_two_pow (a := x) (b := y) (n := 1)
  simp at this
  rw [this]
  rcases Nat.mod_two_eq_zero_or_one x with h | h <;> rcases Nat.mod_two_eq_zero_or_one y with k | k <;> rw [h, k] <;> rfl
theorem and_div2 (x y : Nat) : (x &&& y) / 2 = x / 2 &&& y / 2 := by
  have := Nat.and_div_two_pow (a := x) (b := y) (n := 1)
  simpa using this
theorem xor_div2 (x y : Nat) : (x ^^^ y) / 2 = x / 2 ^^^ y / 2 := by
  have := Nat.xor_div_two_pow (a := x) (b := y) (n := 1)
  simpa using this
theorem xorF_eq : ∀ (f x y z : Nat), x < 2 ^ f → y < 2 ^ f → z < 2 ^ f → xorF f x y z = x ^^^ y ^^^ z
  | 0, x, y, z, hx, hy, hz => by
    simp at hx hy hz
    subst hx hy hz
    rfl
  | f + 1, x, y, z, hx, hy, hz => by
    rw [Nat.pow_succ] at hx hy hz
    have ih := xorF_eq f (x / 2) (y / 2) (z / 2) (by omega) (by omega) (by omega)
    rw [xorF, ih]
    refine nat_ext2 ?_ ?_
    · rw [xor_mod2, xor_mod2]
      omega
    · rw [xor_div2, xor_div2]
      omega
theorem chF_eq : ∀ (f x y z : Nat), x < 2 ^ f → y < 2 ^ f → z < 2 ^ f → chF f x y z = (x &&& y) ^^^ ((2 ^ f - 1 - x) &&& z)
  | 0, x, y, z, hx, hy, hz => by
    simp at hx hy hz
    subst hx hy hz
    rfl
  | f + 1, x, y, z, hx, hy, hz => by
    rw [Nat.pow_succ] at hx hy hz ⊢
    have ih := chF_eq f (x / 2) (y / 2) (z / 2) (by omega) (by omega) (by omega)
    have hp : 0 < 2 ^ f := Nat.pow_pos (by omega)
    rw [chF, ih]
    refine nat_ext2 ?_ ?_
    · rw [xor_mod2, and_mod2, and_mod2]
      rcases Nat.mod_two_eq_zero_or_one x with h | h
      · rw [h, show (2 ^ f * 2 - 1 - x) % 2 = 1 by omega]
        simp
      · rw [h, show (2 ^ f * 2 - 1 - x) % 2 = 0 by omega]
        simp
    · rw [xor_div2, and_div2, and_div2, show (2 ^ f * 2 - 1 - x) / 2 = 2 ^ f - 1 - x / 2 by omega]
      split <;> omega
theorem majF_eq : ∀ (f x y z : Nat), x < 2 ^ f → y < 2 ^ f → z < 2 ^ f → majF f x y z = majN x y z
  | 0, x, y, z, hx, hy, hz => by
    simp at hx hy hz
    subst hx hy hz
    rfl
  | f + 1, x, y, z, hx, hy, hz => by
    rw [Nat.pow_succ] at hx hy hz
    have ih := majF_eq f (x / 2) (y / 2) (z / 2) (by omega) (by omega) (by omega)
    rw [majF, ih]
    unfold majN
    refine nat_ext2 ?_ ?_
    · rw [xor_mod2, xor_mod2, and_mod2, and_mod2, and_mod2]
      rcases Nat.mod_two_eq_zero_or_one x with h | h <;> rcases Nat.mod_two_eq_zero_or_one y with k | k <;> rcases Nat.mod_two_eq_zero_or_one z with l | l <;> rw [h, k, l] <;> omega
    · rw [xor_div2, xor_div2, and_div2, and_div2, and_div2]
      omega
theorem rot_lt (x n : Nat) (hx : x < 4294967296) (hn : n ≤ 32) : rotN x n < 4294967296 := by
  unfold rotN
  have h1 : x % 2 ^ n < 2 ^ n := Nat.mod_lt _ (Nat.pow_pos (by omega))
  have h2 : 2 ^ n * 2 ^ (32 - n) = 4294967296 := by rw [← Nat.pow_add, show n + (32 - n) = 32 by omega]
  have h3 : x / 2 ^ n < 2 ^ (32 - n) := by
    rw [Nat.div_lt_iff_lt_mul (Nat.pow_pos (by omega)), Nat.mul_comm, h2]
    exact hx
  have h4 : (x % 2 ^ n + 1) * 2 ^ (32 - n) ≤ 2 ^ n * 2 ^ (32 - n) := Nat.mul_le_mul_right _ h1
  rw [h2, Nat.add_mul] at h4
  omega
def kTab : List Nat := [1116352408, 1899447441, 3049323471, 3921009573, 961987163, 1508970993, 2453635748, 2870763221, 3624381080, 310598401, 607225278, 1426881987, 1925078388, 2162078206, 2614888103, 3248222580, 3835390401, 4022224774, 264347078, 604807628, 770255983, 1249150122, 1555081692, 1996064986, 2554220882, 2821834349, 2952996808, 3210313671, 3336571891, 3584528711, 113926993, 338241895, 666307205, 773529912, 1294757372, 1396182291, 1695183700, 1986661051, 2177026350, 2456956037, 2730485921, 2820302411, 3259730800, 3345764771, 3516065817, 3600352804, 4094571909, 275423344, 430227734, 506948616, 659060556, 883997877, 958139571, 1322822218, 1537002063, 1747873779, 1955562222, 2024104815, 2227730452, 2361852424, 2428436474, 2756734187, 3204031479, 3329325298]
def begB : List Int := [106, 9, 230, 103, 187, 103, 174, 133, 60, 110, 243, 114, 165, 79, 245, 58, 81, 14, 82, 127, 155, 5, 104, 140, 31, 131, 217, 171, 91, 224, 205, 25]
def sg0 (x : Nat) : Nat := rotN x 7 ^^^ rotN x 18 ^^^ x / 2 ^ 3
def sg1 (x : Nat) : Nat := rotN x 17 ^^^ rotN x 19 ^^^ x / 2 ^ 10
def bg1 (x : Nat) : Nat := rotN x 6 ^^^ rotN x 11 ^^^ rotN x 25
def bg0 (x : Nat) : Nat := rotN x 2 ^^^ rotN x 13 ^^^ rotN x 22
def nextW (m : List Nat) (t : Nat) : Nat := (sg1 (m.getD (t - 2) 0) + m.getD (t - 7) 0 + sg0 (m.getD (t - 15) 0) + m.getD (t - 16) 0) % 4294967296
/-- The words of a block, as many as are wanted. -/
def schedN (b : List Nat) : Nat → List Nat
  | 0 => b
  | k + 1 => schedN b k ++ [nextW (schedN b k) (16 + k)]
structure St where
  a : Nat
  b : Nat
  c : Nat
  d : Nat
  e : Nat
  f : Nat
  g : Nat
  h : Nat
def t1N (s : St) (k m : Nat) : Nat := (s.h + bg1 s.e + chN s.e s.f s.g + k + m) % 4294967296
def t2N (s : St) : Nat := (bg0 s.a + majN s.a s.b s.c) % 4294967296
def roundN (s : St) (k m : Nat) : St := ⟨(t1N s k m + t2N s) % 4294967296, s.a, s.b, s.c, (s.d + t1N s k m) % 4294967296, s.e, s.f, s.g⟩
def roundsN (m : List Nat) (s : St) : Nat → St
  | 0 => s
  | t + 1 => roundN (roundsN m s t) (kTab.getD t 0) (m.getD t 0)
def wordB (b : List Int) (i : Nat) : Nat := (((b.getD (4 * i) 0).toNat * 256 + (b.getD (4 * i + 1) 0).toNat) * 256 + (b.getD (4 * i + 2) 0).toNat) * 256 + (b.getD (4 * i + 3) 0).toNat
def wordsB (b : List Int) (n : Nat) : List Nat := (List.range n).map (wordB b)
def stOf (b : List Int) : St := ⟨wordB b 0, wordB b 1, wordB b 2, wordB b 3, wordB b 4, wordB b 5, wordB b 6, wordB b 7⟩
def bytesW (x : Nat) : List Int := [((x / 16777216 % 256 : Nat) : Int), ((x / 65536 % 256 : Nat) : Int), ((x / 256 % 256 : Nat) : Int), ((x % 256 : Nat) : Int)]
def addS (s v : St) : List Nat := [(s.a + v.a) % 4294967296, (s.b + v.b) % 4294967296, (s.c + v.c) % 4294967296, (s.d + v.d) % 4294967296, (s.e + v.e) % 4294967296, (s.f + v.f) % 4294967296, (s.g + v.g) % 4294967296, (s.h + v.h) % 4294967296]
def compB (st blk : List Int) : List Int := (addS (stOf st) (roundsN (schedN (wordsB blk 16) 48) (stOf st) 64)).flatMap bytesW

theorem bytesW_len (x : Nat) : (bytesW x).length = 4 := rfl
theorem compB_len (st blk : List Int) : (compB st blk).length = 32 := by simp [compB, addS, bytesW]
/-- A width as it counts. -/
def widN (w : Int) : Nat := (min (max w 1) 32).toNat
theorem widN_le (w : Int) : widN w ≤ 32 := by unfold widN; omega
theorem widN_pos (w : Int) : 1 ≤ widN w := by unfold widN; omega
def cutB (w : Int) (l : List Int) : List Int := l.take (widN w) ++ List.replicate (32 - widN w) 0
theorem cutB_len (w : Int) (l : List Int) (h : l.length = 32) : (cutB w l).length = 32 := by
  have := widN_le w
  simp [cutB, h]
  omega
def cutH (w : Int) (h : Hsh) : Hsh := ⟨cutB w h.b, cutB_len w h.b h.len⟩
/-- One step. -/
def compH (w : Int) (st : Hsh) (blk : List Int) : Hsh := ⟨cutB w (compB st.b blk), cutB_len _ _ (compB_len _ _)⟩
def begH (w : Int) : Hsh := ⟨cutB w begB, cutB_len _ _ rfl⟩
/-- As many blocks as are wanted, taken in. -/
def absH (w : Int) : Nat → Hsh → List Int → Hsh
  | 0, s, _ => s
  | k + 1, s, b => absH w k (compH w s (b.take 64)) (b.drop 64)
theorem absH_snoc (w : Int) : ∀ (k : Nat) (s : Hsh) (b : List Int), absH w (k + 1) s b = compH w (absH w k s b) ((b.drop (64 * k)).take 64)
  | 0, s, b => rfl
  | k + 1, s, b => by
    rw [absH, absH_snoc w k, absH, List.drop_drop, show 64 + 64 * k = 64 * (k + 1) by omega]
theorem absH_app (w : Int) : ∀ (k : Nat) (s : Hsh) (a b : List Int), 64 * k ≤ a.length → absH w k s (a ++ b) = absH w k s a
  | 0, s, a, b, _ => rfl
  | k + 1, s, a, b, h => by
    rw [absH, absH, List.take_append_of_le_length (by omega), List.drop_append_of_le_length (by omega), absH_app w k _ _ _ (by rw [List.length_drop]; omega)]
def big8 (x : Nat) : List Int := (List.range 8).map fun i => ((x / 256 ^ (7 - i) % 256 : Nat) : Int)
theorem big8_len (x : Nat) : (big8 x).length = 8 := by simp [big8]
/-- What stands behind a text of n bytes. -/
def tailB (n : Nat) : List Int := (128 :: List.replicate ((119 - n % 64) % 64) 0) ++ big8 (8 * n)
theorem tailB_len (n : Nat) : (tailB n).length = 9 + (119 - n % 64) % 64 := by
  simp [tailB, big8_len]
  omega
def padB (t : List Int) : List Int := t ++ tailB t.length
theorem padB_len (t : List Int) : (padB t).length % 64 = 0 := by
  unfold padB
  rw [List.length_append, tailB_len]
  omega
/-- The hash of a text. -/
def sumH (w : Int) (t : List Int) : Hsh := absH w ((padB t).length / 64) (begH w) (padB t)
def BytesL (l : List Int) : Prop := ∀ b ∈ l, 0 ≤ b ∧ b < 256
theorem bytesW_bytes (x : Nat) : BytesL (bytesW x) := by
  intro b hb
  simp [bytesW] at hb
  omega
theorem compB_bytes (st blk : List Int) : BytesL (compB st blk) := by
  intro b hb
  unfold compB at hb
  obtain ⟨x, _, hx⟩ := List.mem_flatMap.1 hb
  exact bytesW_bytes x b hx
theorem cutB_bytes (w : Int) {l : List Int} (h : BytesL l) : BytesL (cutB w l) := by
  intro b hb
  unfold cutB at hb
  rcases List.mem_append.1 hb with h1 | h1
  · exact h b (List.mem_of_mem_take h1)
  · have := List.eq_of_mem_replicate h1
    omega
theorem begB_bytes : BytesL begB := by
  intro b hb
  simp [begB] at hb
  omega
theorem absH_bytes (w : Int) : ∀ (k : Nat) (s : Hsh) (b : List Int), BytesL s.b → BytesL (absH w k s b).b
  | 0, s, b, h => h
  | k + 1, s, b, h => absH_bytes w k _ _ (cutB_bytes w (compB_bytes _ _))
theorem sched_len (b : List Nat) : ∀ k, (schedN b k).length = b.length + k
  | 0 => rfl
  | k + 1 => by rw [schedN, List.length_append, sched_len b k]; rfl
theorem sched_pre (b : List Nat) (k : Nat) : ∀ d, schedN b k <+: schedN b (k + d)
  | 0 => List.prefix_refl _
  | d + 1 => (sched_pre b k d).trans ⟨_, rfl⟩
theorem pre_getD {l m : List Nat} (h : l <+: m) {i : Nat} (hi : i < l.length) : m.getD i 0 = l.getD i 0 := by
  obtain ⟨r, rfl⟩ := h
  rw [List.getD_eq_getElem?_getD, List.getD_eq_getElem?_getD, List.getElem?_append_left hi]
theorem sched_lo (b : List Nat) (k i : Nat) (hi : i < b.length) : (schedN b k).getD i 0 = b.getD i 0 := by
  have := sched_pre b 0 k
  rw [Nat.zero_add] at this
  exact pre_getD this hi
theorem sched_hi (b : List Nat) (hb : b.length = 16) (n t : Nat) (h1 : 16 ≤ t) (h2 : t < 16 + n) : (schedN b n).getD t 0 = (sg1 ((schedN b n).getD (t - 2) 0) + (schedN b n).getD (t - 7) 0 + sg0 ((schedN b n).getD (t - 15) 0) + (schedN b n).getD (t - 16) 0) % 4294967296 := by
  obtain ⟨k, rfl⟩ : ∃ k, t = 16 + k := ⟨t - 16, by omega⟩
  have hp := sched_pre b k (n - k)
  have hp1 := sched_pre b (k + 1) (n - (k + 1))
  rw [show k + (n - k) = n by omega] at hp
  rw [show k + 1 + (n - (k + 1)) = n by omega] at hp1
  have hl := sched_len b k
  have hl1 := sched_len b (k + 1)
  rw [pre_getD hp1 (i := 16 + k) (by omega), pre_getD hp (i := 16 + k - 2) (by omega), pre_getD hp (i := 16 + k - 7) (by omega), pre_getD hp (i := 16 + k - 15) (by omega), pre_getD hp (i := 16 + k - 16) (by omega)]
  generalize hS : schedN b k = S at *
  rw [schedN, hS, List.getD_eq_getElem?_getD, List.getElem?_append_right (by omega), hl, hb, Nat.sub_self, List.getElem?_cons_zero, Option.getD_some, nextW]
theorem sched_lt (b : List Nat) (hb : ∀ x ∈ b, x < 4294967296) : ∀ k, ∀ x ∈ schedN b k, x < 4294967296
  | 0, x, hx => hb x hx
  | k + 1, x, hx => by
    rw [schedN] at hx
    rcases List.mem_append.1 hx with h | h
    · exact sched_lt b hb k x h
    · rw [List.mem_singleton] at h
      rw [h]
      exact Nat.mod_lt _ (by omega)
theorem getD_lt {l : List Nat} (h : ∀ x ∈ l, x < 4294967296) (i : Nat) : l.getD i 0 < 4294967296 := by
  rw [List.getD_eq_getElem?_getD]
  by_cases hi : i < l.length
  · rw [List.getElem?_eq_getElem hi]
    exact h _ (List.getElem_mem hi)
  · rw [List.getElem?_eq_none (by omega)]
    show 0 < 4294967296
    omega
theorem sg0_lt {x : Nat} (h : x < 4294967296) : sg0 x < 4294967296 := by
  unfold sg0
  exact Nat.xor_lt_two_pow (n := 32) (Nat.xor_lt_two_pow (rot_lt x 7 h (by omega)) (rot_lt x 18 h (by omega))) (Nat.lt_of_le_of_lt (Nat.div_le_self _ _) h)
theorem sg1_lt {x : Nat} (h : x < 4294967296) : sg1 x < 4294967296 := by
  unfold sg1
  exact Nat.xor_lt_two_pow (n := 32) (Nat.xor_lt_two_pow (rot_lt x 17 h (by omega)) (rot_lt x 19 h (by omega))) (Nat.lt_of_le_of_lt (Nat.div_le_self _ _) h)
theorem bg0_lt {x : Nat} (h : x < 4294967296) : bg0 x < 4294967296 := by
  unfold bg0
  exact Nat.xor_lt_two_pow (n := 32) (Nat.xor_lt_two_pow (rot_lt x 2 h (by omega)) (rot_lt x 13 h (by omega))) (rot_lt x 22 h (by omega))
theorem bg1_lt {x : Nat} (h : x < 4294967296) : bg1 x < 4294967296 := by
  unfold bg1
  exact Nat.xor_lt_two_pow (n := 32) (Nat.xor_lt_two_pow (rot_lt x 6 h (by omega)) (rot_lt x 11 h (by omega))) (rot_lt x 25 h (by omega))
theorem chN_lt {x y z : Nat} (hx : x < 4294967296) (hy : y < 4294967296) (hz : z < 4294967296) : chN x y z < 4294967296 :=
  Nat.xor_lt_two_pow (n := 32) (Nat.and_lt_two_pow _ hy) (Nat.and_lt_two_pow _ hz)
theorem majN_lt {x y z : Nat} (hx : x < 4294967296) (hy : y < 4294967296) (hz : z < 4294967296) : majN x y z < 4294967296 :=
  Nat.xor_lt_two_pow (n := 32) (Nat.xor_lt_two_pow (Nat.and_lt_two_pow _ hy) (Nat.and_lt_two_pow _ hz)) (Nat.and_lt_two_pow _ hz)
/-- All eight words are words. -/
def St.ok (s : St) : Prop := s.a < 4294967296 ∧ s.b < 4294967296 ∧ s.c < 4294967296 ∧ s.d < 4294967296 ∧ s.e < 4294967296 ∧ s.f < 4294967296 ∧ s.g < 4294967296 ∧ s.h < 4294967296
def St.list (s : St) : List Nat := [s.a, s.b, s.c, s.d, s.e, s.f, s.g, s.h]
theorem roundN_ok {s : St} (h : s.ok) (k m : Nat) : (roundN s k m).ok :=
  ⟨Nat.mod_lt _ (by omega), h.1, h.2.1, h.2.2.1, Nat.mod_lt _ (by omega), h.2.2.2.2.1, h.2.2.2.2.2.1, h.2.2.2.2.2.2.1⟩
theorem roundsN_ok {s : St} (h : s.ok) (m : List Nat) : ∀ t, (roundsN m s t).ok
  | 0 => h
  | t + 1 => roundN_ok (roundsN_ok h m t) _ _
theorem kTab_len : kTab.length = 64 := rfl
theorem kTab_lt : ∀ x ∈ kTab, x < 4294967296 := by decide
end Go.Proofs.YtefnonlhepekdaaDoor.M

set_option linter.unusedVariables false
set_option linter.unusedSimpArgs false
namespace Go.Proofs.YtefnonlhepekdaaDoor.M
open Go.RowKit Go.Proofs.YtefnonlhepekdaaDoorW.PrintWords Go.Proofs.YtefnonlhepekdaaDoorW.PrintLast Go.Proofs.YtefnonlhepekdaaDoorW.PrintMore

theorem sizeH : (Tryd.prog.info? 63).map (·.size) = some 32 := by kernel_rfl
theorem infoH : (Tryd.prog.info? 63).map (fun i => (i.zero, i.size, i.bytes)) = some (some (.agg #[.int .u8 0, .int .u8 0, .int .u8 0, .int .u8 0, .int .u8 0, .int .u8 0, .int .u8 0, .int .u8 0, .int .u8 0, .int .u8 0, .int .u8 0, .int .u8 0, .int .u8 0, .int .u8 0, .int .u8 0, .int .u8 0, .int .u8 0, .int .u8 0, .int .u8 0, .int .u8 0, .int .u8 0, .int .u8 0, .int .u8 0, .int .u8 0, .int .u8 0, .int .u8 0, .int .u8 0, .int .u8 0, .int .u8 0, .int .u8 0, .int .u8 0, .int .u8 0]), 32, 32) := by kernel_rfl
/-- A hash lies there. -/
def HashAt (w : World) (ad : Addr) (h : Hsh) : Prop := ∃ b o, ad = ⟨b, o, none⟩ ∧ w.rangeAt b o h.cells
theorem HashAt.below {w w1 : World} {ad : Addr} {h : Hsh} (hh : HashAt w ad h) (hb : Below w.heap.size w w1) : HashAt w1 ad h := by
  obtain ⟨b, o, rfl, hr⟩ := hh
  exact ⟨b, o, rfl, fun j v hv => pw_cell_below hb (hr j v hv)⟩
theorem HashAt.block {w : World} {b : Nat} {h : Hsh} {t : TypeId} {fz : Nat × Nat} (hb : w.heap[b]? = some (.cells h.cells.toArray t fz)) : HashAt w ⟨b, 0, none⟩ h := by
  refine ⟨b, 0, rfl, fun j v hv => ?_⟩
  rw [Nat.zero_add, cell_of_row w b j _ t fz hb]
  simpa using hv
theorem Hsh.one (h : Hsh) : ∀ v ∈ h.cells, v.oneCell' = true := fun u hu => by
  obtain ⟨y, _, rfl⟩ := List.mem_map.1 hu
  rfl
/-- Element j of a row of hashes. -/
theorem C_hash {w : World} {A : Option Addr} {n : Nat} {ns : List Hsh} (h : kH.C w A n ns) (j : Nat) (hj : j < ns.length) : ∃ ad, A = some ad ∧ HashAt w (ad.add (j * 32)) (ns[j]) := by
  have hl := Kd.C_len h
  obtain ⟨_, _, hr⟩ := h
  obtain ⟨ad, e, hx⟩ := hr (by omega)
  obtain ⟨c, _, hk, hc⟩ := hx j _ (List.getElem?_eq_getElem hj)
  have hk : c = (ns[j]).cells := hk
  have hc : ∀ i u, c[i]? = some u → w.cell? (ad.add (j * 32 + i)) = some u := hc
  subst hk
  refine ⟨ad, e, ?_⟩
  have hlen := (ns[j]).cells_len
  have hsp : ad.spot = none ∨ j * 32 ≠ 0 := by
    by_cases h0 : j * 32 = 0
    · left
      have h1 := hc 0 _ (List.getElem?_eq_getElem (by omega))
      rw [h0] at h1
      by_cases hs : ad.spot = none
      · exact hs
      · exfalso
        have h2 : ad.add (0 + 0) = ad := by simp [Addr.add]
        rw [h2] at h1
        unfold World.cell? at h1
        have h3 : ad.spot.isSome = true := by cases hq : ad.spot with | none => exact absurd hq hs | some _ => rfl
        split at h1
        · rw [if_pos h3] at h1
          exact absurd h1 (by simp)
        · exact absurd h1 (by simp)
    · exact .inr h0
  refine ⟨ad.block, ad.off + j * 32, ?_, fun i v hv => ?_⟩
  · unfold Addr.add
    split
    · next h0 =>
      rcases hsp with hs | hs
      · rw [h0, Nat.add_zero]
        cases ad
        simp_all
      · exact absurd h0 hs
    · rfl
  · have h1 := hc i v hv
    rwa [show ad.add (j * 32 + i) = ⟨ad.block, ad.off + j * 32 + i, none⟩ by
      unfold Addr.add
      split
      · next h0 =>
        have h4 : j * 32 = 0 := by omega
        have h5 : i = 0 := by omega
        rcases hsp with hs | hs
        · cases ad
          simp_all
        · exact absurd h4 hs
      · rw [Nat.add_assoc]] at h1

/-- The hash that begins with x, and is 0 behind it. -/
def hash1 (x : Int) : Hsh := ⟨[x, 0, 0, 0, 0, 0, 0, 0, 0, 0, 0, 0, 0, 0, 0, 0, 0, 0, 0, 0, 0, 0, 0, 0, 0, 0, 0, 0, 0, 0, 0, 0], rfl⟩
section
variable {ops : Array Oper} {rest : List Oper} {o : Oper} {a : Act} {Q : Exit → Act → World → Prop}
/-- 'load' of a hash. -/
theorem load_hash {W : World} (hgd : o.guard = none) (x : Operand) (ho : o.op = .load 63 x) (ad : Addr) (h : Hsh) (hx : a.eval x = .pointer (some ad)) (hr : HashAt W ad h)
    (k : wpList Tryd.prog ops Q rest (a.put o.dst h.val) W) : wpList Tryd.prog ops Q (o :: rest) a W := by
  obtain ⟨b, off, rfl, hrg⟩ := hr
  exact wpList_load_mid hgd _ x ho b off hx h.cells _ hrg Tryd.underlying63 rfl (by rw [Hsh.cells_len]; exact sizeH) k
end
end Go.Proofs.YtefnonlhepekdaaDoor.M

set_option linter.unusedVariables false
set_option linter.unusedSimpArgs false
namespace Go.Proofs.YtefnonlhepekdaaDoor.M
open Go.RowKit Go.Proofs.YtefnonlhepekdaaDoorW.PrintWords Go.Proofs.YtefnonlhepekdaaDoorW.PrintLast Go.Proofs.YtefnonlhepekdaaDoorW.PrintMore

theorem items_eq (d : Nat) (h g : Hsh) (w : World) : ∀ (is : List Nat), (∀ i ∈ is, i < 32) → (Op.eqItems (d + 1) 5 1 h.cells.toArray g.cells.toArray is).run Tryd.prog w = .ok (is.all fun i => h.b.getD i 0 == g.b.getD i 0) w
  | [], _ => by simp [Op.eqItems]
  | i :: is, hi => by
    have ih := items_eq d h g w is (fun j hj => hi j (List.mem_cons_of_mem _ hj))
    have h32 := hi i List.mem_cons_self
    have key : ∀ x : Hsh, x.cells.toArray[i * 1]? = some (.int .u8 (x.b.getD i 0)) := by
      intro x
      have hl := x.len
      rw [Nat.mul_one, List.getElem?_toArray]
      unfold Hsh.cells
      rw [List.getElem?_map, List.getElem?_eq_getElem (by omega)]
      simp [List.getD_eq_getElem?_getD, List.getElem?_eq_getElem (show i < x.b.length by omega)]
    have hp : Tryd.prog.plainKey 5 = true := by kernel_rfl
    rw [Op.eqItems]
    simp only [Sem.run_bind, run_part_plain w hp (key h), run_part_plain w hp (key g), Result.andThen_ok, run_equalIn_int w d 5 .u8 .u8 _ _ Tryd.underlying5]
    rw [List.all_cons]
    cases hq : (h.b.getD i 0 == g.b.getD i 0) with
    | false => simp
    | true => simp only [Bool.not_true, Bool.false_eq_true, if_false, Bool.true_and]; exact ih
theorem hash_dec (h g : Hsh) : ((List.range 32).all fun i => h.b.getD i 0 == g.b.getD i 0) = decide (h = g) := by
  rw [Bool.eq_iff_iff]
  simp only [List.all_eq_true, List.mem_range, beq_iff_eq, decide_eq_true_eq]
  constructor
  · intro hk
    have hb : h.b = g.b := by
      refine List.ext_getElem (by rw [h.len, g.len]) (fun i h1 h2 => ?_)
      have := hk i (by rw [← h.len]; exact h1)
      simpa [List.getD_eq_getElem?_getD, List.getElem?_eq_getElem h1, List.getElem?_eq_getElem h2] using this
    cases h; cases g; simp at hb; subst hb; rfl
  · rintro rfl i _; rfl
theorem hash_equalIn (d : Nat) (h g : Hsh) (w : World) : (Op.equalIn (d + 2) 63 h.val g.val).run Tryd.prog w = .ok (decide (h = g)) w := by
  obtain ⟨i, hi⟩ : ∃ i, Tryd.prog.info? 5 = some i := by
    have hs : (Tryd.prog.info? 5).isSome = true := by kernel_rfl
    exact Option.isSome_iff_exists.1 hs
  have hc : Tryd.prog.cellsOf 5 = 1 := by kernel_rfl
  unfold Hsh.val
  rw [show d + 2 = (d + 1) + 1 from rfl, run_equalIn_array w (d + 1) _ _ Tryd.underlying63 hi, hc, items_eq d h g w _ (fun j hj => List.mem_range.1 hj), hash_dec]
theorem hash_guard (op : BinOp) (x y : Operand) (h g : Hsh) (w : World) : (eqGuard op 63 x y h.val g.val).run Tryd.prog w = .ok () w := by
  have hm : Tryd.prog.eqGuardType Tryd.prog.depth 63 = false := by kernel_rfl
  exact run_eqGuard_agg w op _ x y _ _ hm
theorem hash_eql (h g : Hsh) (w : World) : (binOp .eql 63 h.val g.val).run Tryd.prog w = .ok (.bool (decide (h = g))) w := by
  have := run_eql_struct (P := Tryd.prog) w 63 h.cells.toArray g.cells.toArray
  have e := hash_equalIn 9998 h g w
  unfold Hsh.val at e ⊢
  rw [this, e]
  rfl
/-- A slice of one hash is made. -/
theorem run_build_hash (h : Hsh) (W : World) : (Instr.buildSlice 39 1 #[(0, .agg h.cells.toArray)]).run Tryd.prog W = .ok (.slice (some ⟨W.heap.size, 0, none⟩) 1 1) (W.alloc (.cells h.cells.toArray 63)) := by
  have hin := infoH
  obtain ⟨ie, hie⟩ : ∃ ie, Tryd.prog.info? 63 = some ie := by
    cases hc : Tryd.prog.info? 63 with
    | none => rw [hc] at hin; simp at hin
    | some ie => exact ⟨ie, rfl⟩
  rw [hie] at hin
  simp only [Option.map_some, Option.some.injEq, Prod.mk.injEq] at hin
  obtain ⟨hz, hsz, _⟩ := hin
  obtain ⟨z, hz⟩ : ∃ z, ie.zero = some z := ⟨_, hz⟩
  refine run_buildSlice W _ _ 1 _ h.cells.toArray ie z Tryd.underlying39 hie hz (by rw [hsz]; omega) (by rw [hsz]; omega) ?_
  rw [hsz]
  have hcl := h.cells_len
  obtain ⟨r, hr, hs, hk⟩ := Go.Great.fill_dense (s := 32) (by omega) [h.val] 0 ((Array.range (1 * 32)).map (z.cells[· % z.cells.size]!)) (fun v hv => by simp at hv; subst hv; show h.cells.toArray.size = 32; simpa using hcl) (by simp)
  have e : r = h.cells.toArray := by
    refine Array.ext_getElem? (fun j => ?_)
    rw [hk j]
    by_cases hj : j < 32
    · rw [if_pos (by simp; omega)]
      rw [show j / 32 - 0 = 0 by omega]
      simp only [List.getElem?_cons_zero, Option.bind_some]
      rw [show h.val.cells = h.cells.toArray from rfl, Nat.mod_eq_of_lt hj]
    · rw [if_neg (by simp; omega), Array.getElem?_eq_none (by simp; omega), Array.getElem?_eq_none (by simp; omega)]
  rw [e] at hr
  exact hr
theorem build_hash {ops : Array Oper} {rest : List Oper} {o : Oper} {a : Act} {Q : Exit → Act → World → Prop} {W : World} (hgd : o.guard = none) (x : Operand) (ho : o.op = .buildSlice 39 1 #[(0, x)]) (h : Hsh) (hx : a.eval x = h.val)
    (k : wpList Tryd.prog ops Q rest (a.put o.dst (.slice (some ⟨W.heap.size, 0, none⟩) 1 1)) (W.alloc (.cells h.cells.toArray 63))) : wpList Tryd.prog ops Q (o :: rest) a W := by
  refine wpList_plain hgd fun K hK => ?_
  have hr := run_build_hash h W
  have hx2 : a.eval x = .agg h.cells.toArray := hx
  unfold Oper.wp execOp
  simp only [ho, List.map_toArray, List.map_cons, List.map_nil, hx2, Sem.run_bind, hr, Result.andThen_ok]
  exact hK _ _ k
end Go.Proofs.YtefnonlhepekdaaDoor.M

set_option linter.unusedVariables false
set_option linter.unusedSimpArgs false
namespace Go.Proofs.YtefnonlhepekdaaDoor.M
open Go.RowKit Go.Proofs.YtefnonlhepekdaaDoorW.PrintWords Go.Proofs.YtefnonlhepekdaaDoorW.PrintLast Go.Proofs.YtefnonlhepekdaaDoorW.PrintMore

section
variable {P : Program} {ops : Array Oper} {rest : List Oper} {o : Oper} {a : Act} {Q : Exit → Act → World → Prop} {α : Type}
theorem app_oneN (d : Kd α) {W : World} (base : Nat) (hgd : o.guard = none) (s x : Operand) (t e : TypeId) (z : Value) (bytes : Nat)
    (ho : o.op = .call { callee := .builtin .append, args := #[s, x], argTypes := #[t, t] })
    (ht : P.underlying t = some (.slice e)) (hinfo : (P.info? e).map (fun i => (i.zero, i.size, i.bytes)) = some (some z, d.sz, bytes)) (hz : z.cells.size = d.sz) (hs0 : 0 < d.sz) (hb0 : 0 < bytes)
    (v : Value) (xs : List α) (p : α) (cs : List Value) (hs : a.eval s = v) (hx : a.eval x = .slice (some ⟨W.heap.size, 0, none⟩) 1 1) (hp : d.M W base (fun _ => False) p cs)
    (HO : d.R e W base (fun _ => True) v xs) (hbase : base ≤ W.heap.size) (hl : (xs.length + 1) * bytes ≤ 140737488355328)
    (h : ∀ A1 n1 c1 w1, d.R e w1 base (fun _ => True) (.slice A1 n1 c1) (xs ++ [p]) → Frm (fun k => some k = v.ownBlock) W w1 →
      ((Value.slice A1 n1 c1).ownBlock = v.ownBlock ∨ ∃ b, (Value.slice A1 n1 c1).ownBlock = some b ∧ W.heap.size ≤ b) → wpList P ops Q rest (a.put o.dst (.slice A1 n1 c1)) w1) :
    wpList P ops Q (o :: rest) a (W.alloc (.cells cs.toArray e)) :=
  app_one d base hgd s x t e z bytes ho ht hinfo hz hs0 hb0 v xs p cs hs hx hp HO hbase hl (fun A1 c1 w1 h1 h2 h3 => h A1 _ c1 w1 h1 h2 h3)
theorem app_rowN (k : IntKind) {W : World} (base : Nat) (hgd : o.guard = none) (s x : Operand) (t e : TypeId) (z : Value) (bytes : Nat)
    (ho : o.op = .call { callee := .builtin .append, args := #[s, x], argTypes := #[t, t] })
    (ht : P.underlying t = some (.slice e)) (hinfo : (P.info? e).map (fun i => (i.zero, i.size, i.bytes)) = some (some z, 1, bytes)) (hz : z.cells.size = 1) (hb0 : 0 < bytes)
    (v : Value) (xs ys : List Int) (A : Option Addr) (m c : Nat) (hs : a.eval s = v) (hx : a.eval x = .slice A m c)
    (HO : (Kd.int k).R e W base (fun _ => True) v xs) (HR : (Kd.int k).C W A m ys) (hbase : base ≤ W.heap.size) (hl : (xs.length + m) * bytes ≤ 140737488355328)
    (h : ∀ A1 n1 c1 w1, (Kd.int k).R e w1 base (fun _ => True) (.slice A1 n1 c1) (xs ++ ys) → Frm (fun k => some k = v.ownBlock) W w1 →
      ((Value.slice A1 n1 c1).ownBlock = v.ownBlock ∨ ∃ b, (Value.slice A1 n1 c1).ownBlock = some b ∧ W.heap.size ≤ b) → wpList P ops Q rest (a.put o.dst (.slice A1 n1 c1)) w1) :
    wpList P ops Q (o :: rest) a W :=
  app_row k base hgd s x t e z bytes ho ht hinfo hz hb0 v xs ys A m c hs hx HO HR hbase hl (fun A1 c1 w1 h1 h2 h3 => h A1 _ c1 w1 h1 h2 h3)
end
end Go.Proofs.YtefnonlhepekdaaDoor.M

set_option linter.unusedVariables false
set_option linter.unusedSimpArgs false
namespace Go.Proofs.YtefnonlhepekdaaDoor.M
open Go.RowKit Go.Proofs.YtefnonlhepekdaaDoorW.PrintWords Go.Proofs.YtefnonlhepekdaaDoorW.PrintLast Go.Proofs.YtefnonlhepekdaaDoorW.PrintMore Go.Proofs.YtefnonlhepekdaaDoor.Leaf

def Bytes (l : List Int) : Prop := ∀ b ∈ l, 0 ≤ b ∧ b < 256
def hashZ : Hsh := hash1 0
def mkH (l : List Int) : Hsh := if h : l.length = 32 then ⟨l, h⟩ else hashZ
def takeH : Nat → List Int → List Hsh
  | 0, _ => []
  | k + 1, bs => mkH (bs.take 32) :: takeH k (bs.drop 32)
theorem R_emptyK {α : Type} (d : Kd α) {e : Nat} {w : World} {g : Nat} {t : Nat} (ht : t = e) (hg : w.heap[g]? = some (.cells #[] t (0, 0))) {base : Nat} (hb : base ≤ g) : d.R e w base (fun _ => True) (.slice (some ⟨g, 0, none⟩) 0 0) [] := by
  subst ht
  exact ⟨fun _ _ => trivial, [], ⟨by simp, .inr ⟨g, 0, #[], rfl, hb, hg, Nat.le_refl _, Nat.zero_le _, by simp, by simp⟩⟩, Reps.none _ _⟩
theorem Rd.row {k : IntKind} {w : World} {A : Option Addr} {m c : Nat} {xs : List Int} (h : Rd k w (.slice A m c) xs) : Kd.C (Kd.int k) w A m xs := by
  obtain ⟨A', c', ev, _, hC⟩ := h
  injection ev with e1 e2 e3
  subst e1 e2
  exact hC
/-- What one reads of a row of one's own. -/
theorem R_C {α : Type} {d : Kd α} {e base : Nat} {w : World} {A : Option Addr} {n c : Nat} {xs : List α} (h : d.R e w base (fun _ => True) (.slice A n c) xs) : d.C w A n xs := by
  have h1 := Kd.R_reads' h
  rw [h1.1]
  exact h1.2.2
theorem R_capk {α : Type} {d : Kd α} {e base : Nat} {w : World} {A : Option Addr} {n c : Nat} {xs : List α} (h : d.R e w base (fun _ => True) (.slice A n c) xs) : n = xs.length ∧ n ≤ c ∧ c ≤ 9223372036854775807 := by
  refine ⟨(Kd.R_reads' h).1, (Kd.R_reads' h).2.1, ?_⟩
  obtain ⟨inner, ho⟩ := Kd.R_own h
  rcases ho.2 with ⟨h1, _⟩ | ⟨g, cap, cur, h1, _, _, _, h2, _⟩
  · injection h1 with _ _ h3
    omega
  · injection h1 with _ _ h3
    subst h3
    exact h2
/-- Two values that own no block together. -/
def Apart (u v : Value) : Prop := ∀ k, u.ownBlock = some k → v.ownBlock ≠ some k
theorem Apart.symm {u v : Value} (h : Apart u v) : Apart v u := fun k h1 h2 => h k h2 h1
theorem row_round {k : IntKind} {e base g n c : Nat} {W : World} {M : List Int} (h : (Kd.int k).R e W base (fun _ => True) (.slice (some ⟨g, 0, none⟩) n c) M) (j : Nat) (hj : j < n) :
    (∃ z : Int, W.cell? ⟨g, j, none⟩ = some (.int k z)) ∧ W.frozen? ⟨g, j, none⟩ = false ∧ ∀ x : Int, (Kd.int k).R e (W.setCell ⟨g, j, none⟩ (.int k x)) base (fun _ => True) (.slice (some ⟨g, 0, none⟩) n c) (M.set j x) := by
  obtain ⟨k1, k2⟩ := Kd.R_celln 0 h (j : Int) (by omega) (by omega)
  rw [Int.toNat_natCast] at k1 k2
  refine ⟨⟨_, k1⟩, k2, fun x => ?_⟩
  have s1 := Kd.R_putn h (j : Int) x
  rw [Int.toNat_natCast] at s1
  exact s1
/-- An element of a row of numbers, read. -/
theorem C_at {k : IntKind} {w : World} {A : Option Addr} {n : Nat} {xs : List Int} (h : (Kd.int k).C w A n xs) (j : Nat) (hj : j < n) : ∃ ad, A = some ad ∧ w.cell? (ad.add j) = some (.int k (xs.getD j 0)) := by
  have hl := Kd.C_len h
  obtain ⟨ad, ea, hx⟩ := Kd.at_int h (j : Int) (by omega) (by omega)
  rw [Int.toNat_natCast, show rd xs (j : Int) = xs.getD j 0 by simp only [rd, Int.toNat_natCast]] at hx
  exact ⟨ad, ea, hx⟩
/-- Hashes, read. -/
def Hd (w : World) (v : Value) (xs : List Hsh) : Prop := ∃ A c, v = .slice A xs.length c ∧ kH.C w A xs.length xs
theorem Hd.below {w w1 : World} {v : Value} {xs : List Hsh} (h : Hd w v xs) (hb : Below w.heap.size w w1) : Hd w1 v xs := by
  obtain ⟨A, c, e, hc⟩ := h
  exact ⟨A, c, e, Kd.C_below hc hb⟩
section
variable {ops : Array Oper} {rest : List Oper} {o : Oper} {a : Act} {Q : Exit → Act → World → Prop} {W : World}
theorem eql_hash (hgd : o.guard = none) (x y : Operand) (ty : TypeId) (ho : o.op = .binOp .eql 63 x y ty) (h g : Hsh) (hx : a.eval x = h.val) (hy : a.eval y = g.val) (b : Bool) (hb : (decide (h = g)) = b)
    (k : wpList Tryd.prog ops Q rest (a.put o.dst (.bool b)) W) : wpList Tryd.prog ops Q (o :: rest) a W := by
  refine wpList_plain hgd fun K hK => ?_
  unfold Oper.wp execOp
  simp only [ho, hx, hy, Sem.run_bind, hash_guard, hash_eql, Result.andThen_ok, Sem.run_pure, hb]
  exact hK _ _ k
end
theorem heap_new2 (w : World) (o : Obj) {b : Nat} (hb : b = w.heap.size) : (w.alloc o).heap[b]? = some o := by subst hb; exact heap_new w o
end Go.Proofs.YtefnonlhepekdaaDoor.M

set_option linter.unusedVariables false
set_option linter.unusedSimpArgs false
namespace Go.Proofs.YtefnonlhepekdaaDoor.M
open Go.RowKit Go.Proofs.YtefnonlhepekdaaDoorW.PrintWords Go.Proofs.YtefnonlhepekdaaDoorW.PrintLast Go.Proofs.YtefnonlhepekdaaDoorW.PrintMore Go.Proofs.YtefnonlhepekdaaDoor.Leaf

/-- A block's cells as a list. -/
def Blk (w : World) (g : Nat) (t : TypeId) (l : List Value) : Prop := w.heap[g]? = some (.cells l.toArray t (0, 0))
theorem Blk.below {w w1 : World} {g : Nat} {t : TypeId} {l : List Value} (h : Blk w g t l) (hb : Below w.heap.size w w1) : Blk w1 g t l := (hb.block _ (blk_lt h)).trans h
theorem Blk.frm {S : Nat → Prop} {w w1 : World} {g : Nat} {t : TypeId} {l : List Value} (h : Blk w g t l) (hf : Frm S w w1) (hn : ¬ S g) : Blk w1 g t l := (hf.block _ (blk_lt h) hn).trans h
theorem Blk.cell {w : World} {g : Nat} {t : TypeId} {l : List Value} (h : Blk w g t l) (i : Nat) : w.cell? ⟨g, i, none⟩ = l[i]? := by
  have := blk_cell h i
  simpa using this
theorem Blk.at {w : World} {g : Nat} {t : TypeId} {l : List Value} (h : Blk w g t l) {i : Nat} {v : Value} (hv : l[i]? = some v) : w.cell? ⟨g, i, none⟩ = some v := (h.cell i).trans hv
theorem Blk.frozen {w : World} {g : Nat} {t : TypeId} {l : List Value} (h : Blk w g t l) (i : Nat) : w.frozen? ⟨g, i, none⟩ = false := blk_frozen h i
theorem Blk.set {w : World} {g : Nat} {t : TypeId} {l : List Value} (h : Blk w g t l) (i : Nat) (v : Value) : Blk (w.setCell ⟨g, i, none⟩ v) g t (l.set i v) := by
  have := blk_set h i v
  unfold Blk
  rw [this, List.setIfInBounds_toArray]
theorem Blk.lt {w : World} {g : Nat} {t : TypeId} {l : List Value} (h : Blk w g t l) : g < w.heap.size := blk_lt h
theorem Blk.range {w : World} {g : Nat} {t : TypeId} {l : List Value} (h : Blk w g t l) (o : Nat) (cs : List Value) (hc : (l.drop o).take cs.length = cs) : w.rangeAt g o cs := by
  intro j v hv
  rw [h.cell]
  have hj := (List.getElem?_eq_some_iff.1 hv).1
  rw [← hc, List.getElem?_take_of_lt hj, List.getElem?_drop] at hv
  exact hv
theorem Blk.setCells {w : World} {g : Nat} {t : TypeId} {l : List Value} (h : Blk w g t l) (o : Nat) (vs : List Value) (ho : o + vs.length ≤ l.length) : Blk (w.setCells g o vs) g t (l.take o ++ vs ++ l.drop (o + vs.length)) := by
  obtain ⟨c, hc, hs, hl⟩ := setCells_row (g := g) vs o w l.toArray h (by simpa using ho)
  have e : c = (l.take o ++ vs ++ l.drop (o + vs.length)).toArray := by
    apply Array.toList_inj.1
    rw [hl]
  unfold Blk
  rw [hc, e]
theorem frm_setCells (w : World) (g o : Nat) (vs : List Value) : Frm (fun k => k = g) w (w.setCells g o vs) :=
  ⟨(setCells_same g vs o w).1, (setCells_same g vs o w).2.1, (setCells_same g vs o w).2.2.1, Nat.le_of_eq (setCells_same g vs o w).2.2.2.symm, fun k _ hn => setCells_far vs o k hn⟩
theorem blk_newL (w : World) (l : List Value) (t : TypeId) {g : Nat} (hg : g = w.heap.size) : Blk (w.alloc (.cells l.toArray t)) g t l := by subst hg; exact heap_new w _
section
variable {ops : Array Oper} {rest : List Oper} {o : Oper} {a : Act} {Q : Exit → Act → World → Prop} {W : World}
theorem load_arr (T : TypeId) (d : TypeDesc) (hgd : o.guard = none) (x : Operand) (ho : o.op = .load T x) (g off : Nat) (t : TypeId) (l cs : List Value) (hx : a.eval x = .pointer (some ⟨g, off, none⟩)) (hg : Blk W g t l) (hc : (l.drop off).take cs.length = cs) (hu : Tryd.prog.underlying T = some d) (hd : d.isRow = true) (hT : (Tryd.prog.info? T).map (·.size) = some cs.length)
    (k : wpList Tryd.prog ops Q rest (a.put o.dst (.agg cs.toArray)) W) : wpList Tryd.prog ops Q (o :: rest) a W :=
  wpList_load_mid hgd T x ho g off hx cs d (hg.range off cs hc) hu hd hT k
theorem store_arr (T : TypeId) (cs : List Value) (hgd : o.guard = none) (hd : o.dst = none) (x y : Operand) (ho : o.op = .store T x y) (hT : (Tryd.prog.info? T).map (·.size) = some cs.length) (hone : ∀ v ∈ cs, v.oneCell' = true) (g off : Nat) (t : TypeId) (l : List Value) (hg : Blk W g t l) (hle : off + cs.length ≤ l.length) (hx : a.eval x = .pointer (some ⟨g, off, none⟩)) (hy : a.eval y = .agg cs.toArray)
    (k : ∀ W1, Blk W1 g t (l.take off ++ cs ++ l.drop (off + cs.length)) → Frm (fun k => k = g) W W1 → wpList Tryd.prog ops Q rest a W1) : wpList Tryd.prog ops Q (o :: rest) a W := by
  refine wpList_store_mid hgd _ x y ho g off cs.toArray hx hy (fun j hj => ?_) (by simpa using hT) (all_oneCell_toArray hone) ?_
  · have hj : j < cs.length := by simpa using hj
    rw [hg.cell, hg.frozen]
    simp
    omega
  · rw [hd]
    show wpList _ _ _ _ a _
    exact k _ (by simpa using hg.setCells off cs hle) (by simpa using frm_setCells W g off cs)
/-- The whole variable is written. -/
theorem store_var (T : TypeId) (cs : List Value) (hgd : o.guard = none) (hd : o.dst = none) (x y : Operand) (ho : o.op = .store T x y) (hT : (Tryd.prog.info? T).map (·.size) = some cs.length) (hone : ∀ v ∈ cs, v.oneCell' = true) (g : Nat) (t : TypeId) (l : List Value) (hg : Blk W g t l) (hle : l.length = cs.length) (hx : a.eval x = .pointer (some ⟨g, 0, none⟩)) (hy : a.eval y = .agg cs.toArray)
    (k : ∀ W1, Blk W1 g t cs → Frm (fun k => k = g) W W1 → wpList Tryd.prog ops Q rest a W1) : wpList Tryd.prog ops Q (o :: rest) a W := by
  refine store_arr T cs hgd hd x y ho hT hone g 0 t l hg (by omega) hx hy (fun W1 h1 h2 => k W1 ?_ h2)
  rw [List.take_zero, List.nil_append, Nat.zero_add, List.drop_of_length_le (by omega), List.append_nil] at h1
  exact h1
/-- The whole variable is loaded. -/
theorem load_var (T : TypeId) (d : TypeDesc) (hgd : o.guard = none) (x : Operand) (ho : o.op = .load T x) (g : Nat) (t : TypeId) (cs : List Value) (hx : a.eval x = .pointer (some ⟨g, 0, none⟩)) (hg : Blk W g t cs) (hu : Tryd.prog.underlying T = some d) (hd : d.isRow = true) (hT : (Tryd.prog.info? T).map (·.size) = some cs.length)
    (k : wpList Tryd.prog ops Q rest (a.put o.dst (.agg cs.toArray)) W) : wpList Tryd.prog ops Q (o :: rest) a W :=
  load_arr T d hgd x ho g 0 t cs cs hx hg (by simp) hu hd hT k
/-- A variable that is an array or a struct is handed back. -/
theorem results_blk {fn : Func} {p : Tmp} {ty : TypeId} (h : fn.results = #[.cell p ty]) (tmps : Array Value) (w : World) (g : Nat) (t : TypeId) (cs : List Value) (d : TypeDesc)
    (hp : tmps.getD p undef = .pointer (some ⟨g, 0, none⟩)) (hg : Blk w g t cs)
    (hu : Tryd.prog.underlying ty = some d) (hd : d.isRow = true) (hi : (Tryd.prog.info? ty).map (·.size) = some cs.length) :
    (results fn tmps).run Tryd.prog w = .ok (.agg cs.toArray) w := by
  have hp' : tmps[p]?.getD undef = .pointer (some ⟨g, 0, none⟩) := by simpa using hp
  have hr : (loadVar ty ⟨g, 0, none⟩).run Tryd.prog w = .ok (.agg cs.toArray) w := run_loadVar_mid w g 0 ty cs d (hg.range 0 cs (by simp)) hu hd hi
  unfold results
  simp [h, hp', hr, asAddr]
end
/-- An array is cut from its k-th element on. -/
theorem slice_arr (T e : TypeId) (n : Nat) (hT : Tryd.prog.underlying T = some (.array (Tryd.prog.arrayLen T) (Tryd.prog.elem T))) (hn : Tryd.prog.arrayLen T = n) (hs : ∀ w, (sizeOf (Tryd.prog.elem T)).run Tryd.prog w = .ok 1 w) (g off k : Nat) (hk : k < n) (kk : IntKind) (W : World) :
    (Instr.sliceAt T (.pointer (some ⟨g, off, none⟩)) (some (.int kk (k : Int))) none none).run Tryd.prog W = .ok (.slice (some ⟨g, off + k, none⟩) (n - k) (n - k)) W := by
  have h := run_sliceAt_array_l W T ⟨g, off, none⟩ hT kk (k : Int) (by omega) (by omega)
  rw [hs] at h
  rw [h, hn, Int.toNat_natCast]
  simp only [Result.andThen_ok, slicedAt]
  rw [if_neg (by omega), Nat.mul_one, show (⟨g, off, none⟩ : Addr).add k = ⟨g, off + k, none⟩ from Go.WideShapes.add_plain _ _ _]
theorem clear_none (t e : TypeId) (ht : Tryd.prog.underlying t = some (.slice e)) (A : Option Addr) (c : Nat) (ty : TypeId) (W : World) : (Builtin.clear_ #[t] ty #[.slice A 0 c]).run Tryd.prog W = .ok (.tuple #[]) W := by
  unfold Builtin.clear_
  cases A <;> simp [Sem.run_bind, run_underlying ht]
end Go.Proofs.YtefnonlhepekdaaDoor.M

set_option linter.unusedVariables false
set_option linter.unusedSimpArgs false
namespace Go.Proofs.YtefnonlhepekdaaDoor.M

/-- The spots at or under (h, i) that the span f, .., t - 1 needs, from the left. -/
def spots (f t : Nat) : Nat → Nat → List (Nat × Nat)
  | 0, i => if t ≤ f ∨ i + 1 ≤ f ∨ t ≤ i then [(0, i)] else []
  | h + 1, i => if t ≤ f ∨ (i + 1) * 2 ^ (h + 1) ≤ f ∨ t ≤ i * 2 ^ (h + 1) then [(h + 1, i)] else
      if f ≤ i * 2 ^ (h + 1) ∧ (i + 1) * 2 ^ (h + 1) ≤ t then [] else spots f t h (2 * i) ++ spots f t h (2 * i + 1)
end Go.Proofs.YtefnonlhepekdaaDoor.M

set_option linter.unusedVariables false
set_option linter.unusedSimpArgs false
namespace Go.Proofs.YtefnonlhepekdaaDoor.M
open Go.RowKit Go.Proofs.YtefnonlhepekdaaDoorW.PrintWords Go.Proofs.YtefnonlhepekdaaDoorW.PrintLast Go.Proofs.YtefnonlhepekdaaDoorW.PrintMore Go.Proofs.YtefnonlhepekdaaDoor.Leaf

theorem w64_nat (n : Nat) (h : n < 18446744073709551616) : IntKind.u64.wrap (n : Int) = n := by rw [IntKind.wrap_u64]; omega
end Go.Proofs.YtefnonlhepekdaaDoor.M

set_option linter.unusedVariables false
set_option linter.unusedSimpArgs false
namespace Go.Proofs.YtefnonlhepekdaaDoor.M
open Go.RowKit Go.Proofs.YtefnonlhepekdaaDoorW.PrintWords Go.Proofs.YtefnonlhepekdaaDoorW.PrintLast Go.Proofs.YtefnonlhepekdaaDoorW.PrintMore Go.Proofs.YtefnonlhepekdaaDoor.Leaf

theorem w64_of (z : Int) (h0 : 0 ≤ z) (h : z < 18446744073709551616) : IntKind.u64.wrap z = z := by rw [IntKind.wrap_u64]; omega
theorem i64_of (z : Int) (h0 : -9223372036854775808 ≤ z) (h : z < 9223372036854775808) : wrap64 z = z := by unfold wrap64; omega
theorem shr_nat (x h : Nat) (hh : h ≤ 64) : shr .u64 (x : Int) (h : Int) = ((x / 2 ^ h : Nat) : Int) := by
  unfold shr
  rw [Int.toNat_natCast, show min h (IntKind.u64.bits) = h by simp [IntKind.bits]; omega]
  push_cast
  rfl

end Go.Proofs.YtefnonlhepekdaaDoor.M

set_option linter.unusedVariables false
set_option linter.unusedSimpArgs false
namespace Go.Proofs.YtefnonlhepekdaaDoor.M
open Go.RowKit Go.Proofs.YtefnonlhepekdaaDoorW.PrintWords Go.Proofs.YtefnonlhepekdaaDoorW.PrintLast Go.Proofs.YtefnonlhepekdaaDoorW.PrintMore Go.Proofs.YtefnonlhepekdaaDoor.Leaf

theorem and31 (n : Nat) (h0 : 0 < n) (hn : n < 32) : Go.bits .and .u64 (IntKind.u64.wrap (-(n : Int))) 31 = ((32 - n : Nat) : Int) := by
  have h1 : IntKind.u64.wrap (-(n : Int)) = ((18446744073709551616 - n : Nat) : Int) := by rw [IntKind.wrap_u64]; omega
  rw [h1, show (31 : Int) = ((31 : Nat) : Int) from rfl, u64_and_nat _ 31 (by omega) (by omega)]
  have h2 : (18446744073709551616 - n) &&& 31 = (18446744073709551616 - n) % 2 ^ 5 := Nat.and_two_pow_sub_one_eq_mod _ 5
  rw [h2]
  omega
theorem rotN_or (x n : Nat) (hx : x < 4294967296) (h0 : 0 < n) (hn : n < 32) : Go.bits .or .u32 (IntKind.u32.wrap ((x : Int) * 2 ^ (32 - n))) ((x : Int) / 2 ^ n) = ((rotN x n : Nat) : Int) := by
  have hp : 2 ^ n * 2 ^ (32 - n) = 4294967296 := by rw [← Nat.pow_add, show n + (32 - n) = 32 by omega]
  have e1 : IntKind.u32.wrap ((x : Int) * 2 ^ (32 - n)) = ((x % 2 ^ n * 2 ^ (32 - n) : Nat) : Int) := by
    rw [show (x : Int) * 2 ^ (32 - n) = ((x * 2 ^ (32 - n) : Nat) : Int) by push_cast; rfl, IntKind.wrap_u32]
    have : x * 2 ^ (32 - n) % 4294967296 = x % 2 ^ n * 2 ^ (32 - n) := by rw [← hp, Nat.mul_mod_mul_right]
    omega
  have e2 : (x : Int) / 2 ^ n = ((x / 2 ^ n : Nat) : Int) := by push_cast; rfl
  have hlt : x / 2 ^ n < 2 ^ (32 - n) := by rw [Nat.div_lt_iff_lt_mul (Nat.pow_pos (by omega)), Nat.mul_comm, hp]; exact hx
  have hle : x % 2 ^ n * 2 ^ (32 - n) < 4294967296 := by
    have := Nat.mod_lt x (Nat.pow_pos (n := n) (show 0 < 2 by omega))
    calc x % 2 ^ n * 2 ^ (32 - n) < 2 ^ n * 2 ^ (32 - n) := Nat.mul_lt_mul_of_pos_right this (Nat.pow_pos (by omega))
      _ = _ := hp
  have hdl : x / 2 ^ n ≤ x := Nat.div_le_self _ _
  rw [e1, e2, u32_or_nat _ _ hle (by omega)]
  congr 1
  rw [Nat.mul_comm, ← Nat.two_pow_add_eq_or_of_lt hlt]
  unfold rotN
  rw [Nat.mul_comm (x % 2 ^ n)]
  omega
set_option maxHeartbeats 1000000 in
theorem rotl_calls (x n : Nat) (hx : x < 4294967296) (h0 : 0 < n) (hn : n < 32) (w : World) : Calls Tryd.prog 141 #[.int .u32 x, .int .i64 (-(n : Int))] w fun e w' => e = .returned (.int .u32 ((rotN x n : Nat) : Int)) ∧ w' = w := by
  have hr := rotN_or x n hx h0 hn
  have h3 := and31 n h0 hn
  obtain ⟨m, hm⟩ : ∃ m : Int, ((32 - n : Nat) : Int) = m := ⟨_, rfl⟩
  rw [hm] at h3
  have c4 : 0 ≤ m := by omega
  have c4b0 := eq_true c4
  have c4b1 : decide (0 ≤ m) = true := decide_eq_true c4
  have hmn : m.toNat = 32 - n := by omega
  obtain ⟨y, hy⟩ : ∃ y : Int, IntKind.u32.wrap ((x : Int) * 2 ^ (32 - n)) = y := ⟨_, rfl⟩
  obtain ⟨z, hz⟩ : ∃ z : Int, (x : Int) / 2 ^ n = z := ⟨_, rfl⟩
  have h5 : IntKind.u32.wrap ((x : Int) * 2 ^ min m.toNat 32) = y := by rw [hmn, Nat.min_eq_left (by omega)]; exact hy
  have h5z : m ≤ 32 → IntKind.u32.wrap ((x : Int) * 2 ^ m.toNat) = y := fun _ => by rw [hmn]; exact hy
  obtain ⟨q, hq⟩ : ∃ q : Int, (n : Int) = q := ⟨_, rfl⟩
  have h6 : IntKind.u64.wrap (32 - m) = q := by rw [IntKind.wrap_u64]; omega
  have c7 : 0 ≤ q := by omega
  have c7b0 := eq_true c7
  have c7b1 : decide (0 ≤ q) = true := decide_eq_true c7
  have hqn : q.toNat = n := by omega
  have h8 : (x : Int) / 2 ^ min q.toNat 32 = z := by rw [hqn, Nat.min_eq_left (by omega)]; exact hz
  have h8z : q ≤ 32 → (x : Int) / 2 ^ q.toNat = z := fun _ => by rw [hqn]; exact hz
  rw [hy, hz] at hr
  have HR := Aside0.mk hr
  clear hr hy hz hm hq hmn hqn c4 c7
  go_enter Tryd.func141, Tryd.ntmps141
  go_wp2
  go_ret
  exact ⟨by first | (rw [← HR.out]; rfl) | (have h9 := HR.out; simp [h9]; done), rfl⟩
set_option maxHeartbeats 1000000 in
theorem rotr_calls (x n : Nat) (hx : x < 4294967296) (h0 : 0 < n) (hn : n < 32) (w : World) : Calls Tryd.prog 130 #[.int .u32 x, .int .i64 n] w fun e w' => e = .returned (.int .u32 ((rotN x n : Nat) : Int)) ∧ w' = w := by
  have hl := fun W => rotl_calls x n hx h0 hn W
  have HL := Aside0.mk hl
  clear hl
  go_enter Tryd.func130, Tryd.ntmps130
  go_wp2_with fail
  refine (HL.out _).mono ?_
  rintro e w' ⟨rfl, rfl⟩
  go_wp2_with fail
  go_ret
  exact ⟨rfl, rfl⟩

/-! hash.word. -/
def beN (l : List Int) : Nat := l.foldl (fun x b => x * 256 + b.toNat) 0
theorem beN_snoc (l : List Int) (b : Int) : beN (l ++ [b]) = beN l * 256 + b.toNat := by simp [beN, List.foldl_append]
theorem beN_lt (l : List Int) (h : Bytes l) : beN l < 256 ^ l.length := by
  have key : ∀ (r : List Int) (x m : Nat), Bytes r → x < 256 ^ m → r.foldl (fun x b => x * 256 + b.toNat) x < 256 ^ (m + r.length) := by
    intro r
    induction r with
    | nil => intro x m _ hx; simpa using hx
    | cons b r ih =>
      intro x m hb hx
      have hbb := hb b List.mem_cons_self
      have := ih (x * 256 + b.toNat) (m + 1) (fun y hy => hb y (List.mem_cons_of_mem _ hy)) (by rw [Nat.pow_succ]; omega)
      rw [List.foldl_cons, List.length_cons, show m + (r.length + 1) = m + 1 + r.length by omega]
      exact this
  have := key l 0 0 h (by simp)
  rwa [Nat.zero_add] at this
theorem fromBig_loop (l : List Int) (hb : Bytes l) (hl : l.length ≤ 8) : ∀ (d i : Nat), i + d = l.length → Ev (fun k => num_FromBig.l0 k (beN (l.take i) : Nat) l (l.length : Int) (i : Int)) (((beN l : Nat) : Int), 0)
  | 0, i, hi => by
    rw [List.take_of_length_le (by omega)]
    exact Ev.step (f := fun _ => some (((beN l : Nat) : Int), 0)) (fun k => by simp only [num_FromBig.l0]; rw [if_neg (by omega)]) (Ev.now _)
  | d + 1, i, hi => by
    have hil : i < l.length := by omega
    have ih := fromBig_loop l hb hl d (i + 1) (by omega)
    have hbi := hb _ (List.getElem_mem hil)
    have hlt := beN_lt (l.take i) (fun y hy => hb y (List.mem_of_mem_take hy))
    rw [List.length_take, Nat.min_eq_left (by omega)] at hlt
    have hp : 256 ^ i ≤ 256 ^ 7 := Nat.pow_le_pow_right (by omega) (by omega)
    have h7 : (256 : Nat) ^ 7 = 72057594037927936 := by decide
    have hs : beN (l.take (i + 1)) = beN (l.take i) * 256 + (l[i]).toNat := by rw [List.take_add_one, List.getElem?_eq_getElem hil]; exact beN_snoc _ _
    have r1 : rd l (i : Int) = l[i] := by simp [rd, List.getD_eq_getElem?_getD, List.getElem?_eq_getElem hil]
    have e1 : wrap64 ((i : Int) + 1) = ((i + 1 : Nat) : Int) := by rw [i64_of _ (by omega) (by omega)]; omega
    obtain ⟨b, hbb⟩ : ∃ b : Nat, l[i] = (b : Int) := ⟨(l[i]).toNat, by omega⟩
    have e2 : Go.bits .or .u64 (IntKind.u64.wrap ((beN (l.take i) : Nat) * 256 : Int)) (IntKind.u64.wrap (b : Int)) = ((beN (l.take (i + 1)) : Nat) : Int) := by
      rw [show ((beN (l.take i) : Nat) * 256 : Int) = ((beN (l.take i) * 256 : Nat) : Int) by omega, w64_nat _ (by omega), w64_nat _ (by omega), u64_or_nat _ _ (by omega) (by omega), hs, hbb, Int.toNat_natCast]
      congr 1
      have h9 := Nat.two_pow_add_eq_or_of_lt (i := 8) (show b < 2 ^ 8 by omega) (beN (l.take i))
      rw [Nat.mul_comm, show (256 : Nat) = 2 ^ 8 by decide, ← h9]
    refine Ev.step (fun k => ?_) ih
    simp only [num_FromBig.l0]
    rw [if_pos (by omega), if_pos (by omega), if_pos (by omega), r1, hbb, e1, e2]
theorem fromBig_val (l : List Int) (hb : Bytes l) (hl : l.length ≤ 8) : Ev (fun k => num_FromBig.f k l) (((beN l : Nat) : Int), 0) := by
  have h := fromBig_loop l hb hl l.length 0 (by omega)
  unfold num_FromBig.f
  exact Ev.congr (fun k => if_neg (by omega)) h
theorem word_val (l : List Int) (hb : Bytes l) (i : Nat) (h : 4 * i + 4 ≤ l.length) (hl : l.length ≤ 1000000000) : Ev (fun k => hash_word.f k l (i : Int)) ((wordB l i : Nat) : Int) := by
  have e1 : wrap64 (4 * (i : Int)) = ((4 * i : Nat) : Int) := by rw [i64_of _ (by omega) (by omega)]; omega
  have e2 : wrap64 (((4 * i : Nat) : Int) + 4) = ((4 * i + 4 : Nat) : Int) := by rw [i64_of _ (by omega) (by omega)]; omega
  obtain ⟨ch, hch⟩ : ∃ ch, ch = List.drop (4 * i) (List.take (4 * i + 4) l) := ⟨_, rfl⟩
  have hcl : ch.length = 4 := by rw [hch, List.length_drop, List.length_take]; omega
  have hcb : Bytes ch := fun y hy => hb y (List.mem_of_mem_take (List.mem_of_mem_drop (hch ▸ hy)))
  have hv := fromBig_val ch hcb (by omega)
  have hw : beN ch = wordB l i := by
    have hg : ∀ j, j < 4 → ch[j]? = some (l.getD (4 * i + j) 0) := fun j hj => by
      rw [hch, List.getElem?_drop, List.getElem?_take_of_lt (by omega), List.getD_eq_getElem?_getD, List.getElem?_eq_getElem (by omega)]
      rfl
    obtain ⟨a, b, c, d, e⟩ : ∃ a b c d, ch = [a, b, c, d] := by
      match ch, hcl with
      | [a, b, c, d], _ => exact ⟨a, b, c, d, rfl⟩
    have h0 := hg 0 (by omega)
    have h1 := hg 1 (by omega)
    have h2 := hg 2 (by omega)
    have h3 := hg 3 (by omega)
    rw [e] at h0 h1 h2 h3
    simp at h0 h1 h2 h3
    rw [e]
    unfold wordB
    simp only [List.getD_eq_getElem?_getD, ← h0, ← h1, ← h2, ← h3]
    simp [beN]
  have hlt := beN_lt ch hcb
  rw [hcl] at hlt
  have h4 : (256 : Nat) ^ 4 = 4294967296 := by decide
  unfold hash_word.f
  simp only [e1, e2]
  refine Ev.congr (fun k => by rw [if_pos (by omega), if_pos (by omega), if_pos (by omega), Int.toNat_natCast, Int.toNat_natCast, ← hch]) ?_
  refine Ev.bind hv ?_
  rw [← hw]
  refine Ev.congr (fun k => by rw [show ((beN ch : Nat) : Int) % 4294967296 = ((beN ch : Nat) : Int) by omega]) (Ev.now _)
theorem word_calls (l : List Int) (A : Option Addr) (n c : Nat) (i : Nat) (w : World) (hb : Bytes l) (h : 4 * i + 4 ≤ n) (hl : n ≤ 1000000000) (hc : n ≤ c) (hC : Kd.C (Kd.int .u8) w A n l) :
    Calls Tryd.prog 129 #[.slice A n c, .int .i64 i] w fun e w' => e = .returned (.int .u32 ((wordB l i : Nat) : Int)) ∧ Drawn0 w w' := by
  have hn := Kd.C_len hC
  subst hn
  obtain ⟨k, hk⟩ := (word_val l hb i h hl).rounds
  exact hash_word.calls k A c l _ _ w hC hc hk
theorem wordB_lt (l : List Int) (hb : Bytes l) (i : Nat) : wordB l i < 4294967296 := by
  have hg : ∀ j, (l.getD j 0).toNat < 256 := fun j => by
    rw [List.getD_eq_getElem?_getD]
    by_cases hj : j < l.length
    · rw [List.getElem?_eq_getElem hj]
      have := hb _ (List.getElem_mem hj)
      show (l[j]).toNat < 256
      omega
    · rw [List.getElem?_eq_none (by omega)]
      show (0 : Int).toNat < 256
      omega
  have h0 := hg (4 * i)
  have h1 := hg (4 * i + 1)
  have h2 := hg (4 * i + 2)
  have h3 := hg (4 * i + 3)
  unfold wordB
  omega
theorem cellsL_take (l : List Int) (k : Nat) (n : Nat) : (l.map (Value.int .u8)).take k ++ List.replicate n (Value.int .u8 0) = (l.take k ++ List.replicate n 0).map (Value.int .u8) := by
  rw [List.map_append, List.map_take, List.map_replicate]
set_option maxHeartbeats 4000000 in
set_option maxRecDepth 100000 in
theorem cut_calls (wd : Int) (h : Hsh) (w : World) : Calls Tryd.prog 119 #[.int .i64 wd, .agg h.cells.toArray] w fun e w' => e = .returned (.agg (cutH wd h).cells.toArray) ∧ Below w.heap.size w w' := by
  have hk1 := widN_pos wd
  have hk2 := widN_le wd
  have hk : min (max wd 1) 32 = ((widN wd : Nat) : Int) := by unfold widN; omega
  have hcut : (cutH wd h).cells = h.cells.take (widN wd) ++ List.replicate (32 - widN wd) (Value.int .u8 0) := (cellsL_take h.b (widN wd) (32 - widN wd)).symm
  have hone := (cutH wd h).one
  have hlen := (cutH wd h).cells_len
  generalize (cutH wd h).cells = cs at *
  generalize widN wd = k at *
  have hl := h.cells_len
  generalize h.cells = l at *
  have W0 := blk_newL w l 63 rfl
  have hres := fun (tmps : Array Value) (W : World) (g : Nat) (hp : tmps.getD 4 undef = .pointer (some ⟨g, 0, none⟩)) (hg : Blk W g 63 cs) => results_blk (fn := Tryd.f119) (p := 4) (ty := 63) rfl tmps W g 63 cs _ hp hg Tryd.underlying63 rfl (by rw [hlen]; exact sizeH)
  by_cases c32 : k = 32
  · subst c32
    have hcs : cs = l := by rw [hcut, List.take_of_length_le (by omega)]; simp
    subst hcs
    have hcl := fun W => clear_none 22 5 Tryd.underlying22 (some ⟨w.heap.size, 0, none⟩) 0 0 W
    have HB0 := Aside0.mk (Blk.below W0 (bl_new _ (.cells [Value.int .u8 0, Value.int .u8 0, Value.int .u8 0, Value.int .u8 0, Value.int .u8 0, Value.int .u8 0, Value.int .u8 0, Value.int .u8 0, Value.int .u8 0, Value.int .u8 0, Value.int .u8 0, Value.int .u8 0, Value.int .u8 0, Value.int .u8 0, Value.int .u8 0, Value.int .u8 0, Value.int .u8 0, Value.int .u8 0, Value.int .u8 0, Value.int .u8 0, Value.int .u8 0, Value.int .u8 0, Value.int .u8 0, Value.int .u8 0, Value.int .u8 0, Value.int .u8 0, Value.int .u8 0, Value.int .u8 0, Value.int .u8 0, Value.int .u8 0, Value.int .u8 0, Value.int .u8 0].toArray 63)))
    have HB1 := Aside0.mk (blk_newL (w.alloc (.cells cs.toArray 63)) [Value.int .u8 0, Value.int .u8 0, Value.int .u8 0, Value.int .u8 0, Value.int .u8 0, Value.int .u8 0, Value.int .u8 0, Value.int .u8 0, Value.int .u8 0, Value.int .u8 0, Value.int .u8 0, Value.int .u8 0, Value.int .u8 0, Value.int .u8 0, Value.int .u8 0, Value.int .u8 0, Value.int .u8 0, Value.int .u8 0, Value.int .u8 0, Value.int .u8 0, Value.int .u8 0, Value.int .u8 0, Value.int .u8 0, Value.int .u8 0, Value.int .u8 0, Value.int .u8 0, Value.int .u8 0, Value.int .u8 0, Value.int .u8 0, Value.int .u8 0, Value.int .u8 0, Value.int .u8 0] 63 (g := w.heap.size + 1) (by simp))
    clear hcut
    go_enter Tryd.func119, Tryd.ntmps119
    go_wp2_with (first | ((with_reducible refine gate_dst (N := 9) rfl ?_); go_loud (refine load_var 63 _ rfl (.tmp 3) rfl w.heap.size 63 cs rfl HB0.out Tryd.underlying63 rfl (by rw [hlen]; exact sizeH) ?_)) | ((with_reducible refine gate_store (t := 63) (p := 4) (v := .tmp 9) rfl ?_); go_loud (refine store_var 63 cs rfl rfl (.tmp 4) (.tmp 9) rfl (by rw [hlen]; exact sizeH) hone (w.heap.size + 1) 63 [Value.int .u8 0, Value.int .u8 0, Value.int .u8 0, Value.int .u8 0, Value.int .u8 0, Value.int .u8 0, Value.int .u8 0, Value.int .u8 0, Value.int .u8 0, Value.int .u8 0, Value.int .u8 0, Value.int .u8 0, Value.int .u8 0, Value.int .u8 0, Value.int .u8 0, Value.int .u8 0, Value.int .u8 0, Value.int .u8 0, Value.int .u8 0, Value.int .u8 0, Value.int .u8 0, Value.int .u8 0, Value.int .u8 0, Value.int .u8 0, Value.int .u8 0, Value.int .u8 0, Value.int .u8 0, Value.int .u8 0, Value.int .u8 0, Value.int .u8 0, Value.int .u8 0, Value.int .u8 0] HB1.out (by rw [hlen]; rfl) rfl rfl ?_; intro w4 hz4 hf4; have HZ4 := Aside0.mk hz4; have HF4 := Aside0.mk hf4; clear hz4 hf4)))
    (try simp only [Exit.inBlock, Exit.then])
    refine bodyPost_ret (hres _ _ (w.heap.size + 1) rfl HZ4.out) rfl ?_
    exact ⟨rfl, (below_alloc (bl_new w _) _).trans (HF4.out.below (by first | (simp; done) | (simp; omega)) (fun k hk => by omega))⟩
  · have hk3 : k < 32 := by omega
    have hsl := slice_arr 63 5 32 (by kernel_rfl) (by kernel_rfl) (fun w => by kernel_rfl) w.heap.size 0 k hk3 .i64
    rw [Nat.zero_add] at hsl
    have hb0 := Blk.below W0 (bl_new _ (.cells [Value.int .u8 0, Value.int .u8 0, Value.int .u8 0, Value.int .u8 0, Value.int .u8 0, Value.int .u8 0, Value.int .u8 0, Value.int .u8 0, Value.int .u8 0, Value.int .u8 0, Value.int .u8 0, Value.int .u8 0, Value.int .u8 0, Value.int .u8 0, Value.int .u8 0, Value.int .u8 0, Value.int .u8 0, Value.int .u8 0, Value.int .u8 0, Value.int .u8 0, Value.int .u8 0, Value.int .u8 0, Value.int .u8 0, Value.int .u8 0, Value.int .u8 0, Value.int .u8 0, Value.int .u8 0, Value.int .u8 0, Value.int .u8 0, Value.int .u8 0, Value.int .u8 0, Value.int .u8 0].toArray 63))
    have hb1 := blk_newL (w.alloc (.cells l.toArray 63)) [Value.int .u8 0, Value.int .u8 0, Value.int .u8 0, Value.int .u8 0, Value.int .u8 0, Value.int .u8 0, Value.int .u8 0, Value.int .u8 0, Value.int .u8 0, Value.int .u8 0, Value.int .u8 0, Value.int .u8 0, Value.int .u8 0, Value.int .u8 0, Value.int .u8 0, Value.int .u8 0, Value.int .u8 0, Value.int .u8 0, Value.int .u8 0, Value.int .u8 0, Value.int .u8 0, Value.int .u8 0, Value.int .u8 0, Value.int .u8 0, Value.int .u8 0, Value.int .u8 0, Value.int .u8 0, Value.int .u8 0, Value.int .u8 0, Value.int .u8 0, Value.int .u8 0, Value.int .u8 0] 63 (g := w.heap.size + 1) (by simp)
    have hcl := fun (ty : TypeId) => Lib.run_clear_slice (P := Tryd.prog) ((w.alloc (.cells l.toArray 63)).alloc (.cells [Value.int .u8 0, Value.int .u8 0, Value.int .u8 0, Value.int .u8 0, Value.int .u8 0, Value.int .u8 0, Value.int .u8 0, Value.int .u8 0, Value.int .u8 0, Value.int .u8 0, Value.int .u8 0, Value.int .u8 0, Value.int .u8 0, Value.int .u8 0, Value.int .u8 0, Value.int .u8 0, Value.int .u8 0, Value.int .u8 0, Value.int .u8 0, Value.int .u8 0, Value.int .u8 0, Value.int .u8 0, Value.int .u8 0, Value.int .u8 0, Value.int .u8 0, Value.int .u8 0, Value.int .u8 0, Value.int .u8 0, Value.int .u8 0, Value.int .u8 0, Value.int .u8 0, Value.int .u8 0].toArray 63)) 22 5 ty (.int .u8 0) Tryd.underlying22 (fun w => by kernel_rfl) rfl rfl w.heap.size k (32 - k) (32 - k) (by omega) (fun j hj => by rw [hb0.cell]; simp; omega) (fun j _ => hb0.frozen _)
    have hs0 := hb0.setCells k (List.replicate (32 - k) (Value.int .u8 0)) (by simp; omega)
    rw [List.length_replicate, List.drop_of_length_le (by omega), List.append_nil, ← hcut] at hs0
    have hf0 := frm_setCells ((w.alloc (.cells l.toArray 63)).alloc (.cells [Value.int .u8 0, Value.int .u8 0, Value.int .u8 0, Value.int .u8 0, Value.int .u8 0, Value.int .u8 0, Value.int .u8 0, Value.int .u8 0, Value.int .u8 0, Value.int .u8 0, Value.int .u8 0, Value.int .u8 0, Value.int .u8 0, Value.int .u8 0, Value.int .u8 0, Value.int .u8 0, Value.int .u8 0, Value.int .u8 0, Value.int .u8 0, Value.int .u8 0, Value.int .u8 0, Value.int .u8 0, Value.int .u8 0, Value.int .u8 0, Value.int .u8 0, Value.int .u8 0, Value.int .u8 0, Value.int .u8 0, Value.int .u8 0, Value.int .u8 0, Value.int .u8 0, Value.int .u8 0].toArray 63)) w.heap.size k (List.replicate (32 - k) (Value.int .u8 0))
    have hs1 := hb1.frm hf0 (by omega)
    generalize ((w.alloc (.cells l.toArray 63)).alloc (.cells [Value.int .u8 0, Value.int .u8 0, Value.int .u8 0, Value.int .u8 0, Value.int .u8 0, Value.int .u8 0, Value.int .u8 0, Value.int .u8 0, Value.int .u8 0, Value.int .u8 0, Value.int .u8 0, Value.int .u8 0, Value.int .u8 0, Value.int .u8 0, Value.int .u8 0, Value.int .u8 0, Value.int .u8 0, Value.int .u8 0, Value.int .u8 0, Value.int .u8 0, Value.int .u8 0, Value.int .u8 0, Value.int .u8 0, Value.int .u8 0, Value.int .u8 0, Value.int .u8 0, Value.int .u8 0, Value.int .u8 0, Value.int .u8 0, Value.int .u8 0, Value.int .u8 0, Value.int .u8 0].toArray 63)).setCells w.heap.size k (List.replicate (32 - k) (Value.int .u8 0)) = W3 at *
    have HB0 := Aside0.mk hs0
    have HB1 := Aside0.mk hs1
    have HF0 := Aside0.mk hf0
    clear hcut hb0 hb1 hs0 hs1 hf0 W0
    go_enter Tryd.func119, Tryd.ntmps119
    go_wp2_with (first | ((with_reducible refine gate_dst (N := 9) rfl ?_); go_loud (refine load_var 63 _ rfl (.tmp 3) rfl w.heap.size 63 cs rfl HB0.out Tryd.underlying63 rfl (by rw [hlen]; exact sizeH) ?_)) | ((with_reducible refine gate_store (t := 63) (p := 4) (v := .tmp 9) rfl ?_); go_loud (refine store_var 63 cs rfl rfl (.tmp 4) (.tmp 9) rfl (by rw [hlen]; exact sizeH) hone (w.heap.size + 1) 63 [Value.int .u8 0, Value.int .u8 0, Value.int .u8 0, Value.int .u8 0, Value.int .u8 0, Value.int .u8 0, Value.int .u8 0, Value.int .u8 0, Value.int .u8 0, Value.int .u8 0, Value.int .u8 0, Value.int .u8 0, Value.int .u8 0, Value.int .u8 0, Value.int .u8 0, Value.int .u8 0, Value.int .u8 0, Value.int .u8 0, Value.int .u8 0, Value.int .u8 0, Value.int .u8 0, Value.int .u8 0, Value.int .u8 0, Value.int .u8 0, Value.int .u8 0, Value.int .u8 0, Value.int .u8 0, Value.int .u8 0, Value.int .u8 0, Value.int .u8 0, Value.int .u8 0, Value.int .u8 0] HB1.out (by rw [hlen]; rfl) rfl rfl ?_; intro w4 hz4 hf4; have HZ4 := Aside0.mk hz4; have HF4 := Aside0.mk hf4; clear hz4 hf4)))
    (try simp only [Exit.inBlock, Exit.then])
    refine bodyPost_ret (hres _ _ (w.heap.size + 1) rfl HZ4.out) rfl ?_
    exact ⟨rfl, ((below_alloc (bl_new w _) _).trans (HF0.out.below (by first | (simp; done) | (simp; omega)) (fun k hk => by omega))).trans (HF4.out.below (by have := HF0.out.size; simp at this; omega) (fun k hk => by omega))⟩
end Go.Proofs.YtefnonlhepekdaaDoor.M

set_option linter.unusedVariables false
set_option linter.unusedSimpArgs false
namespace Go.Proofs.YtefnonlhepekdaaDoor.M
open Go.RowKit Go.Proofs.YtefnonlhepekdaaDoorW.PrintWords Go.Proofs.YtefnonlhepekdaaDoorW.PrintLast Go.Proofs.YtefnonlhepekdaaDoorW.PrintMore Go.Proofs.YtefnonlhepekdaaDoor.Leaf

/-- A number in n bytes, the highest first. -/
def bigB (x n : Nat) : List Int := (List.range n).map fun i => ((x / 256 ^ (n - 1 - i) % 256 : Nat) : Int)
theorem bigB_len (x n : Nat) : (bigB x n).length = n := by simp [bigB]
theorem bigB_4 (x : Nat) : bigB x 4 = bytesW x := by
  have e : List.range 4 = [0, 1, 2, 3] := rfl
  unfold bigB bytesW
  rw [e]
  simp
theorem bigB_8 (x : Nat) : bigB x 8 = big8 x := rfl
theorem mask64_val (m : Nat) (h0 : 0 < m) (hm : m ≤ 64) : num_Mask.f (m : Int) = some ((2 ^ m - 1 : Nat) : Int) := by
  have hp : 0 < 2 ^ m := Nat.pow_pos (by omega)
  have hle : 2 ^ m ≤ 18446744073709551616 := Nat.pow_le_pow_right (n := 2) (by omega) hm
  unfold num_Mask.f
  rw [if_neg (by omega), w64_nat m (by omega), if_pos (by omega)]
  congr 1
  have h1 : shl .u64 1 (m : Int) = ((2 ^ m % 18446744073709551616 : Nat) : Int) := by
    unfold shl
    rw [Int.toNat_natCast, show min m (IntKind.u64.bits) = m by simp [IntKind.bits]; omega, Int.one_mul, show ((2 : Int) ^ m) = ((2 ^ m : Nat) : Int) by push_cast; rfl, IntKind.wrap_u64]
    omega
  rw [h1, IntKind.wrap_u64]
  by_cases c : 2 ^ m = 18446744073709551616
  · rw [c]
    rfl
  · omega
theorem field_val (x i : Nat) (hx : x < 18446744073709551616) (hi : i < 8) : num_Field.f (x : Int) (8 * (i : Int)) 8 = some ((x / 256 ^ i % 256 : Nat) : Int) := by
  unfold num_Field.f num_Shr.f
  rw [if_neg (by omega), show (8 * (i : Int)) = ((8 * i : Nat) : Int) by omega, w64_nat _ (by omega), if_pos (by omega), shr_nat _ _ (by omega), show (8 : Int) = ((8 : Nat) : Int) from rfl]
  have hm := mask64_val 8 (by omega) (by omega)
  simp only [Option.bind_some]
  rw [show ((8 : Nat) : Int) = 8 from rfl] at hm ⊢
  rw [hm]
  simp only [Option.bind_some]
  have hd : x / 2 ^ (8 * i) ≤ x := Nat.div_le_self _ _
  rw [u64_and_nat _ _ (by omega) (by omega), Nat.and_two_pow_sub_one_eq_mod, Nat.pow_mul]
theorem high_none (x k : Nat) (hk : k ≤ 64) (hx : x < 2 ^ k) : Go.bits .andNot .u64 (x : Int) ((2 ^ k - 1 : Nat) : Int) = 0 := by
  have hp : 0 < 2 ^ k := Nat.pow_pos (by omega)
  have hle : 2 ^ k ≤ 18446744073709551616 := Nat.pow_le_pow_right (n := 2) (by omega) hk
  rw [u64_andNot_nat _ _ (by omega) (by omega)]
  have h1 : x &&& (18446744073709551615 - (2 ^ k - 1)) = 0 := by
    have hm := Nat.and_mod_two_pow (a := x) (b := 18446744073709551615 - (2 ^ k - 1)) (n := k)
    have hz : (18446744073709551615 - (2 ^ k - 1)) % 2 ^ k = 0 := by
      have h64 : 18446744073709551616 = 2 ^ k * 2 ^ (64 - k) := by rw [← Nat.pow_add, show k + (64 - k) = 64 by omega]
      rw [show 18446744073709551615 - (2 ^ k - 1) = 18446744073709551616 - 2 ^ k by omega, h64, show 2 ^ k * 2 ^ (64 - k) - 2 ^ k = 2 ^ k * (2 ^ (64 - k) - 1) by rw [Nat.mul_sub, Nat.mul_one], Nat.mul_mod_right]
    rw [hz, Nat.and_zero] at hm
    have hlt : x &&& (18446744073709551615 - (2 ^ k - 1)) < 2 ^ k := Nat.lt_of_le_of_lt Nat.and_le_left hx
    rwa [Nat.mod_eq_of_lt hlt] at hm
  rw [h1]
  rfl
/-- The lowest i bytes are laid. -/
def bigP (x n i : Nat) : List Int := (List.range n).map fun p => if n ≤ p + i then ((x / 256 ^ (n - 1 - p) % 256 : Nat) : Int) else 0
theorem bigP_zero (x n : Nat) : bigP x n 0 = List.replicate n 0 := by
  refine List.ext_getElem (by simp [bigP]) (fun p h1 h2 => ?_)
  simp [bigP] at h1 ⊢
  omega
theorem bigP_all (x n : Nat) : bigP x n n = bigB x n := by
  unfold bigP bigB
  refine List.map_congr_left (fun p _ => ?_)
  rw [if_pos (by omega)]
theorem bigP_set (x n i : Nat) (hi : i < n) : (bigP x n i).set (n - 1 - i) ((x / 256 ^ i % 256 : Nat) : Int) = bigP x n (i + 1) := by
  refine List.ext_getElem (by simp [bigP]) (fun p h1 h2 => ?_)
  simp only [bigP, List.length_set, List.length_map, List.length_range] at h1
  rw [List.getElem_set]
  simp only [bigP, List.getElem_map, List.getElem_range]
  by_cases c : n - 1 - i = p
  · rw [if_pos c, if_pos (by omega), show n - 1 - p = i by omega]
  · rw [if_neg c]
    by_cases c2 : n ≤ p + i
    · rw [if_pos c2, if_pos (by omega)]
    · rw [if_neg c2, if_neg (by omega)]
set_option maxHeartbeats 4000000 in
set_option maxRecDepth 100000 in
theorem big_calls (x n : Nat) (h0 : 0 < n) (hn : n ≤ 8) (hx : x < 256 ^ n) (w : World) :
    Calls Tryd.prog 128 #[.int .u64 x, .int .i64 n] w fun e w' => ∃ v, e = .returned (.tuple #[v, .int .i64 0]) ∧ Kd.R (Kd.int .u8) 5 w' w.heap.size (fun _ => True) v (bigB x n) ∧ Below w.heap.size w w' := by
  have hx64 : x < 18446744073709551616 := Nat.lt_of_lt_of_le hx (Nat.le_trans (Nat.pow_le_pow_right (by omega) hn) (by decide))
  have hm := mask64_val (8 * n) (by omega) (by omega)
  rw [show ((8 * n : Nat) : Int) = 8 * (n : Int) by omega] at hm
  have hcm := fun W => num_Mask.calls _ _ W hm
  have HM := Aside0.mk hcm
  have hf := fun (i : Nat) (hi : i < 8) W => num_Field.calls _ _ _ _ W (field_val x i hx64 hi)
  have HF := Aside0.mk hf
  have hnot := high_none x (8 * n) (by omega) (by rw [Nat.pow_mul]; exact hx)
  generalize 2 ^ (8 * n) - 1 = mk at *
  clear hm hcm hf
  go_enter Tryd.func128, Tryd.ntmps128
  go_wp2_with fail
  refine (HM.out _).mono ?_
  rintro e w1 ⟨rfl, nd, rfl⟩
  go_wp2_with ((with_reducible refine gate_dst (N := 23) rfl ?_); go_loud (refine Kd.R_make (Kd.int .u8) (w0 := w) w.heap.size 5 rfl rfl 22 (.tmp 22) (.tmp 22) rfl (n : Int) rfl rfl Tryd.underlying22 (.int .u8 0) 1 info5 rfl (by decide) (by omega) (0 : Int) (ok := fun _ => True) (okp := fun _ => False) rfl (fun _ _ => trivial) trivial (by omega) (by omega) (pw_below_drewN (Below.refl _ _) _) (Nat.le_refl _) ?_; intro v2 w2 hr2 hb2 hg2 ho2; obtain ⟨A2, m2, c2, e2⟩ : ∃ A m c, v2 = .slice A m c := (by obtain ⟨A, c, h⟩ := Kd.R_slice hr2; exact ⟨A, _, c, h⟩); subst e2; rw [Int.toNat_natCast] at hr2; obtain rfl : n = m2 := (by have := (Kd.R_reads' hr2).1; rw [List.length_replicate] at this; exact this.symm); have HR2 := Aside0.mk hr2; have HB2 := Aside0.mk hb2; clear hr2 hb2 hg2 ho2))
  go_loopw [26] (fun q wr => ∃ i : Nat, i ≤ n ∧ q = .int .i64 i ∧ Aside0 (Kd.R (Kd.int .u8) 5 wr w.heap.size (fun _ => True) (.slice A2 n c2) (bigP x n i)) ∧ Aside0 (Below w.heap.size w wr)) (fun q _ => n - (intOf q).toNat)
  case atStart => exact ⟨0, Nat.zero_le _, rfl, ⟨by rw [bigP_zero]; exact HR2.out⟩, HB2⟩
  case round =>
    obtain ⟨i, hi, rfl, HX, HW⟩ := hrel
    clear HR2 HB2
    by_cases hlt : i < n
    · obtain ⟨g, cap, ea, _, _, _⟩ := Kd.R_form HX.out (by simp [bigP]; omega)
      injection ea with ea1 ea2 ea3
      subst ea1 ea3
      obtain ⟨⟨z, k1⟩, k2, k3⟩ := row_round HX.out (n - 1 - i) (by omega)
      have HPut := Aside0.mk (show Kd.R (Kd.int .u8) 5 (wr.setCell ⟨g, n - 1 - i, none⟩ (.int .u8 ((x / 256 ^ i % 256 : Nat) : Int))) w.heap.size (fun _ => True) (.slice (some ⟨g, 0, none⟩) n c2) (bigP x n (i + 1)) from bigP_set x n i hlt ▸ k3 _)
      have hgb := Aside0.mk (Kd.R_base HX.out g (by simp [Value.ownBlock]))
      have hcl := HF.out i (by omega) wr
      have hv : x / 256 ^ i % 256 < 256 := Nat.mod_lt _ (by omega)
      have hp : (n : Int) - 1 - (i : Int) = ((n - 1 - i : Nat) : Int) := by omega
      have hpn : n - 1 - i < n := by omega
      generalize x / 256 ^ i % 256 = y at *
      generalize n - 1 - i = p at *
      have HCl := Aside0.mk hcl
      clear ea2 k3 hcl
      go_wp2_with fail
      refine (HCl.out).mono ?_
      rintro e w3 ⟨rfl, nd, rfl⟩
      go_wp2_with fail
      go_roundw
      case rel => exact ⟨i + 1, by omega, by go_num, ⟨Kd.R_drewN HPut.out nd⟩, ⟨(pw_below_drewN HW.out nd).setCell hgb.out _⟩⟩
      case measure => simp [intOf]; omega
    · have hin : i = n := by omega
      subst hin
      go_wp2_with fail
      go_ret2
      exact ⟨_, rfl, by have := HX.out; rwa [bigP_all] at this, HW.out⟩
end Go.Proofs.YtefnonlhepekdaaDoor.M
