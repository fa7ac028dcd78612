/- Two hashes, compared. append's laws once more, the new row's length under a name of its own. Hashes, further words: as bytes, read, compared, written; rows that are marked; what two rows of unlike types share. (For seats in which the texts of spans are not.). The lowest set bit by Go's table; cut.Span. Go's table for the lowest set bit is where the condition says; a world of the door's meets it. A parameter that is a slice of integers: what it reads as, and that it reads the same where the call has at most laid new blocks. Arrays and structs in memory, of any length: a part of a block is loaded, is written; one is handed back; what 'clear' leaves. What massifref3.Peaks, Spot, Sibling, Peak, Path and massifref7.Places come to. slices.Delete of one number of a row of the call's own. proof.Places. num.Short and massifref1.Short make the same bytes. slices.Grow of nil, slices.Concat of byte rows. -/
import Derived.Test.YtefnonlhepekdaaDoorPD0
import Derived.ChangeKeysEq
import Derived.Laws.StructEq
import Derived.Great.BuildSlice
import Derived.Deep.MidRow
import Derived.BigQuiet
import Derived.StillTailTactics
import Derived.Test.YtefnonlhepekdaaDoorTie
import Derived.Test.YtefnonlhepekdaaDoorCards
import Derived.LaidMore
import Derived.Stop.Joined
import Derived.SevenTiedAt
import Derived.ChangeSlices
import Derived.Lib.SliceRun
import Derived.Shelf.RegionOpenPlain
import Derived.Deep.RegionLaw
set_option linter.unusedVariables false
set_option linter.unusedSimpArgs false
set_option linter.unusedVariables false
set_option linter.unusedSimpArgs false
namespace Go.Proofs.YtefnonlhepekdaaDoor.M
open Go.RowKit Go.Proofs.YtefnonlhepekdaaDoorW.PrintWords Go.Proofs.YtefnonlhepekdaaDoorW.PrintLast Go.Proofs.YtefnonlhepekdaaDoorW.PrintMore

theorem items_eq (d : Nat) (h g : Hsh) (w : World) : ∀ (is : List Nat), (∀ i ∈ is, i < 32) → (Op.eqItems (d + 1) 5 1 h.cells.toArray g.cells.toArray is).run Tryd.prog w = .ok (is.all fun i => h.b.getD i 0 == g.b.getD i 0) w
  | [], _ => by simp [Op.eqItems]
  | i :: is, hi => by
    have ih := items_eq d h g w is (fun j hj => hi j (List.mem_cons_of_mem _ hj))
    have h32 := hi i List.mem_cons_self
    have key : ∀ x : Hsh, x.cells.toArray[i * 1]? = some (.int .u8 (x.b.getD i 0)) := by
      intro x
      have hl := x.len
      rw [Nat.mul_one, List.getElem?_toArray]
      unfold Hsh.cells
      rw [List.getElem?_map, List.getElem?_eq_getElem (by omega)]
      simp [List.getD_eq_getElem?_getD, List.getElem?_eq_getElem (show i < x.b.length by omega)]
    have hp : Tryd.prog.plainKey 5 = true := by kernel_rfl
    rw [Op.eqItems]
    simp only [Sem.run_bind, run_part_plain w hp (key h), run_part_plain w hp (key g), Result.andThen_ok, run_equalIn_int w d 5 .u8 .u8 _ _ Tryd.underlying5]
    rw [List.all_cons]
    cases hq : (h.b.getD i 0 == g.b.getD i 0) with
    | false => simp
    | true => simp only [Bool.not_true, Bool.false_eq_true, if_false, Bool.true_and]; exact ih
theorem hash_dec (h g : Hsh) : ((List.range 32).all fun i => h.b.getD i 0 == g.b.getD i 0) = decide (h = g) := by
  rw [Bool.eq_iff_iff]
  simp only [List.all_eq_true, List.mem_range, beq_iff_eq, decide_eq_true_eq]
  constructor
  · intro hk
    have hb : h.b = g.b := by
      refine List.ext_getElem (by rw [h.len, g.len]) (fun i h1 h2 => ?_)
      have := hk i (by rw [← h.len]; exact h1)
      simpa [List.getD_eq_getElem?_getD, List.getElem?_eq_getElem h1, List.getElem?_eq_getElem h2] using this
    cases h; cases g; simp at hb; subst hb; rfl
  · rintro rfl i _; rfl
theorem hash_equalIn (d : Nat) (h g : Hsh) (w : World) : (Op.equalIn (d + 2) 63 h.val g.val).run Tryd.prog w = .ok (decide (h = g)) w := by
  obtain ⟨i, hi⟩ : ∃ i, Tryd.prog.info? 5 = some i := by
    have hs : (Tryd.prog.info? 5).isSome = true := by kernel_rfl
    exact Option.isSome_iff_exists.1 hs
  have hc : Tryd.prog.cellsOf 5 = 1 := by kernel_rfl
  unfold Hsh.val
  rw [show d + 2 = (d + 1) + 1 from rfl, run_equalIn_array w (d + 1) _ _ Tryd.underlying63 hi, hc, items_eq d h g w _ (fun j hj => List.mem_range.1 hj), hash_dec]
theorem hash_guard (op : BinOp) (x y : Operand) (h g : Hsh) (w : World) : (eqGuard op 63 x y h.val g.val).run Tryd.prog w = .ok () w := by
  have hm : Tryd.prog.eqGuardType Tryd.prog.depth 63 = false := by kernel_rfl
  exact run_eqGuard_agg w op _ x y _ _ hm
theorem hash_neq (h g : Hsh) (w : World) : (binOp .neq 63 h.val g.val).run Tryd.prog w = .ok (.bool (!decide (h = g))) w := by
  have := run_neq_struct (P := Tryd.prog) w 63 h.cells.toArray g.cells.toArray
  have e := hash_equalIn 9998 h g w
  unfold Hsh.val at e ⊢
  rw [this, e]
  rfl
/-- A slice of one hash is made. -/
theorem run_build_hash (h : Hsh) (W : World) : (Instr.buildSlice 39 1 #[(0, .agg h.cells.toArray)]).run Tryd.prog W = .ok (.slice (some ⟨W.heap.size, 0, none⟩) 1 1) (W.alloc (.cells h.cells.toArray 63)) := by
  have hin := infoH
  obtain ⟨ie, hie⟩ : ∃ ie, Tryd.prog.info? 63 = some ie := by
    cases hc : Tryd.prog.info? 63 with
    | none => rw [hc] at hin; simp at hin
    | some ie => exact ⟨ie, rfl⟩
  rw [hie] at hin
  simp only [Option.map_some, Option.some.injEq, Prod.mk.injEq] at hin
  obtain ⟨hz, hsz, _⟩ := hin
  obtain ⟨z, hz⟩ : ∃ z, ie.zero = some z := ⟨_, hz⟩
  refine run_buildSlice W _ _ 1 _ h.cells.toArray ie z Tryd.underlying39 hie hz (by rw [hsz]; omega) (by rw [hsz]; omega) ?_
  rw [hsz]
  have hcl := h.cells_len
  obtain ⟨r, hr, hs, hk⟩ := Go.Great.fill_dense (s := 32) (by omega) [h.val] 0 ((Array.range (1 * 32)).map (z.cells[· % z.cells.size]!)) (fun v hv => by simp at hv; subst hv; show h.cells.toArray.size = 32; simpa using hcl) (by simp)
  have e : r = h.cells.toArray := by
    refine Array.ext_getElem? (fun j => ?_)
    rw [hk j]
    by_cases hj : j < 32
    · rw [if_pos (by simp; omega)]
      rw [show j / 32 - 0 = 0 by omega]
      simp only [List.getElem?_cons_zero, Option.bind_some]
      rw [show h.val.cells = h.cells.toArray from rfl, Nat.mod_eq_of_lt hj]
    · rw [if_neg (by simp; omega), Array.getElem?_eq_none (by simp; omega), Array.getElem?_eq_none (by simp; omega)]
  rw [e] at hr
  exact hr
theorem build_hash {ops : Array Oper} {rest : List Oper} {o : Oper} {a : Act} {Q : Exit → Act → World → Prop} {W : World} (hgd : o.guard = none) (x : Operand) (ho : o.op = .buildSlice 39 1 #[(0, x)]) (h : Hsh) (hx : a.eval x = h.val)
    (k : wpList Tryd.prog ops Q rest (a.put o.dst (.slice (some ⟨W.heap.size, 0, none⟩) 1 1)) (W.alloc (.cells h.cells.toArray 63))) : wpList Tryd.prog ops Q (o :: rest) a W := by
  refine wpList_plain hgd fun K hK => ?_
  have hr := run_build_hash h W
  have hx2 : a.eval x = .agg h.cells.toArray := hx
  unfold Oper.wp execOp
  simp only [ho, List.map_toArray, List.map_cons, List.map_nil, hx2, Sem.run_bind, hr, Result.andThen_ok]
  exact hK _ _ k
/-- In a region that draws its order and only reads: a hash is loaded; two hashes are compared. -/
theorem quiet_hash {ops : Array Oper} {rest : List Oper} {o : Oper} {a : Act} {w : World} {Q : Act → Prop} (hgd : o.guard = none) (x : Operand) (ho : o.op = .load 63 x) {ad : Addr} (hx : a.eval x = .pointer (some ad)) (h : Hsh) (hh : HashAt w ad h) (k : wpQuiet Tryd.prog ops (fun w' => ∃ n, w' = w.drewN n) Q rest (a.put o.dst h.val)) : wpQuiet Tryd.prog ops (fun w' => ∃ n, w' = w.drewN n) Q (o :: rest) a := by
  obtain ⟨b, off, rfl, hrg⟩ := hh
  unfold wpQuiet
  rw [if_pos (by simp [Region.wanted, hgd])]
  refine ⟨h.val, fun w' hw' => ?_, k⟩
  obtain ⟨n, rfl⟩ := hw'
  unfold Oper.quietAt execOp
  have hr := run_loadVar_mid (w.drewN n) b off 63 h.cells _ hrg Tryd.underlying63 rfl (by rw [Hsh.cells_len]; exact sizeH)
  simp only [ho, hx, Instr.loadAt, Instr.sureAddr, Sem.run_bind, Sem.run_pure, Result.andThen_ok, hr]
  exact ⟨rfl, rfl⟩
theorem quiet_neq {ops : Array Oper} {rest : List Oper} {o : Oper} {a : Act} {w : World} {Q : Act → Prop} (hgd : o.guard = none) (x y : Operand) (ty : TypeId) (ho : o.op = .binOp .neq 63 x y ty) (h g : Hsh) (hx : a.eval x = h.val) (hy : a.eval y = g.val) (k : wpQuiet Tryd.prog ops (fun w' => ∃ n, w' = w.drewN n) Q rest (a.put o.dst (.bool (!decide (h = g))))) : wpQuiet Tryd.prog ops (fun w' => ∃ n, w' = w.drewN n) Q (o :: rest) a := by
  unfold wpQuiet
  rw [if_pos (by simp [Region.wanted, hgd])]
  refine ⟨_, fun w' _ => ?_, k⟩
  unfold Oper.quietAt execOp
  simp only [ho, hx, hy, Sem.run_bind, hash_guard, hash_neq, Result.andThen_ok, Sem.run_pure]
  exact ⟨rfl, rfl⟩
end Go.Proofs.YtefnonlhepekdaaDoor.M

set_option linter.unusedVariables false
set_option linter.unusedSimpArgs false
namespace Go.Proofs.YtefnonlhepekdaaDoor.M
open Go.RowKit Go.Proofs.YtefnonlhepekdaaDoorW.PrintWords Go.Proofs.YtefnonlhepekdaaDoorW.PrintLast Go.Proofs.YtefnonlhepekdaaDoorW.PrintMore

section
variable {P : Program} {ops : Array Oper} {rest : List Oper} {o : Oper} {a : Act} {Q : Exit → Act → World → Prop} {α : Type}
theorem app_oneN (d : Kd α) {W : World} (base : Nat) (hgd : o.guard = none) (s x : Operand) (t e : TypeId) (z : Value) (bytes : Nat)
    (ho : o.op = .call { callee := .builtin .append, args := #[s, x], argTypes := #[t, t] })
    (ht : P.underlying t = some (.slice e)) (hinfo : (P.info? e).map (fun i => (i.zero, i.size, i.bytes)) = some (some z, d.sz, bytes)) (hz : z.cells.size = d.sz) (hs0 : 0 < d.sz) (hb0 : 0 < bytes)
    (v : Value) (xs : List α) (p : α) (cs : List Value) (hs : a.eval s = v) (hx : a.eval x = .slice (some ⟨W.heap.size, 0, none⟩) 1 1) (hp : d.M W base (fun _ => False) p cs)
    (HO : d.R e W base (fun _ => True) v xs) (hbase : base ≤ W.heap.size) (hl : (xs.length + 1) * bytes ≤ 140737488355328)
    (h : ∀ A1 n1 c1 w1, d.R e w1 base (fun _ => True) (.slice A1 n1 c1) (xs ++ [p]) → Frm (fun k => some k = v.ownBlock) W w1 →
      ((Value.slice A1 n1 c1).ownBlock = v.ownBlock ∨ ∃ b, (Value.slice A1 n1 c1).ownBlock = some b ∧ W.heap.size ≤ b) → wpList P ops Q rest (a.put o.dst (.slice A1 n1 c1)) w1) :
    wpList P ops Q (o :: rest) a (W.alloc (.cells cs.toArray e)) :=
  app_one d base hgd s x t e z bytes ho ht hinfo hz hs0 hb0 v xs p cs hs hx hp HO hbase hl (fun A1 c1 w1 h1 h2 h3 => h A1 _ c1 w1 h1 h2 h3)
theorem app_rowN (k : IntKind) {W : World} (base : Nat) (hgd : o.guard = none) (s x : Operand) (t e : TypeId) (z : Value) (bytes : Nat)
    (ho : o.op = .call { callee := .builtin .append, args := #[s, x], argTypes := #[t, t] })
    (ht : P.underlying t = some (.slice e)) (hinfo : (P.info? e).map (fun i => (i.zero, i.size, i.bytes)) = some (some z, 1, bytes)) (hz : z.cells.size = 1) (hb0 : 0 < bytes)
    (v : Value) (xs ys : List Int) (A : Option Addr) (m c : Nat) (hs : a.eval s = v) (hx : a.eval x = .slice A m c)
    (HO : (Kd.int k).R e W base (fun _ => True) v xs) (HR : (Kd.int k).C W A m ys) (hbase : base ≤ W.heap.size) (hl : (xs.length + m) * bytes ≤ 140737488355328)
    (h : ∀ A1 n1 c1 w1, (Kd.int k).R e w1 base (fun _ => True) (.slice A1 n1 c1) (xs ++ ys) → Frm (fun k => some k = v.ownBlock) W w1 →
      ((Value.slice A1 n1 c1).ownBlock = v.ownBlock ∨ ∃ b, (Value.slice A1 n1 c1).ownBlock = some b ∧ W.heap.size ≤ b) → wpList P ops Q rest (a.put o.dst (.slice A1 n1 c1)) w1) :
    wpList P ops Q (o :: rest) a W :=
  app_row k base hgd s x t e z bytes ho ht hinfo hz hb0 v xs ys A m c hs hx HO HR hbase hl (fun A1 c1 w1 h1 h2 h3 => h A1 _ c1 w1 h1 h2 h3)
end
end Go.Proofs.YtefnonlhepekdaaDoor.M

set_option linter.unusedVariables false
set_option linter.unusedSimpArgs false
namespace Go.Proofs.YtefnonlhepekdaaDoor.M
open Go.RowKit Go.Proofs.YtefnonlhepekdaaDoorW.PrintWords Go.Proofs.YtefnonlhepekdaaDoorW.PrintLast Go.Proofs.YtefnonlhepekdaaDoorW.PrintMore Go.Proofs.YtefnonlhepekdaaDoor.Leaf

def Bytes (l : List Int) : Prop := ∀ b ∈ l, 0 ≤ b ∧ b < 256
def hashZ : Hsh := hash1 0
def mkH (l : List Int) : Hsh := if h : l.length = 32 then ⟨l, h⟩ else hashZ
theorem mkH_b {l : List Int} (h : l.length = 32) : (mkH l).b = l := by unfold mkH; rw [dif_pos h]
def nodesI (ns : List Hsh) : List Int := ns.flatMap fun h => h.b
def takeH : Nat → List Int → List Hsh
  | 0, _ => []
  | k + 1, bs => mkH (bs.take 32) :: takeH k (bs.drop 32)
theorem takeH_len : ∀ k bs, (takeH k bs).length = k
  | 0, _ => rfl
  | k + 1, bs => by simp [takeH, takeH_len k]
theorem nodes_takeH : ∀ (k : Nat) (bs : List Int), bs.length = 32 * k → nodesI (takeH k bs) = bs
  | 0, bs, h => by
    have : bs = [] := List.length_eq_zero_iff.1 (by omega)
    subst this
    rfl
  | k + 1, bs, h => by
    have ih := nodes_takeH k (bs.drop 32) (by rw [List.length_drop]; omega)
    have e : nodesI (takeH (k + 1) bs) = (mkH (bs.take 32)).b ++ nodesI (takeH k (bs.drop 32)) := rfl
    rw [e, ih, mkH_b (by rw [List.length_take]; omega), List.take_append_drop]
theorem takeH_snoc : ∀ (k : Nat) (bs : List Int), takeH (k + 1) bs = takeH k bs ++ [mkH ((bs.drop (32 * k)).take 32)]
  | 0, bs => by simp [takeH]
  | k + 1, bs => by
    have ih := takeH_snoc k (bs.drop 32)
    rw [show takeH (k + 1 + 1) bs = mkH (bs.take 32) :: takeH (k + 1) (bs.drop 32) from rfl, ih, show takeH (k + 1) bs = mkH (bs.take 32) :: takeH k (bs.drop 32) from rfl, List.drop_drop, show 32 + 32 * k = 32 * (k + 1) by omega]
    rfl
theorem R_emptyK {α : Type} (d : Kd α) {e : Nat} {w : World} {g : Nat} {t : Nat} (ht : t = e) (hg : w.heap[g]? = some (.cells #[] t (0, 0))) {base : Nat} (hb : base ≤ g) : d.R e w base (fun _ => True) (.slice (some ⟨g, 0, none⟩) 0 0) [] := by
  subst ht
  exact ⟨fun _ _ => trivial, [], ⟨by simp, .inr ⟨g, 0, #[], rfl, hb, hg, Nat.le_refl _, Nat.zero_le _, by simp, by simp⟩⟩, Reps.none _ _⟩
theorem Rd.row {k : IntKind} {w : World} {A : Option Addr} {m c : Nat} {xs : List Int} (h : Rd k w (.slice A m c) xs) : Kd.C (Kd.int k) w A m xs := by
  obtain ⟨A', c', ev, _, hC⟩ := h
  injection ev with e1 e2 e3
  subst e1 e2
  exact hC
/-- What one reads of a row of one's own. -/
theorem R_C {α : Type} {d : Kd α} {e base : Nat} {w : World} {A : Option Addr} {n c : Nat} {xs : List α} (h : d.R e w base (fun _ => True) (.slice A n c) xs) : d.C w A n xs := by
  have h1 := Kd.R_reads' h
  rw [h1.1]
  exact h1.2.2
theorem R_capk {α : Type} {d : Kd α} {e base : Nat} {w : World} {A : Option Addr} {n c : Nat} {xs : List α} (h : d.R e w base (fun _ => True) (.slice A n c) xs) : n = xs.length ∧ n ≤ c ∧ c ≤ 9223372036854775807 := by
  refine ⟨(Kd.R_reads' h).1, (Kd.R_reads' h).2.1, ?_⟩
  obtain ⟨inner, ho⟩ := Kd.R_own h
  rcases ho.2 with ⟨h1, _⟩ | ⟨g, cap, cur, h1, _, _, _, h2, _⟩
  · injection h1 with _ _ h3
    omega
  · injection h1 with _ _ h3
    subst h3
    exact h2
theorem C_cut {α : Type} {d : Kd α} {w : World} {A : Option Addr} {n : Nat} {xs ys : List α} (h : d.C w A n (xs ++ ys)) (m : Nat) (hm : m = xs.length) : d.C w A m xs := by
  have hl := Kd.C_len h
  subst hl hm
  have h2 := Kd.C_take h (m := xs.length) (by simp)
  rw [List.take_left] at h2
  exact h2
/-- Rows of two types own no block together. -/
theorem own_types {α β : Type} {d : Kd α} {d' : Kd β} {e e' base base' : Nat} {ok ok' : Nat → Prop} {w : World} {u v : Value} {xs : List α} {ys : List β} (h : d.R e w base ok u xs) (h' : d'.R e' w base' ok' v ys) (hne : e ≠ e') {k : Nat} (h1 : u.ownBlock = some k) (h2 : v.ownBlock = some k) : False := by
  obtain ⟨c1, e1⟩ := Kd.R_typed h k h1
  obtain ⟨c2, e2⟩ := Kd.R_typed h' k h2
  rw [e1] at e2
  injection e2 with e2
  injection e2 with _ e2
  exact hne e2
/-- Two values that own no block together. -/
def Apart (u v : Value) : Prop := ∀ k, u.ownBlock = some k → v.ownBlock ≠ some k
theorem Apart.symm {u v : Value} (h : Apart u v) : Apart v u := fun k h1 h2 => h k h2 h1
theorem row_round {k : IntKind} {e base g n c : Nat} {W : World} {M : List Int} (h : (Kd.int k).R e W base (fun _ => True) (.slice (some ⟨g, 0, none⟩) n c) M) (j : Nat) (hj : j < n) :
    (∃ z : Int, W.cell? ⟨g, j, none⟩ = some (.int k z)) ∧ W.frozen? ⟨g, j, none⟩ = false ∧ ∀ x : Int, (Kd.int k).R e (W.setCell ⟨g, j, none⟩ (.int k x)) base (fun _ => True) (.slice (some ⟨g, 0, none⟩) n c) (M.set j x) := by
  obtain ⟨k1, k2⟩ := Kd.R_celln 0 h (j : Int) (by omega) (by omega)
  rw [Int.toNat_natCast] at k1 k2
  refine ⟨⟨_, k1⟩, k2, fun x => ?_⟩
  have s1 := Kd.R_putn h (j : Int) x
  rw [Int.toNat_natCast] at s1
  exact s1
/-- A list, the first j of which have been marked. -/
def mkA {α : Type} (x : α) (L : List α) (j : Nat) : List α := List.replicate j x ++ L.drop j
theorem mkA_len {α : Type} (x : α) (L : List α) (j : Nat) (hj : j ≤ L.length) : (mkA x L j).length = L.length := by simp [mkA]; omega
theorem mkA_set {α : Type} (x : α) (L : List α) (j : Nat) (hj : j < L.length) : (mkA x L j).set j x = mkA x L (j + 1) := by
  unfold mkA
  rw [List.drop_eq_getElem_cons hj, List.set_append_right _ _ (by simp), List.length_replicate, Nat.sub_self, List.set_cons_zero, List.replicate_succ', List.append_assoc]
  rfl
theorem mkA_all {α : Type} (x : α) (L : List α) : mkA x L L.length = List.replicate L.length x := by simp [mkA]
theorem mkA_zero {α : Type} (x : α) (L : List α) : mkA x L 0 = L := by simp [mkA]
def cellsB (l : List Int) : Array Value := (l.map (Value.int .u8)).toArray
theorem cellsB_get (l : List Int) (j : Nat) (hj : j < l.length) : ∃ x : Int, (cellsB l)[j]? = some (.int .u8 x) := by
  refine ⟨l[j], ?_⟩
  unfold cellsB
  rw [List.getElem?_toArray, List.getElem?_map, List.getElem?_eq_getElem hj]
  rfl
theorem cellsB_set (l : List Int) (j : Nat) (x : Int) : (cellsB l).setIfInBounds j (.int .u8 x) = cellsB (l.set j x) := by
  unfold cellsB
  rw [List.setIfInBounds_toArray, List.map_set]
theorem cellsB_hash (l : List Int) (hl : l.length = 32) : cellsB l = (mkH l).cells.toArray := by
  unfold cellsB Hsh.cells
  rw [mkH_b hl]
/-- Hashes, read. -/
def Hd (w : World) (v : Value) (xs : List Hsh) : Prop := ∃ A c, v = .slice A xs.length c ∧ kH.C w A xs.length xs
theorem Hd.below {w w1 : World} {v : Value} {xs : List Hsh} (h : Hd w v xs) (hb : Below w.heap.size w w1) : Hd w1 v xs := by
  obtain ⟨A, c, e, hc⟩ := h
  exact ⟨A, c, e, Kd.C_below hc hb⟩
section
variable {ops : Array Oper} {rest : List Oper} {o : Oper} {a : Act} {Q : Exit → Act → World → Prop} {W : World}
theorem neq_hash (hgd : o.guard = none) (x y : Operand) (ty : TypeId) (ho : o.op = .binOp .neq 63 x y ty) (h g : Hsh) (hx : a.eval x = h.val) (hy : a.eval y = g.val) (b : Bool) (hb : (!decide (h = g)) = b)
    (k : wpList Tryd.prog ops Q rest (a.put o.dst (.bool b)) W) : wpList Tryd.prog ops Q (o :: rest) a W := by
  refine wpList_plain hgd fun K hK => ?_
  unfold Oper.wp execOp
  simp only [ho, hx, hy, Sem.run_bind, hash_guard, hash_neq, Result.andThen_ok, Sem.run_pure, hb]
  exact hK _ _ k
theorem put_hash (base : Nat) (hN : o.dst = none) (hgd : o.guard = none) (p x : Operand) (ho : o.op = .store 63 p x) {g n cap o' : Nat} (j : Nat) (xs : List Hsh) (h : Hsh)
    (haddr : a.eval p = .pointer (some ⟨g, o', none⟩)) (hoff : o' = j * 32) (hx : a.eval x = h.val) (HO : kH.R 63 W base (fun _ => True) (.slice (some ⟨g, 0, none⟩) n cap) xs) (hj : j < n)
    (k : ∀ w1, kH.R 63 w1 base (fun _ => True) (.slice (some ⟨g, 0, none⟩) n cap) (xs.set j h) → W.grownBy w1 (some g) → wpList Tryd.prog ops Q rest a w1) : wpList Tryd.prog ops Q (o :: rest) a W := by
  obtain ⟨c, hc1, _, hc2, _⟩ := Kd.R_elem HO hashZ (j : Int) (by omega) (by omega)
  refine Kd.R_store kH (w0 := W) base hN hgd 63 p x ho 63 (j : Int) 0 xs h h.val h.cells c (fun _ => True) (fun _ => False) haddr (by rw [hoff, Int.toNat_natCast]; rfl) hx (by simp [Hsh.val, Value.cells]) (by rw [Hsh.cells_len]; exact sizeH) h.one HO (by omega) (by omega) hc1 hc2 (by rw [Hsh.cells_len]; exact Nat.le_refl _) ?_ (fun _ hk => hk.elim) (Below.refl _ _) ?_
  · show c.take 0 ++ h.cells ++ c.drop (0 + h.cells.length) = h.cells
    have h32 : c.length = 32 := hc1
    rw [List.take_zero, List.nil_append, Nat.zero_add, Hsh.cells_len, List.drop_of_length_le (by omega), List.append_nil]
  · intro w1 hr _ hg
    rw [Int.toNat_natCast] at hr
    exact k w1 hr hg
end
end Go.Proofs.YtefnonlhepekdaaDoor.M

set_option linter.unusedVariables false
set_option linter.unusedSimpArgs false
namespace Go.Proofs.YtefnonlhepekdaaDoor.M
open Go.RowKit Go.Proofs.YtefnonlhepekdaaDoorW.PrintWords Go.Proofs.YtefnonlhepekdaaDoorW.PrintLast Go.Proofs.YtefnonlhepekdaaDoorW.PrintMore Go.Proofs.YtefnonlhepekdaaDoor.Leaf

/-- Go's table for the lowest set bit. -/
def dbTab : List Nat := [0, 1, 56, 2, 57, 49, 28, 3, 61, 58, 42, 50, 38, 29, 17, 4, 62, 47, 59, 36, 45, 43, 51, 22, 53, 39, 33, 30, 24, 18, 12, 5, 63, 55, 48, 27, 60, 41, 37, 16, 46, 35, 44, 21, 52, 32, 23, 11, 54, 26, 40, 15, 34, 20, 31, 10, 25, 14, 19, 9, 13, 8, 7, 6]
theorem db_hit : ∀ k : Fin 64, dbTab[(2 ^ k.val * 285870213051353865 % 18446744073709551616) / 288230376151711744]? = some k.val := by decide +kernel
/-- The table lies where the program lays it. -/
def DB (w : World) : Prop := ∀ (j : Nat) (k : Nat), dbTab[j]? = some k → w.cell? ⟨1, j, none⟩ = some (.int .u8 (k : Int))
theorem DB.below {w w' : World} (h : DB w) (hb : Below w.heap.size w w') : DB w' := fun j k hk => pw_cell_below hb (h j k hk)

set_option maxHeartbeats 1000000 in
set_option maxRecDepth 100000 in
theorem tz_calls (x : Nat) (hx : x < 18446744073709551616) (w : World) (hT : DB w) :
    Calls Tryd.prog 116 #[.int .u64 x] w fun e w' => e = .returned (.int .i64 (loN x : Nat)) ∧ w' = w := by
  by_cases h0 : x = 0
  · subst h0
    clear hT
    go_enter Tryd.func116, Tryd.ntmps116
    go_wp2_with fail
    go_ret
    exact ⟨rfl, rfl⟩
  · have hd : ((x : Int) == 0) = false := by rw [beq_eq_false_iff_ne]; omega
    obtain ⟨hk, _⟩ := lo_split h0 (by omega)
    have h1 : IntKind.u64.wrap (-(x : Int)) = ((18446744073709551616 - x : Nat) : Int) := by rw [IntKind.wrap_u64]; omega
    have h2 : Go.bits .and .u64 (x : Int) ((18446744073709551616 - x : Nat) : Int) = ((2 ^ loN x : Nat) : Int) := by
      rw [and64 x _ hx (by omega)]
      exact congrArg _ (and_neg h0 (by omega))
    have hp : 2 ^ loN x ≤ 9223372036854775808 := p2_le (by omega)
    have h3 : IntKind.u64.wrap (((2 ^ loN x : Nat) : Int) * 285870213051353865) = ((2 ^ loN x * 285870213051353865 % 18446744073709551616 : Nat) : Int) := by rw [IntKind.wrap_u64]; omega
    have hc := hT _ _ (db_hit ⟨loN x, hk⟩)
    have hj : (2 ^ loN x * 285870213051353865 % 18446744073709551616) / 288230376151711744 < 64 := by omega
    simp only at hc
    have h5 : wrap64 (loN x : Int) = loN x := i64_of _ (by omega) (by omega)
    clear hT hp
    generalize 2 ^ loN x * 285870213051353865 % 18446744073709551616 = q at *
    generalize 2 ^ loN x = p at *
    generalize loN x = k at *
    generalize 18446744073709551616 - x = y at *
    go_enter Tryd.func116, Tryd.ntmps116
    go_wp2_with fail
    go_ret
    exact ⟨rfl, rfl⟩
theorem low_calls (x : Nat) (hx : x < 18446744073709551616) (w : World) (hT : DB w) :
    Calls Tryd.prog 86 #[.int .u64 x] w fun e w' => e = .returned (.int .i64 (loN x : Nat)) ∧ w' = w := by
  have HT := Aside0.mk hT
  clear hT
  go_enter Tryd.func86, Tryd.ntmps86
  go_wp2_with fail
  refine (tz_calls x hx w HT.out).mono ?_
  rintro e w1 ⟨rfl, rfl⟩
  go_wp2_with fail
  go_ret
  exact ⟨rfl, rfl⟩
theorem high_calls (x : Nat) (h0 : x ≠ 0) (hx : x ≤ 4611686018427387904) (w : World) :
    Calls Tryd.prog 87 #[.int .u64 x] w fun e w' => e = .returned (.int .i64 ((Lib.bitLen x - 1 : Nat) : Int)) ∧ Drawn0 w w' := by
  have hl := len_facts h0 hx
  refine num_High.calls 1 x _ w ?_
  unfold num_High.f bits_Len64.f
  rw [if_pos (by omega)]
  simp only [Option.bind_some, Int.toNat_natCast]
  rw [i64_of _ (by omega) (by omega)]
  exact congrArg some (by omega)

/-- Spots as elements of a slice. -/
def spCells (s : Nat × Nat) : List Value := [.int .u8 (s.1 : Int), .int .u64 (s.2 : Int)]
def kS : Kd (Nat × Nat) := flat spCells 2 (fun _ => rfl) (fun s u hu => by
  simp only [spCells, List.mem_cons, List.not_mem_nil, or_false] at hu
  rcases hu with rfl | rfl <;> rfl)
theorem flat_kS : Flat kS := fun _ _ _ _ _ _ _ _ h => h
theorem infoS : (Tryd.prog.info? 74).map (fun i => (i.zero, i.size, i.bytes)) = some (some (.agg #[.int .u8 0, .int .u64 0]), 2, 16) := by kernel_rfl
end Go.Proofs.YtefnonlhepekdaaDoor.M

set_option linter.unusedVariables false
set_option linter.unusedSimpArgs false
namespace Go.Proofs.YtefnonlhepekdaaDoor.M
open Go.ChangeShapes Go.WideShapes Go.ChangeAt Go.RowKit

theorem ownKn : ownKnob Tryd.prog.godebug = none := by kernel_rfl
def laidDB : List (String × DataW Unit) := [("math/bits.deBruijn64tab", Rows.laid_math_bits_deBruijn64tab)]
theorem gDB : Tryd.prog.globalNamed "math/bits.deBruijn64tab" = some 1 := by kernel_rfl
theorem tDB : (Tryd.prog.globals[1]?).map (·.type) = some 154 := by kernel_rfl
theorem datDB : (Rows.laid_math_bits_deBruijn64tab : DataW Unit) = .agg (dbTab.map fun (k : Nat) => .lit (.int .u8 (k : Int))) := rfl
theorem db_of_laid {W : World} (h : laidMetH Tryd.prog laidDB W) : DB W := by
  rw [MakeChecks.laidMetH_plain _ _ _ (by kernel_rfl)] at h
  obtain ⟨ps, ⟨g0, t0, cs0, f0, p0, q0, hg0, ht0, hv0, hd0, _, _⟩, _, _⟩ := h
  obtain rfl := Option.some.inj (gDB.symm.trans hg0)
  obtain rfl := Option.some.inj (tDB.symm.trans ht0)
  obtain ⟨xs, m1, rfl, hx1, hlen, hn3, hel⟩ := DataW.trod_array Tryd.underlying154 hd0
  rw [datDB] at hx1
  simp only [Prod.mk.injEq, DataW.agg.injEq] at hx1
  have c5 : Tryd.prog.cellsOf 5 = 1 := by kernel_rfl
  rw [c5] at hel
  intro j k hj
  have hj64 : j < 64 := (List.getElem?_eq_some_iff.1 hj).1
  obtain ⟨x, hx⟩ : ∃ x, xs[j]? = some x := ⟨xs[j], List.getElem?_eq_getElem (by omega)⟩
  have hxk : x.1 = .lit (.int .u8 (k : Int)) := by
    have h1 := congrArg (fun l => l[j]?) hx1.1
    simp only [List.getElem?_map, hx, hj, Option.map_some] at h1
    exact (Option.some.inj h1).symm
  have h2 := hel j hj64
  rw [hx, Nat.mul_one] at h2
  obtain ⟨n, e1, e2, _⟩ := DataW.trod_int Tryd.underlying5 h2
  rw [e2] at hxk
  obtain rfl : n = (k : Int) := by simpa using hxk
  have hc := World.var?_cell hg0 hv0 j
  rw [hc]
  have h3 : (cs0.toList.drop j)[0]? = some (.int .u8 (k : Int)) := by
    have h4 : ((cs0.toList.drop j).take 1)[0]? = some (.int .u8 (k : Int)) := by rw [e1]; rfl
    rwa [List.getElem?_take_of_lt (by omega)] at h4
  rw [List.getElem?_drop, Nat.add_zero] at h3
  simpa using h3
theorem door_met (os : Os) (args : Array Value) : laidMetH Tryd.prog laidDB ((World.doorLaid Tryd.prog 24 os).forCall (fun _ _ => 0) ⟨#[], args, []⟩).memory :=
  laidMetH_of_parts3 (fuel := 8) (laidMet_of_run' 8 (by kernel_rfl) (by kernel_rfl)) (by kernel_rfl) (by kernel_rfl)
end Go.Proofs.YtefnonlhepekdaaDoor.M

set_option linter.unusedVariables false
set_option linter.unusedSimpArgs false
namespace Go.Proofs.YtefnonlhepekdaaDoor.M
open Go.ChangeShapes Go.WideShapes Go.ChangeAt Go.RowKit Go.Proofs.YtefnonlhepekdaaDoorW.PrintWords Go.Proofs.YtefnonlhepekdaaDoorW.PrintLast Go.Proofs.YtefnonlhepekdaaDoorW.PrintMore

theorem open_row {H : Type} {enc : TypeId × Value → H} {P : Program} {W : World} {t e : TypeId} {k : IntKind} {v : Value} {d : DataW H} {ps : List MemPlace} (ht : P.underlying t = some (.slice e)) (he : P.underlying e = some (.int k)) (hc : P.cellsOf e = 1)
    (hval : Value.okWide P W .any 0 t v) (hd : DataW.Trod enc P W 0 (fun _ => true) true t v d ps) :
    ∃ (A : Option Addr) (cap : Nat) (xs : List Int), v = .slice A xs.length cap ∧ xs.length ≤ cap ∧ cap ≤ 9223372036854775807 ∧ Kd.C (Kd.int k) W A xs.length xs ∧ (∀ x ∈ xs, (Lit.int k x).wf = true) ∧
      ∀ W', Below W.heap.size W W' → ∀ sp : Nat → Bool, (∀ p ∈ ps, sp p.block = true) → DataW.Trod enc P W' 0 sp true t v d ps := by
  obtain ⟨a0, len0, cap0, rfl⟩ := okWide_slice ht hval
  obtain ⟨fuel, hf⟩ := hd
  rcases open_ints ht he hc hf with ⟨hcs, hx⟩ | ⟨a, len, cap, zs, hcs, _, hle, hmax, hall, hx, hcell, hwf⟩
  · simp [Value.cells] at hcs
    obtain ⟨rfl, rfl, rfl⟩ := hcs
    simp only [Prod.mk.injEq] at hx
    obtain ⟨rfl, rfl⟩ := hx
    refine ⟨none, 0, [], rfl, Nat.le_refl _, by omega, ⟨rfl, by simp, fun h => absurd h (by simp)⟩, fun x hx => by simp at hx, fun W' _ sp _ => ⟨1, ?_⟩⟩
    simp [DataW.trod, ht, Value.cells]
  · simp [Value.cells] at hcs
    obtain ⟨rfl, rfl, rfl⟩ := hcs
    simp only [Prod.mk.injEq] at hx
    obtain ⟨rfl, rfl⟩ := hx
    simp only [if_true] at hall
    have hmax2 : cap0 ≤ 9223372036854775807 := hmax
    have hlen : (zs.take len0).length = len0 := by rw [List.length_take]; omega
    refine ⟨some a, cap0, zs.take len0, by rw [hlen], by omega, hmax2, ⟨rfl, by omega, fun _ => ⟨a, rfl, fun j x hj => ⟨[.int k x], rfl, rfl, fun i u hi => ?_⟩⟩⟩, fun x hx => hwf x (List.mem_of_mem_take hx), fun W' hb sp hsp => ?_⟩
    · cases i with
      | succ i => simp at hi
      | zero =>
        simp at hi
        subst hi
        rw [Nat.add_zero]
        rw [List.getElem?_take] at hj
        split at hj
        · next hjl =>
          have hjz : j < zs.length := by omega
          have := hcell j hjz
          rw [show (Kd.int k).sz = 1 from rfl, Nat.mul_one, this]
          rw [List.getD_eq_getElem?_getD, hj]
          rfl
        · simp at hj
    · refine ⟨2, shut_ints 0 ht he hc (Nat.zero_le _) hle hmax ?_ (fun i hi => ?_) hwf⟩
      · by_cases h0 : zs.length = 0
        · split <;> omega
        · rw [if_pos, hall]
          have := hsp (.cell a.block (a.off + 0)) (List.mem_map.2 ⟨0, List.mem_range.2 (by omega), rfl⟩)
          exact this
      · have h1 := hcell i hi
        have hlt : (a.add i).block < W.heap.size := by
          refine Decidable.by_contra (fun hn => ?_)
          have hnone : W.heap[(a.add i).block]? = none := Array.getElem?_eq_none (by omega)
          simp [World.cell?, hnone] at h1
        rw [World.cell?_of_block (hb.block _ hlt)]
        exact h1
end Go.Proofs.YtefnonlhepekdaaDoor.M

set_option linter.unusedVariables false
set_option linter.unusedSimpArgs false
namespace Go.Proofs.YtefnonlhepekdaaDoor.M
open Go.RowKit Go.Proofs.YtefnonlhepekdaaDoorW.PrintWords Go.Proofs.YtefnonlhepekdaaDoorW.PrintLast Go.Proofs.YtefnonlhepekdaaDoorW.PrintMore Go.Proofs.YtefnonlhepekdaaDoor.Leaf

/-- A block's cells as a list. -/
def Blk (w : World) (g : Nat) (t : TypeId) (l : List Value) : Prop := w.heap[g]? = some (.cells l.toArray t (0, 0))
theorem Blk.below {w w1 : World} {g : Nat} {t : TypeId} {l : List Value} (h : Blk w g t l) (hb : Below w.heap.size w w1) : Blk w1 g t l := (hb.block _ (blk_lt h)).trans h
theorem Blk.frm {S : Nat → Prop} {w w1 : World} {g : Nat} {t : TypeId} {l : List Value} (h : Blk w g t l) (hf : Frm S w w1) (hn : ¬ S g) : Blk w1 g t l := (hf.block _ (blk_lt h) hn).trans h
theorem Blk.cell {w : World} {g : Nat} {t : TypeId} {l : List Value} (h : Blk w g t l) (i : Nat) : w.cell? ⟨g, i, none⟩ = l[i]? := by
  have := blk_cell h i
  simpa using this
theorem Blk.at {w : World} {g : Nat} {t : TypeId} {l : List Value} (h : Blk w g t l) {i : Nat} {v : Value} (hv : l[i]? = some v) : w.cell? ⟨g, i, none⟩ = some v := (h.cell i).trans hv
theorem Blk.frozen {w : World} {g : Nat} {t : TypeId} {l : List Value} (h : Blk w g t l) (i : Nat) : w.frozen? ⟨g, i, none⟩ = false := blk_frozen h i
theorem Blk.set {w : World} {g : Nat} {t : TypeId} {l : List Value} (h : Blk w g t l) (i : Nat) (v : Value) : Blk (w.setCell ⟨g, i, none⟩ v) g t (l.set i v) := by
  have := blk_set h i v
  unfold Blk
  rw [this, List.setIfInBounds_toArray]
theorem Blk.lt {w : World} {g : Nat} {t : TypeId} {l : List Value} (h : Blk w g t l) : g < w.heap.size := blk_lt h
theorem Blk.range {w : World} {g : Nat} {t : TypeId} {l : List Value} (h : Blk w g t l) (o : Nat) (cs : List Value) (hc : (l.drop o).take cs.length = cs) : w.rangeAt g o cs := by
  intro j v hv
  rw [h.cell]
  have hj := (List.getElem?_eq_some_iff.1 hv).1
  rw [← hc, List.getElem?_take_of_lt hj, List.getElem?_drop] at hv
  exact hv
theorem Blk.setCells {w : World} {g : Nat} {t : TypeId} {l : List Value} (h : Blk w g t l) (o : Nat) (vs : List Value) (ho : o + vs.length ≤ l.length) : Blk (w.setCells g o vs) g t (l.take o ++ vs ++ l.drop (o + vs.length)) := by
  obtain ⟨c, hc, hs, hl⟩ := setCells_row (g := g) vs o w l.toArray h (by simpa using ho)
  have e : c = (l.take o ++ vs ++ l.drop (o + vs.length)).toArray := by
    apply Array.toList_inj.1
    rw [hl]
  unfold Blk
  rw [hc, e]
section
variable {ops : Array Oper} {rest : List Oper} {o : Oper} {a : Act} {Q : Exit → Act → World → Prop} {W : World}
end
end Go.Proofs.YtefnonlhepekdaaDoor.M

set_option linter.unusedVariables false
set_option linter.unusedSimpArgs false
namespace Go.Proofs.YtefnonlhepekdaaDoor.M
open Go.RowKit Go.Proofs.YtefnonlhepekdaaDoorW.PrintWords Go.Proofs.YtefnonlhepekdaaDoorW.PrintLast Go.Proofs.YtefnonlhepekdaaDoorW.PrintMore Go.Proofs.YtefnonlhepekdaaDoor.Leaf

theorem rd_spotsP (l : List (Nat × Nat)) (j : Nat) (hj : j < l.length) : rd_T74 (spotsOf l) (j : Int) = ⟨((l[j]).1 : Int), ((l[j]).2 : Int)⟩ := by
  simp [rd_T74, spotsOf, List.getD_eq_getElem?_getD, List.getElem?_eq_getElem hj]
theorem spots_lenP (l : List (Nat × Nat)) : (spotsOf l).length = l.length := by simp [spotsOf]
theorem places_lenP (l : List (Nat × Nat)) : (placesOf l).length = l.length := by simp [placesOf]
theorem up_one (j : Nat) (hj : j < 4611686018427387904) : wrap64 ((j : Int) + 1) = ((j + 1 : Nat) : Int) := by rw [i64_of _ (by omega) (by omega)]; omega
theorem places_takeP (l : List (Nat × Nat)) (j : Nat) (hj : j < l.length) : placesOf (l.take (j + 1)) = placesOf (l.take j) ++ [((placeN (l[j]).1 (l[j]).2 : Nat) : Int)] := by
  unfold placesOf
  rw [List.take_add_one, List.getElem?_eq_getElem hj, List.map_append]
  rfl
theorem peaks3_loop (l : List (Nat × Nat)) (hl : l.length ≤ 63) (hfit : ∀ s ∈ l, (s.2 + 1) * 2 ^ s.1 ≤ 4611686018427387904) : ∀ (d j : Nat), j + d = l.length →
    Ev (fun k => massifref3_Peaks.l0 k (placesOf (l.take j)) (spotsOf l) (j : Int)) (placesOf l)
  | 0, j, hj => by
    rw [List.take_of_length_le (by omega)]
    exact Ev.step (f := fun _ => some (placesOf l)) (fun k => by simp only [massifref3_Peaks.l0]; rw [if_neg (by rw [spots_lenP]; omega)]) (Ev.now _)
  | d + 1, j, hj => by
    have hjl : j < l.length := by omega
    have ih := peaks3_loop l hl hfit d (j + 1) (by omega)
    rw [places_takeP l j hjl] at ih
    have pv := place3_val (l[j]).1 (l[j]).2 (hfit _ (List.getElem_mem hjl))
    refine Ev.step (fun k => by simp only [massifref3_Peaks.l0]; rw [if_pos (by rw [spots_lenP]; omega), if_pos (by omega), rd_spotsP l j hjl]) ?_
    refine Ev.bind pv ?_
    refine Ev.congr (fun k => if_pos (by rw [places_lenP, List.length_take]; omega)) ?_
    rw [up_one j (by omega)]
    exact ih
theorem peaks3_val (n : Nat) (hn : n ≤ 4611686018427387904) : Ev (fun k => massifref3_Peaks.f k (n : Int)) (placesOf (topsN n)) := by
  unfold massifref3_Peaks.f
  refine Ev.bind (tops_val n hn) ?_
  have := peaks3_loop (topsN n) (topsF_len 63 n) (fun s hs => Nat.le_trans (tops_fit 63 n s hs).2 hn) (topsN n).length 0 (by omega)
  rw [List.take_zero] at this
  exact this

/-! The node (h, i): the nodes ahead of it; those below it. -/
theorem nodes_split (K H x : Nat) (hx : x < 2 ^ H) (hb : K * 2 ^ H + x < 2 ^ 64) : nodesN (K * 2 ^ H + x) = nodesN (K * 2 ^ H) + nodesN x := by
  have hH : H ≤ 64 ∨ K = 0 := by
    by_cases h : H ≤ 64
    · exact .inl h
    · right
      by_cases h0 : K = 0
      · exact h0
      · have h1 : 2 ^ H ≤ K * 2 ^ H := Nat.le_mul_of_pos_left _ (by omega)
        have h2 := Nat.pow_le_pow_right (show 0 < 2 by omega) (show 64 ≤ H by omega)
        omega
  rcases hH with hH | hK
  · unfold nodesN
    have e1 : Lib.popAux 64 (K * 2 ^ H + x) = Lib.popAux H x + Lib.popAux (64 - H) K := by
      have := pop_join H (64 - H) x K hx
      rw [show H + (64 - H) = 64 by omega] at this
      rw [← this, Nat.add_comm, Nat.mul_comm]
    have e2 : Lib.popAux 64 (K * 2 ^ H) = Lib.popAux (64 - H) K := by
      have := pop_join H (64 - H) 0 K (p2_pos H)
      rw [show H + (64 - H) = 64 by omega, pop_zero, Nat.zero_add, Nat.zero_add] at this
      rw [← this, Nat.mul_comm]
    have e3 : Lib.popAux 64 x = Lib.popAux H x := pop_fuel H x 64 hx hH
    have h1 := pop_le H x
    have h2 := pop_le (64 - H) K
    have h3 : K ≤ K * 2 ^ H := Nat.le_mul_of_pos_right _ (p2_pos H)
    rw [e1, e2, e3]
    omega
  · subst hK
    simp [nodes_zero]
theorem place_nodes (H K : Nat) (h : (K + 1) * 2 ^ H ≤ 4611686018427387904) : placeN H K = nodesN (K * 2 ^ H) + (2 ^ (H + 1) - 2) := by
  have hp := p2_pos H
  have hH : H ≤ 62 := height_le H K h
  have e1 : (K + 1) * 2 ^ H = K * 2 ^ H + 2 ^ H := by rw [Nat.add_mul, Nat.one_mul]
  have hl : H < 2 ^ H := Nat.lt_two_pow_self
  have e2 : 2 ^ (H + 1) = 2 * 2 ^ H := by rw [Nat.pow_succ]; omega
  unfold placeN
  rw [e1, show K * 2 ^ H + 2 ^ H - 1 = K * 2 ^ H + (2 ^ H - 1) by omega, nodes_split K H _ (by omega) (by omega), nodes_ones H (by omega)]
  omega
theorem place_up {h i H K : Nat} (hle : h ≤ H) (hfit : (i + 1) * 2 ^ h ≤ (K + 1) * 2 ^ H) (hb : (K + 1) * 2 ^ H ≤ 4611686018427387904) : placeN h i + (H - h) ≤ placeN H K := by
  unfold placeN
  have hp : 0 < (i + 1) * 2 ^ h := Nat.mul_pos (by omega) (p2_pos h)
  obtain ⟨d, hd⟩ : ∃ d, (K + 1) * 2 ^ H - 1 = ((i + 1) * 2 ^ h - 1) + d := ⟨((K + 1) * 2 ^ H - 1) - ((i + 1) * 2 ^ h - 1), by omega⟩
  have := nodes_mono d ((i + 1) * 2 ^ h - 1) (by omega)
  rw [hd]
  omega
theorem place_lo {h i m : Nat} (hm : m ≤ i * 2 ^ h) (hb : (i + 1) * 2 ^ h ≤ 4611686018427387904) : nodesN m ≤ placeN h i := by
  rw [place_nodes h i hb]
  have hp := p2_pos h
  have e1 : (i + 1) * 2 ^ h = i * 2 ^ h + 2 ^ h := by rw [Nat.add_mul, Nat.one_mul]
  obtain ⟨d, hd⟩ : ∃ d, i * 2 ^ h = m + d := ⟨i * 2 ^ h - m, by omega⟩
  have := nodes_mono d m (by omega)
  rw [hd]
  omega
/-- Down from (H, K), over (h, i). -/
theorem spot3_loop (h i : Nat) (hi : (i + 1) * 2 ^ h ≤ 4611686018427387904) : ∀ (d H K : Nat), H = h + d → K = i / 2 ^ d → (K + 1) * 2 ^ H ≤ 4611686018427387904 →
    Ev (fun k => massifref3_Spot.l0 k ((placeN h i : Nat) : Int) ((nodesN (K * 2 ^ H) : Nat) : Int) (H : Int) (K : Int)) ((h : Int), (i : Int), true)
  | 0, H, K, hH, hK, hb => by
    obtain rfl : H = h := by omega
    obtain rfl : K = i := by rw [hK]; simp
    have hh := height_le H K hi
    have hpn := place_nodes H K hi
    have hp := p2_pos H
    have e2 : 2 ^ (H + 1) = 2 * 2 ^ H := by rw [Nat.pow_succ]; omega
    have hpl := place_lt H K hi
    have hpu := p2_le (show H ≤ 63 by omega)
    have e1 : IntKind.u64.wrap (2 * IntKind.u64.wrap (((2 ^ H : Nat) : Int) - 1)) = ((2 ^ (H + 1) - 2 : Nat) : Int) := by rw [w64_of (((2 ^ H : Nat) : Int) - 1) (by omega) (by omega), w64_of _ (by omega) (by omega)]; omega
    have e3 : IntKind.u64.wrap (((nodesN (K * 2 ^ H) : Nat) : Int) + ((2 ^ (H + 1) - 2 : Nat) : Int)) = ((placeN H K : Nat) : Int) := by rw [w64_of _ (by omega) (by omega)]; omega
    refine Ev.step (fun k => by simp only [massifref3_Spot.l0]; rfl) ?_
    refine Ev.bind (power_val H (by omega)) ?_
    refine Ev.congr (fun k => by rw [e1, e3, if_pos rfl, show (H : Int) % 256 = H by omega]) (Ev.now _)
  | d + 1, H + 1, K, hH, hK, hb => by
    have hh := height_le (H + 1) K hb
    have hp := p2_pos H
    have e2 : 2 ^ (H + 1) = 2 * 2 ^ H := by rw [Nat.pow_succ]; omega
    have e2' : 2 ^ (H + 1 + 1) = 2 * 2 ^ (H + 1) := by rw [Nat.pow_succ]; omega
    have hpu := p2_le (show H + 1 ≤ 63 by omega)
    have hpu2 : 2 ^ (H + 1) ≤ 4611686018427387904 := Nat.pow_le_pow_right (by omega) (show H + 1 ≤ 62 by omega)
    have hpn := place_nodes (H + 1) K hb
    have hpl := place_lt (H + 1) K hb
    have ek : (K + 1) * 2 ^ (H + 1) = K * 2 ^ (H + 1) + 2 ^ (H + 1) := by rw [Nat.add_mul, Nat.one_mul]
    have em := kid_mid H K
    have el := kid_left H K
    have er := kid_right H K
    -- where (h, i) lies
    have hq : i / 2 ^ d / 2 = K := by rw [hK, Nat.pow_succ, Nat.div_div_eq_div_mul]
    have hd1 : (i / 2 ^ d) * 2 ^ H ≤ i * 2 ^ h := by
      rw [show H = d + h by omega, Nat.pow_add, ← Nat.mul_assoc]
      exact Nat.mul_le_mul_right _ (Nat.div_mul_le_self _ _)
    have hd2 : (i + 1) * 2 ^ h ≤ (i / 2 ^ d + 1) * 2 ^ H := by
      rw [show H = d + h by omega, Nat.pow_add, ← Nat.mul_assoc]
      refine Nat.mul_le_mul_right _ ?_
      have h1 := Nat.div_add_mod i (2 ^ d)
      have h2 := Nat.mod_lt i (p2_pos d)
      rw [Nat.add_mul, Nat.one_mul, Nat.mul_comm]
      omega
    have hle : (i / 2 ^ d + 1) * 2 ^ H ≤ (K + 1) * 2 ^ (H + 1) := by
      rw [← er]
      exact Nat.mul_le_mul_right _ (by omega)
    have hup := place_up (h := h) (i := i) (H := H + 1) (K := K) (by omega) (Nat.le_trans hd2 hle) hb
    have ns : nodesN (K * 2 ^ (H + 1) + 2 ^ H) = nodesN (K * 2 ^ (H + 1)) + (2 ^ (H + 1) - 1) := by
      have h0 := nodes_top H 0 (by omega) hp
      rw [nodes_zero, Nat.add_zero, Nat.add_zero] at h0
      rw [nodes_split K (H + 1) _ (by omega) (by omega), h0]
    have e1 : IntKind.u64.wrap (2 * IntKind.u64.wrap (((2 ^ (H + 1) : Nat) : Int) - 1)) = ((2 ^ (H + 1 + 1) - 2 : Nat) : Int) := by rw [w64_of (((2 ^ (H + 1) : Nat) : Int) - 1) (by omega) (by omega), w64_of _ (by omega) (by omega)]; omega
    have e3 : IntKind.u64.wrap (((nodesN (K * 2 ^ (H + 1)) : Nat) : Int) + ((2 ^ (H + 1 + 1) - 2 : Nat) : Int)) = ((placeN (H + 1) K : Nat) : Int) := by rw [w64_of _ (by omega) (by omega)]; omega
    have e4 : IntKind.u64.wrap (Int.tdiv ((2 ^ (H + 1 + 1) - 2 : Nat) : Int) 2) = ((2 ^ (H + 1) - 1 : Nat) : Int) := by
      rw [show ((2 ^ (H + 1 + 1) - 2 : Nat) : Int) = 2 * ((2 ^ (H + 1) - 1 : Nat) : Int) by omega, Int.mul_tdiv_cancel_left _ (by omega), w64_of _ (by omega) (by omega)]
    have e5 : IntKind.u64.wrap (((nodesN (K * 2 ^ (H + 1)) : Nat) : Int) + ((2 ^ (H + 1) - 1 : Nat) : Int)) = ((nodesN (K * 2 ^ (H + 1) + 2 ^ H) : Nat) : Int) := by rw [ns, w64_of _ (by omega) (by omega)]; omega
    have e6 : wrap64 (((H + 1 : Nat) : Int) - 1) = (H : Int) := by rw [i64_of _ (by omega) (by omega)]; omega
    have hK2 : 2 * K + 1 < 9223372036854775808 := by
      have : K + 1 ≤ (K + 1) * 2 ^ (H + 1) := Nat.le_mul_of_pos_right _ (p2_pos _)
      omega
    have e7 : IntKind.u64.wrap (2 * (K : Int)) = ((2 * K : Nat) : Int) := by rw [w64_of _ (by omega) (by omega)]; omega
    have e8 : IntKind.u64.wrap (((2 * K : Nat) : Int) + 1) = ((2 * K + 1 : Nat) : Int) := by rw [w64_of _ (by omega) (by omega)]; omega
    have hne : ¬ (((placeN h i : Nat) : Int) = ((placeN (H + 1) K : Nat) : Int)) := by omega
    refine Ev.step (fun k => by simp only [massifref3_Spot.l0]; rfl) ?_
    refine Ev.bind (power_val (H + 1) (by omega)) ?_
    by_cases hr : i / 2 ^ d % 2 = 1
    · have eK : 2 * K + 1 = i / 2 ^ d := by omega
      have ih := spot3_loop h i hi d H (2 * K + 1) (by omega) eK (by rw [er]; exact hb)
      rw [em] at ih
      have hge := place_lo (h := h) (i := i) (m := K * 2 ^ (H + 1) + 2 ^ H) (by rw [← em, eK]; exact hd1) hi
      exact Ev.congr (fun k => by rw [e1, e3, if_neg hne, e4, e5, if_pos (by omega), e6, e7, e8]) ih
    · have eK : 2 * K = i / 2 ^ d := by omega
      have hb2 : (2 * K + 1) * 2 ^ H ≤ 4611686018427387904 := by rw [em]; omega
      have ih := spot3_loop h i hi d H (2 * K) (by omega) eK hb2
      rw [el] at ih
      have hlt := place_up (h := h) (i := i) (H := H) (K := 2 * K) (by omega) (by rw [eK]; exact hd2) hb2
      have hpl2 := place_nodes H (2 * K) hb2
      rw [el] at hpl2
      exact Ev.congr (fun k => by rw [e1, e3, if_neg hne, e4, e5, if_neg (by omega), e6, e7]) ih
theorem spot3_val (h i : Nat) (hi : (i + 1) * 2 ^ h ≤ 4611686018427387904) : Ev (fun k => massifref3_Spot.f k ((placeN h i : Nat) : Int)) ((h : Int), (i : Int), true) := by
  have hh := height_le h i hi
  have hpl := place_lt h i hi
  have hlt : i / 2 ^ (62 - h) = 0 := by
    refine Nat.div_eq_of_lt ?_
    have e : 2 ^ (62 - h) * 2 ^ h = 4611686018427387904 := by rw [← Nat.pow_add, show 62 - h + h = 62 by omega]
    by_cases hc : i < 2 ^ (62 - h)
    · exact hc
    · have : (2 ^ (62 - h) + 1) * 2 ^ h ≤ (i + 1) * 2 ^ h := Nat.mul_le_mul_right _ (by omega)
      rw [Nat.add_mul, e, Nat.one_mul] at this
      have := p2_pos h
      omega
  unfold massifref3_Spot.f
  refine Ev.bind (power_val 62 (by omega)) ?_
  have e0 : IntKind.u64.wrap (2 * IntKind.u64.wrap (((2 ^ 62 : Nat) : Int) - 1)) = 9223372036854775806 := by rfl
  have hng : ¬ (((placeN h i : Nat) : Int) > IntKind.u64.wrap (2 * IntKind.u64.wrap (((2 ^ 62 : Nat) : Int) - 1))) := by rw [e0]; omega
  refine Ev.congr (fun k => if_neg hng) ?_
  have := spot3_loop h i hi (62 - h) 62 0 (by omega) hlt.symm (by decide)
  rw [Nat.zero_mul, nodes_zero] at this
  exact this
theorem sib_fit {h i : Nat} (hi : (i + 1) * 2 ^ h ≤ 4611686018427387904) (hh : h < 62) : (sibN i + 1) * 2 ^ h ≤ 4611686018427387904 := by
  have e : 2 ^ (62 - h) * 2 ^ h = 4611686018427387904 := by rw [← Nat.pow_add, show 62 - h + h = 62 by omega]
  have hlt : i < 2 ^ (62 - h) := by
    by_cases hc : i < 2 ^ (62 - h)
    · exact hc
    · have : (2 ^ (62 - h) + 1) * 2 ^ h ≤ (i + 1) * 2 ^ h := Nat.mul_le_mul_right _ (by omega)
      rw [Nat.add_mul, e, Nat.one_mul] at this
      have := p2_pos h
      omega
  have ep : 2 ^ (62 - h) = 2 * 2 ^ (61 - h) := by rw [show 62 - h = (61 - h) + 1 by omega, Nat.pow_succ]; omega
  rw [← e]
  refine Nat.mul_le_mul_right _ ?_
  unfold sibN
  split <;> omega
theorem sibling3_val (h i : Nat) (hi : (i + 1) * 2 ^ h ≤ 4611686018427387904) (hh : h < 62) : Ev (fun k => massifref3_Sibling.f k ((placeN h i : Nat) : Int)) (((placeN h (sibN i) : Nat) : Int), true) := by
  have hs := sib_fit hi hh
  have hi2 : i < 4611686018427387904 := by
    have : i + 1 ≤ (i + 1) * 2 ^ h := Nat.le_mul_of_pos_right _ (p2_pos _)
    omega
  unfold massifref3_Sibling.f
  refine Ev.bind (spot3_val h i hi) ?_
  refine Ev.congr (fun k => if_pos rfl) ?_
  have e1 : ((h : Int) == 62) = false := by rw [beq_eq_false_iff_ne]; omega
  simp only [e1]
  have pv := place3_val h (sibN i) hs
  have ht : Int.tmod (i : Int) 2 = ((i % 2 : Nat) : Int) := by rw [Int.tmod_eq_emod_of_nonneg (by omega)]; rfl
  by_cases hp : i % 2 = 1
  · have e2 : sibN i = i - 1 := by unfold sibN; rw [if_neg (by omega)]
    have e3 : IntKind.u64.wrap ((i : Int) - 1) = ((sibN i : Nat) : Int) := by rw [e2, w64_of _ (by omega) (by omega)]; omega
    refine Ev.step (fun k => by simp only [massifref3_Sibling.j0]; rw [if_neg (by simp), ht, if_pos (by omega), e3]) ?_
    exact Ev.bind pv (Ev.now _)
  · have e2 : sibN i = i + 1 := by unfold sibN; rw [if_pos (by omega)]
    have e3 : IntKind.u64.wrap ((i : Int) + 1) = ((sibN i : Nat) : Int) := by rw [e2, w64_of _ (by omega) (by omega)]; omega
    refine Ev.step (fun k => by simp only [massifref3_Sibling.j0]; rw [if_neg (by simp), ht, if_neg (by omega), e3]) ?_
    exact Ev.bind pv (Ev.now _)

/-! Peak, Path. -/
theorem peak3_loop (i : Nat) (hi : i < 4611686018427387904) (l : List (Nat × Nat)) (hl : l.length ≤ 63) (hh : ∀ s ∈ l, s.1 ≤ 62) (o : Nat) (ho : o < l.length) (hit : Und i (l[o]'ho)) (hno : ∀ j (hj : j < l.length), j < o → ¬ Und i (l[j]'hj)) : ∀ (d j : Nat), j + d = o →
    Ev (fun k => massifref3_Peak.l0 k (i : Int) (spotsOf l) (j : Int)) ((o : Int), true)
  | 0, j, hj => by
    obtain rfl : j = o := by omega
    have h62 := hh _ (List.getElem_mem ho)
    have hpu := p2_le (show (l[j]).1 ≤ 63 by omega)
    have hp := p2_pos (l[j]).1
    have eq : Int.tdiv (i : Int) ((2 ^ (l[j]).1 : Nat) : Int) = ((i / 2 ^ (l[j]).1 : Nat) : Int) := by rw [Int.tdiv_eq_ediv_of_nonneg (by omega)]; rfl
    have hdl : i / 2 ^ (l[j]).1 ≤ i := Nat.div_le_self _ _
    refine Ev.step (fun k => by simp only [massifref3_Peak.l0]; rw [if_pos (by rw [spots_lenP]; omega), if_pos (by omega), rd_spotsP l j ho]) ?_
    have hpv : Ev (fun k => massifref3_Power.f k (wrap64 ((⟨((l[j]).1 : Int), ((l[j]).2 : Int)⟩ : S74).f0))) ((2 ^ (l[j]).1 : Nat) : Int) := by
      show Ev (fun k => massifref3_Power.f k (wrap64 ((l[j]).1 : Int))) _
      rw [i64_of ((l[j]).1 : Int) (by omega) (by omega)]
      exact power_val (l[j]).1 (by omega)
    refine Ev.bind hpv ?_
    have hu : i / 2 ^ (l[j]).1 = (l[j]).2 := hit
    exact Ev.congr (fun k => by rw [if_neg (by omega), eq, w64_nat _ (by omega), hu, if_pos rfl]) (Ev.now _)
  | d + 1, j, hj => by
    have hjl : j < l.length := by omega
    have ih := peak3_loop i hi l hl hh o ho hit hno d (j + 1) (by omega)
    have h62 := hh _ (List.getElem_mem hjl)
    have hpu := p2_le (show (l[j]).1 ≤ 63 by omega)
    have hp := p2_pos (l[j]).1
    have eq : Int.tdiv (i : Int) ((2 ^ (l[j]).1 : Nat) : Int) = ((i / 2 ^ (l[j]).1 : Nat) : Int) := by rw [Int.tdiv_eq_ediv_of_nonneg (by omega)]; rfl
    have hdl : i / 2 ^ (l[j]).1 ≤ i := Nat.div_le_self _ _
    refine Ev.step (fun k => by simp only [massifref3_Peak.l0]; rw [if_pos (by rw [spots_lenP]; omega), if_pos (by omega), rd_spotsP l j hjl]) ?_
    have hpv : Ev (fun k => massifref3_Power.f k (wrap64 ((⟨((l[j]).1 : Int), ((l[j]).2 : Int)⟩ : S74).f0))) ((2 ^ (l[j]).1 : Nat) : Int) := by
      show Ev (fun k => massifref3_Power.f k (wrap64 ((l[j]).1 : Int))) _
      rw [i64_of ((l[j]).1 : Int) (by omega) (by omega)]
      exact power_val (l[j]).1 (by omega)
    refine Ev.bind hpv ?_
    have hu : ¬ (i / 2 ^ (l[j]).1 = (l[j]).2) := hno j hjl (by omega)
    exact Ev.congr (fun k => by rw [if_neg (by omega), eq, w64_nat _ (by omega), if_neg (by show ¬ (_ = ((l[j]).2 : Int)); omega), up_one j (by omega)]) ih
theorem over_und {i n : Nat} (h : i < n) (hn : n ≤ 4611686018427387904) : overN i n < (topsN n).length ∧ (topsN n)[overN i n]? = some (hiN i n, i / 2 ^ hiN i n) ∧ ∀ j, j < overN i n → ∀ s, (topsN n)[j]? = some s → ¬ Und i s := by
  have hpl := proof_len h hn
  obtain ⟨T, h1, h2, h3⟩ := over_split h hn
  refine ⟨hpl.1, hpl.2.1, ?_⟩
  intro j hj s hs hu
  have hT : s ∈ T := by
    rw [h1, List.getElem?_append_left (by omega)] at hs
    exact List.mem_of_getElem? hs
  have hm : s ∈ topsF 63 n := by
    rw [show topsF 63 n = topsN n from rfl, h1]
    exact List.mem_append.2 (.inl hT)
  have l1 := tops_lv hm hu
  have l2 := (hi_lv h (by omega)).1
  have := Lv.uniq l1 l2
  have := h3 s hT
  omega
theorem peak3_val (i n : Nat) (h : i < n) (hn : n ≤ 4611686018427387904) : Ev (fun k => massifref3_Peak.f k (i : Int) (n : Int)) (((overN i n : Nat) : Int), true) := by
  obtain ⟨h1, h2, h3⟩ := over_und h hn
  unfold massifref3_Peak.f
  refine Ev.congr (fun k => if_neg (by omega)) ?_
  refine Ev.bind (tops_val n hn) ?_
  rw [List.getElem?_eq_getElem h1] at h2
  injection h2 with h2
  refine peak3_loop i (by omega) (topsN n) (topsF_len 63 n) (fun s hs => by have := (tops_fit 63 n s hs).1; omega) (overN i n) h1 ?_ ?_ (overN i n) 0 (by omega)
  · rw [h2]
    rfl
  · intro j hj hjo
    exact h3 j hjo _ (List.getElem?_eq_getElem hj)
theorem sib_sib (z : Nat) : sibN (sibN z) = z := by
  unfold sibN
  split <;> split <;> omega
theorem half_cast (z : Nat) (hz : z < 4611686018427387904) : IntKind.u64.wrap (Int.tdiv (z : Int) 2) = ((z / 2 : Nat) : Int) := by
  rw [Int.tdiv_eq_ediv_of_nonneg (by omega), w64_of _ (by omega) (by omega)]
  rfl
theorem path3_loop (i n : Nat) (h : i < n) (hn : n ≤ 4611686018427387904) : ∀ (d k : Nat), k + d = hiN i n → Ev (fun j => massifref3_Path.l0 j (placesOf (sibsN i k)) ((hiN i n : Nat) : Int) (k : Int) ((i / 2 ^ k : Nat) : Int)) (placesOf (sibsN i (hiN i n)), true)
  | 0, k, hk => by
    have : k = hiN i n := by omega
    subst this
    exact Ev.step (f := fun _ => some (placesOf (sibsN i (hiN i n)), true)) (fun j => by simp only [massifref3_Path.l0]; rw [if_neg (by omega)]) (Ev.now _)
  | d + 1, k, hk => by
    have hle := hi_le h hn
    have ih := path3_loop i n h hn d (k + 1) (by omega)
    have hfit : (i / 2 ^ k + 1) * 2 ^ k ≤ 4611686018427387904 := by
      have hm : (k, sibN (i / 2 ^ k)) ∈ proofN i n := by
        unfold proofN
        refine List.mem_append.2 (.inl ?_)
        simp only [sibsN, List.mem_map, List.mem_range]
        exact ⟨k, by omega, rfl⟩
      have hf := sib_fit (Nat.le_trans (proof_fit h hn _ hm) hn) (show k < 62 by omega)
      simp only at hf
      rw [sib_sib] at hf
      exact hf
    have hq : i / 2 ^ k ≤ i := Nat.div_le_self _ _
    have e1 : ((k : Int) + 1) % 256 = ((k + 1 : Nat) : Int) := by omega
    have e2 : IntKind.u64.wrap (Int.tdiv ((i / 2 ^ k : Nat) : Int) 2) = ((i / 2 ^ (k + 1) : Nat) : Int) := by
      rw [half_cast _ (Nat.lt_of_le_of_lt hq (by omega)), half_up]
    have e3 : placesOf (sibsN i (k + 1)) = placesOf (sibsN i k) ++ [((placeN k (sibN (i / 2 ^ k)) : Nat) : Int)] := by
      simp [placesOf, sibsN, List.range_succ]
    have hlen : (placesOf (sibsN i k)).length < 17592186044416 := by simp [placesOf, sibsN]; omega
    rw [e3] at ih
    refine Ev.step (fun j => by simp only [massifref3_Path.l0]; rw [if_pos (by omega)]) ?_
    refine Ev.bind (place3_val k (i / 2 ^ k) hfit) ?_
    refine Ev.bind (sibling3_val k (i / 2 ^ k) hfit (by omega)) ?_
    exact Ev.congr (fun j => by rw [if_pos hlen, e1, e2]) ih
theorem path3_val (i n : Nat) (h : i < n) (hn : n ≤ 4611686018427387904) : Ev (fun k => massifref3_Path.f k (i : Int) (n : Int)) (placesOf (sibsN i (hiN i n)), true) := by
  obtain ⟨h1, h2, _⟩ := over_und h hn
  unfold massifref3_Path.f
  refine Ev.bind (peak3_val i n h hn) ?_
  refine Ev.congr (fun k => if_pos rfl) ?_
  refine Ev.bind (tops_val n hn) ?_
  rw [List.getElem?_eq_getElem h1] at h2
  injection h2 with h2
  have hp := path3_loop i n h hn (hiN i n) 0 (by omega)
  rw [Nat.pow_zero, Nat.div_one] at hp
  have hrd : (rd_T74 (spotsOf (topsN n)) ((overN i n : Nat) : Int)).f0 = ((hiN i n : Nat) : Int) := by rw [rd_spotsP _ _ h1, h2]
  refine Ev.congr (fun k => ?_) hp
  simp only
  rw [if_pos (by omega), if_pos (by rw [spots_lenP]; omega), hrd]
  rfl
/-! massifref7.Places. -/
theorem rd_placesP (l : List (Nat × Nat)) (j : Nat) (hj : j < l.length) : rd (placesOf l) (j : Int) = ((placeN (l[j]).1 (l[j]).2 : Nat) : Int) := by
  simp [rd, placesOf, List.getD_eq_getElem?_getD, List.getElem?_eq_getElem hj]
theorem placesOf_cons (s : Nat × Nat) (l : List (Nat × Nat)) : placesOf (s :: l) = [((placeN s.1 s.2 : Nat) : Int)] ++ placesOf l := rfl
theorem places7_past (l : List (Nat × Nat)) (hl : l.length ≤ 63) (o : Nat) : ∀ (d j : Nat) (acc : List Int), j + d = l.length → o < j → acc.length + d ≤ 200 →
    Ev (fun k => massifref7_Places.l0 k acc (o : Int) (placesOf l) (j : Int)) (acc ++ placesOf (l.drop j), 0)
  | 0, j, acc, hj, _, _ => by
    rw [List.drop_of_length_le (by omega), show placesOf [] = [] from rfl, List.append_nil]
    exact Ev.step (f := fun _ => some (acc, 0)) (fun k => by simp only [massifref7_Places.l0]; rw [if_neg (by rw [places_lenP]; omega)]) (Ev.now _)
  | d + 1, j, acc, hj, ho, ha => by
    have hjl : j < l.length := by omega
    rw [List.drop_eq_getElem_cons hjl, placesOf_cons, ← List.append_assoc]
    have ih := places7_past l hl o d (j + 1) (acc ++ [((placeN (l[j]).1 (l[j]).2 : Nat) : Int)]) (by omega) (by omega) (by simp; omega)
    exact Ev.step (fun k => by simp only [massifref7_Places.l0]; rw [if_pos (by rw [places_lenP]; omega), if_neg (by omega), if_pos (by omega), if_pos (by omega), rd_placesP l j hjl, up_one j (by omega)]) ih
theorem places7_loop (l : List (Nat × Nat)) (hl : l.length ≤ 63) (o : Nat) (ho : o < l.length) : ∀ (d j : Nat) (acc : List Int), j + d = o → acc.length + (l.length - j) ≤ 200 →
    Ev (fun k => massifref7_Places.l0 k acc (o : Int) (placesOf l) (j : Int)) (acc ++ placesOf ((l.drop j).eraseIdx d), 0)
  | 0, j, acc, hj, ha => by
    obtain rfl : j = o := by omega
    rw [List.drop_eq_getElem_cons ho, List.eraseIdx_cons_zero]
    have := places7_past l hl j (l.length - (j + 1)) (j + 1) acc (by omega) (by omega) (by omega)
    exact Ev.step (fun k => by simp only [massifref7_Places.l0]; rw [if_pos (by rw [places_lenP]; omega), if_pos trivial, up_one j (by omega)]) this
  | d + 1, j, acc, hj, ha => by
    have hjl : j < l.length := by omega
    rw [List.drop_eq_getElem_cons hjl, List.eraseIdx_cons_succ, placesOf_cons, ← List.append_assoc]
    have ih := places7_loop l hl o ho d (j + 1) (acc ++ [((placeN (l[j]).1 (l[j]).2 : Nat) : Int)]) (by omega) (by simp; omega)
    exact Ev.step (fun k => by simp only [massifref7_Places.l0]; rw [if_pos (by rw [places_lenP]; omega), if_neg (by omega), if_pos (by omega), if_pos (by omega), rd_placesP l j hjl, up_one j (by omega)]) ih
/-- What proof.Places answers. -/
def proofAns (i n : Nat) : List Int × Int := if 4611686018427387904 < n then ([], 30) else if n ≤ i then ([], 32) else (placesOf (proofN i n), 0)
theorem places7_val (i n : Nat) : Ev (fun k => massifref7_Places.f k (i : Int) (n : Int)) (proofAns i n) := by
  unfold massifref7_Places.f proofAns
  by_cases c1 : 4611686018427387904 < n
  · rw [if_pos c1]
    exact Ev.congr (fun k => if_pos (by omega)) (Ev.now _)
  · rw [if_neg c1]
    refine Ev.congr (fun k => if_neg (by omega)) ?_
    by_cases c2 : n ≤ i
    · rw [if_pos c2]
      exact Ev.congr (fun k => if_pos (by omega)) (Ev.now _)
    · rw [if_neg c2]
      refine Ev.congr (fun k => if_neg (by omega)) ?_
      have h : i < n := by omega
      have hn : n ≤ 4611686018427387904 := by omega
      obtain ⟨h1, _, _⟩ := over_und h hn
      have hle := hi_le h hn
      refine Ev.bind (path3_val i n h hn) ?_
      refine Ev.bind (peak3_val i n h hn) ?_
      refine Ev.bind (peaks3_val n hn) ?_
      have hl := places7_loop (topsN n) (topsF_len 63 n) (overN i n) h1 (overN i n) 0 (placesOf (sibsN i (hiN i n))) (by omega) (by
        have h63 : (topsN n).length ≤ 63 := topsF_len 63 n
        rw [places_lenP]
        simp only [sibsN, List.length_map, List.length_range]
        omega)
      rw [List.drop_zero] at hl
      have e : placesOf (proofN i n) = placesOf (sibsN i (hiN i n)) ++ placesOf ((topsN n).eraseIdx (overN i n)) := by
        unfold proofN placesOf
        rw [List.map_append]
      rw [e]
      exact hl
theorem places7_calls (i n : Nat) (w : World) :
    Calls Tryd.prog 16 #[.int .u64 i, .int .u64 n] w fun e w' => ∃ v, e = .returned (.tuple #[v, .int .i64 (proofAns i n).2]) ∧ Kd.R (Kd.int .u64) 30 w' w.heap.size (fun _ => True) v (proofAns i n).1 ∧ Below w.heap.size w w' := by
  obtain ⟨k, hk⟩ := (places7_val i n).rounds
  exact massifref7_Places.calls k _ _ _ _ w hk
theorem proof_length {i n : Nat} (h : i < n) (hn : n ≤ 4611686018427387904) : (proofN i n).length ≤ 124 := by
  have h1 := (proof_len h hn).2.2
  have h2 := hi_le h hn
  have h3 : (topsN n).length ≤ 63 := topsF_len 63 n
  omega
theorem proofAns_len (i n : Nat) : (proofAns i n).1.length ≤ 124 := by
  unfold proofAns
  split
  · simp
  · split
    · simp
    · have := proof_length (i := i) (n := n) (by omega) (by omega)
      simpa [placesOf] using this
end Go.Proofs.YtefnonlhepekdaaDoor.M

set_option linter.unusedVariables false
set_option linter.unusedSimpArgs false
namespace Go.Proofs.YtefnonlhepekdaaDoor.M
open Go.RowKit Go.Proofs.YtefnonlhepekdaaDoorW.PrintWords Go.Proofs.YtefnonlhepekdaaDoorW.PrintLast Go.Proofs.YtefnonlhepekdaaDoorW.PrintMore Go.Proofs.YtefnonlhepekdaaDoor.Leaf

theorem reps_int (k : IntKind) {w : World} {base : Nat} {ok : Nat → Prop} {xs : List Int} {cs : List Value} (h : Reps ((Kd.int k).M w base ok) (Kd.int k).sz xs cs) : cs = xs.map (Value.int k) := by
  have hl : cs.length = xs.length := by have := h.1; rwa [show (Kd.int k).sz = 1 from rfl, Nat.mul_one] at this
  refine List.ext_getElem? (fun j => ?_)
  rw [List.getElem?_map]
  by_cases hj : j < xs.length
  · have h2 := h.2 j xs[j] (List.getElem?_eq_getElem hj)
    have h3 : (cs.drop (j * 1)).take 1 = [Value.int k xs[j]] := h2
    rw [Nat.mul_one] at h3
    have h4 : ((cs.drop j).take 1)[0]? = some (Value.int k xs[j]) := by rw [h3]; rfl
    rw [List.getElem?_take_of_lt (by omega), List.getElem?_drop, Nat.add_zero] at h4
    rw [h4, List.getElem?_eq_getElem hj]
    rfl
  · rw [List.getElem?_eq_none (by omega), List.getElem?_eq_none (by omega)]
    rfl
theorem int_reps (k : IntKind) (w : World) (base : Nat) (ok : Nat → Prop) (xs : List Int) : Reps ((Kd.int k).M w base ok) (Kd.int k).sz xs (xs.map (Value.int k)) := by
  refine ⟨by rw [List.length_map]; exact (Nat.mul_one _).symm, fun j p hj => ?_⟩
  show ((xs.map (Value.int k)).drop (j * 1)).take 1 = [Value.int k p]
  rw [Nat.mul_one]
  have hl := (List.getElem?_eq_some_iff.1 hj).1
  rw [List.drop_eq_getElem_cons (by rw [List.length_map]; exact hl)]
  simp [(List.getElem?_eq_some_iff.1 hj).2]
/-- A row of numbers of one's own, laid open. -/
structure BlkD (k : IntKind) (e : Nat) (w : World) (base : Nat) (v : Value) (xs : List Int) (g cap : Nat) (cur : Array Value) : Prop where
  val : v = .slice (some ⟨g, 0, none⟩) xs.length cap
  base_le : base ≤ g
  heap : w.heap[g]? = some (.cells cur e (0, 0))
  len : xs.length ≤ cap
  max : cap ≤ maxLen
  size : cur.size = cap
  row : cur.toList.take xs.length = xs.map (Value.int k)
theorem R_open {k : IntKind} {e : Nat} {w : World} {base : Nat} {v : Value} {xs : List Int} (h : (Kd.int k).R e w base (fun _ => True) v xs) (h0 : 0 < xs.length) : ∃ g cap cur, BlkD k e w base v xs g cap cur := by
  obtain ⟨_, inner, ho, hr⟩ := h
  have hi := reps_int k hr
  subst hi
  rcases ho.2 with ⟨_, hz⟩ | ⟨g, cap, cur, he, hb, hh, hnc, hcm, hcs, ht⟩
  · omega
  · have e1 : (Kd.int k).sz = 1 := rfl
    rw [e1, Nat.mul_one] at hcs ht
    exact ⟨g, cap, cur, he, hb, hh, hnc, hcm, hcs, ht⟩
theorem BlkD.R {k : IntKind} {e : Nat} {w : World} {base : Nat} {v : Value} {xs : List Int} {g cap : Nat} {cur : Array Value} (h : BlkD k e w base v xs g cap cur) : (Kd.int k).R e w base (fun _ => True) v xs := by
  refine ⟨fun _ _ => trivial, xs.map (Value.int k), ⟨?_, .inr ⟨g, cap, cur, h.val, h.base_le, h.heap, h.len, h.max, ?_, ?_⟩⟩, int_reps k _ _ _ xs⟩
  · rw [List.length_map]; exact (Nat.mul_one _).symm
  · rw [h.size]; exact (Nat.mul_one _).symm
  · rw [show (Kd.int k).sz = 1 from rfl, Nat.mul_one]; exact h.row
theorem cell_of {w : World} {g : Nat} {cur : Array Value} {e : TypeId} (h : w.heap[g]? = some (.cells cur e (0, 0))) (o : Nat) : w.cell? ⟨g, o, none⟩ = cur[o]? := by
  show (match w.heap[g]? with | some (.cells c _ _) => if (none : Option Nat).isSome then none else c[o]? | _ => none) = _
  rw [h]
  rfl
theorem frozen_of {w : World} {g : Nat} {cur : Array Value} {e : TypeId} (h : w.heap[g]? = some (.cells cur e (0, 0))) (o : Nat) (hf : o < cur.size) : w.frozen? ⟨g, o, none⟩ = false := by
  unfold World.frozen?
  simp [h]
set_option maxHeartbeats 2000000 in
set_option maxRecDepth 100000 in
theorem delete_one (i j : Nat) (hj : j = i + 1) (w : World) (base : Nat) (v : Value) (xs : List Int) (h : (Kd.int .u64).R 30 w base (fun _ => True) v xs) (hi : i < xs.length) :
    Calls Tryd.prog 65 #[v, .int .i64 i, .int .i64 j] w fun e w' => ∃ v', e = .returned v' ∧ (Kd.int .u64).R 30 w' base (fun _ => True) v' (xs.eraseIdx i) ∧ Frm (fun k => some k = v.ownBlock) w w' ∧ v'.ownBlock = v.ownBlock := by
  obtain ⟨g, cap, cur, B⟩ := R_open h (by omega)
  obtain ⟨rfl, hbase, hh, hlen, hmax, hsize, hrow⟩ := B
  have hmax' : cap ≤ 9223372036854775807 := hmax
  have hglt : g < w.heap.size := (Array.getElem?_eq_some_iff.1 hh).1
  generalize hn : xs.length = n at *
  have hjn : j ≤ n := by omega
  have hij : i < j := by omega
  -- the numbers that are moved to the left
  obtain ⟨news, hnews⟩ : ∃ news, news = (xs.drop j).map (Value.int .u64) := ⟨_, rfl⟩
  have hnl : news.length = n - j := by rw [hnews]; simp [hn]
  have hget : ∀ j, j < n → cur[j]? = (xs.map (Value.int .u64))[j]? := by
    intro j hj
    rw [← hrow, List.getElem?_take_of_lt hj, Array.getElem?_toList]
  obtain ⟨A, hA, hsrc⟩ : ∃ A : Addr, (if cap = j then some (⟨g, 0, none⟩ : Addr) else some ⟨g, j, none⟩) = some A ∧ Hid (∀ t u, news[t]? = some u → w.drew.cell? (A.add t) = some u) := by
    by_cases hc : cap = j
    · refine ⟨⟨g, 0, none⟩, by simp [hc], fun t u hu => ?_⟩
      have h0 : news.length = 0 := by omega
      rw [List.length_eq_zero_iff.1 h0] at hu
      simp at hu
    · refine ⟨⟨g, j, none⟩, by simp [hc], fun t u hu => ?_⟩
      have ht : t < n - j := by
        have := (List.getElem?_eq_some_iff.1 hu).1
        omega
      rw [hnews, List.map_drop, List.getElem?_drop] at hu
      rw [Addr.add_lit]
      show w.cell? ⟨g, j + t, none⟩ = some u
      rw [cell_of hh, hget _ (by omega)]
      exact hu
  obtain ⟨W1, hW1⟩ : ∃ W1, W1 = w.drew.setCells g (0 + i * 1) news := ⟨_, rfl⟩
  have hhd : w.drew.heap[g]? = some (.cells cur 30 (0, 0)) := hh
  obtain ⟨c1, hc1, hs1, ht1⟩ := setCells_row (g := g) news (0 + i * 1) w.drew cur hhd (by omega)
  rw [← hW1] at hc1
  have s1 : Hid (news.length = (n - j) * 1) := by show news.length = _; omega
  have s2 : Hid (∀ u ∈ news, u.oneCell' = true) := by
    intro u hu
    rw [hnews] at hu
    obtain ⟨x, _, rfl⟩ := List.mem_map.1 hu
    rfl
  have s3 : Hid (∀ t, t < news.length → (w.drew.cell? ⟨g, 0 + i * 1 + t, none⟩).isSome = true ∧ w.drew.frozen? ⟨g, 0 + i * 1 + t, none⟩ = false) := by
    intro t ht
    refine ⟨?_, frozen_of hhd _ (by omega)⟩
    rw [cell_of hhd, Array.getElem?_eq_getElem (by omega)]
    rfl
  have hcl : ∀ ty, (Builtin.clear_ #[31] ty #[.slice (some ⟨g, i + (n - j), none⟩) (n - (i + (n - j))) (cap - (i + (n - j)))]).run Tryd.prog W1 = .ok (.tuple #[]) (W1.setCells g (i + (n - j)) (List.replicate (n - (i + (n - j))) (.int .u64 0))) :=
    fun ty => Lib.run_clear_slice W1 _ _ ty _ Tryd.underlying31 (fun w => (by kernel_rfl)) rfl rfl g (i + (n - j)) _ _ (by omega) (fun t ht => by rw [cell_of hc1, Array.getElem?_eq_getElem (by omega)]; rfl) (fun t ht => frozen_of hc1 _ (by omega))
  have S1 := Aside0.mk hc1
  have S2 := Aside0.mk ht1
  have S3 := Aside0.mk hs1
  have hW : Hid (W1 = w.drew.setCells g (0 + i * 1) news) := hW1
  have S4 := Aside0.mk hrow
  have S5 := Aside0.mk hnews
  have hic : i ≤ cap := by omega
  have mixed : Tryd.prog.follows .mixedOrders = true := by kernel_rfl
  have HJ := Aside0.mk hj
  have hjc : j ≤ cap := by omega
  clear hj
  clear hW1 hc1 ht1 hs1 hrow hnews hget hh hhd h
  go_enter Tryd.func65, Tryd.ntmps65
  go_wp2_with fail
  go_region_law_o (refine step_append_room rfl (.tmp 22) (.tmp 25) 31 rfl 30 _ 1 Tryd.underlying31 rfl rfl g 0 i cap (by simp [Act.eval, Act.put]) A (n - j) (cap - j) news (by simp [Act.eval, Act.put]) s1.out hsrc.out s2.out (by omega) s3.out ?_; rw [← hW.out])
  go_wp2
  go_ret
  have hj := HJ.out
  rw [show n - (i + (n - j)) = 1 by omega]
  have hh2 := S1.out
  obtain ⟨c2, h2, hs2, ht2⟩ := setCells_row (g := g) (List.replicate 1 (Value.int .u64 0)) (i + (n - j)) W1 c1 hh2 (by rw [S3.out, hsize, List.length_replicate]; omega)
  have hxe : (xs.eraseIdx i).length = i + (n - j) := by rw [List.length_eraseIdx_of_lt (by omega)]; omega
  refine ⟨.slice (some ⟨g, 0, none⟩) (i + (n - j)) cap, rfl, BlkD.R (g := g) (cap := cap) (cur := c2) ⟨by rw [hxe], hbase, h2, by omega, hmax, by rw [hs2, S3.out, hsize], ?_⟩, ?_, rfl⟩
  · have hc : cur.toList.length = cap := by rw [Array.length_toList]; exact hsize
    have hc1 : c1.toList.length = cap := by rw [Array.length_toList, S3.out]; exact hsize
    have e1 : (cur.toList.take (0 + i * 1)) = (xs.take i).map (Value.int .u64) := by
      rw [show 0 + i * 1 = i by omega, List.map_take, ← S4.out, List.take_take, show min i n = i by omega]
    have e2 : ((xs.take i).map (Value.int .u64) ++ news).length = i + (n - j) := by rw [List.length_append, List.length_map, List.length_take, hnl, hn]; omega
    rw [hxe, ht2, List.append_assoc, List.take_left' (by rw [List.length_take, hc1]; omega), S2.out, e1, List.take_left' e2, S5.out, List.eraseIdx_eq_take_drop_succ, List.map_append, hj]
  · refine ⟨?_, ?_, ?_, ?_, fun k hk hne => ?_⟩
    · exact (setCells_same g _ _ _).1.trans (by rw [hW.out]; exact (setCells_same g _ _ _).1)
    · exact (setCells_same g _ _ _).2.1.trans (by rw [hW.out]; exact (setCells_same g _ _ _).2.1)
    · exact (setCells_same g _ _ _).2.2.1.trans (by rw [hW.out]; exact (setCells_same g _ _ _).2.2.1)
    · exact Nat.le_of_eq ((setCells_same g _ _ _).2.2.2.trans (by rw [hW.out]; exact (setCells_same g _ _ _).2.2.2)).symm
    · have hkg : k ≠ g := fun e => hne (by rw [e]; rfl)
      rw [setCells_far _ _ k hkg, hW.out, setCells_far _ _ k hkg]
      rfl
end Go.Proofs.YtefnonlhepekdaaDoor.M

set_option linter.unusedVariables false
set_option linter.unusedSimpArgs false
namespace Go.Proofs.YtefnonlhepekdaaDoor.M
open Go.RowKit Go.Proofs.YtefnonlhepekdaaDoorW.PrintWords Go.Proofs.YtefnonlhepekdaaDoorW.PrintLast Go.Proofs.YtefnonlhepekdaaDoorW.PrintMore Go.Proofs.YtefnonlhepekdaaDoor.Leaf

theorem placesOf_eraseIdx (l : List (Nat × Nat)) (k : Nat) : (placesOf l).eraseIdx k = placesOf (l.eraseIdx k) := by
  unfold placesOf
  rw [List.eraseIdx_eq_take_drop_succ, List.eraseIdx_eq_take_drop_succ, List.map_append, List.map_take, List.map_drop]
set_option maxHeartbeats 1000000 in
set_option maxRecDepth 100000 in
theorem proof_places_none (i n : Nat) (w : World) (h : 4611686018427387904 < n ∨ n ≤ i) :
    Calls Tryd.prog 18 #[.int .u64 i, .int .u64 n] w fun e w' => e = .returned (.tuple #[.slice none 0 0, .int .i64 (if 4611686018427387904 < n then 30 else 32)]) ∧ Below w.heap.size w w' := by
  by_cases hn : 4611686018427387904 < n
  · have e0 : (if 4611686018427387904 < n then (30 : Int) else 32) = 30 := if_pos hn
    rw [e0]
    have hd : ((n : Int) > 4611686018427387904) := by omega
    go_enter Tryd.func18, Tryd.ntmps18
    go_wp2
    go_ret2
    exact ⟨rfl, Below.refl _ _⟩
  · have e0 : (if 4611686018427387904 < n then (30 : Int) else 32) = 32 := if_neg hn
    rw [e0]
    have hd : ¬ ((n : Int) > 4611686018427387904) := by omega
    obtain ⟨k, hk⟩ := (path_none i n (by omega)).rounds
    have HK := Aside0.mk hk
    clear hk
    go_enter Tryd.func18, Tryd.ntmps18
    go_wp2_with fail
    refine (pos_Path.calls k i n _ _ _ HK.out).mono ?_
    rintro e w1 ⟨v1, rfl, hr, hb⟩
    obtain ⟨A1, c1, e1⟩ := Kd.R_slice hr
    rw [e1]
    have HB := Aside0.mk hb
    clear hr hb e1
    go_wp2
    go_ret2
    exact ⟨rfl, HB.out⟩
set_option maxHeartbeats 1000000 in
set_option maxRecDepth 100000 in
theorem proof_places_some (i n : Nat) (w : World) (h : i < n) (hn : n ≤ 4611686018427387904) :
    Calls Tryd.prog 18 #[.int .u64 i, .int .u64 n] w fun e w' => ∃ v, e = .returned (.tuple #[v, .int .i64 0]) ∧ Kd.R (Kd.int .u64) 30 w' w.heap.size (fun _ => True) v (placesOf (proofN i n)) ∧ Below w.heap.size w w' := by
  have hd : ¬ ((n : Int) > 4611686018427387904) := by omega
  have hlen := proof_length h hn
  have hpl := proof_len h hn
  have hN : placesOf (proofN i n) = placesOf (sibsN i (hiN i n)) ++ (placesOf (topsN n)).eraseIdx (overN i n) := by
    rw [placesOf_eraseIdx]
    unfold proofN placesOf
    rw [List.map_append]
  have hO : overN i n ≤ 64 := pop_lef 64 _
  have hol : overN i n < (placesOf (topsN n)).length := by simpa [placesOf] using hpl.1
  have hl2 : (placesOf (sibsN i (hiN i n))).length ≤ 62 := by have := hi_le h hn; simp [placesOf, sibsN]; exact this
  have hl3 : (placesOf (topsN n)).length ≤ 63 := by simp only [placesOf, List.length_map]; exact topsF_len 63 n
  obtain ⟨k1, hk1⟩ := (path_val i n h hn).rounds
  obtain ⟨k2, hk2⟩ := (peak_val i n h hn).rounds
  obtain ⟨k3, hk3⟩ := (peaks_val n hn).rounds
  rw [hN]
  clear hN hlen hpl
  generalize placesOf (sibsN i (hiN i n)) = X at *
  generalize placesOf (topsN n) = Y at *
  generalize overN i n = o at *
  have HK1 := Aside0.mk hk1
  have HK2 := Aside0.mk hk2
  have HK3 := Aside0.mk hk3
  clear hk1 hk2 hk3
  go_enter Tryd.func18, Tryd.ntmps18
  go_wp2_with fail
  refine (pos_Path.calls k1 i n _ _ _ HK1.out).mono ?_
  rintro e w1 ⟨v1, rfl, hr, hb⟩
  obtain ⟨A1, c1, e1⟩ := Kd.R_slice hr
  subst e1
  have HR := Aside0.mk hr
  have HB := Aside0.mk hb
  clear hr hb
  go_wp2_with fail
  refine (pos_Peak.calls k2 i n _ _ _ HK2.out).mono ?_
  rintro e w2 ⟨rfl, hd2⟩
  have HD2 := Aside0.mk hd2
  clear hd2
  go_wp2_with fail
  refine (pos_Peaks.calls k3 n _ _ HK3.out).mono ?_
  rintro e w3 ⟨v3, rfl, hr3, hb3⟩
  obtain ⟨A3, c3, e3⟩ := Kd.R_slice hr3
  subst e3
  have HR3 := Aside0.mk hr3
  have HB3 := Aside0.mk hb3
  clear hr3 hb3
  go_wp2_with fail
  refine (delete_one o (o + 1) rfl w3 w2.heap.size _ Y HR3.out (by omega)).mono ?_
  rintro e w4 ⟨v4, rfl, hr4, hf4, ho4⟩
  have hs12 := HD2.out.below.size
  have hs23 := HB3.out.size
  have hlt1 := Kd.R_lt HR.out
  have hb3 := Kd.R_base HR3.out
  have hr1 := R_frm (flat_int .u64) (Kd.R_below (Kd.R_below HR.out HD2.out.below) HB3.out) hf4 (fun k hk hs => by have := hlt1 k hk; have := hb3 k hs.symm; omega)
  have hbl : Below w.heap.size w w4 := below_on (blt (blt HB.out HD2.out.below) HB3.out) (by have := HB.out.size; omega) (Below.refl _ _) |>.trans (hf4.below (by have := HB.out.size; omega) (fun k hk => by have := hb3 k hk.symm; have := HB.out.size; omega))
  have hs4 := hf4.size
  have hw4 : w.heap.size ≤ w4.heap.size := by have := HB.out.size; omega
  have hle : (Y.eraseIdx o).length ≤ 63 := Nat.le_trans (List.length_eraseIdx_le ..) hl3
  obtain ⟨A4, c4, e4⟩ := Kd.R_slice hr4
  subst e4
  have HR1 := Aside0.mk hr1
  have HC4 := Aside0.mk (Kd.R_reads' hr4).2.2
  have HBL := Aside0.mk hbl
  have HW4 := Aside0.mk hw4
  have HLE := Aside0.mk hle
  have HL2 := Aside0.mk hl2
  have H4 := Aside0.mk hlt1
  have H5 := Aside0.mk (Kd.R_base HR.out)
  clear hr4 hr1 hbl hf4 ho4 hle hl2 hlt1 hb3 hs12 hs23 hs4 hw4 hol hl3
  go_wp2_with (at_builtin; go_loud (refine app_row .u64 w.heap.size rfl (.tmp 26) (.tmp 32) 31 30 (.int .u64 0) 8 rfl Tryd.underlying31 info30 rfl (by omega) _ _ _ _ _ _ rfl rfl HR1.out HC4.out HW4.out (by have := HLE.out; have := HL2.out; omega) ?_; intro A5 c5 w5 hr5 hf5 hat5; have HR5 := Aside0.mk hr5; have HF5 := Aside0.mk hf5; clear hr5 hf5 hat5))
  go_ret2
  exact ⟨_, rfl, HR5.out, HBL.out.trans (HF5.out.below HW4.out (fun k hk => H5.out k hk.symm))⟩
theorem proof_places (i n : Nat) (w : World) :
    Calls Tryd.prog 18 #[.int .u64 i, .int .u64 n] w fun e w' => ∃ v, e = .returned (.tuple #[v, .int .i64 (proofAns i n).2]) ∧ Kd.R (Kd.int .u64) 30 w' w.heap.size (fun _ => True) v (proofAns i n).1 ∧ Below w.heap.size w w' := by
  by_cases h : 4611686018427387904 < n ∨ n ≤ i
  · refine (proof_places_none i n w h).mono ?_
    rintro e w' ⟨he, hb⟩
    have e1 : proofAns i n = ([], if 4611686018427387904 < n then 30 else 32) := by
      unfold proofAns
      by_cases c1 : 4611686018427387904 < n
      · rw [if_pos c1, if_pos c1]
      · rw [if_neg c1, if_neg c1, if_pos (by omega)]
    rw [e1]
    exact ⟨_, he, Kd.R_nil _ _ _ _ _, hb⟩
  · have e1 : proofAns i n = (placesOf (proofN i n), 0) := by
      unfold proofAns
      rw [if_neg (by omega), if_neg (by omega)]
    rw [e1]
    exact proof_places_some i n w (by omega) (by omega)
end Go.Proofs.YtefnonlhepekdaaDoor.M

set_option linter.unusedVariables false
set_option linter.unusedSimpArgs false
namespace Go.Proofs.YtefnonlhepekdaaDoor.M
open Go.RowKit Go.Proofs.YtefnonlhepekdaaDoorW.PrintWords Go.Proofs.YtefnonlhepekdaaDoorW.PrintLast Go.Proofs.YtefnonlhepekdaaDoorW.PrintMore Go.Proofs.YtefnonlhepekdaaDoor.Leaf

/-- A number in as few bytes as it needs, by at most f + 1 of them. -/
def shortF : Nat → Nat → List Nat
  | 0, x => [x]
  | f + 1, x => if x < 128 then [x] else (128 + x % 128) :: shortF f (x / 128)
def shortI (x : Nat) : List Int := (shortF 9 x).map fun (b : Nat) => (b : Int)
theorem shortF_len : ∀ f x, (shortF f x).length ≤ f + 1
  | 0, x => by simp [shortF]
  | f + 1, x => by
    have := shortF_len f (x / 128)
    simp only [shortF]
    split <;> simp <;> omega
theorem or128 (x : Nat) : Go.bits .or .u8 ((x : Int) % 256) 128 = ((128 + x % 128 : Nat) : Int) := by
  have h := u8_or_nat (x % 256) 128 (by omega) (by omega)
  have h2 : x % 256 ||| 128 = 128 + x % 128 := by
    have : ∀ y : Fin 256, y.val ||| 128 = 128 + y.val % 128 := by decide +kernel
    have h3 := this ⟨x % 256, by omega⟩
    simp only at h3
    omega
  rw [h2] at h
  exact h
theorem short_loop (f : Nat) : ∀ (x : Nat) (xs : List Int), x < 2 ^ (7 * f + 1) → f ≤ 9 → xs.length + f ≤ 9 → Ev (fun k => num_Short.l0 k (x : Int) xs) (xs ++ (shortF f x).map fun (b : Nat) => (b : Int)) := by
  induction f with
  | zero =>
    intro x xs hx hf hl
    simp at hx
    exact Ev.step (f := fun _ => some (xs ++ [(x : Int)])) (fun k => by simp only [num_Short.l0]; rw [if_neg (by omega), if_pos (by omega), show (x : Int) % 256 = x by omega]) (Ev.now _)
  | succ f ih =>
    intro x xs hx hf hl
    by_cases c : x < 128
    · rw [show shortF (f + 1) x = [x] by simp only [shortF]; rw [if_pos c]]
      exact Ev.step (f := fun _ => some (xs ++ [(x : Int)])) (fun k => by simp only [num_Short.l0]; rw [if_neg (by omega), if_pos (by omega), show (x : Int) % 256 = x by omega]) (Ev.now _)
    · rw [show shortF (f + 1) x = (128 + x % 128) :: shortF f (x / 128) by simp only [shortF]; rw [if_neg c]]
      have ih := ih (x / 128) (xs ++ [((128 + x % 128 : Nat) : Int)]) (by rw [show 7 * (f + 1) + 1 = (7 * f + 1) + 7 by omega, Nat.pow_add] at hx; omega) (by omega) (by simp; omega)
      rw [List.map_cons, show xs ++ ((128 + x % 128 : Nat) : Int) :: (shortF f (x / 128)).map (fun (b : Nat) => (b : Int)) = xs ++ [((128 + x % 128 : Nat) : Int)] ++ (shortF f (x / 128)).map (fun (b : Nat) => (b : Int)) by simp]
      refine Ev.step (fun k => by simp only [num_Short.l0]; rw [if_pos (by omega), if_pos (by omega), or128, show (x : Int) / 128 = ((x / 128 : Nat) : Int) by omega]) ih
theorem short_val (x : Nat) (hx : x < 18446744073709551616) : Ev (fun k => num_Short.f k (x : Int)) (shortI x) := by
  have h := short_loop 9 x [] (by omega) (by omega) (by simp)
  exact h
theorem shortI_len (x : Nat) : (shortI x).length ≤ 10 := by
  have := shortF_len 9 x
  simpa [shortI] using this
end Go.Proofs.YtefnonlhepekdaaDoor.M

set_option linter.unusedVariables false
set_option linter.unusedSimpArgs false
namespace Go.Proofs.YtefnonlhepekdaaDoor.M
open Go.RowKit Go.Proofs.YtefnonlhepekdaaDoorW.PrintWords Go.Proofs.YtefnonlhepekdaaDoorW.PrintLast Go.Proofs.YtefnonlhepekdaaDoorW.PrintMore Go.Proofs.YtefnonlhepekdaaDoor.Leaf

set_option maxHeartbeats 1000000 in
set_option maxRecDepth 100000 in
theorem grow_nil (n : Nat) (w : World) (hn : n ≤ 140737488355328) :
    Calls Tryd.prog 127 #[.slice none 0 0, .int .i64 n] w fun e w' => ∃ v, e = .returned v ∧ Kd.R (Kd.int .u8) 5 w' w.heap.size (fun _ => True) v [] ∧ Below w.heap.size w w' := by
  by_cases h0 : n = 0
  · subst h0
    go_enter Tryd.func127, Tryd.ntmps127
    go_wp2
    go_ret
    exact ⟨_, rfl, Kd.R_nil _ _ _ _ _, Below.refl _ _⟩
  · have hp : 0 < n := by omega
    go_enter Tryd.func127, Tryd.ntmps127
    go_wp2_with (at_builtin; go_loud (refine Kd.R_append_zeros (Kd.int .u8) (w0 := w) w.heap.size rfl (.tmp 20) (.tmp 21) 22 3 5 (.int .u8 0) 1 rfl Tryd.underlying22 Tryd.underlying3 info5 rfl (by decide) (by omega) (.slice none 0 0) [] (0 : Int) (kx := .i64) (n : Int) (fun _ => True) rfl rfl rfl (fun _ _ => trivial) (Kd.R_nil _ _ _ _ _) (by omega) (Below.refl _ _) (Nat.le_refl _) (by simp; omega) ?_; intro v1 w1 hr hb hg hat; obtain ⟨A1, c1, e1⟩ := Kd.R_slice hr; have HR := Aside0.mk hr; have HB := Aside0.mk hb; have HE := Aside0.mk e1; clear hr hb hg hat e1; rw [HE.out]))
    go_ret
    have hr := HR.out
    rw [HE.out] at hr
    exact ⟨_, rfl, by have := Kd.R_take hr (Nat.zero_le _); rwa [List.take_zero] at this, HB.out⟩

theorem rd_rows {w : World} {A : Option Addr} {n : Nat} {LL : List (List Int)} (h : Kd.C (Kd.slice 5 (Kd.int .u8)) w A n LL) (j : Nat) (hj : j < LL.length) : ∃ ad A0 c0, A = some ad ∧ w.cell? (ad.add j) = some (.slice A0 (LL[j]).length c0) ∧ (LL[j]).length ≤ c0 ∧ (Kd.int .u8).C w A0 (LL[j]).length (LL[j]) := by
  have hl := Kd.C_len h
  obtain ⟨ad, c, e, _, hK, hc0⟩ := Kd.C_get h ([] : List Int) (j : Int) (by omega) (by omega)
  have hc : ∀ i u, c[i]? = some u → w.cell? (ad.add (j * 1 + i)) = some u := hc0
  rw [Int.toNat_natCast, List.getD_eq_getElem?_getD, List.getElem?_eq_getElem hj] at hK
  obtain ⟨A0, c0, rfl, l0, g0⟩ := hK
  exact ⟨ad, A0, c0, e, by have hq := hc 0 _ rfl; rwa [Nat.mul_one, Nat.add_zero] at hq, l0, g0⟩
theorem flat_take_le (LL : List (List Int)) (j : Nat) : (LL.take j).flatten.length ≤ LL.flatten.length := by
  conv => rhs; rw [← List.take_append_drop j LL]
  rw [List.flatten_append, List.length_append]
  omega
theorem flat_take_succ (LL : List (List Int)) (j : Nat) (hj : j < LL.length) : (LL.take (j + 1)).flatten = (LL.take j).flatten ++ LL[j] := by
  rw [List.take_add_one, List.getElem?_eq_getElem hj, List.flatten_append]
  simp

/-- The first j rows, one behind the other. -/
def fcat (LL : List (List Int)) (j : Nat) : List Int := (LL.take j).flatten
theorem fcat_zero (LL : List (List Int)) : fcat LL 0 = [] := by simp [fcat]
theorem fcat_all (LL : List (List Int)) : fcat LL LL.length = LL.flatten := by simp [fcat]
theorem fcat_le (LL : List (List Int)) (j : Nat) : (fcat LL j).length ≤ LL.flatten.length := flat_take_le LL j
theorem fcat_succ (LL : List (List Int)) (j : Nat) (hj : j < LL.length) : fcat LL (j + 1) = fcat LL j ++ LL[j] := flat_take_succ LL j hj
/-- How long the first j rows are together. -/
def flen (LL : List (List Int)) (j : Nat) : Nat := (LL.take j).flatten.length
theorem flen_zero (LL : List (List Int)) : flen LL 0 = 0 := by simp [flen]
theorem flen_le (LL : List (List Int)) (j : Nat) : flen LL j ≤ LL.flatten.length := flat_take_le LL j
theorem flen_succ (LL : List (List Int)) (j : Nat) (hj : j < LL.length) : flen LL (j + 1) = flen LL j + (LL[j]).length := by
  unfold flen
  rw [flat_take_succ LL j hj, List.length_append]
set_option maxHeartbeats 1000000 in
set_option maxRecDepth 100000 in
theorem concat_rows (A : Option Addr) (c : Nat) (LL : List (List Int)) (w : World) (hC : Kd.C (Kd.slice 5 (Kd.int .u8)) w A LL.length LL) (hl : LL.length ≤ 1000000) (hn : LL.flatten.length ≤ 140737488355328) :
    Calls Tryd.prog 104 #[.slice A LL.length c] w fun e w' => ∃ v, e = .returned v ∧ Kd.R (Kd.int .u8) 5 w' w.heap.size (fun _ => True) v LL.flatten ∧ Below w.heap.size w w' := by
  have HC := Aside0.mk hC
  clear hC
  go_enter Tryd.func104, Tryd.ntmps104
  go_wp2_with fail
  go_loop [3, 11] (fun s i => ∃ j : Nat, j ≤ LL.length ∧ i = .int .i64 j ∧ s = .int .i64 ((flen LL j : Nat) : Int)) (fun _ i => LL.length - (intOf i).toNat)
  case atStart => exact ⟨0, Nat.zero_le _, rfl, by rw [flen_zero]; rfl⟩
  case round =>
    obtain ⟨j, hj, rfl, rfl⟩ := hrel
    by_cases hlt : j < LL.length
    · obtain ⟨ad, A0, c0, ea, hx, hc0, hC0⟩ := rd_rows HC.out j hlt
      subst ea
      have hb1 := flen_le LL (j + 1)
      have hs := flen_succ LL j hlt
      have HS := Aside0.mk hs
      have hb2 : flen LL j + (LL[j]).length ≤ 140737488355328 := by omega
      clear hs hC0
      go_wp2_with fail
      go_round
      case rel => exact ⟨j + 1, by omega, by go_num, by rw [HS.out]; go_num⟩
      case measure => simp [intOf]; omega
    · have hjl : j = LL.length := by omega
      subst hjl
      have hn' : flen LL LL.length ≤ 140737488355328 := Nat.le_trans (flen_le _ _) hn
      go_wp2_with fail
      refine (grow_nil _ w hn').mono ?_
      rintro e w1 ⟨v1, rfl, hr, hb⟩
      obtain ⟨A1, cap1, e1⟩ := Kd.R_slice hr
      rw [e1] at hr ⊢
      have HR := Aside0.mk hr
      have HB := Aside0.mk hb
      clear hr hb e1
      go_wp2_with fail
      go_loopw [6, 27] (fun s i wr => ∃ j : Nat, j ≤ LL.length ∧ i = .int .i64 j ∧ Aside0 (Kd.R (Kd.int .u8) 5 wr w.heap.size (fun _ => True) s (fcat LL j)) ∧ Aside0 (Below w.heap.size w wr)) (fun _ i _ => LL.length - (intOf i).toNat)
      case atStart => exact ⟨0, Nat.zero_le _, rfl, by rw [fcat_zero]; exact HR, HB⟩
      case round =>
        obtain ⟨j, hj, rfl, HR2, HB2⟩ := hrel
        clear HR HB
        by_cases hlt : j < LL.length
        · obtain ⟨ad, A0, c0, ea, hx, hc0, hC0⟩ := rd_rows (Kd.C_below HC.out HB2.out) j hlt
          subst ea
          have hb1 := fcat_le LL (j + 1)
          have hs := fcat_succ LL j hlt
          rw [hs, List.length_append] at hb1
          have HS := Aside0.mk hs
          have HC0 := Aside0.mk hC0
          clear hs hC0
          have hbs := HB2.out.size
          go_wp2_with (at_builtin; go_loud (refine app_row .u8 w.heap.size rfl (.tmp 31) (.tmp 32) 22 5 (.int .u8 0) 1 rfl Tryd.underlying22 info5 rfl (by omega) _ _ _ _ _ _ rfl rfl HR2.out HC0.out hbs (by omega) ?_; intro A2 c2 w2 hr2 hf2 hat2; have HR3 := Aside0.mk hr2; have HF := Aside0.mk hf2; clear hr2 hf2 hat2))
          go_roundw
          case rel => exact ⟨j + 1, by omega, by go_num, ⟨by rw [HS.out]; exact HR3.out⟩, ⟨HB2.out.trans (HF.out.below hbs (fun k hk => Kd.R_base HR2.out k hk.symm))⟩⟩
          case measure => simp [intOf]; omega
        · have hjl : j = LL.length := by omega
          subst hjl
          obtain ⟨A2, cap2, e2⟩ := Kd.R_slice HR2.out
          have HE := Aside0.mk e2
          clear e2
          go_wp2_with fail
          go_ret
          exact ⟨_, rfl, by have := HR2.out; rwa [fcat_all] at this, HB2.out⟩
end Go.Proofs.YtefnonlhepekdaaDoor.M
