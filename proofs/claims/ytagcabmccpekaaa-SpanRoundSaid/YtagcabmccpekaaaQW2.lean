/- massiflaw20.SpanPlaces returns true. slices.Delete of one number of a row of the call's own. proof.Places. proof.write and proof.Encode. massiflaw7.awake. What massiflaw7.ProofSets asks of a proof's places, as plain facts; the law's walk. What massiflaw20.SpanSets asks of a span's places, as plain facts. A region that draws its order, of which the orders are walked one by one, each as a list. Two hashes, compared. massiflaw10.awake. What massiflaw10.ManyOne asks, as plain facts; the law's walk. massiflaw10.numbers; pos.Parent of a node that has a parent. What massiflaw10.ManySets asks, as plain facts; the law's walk. massiflaw10.stays and massiflaw10.apart (of places). span.Decode. massiflaw20.row and .text, massifref7.SameHashes and massifref20.Same of what is the same. -/
import Derived.Test.YtagcabmccpekaaaQW1
import Derived.Test.YtagcabmccpekaaaQW0
import Derived.Shelf.RegionOpenPlain
import Derived.Deep.RegionLaw
import Derived.Lib.SliceRun
import Derived.RegionTactic
import Derived.Deep.RegionHeld3
import Derived.ChangeKeysEq
import Derived.Laws.StructEq
import Derived.Great.BuildSlice
import Derived.Deep.MidRow
import Derived.BigQuiet
import Derived.StillTailTactics
import Derived.ChangeSlices
import Derived.Laws.Cover3
set_option linter.unusedVariables false
set_option linter.unusedSimpArgs false
namespace Go.Proofs.Ytagcabmccpekaaa.M
open Go.RowKit Go.Proofs.YtagcabmccpekaaaW.PrintWords Go.Proofs.YtagcabmccpekaaaW.PrintLast Go.Proofs.YtagcabmccpekaaaW.PrintMore Go.Proofs.Ytagcabmccpekaaa.Leaf

/-- Numbers, the first j of which have been marked. -/
def mk (x : Int) (L : List Int) (j : Nat) : List Int := List.replicate j x ++ L.drop j
theorem mk_set (x : Int) (L : List Int) (j : Nat) (hj : j < L.length) : (mk x L j).set j x = mk x L (j + 1) := by
  unfold mk
  rw [List.drop_eq_getElem_cons hj, List.set_append_right _ _ (by simp), List.length_replicate, Nat.sub_self, List.set_cons_zero, List.replicate_succ', List.append_assoc]
  rfl
/-- Two values that own no block together. -/
def Apart (u v : Value) : Prop := ∀ k, u.ownBlock = some k → v.ownBlock ≠ some k
theorem Apart.symm {u v : Value} (h : Apart u v) : Apart v u := fun k h1 h2 => h k h2 h1
/-- The world in the first loop of SpanPlaces: j numbers of a and b have been marked. -/
def SpL1 (w : World) (va vb vw : Value) (L : List Int) (j : Nat) (wr : World) : Prop :=
  Kd.R (Kd.int .u64) 22 wr w.heap.size (fun _ => True) va (mk 201 L j) ∧ Kd.R (Kd.int .u64) 22 wr w.heap.size (fun _ => True) vb (mk 202 L j) ∧
    Kd.R (Kd.int .u64) 22 wr w.heap.size (fun _ => True) vw L ∧ Below w.heap.size w wr
theorem SpL1.next {w : World} {ga gb na nb ca cb : Nat} {vw : Value} {L : List Int} {j : Nat} {wr : World} (h : SpL1 w (.slice (some ⟨ga, 0, none⟩) na ca) (.slice (some ⟨gb, 0, none⟩) nb cb) vw L j wr) (hj : j < L.length)
    (hab : Apart (.slice (some ⟨ga, 0, none⟩) na ca) (.slice (some ⟨gb, 0, none⟩) nb cb)) (haw : Apart vw (.slice (some ⟨ga, 0, none⟩) na ca)) (hbw : Apart vw (.slice (some ⟨gb, 0, none⟩) nb cb)) :
    SpL1 w (.slice (some ⟨ga, 0, none⟩) na ca) (.slice (some ⟨gb, 0, none⟩) nb cb) vw L (j + 1) ((wr.setCell ⟨ga, j, none⟩ (.int .u64 201)).setCell ⟨gb, j, none⟩ (.int .u64 202)) := by
  obtain ⟨h1, h2, h3, h4⟩ := h
  have oa : ∀ n c, (Value.slice (some ⟨ga, 0, none⟩) n c).ownBlock = some ga := fun _ _ => by simp [Value.ownBlock]
  have ob : ∀ n c, (Value.slice (some ⟨gb, 0, none⟩) n c).ownBlock = some gb := fun _ _ => by simp [Value.ownBlock]
  have hne : ga ≠ gb := fun he => hab ga (oa _ _) (by rw [ob, he])
  have s1 := Kd.R_putn h1 (j : Int) (201 : Int)
  rw [Int.toNat_natCast, mk_set 201 L j hj] at s1
  have f1 := Frm.of_set wr ⟨ga, j, none⟩ (.int .u64 201)
  have f2 := Frm.of_set (wr.setCell ⟨ga, j, none⟩ (.int .u64 201)) ⟨gb, j, none⟩ (.int .u64 202)
  have h2' := R_frm (flat_int .u64) h2 f1 (fun k hk he => by rw [ob] at hk; injection hk with hk; exact hne (by rw [hk]; exact he.symm))
  have s2 := Kd.R_putn h2' (j : Int) (202 : Int)
  rw [Int.toNat_natCast, mk_set 202 L j hj] at s2
  refine ⟨R_frm (flat_int .u64) s1 f2 (fun k hk he => by rw [oa] at hk; injection hk with hk; exact hne (by rw [hk]; exact he)), s2,
    R_frm (flat_int .u64) (R_frm (flat_int .u64) h3 f1 (fun k hk he => haw k hk (by rw [oa, he]))) f2 (fun k hk he => hbw k hk (by rw [ob, he])), ?_⟩
  have hba := Kd.R_base h1 ga (oa _ _)
  have hbb := Kd.R_base h2 gb (ob _ _)
  exact (h4.setCell hba _).setCell hbb _
theorem SpL1.drewN {w : World} {va vb vw : Value} {L : List Int} {j : Nat} {wr : World} (h : SpL1 w va vb vw L j wr) (n : Nat) : SpL1 w va vb vw L j (wr.drewN n) :=
  ⟨Kd.R_drewN h.1 n, Kd.R_drewN h.2.1 n, Kd.R_drewN h.2.2.1 n, pw_below_drewN h.2.2.2 n⟩
/-- Behind the two appends. -/
def SpL2 (w : World) (va vb vw : Value) (L : List Int) (wr : World) : Prop :=
  Kd.R (Kd.int .u64) 22 wr w.heap.size (fun _ => True) va (List.replicate (L.length + 1) 201) ∧ Kd.R (Kd.int .u64) 22 wr w.heap.size (fun _ => True) vb (List.replicate (L.length + 1) 202) ∧
    Kd.R (Kd.int .u64) 22 wr w.heap.size (fun _ => True) vw L ∧ Below w.heap.size w wr
theorem apart_step {u v v' : Value} {n : Nat} (h : Apart u v) (hu : ∀ k, u.ownBlock = some k → k < n) (ha : v'.ownBlock = v.ownBlock ∨ ∃ b, v'.ownBlock = some b ∧ n ≤ b) : Apart u v' := fun k h1 h2 => by
  rcases ha with ha | ⟨b, ha, hb⟩
  · exact h k h1 (ha ▸ h2)
  · rw [ha] at h2
    injection h2 with h2
    have := hu k h1
    omega
theorem SpL2.make {w wr w5 w6 : World} {va vb vw va' vb' : Value} {L : List Int} (h : SpL1 w va vb vw L L.length wr) (hab : Apart va vb) (hwa : Apart vw va) (hwb : Apart vw vb)
    (h1 : Kd.R (Kd.int .u64) 22 w5 w.heap.size (fun _ => True) va' (List.replicate L.length 201 ++ [201])) (f1 : Frm (fun k => some k = va.ownBlock) wr w5) (a1 : va'.ownBlock = va.ownBlock ∨ ∃ b, va'.ownBlock = some b ∧ wr.heap.size ≤ b)
    (h2 : Kd.R (Kd.int .u64) 22 w6 w.heap.size (fun _ => True) vb' (List.replicate L.length 202 ++ [202])) (f2 : Frm (fun k => some k = vb.ownBlock) w5 w6) (a2 : vb'.ownBlock = vb.ownBlock ∨ ∃ b, vb'.ownBlock = some b ∧ w5.heap.size ≤ b) :
    SpL2 w va' vb' vw L w6 ∧ Apart va' vb' := by
  have hvw : Apart va' vb := Apart.symm (apart_step hab.symm (Kd.R_lt h.2.1) a1)
  refine ⟨⟨?_, ?_, ?_, ?_⟩, apart_step hvw (Kd.R_lt h1) a2⟩
  · rw [List.replicate_succ']
    exact R_frm (flat_int .u64) h1 f2 (fun k hk he => hvw k hk he.symm)
  · rw [List.replicate_succ']
    exact h2
  · exact R_frm (flat_int .u64) (R_frm (flat_int .u64) h.2.2.1 f1 (fun k hk he => hwa k hk he.symm)) f2 (fun k hk he => hwb k hk he.symm)
  · have hs := h.2.2.2.size
    exact (h.2.2.2.trans (f1.below hs (fun k hk => Kd.R_base h.1 k hk.symm))).trans (f2.below (Nat.le_trans hs f1.size) (fun k hk => Kd.R_base h.2.1 k hk.symm))
end Go.Proofs.Ytagcabmccpekaaa.M

namespace Go.Proofs.Ytagcabmccpekaaa.M
open Go.RowKit Go.Proofs.YtagcabmccpekaaaW.PrintWords Go.Proofs.YtagcabmccpekaaaW.PrintLast Go.Proofs.YtagcabmccpekaaaW.PrintMore Go.Proofs.Ytagcabmccpekaaa.Leaf

theorem int_reps (k : IntKind) (w : World) (base : Nat) (ok : Nat → Prop) (xs : List Int) : Reps ((Kd.int k).M w base ok) (Kd.int k).sz xs (xs.map (Value.int k)) := by
  refine ⟨by rw [List.length_map]; exact (Nat.mul_one _).symm, fun j p hj => ?_⟩
  show ((xs.map (Value.int k)).drop (j * 1)).take 1 = [Value.int k p]
  rw [Nat.mul_one]
  have hl := (List.getElem?_eq_some_iff.1 hj).1
  rw [List.drop_eq_getElem_cons (by rw [List.length_map]; exact hl)]
  simp [(List.getElem?_eq_some_iff.1 hj).2]
/-- A row of numbers of one's own, laid open. -/
structure Blk (k : IntKind) (e : Nat) (w : World) (base : Nat) (v : Value) (xs : List Int) (g cap : Nat) (cur : Array Value) : Prop where
  val : v = .slice (some ⟨g, 0, none⟩) xs.length cap
  base_le : base ≤ g
  heap : w.heap[g]? = some (.cells cur e (0, 0))
  len : xs.length ≤ cap
  max : cap ≤ maxLen
  size : cur.size = cap
  row : cur.toList.take xs.length = xs.map (Value.int k)
theorem Blk.R {k : IntKind} {e : Nat} {w : World} {base : Nat} {v : Value} {xs : List Int} {g cap : Nat} {cur : Array Value} (h : Blk k e w base v xs g cap cur) : (Kd.int k).R e w base (fun _ => True) v xs := by
  refine ⟨fun _ _ => trivial, xs.map (Value.int k), ⟨?_, .inr ⟨g, cap, cur, h.val, h.base_le, h.heap, h.len, h.max, ?_, ?_⟩⟩, int_reps k _ _ _ xs⟩
  · rw [List.length_map]; exact (Nat.mul_one _).symm
  · rw [h.size]; exact (Nat.mul_one _).symm
  · rw [show (Kd.int k).sz = 1 from rfl, Nat.mul_one]; exact h.row
end Go.Proofs.Ytagcabmccpekaaa.M

namespace Go.Proofs.Ytagcabmccpekaaa.M
open Go.RowKit Go.Proofs.YtagcabmccpekaaaW.PrintWords Go.Proofs.YtagcabmccpekaaaW.PrintLast Go.Proofs.YtagcabmccpekaaaW.PrintMore Go.Proofs.Ytagcabmccpekaaa.Leaf

end Go.Proofs.Ytagcabmccpekaaa.M

namespace Go.Proofs.Ytagcabmccpekaaa.M
open Go.RowKit Go.Proofs.YtagcabmccpekaaaW.PrintWords Go.Proofs.YtagcabmccpekaaaW.PrintLast Go.Proofs.YtagcabmccpekaaaW.PrintMore Go.Proofs.Ytagcabmccpekaaa.Leaf

end Go.Proofs.Ytagcabmccpekaaa.M

namespace Go.Proofs.Ytagcabmccpekaaa.M
open Go.RowKit Go.Proofs.YtagcabmccpekaaaW.PrintWords Go.Proofs.YtagcabmccpekaaaW.PrintLast Go.Proofs.YtagcabmccpekaaaW.PrintMore Go.Proofs.Ytagcabmccpekaaa.Leaf

end Go.Proofs.Ytagcabmccpekaaa.M

namespace Go.Proofs.Ytagcabmccpekaaa.M
open Go.RowKit Go.Proofs.YtagcabmccpekaaaW.PrintWords Go.Proofs.YtagcabmccpekaaaW.PrintLast Go.Proofs.YtagcabmccpekaaaW.PrintMore Go.Proofs.Ytagcabmccpekaaa.Leaf

end Go.Proofs.Ytagcabmccpekaaa.M

namespace Go.Proofs.Ytagcabmccpekaaa.M
open Go.RowKit Go.Proofs.YtagcabmccpekaaaW.PrintWords Go.Proofs.YtagcabmccpekaaaW.PrintLast Go.Proofs.YtagcabmccpekaaaW.PrintMore Go.Proofs.Ytagcabmccpekaaa.Leaf

end Go.Proofs.Ytagcabmccpekaaa.M

namespace Go.Proofs.Ytagcabmccpekaaa.M
open Go.RowKit

/-- From here on one operation alone may come up, each time. -/
def seqK (md : Region.Mode) (ops : Array Oper) : List Nat → Array Bool → Bool
  | [], listed => (Region.ready md ops listed).isEmpty
  | k :: ks, listed => decide (Region.ready md ops listed = [k]) && seqK md ops ks (listed.setIfInBounds k true)
theorem wpAny_seqK {P : Program} {md : Region.Mode} {ops : Array Oper} {Q : Exit → Act → World → Prop} : ∀ (ks : List Nat) (l : List Oper) (listed : Array Bool) (a : Act) (w : World), seqK md ops ks listed = true → l = ks.filterMap (fun k => ops[k]?) → wpList P ops Q l a w → wpAny P md ops Q ks.length listed a w
  | [], l, listed, a, w, hB, hl, h => by subst hl; exact ⟨by simpa [seqK] using hB, h⟩
  | k :: ks, l, listed, a, w, hB, hl, h => by
    simp only [seqK, Bool.and_eq_true, decide_eq_true_eq] at hB
    refine ⟨fun h1 => (by rw [hB.1] at h1; cases h1), fun i hi => ?_⟩
    rw [hB.1] at hi
    have hik : i = k := by simpa using hi
    subst hik
    cases ho : ops[i]? with
    | none =>
      unfold wpOp
      simp only [ho]
      refine wpAny_seqK ks l _ a w hB.2 ?_ h
      rw [hl, List.filterMap_cons, ho]
    | some o =>
      rw [List.filterMap_cons, ho] at hl
      subst hl
      have hw : wpOp P ops Q i (wpList P ops Q (ks.filterMap (fun k => ops[k]?))) a w := by unfold wpOp; simp only [ho]; exact h
      exact wpOp_mono (fun a' w' h' => wpAny_seqK ks _ _ a' w' hB.2 rfl h') hw
theorem wpList_one {P : Program} {ops : Array Oper} {K : Act → World → Prop} {a : Act} {w : World} (h : K a w) : wpList P ops (fun e a w => e = .normal ∧ K a w) [] a w := ⟨rfl, h⟩
def noOper : Oper := { dst := none, op := .move (.tmp 0), type := 0, pos := "", after := #[], guard := none }
/-- The same, the list to be written out. -/
theorem wpAny_seqL {P : Program} {md : Region.Mode} {ops : Array Oper} {Q : Exit → Act → World → Prop} (ks : List Nat) (listed : Array Bool) (a : Act) (w : World) (hB : (seqK md ops ks listed && ks.all fun k => decide (k < ops.size)) = true) (h : wpList P ops Q (ks.map (fun k => (ops[k]?).getD noOper)) a w) : wpAny P md ops Q ks.length listed a w := by
  rw [Bool.and_eq_true, List.all_eq_true] at hB
  refine wpAny_seqK ks _ listed a w hB.1 ?_ h
  have hk := hB.2
  clear hB h
  induction ks with
  | nil => rfl
  | cons k ks ih =>
    have h1 : k < ops.size := by simpa using hk k List.mem_cons_self
    rw [List.map_cons, List.filterMap_cons, ih (fun x hx => hk x (List.mem_cons_of_mem _ hx)), Array.getElem?_eq_getElem h1]
    rfl
/-- A region that is shown to come to its end. -/
theorem wp_region_normal {P : Program} {id : Nat} {ops : Array Oper} {b : Bool} {Q : Exit → Act → World → Prop} {a : Act} {w : World} (h : ∀ K : Act → World → Prop, (∀ a w, Q .normal a w → K a w) → (Code.region id ops b).wp P (fun e a w => e = .normal ∧ K a w) a w) : (Code.region id ops b).wp P Q a w :=
  Code.wp_mono (fun e a w he => by obtain ⟨rfl, hk⟩ := he; exact hk) (h (fun a w => Q .normal a w) (fun _ _ hq => hq))
end Go.Proofs.Ytagcabmccpekaaa.M

namespace Go.Proofs.Ytagcabmccpekaaa.M
open Go.RowKit Go.Proofs.YtagcabmccpekaaaW.PrintWords Go.Proofs.YtagcabmccpekaaaW.PrintLast Go.Proofs.YtagcabmccpekaaaW.PrintMore

theorem items_eq (d : Nat) (h g : Hsh) (w : World) : ∀ (is : List Nat), (∀ i ∈ is, i < 32) → (Op.eqItems (d + 1) 5 1 h.cells.toArray g.cells.toArray is).run Try.prog w = .ok (is.all fun i => h.b.getD i 0 == g.b.getD i 0) w
  | [], _ => by simp [Op.eqItems]
  | i :: is, hi => by
    have ih := items_eq d h g w is (fun j hj => hi j (List.mem_cons_of_mem _ hj))
    have h32 := hi i List.mem_cons_self
    have key : ∀ x : Hsh, x.cells.toArray[i * 1]? = some (.int .u8 (x.b.getD i 0)) := by
      intro x
      have hl := x.len
      rw [Nat.mul_one, List.getElem?_toArray]
      unfold Hsh.cells
      rw [List.getElem?_map, List.getElem?_eq_getElem (by omega)]
      simp [List.getD_eq_getElem?_getD, List.getElem?_eq_getElem (show i < x.b.length by omega)]
    have hp : Try.prog.plainKey 5 = true := by kernel_rfl
    rw [Op.eqItems]
    simp only [Sem.run_bind, run_part_plain w hp (key h), run_part_plain w hp (key g), Result.andThen_ok, run_equalIn_int w d 5 .u8 .u8 _ _ Try.underlying5]
    rw [List.all_cons]
    cases hq : (h.b.getD i 0 == g.b.getD i 0) with
    | false => simp
    | true => simp only [Bool.not_true, Bool.false_eq_true, if_false, Bool.true_and]; exact ih
theorem hash_dec (h g : Hsh) : ((List.range 32).all fun i => h.b.getD i 0 == g.b.getD i 0) = decide (h = g) := by
  rw [Bool.eq_iff_iff]
  simp only [List.all_eq_true, List.mem_range, beq_iff_eq, decide_eq_true_eq]
  constructor
  · intro hk
    have hb : h.b = g.b := by
      refine List.ext_getElem (by rw [h.len, g.len]) (fun i h1 h2 => ?_)
      have := hk i (by rw [← h.len]; exact h1)
      simpa [List.getD_eq_getElem?_getD, List.getElem?_eq_getElem h1, List.getElem?_eq_getElem h2] using this
    cases h; cases g; simp at hb; subst hb; rfl
  · rintro rfl i _; rfl
theorem hash_equalIn (d : Nat) (h g : Hsh) (w : World) : (Op.equalIn (d + 2) 73 h.val g.val).run Try.prog w = .ok (decide (h = g)) w := by
  obtain ⟨i, hi⟩ : ∃ i, Try.prog.info? 5 = some i := by
    have hs : (Try.prog.info? 5).isSome = true := by kernel_rfl
    exact Option.isSome_iff_exists.1 hs
  have hc : Try.prog.cellsOf 5 = 1 := by kernel_rfl
  unfold Hsh.val
  rw [show d + 2 = (d + 1) + 1 from rfl, run_equalIn_array w (d + 1) _ _ Try.underlying73 hi, hc, items_eq d h g w _ (fun j hj => List.mem_range.1 hj), hash_dec]
theorem hash_guard (op : BinOp) (x y : Operand) (h g : Hsh) (w : World) : (eqGuard op 73 x y h.val g.val).run Try.prog w = .ok () w := by
  have hm : Try.prog.eqGuardType Try.prog.depth 73 = false := by kernel_rfl
  exact run_eqGuard_agg w op _ x y _ _ hm
theorem hash_neq (h g : Hsh) (w : World) : (binOp .neq 73 h.val g.val).run Try.prog w = .ok (.bool (!decide (h = g))) w := by
  have := run_neq_struct (P := Try.prog) w 73 h.cells.toArray g.cells.toArray
  have e := hash_equalIn 9998 h g w
  unfold Hsh.val at e ⊢
  rw [this, e]
  rfl
/-- A slice of one hash is made. -/
theorem run_build_hash (h : Hsh) (W : World) : (Instr.buildSlice 43 1 #[(0, .agg h.cells.toArray)]).run Try.prog W = .ok (.slice (some ⟨W.heap.size, 0, none⟩) 1 1) (W.alloc (.cells h.cells.toArray 73)) := by
  have hin := infoH
  obtain ⟨ie, hie⟩ : ∃ ie, Try.prog.info? 73 = some ie := by
    cases hc : Try.prog.info? 73 with
    | none => rw [hc] at hin; simp at hin
    | some ie => exact ⟨ie, rfl⟩
  rw [hie] at hin
  simp only [Option.map_some, Option.some.injEq, Prod.mk.injEq] at hin
  obtain ⟨hz, hsz, _⟩ := hin
  obtain ⟨z, hz⟩ : ∃ z, ie.zero = some z := ⟨_, hz⟩
  refine run_buildSlice W _ _ 1 _ h.cells.toArray ie z Try.underlying43 hie hz (by rw [hsz]; omega) (by rw [hsz]; omega) ?_
  rw [hsz]
  have hcl := h.cells_len
  obtain ⟨r, hr, hs, hk⟩ := Go.Great.fill_dense (s := 32) (by omega) [h.val] 0 ((Array.range (1 * 32)).map (z.cells[· % z.cells.size]!)) (fun v hv => by simp at hv; subst hv; show h.cells.toArray.size = 32; simpa using hcl) (by simp)
  have e : r = h.cells.toArray := by
    refine Array.ext_getElem? (fun j => ?_)
    rw [hk j]
    by_cases hj : j < 32
    · rw [if_pos (by simp; omega)]
      rw [show j / 32 - 0 = 0 by omega]
      simp only [List.getElem?_cons_zero, Option.bind_some]
      rw [show h.val.cells = h.cells.toArray from rfl, Nat.mod_eq_of_lt hj]
    · rw [if_neg (by simp; omega), Array.getElem?_eq_none (by simp; omega), Array.getElem?_eq_none (by simp; omega)]
  rw [e] at hr
  exact hr
theorem build_hash {ops : Array Oper} {rest : List Oper} {o : Oper} {a : Act} {Q : Exit → Act → World → Prop} {W : World} (hgd : o.guard = none) (x : Operand) (ho : o.op = .buildSlice 43 1 #[(0, x)]) (h : Hsh) (hx : a.eval x = h.val)
    (k : wpList Try.prog ops Q rest (a.put o.dst (.slice (some ⟨W.heap.size, 0, none⟩) 1 1)) (W.alloc (.cells h.cells.toArray 73))) : wpList Try.prog ops Q (o :: rest) a W := by
  refine wpList_plain hgd fun K hK => ?_
  have hr := run_build_hash h W
  have hx2 : a.eval x = .agg h.cells.toArray := hx
  unfold Oper.wp execOp
  simp only [ho, List.map_toArray, List.map_cons, List.map_nil, hx2, Sem.run_bind, hr, Result.andThen_ok]
  exact hK _ _ k
/-- In a region that draws its order and only reads: a hash is loaded; two hashes are compared. -/
theorem quiet_hash {ops : Array Oper} {rest : List Oper} {o : Oper} {a : Act} {w : World} {Q : Act → Prop} (hgd : o.guard = none) (x : Operand) (ho : o.op = .load 73 x) {ad : Addr} (hx : a.eval x = .pointer (some ad)) (h : Hsh) (hh : HashAt w ad h) (k : wpQuiet Try.prog ops (fun w' => ∃ n, w' = w.drewN n) Q rest (a.put o.dst h.val)) : wpQuiet Try.prog ops (fun w' => ∃ n, w' = w.drewN n) Q (o :: rest) a := by
  obtain ⟨b, off, rfl, hrg⟩ := hh
  unfold wpQuiet
  rw [if_pos (by simp [Region.wanted, hgd])]
  refine ⟨h.val, fun w' hw' => ?_, k⟩
  obtain ⟨n, rfl⟩ := hw'
  unfold Oper.quietAt execOp
  have hr := run_loadVar_mid (w.drewN n) b off 73 h.cells _ hrg Try.underlying73 rfl (by rw [Hsh.cells_len]; exact sizeH)
  simp only [ho, hx, Instr.loadAt, Instr.sureAddr, Sem.run_bind, Sem.run_pure, Result.andThen_ok, hr]
  exact ⟨rfl, rfl⟩
theorem quiet_neq {ops : Array Oper} {rest : List Oper} {o : Oper} {a : Act} {w : World} {Q : Act → Prop} (hgd : o.guard = none) (x y : Operand) (ty : TypeId) (ho : o.op = .binOp .neq 73 x y ty) (h g : Hsh) (hx : a.eval x = h.val) (hy : a.eval y = g.val) (k : wpQuiet Try.prog ops (fun w' => ∃ n, w' = w.drewN n) Q rest (a.put o.dst (.bool (!decide (h = g))))) : wpQuiet Try.prog ops (fun w' => ∃ n, w' = w.drewN n) Q (o :: rest) a := by
  unfold wpQuiet
  rw [if_pos (by simp [Region.wanted, hgd])]
  refine ⟨_, fun w' _ => ?_, k⟩
  unfold Oper.quietAt execOp
  simp only [ho, hx, hy, Sem.run_bind, hash_guard, hash_neq, Result.andThen_ok, Sem.run_pure]
  exact ⟨rfl, rfl⟩
end Go.Proofs.Ytagcabmccpekaaa.M

namespace Go.Proofs.Ytagcabmccpekaaa.M
open Go.RowKit Go.Proofs.YtagcabmccpekaaaW.PrintWords Go.Proofs.YtagcabmccpekaaaW.PrintLast Go.Proofs.YtagcabmccpekaaaW.PrintMore Go.Proofs.Ytagcabmccpekaaa.Leaf

end Go.Proofs.Ytagcabmccpekaaa.M

namespace Go.Proofs.Ytagcabmccpekaaa.M
open Go.RowKit Go.Proofs.YtagcabmccpekaaaW.PrintWords Go.Proofs.YtagcabmccpekaaaW.PrintLast Go.Proofs.YtagcabmccpekaaaW.PrintMore Go.Proofs.Ytagcabmccpekaaa.Leaf

end Go.Proofs.Ytagcabmccpekaaa.M

namespace Go.Proofs.Ytagcabmccpekaaa.M
open Go.RowKit Go.Proofs.YtagcabmccpekaaaW.PrintWords Go.Proofs.YtagcabmccpekaaaW.PrintLast Go.Proofs.YtagcabmccpekaaaW.PrintMore Go.Proofs.Ytagcabmccpekaaa.Leaf

end Go.Proofs.Ytagcabmccpekaaa.M

namespace Go.Proofs.Ytagcabmccpekaaa.M
open Go.RowKit Go.Proofs.YtagcabmccpekaaaW.PrintWords Go.Proofs.YtagcabmccpekaaaW.PrintLast Go.Proofs.YtagcabmccpekaaaW.PrintMore Go.Proofs.Ytagcabmccpekaaa.Leaf

end Go.Proofs.Ytagcabmccpekaaa.M

namespace Go.Proofs.Ytagcabmccpekaaa.M
open Go.RowKit Go.Proofs.YtagcabmccpekaaaW.PrintWords Go.Proofs.YtagcabmccpekaaaW.PrintLast Go.Proofs.YtagcabmccpekaaaW.PrintMore Go.Proofs.Ytagcabmccpekaaa.Leaf

/-- In massiflaw10.apart: the two rows, j numbers of which have been marked, and the two variables that hold them. -/
structure ApL (B n0 : Nat) (va vb : Value) (xs ys : List Int) (w wr : World) : Prop where
  ra : Kd.R (Kd.int .u64) 22 wr B (fun _ => True) va xs
  rb : Kd.R (Kd.int .u64) 22 wr B (fun _ => True) vb ys
  ba : wr.heap[n0]? = some (.cells #[.int .u64 0, va, .slice none 0 0] 63 (0, 0))
  bb : wr.heap[n0 + 1]? = some (.cells #[.int .u64 0, vb, .slice none 0 0] 63 (0, 0))
  be : Below B w wr
theorem ApL.below {B n0 : Nat} {va vb : Value} {xs ys : List Int} {w wr w1 : World} (h : ApL B n0 va vb xs ys w wr) (hb : Below wr.heap.size wr w1) (hB : B ≤ wr.heap.size) : ApL B n0 va vb xs ys w w1 :=
  ⟨Kd.R_below h.ra hb, Kd.R_below h.rb hb, (hb.block _ (blk_lt h.ba)).trans h.ba, (hb.block _ (blk_lt h.bb)).trans h.bb, below_on h.be hB hb⟩
theorem ApL.next {B n0 ga gb na nb ca cb : Nat} {xs ys : List Int} {w wr : World} (h : ApL B n0 (.slice (some ⟨ga, 0, none⟩) na ca) (.slice (some ⟨gb, 0, none⟩) nb cb) xs ys w wr) (j : Nat) (x y : Int) (hne : ga ≠ gb) :
    ApL B n0 (.slice (some ⟨ga, 0, none⟩) na ca) (.slice (some ⟨gb, 0, none⟩) nb cb) (xs.set j x) (ys.set j y) w ((wr.setCell ⟨ga, j, none⟩ (.int .u64 x)).setCell ⟨gb, j, none⟩ (.int .u64 y)) ∧
    ApL B n0 (.slice (some ⟨ga, 0, none⟩) na ca) (.slice (some ⟨gb, 0, none⟩) nb cb) (xs.set j x) (ys.set j y) w ((wr.setCell ⟨gb, j, none⟩ (.int .u64 y)).setCell ⟨ga, j, none⟩ (.int .u64 x)) := by
  have oa : (Value.slice (some ⟨ga, 0, none⟩) na ca).ownBlock = some ga := by simp [Value.ownBlock]
  have ob : (Value.slice (some ⟨gb, 0, none⟩) nb cb).ownBlock = some gb := by simp [Value.ownBlock]
  have na0 : n0 ≠ ga := fun he => Kd.R_ne h.ra h.ba (by decide) (by rw [oa, he])
  have na1 : n0 + 1 ≠ ga := fun he => Kd.R_ne h.ra h.bb (by decide) (by rw [oa, he])
  have nb0 : n0 ≠ gb := fun he => Kd.R_ne h.rb h.ba (by decide) (by rw [ob, he])
  have nb1 : n0 + 1 ≠ gb := fun he => Kd.R_ne h.rb h.bb (by decide) (by rw [ob, he])
  have hba := Kd.R_base h.ra ga oa
  have hbb := Kd.R_base h.rb gb ob
  constructor
  · have s1 := Kd.R_putn h.ra (j : Int) x
    rw [Int.toNat_natCast] at s1
    have f1 := Frm.of_set wr ⟨ga, j, none⟩ (.int .u64 x)
    have f2 := Frm.of_set (wr.setCell ⟨ga, j, none⟩ (.int .u64 x)) ⟨gb, j, none⟩ (.int .u64 y)
    have r2 := R_frm (flat_int .u64) h.rb f1 (fun k hk he => by rw [ob] at hk; injection hk with hk; exact hne (by rw [hk]; exact he.symm))
    have s2 := Kd.R_putn r2 (j : Int) y
    rw [Int.toNat_natCast] at s2
    refine ⟨R_frm (flat_int .u64) s1 f2 (fun k hk he => by rw [oa] at hk; injection hk with hk; exact hne (by rw [hk]; exact he)), s2, ?_, ?_, (h.be.setCell hba _).setCell hbb _⟩
    · exact (Below.heap_setCell _ ⟨gb, j, none⟩ _ n0 nb0).trans ((Below.heap_setCell _ ⟨ga, j, none⟩ _ n0 na0).trans h.ba)
    · exact (Below.heap_setCell _ ⟨gb, j, none⟩ _ _ nb1).trans ((Below.heap_setCell _ ⟨ga, j, none⟩ _ _ na1).trans h.bb)
  · have s1 := Kd.R_putn h.rb (j : Int) y
    rw [Int.toNat_natCast] at s1
    have f1 := Frm.of_set wr ⟨gb, j, none⟩ (.int .u64 y)
    have f2 := Frm.of_set (wr.setCell ⟨gb, j, none⟩ (.int .u64 y)) ⟨ga, j, none⟩ (.int .u64 x)
    have r2 := R_frm (flat_int .u64) h.ra f1 (fun k hk he => by rw [oa] at hk; injection hk with hk; exact hne (by rw [hk]; exact he))
    have s2 := Kd.R_putn r2 (j : Int) x
    rw [Int.toNat_natCast] at s2
    refine ⟨s2, R_frm (flat_int .u64) s1 f2 (fun k hk he => by rw [ob] at hk; injection hk with hk; exact hne (by rw [hk]; exact he.symm)), ?_, ?_, (h.be.setCell hbb _).setCell hba _⟩
    · exact (Below.heap_setCell _ ⟨ga, j, none⟩ _ n0 na0).trans ((Below.heap_setCell _ ⟨gb, j, none⟩ _ n0 nb0).trans h.ba)
    · exact (Below.heap_setCell _ ⟨ga, j, none⟩ _ _ na1).trans ((Below.heap_setCell _ ⟨gb, j, none⟩ _ _ nb1).trans h.bb)
/-- In massiflaw10.apart, behind the loops: rows that grow, and the two variables that still hold what they held. -/
structure Ap2 (B n0 : Nat) (oa ob va vb : Value) (xs ys : List Int) (w wr : World) : Prop where
  ra : Kd.R (Kd.int .u64) 22 wr B (fun _ => True) va xs
  rb : Kd.R (Kd.int .u64) 22 wr B (fun _ => True) vb ys
  ba : wr.heap[n0]? = some (.cells #[.int .u64 0, oa, .slice none 0 0] 63 (0, 0))
  bb : wr.heap[n0 + 1]? = some (.cells #[.int .u64 0, ob, .slice none 0 0] 63 (0, 0))
  be : Below B w wr
  sz : B ≤ wr.heap.size
  ap : Apart va vb
theorem Ap2.below {B n0 : Nat} {oa ob va vb : Value} {xs ys : List Int} {w wr w1 : World} (h : Ap2 B n0 oa ob va vb xs ys w wr) (hb : Below wr.heap.size wr w1) : Ap2 B n0 oa ob va vb xs ys w w1 :=
  ⟨Kd.R_below h.ra hb, Kd.R_below h.rb hb, (hb.block _ (blk_lt h.ba)).trans h.ba, (hb.block _ (blk_lt h.bb)).trans h.bb, below_on h.be h.sz hb, Nat.le_trans h.sz hb.size, h.ap⟩
theorem Ap2.cells {B n0 : Nat} {oa ob va vb : Value} {xs ys : List Int} {w wr wc : World} (h : Ap2 B n0 oa ob va vb xs ys w wr) (hb : Below wr.heap.size wr wc) : wc.cell? ⟨n0, 1, none⟩ = some oa ∧ wc.cell? ⟨n0 + 1, 1, none⟩ = some ob :=
  ⟨(blk_cell (h.below hb).ba 1).trans rfl, (blk_cell (h.below hb).bb 1).trans rfl⟩
/-- The two rows of hashes. -/
structure Ap3 (B : Nat) (ve vf : Value) (hs gs : List Hsh) (wr : World) : Prop where
  re : kH.R 73 wr B (fun _ => True) ve hs
  rf : kH.R 73 wr B (fun _ => True) vf gs
  ap : Apart ve vf
  sz : B ≤ wr.heap.size
theorem Ap3.below {B : Nat} {ve vf : Value} {hs gs : List Hsh} {wr w1 : World} (h : Ap3 B ve vf hs gs wr) (hb : Below wr.heap.size wr w1) : Ap3 B ve vf hs gs w1 := ⟨Kd.R_below h.re hb, Kd.R_below h.rf hb, h.ap, Nat.le_trans h.sz hb.size⟩
end Go.Proofs.Ytagcabmccpekaaa.M

namespace Go.Proofs.Ytagcabmccpekaaa.M
open Go.RowKit Go.Proofs.YtagcabmccpekaaaW.PrintWords Go.Proofs.YtagcabmccpekaaaW.PrintLast Go.Proofs.YtagcabmccpekaaaW.PrintMore Go.Proofs.Ytagcabmccpekaaa.Leaf

section
variable {ops : Array Oper} {rest : List Oper} {o : Oper} {a : Act} {Q : Exit → Act → World → Prop}
/-- A struct goes into a variable that holds one. -/
theorem store_agg {W : World} (T : TypeId) (cs : Array Value) (hgd : o.guard = none) (hd : o.dst = none) (x y : Operand) (ho : o.op = .store T x y) (hT : (Try.prog.info? T).map (·.size) = some cs.size) (hone : ∀ v ∈ cs.toList, v.oneCell' = true) (z : Array Value) (hz : z.size = cs.size) (t : TypeId) (g : Nat) (hg : W.heap[g]? = some (.cells z t (0, 0))) (hx : a.eval x = .pointer (some ⟨g, 0, none⟩)) (hy : a.eval y = .agg cs)
    (k : ∀ W1, W1.heap[g]? = some (.cells cs t (0, 0)) → Frm (fun k => k = g) W W1 → wpList Try.prog ops Q rest a W1) : wpList Try.prog ops Q (o :: rest) a W := by
  refine wpList_store_mid hgd _ x y ho g 0 cs hx hy (fun j hj => ?_) hT (by have := all_oneCell_toArray hone; simpa using this) ?_
  · rw [Nat.zero_add, cell_of_row _ _ j z t (0, 0) hg, frozen_of_row _ _ j z t hg]
    simp
    omega
  · rw [hd]
    show wpList _ _ _ _ a _
    obtain ⟨c, hc, hs, hl⟩ := setCells_row (g := g) cs.toList 0 W z hg (by rw [Array.length_toList]; omega)
    have e : c = cs := by
      apply Array.toList_inj.1
      rw [hl, Array.length_toList, List.drop_of_length_le (by rw [Array.length_toList]; omega)]
      simp
    rw [e] at hc
    exact k _ hc ⟨(setCells_same g _ _ _).1, (setCells_same g _ _ _).2.1, (setCells_same g _ _ _).2.2.1, Nat.le_of_eq (setCells_same g _ _ _).2.2.2.symm, fun k hk hn => setCells_far _ _ k hn⟩
end
/-- The three numbers, as far as they have been read. -/
def xsC (xs : List Nat) : Array Value := #[.int .u64 ((xs.getD 0 0 : Nat) : Int), .int .u64 ((xs.getD 1 0 : Nat) : Int), .int .u64 ((xs.getD 2 0 : Nat) : Int)]
def okN : List Nat → Prop
  | [] => True
  | [n] => n ≤ 4611686018427387904
  | [n, f] => n ≤ 4611686018427387904 ∧ f ≤ n
  | [n, f, m] => n ≤ 4611686018427387904 ∧ f ≤ n ∧ m ≤ n - f
  | _ => False
/-- In span.Decode: the result's variable is untouched, the numbers stand in theirs. -/
structure Dst (w wr : World) (xs : List Nat) : Prop where
  be : Below w.heap.size w wr
  res : wr.heap[w.heap.size]? = some (.cells #[.int .u64 0, .int .u64 0, .int .u64 0, .slice none 0 0] 45 (0, 0))
  arr : wr.heap[w.heap.size + 1]? = some (.cells (xsC xs) 92 (0, 0))
theorem Dst.below {w wr w1 : World} {xs : List Nat} (h : Dst w wr xs) (hb : Below wr.heap.size wr w1) : Dst w w1 xs := ⟨blt h.be hb, (hb.block _ (blk_lt h.res)).trans h.res, (hb.block _ (blk_lt h.arr)).trans h.arr⟩
theorem Dst.set {w wr : World} {xs : List Nat} (h : Dst w wr xs) (x : Nat) (hl : xs.length < 3) : Dst w (wr.setCell ⟨w.heap.size + 1, xs.length, none⟩ (.int .u64 x)) (xs ++ [x]) := by
  refine ⟨h.be.setCell (by simp) _, (Below.heap_setCell _ ⟨w.heap.size + 1, xs.length, none⟩ _ _ (by simp)).trans h.res, ?_⟩
  have := blk_set h.arr xs.length (.int .u64 x)
  rw [this]
  match xs, hl with
  | [], _ => rfl
  | [_], _ => rfl
  | [_, _], _ => rfl
theorem bytes_hash {w : World} {ad : Addr} {n : Nat} {l : List Int} (h : Kd.C (Kd.int .u8) w (some ad) n l) (hl : 32 ≤ l.length) : HashAt w ad (mkH (l.take 32)) := by
  obtain ⟨h1, h2, h3⟩ := h
  obtain ⟨ad', ea, hc⟩ := h3 (by omega)
  injection ea with ea
  subst ea
  have hcell : ∀ j (hj : j < l.length), w.cell? (ad.add j) = some (.int .u8 l[j]) := by
    intro j hj
    obtain ⟨c, k1, k2, k3⟩ := hc j _ (List.getElem?_eq_getElem hj)
    have k2 : c = [.int .u8 l[j]] := k2
    subst k2
    have := k3 0 (.int .u8 l[j]) rfl
    rwa [show j * (Kd.int IntKind.u8).sz + 0 = j from Nat.mul_one j] at this
  have hs : ad.spot = none := by
    have h0 := hcell 0 (by omega)
    have h5 : ad.add 0 = ad := by simp [Addr.add]
    rw [h5] at h0
    cases hsp : ad.spot with
    | none => rfl
    | some x =>
      exfalso
      simp only [World.cell?, hsp, Option.isSome_some, if_true] at h0
      split at h0 <;> simp at h0
  refine ⟨ad.block, ad.off, by cases ad; simp at hs; subst hs; rfl, fun j v hv => ?_⟩
  have hb : (mkH (l.take 32)).b = l.take 32 := mkH_b (by rw [List.length_take]; omega)
  unfold Hsh.cells at hv
  rw [hb, List.getElem?_map] at hv
  have hj : j < 32 := by
    refine Nat.lt_of_not_le (fun hn => ?_)
    rw [List.getElem?_eq_none (by rw [List.length_take]; omega)] at hv
    simp at hv
  rw [List.getElem?_take_of_lt hj, List.getElem?_eq_getElem (by omega)] at hv
  injection hv with hv
  subst hv
  have := hcell j (by omega)
  rw [show ad.add j = ⟨ad.block, ad.off + j, none⟩ by cases ad; simp at hs; subst hs; exact Go.WideShapes.add_plain _ _ _] at this
  exact this
theorem range_keep {w w1 : World} {b o : Nat} {cs : List Value} (h : w.rangeAt b o cs) (hb : Below w.heap.size w w1) : w1.rangeAt b o cs := fun j v hv => pw_cell_below hb (h j v hv)
/-- In span.Decode's last loop: the proof that is being made, in block g. -/
structure RdSt (w : World) (g : Nat) (n f t : Nat) (wr : World) (ns : List Hsh) (v : Value) : Prop where
  be : Below w.heap.size w wr
  res : wr.heap[w.heap.size]? = some (.cells #[.int .u64 0, .int .u64 0, .int .u64 0, .slice none 0 0] 45 (0, 0))
  box : wr.heap[g]? = some (.cells #[.int .u64 n, .int .u64 f, .int .u64 t, v] 45 (0, 0))
  row : kH.R 73 wr w.heap.size (fun _ => True) v ns
theorem RdSt.keep {w wr wc w1 : World} {g n f t : Nat} {ns : List Hsh} {v : Value} (h : RdSt w g n f t wr ns v) (hb : Below wr.heap.size wr wc) (hf : Frm (fun k => some k = v.ownBlock) wc w1) :
    w1.heap[g]? = some (.cells #[.int .u64 n, .int .u64 f, .int .u64 t, v] 45 (0, 0)) ∧ w1.heap[w.heap.size]? = some (.cells #[.int .u64 0, .int .u64 0, .int .u64 0, .slice none 0 0] 45 (0, 0)) ∧ Below w.heap.size w w1 := by
  have hrow := Kd.R_below h.row hb
  have hbox := (hb.block _ (blk_lt h.box)).trans h.box
  have hres := (hb.block _ (blk_lt h.res)).trans h.res
  have hbe := blt h.be hb
  exact ⟨(hf.block _ (blk_lt hbox) (Kd.R_ne hrow hbox (by decide))).trans hbox, (hf.block _ (blk_lt hres) (Kd.R_ne hrow hres (by decide))).trans hres, hbe.trans (hf.below hbe.size (fun k hk => Kd.R_base hrow k hk.symm))⟩
theorem RdSt.store {w w7 : World} {g n f t : Nat} {ns7 : List Hsh} {v v7 : Value} (hbox : w7.heap[g]? = some (.cells #[.int .u64 n, .int .u64 f, .int .u64 t, v] 45 (0, 0))) (hres : w7.heap[w.heap.size]? = some (.cells #[.int .u64 0, .int .u64 0, .int .u64 0, .slice none 0 0] 45 (0, 0))) (hbe : Below w.heap.size w w7)
    (hrow : kH.R 73 w7 w.heap.size (fun _ => True) v7 ns7) (hg : w.heap.size < g) : RdSt w g n f t (w7.setCell ⟨g, 3, none⟩ v7) ns7 v7 := by
  refine ⟨hbe.setCell (by show w.heap.size ≤ g; omega) _, (Below.heap_setCell w7 ⟨g, 3, none⟩ v7 w.heap.size (by simp; omega)).trans hres, ?_, Kd.R_set hrow hbox (by decide) 3 v7⟩
  have := blk_set hbox 3 v7
  rw [this]
  rfl
def lenOf : Value → Nat
  | .slice _ l _ => l
  | _ => 0
theorem sizeR : (Try.prog.info? 45).map (·.size) = some 4 := by kernel_rfl
def reachC (p : Nat × Nat × Nat × List Hsh) (v : Value) : Array Value := #[.int .u64 p.1, .int .u64 p.2.1, .int .u64 p.2.2.1, v]
/-- What a call of span.Decode leaves. -/
def Decd (bs : List Int) (w : World) (e : Ending) (w' : World) : Prop := ∃ v, e = .returned (.tuple #[.agg (reachC (decN bs).1 v), .int .i64 (decN bs).2]) ∧ kH.R 73 w' w.heap.size (fun _ => True) v (decN bs).1.2.2.2 ∧ Below w.heap.size w w'
set_option maxHeartbeats 2000000 in
set_option maxRecDepth 100000 in
theorem span_decode_head (bs : List Int) (A : Option Addr) (c : Nat) (w : World) (hb : Bytes bs) (hc : bs.length ≤ c) (hC : Kd.C (Kd.int .u8) w A bs.length bs) (h : ∀ r, bs ≠ 83 :: r) :
    Calls Try.prog 29 #[.slice A bs.length c] w (Decd bs w) := by
  cases bs with
  | nil =>
    have hd : decN [] = (noReach, 11) := rfl
    unfold Decd
    rw [hd]
    clear hC h hb
    go_enter Try.func29, Try.ntmps29
    go_wp2_with fail
    (try simp only [Exit.inBlock, Exit.then])
    refine bodyPost_ret (results_ct rfl _ _ w.heap.size 45 (reachC noReach (.slice none 0 0)) (0, 0) _ rfl (heap_new w _) Try.underlying45 rfl (by rw [sizeR]; rfl)) rfl ?_
    exact ⟨_, rfl, Kd.R_nil _ _ _ _ _, bl_new w _⟩
  | cons b r =>
    have hb83 : b ≠ 83 := fun h9 => h r (by rw [h9])
    have hd : decN (b :: r) = (noReach, 14) := by simp only [decN]; rw [if_pos hb83]
    obtain ⟨ad, ea, hx⟩ := Kd.at_int hC 0 (by omega) (by simp)
    subst ea
    have hx : w.cell? ad = some (.int .u8 b) := by have := hx; simpa [Addr.add, rd] using this
    have hx1 : (w.alloc (.cells #[.int .u64 0, .int .u64 0, .int .u64 0, .slice none 0 0] 45)).cell? ad = some (.int .u8 b) := by
      have hlt : ad.block < w.heap.size := by
        refine Decidable.by_contra (fun hn => ?_)
        have hnone : w.heap[ad.block]? = none := Array.getElem?_eq_none (by omega)
        simp [World.cell?, hnone] at hx
      exact (World.cell?_of_block ((bl_new w _).block _ hlt)).trans hx
    have g1 : (b != 83) = true := by rw [bne_iff_ne]; exact hb83
    have hbl : (b :: r).length = r.length + 1 := rfl
    unfold Decd
    rw [hd]
    rw [hbl]
    clear hC h hb hx hc hbl
    go_enter Try.func29, Try.ntmps29
    go_wp2_with fail
    (try simp only [Exit.inBlock, Exit.then])
    refine bodyPost_ret (results_ct rfl _ _ w.heap.size 45 (reachC noReach (.slice none 0 0)) (0, 0) _ rfl (heap_new w _) Try.underlying45 rfl (by rw [sizeR]; rfl)) rfl ?_
    exact ⟨_, rfl, Kd.R_nil _ _ _ _ _, bl_new w _⟩
set_option maxHeartbeats 40000000 in
set_option linter.unusedSimpArgs false in
set_option maxRecDepth 100000 in
theorem span_decode_some (r : List Int) (A : Option Addr) (c : Nat) (w : World) (hb : Bytes (83 :: r)) (hc : r.length + 1 ≤ c) (hc2 : r.length + 1 ≤ 9223372036854775807) (hC : Kd.C (Kd.int .u8) w A (r.length + 1) (83 :: r)) :
    Calls Try.prog 29 #[.slice A (r.length + 1 : Nat) c] w (Decd (83 :: r) w) := by
  obtain ⟨ad, ea, hx⟩ := Kd.at_int hC 0 (by omega) (by omega)
  subst ea
  have hx : w.cell? ad = some (.int .u8 83) := by have := hx; simpa [Addr.add, rd] using this
  have hx1 : (w.alloc (.cells #[.int .u64 0, .int .u64 0, .int .u64 0, .slice none 0 0] 45)).cell? ad = some (.int .u8 83) := by
    have hlt : ad.block < w.heap.size := by
      refine Decidable.by_contra (fun hn => ?_)
      have hnone : w.heap[ad.block]? = none := Array.getElem?_eq_none (by omega)
      simp [World.cell?, hnone] at hx
    exact (World.cell?_of_block ((bl_new w _).block _ hlt)).trans hx
  have HC := Aside0.mk hC
  clear hC hx
  obtain ⟨ad1, hif⟩ : ∃ ad1 : Addr, (if c = 1 then some ad else some ⟨ad.block, ad.off + 1, none⟩) = some ad1 := by split <;> exact ⟨_, rfl⟩
  go_enter Try.func29, Try.ntmps29
  go_wp2_with fail
  have HB := Aside0.mk hb
  have HIf := Aside0.mk hif
  clear hif hx hx1 hb
  go_loopw [0, 5, 27] (fun b q k wr => ∃ (xs : List Nat) (r' : List Int) (ad' : Addr) (c' : Nat), k = .int .i64 (xs.length : Nat) ∧ b = .slice (some ad') r'.length c' ∧ q = .int .u64 (mostN xs : Nat) ∧ r'.length ≤ c' ∧ r'.length ≤ 9223372036854775806 ∧ r'.length ≤ r.length ∧ Aside0 (Kd.C (Kd.int .u8) w (some ad') r'.length r' ∧ decN (83 :: r) = decG (3 - xs.length) xs r' ∧ Bytes r' ∧ okN xs) ∧ Aside0 (Dst w wr xs)) (fun _ _ k _ => 3 - (intOf k).toNat)
  case atStart =>
    refine ⟨[], r, ad1, c - 1, rfl, rfl, rfl, by omega, by omega, Nat.le_refl _, ⟨?_, ?_, fun x hx => HB.out x (List.mem_cons_of_mem _ hx), trivial⟩, ⟨⟨below_alloc (bl_new w _) _, (Below.heap_alloc _ _ _ (by simp)).trans (heap_new w _), heap_new2 _ _ (by simp)⟩⟩⟩
    · have h1 := Kd.C_drop (m := 1) (c := c) HC.out (by simp) (by simpa using hc)
      have h2 : (if c = 1 then some ad else Option.map (fun x => x.add (1 * (Kd.int IntKind.u8).sz)) (some ad)) = some ad1 := by
        rw [← HIf.out]
        simp only [Option.map_some]
        rw [show ad.add (1 * (Kd.int IntKind.u8).sz) = ⟨ad.block, ad.off + 1, none⟩ from rfl]
      rw [h2] at h1
      exact h1
    · show (if (83 : Int) ≠ 83 then (noReach, (14 : Int)) else decG 3 [] r) = _
      rw [if_neg (by simp)]
      rfl
  case round =>
    obtain ⟨xs, r', ad', c', rfl, rfl, rfl, hrc, hcc, hrr, HF, HD⟩ := hrel
    clear HIf
    match xs, HF, HD with
    | [], HF, HD =>
        have hmo : mostN ([] : List Nat) = 4611686018427387904 := rfl
        have hok := HF.out.2.2.2
        rw [hmo]
        obtain ⟨kl, hkl⟩ := (long_val r' HF.out.2.2.1 (by omega)).rounds
        have hcl := num_Long.calls kl (some ad') c' r' (longN r').1 (longN r').2.1 (longN r').2.2 wr (Kd.C_below HF.out.1 HD.out.be) hrc hkl
        by_cases he : (longN r').2.2 = 0
        · obtain ⟨x, rest, x1, x2, x3, x4⟩ := longN_back HF.out.2.2.1 (v := (longN r').1) (k := (longN r').2.1) (by rw [← he])
          rw [x2, x3, he] at hcl
          have HCl := Aside0.mk hcl
          have HX4 := Aside0.mk x4
          have HX1 := Aside0.mk x1
          have hx2 := x2
          clear hcl hkl x2 x3 x4 he
          obtain ⟨kk, hkk⟩ : ∃ kk, kk = (shortI x).length := ⟨_, rfl⟩
          rw [← hkk] at HCl
          have hrl : r'.length = kk + rest.length := by rw [HX4.out, List.length_append, hkk]
          have HKK := Aside0.mk hkk
          clear hkk
          by_cases hgt : 4611686018427387904 < x
          · have HDc := Aside0.mk (show decN (83 :: r) = (noReach, 30) by
              have h := HF.out.2.1
              rw [h]
              show decG (2 + 1) [] r' = _
              rw [decG, HX4.out, longN_short x rest HX1.out, if_neg (by simp), if_pos (by show (x : Int) > ((mostN ([] : List Nat) : Nat) : Int); rw [hmo]; omega)]
              rfl)
            clear hmo x1 hrl hx2 hok
            go_wp2_with fail
            refine HCl.out.mono ?_
            rintro e w3 ⟨rfl, hd3⟩
            have HD3 := Aside0.mk (HD.out.below hd3.below)
            clear hd3 HCl HD
            go_wp2_with ((with_reducible refine gate_store (t := 45) (p := 2) (v := .tmp 49) rfl ?_); go_loud (refine store_agg 45 #[.int .u64 0, .int .u64 0, .int .u64 0, .slice none 0 0] rfl rfl (.tmp 2) (.tmp 49) rfl (by rw [sizeR]; rfl) (by simp [Value.oneCell']) _ rfl _ _ HD3.out.res rfl rfl ?_; intro w4 hz4 hf4; have HZ4 := Aside0.mk hz4; have HF4 := Aside0.mk hf4; clear hz4 hf4))
            (try simp only [Exit.inBlock, Exit.then])
            refine bodyPost_ret (results_ct rfl _ _ w.heap.size 45 (reachC noReach (.slice none 0 0)) (0, 0) _ rfl HZ4.out Try.underlying45 rfl (by rw [sizeR]; rfl)) rfl ?_
            unfold Decd
            rw [HDc.out]
            exact ⟨_, rfl, Kd.R_nil _ _ _ _ _, HD3.out.be.trans (HF4.out.below HD3.out.be.size (fun k hk => by omega))⟩
          · obtain ⟨ad2, hif⟩ : ∃ ad2 : Addr, (if c' = kk then some ad' else some (ad'.add kk)) = some ad2 := by split <;> exact ⟨_, rfl⟩
            have hrest : rest = r'.drop kk := by rw [HX4.out, HKK.out, List.drop_left]
            have hCr : Kd.C (Kd.int .u8) w (some ad2) rest.length rest := by
              have h1 := Kd.C_drop (m := kk) (c := c') HF.out.1 (by omega) hrc
              have h2 : (if c' = kk then some ad' else Option.map (fun x => x.add (kk * (Kd.int IntKind.u8).sz)) (some ad')) = some ad2 := by
                rw [← hif]
                simp only [Option.map_some]
                rw [show kk * (Kd.int IntKind.u8).sz = kk from Nat.mul_one kk]
              rw [h2, ← hrest] at h1
              exact h1
            have hbr : Bytes rest := fun y hy => HF.out.2.2.1 y (by rw [HX4.out]; exact List.mem_append_right _ hy)
            have hdec : decN (83 :: r) = decG (3 - (([] : List Nat) ++ [x]).length) ([] ++ [x]) rest := by rw [show 3 - (([] : List Nat) ++ [x]).length = 2 from rfl]; exact HF.out.2.1.trans (decG_step HX1.out HX4.out (by rw [hmo]; omega))
            have hok2 : okN ([] ++ [x]) := by simp [okN] at hok ⊢; omega
            have HNext := Aside0.mk (And.intro hCr (And.intro hdec (And.intro hbr hok2)))
            have hlr : rest.length ≤ r.length := by omega
            have hrc2 : rest.length ≤ c' - kk := by omega
            have hcc2 : rest.length ≤ 9223372036854775806 := by omega
            have hkr : kk ≤ r'.length := by omega
            have hsub : r'.length - kk = rest.length := by omega
            have hsb : True := trivial
            have HMo := Aside0.mk hmo
            clear hmo x1 hrl hx2 hok hok2 hrest hCr hbr hdec
            go_wp2_with fail
            refine HCl.out.mono ?_
            rintro e w3 ⟨rfl, hd3⟩
            have HD3 := Aside0.mk (HD.out.below hd3.below)
            have HS := Aside0.mk (Dst.set HD3.out x (by simp))
            clear hd3 HCl HD
            have y1 : ∃ y, w3.cell? ⟨w.heap.size + 1, 0, none⟩ = some y := ⟨_, (blk_cell HD3.out.arr 0).trans rfl⟩
            obtain ⟨y, y1⟩ := y1
            have y2 : w3.frozen? ⟨w.heap.size + 1, 0, none⟩ = false := blk_frozen HD3.out.arr 0
            have z0 : (w3.setCell ⟨w.heap.size + 1, 0, none⟩ (.int .u64 x)).cell? ⟨w.heap.size + 1, 0, none⟩ = some (.int .u64 (x : Nat)) := (blk_cell HS.out.arr 0).trans rfl
            have z1 : (w3.setCell ⟨w.heap.size + 1, 0, none⟩ (.int .u64 x)).cell? ⟨w.heap.size + 1, 1, none⟩ = some (.int .u64 (0 : Nat)) := (blk_cell HS.out.arr 1).trans rfl
            go_wp2_with fail
            go_roundw
            case rel =>
              repeat (apply Exists.intro)
              apply And.intro
              case right => repeat (first | exact rfl | refine And.intro rfl ?_)
              first | exact ⟨[] ++ [x], rfl, rest, ad2, c' - kk, rfl, rfl, hrc2, hcc2, hlr, HNext, HS⟩ | exact ⟨[] ++ [x], rest, ad2, c' - kk, rfl, rfl, rfl, hrc2, hcc2, hlr, HNext, HS⟩
            case measure => simp [intOf]
        · have HDc := Aside0.mk (show decN (83 :: r) = (noReach, (longN r').2.2) by
            have h := HF.out.2.1
            rw [h]
            show decG (2 + 1) [] r' = _
            rw [decG, if_pos he])
          have g1 : ((longN r').2.2 != 0) = true := by rw [bne_iff_ne]; exact he
          have HCl := Aside0.mk hcl
          clear hcl hkl he hmo hok
          generalize (longN r').1 = v at *
          generalize (longN r').2.1 = kk at *
          generalize (longN r').2.2 = er at *
          go_wp2_with fail
          refine HCl.out.mono ?_
          rintro e w3 ⟨rfl, hd3⟩
          have HD3 := Aside0.mk (HD.out.below hd3.below)
          clear hd3 HCl HD
          go_wp2_with ((with_reducible refine gate_store (t := 45) (p := 2) (v := .tmp 39) rfl ?_); go_loud (refine store_agg 45 #[.int .u64 0, .int .u64 0, .int .u64 0, .slice none 0 0] rfl rfl (.tmp 2) (.tmp 39) rfl (by rw [sizeR]; rfl) (by simp [Value.oneCell']) _ rfl _ _ HD3.out.res rfl rfl ?_; intro w4 hz4 hf4; have HZ4 := Aside0.mk hz4; have HF4 := Aside0.mk hf4; clear hz4 hf4))
          (try simp only [Exit.inBlock, Exit.then])
          refine bodyPost_ret (results_ct rfl _ _ w.heap.size 45 (reachC noReach (.slice none 0 0)) (0, 0) _ rfl HZ4.out Try.underlying45 rfl (by rw [sizeR]; rfl)) rfl ?_
          unfold Decd
          rw [HDc.out]
          exact ⟨_, rfl, Kd.R_nil _ _ _ _ _, HD3.out.be.trans (HF4.out.below HD3.out.be.size (fun k hk => by omega))⟩
    | [n], HF, HD =>
        have hmo : mostN ([n] : List Nat) = n := rfl
        have hok := HF.out.2.2.2
        rw [hmo]
        obtain ⟨kl, hkl⟩ := (long_val r' HF.out.2.2.1 (by omega)).rounds
        have hcl := num_Long.calls kl (some ad') c' r' (longN r').1 (longN r').2.1 (longN r').2.2 wr (Kd.C_below HF.out.1 HD.out.be) hrc hkl
        by_cases he : (longN r').2.2 = 0
        · obtain ⟨x, rest, x1, x2, x3, x4⟩ := longN_back HF.out.2.2.1 (v := (longN r').1) (k := (longN r').2.1) (by rw [← he])
          rw [x2, x3, he] at hcl
          have HCl := Aside0.mk hcl
          have HX4 := Aside0.mk x4
          have HX1 := Aside0.mk x1
          have hx2 := x2
          clear hcl hkl x2 x3 x4 he
          obtain ⟨kk, hkk⟩ : ∃ kk, kk = (shortI x).length := ⟨_, rfl⟩
          rw [← hkk] at HCl
          have hrl : r'.length = kk + rest.length := by rw [HX4.out, List.length_append, hkk]
          have HKK := Aside0.mk hkk
          clear hkk
          by_cases hgt : n < x
          · have HDc := Aside0.mk (show decN (83 :: r) = (noReach, 32) by
              have h := HF.out.2.1
              rw [h]
              show decG (1 + 1) [n] r' = _
              rw [decG, HX4.out, longN_short x rest HX1.out, if_neg (by simp), if_pos (by show (x : Int) > ((mostN ([n] : List Nat) : Nat) : Int); rw [hmo]; omega)]
              rfl)
            clear hmo x1 hrl hx2 hok
            go_wp2_with fail
            refine HCl.out.mono ?_
            rintro e w3 ⟨rfl, hd3⟩
            have HD3 := Aside0.mk (HD.out.below hd3.below)
            clear hd3 HCl HD
            go_wp2_with ((with_reducible refine gate_store (t := 45) (p := 2) (v := .tmp 54) rfl ?_); go_loud (refine store_agg 45 #[.int .u64 0, .int .u64 0, .int .u64 0, .slice none 0 0] rfl rfl (.tmp 2) (.tmp 54) rfl (by rw [sizeR]; rfl) (by simp [Value.oneCell']) _ rfl _ _ HD3.out.res rfl rfl ?_; intro w4 hz4 hf4; have HZ4 := Aside0.mk hz4; have HF4 := Aside0.mk hf4; clear hz4 hf4))
            (try simp only [Exit.inBlock, Exit.then])
            refine bodyPost_ret (results_ct rfl _ _ w.heap.size 45 (reachC noReach (.slice none 0 0)) (0, 0) _ rfl HZ4.out Try.underlying45 rfl (by rw [sizeR]; rfl)) rfl ?_
            unfold Decd
            rw [HDc.out]
            exact ⟨_, rfl, Kd.R_nil _ _ _ _ _, HD3.out.be.trans (HF4.out.below HD3.out.be.size (fun k hk => by omega))⟩
          · obtain ⟨ad2, hif⟩ : ∃ ad2 : Addr, (if c' = kk then some ad' else some (ad'.add kk)) = some ad2 := by split <;> exact ⟨_, rfl⟩
            have hrest : rest = r'.drop kk := by rw [HX4.out, HKK.out, List.drop_left]
            have hCr : Kd.C (Kd.int .u8) w (some ad2) rest.length rest := by
              have h1 := Kd.C_drop (m := kk) (c := c') HF.out.1 (by omega) hrc
              have h2 : (if c' = kk then some ad' else Option.map (fun x => x.add (kk * (Kd.int IntKind.u8).sz)) (some ad')) = some ad2 := by
                rw [← hif]
                simp only [Option.map_some]
                rw [show kk * (Kd.int IntKind.u8).sz = kk from Nat.mul_one kk]
              rw [h2, ← hrest] at h1
              exact h1
            have hbr : Bytes rest := fun y hy => HF.out.2.2.1 y (by rw [HX4.out]; exact List.mem_append_right _ hy)
            have hdec : decN (83 :: r) = decG (3 - ([n] ++ [x]).length) ([n] ++ [x]) rest := by rw [show 3 - ([n] ++ [x]).length = 1 from rfl]; exact HF.out.2.1.trans (decG_step HX1.out HX4.out (by rw [hmo]; omega))
            have hok2 : okN ([n] ++ [x]) := by simp [okN] at hok ⊢; omega
            have HNext := Aside0.mk (And.intro hCr (And.intro hdec (And.intro hbr hok2)))
            have hlr : rest.length ≤ r.length := by omega
            have hrc2 : rest.length ≤ c' - kk := by omega
            have hcc2 : rest.length ≤ 9223372036854775806 := by omega
            have hkr : kk ≤ r'.length := by omega
            have hsub : r'.length - kk = rest.length := by omega
            have hsb : IntKind.u64.wrap ((n : Int) - (x : Int)) = ((n - x : Nat) : Int) := by rw [w64_of _ (by omega) (by simp [okN] at hok; omega)]; omega
            have HMo := Aside0.mk hmo
            clear hmo x1 hrl hx2 hok hok2 hrest hCr hbr hdec
            go_wp2_with fail
            refine HCl.out.mono ?_
            rintro e w3 ⟨rfl, hd3⟩
            have HD3 := Aside0.mk (HD.out.below hd3.below)
            have HS := Aside0.mk (Dst.set HD3.out x (by simp))
            clear hd3 HCl HD
            have y1 : ∃ y, w3.cell? ⟨w.heap.size + 1, 1, none⟩ = some y := ⟨_, (blk_cell HD3.out.arr 1).trans rfl⟩
            obtain ⟨y, y1⟩ := y1
            have y2 : w3.frozen? ⟨w.heap.size + 1, 1, none⟩ = false := blk_frozen HD3.out.arr 1
            have z0 : (w3.setCell ⟨w.heap.size + 1, 1, none⟩ (.int .u64 x)).cell? ⟨w.heap.size + 1, 0, none⟩ = some (.int .u64 (n : Nat)) := (blk_cell HS.out.arr 0).trans rfl
            have z1 : (w3.setCell ⟨w.heap.size + 1, 1, none⟩ (.int .u64 x)).cell? ⟨w.heap.size + 1, 1, none⟩ = some (.int .u64 (x : Nat)) := (blk_cell HS.out.arr 1).trans rfl
            go_wp2_with fail
            go_roundw
            case rel =>
              repeat (apply Exists.intro)
              apply And.intro
              case right => repeat (first | exact rfl | refine And.intro rfl ?_)
              first | exact ⟨[n] ++ [x], rfl, rest, ad2, c' - kk, rfl, rfl, hrc2, hcc2, hlr, HNext, HS⟩ | exact ⟨[n] ++ [x], rest, ad2, c' - kk, rfl, rfl, rfl, hrc2, hcc2, hlr, HNext, HS⟩
            case measure => simp [intOf]
        · have HDc := Aside0.mk (show decN (83 :: r) = (noReach, (longN r').2.2) by
            have h := HF.out.2.1
            rw [h]
            show decG (1 + 1) [n] r' = _
            rw [decG, if_pos he])
          have g1 : ((longN r').2.2 != 0) = true := by rw [bne_iff_ne]; exact he
          have HCl := Aside0.mk hcl
          clear hcl hkl he hmo hok
          generalize (longN r').1 = v at *
          generalize (longN r').2.1 = kk at *
          generalize (longN r').2.2 = er at *
          go_wp2_with fail
          refine HCl.out.mono ?_
          rintro e w3 ⟨rfl, hd3⟩
          have HD3 := Aside0.mk (HD.out.below hd3.below)
          clear hd3 HCl HD
          go_wp2_with ((with_reducible refine gate_store (t := 45) (p := 2) (v := .tmp 39) rfl ?_); go_loud (refine store_agg 45 #[.int .u64 0, .int .u64 0, .int .u64 0, .slice none 0 0] rfl rfl (.tmp 2) (.tmp 39) rfl (by rw [sizeR]; rfl) (by simp [Value.oneCell']) _ rfl _ _ HD3.out.res rfl rfl ?_; intro w4 hz4 hf4; have HZ4 := Aside0.mk hz4; have HF4 := Aside0.mk hf4; clear hz4 hf4))
          (try simp only [Exit.inBlock, Exit.then])
          refine bodyPost_ret (results_ct rfl _ _ w.heap.size 45 (reachC noReach (.slice none 0 0)) (0, 0) _ rfl HZ4.out Try.underlying45 rfl (by rw [sizeR]; rfl)) rfl ?_
          unfold Decd
          rw [HDc.out]
          exact ⟨_, rfl, Kd.R_nil _ _ _ _ _, HD3.out.be.trans (HF4.out.below HD3.out.be.size (fun k hk => by omega))⟩
    | [n, f], HF, HD =>
        have hmo : mostN ([n, f] : List Nat) = (n - f) := rfl
        have hok := HF.out.2.2.2
        rw [hmo]
        obtain ⟨kl, hkl⟩ := (long_val r' HF.out.2.2.1 (by omega)).rounds
        have hcl := num_Long.calls kl (some ad') c' r' (longN r').1 (longN r').2.1 (longN r').2.2 wr (Kd.C_below HF.out.1 HD.out.be) hrc hkl
        by_cases he : (longN r').2.2 = 0
        · obtain ⟨x, rest, x1, x2, x3, x4⟩ := longN_back HF.out.2.2.1 (v := (longN r').1) (k := (longN r').2.1) (by rw [← he])
          rw [x2, x3, he] at hcl
          have HCl := Aside0.mk hcl
          have HX4 := Aside0.mk x4
          have HX1 := Aside0.mk x1
          have hx2 := x2
          clear hcl hkl x2 x3 x4 he
          obtain ⟨kk, hkk⟩ : ∃ kk, kk = (shortI x).length := ⟨_, rfl⟩
          rw [← hkk] at HCl
          have hrl : r'.length = kk + rest.length := by rw [HX4.out, List.length_append, hkk]
          have HKK := Aside0.mk hkk
          clear hkk
          by_cases hgt : (n - f) < x
          · have HDc := Aside0.mk (show decN (83 :: r) = (noReach, 32) by
              have h := HF.out.2.1
              rw [h]
              show decG (0 + 1) [n, f] r' = _
              rw [decG, HX4.out, longN_short x rest HX1.out, if_neg (by simp), if_pos (by show (x : Int) > ((mostN ([n, f] : List Nat) : Nat) : Int); rw [hmo]; omega)]
              rfl)
            clear hmo x1 hrl hx2 hok
            go_wp2_with fail
            refine HCl.out.mono ?_
            rintro e w3 ⟨rfl, hd3⟩
            have HD3 := Aside0.mk (HD.out.below hd3.below)
            clear hd3 HCl HD
            go_wp2_with ((with_reducible refine gate_store (t := 45) (p := 2) (v := .tmp 54) rfl ?_); go_loud (refine store_agg 45 #[.int .u64 0, .int .u64 0, .int .u64 0, .slice none 0 0] rfl rfl (.tmp 2) (.tmp 54) rfl (by rw [sizeR]; rfl) (by simp [Value.oneCell']) _ rfl _ _ HD3.out.res rfl rfl ?_; intro w4 hz4 hf4; have HZ4 := Aside0.mk hz4; have HF4 := Aside0.mk hf4; clear hz4 hf4))
            (try simp only [Exit.inBlock, Exit.then])
            refine bodyPost_ret (results_ct rfl _ _ w.heap.size 45 (reachC noReach (.slice none 0 0)) (0, 0) _ rfl HZ4.out Try.underlying45 rfl (by rw [sizeR]; rfl)) rfl ?_
            unfold Decd
            rw [HDc.out]
            exact ⟨_, rfl, Kd.R_nil _ _ _ _ _, HD3.out.be.trans (HF4.out.below HD3.out.be.size (fun k hk => by omega))⟩
          · obtain ⟨ad2, hif⟩ : ∃ ad2 : Addr, (if c' = kk then some ad' else some (ad'.add kk)) = some ad2 := by split <;> exact ⟨_, rfl⟩
            have hrest : rest = r'.drop kk := by rw [HX4.out, HKK.out, List.drop_left]
            have hCr : Kd.C (Kd.int .u8) w (some ad2) rest.length rest := by
              have h1 := Kd.C_drop (m := kk) (c := c') HF.out.1 (by omega) hrc
              have h2 : (if c' = kk then some ad' else Option.map (fun x => x.add (kk * (Kd.int IntKind.u8).sz)) (some ad')) = some ad2 := by
                rw [← hif]
                simp only [Option.map_some]
                rw [show kk * (Kd.int IntKind.u8).sz = kk from Nat.mul_one kk]
              rw [h2, ← hrest] at h1
              exact h1
            have hbr : Bytes rest := fun y hy => HF.out.2.2.1 y (by rw [HX4.out]; exact List.mem_append_right _ hy)
            have hdec : decN (83 :: r) = decG (3 - ([n, f] ++ [x]).length) ([n, f] ++ [x]) rest := by rw [show 3 - ([n, f] ++ [x]).length = 0 from rfl]; exact HF.out.2.1.trans (decG_step HX1.out HX4.out (by rw [hmo]; omega))
            have hok2 : okN ([n, f] ++ [x]) := by simp [okN] at hok ⊢; omega
            have HNext := Aside0.mk (And.intro hCr (And.intro hdec (And.intro hbr hok2)))
            have hlr : rest.length ≤ r.length := by omega
            have hrc2 : rest.length ≤ c' - kk := by omega
            have hcc2 : rest.length ≤ 9223372036854775806 := by omega
            have hkr : kk ≤ r'.length := by omega
            have hsub : r'.length - kk = rest.length := by omega
            have hsb : True := trivial
            have HMo := Aside0.mk hmo
            clear hmo x1 hrl hx2 hok hok2 hrest hCr hbr hdec
            go_wp2_with fail
            refine HCl.out.mono ?_
            rintro e w3 ⟨rfl, hd3⟩
            have HD3 := Aside0.mk (HD.out.below hd3.below)
            have HS := Aside0.mk (Dst.set HD3.out x (by simp))
            clear hd3 HCl HD
            have y1 : ∃ y, w3.cell? ⟨w.heap.size + 1, 2, none⟩ = some y := ⟨_, (blk_cell HD3.out.arr 2).trans rfl⟩
            obtain ⟨y, y1⟩ := y1
            have y2 : w3.frozen? ⟨w.heap.size + 1, 2, none⟩ = false := blk_frozen HD3.out.arr 2
            have z0 : (w3.setCell ⟨w.heap.size + 1, 2, none⟩ (.int .u64 x)).cell? ⟨w.heap.size + 1, 0, none⟩ = some (.int .u64 (n : Nat)) := (blk_cell HS.out.arr 0).trans rfl
            have z1 : (w3.setCell ⟨w.heap.size + 1, 2, none⟩ (.int .u64 x)).cell? ⟨w.heap.size + 1, 1, none⟩ = some (.int .u64 (f : Nat)) := (blk_cell HS.out.arr 1).trans rfl
            go_wp2_with fail
            go_roundw
            case rel =>
              repeat (apply Exists.intro)
              apply And.intro
              case right => repeat (first | exact rfl | refine And.intro rfl ?_)
              first | exact ⟨[n, f] ++ [x], rfl, rest, ad2, c' - kk, rfl, rfl, hrc2, hcc2, hlr, HNext, HS⟩ | exact ⟨[n, f] ++ [x], rest, ad2, c' - kk, rfl, rfl, rfl, hrc2, hcc2, hlr, HNext, HS⟩
            case measure => simp [intOf]
        · have HDc := Aside0.mk (show decN (83 :: r) = (noReach, (longN r').2.2) by
            have h := HF.out.2.1
            rw [h]
            show decG (0 + 1) [n, f] r' = _
            rw [decG, if_pos he])
          have g1 : ((longN r').2.2 != 0) = true := by rw [bne_iff_ne]; exact he
          have HCl := Aside0.mk hcl
          clear hcl hkl he hmo hok
          generalize (longN r').1 = v at *
          generalize (longN r').2.1 = kk at *
          generalize (longN r').2.2 = er at *
          go_wp2_with fail
          refine HCl.out.mono ?_
          rintro e w3 ⟨rfl, hd3⟩
          have HD3 := Aside0.mk (HD.out.below hd3.below)
          clear hd3 HCl HD
          go_wp2_with ((with_reducible refine gate_store (t := 45) (p := 2) (v := .tmp 39) rfl ?_); go_loud (refine store_agg 45 #[.int .u64 0, .int .u64 0, .int .u64 0, .slice none 0 0] rfl rfl (.tmp 2) (.tmp 39) rfl (by rw [sizeR]; rfl) (by simp [Value.oneCell']) _ rfl _ _ HD3.out.res rfl rfl ?_; intro w4 hz4 hf4; have HZ4 := Aside0.mk hz4; have HF4 := Aside0.mk hf4; clear hz4 hf4))
          (try simp only [Exit.inBlock, Exit.then])
          refine bodyPost_ret (results_ct rfl _ _ w.heap.size 45 (reachC noReach (.slice none 0 0)) (0, 0) _ rfl HZ4.out Try.underlying45 rfl (by rw [sizeR]; rfl)) rfl ?_
          unfold Decd
          rw [HDc.out]
          exact ⟨_, rfl, Kd.R_nil _ _ _ _ _, HD3.out.be.trans (HF4.out.below HD3.out.be.size (fun k hk => by omega))⟩
    | [n, f, m], HF, HD =>
        have hok : n ≤ 4611686018427387904 ∧ f ≤ n ∧ m ≤ n - f := HF.out.2.2.2
        have hdec : decN (83 :: r) = dec3 n f m r' := HF.out.2.1
        have HGw := Aside0.mk (blk_lt HD.out.arr)
        have z0 : wr.cell? ⟨w.heap.size + 1, 0, none⟩ = some (.int .u64 n) := (blk_cell HD.out.arr 0).trans rfl
        have z1 : wr.cell? ⟨w.heap.size + 1, 1, none⟩ = some (.int .u64 f) := (blk_cell HD.out.arr 1).trans rfl
        have z2 : wr.cell? ⟨w.heap.size + 1, 2, none⟩ = some (.int .u64 m) := (blk_cell HD.out.arr 2).trans rfl
        have e1 : IntKind.u64.wrap ((f : Int) + (m : Int)) = ((f + m : Nat) : Int) := by rw [w64_of _ (by omega) (by omega)]; omega
        obtain ⟨t, ht⟩ : ∃ t, t = f + m := ⟨_, rfl⟩
        rw [← ht] at e1
        have hsp := span_places f t n
        have hans : spanAns f t n = (intsOf (spanPlaces f t n), 0) := by unfold spanAns; rw [if_neg (by omega), if_neg (by omega)]
        rw [hans] at hsp
        have hl : (intsOf (spanPlaces f t n)).length = (spanSpots f t n).length := by simp [intsOf, spanPlaces]
        have hsh := span_short f t n
        have hdec3 : decN (83 :: r) = if r'.length < 32 * (spanSpots f t n).length then (noReach, 11) else if 32 * (spanSpots f t n).length < r'.length then (noReach, 13) else ((n, f, t, takeH (spanSpots f t n).length r'), 0) := by rw [hdec, ht]; rfl
        generalize intsOf (spanPlaces f t n) = L at *
        generalize (spanSpots f t n).length = q at *
        subst hl
        have e2 : wrap64 (32 * (L.length : Int)) = ((32 * L.length : Nat) : Int) := by rw [i64_of _ (by omega) (by omega)]; omega
        have HSp := Aside0.mk hsp
        have HDec := Aside0.mk hdec3
        have HOk := Aside0.mk hok
        clear hsp hdec3 hdec hans hok ht
        go_wp2_with fail
        refine (HSp.out _).mono ?_
        rintro e w3 ⟨v3, rfl, hr3, hb3⟩
        obtain ⟨A3, c3, e3⟩ := Kd.R_slice hr3
        subst e3
        have HX3 := Aside0.mk ((hb3.block _ (by simp)).trans (heap_new wr _))
        have HD4 := Aside0.mk (HD.out.below ((bl_new wr _).trans (hb3.mono (by simp))))
        clear hr3 hb3 HSp HD z0 z1 z2
        by_cases hlt : r'.length < 32 * L.length
        · have HDc := Aside0.mk (show decN (83 :: r) = (noReach, 11) by rw [HDec.out, if_pos hlt])
          go_wp2_with ((with_reducible refine gate_store (t := 45) (p := 2) (v := .tmp 99) rfl ?_); go_loud (refine store_agg 45 #[.int .u64 0, .int .u64 0, .int .u64 0, .slice none 0 0] rfl rfl (.tmp 2) (.tmp 99) rfl (by rw [sizeR]; rfl) (by simp [Value.oneCell']) _ rfl _ _ HD4.out.res rfl rfl ?_; intro w4 hz4 hf4; have HZ4 := Aside0.mk hz4; have HF4 := Aside0.mk hf4; clear hz4 hf4))
          (try simp only [Exit.inBlock, Exit.then])
          refine bodyPost_ret (results_ct rfl _ _ w.heap.size 45 (reachC noReach (.slice none 0 0)) (0, 0) _ rfl HZ4.out Try.underlying45 rfl (by rw [sizeR]; rfl)) rfl ?_
          unfold Decd
          rw [HDc.out]
          exact ⟨_, rfl, Kd.R_nil _ _ _ _ _, HD4.out.be.trans (HF4.out.below HD4.out.be.size (fun k hk => by omega))⟩
        · by_cases hgt : 32 * L.length < r'.length
          · have HDc := Aside0.mk (show decN (83 :: r) = (noReach, 13) by rw [HDec.out, if_neg hlt, if_pos hgt])
            go_wp2_with ((with_reducible refine gate_store (t := 45) (p := 2) (v := .tmp 105) rfl ?_); go_loud (refine store_agg 45 #[.int .u64 0, .int .u64 0, .int .u64 0, .slice none 0 0] rfl rfl (.tmp 2) (.tmp 105) rfl (by rw [sizeR]; rfl) (by simp [Value.oneCell']) _ rfl _ _ HD4.out.res rfl rfl ?_; intro w4 hz4 hf4; have HZ4 := Aside0.mk hz4; have HF4 := Aside0.mk hf4; clear hz4 hf4))
            (try simp only [Exit.inBlock, Exit.then])
            refine bodyPost_ret (results_ct rfl _ _ w.heap.size 45 (reachC noReach (.slice none 0 0)) (0, 0) _ rfl HZ4.out Try.underlying45 rfl (by rw [sizeR]; rfl)) rfl ?_
            unfold Decd
            rw [HDc.out]
            exact ⟨_, rfl, Kd.R_nil _ _ _ _ _, HD4.out.be.trans (HF4.out.below HD4.out.be.size (fun k hk => by omega))⟩
          · have hrl : r'.length = 32 * L.length := by omega
            have HR0 := Aside0.mk (show RdSt w wr.heap.size n f t w3 (takeH 0 r') (.slice none 0 0) from ⟨HD4.out.be, HD4.out.res, HX3.out, Kd.R_nil _ _ _ _ _⟩)
            have hgw := HGw.out
            generalize wr.heap.size = g at *
            have HDr := Aside0.mk (show decN (83 :: r) = ((n, f, t, takeH L.length r'), 0) by rw [HDec.out, if_neg hlt, if_neg hgt])
            have hL : L.length ≤ 187 := hsh
            clear HX3 HD4 HDec hlt hgt e2
            go_wp2_with fail
            go_loopw [0] (fun b wr => ∃ (k len5 : Nat) (ad5 : Addr) (c5 : Nat), b = .slice (some ad5) len5 c5 ∧ len5 ≤ c5 ∧ len5 ≤ 9223372036854775806 ∧ Aside0 (len5 + 32 * k = 32 * L.length) ∧ Aside0 (Kd.C (Kd.int .u8) w (some ad5) len5 (r'.drop (32 * k))) ∧ Aside0 (∃ v, RdSt w g n f t wr (takeH k r') v)) (fun b _ => lenOf b)
            case atStart => exact ⟨0, _, ad', c', rfl, by omega, by omega, ⟨by omega⟩, ⟨by rw [Nat.mul_zero, List.drop_zero, ← hrl]; exact HF.out.1⟩, ⟨_, HR0.out⟩⟩
            case round =>
              obtain ⟨k, len5, ad5, c5, rfl, hl5, hc5, HK, HC5, HS⟩ := hrel
              clear HR0
              obtain ⟨v, hst⟩ := HS.out
              have x3 : wr.cell? ⟨g, 3, none⟩ = some v := (blk_cell hst.box 3).trans rfl
              by_cases h0 : 0 < len5
              · have hk32 : 32 ≤ len5 := by have := HK.out; omega
                have hcl := Kd.C_len HC5.out
                obtain ⟨b5, o5, e5, hrg⟩ := bytes_hash HC5.out (by omega)
                subst e5
                have hsn := takeH_snoc k r'
                obtain ⟨ad6, hif6⟩ : ∃ ad6 : Addr, (if c5 = 32 then some (⟨b5, o5, none⟩ : Addr) else some ⟨b5, o5 + 32, none⟩) = some ad6 := by split <;> exact ⟨_, rfl⟩
                have HGg := Aside0.mk (show w.heap.size < g by omega)
                have HC6 := Aside0.mk (show Kd.C (Kd.int .u8) w (some ad6) (len5 - 32) (r'.drop (32 * (k + 1))) by
                  have h1 := HC5.out
                  rw [← hcl] at h1
                  have h2 := Kd.C_drop (m := 32) (c := c5) h1 (by omega) (by omega)
                  rw [List.drop_drop, show 32 * k + 32 = 32 * (k + 1) by omega] at h2
                  have h3 : (r'.drop (32 * (k + 1))).length = len5 - 32 := by rw [List.length_drop]; have := HK.out; rw [hrl]; omega
                  rw [h3] at h2
                  have h4 : (if c5 = 32 then (some (⟨b5, o5, none⟩ : Addr)) else Option.map (fun (x : Addr) => x.add (32 * (Kd.int IntKind.u8).sz)) (some (⟨b5, o5, none⟩ : Addr))) = some ad6 := by
                    rw [← hif6]
                    simp only [Option.map_some]
                    rw [Go.WideShapes.add_plain]
                    rfl
                  rw [h4] at h2
                  exact h2)
                generalize hhd : mkH ((r'.drop (32 * k)).take 32) = h at *
                have HHg := Aside0.mk (show HashAt wr.drew ⟨b5, o5, none⟩ h from ⟨b5, o5, rfl, fun j v hv => range_keep hrg hst.be j v hv⟩)
                have hu0 := hst.be.size
                have hat : ∀ w, (Instr.arrayAt 73 (.slice (some ⟨b5, o5, none⟩) len5 c5)).run Try.prog w = .ok (.pointer (some ⟨b5, o5, none⟩)) w := fun w => run_arrayAt w _ _ 32 _ _ _ Try.underlying73 hk32
                have hns : (takeH k r').length ≤ 187 := by rw [takeH_len]; have := HK.out; omega
                have hw0 := hst.be.size
                have HSt := Aside0.mk hst
                have HSn := Aside0.mk hsn
                have HRG := Aside0.mk hrg
                have x3 : wr.drew.cell? ⟨g, 3, none⟩ = some v := x3
                have x4 : ∀ o : Obj, (wr.alloc o).cell? ⟨g, 3, none⟩ = some v := fun o => (pw_cell_below (below_alloc (Below.refl _ _) o) x3)
                have hbl : ∀ W : World, (Instr.buildSlice 43 1 #[(0, .agg h.cells.toArray)]).run Try.prog W = .ok (.slice (some ⟨W.heap.size, 0, none⟩) 1 1) (W.alloc (.cells h.cells.toArray 73)) := run_build_hash h
                have hu := Try.underlying73
                have hi : (Try.prog.info? 73).map (·.size) = some h.cells.length := by rw [h.cells_len]; exact sizeH
                clear hcl hsn hhd hst hrg
                go_wp2_with fail
                have hrd : wr.drew.rangeAt b5 o5 h.cells := range_keep HRG.out (below_drew HSt.out.be)
                refine wp_region_normal (fun KQ hKQ => ?_)
                refine wp_region_any (by kernel_rfl) ?_
                change wpAny _ _ _ _ _ _ _ wr.drew
                refine wpAny_take (i := 0) (v := .pointer (some ⟨g, 3, none⟩)) rfl (by kernel_rfl) (by kernel_rfl) (by kernel_rfl) (fun _ _ _ h => absurd h.1 (by simp)) (Or.inl ⟨by rfl, fun W => by go_simp⟩) ?_
                refine wpAny_take (i := 2) (v := .slice (some ⟨b5, o5, none⟩) len5 c5) rfl (by kernel_rfl) (by kernel_rfl) (by kernel_rfl) (fun _ _ _ h => absurd h.1 (by simp)) (Or.inl ⟨by rfl, fun W => by go_simp⟩) ?_
                refine wpAny_take (i := 3) (v := .pointer (some ⟨b5, o5, none⟩)) rfl (by kernel_rfl) (by kernel_rfl) (by kernel_rfl) (fun _ _ _ h => absurd h.1 (by simp)) (Or.inl ⟨by rfl, fun W => by go_simp⟩) ?_
                simp only [Act.put, List.setIfInBounds_toArray, List.set_cons_zero, List.set_cons_succ]
                refine wpAny_ready (rs := [1, 4]) (by kernel_rfl) (by simp) ?_
                refine AllReady.cons rfl (fun K hK => ?_) (AllReady.cons rfl (fun K hK => ?_) AllReady.nil)
                · go_simp
                  refine hK _ _ ?_
                  clear hK K
                  refine wpAny_seqL [4, 5, 6, 7, 8] _ _ _ (by kernel_rfl) ?_
                  simp only [List.map_cons, List.map_nil, List.getElem?_toArray, List.getElem?_cons_succ, List.getElem?_cons_zero, Option.getD_some]
                  refine wpList_load_mid rfl 73 (.tmp 114) rfl b5 o5 rfl h.cells _ hrd hu rfl hi ?_
                  refine build_hash rfl (.tmp 115) rfl h rfl ?_
                  refine app_one kH w.heap.size rfl (.tmp 112) (.tmp 116) 43 73 _ 32 rfl Try.underlying43 infoH rfl (by decide) (by decide) v (takeH k r') h h.cells rfl rfl rfl (Kd.R_below HSt.out.row (by repeat (with_reducible first | exact Below.refl _ _ | refine below_alloc ?_ _ | refine below_drew ?_))) (Nat.le_trans hw0 (Below.size (B := wr.heap.size) (w := wr) (by repeat (with_reducible first | exact Below.refl _ _ | refine below_alloc ?_ _ | refine below_drew ?_)))) (by omega) ?_
                  intro A7 c7 w7 hr7 hf7 ha7
                  have HR7 := Aside0.mk hr7
                  have HX7 := Aside0.mk (RdSt.keep HSt.out (by repeat (with_reducible first | exact Below.refl _ _ | refine below_alloc ?_ _ | refine below_drew ?_)) hf7)
                  have x7 : w7.cell? ⟨g, 3, none⟩ = some v := (blk_cell HX7.out.1 3).trans rfl
                  have f7 : w7.frozen? ⟨g, 3, none⟩ = false := blk_frozen HX7.out.1 3
                  clear hr7 hf7 ha7
                  have HN := Aside0.mk (RdSt.store HX7.out.1 HX7.out.2.1 HX7.out.2.2 HR7.out HGg.out)
                  rw [← HSn.out] at HN
                  go_wp2_with fail
                  go_roundw
                  case rel => exact ⟨k + 1, len5 - 32, ad6, c5 - 32, rfl, by omega, by omega, ⟨by have := HK.out; omega⟩, HC6, ⟨_, HN.out⟩⟩
                  case measure => simp [lenOf]; omega
                · refine step_of_list rfl ?_
                  refine wpList_load_mid rfl 73 (.tmp 114) rfl b5 o5 rfl h.cells _ hrd hu rfl hi ?_
                  refine wpList_one ?_
                  refine hK _ _ ?_
                  clear hK K
                  simp only [Act.put, List.setIfInBounds_toArray, List.set_cons_zero, List.set_cons_succ]
                  refine wpAny_ready (rs := [1, 5]) (by kernel_rfl) (by simp) ?_
                  refine AllReady.cons rfl (fun K hK => ?_) (AllReady.cons rfl (fun K hK => ?_) AllReady.nil)
                  · go_simp
                    refine hK _ _ ?_
                    clear hK K
                    refine wpAny_seqL [5, 6, 7, 8] _ _ _ (by kernel_rfl) ?_
                    simp only [List.map_cons, List.map_nil, List.getElem?_toArray, List.getElem?_cons_succ, List.getElem?_cons_zero, Option.getD_some]
                    refine build_hash rfl (.tmp 115) rfl h rfl ?_
                    refine app_one kH w.heap.size rfl (.tmp 112) (.tmp 116) 43 73 _ 32 rfl Try.underlying43 infoH rfl (by decide) (by decide) v (takeH k r') h h.cells rfl rfl rfl (Kd.R_below HSt.out.row (by repeat (with_reducible first | exact Below.refl _ _ | refine below_alloc ?_ _ | refine below_drew ?_))) (Nat.le_trans hw0 (Below.size (B := wr.heap.size) (w := wr) (by repeat (with_reducible first | exact Below.refl _ _ | refine below_alloc ?_ _ | refine below_drew ?_)))) (by omega) ?_
                    intro A7 c7 w7 hr7 hf7 ha7
                    have HR7 := Aside0.mk hr7
                    have HX7 := Aside0.mk (RdSt.keep HSt.out (by repeat (with_reducible first | exact Below.refl _ _ | refine below_alloc ?_ _ | refine below_drew ?_)) hf7)
                    have x7 : w7.cell? ⟨g, 3, none⟩ = some v := (blk_cell HX7.out.1 3).trans rfl
                    have f7 : w7.frozen? ⟨g, 3, none⟩ = false := blk_frozen HX7.out.1 3
                    clear hr7 hf7 ha7
                    have HN := Aside0.mk (RdSt.store HX7.out.1 HX7.out.2.1 HX7.out.2.2 HR7.out HGg.out)
                    rw [← HSn.out] at HN
                    go_wp2_with fail
                    go_roundw
                    case rel => exact ⟨k + 1, len5 - 32, ad6, c5 - 32, rfl, by omega, by omega, ⟨by have := HK.out; omega⟩, HC6, ⟨_, HN.out⟩⟩
                    case measure => simp [lenOf]; omega
                  · refine step_of_list rfl ?_
                    refine build_hash rfl (.tmp 115) rfl h rfl ?_
                    refine wpList_one ?_
                    refine hK _ _ ?_
                    clear hK K
                    simp only [Act.put, List.setIfInBounds_toArray, List.set_cons_zero, List.set_cons_succ]
                    refine wpAny_ready (rs := [1]) (by kernel_rfl) (by simp) ?_
                    refine AllReady.cons rfl (fun K hK => ?_) AllReady.nil
                    go_simp
                    refine hK _ _ ?_
                    clear hK K
                    refine wpAny_seqL [6, 7, 8] _ _ _ (by kernel_rfl) ?_
                    simp only [List.map_cons, List.map_nil, List.getElem?_toArray, List.getElem?_cons_succ, List.getElem?_cons_zero, Option.getD_some]
                    change wpList _ _ _ _ _ (wr.drew.alloc (.cells h.cells.toArray 73))
                    refine app_one kH w.heap.size rfl (.tmp 112) (.tmp 116) 43 73 _ 32 rfl Try.underlying43 infoH rfl (by decide) (by decide) v (takeH k r') h h.cells rfl rfl rfl (Kd.R_below HSt.out.row (by repeat (with_reducible first | exact Below.refl _ _ | refine below_alloc ?_ _ | refine below_drew ?_))) (Nat.le_trans hw0 (Below.size (B := wr.heap.size) (w := wr) (by repeat (with_reducible first | exact Below.refl _ _ | refine below_alloc ?_ _ | refine below_drew ?_)))) (by omega) ?_
                    intro A7 c7 w7 hr7 hf7 ha7
                    have HR7 := Aside0.mk hr7
                    have HX7 := Aside0.mk (RdSt.keep HSt.out (by repeat (with_reducible first | exact Below.refl _ _ | refine below_alloc ?_ _ | refine below_drew ?_)) hf7)
                    have x7 : w7.cell? ⟨g, 3, none⟩ = some v := (blk_cell HX7.out.1 3).trans rfl
                    have f7 : w7.frozen? ⟨g, 3, none⟩ = false := blk_frozen HX7.out.1 3
                    clear hr7 hf7 ha7
                    have HN := Aside0.mk (RdSt.store HX7.out.1 HX7.out.2.1 HX7.out.2.2 HR7.out HGg.out)
                    rw [← HSn.out] at HN
                    go_wp2_with fail
                    go_roundw
                    case rel => exact ⟨k + 1, len5 - 32, ad6, c5 - 32, rfl, by omega, by omega, ⟨by have := HK.out; omega⟩, HC6, ⟨_, HN.out⟩⟩
                    case measure => simp [lenOf]; omega
              · have hl0 : len5 = 0 := by omega
                have hkl : k = L.length := by have := HK.out; omega
                subst hl0
                subst hkl
                have x0 : wr.cell? ⟨g, 0, none⟩ = some (.int .u64 n) := (blk_cell hst.box 0).trans rfl
                have x1 : wr.cell? ⟨g, 1, none⟩ = some (.int .u64 f) := (blk_cell hst.box 1).trans rfl
                have x2 : wr.cell? ⟨g, 2, none⟩ = some (.int .u64 t) := (blk_cell hst.box 2).trans rfl
                have HSt := Aside0.mk hst
                clear hst
                go_wp2_with ((with_reducible refine gate_store (t := 45) (p := 2) (v := .tmp 119) rfl ?_); go_loud (refine store_agg 45 #[.int .u64 n, .int .u64 f, .int .u64 t, v] rfl rfl (.tmp 2) (.tmp 119) rfl (by rw [sizeR]; rfl) (by obtain ⟨A9, c9, e9⟩ := Kd.R_slice HSt.out.row; rw [e9]; simp [Value.oneCell']) #[.int .u64 0, .int .u64 0, .int .u64 0, .slice none 0 0] rfl _ _ HSt.out.res rfl rfl ?_; intro w4 hz4 hf4; have HZ4 := Aside0.mk hz4; have HF4 := Aside0.mk hf4; clear hz4 hf4))
                (try simp only [Exit.inBlock, Exit.then])
                refine bodyPost_ret (results_ct rfl _ _ w.heap.size 45 #[.int .u64 n, .int .u64 f, .int .u64 t, v] (0, 0) _ rfl HZ4.out Try.underlying45 rfl (by rw [sizeR]; rfl)) rfl ?_
                unfold Decd
                rw [HDr.out]
                refine ⟨v, rfl, R_frm flat_kH HSt.out.row HF4.out (fun k hk he => ?_), HSt.out.be.trans (HF4.out.below HSt.out.be.size (fun k hk => by omega))⟩
                exact Kd.R_ne HSt.out.row HSt.out.res (by decide) (by rw [hk, he])
    | _ :: _ :: _ :: _ :: _, HF, _ => exact absurd HF.out.2.2.2 (by simp [okN])
end Go.Proofs.Ytagcabmccpekaaa.M

namespace Go.Proofs.Ytagcabmccpekaaa.M
open Go.RowKit Go.Proofs.YtagcabmccpekaaaW.PrintWords Go.Proofs.YtagcabmccpekaaaW.PrintLast Go.Proofs.YtagcabmccpekaaaW.PrintMore Go.Proofs.Ytagcabmccpekaaa.Leaf

theorem R_emptyK {α : Type} (d : Kd α) {e : Nat} {w : World} {g : Nat} {t : Nat} (ht : t = e) (hg : w.heap[g]? = some (.cells #[] t (0, 0))) {base : Nat} (hb : base ≤ g) : d.R e w base (fun _ => True) (.slice (some ⟨g, 0, none⟩) 0 0) [] := by
  subst ht
  exact ⟨fun _ _ => trivial, [], ⟨by simp, .inr ⟨g, 0, #[], rfl, hb, hg, Nat.le_refl _, Nat.zero_le _, by simp, by simp⟩⟩, Reps.none _ _⟩
set_option maxHeartbeats 1000000 in
set_option maxRecDepth 100000 in
/-- The same bytes in a list of their own that goes on behind them. -/
theorem text_calls (l : List Int) (A : Option Addr) (c : Nat) (w : World) (hl : l.length ≤ 1000000) (hC : Kd.C (Kd.int .u8) w A l.length l) :
    Calls Try.prog 27 #[.slice A l.length c] w fun e w' => ∃ A' c', e = .returned (.slice A' l.length c') ∧ Kd.R (Kd.int .u8) 5 w' w.heap.size (fun _ => True) (.slice A' (l.length + 1) c') (l ++ [171]) ∧ Below w.heap.size w w' := by
  have HC := Aside0.mk hC
  clear hC
  go_enter Try.func27, Try.ntmps27
  have HE := Aside0.mk (R_emptyK (Kd.int .u8) (e := 5) (base := w.heap.size) rfl (heap_new w (.cells #[] 5)) (Nat.le_refl _))
  go_wp2_with (first | ((with_reducible refine gate_builtin (b := .append) (xs := #[.tmp 3, .tmp 4]) rfl ?_); at_builtin; go_loud (refine app_row .u8 w.heap.size rfl (.tmp 3) (.tmp 4) 46 5 (.int .u8 0) 1 rfl Try.underlying46 info5 rfl (by omega) (.slice (some ⟨w.heap.size, 0, none⟩) 0 0) [] l A l.length c rfl rfl HE.out (Kd.C_below HC.out (bl_new w _)) (by simp) (by simp; omega) ?_; intro A2 c2 w2 hr2 hf2 hat2; simp only [List.length_nil, Nat.zero_add, List.nil_append] at hr2 ⊢; have HR2 := Aside0.mk hr2; have hb2 := Aside0.mk ((bl_new w _).trans (hf2.below (by simp) (fun k hk => Kd.R_base HE.out k hk.symm))); clear hr2 hf2 hat2)) | ((with_reducible refine gate_builtin (b := .append) (xs := #[.tmp 5, .tmp 6]) rfl ?_); at_builtin; go_loud (refine app_one (Kd.int .u8) w.heap.size rfl (.tmp 5) (.tmp 6) 46 5 (.int .u8 0) 1 rfl Try.underlying46 info5 rfl (by decide) (by omega) _ l 171 [.int .u8 171] rfl rfl rfl HR2.out hb2.out.size (by omega) ?_; intro A3 c3 w3 hr3 hf3 hat3; have hle := (Kd.R_reads' hr3).2.1; have hle2 : l.length ≤ c3 := Nat.le_trans (Nat.le_succ _) hle; have HR3 := Aside0.mk hr3; have hb3 := Aside0.mk (hb2.out.trans (hf3.below hb2.out.size (fun k hk => Kd.R_base HR2.out k hk.symm))); clear hr3 hf3 hat3)))
  go_ret
  exact ⟨A3, c3, rfl, HR3.out, hb3.out⟩
set_option maxHeartbeats 1000000 in
set_option maxRecDepth 100000 in
/-- The same hashes in a list of their own that goes on behind them. -/
theorem row_calls (l : List Hsh) (A : Option Addr) (c : Nat) (w : World) (hl : l.length ≤ 1000000) (hC : kH.C w A l.length l) :
    Calls Try.prog 22 #[.slice A l.length c] w fun e w' => ∃ A' c', e = .returned (.slice A' l.length c') ∧ kH.R 73 w' w.heap.size (fun _ => True) (.slice A' (l.length + 1) c') (l ++ [hash1 171]) ∧ Below w.heap.size w w' := by
  have HC := Aside0.mk hC
  clear hC
  go_enter Try.func22, Try.ntmps22
  have HE := Aside0.mk (R_emptyK kH (e := 73) (base := w.heap.size) rfl (heap_new w (.cells #[] 73)) (Nat.le_refl _))
  have hz1 := (hash1 171).one
  have sz := sizeH
  go_wp2_with (first | ((with_reducible refine gate_builtin (b := .append) (xs := #[.tmp 3, .tmp 4]) rfl ?_); at_builtin; go_loud (refine app_rows kH (fun _ _ _ _ _ h => h) w.heap.size rfl (.tmp 3) (.tmp 4) 43 73 _ 32 rfl Try.underlying43 infoH rfl (by decide) (by decide) (.slice (some ⟨w.heap.size, 0, none⟩) 0 0) [] l A l.length c rfl rfl HE.out (Kd.C_below HC.out (bl_new w _)) (by simp) (by simp; omega) ?_; intro A2 c2 w2 hr2 hf2 hat2; simp only [List.length_nil, Nat.zero_add, List.nil_append] at hr2 ⊢; have HR2 := Aside0.mk hr2; have hb2 := Aside0.mk ((bl_new w _).trans (hf2.below (by simp) (fun k hk => Kd.R_base HE.out k hk.symm))); clear hr2 hf2 hat2)) | ((with_reducible refine gate_builtin (b := .append) (xs := #[.tmp 5, .tmp 7]) rfl ?_); at_builtin; go_loud (refine app_one kH w.heap.size rfl (.tmp 5) (.tmp 7) 43 73 _ 32 rfl Try.underlying43 infoH rfl (by decide) (by decide) _ l (hash1 171) (hash1 171).cells rfl rfl rfl HR2.out hb2.out.size (by omega) ?_; intro A3 c3 w3 hr3 hf3 hat3; have hle := (Kd.R_reads' hr3).2.1; have hle2 : l.length ≤ c3 := Nat.le_trans (Nat.le_succ _) hle; have HR3 := Aside0.mk hr3; have hb3 := Aside0.mk (hb2.out.trans (hf3.below hb2.out.size (fun k hk => Kd.R_base HR2.out k hk.symm))); clear hr3 hf3 hat3)))
  go_ret
  exact ⟨A3, c3, rfl, HR3.out, hb3.out⟩
/-- Hashes, read. -/
def Hd (w : World) (v : Value) (xs : List Hsh) : Prop := ∃ A c, v = .slice A xs.length c ∧ kH.C w A xs.length xs
theorem Hd.below {w w1 : World} {v : Value} {xs : List Hsh} (h : Hd w v xs) (hb : Below w.heap.size w w1) : Hd w1 v xs := by
  obtain ⟨A, c, e, hc⟩ := h
  exact ⟨A, c, e, Kd.C_below hc hb⟩
theorem Hd.of_R {e base : Nat} {w : World} {v : Value} {xs : List Hsh} (h : kH.R e w base (fun _ => True) v xs) : Hd w v xs := by
  obtain ⟨A, c, e1, hl, hc⟩ := Kd.R_reads h
  exact ⟨A, c, e1, hc⟩
set_option maxHeartbeats 2000000 in
set_option maxRecDepth 100000 in
theorem sameH_true (xs : List Hsh) (A B : Option Addr) (c d : Nat) (w : World) (hl : xs.length ≤ 1000000000) (hA : kH.C w A xs.length xs) (hB : kH.C w B xs.length xs) :
    Calls Try.prog 59 #[.slice A xs.length c, .slice B xs.length d] w fun e w' => e = .returned (.bool true) ∧ Below w.heap.size w w' := by
  have HA := Aside0.mk hA
  have HB := Aside0.mk hB
  clear hA hB
  go_enter Try.func59, Try.ntmps59
  go_wp2_with fail
  go_loopw [5] (fun k wr => ∃ j : Nat, j ≤ xs.length ∧ k = .int .i64 j ∧ Aside0 (Below w.heap.size w wr)) (fun k _ => xs.length - (intOf k).toNat)
  case atStart => exact ⟨0, Nat.zero_le _, rfl, ⟨Below.refl _ _⟩⟩
  case round =>
    obtain ⟨j, hj, rfl, HW⟩ := hrel
    by_cases hlt : j < xs.length
    · obtain ⟨ad, ea, hh⟩ := C_hash (Kd.C_below HA.out HW.out) j hlt
      obtain ⟨bd, eb, hg⟩ := C_hash (Kd.C_below HB.out HW.out) j hlt
      subst ea eb
      generalize xs[j] = h at *
      have HH := Aside0.mk hh
      have HG := Aside0.mk hg
      clear hh hg
      go_wp2_with fail
      refine wp_region_quiet_lit (by kernel_rfl) (by kernel_rfl) ?_
      go_big_quiet_step (fail)
      go_big_quiet_step (fail)
      go_big_quiet_step (fail)
      refine quiet_hash rfl (.tmp 19) rfl rfl h HH.out ?_
      simp only [Act.put, List.setIfInBounds_toArray, List.set_cons_zero, List.set_cons_succ]
      go_big_quiet_step (fail)
      go_big_quiet_step (fail)
      go_big_quiet_step (fail)
      refine quiet_hash rfl (.tmp 23) rfl rfl h HG.out ?_
      refine quiet_neq rfl (.tmp 20) (.tmp 24) _ rfl h h rfl rfl ?_
      rw [decide_eq_true rfl]
      refine wpQuiet_nil ?_
      intro _ hw'
      obtain ⟨nq, hw''⟩ := hw'
      subst hw''
      go_wp2_with fail
      go_roundw
      case rel => exact ⟨j + 1, by omega, by go_num, ⟨pw_below_drewN HW.out _⟩⟩
      case measure => simp [intOf]; omega
    · have hjl : j = xs.length := by omega
      subst hjl
      go_wp2_with fail
      go_ret
      exact ⟨rfl, HW.out⟩
end Go.Proofs.Ytagcabmccpekaaa.M
