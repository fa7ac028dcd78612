/- Two hashes, compared. append's laws once more, the new row's length under a name of its own. Hashes, further words: as bytes, read, compared, written; rows that are marked; what two rows of unlike types share. (For seats in which the texts of spans are not.). The lowest set bit by Go's table; cut.Span. Go's table for the lowest set bit is where the condition says; a world of the door's meets it. Arrays and structs in memory, of any length: a part of a block is loaded, is written; one is handed back; what 'clear' leaves. Four rows of bytes of one's own, each apart from the others; what is no row of bytes stays as it was. (*massiflaw7.Spy).Node: keeps what it is asked, and refuses from a question on. proof.fetch of a spy. What massifref3.Peaks, Spot, Sibling, Peak, Path and massifref7.Places come to. slices.Delete of one number of a row of the call's own. -/
import Derived.Test.YtefnonlhepekdaaDoorPA0
import Derived.ChangeKeysEq
import Derived.Laws.StructEq
import Derived.Great.BuildSlice
import Derived.Deep.MidRow
import Derived.BigQuiet
import Derived.StillTailTactics
import Derived.Test.YtefnonlhepekdaaDoorTie
import Derived.Test.YtefnonlhepekdaaDoorCards
import Derived.LaidMore
import Derived.Stop.Joined
import Derived.SevenTiedAt
import Derived.Lib.SliceRun
import Derived.Deep.QuietTactic
import Derived.IntWalk
import Derived.Shelf.RegionOpenPlain
import Derived.Deep.RegionLaw
set_option linter.unusedVariables false
set_option linter.unusedSimpArgs false
set_option linter.unusedVariables false
set_option linter.unusedSimpArgs false
namespace Go.Proofs.YtefnonlhepekdaaDoor.M
open Go.RowKit Go.Proofs.YtefnonlhepekdaaDoorW.PrintWords Go.Proofs.YtefnonlhepekdaaDoorW.PrintLast Go.Proofs.YtefnonlhepekdaaDoorW.PrintMore

theorem items_eq (d : Nat) (h g : Hsh) (w : World) : ∀ (is : List Nat), (∀ i ∈ is, i < 32) → (Op.eqItems (d + 1) 5 1 h.cells.toArray g.cells.toArray is).run Tryd.prog w = .ok (is.all fun i => h.b.getD i 0 == g.b.getD i 0) w
  | [], _ => by simp [Op.eqItems]
  | i :: is, hi => by
    have ih := items_eq d h g w is (fun j hj => hi j (List.mem_cons_of_mem _ hj))
    have h32 := hi i List.mem_cons_self
    have key : ∀ x : Hsh, x.cells.toArray[i * 1]? = some (.int .u8 (x.b.getD i 0)) := by
      intro x
      have hl := x.len
      rw [Nat.mul_one, List.getElem?_toArray]
      unfold Hsh.cells
      rw [List.getElem?_map, List.getElem?_eq_getElem (by omega)]
      simp [List.getD_eq_getElem?_getD, List.getElem?_eq_getElem (show i < x.b.length by omega)]
    have hp : Tryd.prog.plainKey 5 = true := by kernel_rfl
    rw [Op.eqItems]
    simp only [Sem.run_bind, run_part_plain w hp (key h), run_part_plain w hp (key g), Result.andThen_ok, run_equalIn_int w d 5 .u8 .u8 _ _ Tryd.underlying5]
    rw [List.all_cons]
    cases hq : (h.b.getD i 0 == g.b.getD i 0) with
    | false => simp
    | true => simp only [Bool.not_true, Bool.false_eq_true, if_false, Bool.true_and]; exact ih
theorem hash_dec (h g : Hsh) : ((List.range 32).all fun i => h.b.getD i 0 == g.b.getD i 0) = decide (h = g) := by
  rw [Bool.eq_iff_iff]
  simp only [List.all_eq_true, List.mem_range, beq_iff_eq, decide_eq_true_eq]
  constructor
  · intro hk
    have hb : h.b = g.b := by
      refine List.ext_getElem (by rw [h.len, g.len]) (fun i h1 h2 => ?_)
      have := hk i (by rw [← h.len]; exact h1)
      simpa [List.getD_eq_getElem?_getD, List.getElem?_eq_getElem h1, List.getElem?_eq_getElem h2] using this
    cases h; cases g; simp at hb; subst hb; rfl
  · rintro rfl i _; rfl
theorem hash_equalIn (d : Nat) (h g : Hsh) (w : World) : (Op.equalIn (d + 2) 63 h.val g.val).run Tryd.prog w = .ok (decide (h = g)) w := by
  obtain ⟨i, hi⟩ : ∃ i, Tryd.prog.info? 5 = some i := by
    have hs : (Tryd.prog.info? 5).isSome = true := by kernel_rfl
    exact Option.isSome_iff_exists.1 hs
  have hc : Tryd.prog.cellsOf 5 = 1 := by kernel_rfl
  unfold Hsh.val
  rw [show d + 2 = (d + 1) + 1 from rfl, run_equalIn_array w (d + 1) _ _ Tryd.underlying63 hi, hc, items_eq d h g w _ (fun j hj => List.mem_range.1 hj), hash_dec]
theorem hash_guard (op : BinOp) (x y : Operand) (h g : Hsh) (w : World) : (eqGuard op 63 x y h.val g.val).run Tryd.prog w = .ok () w := by
  have hm : Tryd.prog.eqGuardType Tryd.prog.depth 63 = false := by kernel_rfl
  exact run_eqGuard_agg w op _ x y _ _ hm
theorem hash_neq (h g : Hsh) (w : World) : (binOp .neq 63 h.val g.val).run Tryd.prog w = .ok (.bool (!decide (h = g))) w := by
  have := run_neq_struct (P := Tryd.prog) w 63 h.cells.toArray g.cells.toArray
  have e := hash_equalIn 9998 h g w
  unfold Hsh.val at e ⊢
  rw [this, e]
  rfl
/-- A slice of one hash is made. -/
theorem run_build_hash (h : Hsh) (W : World) : (Instr.buildSlice 39 1 #[(0, .agg h.cells.toArray)]).run Tryd.prog W = .ok (.slice (some ⟨W.heap.size, 0, none⟩) 1 1) (W.alloc (.cells h.cells.toArray 63)) := by
  have hin := infoH
  obtain ⟨ie, hie⟩ : ∃ ie, Tryd.prog.info? 63 = some ie := by
    cases hc : Tryd.prog.info? 63 with
    | none => rw [hc] at hin; simp at hin
    | some ie => exact ⟨ie, rfl⟩
  rw [hie] at hin
  simp only [Option.map_some, Option.some.injEq, Prod.mk.injEq] at hin
  obtain ⟨hz, hsz, _⟩ := hin
  obtain ⟨z, hz⟩ : ∃ z, ie.zero = some z := ⟨_, hz⟩
  refine run_buildSlice W _ _ 1 _ h.cells.toArray ie z Tryd.underlying39 hie hz (by rw [hsz]; omega) (by rw [hsz]; omega) ?_
  rw [hsz]
  have hcl := h.cells_len
  obtain ⟨r, hr, hs, hk⟩ := Go.Great.fill_dense (s := 32) (by omega) [h.val] 0 ((Array.range (1 * 32)).map (z.cells[· % z.cells.size]!)) (fun v hv => by simp at hv; subst hv; show h.cells.toArray.size = 32; simpa using hcl) (by simp)
  have e : r = h.cells.toArray := by
    refine Array.ext_getElem? (fun j => ?_)
    rw [hk j]
    by_cases hj : j < 32
    · rw [if_pos (by simp; omega)]
      rw [show j / 32 - 0 = 0 by omega]
      simp only [List.getElem?_cons_zero, Option.bind_some]
      rw [show h.val.cells = h.cells.toArray from rfl, Nat.mod_eq_of_lt hj]
    · rw [if_neg (by simp; omega), Array.getElem?_eq_none (by simp; omega), Array.getElem?_eq_none (by simp; omega)]
  rw [e] at hr
  exact hr
theorem build_hash {ops : Array Oper} {rest : List Oper} {o : Oper} {a : Act} {Q : Exit → Act → World → Prop} {W : World} (hgd : o.guard = none) (x : Operand) (ho : o.op = .buildSlice 39 1 #[(0, x)]) (h : Hsh) (hx : a.eval x = h.val)
    (k : wpList Tryd.prog ops Q rest (a.put o.dst (.slice (some ⟨W.heap.size, 0, none⟩) 1 1)) (W.alloc (.cells h.cells.toArray 63))) : wpList Tryd.prog ops Q (o :: rest) a W := by
  refine wpList_plain hgd fun K hK => ?_
  have hr := run_build_hash h W
  have hx2 : a.eval x = .agg h.cells.toArray := hx
  unfold Oper.wp execOp
  simp only [ho, List.map_toArray, List.map_cons, List.map_nil, hx2, Sem.run_bind, hr, Result.andThen_ok]
  exact hK _ _ k
end Go.Proofs.YtefnonlhepekdaaDoor.M

set_option linter.unusedVariables false
set_option linter.unusedSimpArgs false
namespace Go.Proofs.YtefnonlhepekdaaDoor.M
open Go.RowKit Go.Proofs.YtefnonlhepekdaaDoorW.PrintWords Go.Proofs.YtefnonlhepekdaaDoorW.PrintLast Go.Proofs.YtefnonlhepekdaaDoorW.PrintMore

section
variable {P : Program} {ops : Array Oper} {rest : List Oper} {o : Oper} {a : Act} {Q : Exit → Act → World → Prop} {α : Type}
theorem app_oneN (d : Kd α) {W : World} (base : Nat) (hgd : o.guard = none) (s x : Operand) (t e : TypeId) (z : Value) (bytes : Nat)
    (ho : o.op = .call { callee := .builtin .append, args := #[s, x], argTypes := #[t, t] })
    (ht : P.underlying t = some (.slice e)) (hinfo : (P.info? e).map (fun i => (i.zero, i.size, i.bytes)) = some (some z, d.sz, bytes)) (hz : z.cells.size = d.sz) (hs0 : 0 < d.sz) (hb0 : 0 < bytes)
    (v : Value) (xs : List α) (p : α) (cs : List Value) (hs : a.eval s = v) (hx : a.eval x = .slice (some ⟨W.heap.size, 0, none⟩) 1 1) (hp : d.M W base (fun _ => False) p cs)
    (HO : d.R e W base (fun _ => True) v xs) (hbase : base ≤ W.heap.size) (hl : (xs.length + 1) * bytes ≤ 140737488355328)
    (h : ∀ A1 n1 c1 w1, d.R e w1 base (fun _ => True) (.slice A1 n1 c1) (xs ++ [p]) → Frm (fun k => some k = v.ownBlock) W w1 →
      ((Value.slice A1 n1 c1).ownBlock = v.ownBlock ∨ ∃ b, (Value.slice A1 n1 c1).ownBlock = some b ∧ W.heap.size ≤ b) → wpList P ops Q rest (a.put o.dst (.slice A1 n1 c1)) w1) :
    wpList P ops Q (o :: rest) a (W.alloc (.cells cs.toArray e)) :=
  app_one d base hgd s x t e z bytes ho ht hinfo hz hs0 hb0 v xs p cs hs hx hp HO hbase hl (fun A1 c1 w1 h1 h2 h3 => h A1 _ c1 w1 h1 h2 h3)
end
end Go.Proofs.YtefnonlhepekdaaDoor.M

set_option linter.unusedVariables false
set_option linter.unusedSimpArgs false
namespace Go.Proofs.YtefnonlhepekdaaDoor.M
open Go.RowKit Go.Proofs.YtefnonlhepekdaaDoorW.PrintWords Go.Proofs.YtefnonlhepekdaaDoorW.PrintLast Go.Proofs.YtefnonlhepekdaaDoorW.PrintMore Go.Proofs.YtefnonlhepekdaaDoor.Leaf

def hashZ : Hsh := hash1 0
def nodesI (ns : List Hsh) : List Int := ns.flatMap fun h => h.b
theorem Rd.row {k : IntKind} {w : World} {A : Option Addr} {m c : Nat} {xs : List Int} (h : Rd k w (.slice A m c) xs) : Kd.C (Kd.int k) w A m xs := by
  obtain ⟨A', c', ev, _, hC⟩ := h
  injection ev with e1 e2 e3
  subst e1 e2
  exact hC
/-- What one reads of a row of one's own. -/
theorem R_C {α : Type} {d : Kd α} {e base : Nat} {w : World} {A : Option Addr} {n c : Nat} {xs : List α} (h : d.R e w base (fun _ => True) (.slice A n c) xs) : d.C w A n xs := by
  have h1 := Kd.R_reads' h
  rw [h1.1]
  exact h1.2.2
/-- Rows of two types own no block together. -/
theorem own_types {α β : Type} {d : Kd α} {d' : Kd β} {e e' base base' : Nat} {ok ok' : Nat → Prop} {w : World} {u v : Value} {xs : List α} {ys : List β} (h : d.R e w base ok u xs) (h' : d'.R e' w base' ok' v ys) (hne : e ≠ e') {k : Nat} (h1 : u.ownBlock = some k) (h2 : v.ownBlock = some k) : False := by
  obtain ⟨c1, e1⟩ := Kd.R_typed h k h1
  obtain ⟨c2, e2⟩ := Kd.R_typed h' k h2
  rw [e1] at e2
  injection e2 with e2
  injection e2 with _ e2
  exact hne e2
/-- Two values that own no block together. -/
def Apart (u v : Value) : Prop := ∀ k, u.ownBlock = some k → v.ownBlock ≠ some k
theorem Apart.symm {u v : Value} (h : Apart u v) : Apart v u := fun k h1 h2 => h k h2 h1
theorem row_round {k : IntKind} {e base g n c : Nat} {W : World} {M : List Int} (h : (Kd.int k).R e W base (fun _ => True) (.slice (some ⟨g, 0, none⟩) n c) M) (j : Nat) (hj : j < n) :
    (∃ z : Int, W.cell? ⟨g, j, none⟩ = some (.int k z)) ∧ W.frozen? ⟨g, j, none⟩ = false ∧ ∀ x : Int, (Kd.int k).R e (W.setCell ⟨g, j, none⟩ (.int k x)) base (fun _ => True) (.slice (some ⟨g, 0, none⟩) n c) (M.set j x) := by
  obtain ⟨k1, k2⟩ := Kd.R_celln 0 h (j : Int) (by omega) (by omega)
  rw [Int.toNat_natCast] at k1 k2
  refine ⟨⟨_, k1⟩, k2, fun x => ?_⟩
  have s1 := Kd.R_putn h (j : Int) x
  rw [Int.toNat_natCast] at s1
  exact s1
/-- An element of a row of numbers, read. -/
theorem C_at {k : IntKind} {w : World} {A : Option Addr} {n : Nat} {xs : List Int} (h : (Kd.int k).C w A n xs) (j : Nat) (hj : j < n) : ∃ ad, A = some ad ∧ w.cell? (ad.add j) = some (.int k (xs.getD j 0)) := by
  have hl := Kd.C_len h
  obtain ⟨ad, ea, hx⟩ := Kd.at_int h (j : Int) (by omega) (by omega)
  rw [Int.toNat_natCast, show rd xs (j : Int) = xs.getD j 0 by simp only [rd, Int.toNat_natCast]] at hx
  exact ⟨ad, ea, hx⟩
/-- Hashes, read. -/
def Hd (w : World) (v : Value) (xs : List Hsh) : Prop := ∃ A c, v = .slice A xs.length c ∧ kH.C w A xs.length xs
theorem Hd.below {w w1 : World} {v : Value} {xs : List Hsh} (h : Hd w v xs) (hb : Below w.heap.size w w1) : Hd w1 v xs := by
  obtain ⟨A, c, e, hc⟩ := h
  exact ⟨A, c, e, Kd.C_below hc hb⟩
section
variable {ops : Array Oper} {rest : List Oper} {o : Oper} {a : Act} {Q : Exit → Act → World → Prop} {W : World}
end
end Go.Proofs.YtefnonlhepekdaaDoor.M

set_option linter.unusedVariables false
set_option linter.unusedSimpArgs false
namespace Go.Proofs.YtefnonlhepekdaaDoor.M
open Go.RowKit Go.Proofs.YtefnonlhepekdaaDoorW.PrintWords Go.Proofs.YtefnonlhepekdaaDoorW.PrintLast Go.Proofs.YtefnonlhepekdaaDoorW.PrintMore Go.Proofs.YtefnonlhepekdaaDoor.Leaf

/-- Go's table for the lowest set bit. -/
def dbTab : List Nat := [0, 1, 56, 2, 57, 49, 28, 3, 61, 58, 42, 50, 38, 29, 17, 4, 62, 47, 59, 36, 45, 43, 51, 22, 53, 39, 33, 30, 24, 18, 12, 5, 63, 55, 48, 27, 60, 41, 37, 16, 46, 35, 44, 21, 52, 32, 23, 11, 54, 26, 40, 15, 34, 20, 31, 10, 25, 14, 19, 9, 13, 8, 7, 6]
theorem db_hit : ∀ k : Fin 64, dbTab[(2 ^ k.val * 285870213051353865 % 18446744073709551616) / 288230376151711744]? = some k.val := by decide +kernel
/-- The table lies where the program lays it. -/
def DB (w : World) : Prop := ∀ (j : Nat) (k : Nat), dbTab[j]? = some k → w.cell? ⟨1, j, none⟩ = some (.int .u8 (k : Int))
theorem DB.below {w w' : World} (h : DB w) (hb : Below w.heap.size w w') : DB w' := fun j k hk => pw_cell_below hb (h j k hk)

set_option maxHeartbeats 1000000 in
set_option maxRecDepth 100000 in
theorem tz_calls (x : Nat) (hx : x < 18446744073709551616) (w : World) (hT : DB w) :
    Calls Tryd.prog 116 #[.int .u64 x] w fun e w' => e = .returned (.int .i64 (loN x : Nat)) ∧ w' = w := by
  by_cases h0 : x = 0
  · subst h0
    clear hT
    go_enter Tryd.func116, Tryd.ntmps116
    go_wp2_with fail
    go_ret
    exact ⟨rfl, rfl⟩
  · have hd : ((x : Int) == 0) = false := by rw [beq_eq_false_iff_ne]; omega
    obtain ⟨hk, _⟩ := lo_split h0 (by omega)
    have h1 : IntKind.u64.wrap (-(x : Int)) = ((18446744073709551616 - x : Nat) : Int) := by rw [IntKind.wrap_u64]; omega
    have h2 : Go.bits .and .u64 (x : Int) ((18446744073709551616 - x : Nat) : Int) = ((2 ^ loN x : Nat) : Int) := by
      rw [and64 x _ hx (by omega)]
      exact congrArg _ (and_neg h0 (by omega))
    have hp : 2 ^ loN x ≤ 9223372036854775808 := p2_le (by omega)
    have h3 : IntKind.u64.wrap (((2 ^ loN x : Nat) : Int) * 285870213051353865) = ((2 ^ loN x * 285870213051353865 % 18446744073709551616 : Nat) : Int) := by rw [IntKind.wrap_u64]; omega
    have hc := hT _ _ (db_hit ⟨loN x, hk⟩)
    have hj : (2 ^ loN x * 285870213051353865 % 18446744073709551616) / 288230376151711744 < 64 := by omega
    simp only at hc
    have h5 : wrap64 (loN x : Int) = loN x := i64_of _ (by omega) (by omega)
    clear hT hp
    generalize 2 ^ loN x * 285870213051353865 % 18446744073709551616 = q at *
    generalize 2 ^ loN x = p at *
    generalize loN x = k at *
    generalize 18446744073709551616 - x = y at *
    go_enter Tryd.func116, Tryd.ntmps116
    go_wp2_with fail
    go_ret
    exact ⟨rfl, rfl⟩
theorem low_calls (x : Nat) (hx : x < 18446744073709551616) (w : World) (hT : DB w) :
    Calls Tryd.prog 86 #[.int .u64 x] w fun e w' => e = .returned (.int .i64 (loN x : Nat)) ∧ w' = w := by
  have HT := Aside0.mk hT
  clear hT
  go_enter Tryd.func86, Tryd.ntmps86
  go_wp2_with fail
  refine (tz_calls x hx w HT.out).mono ?_
  rintro e w1 ⟨rfl, rfl⟩
  go_wp2_with fail
  go_ret
  exact ⟨rfl, rfl⟩
theorem high_calls (x : Nat) (h0 : x ≠ 0) (hx : x ≤ 4611686018427387904) (w : World) :
    Calls Tryd.prog 87 #[.int .u64 x] w fun e w' => e = .returned (.int .i64 ((Lib.bitLen x - 1 : Nat) : Int)) ∧ Drawn0 w w' := by
  have hl := len_facts h0 hx
  refine num_High.calls 1 x _ w ?_
  unfold num_High.f bits_Len64.f
  rw [if_pos (by omega)]
  simp only [Option.bind_some, Int.toNat_natCast]
  rw [i64_of _ (by omega) (by omega)]
  exact congrArg some (by omega)

/-- Spots as elements of a slice. -/
def spCells (s : Nat × Nat) : List Value := [.int .u8 (s.1 : Int), .int .u64 (s.2 : Int)]
def kS : Kd (Nat × Nat) := flat spCells 2 (fun _ => rfl) (fun s u hu => by
  simp only [spCells, List.mem_cons, List.not_mem_nil, or_false] at hu
  rcases hu with rfl | rfl <;> rfl)
theorem flat_kS : Flat kS := fun _ _ _ _ _ _ _ _ h => h
theorem infoS : (Tryd.prog.info? 74).map (fun i => (i.zero, i.size, i.bytes)) = some (some (.agg #[.int .u8 0, .int .u64 0]), 2, 16) := by kernel_rfl
end Go.Proofs.YtefnonlhepekdaaDoor.M

set_option linter.unusedVariables false
set_option linter.unusedSimpArgs false
namespace Go.Proofs.YtefnonlhepekdaaDoor.M
open Go.ChangeShapes Go.WideShapes Go.ChangeAt Go.RowKit

theorem ownKn : ownKnob Tryd.prog.godebug = none := by kernel_rfl
def laidDB : List (String × DataW Unit) := [("math/bits.deBruijn64tab", Rows.laid_math_bits_deBruijn64tab)]
theorem gDB : Tryd.prog.globalNamed "math/bits.deBruijn64tab" = some 1 := by kernel_rfl
theorem tDB : (Tryd.prog.globals[1]?).map (·.type) = some 154 := by kernel_rfl
theorem datDB : (Rows.laid_math_bits_deBruijn64tab : DataW Unit) = .agg (dbTab.map fun (k : Nat) => .lit (.int .u8 (k : Int))) := rfl
theorem db_of_laid {W : World} (h : laidMetH Tryd.prog laidDB W) : DB W := by
  rw [MakeChecks.laidMetH_plain _ _ _ (by kernel_rfl)] at h
  obtain ⟨ps, ⟨g0, t0, cs0, f0, p0, q0, hg0, ht0, hv0, hd0, _, _⟩, _, _⟩ := h
  obtain rfl := Option.some.inj (gDB.symm.trans hg0)
  obtain rfl := Option.some.inj (tDB.symm.trans ht0)
  obtain ⟨xs, m1, rfl, hx1, hlen, hn3, hel⟩ := DataW.trod_array Tryd.underlying154 hd0
  rw [datDB] at hx1
  simp only [Prod.mk.injEq, DataW.agg.injEq] at hx1
  have c5 : Tryd.prog.cellsOf 5 = 1 := by kernel_rfl
  rw [c5] at hel
  intro j k hj
  have hj64 : j < 64 := (List.getElem?_eq_some_iff.1 hj).1
  obtain ⟨x, hx⟩ : ∃ x, xs[j]? = some x := ⟨xs[j], List.getElem?_eq_getElem (by omega)⟩
  have hxk : x.1 = .lit (.int .u8 (k : Int)) := by
    have h1 := congrArg (fun l => l[j]?) hx1.1
    simp only [List.getElem?_map, hx, hj, Option.map_some] at h1
    exact (Option.some.inj h1).symm
  have h2 := hel j hj64
  rw [hx, Nat.mul_one] at h2
  obtain ⟨n, e1, e2, _⟩ := DataW.trod_int Tryd.underlying5 h2
  rw [e2] at hxk
  obtain rfl : n = (k : Int) := by simpa using hxk
  have hc := World.var?_cell hg0 hv0 j
  rw [hc]
  have h3 : (cs0.toList.drop j)[0]? = some (.int .u8 (k : Int)) := by
    have h4 : ((cs0.toList.drop j).take 1)[0]? = some (.int .u8 (k : Int)) := by rw [e1]; rfl
    rwa [List.getElem?_take_of_lt (by omega)] at h4
  rw [List.getElem?_drop, Nat.add_zero] at h3
  simpa using h3
theorem door_met (os : Os) (args : Array Value) : laidMetH Tryd.prog laidDB ((World.doorLaid Tryd.prog 24 os).forCall (fun _ _ => 0) ⟨#[], args, []⟩).memory :=
  laidMetH_of_parts3 (fuel := 8) (laidMet_of_run' 8 (by kernel_rfl) (by kernel_rfl)) (by kernel_rfl) (by kernel_rfl)
end Go.Proofs.YtefnonlhepekdaaDoor.M

set_option linter.unusedVariables false
set_option linter.unusedSimpArgs false
namespace Go.Proofs.YtefnonlhepekdaaDoor.M
open Go.RowKit Go.Proofs.YtefnonlhepekdaaDoorW.PrintWords Go.Proofs.YtefnonlhepekdaaDoorW.PrintLast Go.Proofs.YtefnonlhepekdaaDoorW.PrintMore Go.Proofs.YtefnonlhepekdaaDoor.Leaf

/-- A block's cells as a list. -/
def Blk (w : World) (g : Nat) (t : TypeId) (l : List Value) : Prop := w.heap[g]? = some (.cells l.toArray t (0, 0))
theorem Blk.below {w w1 : World} {g : Nat} {t : TypeId} {l : List Value} (h : Blk w g t l) (hb : Below w.heap.size w w1) : Blk w1 g t l := (hb.block _ (blk_lt h)).trans h
theorem Blk.cell {w : World} {g : Nat} {t : TypeId} {l : List Value} (h : Blk w g t l) (i : Nat) : w.cell? ⟨g, i, none⟩ = l[i]? := by
  have := blk_cell h i
  simpa using this
theorem Blk.at {w : World} {g : Nat} {t : TypeId} {l : List Value} (h : Blk w g t l) {i : Nat} {v : Value} (hv : l[i]? = some v) : w.cell? ⟨g, i, none⟩ = some v := (h.cell i).trans hv
theorem Blk.frozen {w : World} {g : Nat} {t : TypeId} {l : List Value} (h : Blk w g t l) (i : Nat) : w.frozen? ⟨g, i, none⟩ = false := blk_frozen h i
theorem Blk.set {w : World} {g : Nat} {t : TypeId} {l : List Value} (h : Blk w g t l) (i : Nat) (v : Value) : Blk (w.setCell ⟨g, i, none⟩ v) g t (l.set i v) := by
  have := blk_set h i v
  unfold Blk
  rw [this, List.setIfInBounds_toArray]
theorem Blk.lt {w : World} {g : Nat} {t : TypeId} {l : List Value} (h : Blk w g t l) : g < w.heap.size := blk_lt h
theorem Blk.range {w : World} {g : Nat} {t : TypeId} {l : List Value} (h : Blk w g t l) (o : Nat) (cs : List Value) (hc : (l.drop o).take cs.length = cs) : w.rangeAt g o cs := by
  intro j v hv
  rw [h.cell]
  have hj := (List.getElem?_eq_some_iff.1 hv).1
  rw [← hc, List.getElem?_take_of_lt hj, List.getElem?_drop] at hv
  exact hv
theorem Blk.setCells {w : World} {g : Nat} {t : TypeId} {l : List Value} (h : Blk w g t l) (o : Nat) (vs : List Value) (ho : o + vs.length ≤ l.length) : Blk (w.setCells g o vs) g t (l.take o ++ vs ++ l.drop (o + vs.length)) := by
  obtain ⟨c, hc, hs, hl⟩ := setCells_row (g := g) vs o w l.toArray h (by simpa using ho)
  have e : c = (l.take o ++ vs ++ l.drop (o + vs.length)).toArray := by
    apply Array.toList_inj.1
    rw [hl]
  unfold Blk
  rw [hc, e]
theorem frm_setCells (w : World) (g o : Nat) (vs : List Value) : Frm (fun k => k = g) w (w.setCells g o vs) :=
  ⟨(setCells_same g vs o w).1, (setCells_same g vs o w).2.1, (setCells_same g vs o w).2.2.1, Nat.le_of_eq (setCells_same g vs o w).2.2.2.symm, fun k _ hn => setCells_far vs o k hn⟩
section
variable {ops : Array Oper} {rest : List Oper} {o : Oper} {a : Act} {Q : Exit → Act → World → Prop} {W : World}
theorem load_arr (T : TypeId) (d : TypeDesc) (hgd : o.guard = none) (x : Operand) (ho : o.op = .load T x) (g off : Nat) (t : TypeId) (l cs : List Value) (hx : a.eval x = .pointer (some ⟨g, off, none⟩)) (hg : Blk W g t l) (hc : (l.drop off).take cs.length = cs) (hu : Tryd.prog.underlying T = some d) (hd : d.isRow = true) (hT : (Tryd.prog.info? T).map (·.size) = some cs.length)
    (k : wpList Tryd.prog ops Q rest (a.put o.dst (.agg cs.toArray)) W) : wpList Tryd.prog ops Q (o :: rest) a W :=
  wpList_load_mid hgd T x ho g off hx cs d (hg.range off cs hc) hu hd hT k
theorem store_arr (T : TypeId) (cs : List Value) (hgd : o.guard = none) (hd : o.dst = none) (x y : Operand) (ho : o.op = .store T x y) (hT : (Tryd.prog.info? T).map (·.size) = some cs.length) (hone : ∀ v ∈ cs, v.oneCell' = true) (g off : Nat) (t : TypeId) (l : List Value) (hg : Blk W g t l) (hle : off + cs.length ≤ l.length) (hx : a.eval x = .pointer (some ⟨g, off, none⟩)) (hy : a.eval y = .agg cs.toArray)
    (k : ∀ W1, Blk W1 g t (l.take off ++ cs ++ l.drop (off + cs.length)) → Frm (fun k => k = g) W W1 → wpList Tryd.prog ops Q rest a W1) : wpList Tryd.prog ops Q (o :: rest) a W := by
  refine wpList_store_mid hgd _ x y ho g off cs.toArray hx hy (fun j hj => ?_) (by simpa using hT) (all_oneCell_toArray hone) ?_
  · have hj : j < cs.length := by simpa using hj
    rw [hg.cell, hg.frozen]
    simp
    omega
  · rw [hd]
    show wpList _ _ _ _ a _
    exact k _ (by simpa using hg.setCells off cs hle) (by simpa using frm_setCells W g off cs)
/-- The whole variable is written. -/
theorem store_var (T : TypeId) (cs : List Value) (hgd : o.guard = none) (hd : o.dst = none) (x y : Operand) (ho : o.op = .store T x y) (hT : (Tryd.prog.info? T).map (·.size) = some cs.length) (hone : ∀ v ∈ cs, v.oneCell' = true) (g : Nat) (t : TypeId) (l : List Value) (hg : Blk W g t l) (hle : l.length = cs.length) (hx : a.eval x = .pointer (some ⟨g, 0, none⟩)) (hy : a.eval y = .agg cs.toArray)
    (k : ∀ W1, Blk W1 g t cs → Frm (fun k => k = g) W W1 → wpList Tryd.prog ops Q rest a W1) : wpList Tryd.prog ops Q (o :: rest) a W := by
  refine store_arr T cs hgd hd x y ho hT hone g 0 t l hg (by omega) hx hy (fun W1 h1 h2 => k W1 ?_ h2)
  rw [List.take_zero, List.nil_append, Nat.zero_add, List.drop_of_length_le (by omega), List.append_nil] at h1
  exact h1
/-- The whole variable is loaded. -/
theorem load_var (T : TypeId) (d : TypeDesc) (hgd : o.guard = none) (x : Operand) (ho : o.op = .load T x) (g : Nat) (t : TypeId) (cs : List Value) (hx : a.eval x = .pointer (some ⟨g, 0, none⟩)) (hg : Blk W g t cs) (hu : Tryd.prog.underlying T = some d) (hd : d.isRow = true) (hT : (Tryd.prog.info? T).map (·.size) = some cs.length)
    (k : wpList Tryd.prog ops Q rest (a.put o.dst (.agg cs.toArray)) W) : wpList Tryd.prog ops Q (o :: rest) a W :=
  load_arr T d hgd x ho g 0 t cs cs hx hg (by simp) hu hd hT k
end
end Go.Proofs.YtefnonlhepekdaaDoor.M

set_option linter.unusedVariables false
set_option linter.unusedSimpArgs false
namespace Go.Proofs.YtefnonlhepekdaaDoor.M
open Go.RowKit Go.Proofs.YtefnonlhepekdaaDoorW.PrintWords Go.Proofs.YtefnonlhepekdaaDoorW.PrintLast Go.Proofs.YtefnonlhepekdaaDoorW.PrintMore Go.Proofs.YtefnonlhepekdaaDoor.Leaf

def upd {α : Type} (f : Nat → α) (m : Nat) (x : α) : Nat → α := fun i => if i = m then x else f i
theorem upd_same {α : Type} (f : Nat → α) (m : Nat) (x : α) : upd f m x m = x := if_pos rfl
theorem upd_other {α : Type} (f : Nat → α) {m i : Nat} (x : α) (h : i ≠ m) : upd f m x i = f i := if_neg h
/-- What is no block of bytes is as it was. -/
def KeepT (w1 w : World) : Prop := ∀ (g : Nat) (cs : Array Value) (t : TypeId) (fz : Nat × Nat), w1.heap[g]? = some (.cells cs t fz) → t ≠ 5 → w.heap[g]? = some (.cells cs t fz)
theorem KeepT.refl (w : World) : KeepT w w := fun _ _ _ _ h _ => h
theorem KeepT.below {w1 w w2 : World} (h : KeepT w1 w) (hb : Below w.heap.size w w2) : KeepT w1 w2 := fun g cs t fz hg ht => by
  have := h g cs t fz hg ht
  exact (hb.block _ (blk_lt this)).trans this
structure Fam (w0 w : World) (As : Nat → Option Addr) (ns cs : Nat → Nat) (D : Nat → List Int) : Prop where
  R : ∀ j, j < 4 → (Kd.int .u8).R 5 w w0.heap.size (fun _ => True) (.slice (As j) (ns j) (cs j)) (D j)
  ap : ∀ i j, i < 4 → j < 4 → i ≠ j → Apart (.slice (As i) (ns i) (cs i)) (.slice (As j) (ns j) (cs j))
theorem Fam.below {w0 w w1 : World} {As : Nat → Option Addr} {ns cs : Nat → Nat} {D : Nat → List Int} (h : Fam w0 w As ns cs D) (hb : Below w.heap.size w w1) : Fam w0 w1 As ns cs D := ⟨fun j hj => Kd.R_below (h.R j hj) hb, h.ap⟩
theorem Fam.congr {w0 w : World} {As : Nat → Option Addr} {ns cs : Nat → Nat} {D D' : Nat → List Int} (h : Fam w0 w As ns cs D) (e : ∀ j, j < 4 → D j = D' j) : Fam w0 w As ns cs D' := ⟨fun j hj => e j hj ▸ h.R j hj, h.ap⟩
theorem Fam.set {w0 w : World} {As : Nat → Option Addr} {ns cs : Nat → Nat} {D : Nat → List Int} (h : Fam w0 w As ns cs D) {m g : Nat} (hm : m < 4) (hg : As m = some ⟨g, 0, none⟩) (j : Nat) (hj : j < ns m) (x : Int) :
    Fam w0 (w.setCell ⟨g, j, none⟩ (.int .u8 x)) As ns cs (upd D m ((D m).set j x)) := by
  refine ⟨fun i hi => ?_, h.ap⟩
  by_cases e : i = m
  · subst e
    rw [upd_same]
    have hr := h.R i hi
    rw [hg] at hr ⊢
    exact (row_round hr j hj).2.2 x
  · rw [upd_other D _ e]
    refine R_frm (flat_int .u8) (h.R i hi) (Frm.of_set w ⟨g, j, none⟩ (.int .u8 x)) (fun k hk hs => ?_)
    have hs : k = g := hs
    subst hs
    exact h.ap i m hi hm e k hk (by rw [hg]; simp [Value.ownBlock])
/-- The array of the long rows: its first m cells. -/
def Lng (w : World) (g m : Nat) (As : Nat → Option Addr) (ns cs : Nat → Nat) (lr : Array Value) : Prop :=
  w.heap[g]? = some (.cells lr 49 (0, 0)) ∧ lr.size = 4 ∧ ∀ j, j < m → lr[j]? = some (.slice (As j) (ns j) (cs j))
theorem Lng.next {w : World} {g m : Nat} {As : Nat → Option Addr} {ns cs : Nat → Nat} {lr : Array Value} (h : Lng w g m As ns cs lr) (hm : m < 4) (A : Option Addr) (n c : Nat) :
    Lng (w.setCell ⟨g, m, none⟩ (.slice A n c)) g (m + 1) (upd As m A) (upd ns m n) (upd cs m c) (lr.setIfInBounds m (.slice A n c)) := by
  obtain ⟨h1, h2, h3⟩ := h
  refine ⟨blk_set h1 m (.slice A n c), by simp [h2], fun j hj => ?_⟩
  by_cases e : j = m
  · subst e
    rw [upd_same, upd_same, upd_same]
    simp [h2, hm]
  · rw [upd_other _ _ e, upd_other _ _ e, upd_other _ _ e, Array.getElem?_setIfInBounds_ne (fun h => e h.symm)]
    exact h3 j (by omega)
theorem Lng.zero {w : World} {g : Nat} {As : Nat → Option Addr} {ns cs : Nat → Nat} {lr : Array Value} (h : w.heap[g]? = some (.cells lr 49 (0, 0))) (hs : lr.size = 4) : Lng w g 0 As ns cs lr := ⟨h, hs, fun j hj => absurd hj (Nat.not_lt_zero _)⟩
end Go.Proofs.YtefnonlhepekdaaDoor.M

set_option linter.unusedVariables false
set_option linter.unusedSimpArgs false
namespace Go.Proofs.YtefnonlhepekdaaDoor.M
open Go.RowKit Go.Proofs.YtefnonlhepekdaaDoorW.PrintWords Go.Proofs.YtefnonlhepekdaaDoorW.PrintLast Go.Proofs.YtefnonlhepekdaaDoorW.PrintMore Go.Proofs.YtefnonlhepekdaaDoor.Leaf

/-- The hash that a spy tells of place p at the k-th question. -/
def hash3 (x y z : Int) : Hsh := ⟨[x, y, z] ++ List.replicate 29 0, rfl⟩
def tellN (p k : Nat) : Hsh := hash3 ((p : Int) % 256) ((p : Int) / 256 % 256) ((k : Int) % 256)
/-- A spy in its box: what it has been asked; from which question on it refuses. -/
def Spy (w0 w : World) (b : Nat) (R : Int) (A : Option Addr) (n c : Nat) (l : List Int) : Prop :=
  w.heap[b]? = some (.cells #[.slice A n c, .int .i64 R] 55 (0, 0)) ∧ (Kd.int .u64).R 30 w w0.heap.size (fun _ => True) (.slice A n c) l
theorem Spy.below {w0 w w1 : World} {b : Nat} {R : Int} {A : Option Addr} {n c : Nat} {l : List Int} (h : Spy w0 w b R A n c l) (hb : Below w.heap.size w w1) : Spy w0 w1 b R A n c l := ⟨(hb.block _ (blk_lt h.1)).trans h.1, Kd.R_below h.2 hb⟩
theorem spy_step {w0 W w9 : World} {b n c n9 c9 : Nat} {R : Int} {A A9 : Option Addr} {l l9 : List Int} (h : Spy w0 W b R A n c l) (hR : (Kd.int .u64).R 30 w9 w0.heap.size (fun _ => True) (.slice A9 n9 c9) l9) (hF : Frm (fun q => some q = (Value.slice A n c).ownBlock) W w9) :
    Spy w0 (w9.setCell ⟨b, 0, none⟩ (.slice A9 n9 c9)) b R A9 n9 c9 l9 ∧ Frm (fun q => q = b ∨ some q = (Value.slice A n c).ownBlock) W (w9.setCell ⟨b, 0, none⟩ (.slice A9 n9 c9)) := by
  have hx := (hF.block _ (blk_lt h.1) (Kd.R_ne h.2 h.1 (by decide))).trans h.1
  refine ⟨⟨blk_set hx 0 (.slice A9 n9 c9), Kd.R_set hR hx (fun q hq => by
    rcases List.mem_cons.1 hq with h | h
    · rw [h]; decide
    · have h : q ∈ ([] : List Nat) := h
      cases h) 0 _⟩, (hF.mono (fun k _ h => .inr h)).trans (Frm.of_set w9 ⟨b, 0, none⟩ _) (fun i _ h => .inl h)⟩
/-- Behind the store of what is told. -/
theorem spy_end {w0 w wz w4 w5 w7 : World} {b n9 c9 : Nat} {R : Int} {A9 : Option Addr} {l : List Int} {S : Nat → Prop} (hs : Spy w0 w4 b R A9 n9 c9 l) (hf : Frm S wz w4) (hz : Below w.heap.size w wz) (h5 : Below w4.heap.size w4 w5) (h7 : Frm (fun k => k = w.heap.size) w5 w7) (hb : b < w.heap.size) (ho : ∀ k, (Value.slice A9 n9 c9).ownBlock = some k → k ≠ w.heap.size) :
    Spy w0 w7 b R A9 n9 c9 l ∧ Frm S w w7 := by
  have s5 := hs.below h5
  refine ⟨⟨(h7.block _ (blk_lt s5.1) (by show ¬ (b = w.heap.size); omega)).trans s5.1, R_frm (flat_int .u64) s5.2 h7 (fun k hk h => ho k hk h)⟩, ?_⟩
  refine ((((Frm.of_below hz S).trans hf (fun _ _ h => h)).trans (Frm.of_below h5 S) (fun _ _ h => h))).trans h7 (fun i hi h => ?_)
  have h : i = w.heap.size := h
  omega
set_option maxHeartbeats 2000000 in
set_option maxRecDepth 100000 in
theorem node_calls (p b n c q : Nat) (R : Int) (A : Option Addr) (l : List Int) (w0 w : World) (hp : p < 18446744073709551616) (hB : w0.heap.size ≤ w.heap.size) (hl : l.length ≤ 1000) (hS : Spy w0 w b R A n c l) (hq : q = l.length + 1) :
    Calls Tryd.prog 161 #[.pointer (some ⟨b, 0, none⟩), .int .u64 p] w fun e w' => ∃ A1 n1 c1, e = .returned (.tuple #[if R < (q : Int) then hashZ.val else (tellN p q).val, .int .i64 (if R < (q : Int) then 50 else 0)]) ∧
      Spy w0 w' b R A1 n1 c1 (l ++ [(p : Int)]) ∧ Frm (fun q => q = b ∨ some q = (Value.slice A n c).ownBlock) w w' := by
  have HB := Aside0.mk hB
  have HS := Aside0.mk hS
  have hpI : (0 : Int) ≤ (p : Int) := by omega
  have HQ := Aside0.mk hq
  clear hB hS hq
  go_enter Tryd.func161, Tryd.ntmps161
  go_upto_region 1 with (fail)
  generalize hwz : w.alloc _ = wz
  have bz : Blk wz w.heap.size 63 hashZ.cells := by rw [← hwz]; exact heap_new w _
  have hbz : Below w.heap.size w wz := by rw [← hwz]; exact bl_new w _
  have HSz := Aside0.mk (HS.out.below hbz)
  have HZ := Aside0.mk bz
  have Hbz := Aside0.mk hbz
  have k0 := (blk_cell HSz.out.1 0).trans (rfl : _ = some (Value.slice A n c))
  have hbase := Nat.le_trans HB.out Hbz.out.size
  clear hwz bz hbz
  go_wp2_with ((with_reducible refine gate_builtin (b := .append) (xs := #[.tmp 10, .tmp 12]) rfl ?_); at_builtin; go_loud (refine app_oneN (Kd.int .u64) w0.heap.size rfl (.tmp 10) (.tmp 12) 31 30 (.int .u64 0) 8 rfl Tryd.underlying31 info30 rfl (by decide) (by omega) (.slice A n c) l (p : Int) [.int .u64 (p : Int)] rfl rfl rfl HSz.out.2 hbase (by omega) ?_; intro A9 n9 c9 w9 hr9 hf9 ha9; have hbx9 := (hf9.block _ (blk_lt HSz.out.1) (Kd.R_ne HSz.out.2 HSz.out.1 (by decide))).trans HSz.out.1; have k9 := (blk_cell hbx9 0).trans (rfl : _ = some (Value.slice A n c)); have f9 := blk_frozen hbx9 0; clear hbx9; have HR9 := Aside0.mk hr9; have HF9 := Aside0.mk hf9; have HA9 := Aside0.mk ha9; clear hr9 hf9 ha9))
  have hst := spy_step HSz.out HR9.out HF9.out
  have hz9 := (hst.2.block _ (blk_lt HZ.out) (fun h => by
    rcases h with h | h
    · have := blk_lt HS.out.1; omega
    · have := Kd.R_lt HS.out.2 _ h.symm; omega)).trans HZ.out
  have hn9 := (Kd.R_reads' HR9.out).1
  rw [List.length_append, List.length_singleton, ← HQ.out] at hn9
  subst hn9
  generalize w9.setCell ⟨b, 0, none⟩ (.slice A9 n9 c9) = w4 at *
  have m0 := (blk_cell hst.1.1 0).trans (rfl : _ = some (Value.slice A9 n9 c9))
  have m1 := (blk_cell hst.1.1 1).trans (rfl : _ = some (Value.int .i64 R))
  have HST := Aside0.mk hst
  have HZ9 := Aside0.mk hz9
  clear hst hz9 k0
  go_wp2_with fail
  go_quiet (fail)
  have hb5 : Below w4.heap.size w4 (w4.drewN nq) := pw_below_drewN (Below.refl _ _) nq
  have m0 := pw_cell_below hb5 m0
  have hz5 : Blk (w4.drewN nq) w.heap.size 63 hashZ.cells := (hb5.block _ (blk_lt HZ9.out)).trans HZ9.out
  have HZ5 := Aside0.mk hz5
  have HB5 := Aside0.mk hb5
  have hbw := Aside0.mk (blk_lt HS.out.1)
  have ho9 := Aside0.mk (show ∀ k, (Value.slice A9 n9 c9).ownBlock = some k → k ≠ w.heap.size from fun k hk hh => by
    have h1 := Kd.R_typed HST.out.1.2 k hk
    obtain ⟨c1, e1⟩ := h1
    rw [hh, HZ9.out] at e1
    injection e1 with e1
    injection e1 with _ e1
    exact absurd e1 (by decide))
  clear hb5 hz5 m1
  generalize w4.drewN nq = w5 at *
  have sz := sizeH
  by_cases hR : R < (n9 : Int)
  · have hd : ((n9 : Int) > R) := hR
    go_wp2_with ((with_reducible refine gate_store (t := 63) (p := 4) (v := .tmp 26) rfl ?_); go_loud (refine store_var 63 hashZ.cells rfl rfl (.tmp 4) (.tmp 26) rfl (by rw [Hsh.cells_len]; exact sizeH) hashZ.one w.heap.size 63 hashZ.cells HZ5.out rfl rfl rfl ?_; intro w7 hz7 hf7; have HZ7 := Aside0.mk hz7; have HF7 := Aside0.mk hf7; clear hz7 hf7))
    (try simp only [Exit.inBlock, Exit.then])
    refine bodyPost_ret (results_ct rfl _ _ w.heap.size 63 hashZ.cells.toArray (0, 0) _ rfl HZ7.out Tryd.underlying63 rfl (by rw [List.size_toArray, Hsh.cells_len]; exact sizeH)) rfl ?_
    obtain ⟨f1, f2⟩ := spy_end HST.out.1 HST.out.2 Hbz.out HB5.out HF7.out hbw.out ho9.out
    first | exact ⟨rfl, ⟨A9, n9, c9, f1⟩, f2⟩ | exact ⟨A9, n9, c9, by rw [if_pos hR, if_pos hR]; rfl, f1, f2⟩
  · have hd : ¬ ((n9 : Int) > R) := hR
    go_wp2_with ((with_reducible refine gate_store (t := 63) (p := 4) (v := .tmp 38) rfl ?_); go_loud (refine store_var 63 (tellN p n9).cells rfl rfl (.tmp 4) (.tmp 38) rfl (by rw [Hsh.cells_len]; exact sizeH) (tellN p n9).one w.heap.size 63 hashZ.cells HZ5.out rfl rfl rfl ?_; intro w7 hz7 hf7; have HZ7 := Aside0.mk hz7; have HF7 := Aside0.mk hf7; clear hz7 hf7))
    (try simp only [Exit.inBlock, Exit.then])
    refine bodyPost_ret (results_ct rfl _ _ w.heap.size 63 (tellN p n9).cells.toArray (0, 0) _ rfl HZ7.out Tryd.underlying63 rfl (by rw [List.size_toArray, Hsh.cells_len]; exact sizeH)) rfl ?_
    obtain ⟨f1, f2⟩ := spy_end HST.out.1 HST.out.2 Hbz.out HB5.out HF7.out hbw.out ho9.out
    first | exact ⟨rfl, ⟨A9, n9, c9, f1⟩, f2⟩ | exact ⟨A9, n9, c9, by rw [if_neg hR, if_neg hR]; rfl, f1, f2⟩
end Go.Proofs.YtefnonlhepekdaaDoor.M

set_option linter.unusedVariables false
set_option linter.unusedSimpArgs false
namespace Go.Proofs.YtefnonlhepekdaaDoor.M
open Go.RowKit Go.Proofs.YtefnonlhepekdaaDoorW.PrintWords Go.Proofs.YtefnonlhepekdaaDoorW.PrintLast Go.Proofs.YtefnonlhepekdaaDoorW.PrintMore Go.Proofs.YtefnonlhepekdaaDoor.Leaf

/-- What a spy tells of the first j places. -/
def tellU (L : List Nat) (j : Nat) : List Hsh := (List.range j).map fun k => tellN (L.getD k 0) (k + 1)
theorem tellU_snoc (L : List Nat) (j : Nat) : tellU L (j + 1) = tellU L j ++ [tellN (L.getD j 0) (j + 1)] := by
  unfold tellU
  rw [List.range_succ, List.map_append]
  rfl
theorem tellU_len (L : List Nat) (j : Nat) : (tellU L j).length = j := by simp [tellU]
def natsI (L : List Nat) : List Int := L.map fun (n : Nat) => (n : Int)
theorem natsI_snoc (L : List Nat) (j : Nat) (hj : j < L.length) : natsI (L.take (j + 1)) = natsI (L.take j) ++ [((L.getD j 0 : Nat) : Int)] := by
  unfold natsI
  rw [List.take_add_one, List.getElem?_eq_getElem hj, List.map_append, List.getD_eq_getElem?_getD, List.getElem?_eq_getElem hj]
  rfl
theorem natsI_len (L : List Nat) : (natsI L).length = L.length := by simp [natsI]
theorem natsI_at (L : List Nat) (j : Nat) (hj : j < L.length) : (natsI L).getD j 0 = ((L.getD j 0 : Nat) : Int) := by
  simp [natsI, List.getD_eq_getElem?_getD, List.getElem?_eq_getElem hj]
/-- The method that an interface with a spy leads to (294: the table's length and the model's own types; read it off the walk's print on another seat). -/
theorem meth_node (a : Addr) (w : World) : (method 294 53 (.pointer (some a)) "Node").run Tryd.prog w = .ok (161, .pointer (some a)) w := by kernel_rfl
theorem ask_row {w wr : World} {b base0 n c n0 c0 : Nat} {R : Int} {A B : Option Addr} {l xs : List Int} (h : (Kd.int .u64).R 30 w base0 (fun _ => True) (.slice B n c) xs) (hS : Spy w w b R A n0 c0 l) (hF : Frm (fun q => q = b) w wr) : Kd.C (Kd.int .u64) wr B xs.length xs :=
  (Kd.R_reads' (R_frm (flat_int .u64) h hF (fun k hk e => Kd.R_ne h hS.1 (by decide) (by rw [← e]; exact hk.symm)))).2.2
theorem kinds_ne {α β : Type} {d : Kd α} {d' : Kd β} {e e' base base' : Nat} {w : World} {u v : Value} {xs : List α} {ys : List β} (h : d.R e w base (fun _ => True) u xs) (h' : d'.R e' w base' (fun _ => True) v ys) (hne : e ≠ e') : ∀ k, u.ownBlock = some k → v.ownBlock ≠ some k := fun k hk hk' => by
  obtain ⟨c1, e1⟩ := Kd.R_typed h k hk
  obtain ⟨c2, e2⟩ := Kd.R_typed h' k hk'
  rw [e1] at e2
  injection e2 with e2
  injection e2 with _ e2
  exact hne e2
/-- Behind an answer and an alloc. -/
theorem fetch_mid {w wr w2 : World} {b ms cs n c n2 c2 : Nat} {R : Int} {A A2 As : Option Addr} {l l2 : List Int} {P : List Hsh} {o : Obj} (hb : b < w.heap.size) (hH : kH.R 63 wr w.heap.size (fun _ => True) (.slice As ms cs) P) (hS : Spy w wr b R A n c l) (hF : Frm (fun q => q = b) w wr)
    (hs2 : Spy w w2 b R A2 n2 c2 l2) (hf2 : Frm (fun q => q = b ∨ some q = (Value.slice A n c).ownBlock) wr w2) :
    kH.R 63 (w2.alloc o) w.heap.size (fun _ => True) (.slice As ms cs) P ∧ Spy w (w2.alloc o) b R A2 n2 c2 l2 ∧ Frm (fun q => q = b) w (w2.alloc o) := by
  refine ⟨Kd.R_below (R_frm flat_kH hH hf2 (fun k hk h => ?_)) (bl_new _ _), hs2.below (bl_new _ _), ?_⟩
  · rcases h with h | h
    · have := Kd.R_base hH k hk; omega
    · exact kinds_ne hH hS.2 (by decide) k hk h.symm
  · refine (hF.trans hf2 (fun i hi h => ?_)).trans (Frm.of_below (bl_new _ _) (fun q => q = b)) (fun _ _ h => h)
    rcases h with h | h
    · exact h
    · have := Kd.R_base hS.2 i h.symm; omega
/-- Behind an append. -/
theorem fetch_end {w wz w9 : World} {b ms cs n2 c2 n9 c9 : Nat} {R : Int} {A2 As A9 : Option Addr} {l2 : List Int} {P P9 : List Hsh} (hb : b < w.heap.size) (hH : kH.R 63 wz w.heap.size (fun _ => True) (.slice As ms cs) P) (hS : Spy w wz b R A2 n2 c2 l2) (hF : Frm (fun q => q = b) w wz)
    (hR9 : kH.R 63 w9 w.heap.size (fun _ => True) (.slice A9 n9 c9) P9) (hF9 : Frm (fun q => some q = (Value.slice As ms cs).ownBlock) wz w9) :
    Spy w w9 b R A2 n2 c2 l2 ∧ Frm (fun q => q = b) w w9 := by
  refine ⟨⟨(hF9.block _ (blk_lt hS.1) (fun h => ?_)).trans hS.1, R_frm (flat_int .u64) hS.2 hF9 (fun k hk h => kinds_ne hH hS.2 (by decide) k h.symm hk)⟩, ?_⟩
  · have := Kd.R_base hH b h.symm; omega
  · refine hF.trans hF9 (fun i hi h => ?_)
    have := Kd.R_base hH i h.symm; omega
set_option maxHeartbeats 2000000 in
set_option maxRecDepth 100000 in
theorem fetch_calls (L : List Nat) (b : Nat) (R : Int) (B : Option Addr) (cB : Nat) (w : World) (er : Int) (hs : List Hsh) (ask : List Nat) (hcase : (L.length ≤ R.toNat ∧ er = 0 ∧ hs = tellU L L.length ∧ ask = L) ∨ (R.toNat < L.length ∧ er = 50 ∧ hs = [] ∧ ask = L.take (R.toNat + 1)))
    (hL : L.length ≤ 500) (h64 : ∀ x ∈ L, x < 18446744073709551616) (base0 : Nat) (hC : (Kd.int .u64).R 30 w base0 (fun _ => True) (.slice B L.length cB) (natsI L)) (hS : Spy w w b R none 0 0 []) (hbR : b < w.heap.size) :
    Calls Tryd.prog 73 #[.iface 53 (.pointer (some ⟨b, 0, none⟩)), .slice B L.length cB] w fun e w' => ∃ v A n c, e = .returned (.tuple #[v, .int .i64 er]) ∧
      kH.R 63 w' w.heap.size (fun _ => True) v hs ∧ Spy w w' b R A n c (natsI ask) ∧ Frm (fun q => q = b) w w' := by
  have HCase := Aside0.mk hcase
  clear hcase
  have HC := Aside0.mk hC
  have HS := Aside0.mk hS
  have H64 := Aside0.mk h64
  clear hC hS h64
  go_enter Tryd.func73, Tryd.ntmps73
  go_wp2_with fail
  go_loopw [6, 13] (fun s q wr => ∃ (j : Nat) (A : Option Addr) (n c : Nat), j ≤ L.length ∧ q = .int .i64 j ∧ Aside0 (j ≤ R.toNat) ∧ Aside0 (kH.R 63 wr w.heap.size (fun _ => True) s (tellU L j)) ∧ Aside0 (Spy w wr b R A n c (natsI (L.take j))) ∧ Aside0 (Frm (fun q => q = b) w wr)) (fun _ q _ => L.length - (intOf q).toNat)
  case atStart => exact ⟨0, none, 0, 0, Nat.zero_le _, rfl, ⟨Nat.zero_le _⟩, ⟨Kd.R_nil _ _ _ _ _⟩, ⟨by rw [List.take_zero]; exact HS.out⟩, ⟨Frm.refl _ _⟩⟩
  case round =>
    obtain ⟨j, A, n, c, hj, rfl, HJ, HH, HSp, HF⟩ := hrel
    obtain ⟨As, ms, cs, e9⟩ : ∃ A m c, u6 = .slice A m c := by obtain ⟨A, c, h⟩ := Kd.R_slice HH.out; exact ⟨A, _, c, h⟩
    subst e9
    by_cases hlt : j < L.length
    · obtain ⟨ad, ea, hx⟩ := C_at (ask_row HC.out HS.out HF.out) j (by rw [natsI_len]; exact hlt)
      rw [natsI_at L j hlt] at hx
      subst ea
      obtain ⟨p, hp⟩ : ∃ p, p = L.getD j 0 := ⟨_, rfl⟩
      rw [← hp] at hx
      have hp64 : p < 18446744073709551616 := by
        rw [hp, List.getD_eq_getElem?_getD, List.getElem?_eq_getElem hlt]
        exact H64.out _ (List.getElem_mem hlt)
      have HP := Aside0.mk hp
      have hnode := node_calls p b n c (j + 1) R A (natsI (L.take j)) w wr hp64 HF.out.size (by rw [natsI_len, List.length_take]; omega) HSp.out (by rw [natsI_len, List.length_take]; omega)
      have hmeth := fun W => meth_node ⟨b, 0, none⟩ W
      have hsn := natsI_snoc L j hlt
      have htl := tellU_snoc L j
      rw [← hp] at hsn htl
      have HSn := Aside0.mk hsn
      have HTl := Aside0.mk htl
      have hown : ∀ q, (Value.slice A n c).ownBlock = some q → w.heap.size ≤ q := Kd.R_base HSp.out.2
      have HO := Aside0.mk hown
      have HLt := Aside0.mk hlt
      clear hp hsn htl hown
      by_cases hR : R < ((j + 1 : Nat) : Int)
      · rw [if_pos hR, if_pos hR] at hnode
        have HN := Aside0.mk hnode
        have hjR : j = R.toNat := by have := HJ.out; omega
        have hend : er = 50 ∧ hs = [] ∧ ask = L.take (j + 1) := by
          rcases HCase.out with h | h
          · have := h.1; omega
          · rw [hjR]; exact h.2
        obtain ⟨e1, e2, e3⟩ := hend
        subst e1 e2 e3
        have hlI : (j : Int) < (L.length : Int) := by omega
        clear hnode hR hjR hj
        go_wp2_with fail
        refine HN.out.mono ?_
        rintro e w2 ⟨A2, n2, c2, rfl, hs2, hf2⟩
        have HS2 := Aside0.mk hs2
        have HF2 := Aside0.mk (HF.out.trans hf2 (fun i hi h => by
          rcases h with h | h
          · exact h
          · have := HO.out i h.symm; omega))
        clear hs2 hf2
        go_wp2_with ((with_reducible refine gate_store (t := 63) (p := 9) (v := .tmp 21) rfl ?_); go_loud (refine store_hash rfl rfl (.tmp 9) (.tmp 21) rfl _ rfl _ _ rfl hashZ rfl rfl ?_))
        go_ret2
        refine ⟨_, A2, n2, c2, rfl, Kd.R_nil _ _ _ _ _, ?_, ?_⟩
        · rw [HSn.out]
          exact HS2.out.below (by first | exact bl_new _ _ | exact (by repeat (with_reducible first | exact Below.refl _ _ | refine below_alloc ?_ _ | refine below_drew ?_)))
        · exact HF2.out.trans (Frm.of_below (by first | exact bl_new _ _ | exact (by repeat (with_reducible first | exact Below.refl _ _ | refine below_alloc ?_ _ | refine below_drew ?_))) (fun q => q = b)) (fun _ _ h => h)
      · rw [if_neg hR, if_neg hR] at hnode
        have HN := Aside0.mk hnode
        have HR := Aside0.mk hR
        have hlI : (j : Int) < (L.length : Int) := by omega
        clear hnode hR
        go_wp2_with fail
        refine HN.out.mono ?_
        rintro e w2 ⟨A2, n2, c2, rfl, hs2, hf2⟩
        generalize tellN p (j + 1) = h9 at *
        have hzz := fun (o : Obj) => fetch_mid (o := o) hbR HH.out HSp.out HF.out hs2 hf2
        have HZZ := Aside0.mk hzz
        clear hs2 hf2 hzz HN
        go_upto_region 6 with ((with_reducible refine gate_store (t := 63) (p := 9) (v := .tmp 21) rfl ?_); go_loud (refine store_hash rfl rfl (.tmp 9) (.tmp 21) rfl _ rfl _ _ rfl h9 rfl rfl ?_))
        generalize hwz : w2.alloc _ = wz
        have bz : Blk wz w2.heap.size 63 h9.cells := by rw [← hwz]; exact heap_new w2 _
        have hzz := HZZ.out (.cells h9.cells.toArray 63)
        rw [hwz] at hzz
        have HZ := Aside0.mk bz
        have HHz := Aside0.mk hzz.1
        have HSz := Aside0.mk hzz.2.1
        have HFz := Aside0.mk hzz.2.2
        have hbase := HFz.out.size
        have htl := tellU_len L j
        clear hzz HZZ hwz bz hx
        go_wp2_with (first | ((with_reducible refine gate_dst (N := 27) rfl ?_); go_loud (refine load_var 63 _ rfl (.tmp 9) rfl w2.heap.size 63 h9.cells rfl HZ.out Tryd.underlying63 rfl (by rw [Hsh.cells_len]; exact sizeH) ?_)) | ((with_reducible refine gate_dst (N := 28) rfl ?_); go_loud (refine build_hash rfl (.tmp 27) rfl h9 rfl ?_)) | ((with_reducible refine gate_builtin (b := .append) (xs := #[.tmp 26, .tmp 28]) rfl ?_); at_builtin; go_loud (refine app_oneN kH w.heap.size rfl (.tmp 26) (.tmp 28) 39 63 _ 32 rfl Tryd.underlying39 infoH rfl (by decide) (by decide) (.slice As ms cs) (tellU L j) h9 (h9).cells rfl rfl rfl HHz.out hbase (by omega) ?_; intro A9 n9 c9 w9 hr9 hf9 ha9; have HR9 := Aside0.mk hr9; have HF9 := Aside0.mk hf9; have HA9 := Aside0.mk ha9; clear hr9 hf9 ha9)))
        go_roundw
        case rel =>
          obtain ⟨f1, f2⟩ := fetch_end hbR HHz.out HSz.out HFz.out HR9.out HF9.out
          refine ⟨j + 1, A2, n2, c2, hlt, by rw [Int.natCast_add]; rfl, ⟨?_⟩, ⟨by rw [HTl.out]; exact HR9.out⟩, ⟨by rw [HSn.out]; exact f1⟩, ⟨f2⟩⟩
          have := HR.out
          omega
        case measure => simp [intOf]; omega
    · have ej : j = L.length := Nat.le_antisymm hj (Nat.le_of_not_lt hlt)
      have hend : er = 0 ∧ hs = tellU L L.length ∧ ask = L := by
        rcases HCase.out with h | h
        · exact h.2
        · have h1 := h.1
          have h2 := HJ.out
          omega
      obtain ⟨e1, e2, e3⟩ := hend
      have hSe := HSp.out
      have hHe := HH.out
      rw [ej, List.take_length] at hSe
      rw [ej] at hHe
      subst e1 e2 e3
      have HSe := Aside0.mk hSe
      have HHe := Aside0.mk hHe
      have hnl : ¬ ((j : Int) < (ask.length : Int)) := by omega
      clear hSe hHe hlt HH HSp HCase
      go_wp2_with fail
      go_ret2
      first | exact ⟨_, A, n, c, rfl, HHe.out, HSe.out, HF.out⟩ | exact ⟨_, rfl, HHe.out, ⟨A, n, c, HSe.out⟩, HF.out⟩
end Go.Proofs.YtefnonlhepekdaaDoor.M

set_option linter.unusedVariables false
set_option linter.unusedSimpArgs false
namespace Go.Proofs.YtefnonlhepekdaaDoor.M
open Go.RowKit Go.Proofs.YtefnonlhepekdaaDoorW.PrintWords Go.Proofs.YtefnonlhepekdaaDoorW.PrintLast Go.Proofs.YtefnonlhepekdaaDoorW.PrintMore Go.Proofs.YtefnonlhepekdaaDoor.Leaf

theorem rd_spotsP (l : List (Nat × Nat)) (j : Nat) (hj : j < l.length) : rd_T74 (spotsOf l) (j : Int) = ⟨((l[j]).1 : Int), ((l[j]).2 : Int)⟩ := by
  simp [rd_T74, spotsOf, List.getD_eq_getElem?_getD, List.getElem?_eq_getElem hj]
theorem spots_lenP (l : List (Nat × Nat)) : (spotsOf l).length = l.length := by simp [spotsOf]
theorem places_lenP (l : List (Nat × Nat)) : (placesOf l).length = l.length := by simp [placesOf]
theorem up_one (j : Nat) (hj : j < 4611686018427387904) : wrap64 ((j : Int) + 1) = ((j + 1 : Nat) : Int) := by rw [i64_of _ (by omega) (by omega)]; omega
theorem places_takeP (l : List (Nat × Nat)) (j : Nat) (hj : j < l.length) : placesOf (l.take (j + 1)) = placesOf (l.take j) ++ [((placeN (l[j]).1 (l[j]).2 : Nat) : Int)] := by
  unfold placesOf
  rw [List.take_add_one, List.getElem?_eq_getElem hj, List.map_append]
  rfl
theorem peaks3_loop (l : List (Nat × Nat)) (hl : l.length ≤ 63) (hfit : ∀ s ∈ l, (s.2 + 1) * 2 ^ s.1 ≤ 4611686018427387904) : ∀ (d j : Nat), j + d = l.length →
    Ev (fun k => massifref3_Peaks.l0 k (placesOf (l.take j)) (spotsOf l) (j : Int)) (placesOf l)
  | 0, j, hj => by
    rw [List.take_of_length_le (by omega)]
    exact Ev.step (f := fun _ => some (placesOf l)) (fun k => by simp only [massifref3_Peaks.l0]; rw [if_neg (by rw [spots_lenP]; omega)]) (Ev.now _)
  | d + 1, j, hj => by
    have hjl : j < l.length := by omega
    have ih := peaks3_loop l hl hfit d (j + 1) (by omega)
    rw [places_takeP l j hjl] at ih
    have pv := place3_val (l[j]).1 (l[j]).2 (hfit _ (List.getElem_mem hjl))
    refine Ev.step (fun k => by simp only [massifref3_Peaks.l0]; rw [if_pos (by rw [spots_lenP]; omega), if_pos (by omega), rd_spotsP l j hjl]) ?_
    refine Ev.bind pv ?_
    refine Ev.congr (fun k => if_pos (by rw [places_lenP, List.length_take]; omega)) ?_
    rw [up_one j (by omega)]
    exact ih
theorem peaks3_val (n : Nat) (hn : n ≤ 4611686018427387904) : Ev (fun k => massifref3_Peaks.f k (n : Int)) (placesOf (topsN n)) := by
  unfold massifref3_Peaks.f
  refine Ev.bind (tops_val n hn) ?_
  have := peaks3_loop (topsN n) (topsF_len 63 n) (fun s hs => Nat.le_trans (tops_fit 63 n s hs).2 hn) (topsN n).length 0 (by omega)
  rw [List.take_zero] at this
  exact this

/-! The node (h, i): the nodes ahead of it; those below it. -/
theorem nodes_split (K H x : Nat) (hx : x < 2 ^ H) (hb : K * 2 ^ H + x < 2 ^ 64) : nodesN (K * 2 ^ H + x) = nodesN (K * 2 ^ H) + nodesN x := by
  have hH : H ≤ 64 ∨ K = 0 := by
    by_cases h : H ≤ 64
    · exact .inl h
    · right
      by_cases h0 : K = 0
      · exact h0
      · have h1 : 2 ^ H ≤ K * 2 ^ H := Nat.le_mul_of_pos_left _ (by omega)
        have h2 := Nat.pow_le_pow_right (show 0 < 2 by omega) (show 64 ≤ H by omega)
        omega
  rcases hH with hH | hK
  · unfold nodesN
    have e1 : Lib.popAux 64 (K * 2 ^ H + x) = Lib.popAux H x + Lib.popAux (64 - H) K := by
      have := pop_join H (64 - H) x K hx
      rw [show H + (64 - H) = 64 by omega] at this
      rw [← this, Nat.add_comm, Nat.mul_comm]
    have e2 : Lib.popAux 64 (K * 2 ^ H) = Lib.popAux (64 - H) K := by
      have := pop_join H (64 - H) 0 K (p2_pos H)
      rw [show H + (64 - H) = 64 by omega, pop_zero, Nat.zero_add, Nat.zero_add] at this
      rw [← this, Nat.mul_comm]
    have e3 : Lib.popAux 64 x = Lib.popAux H x := pop_fuel H x 64 hx hH
    have h1 := pop_le H x
    have h2 := pop_le (64 - H) K
    have h3 : K ≤ K * 2 ^ H := Nat.le_mul_of_pos_right _ (p2_pos H)
    rw [e1, e2, e3]
    omega
  · subst hK
    simp [nodes_zero]
theorem place_nodes (H K : Nat) (h : (K + 1) * 2 ^ H ≤ 4611686018427387904) : placeN H K = nodesN (K * 2 ^ H) + (2 ^ (H + 1) - 2) := by
  have hp := p2_pos H
  have hH : H ≤ 62 := height_le H K h
  have e1 : (K + 1) * 2 ^ H = K * 2 ^ H + 2 ^ H := by rw [Nat.add_mul, Nat.one_mul]
  have hl : H < 2 ^ H := Nat.lt_two_pow_self
  have e2 : 2 ^ (H + 1) = 2 * 2 ^ H := by rw [Nat.pow_succ]; omega
  unfold placeN
  rw [e1, show K * 2 ^ H + 2 ^ H - 1 = K * 2 ^ H + (2 ^ H - 1) by omega, nodes_split K H _ (by omega) (by omega), nodes_ones H (by omega)]
  omega
theorem place_up {h i H K : Nat} (hle : h ≤ H) (hfit : (i + 1) * 2 ^ h ≤ (K + 1) * 2 ^ H) (hb : (K + 1) * 2 ^ H ≤ 4611686018427387904) : placeN h i + (H - h) ≤ placeN H K := by
  unfold placeN
  have hp : 0 < (i + 1) * 2 ^ h := Nat.mul_pos (by omega) (p2_pos h)
  obtain ⟨d, hd⟩ : ∃ d, (K + 1) * 2 ^ H - 1 = ((i + 1) * 2 ^ h - 1) + d := ⟨((K + 1) * 2 ^ H - 1) - ((i + 1) * 2 ^ h - 1), by omega⟩
  have := nodes_mono d ((i + 1) * 2 ^ h - 1) (by omega)
  rw [hd]
  omega
theorem place_lo {h i m : Nat} (hm : m ≤ i * 2 ^ h) (hb : (i + 1) * 2 ^ h ≤ 4611686018427387904) : nodesN m ≤ placeN h i := by
  rw [place_nodes h i hb]
  have hp := p2_pos h
  have e1 : (i + 1) * 2 ^ h = i * 2 ^ h + 2 ^ h := by rw [Nat.add_mul, Nat.one_mul]
  obtain ⟨d, hd⟩ : ∃ d, i * 2 ^ h = m + d := ⟨i * 2 ^ h - m, by omega⟩
  have := nodes_mono d m (by omega)
  rw [hd]
  omega
/-- Down from (H, K), over (h, i). -/
theorem spot3_loop (h i : Nat) (hi : (i + 1) * 2 ^ h ≤ 4611686018427387904) : ∀ (d H K : Nat), H = h + d → K = i / 2 ^ d → (K + 1) * 2 ^ H ≤ 4611686018427387904 →
    Ev (fun k => massifref3_Spot.l0 k ((placeN h i : Nat) : Int) ((nodesN (K * 2 ^ H) : Nat) : Int) (H : Int) (K : Int)) ((h : Int), (i : Int), true)
  | 0, H, K, hH, hK, hb => by
    obtain rfl : H = h := by omega
    obtain rfl : K = i := by rw [hK]; simp
    have hh := height_le H K hi
    have hpn := place_nodes H K hi
    have hp := p2_pos H
    have e2 : 2 ^ (H + 1) = 2 * 2 ^ H := by rw [Nat.pow_succ]; omega
    have hpl := place_lt H K hi
    have hpu := p2_le (show H ≤ 63 by omega)
    have e1 : IntKind.u64.wrap (2 * IntKind.u64.wrap (((2 ^ H : Nat) : Int) - 1)) = ((2 ^ (H + 1) - 2 : Nat) : Int) := by rw [w64_of (((2 ^ H : Nat) : Int) - 1) (by omega) (by omega), w64_of _ (by omega) (by omega)]; omega
    have e3 : IntKind.u64.wrap (((nodesN (K * 2 ^ H) : Nat) : Int) + ((2 ^ (H + 1) - 2 : Nat) : Int)) = ((placeN H K : Nat) : Int) := by rw [w64_of _ (by omega) (by omega)]; omega
    refine Ev.step (fun k => by simp only [massifref3_Spot.l0]; rfl) ?_
    refine Ev.bind (power_val H (by omega)) ?_
    refine Ev.congr (fun k => by rw [e1, e3, if_pos rfl, show (H : Int) % 256 = H by omega]) (Ev.now _)
  | d + 1, H + 1, K, hH, hK, hb => by
    have hh := height_le (H + 1) K hb
    have hp := p2_pos H
    have e2 : 2 ^ (H + 1) = 2 * 2 ^ H := by rw [Nat.pow_succ]; omega
    have e2' : 2 ^ (H + 1 + 1) = 2 * 2 ^ (H + 1) := by rw [Nat.pow_succ]; omega
    have hpu := p2_le (show H + 1 ≤ 63 by omega)
    have hpu2 : 2 ^ (H + 1) ≤ 4611686018427387904 := Nat.pow_le_pow_right (by omega) (show H + 1 ≤ 62 by omega)
    have hpn := place_nodes (H + 1) K hb
    have hpl := place_lt (H + 1) K hb
    have ek : (K + 1) * 2 ^ (H + 1) = K * 2 ^ (H + 1) + 2 ^ (H + 1) := by rw [Nat.add_mul, Nat.one_mul]
    have em := kid_mid H K
    have el := kid_left H K
    have er := kid_right H K
    -- where (h, i) lies
    have hq : i / 2 ^ d / 2 = K := by rw [hK, Nat.pow_succ, Nat.div_div_eq_div_mul]
    have hd1 : (i / 2 ^ d) * 2 ^ H ≤ i * 2 ^ h := by
      rw [show H = d + h by omega, Nat.pow_add, ← Nat.mul_assoc]
      exact Nat.mul_le_mul_right _ (Nat.div_mul_le_self _ _)
    have hd2 : (i + 1) * 2 ^ h ≤ (i / 2 ^ d + 1) * 2 ^ H := by
      rw [show H = d + h by omega, Nat.pow_add, ← Nat.mul_assoc]
      refine Nat.mul_le_mul_right _ ?_
      have h1 := Nat.div_add_mod i (2 ^ d)
      have h2 := Nat.mod_lt i (p2_pos d)
      rw [Nat.add_mul, Nat.one_mul, Nat.mul_comm]
      omega
    have hle : (i / 2 ^ d + 1) * 2 ^ H ≤ (K + 1) * 2 ^ (H + 1) := by
      rw [← er]
      exact Nat.mul_le_mul_right _ (by omega)
    have hup := place_up (h := h) (i := i) (H := H + 1) (K := K) (by omega) (Nat.le_trans hd2 hle) hb
    have ns : nodesN (K * 2 ^ (H + 1) + 2 ^ H) = nodesN (K * 2 ^ (H + 1)) + (2 ^ (H + 1) - 1) := by
      have h0 := nodes_top H 0 (by omega) hp
      rw [nodes_zero, Nat.add_zero, Nat.add_zero] at h0
      rw [nodes_split K (H + 1) _ (by omega) (by omega), h0]
    have e1 : IntKind.u64.wrap (2 * IntKind.u64.wrap (((2 ^ (H + 1) : Nat) : Int) - 1)) = ((2 ^ (H + 1 + 1) - 2 : Nat) : Int) := by rw [w64_of (((2 ^ (H + 1) : Nat) : Int) - 1) (by omega) (by omega), w64_of _ (by omega) (by omega)]; omega
    have e3 : IntKind.u64.wrap (((nodesN (K * 2 ^ (H + 1)) : Nat) : Int) + ((2 ^ (H + 1 + 1) - 2 : Nat) : Int)) = ((placeN (H + 1) K : Nat) : Int) := by rw [w64_of _ (by omega) (by omega)]; omega
    have e4 : IntKind.u64.wrap (Int.tdiv ((2 ^ (H + 1 + 1) - 2 : Nat) : Int) 2) = ((2 ^ (H + 1) - 1 : Nat) : Int) := by
      rw [show ((2 ^ (H + 1 + 1) - 2 : Nat) : Int) = 2 * ((2 ^ (H + 1) - 1 : Nat) : Int) by omega, Int.mul_tdiv_cancel_left _ (by omega), w64_of _ (by omega) (by omega)]
    have e5 : IntKind.u64.wrap (((nodesN (K * 2 ^ (H + 1)) : Nat) : Int) + ((2 ^ (H + 1) - 1 : Nat) : Int)) = ((nodesN (K * 2 ^ (H + 1) + 2 ^ H) : Nat) : Int) := by rw [ns, w64_of _ (by omega) (by omega)]; omega
    have e6 : wrap64 (((H + 1 : Nat) : Int) - 1) = (H : Int) := by rw [i64_of _ (by omega) (by omega)]; omega
    have hK2 : 2 * K + 1 < 9223372036854775808 := by
      have : K + 1 ≤ (K + 1) * 2 ^ (H + 1) := Nat.le_mul_of_pos_right _ (p2_pos _)
      omega
    have e7 : IntKind.u64.wrap (2 * (K : Int)) = ((2 * K : Nat) : Int) := by rw [w64_of _ (by omega) (by omega)]; omega
    have e8 : IntKind.u64.wrap (((2 * K : Nat) : Int) + 1) = ((2 * K + 1 : Nat) : Int) := by rw [w64_of _ (by omega) (by omega)]; omega
    have hne : ¬ (((placeN h i : Nat) : Int) = ((placeN (H + 1) K : Nat) : Int)) := by omega
    refine Ev.step (fun k => by simp only [massifref3_Spot.l0]; rfl) ?_
    refine Ev.bind (power_val (H + 1) (by omega)) ?_
    by_cases hr : i / 2 ^ d % 2 = 1
    · have eK : 2 * K + 1 = i / 2 ^ d := by omega
      have ih := spot3_loop h i hi d H (2 * K + 1) (by omega) eK (by rw [er]; exact hb)
      rw [em] at ih
      have hge := place_lo (h := h) (i := i) (m := K * 2 ^ (H + 1) + 2 ^ H) (by rw [← em, eK]; exact hd1) hi
      exact Ev.congr (fun k => by rw [e1, e3, if_neg hne, e4, e5, if_pos (by omega), e6, e7, e8]) ih
    · have eK : 2 * K = i / 2 ^ d := by omega
      have hb2 : (2 * K + 1) * 2 ^ H ≤ 4611686018427387904 := by rw [em]; omega
      have ih := spot3_loop h i hi d H (2 * K) (by omega) eK hb2
      rw [el] at ih
      have hlt := place_up (h := h) (i := i) (H := H) (K := 2 * K) (by omega) (by rw [eK]; exact hd2) hb2
      have hpl2 := place_nodes H (2 * K) hb2
      rw [el] at hpl2
      exact Ev.congr (fun k => by rw [e1, e3, if_neg hne, e4, e5, if_neg (by omega), e6, e7]) ih
theorem spot3_val (h i : Nat) (hi : (i + 1) * 2 ^ h ≤ 4611686018427387904) : Ev (fun k => massifref3_Spot.f k ((placeN h i : Nat) : Int)) ((h : Int), (i : Int), true) := by
  have hh := height_le h i hi
  have hpl := place_lt h i hi
  have hlt : i / 2 ^ (62 - h) = 0 := by
    refine Nat.div_eq_of_lt ?_
    have e : 2 ^ (62 - h) * 2 ^ h = 4611686018427387904 := by rw [← Nat.pow_add, show 62 - h + h = 62 by omega]
    by_cases hc : i < 2 ^ (62 - h)
    · exact hc
    · have : (2 ^ (62 - h) + 1) * 2 ^ h ≤ (i + 1) * 2 ^ h := Nat.mul_le_mul_right _ (by omega)
      rw [Nat.add_mul, e, Nat.one_mul] at this
      have := p2_pos h
      omega
  unfold massifref3_Spot.f
  refine Ev.bind (power_val 62 (by omega)) ?_
  have e0 : IntKind.u64.wrap (2 * IntKind.u64.wrap (((2 ^ 62 : Nat) : Int) - 1)) = 9223372036854775806 := by rfl
  have hng : ¬ (((placeN h i : Nat) : Int) > IntKind.u64.wrap (2 * IntKind.u64.wrap (((2 ^ 62 : Nat) : Int) - 1))) := by rw [e0]; omega
  refine Ev.congr (fun k => if_neg hng) ?_
  have := spot3_loop h i hi (62 - h) 62 0 (by omega) hlt.symm (by decide)
  rw [Nat.zero_mul, nodes_zero] at this
  exact this
theorem sib_fit {h i : Nat} (hi : (i + 1) * 2 ^ h ≤ 4611686018427387904) (hh : h < 62) : (sibN i + 1) * 2 ^ h ≤ 4611686018427387904 := by
  have e : 2 ^ (62 - h) * 2 ^ h = 4611686018427387904 := by rw [← Nat.pow_add, show 62 - h + h = 62 by omega]
  have hlt : i < 2 ^ (62 - h) := by
    by_cases hc : i < 2 ^ (62 - h)
    · exact hc
    · have : (2 ^ (62 - h) + 1) * 2 ^ h ≤ (i + 1) * 2 ^ h := Nat.mul_le_mul_right _ (by omega)
      rw [Nat.add_mul, e, Nat.one_mul] at this
      have := p2_pos h
      omega
  have ep : 2 ^ (62 - h) = 2 * 2 ^ (61 - h) := by rw [show 62 - h = (61 - h) + 1 by omega, Nat.pow_succ]; omega
  rw [← e]
  refine Nat.mul_le_mul_right _ ?_
  unfold sibN
  split <;> omega
theorem sibling3_val (h i : Nat) (hi : (i + 1) * 2 ^ h ≤ 4611686018427387904) (hh : h < 62) : Ev (fun k => massifref3_Sibling.f k ((placeN h i : Nat) : Int)) (((placeN h (sibN i) : Nat) : Int), true) := by
  have hs := sib_fit hi hh
  have hi2 : i < 4611686018427387904 := by
    have : i + 1 ≤ (i + 1) * 2 ^ h := Nat.le_mul_of_pos_right _ (p2_pos _)
    omega
  unfold massifref3_Sibling.f
  refine Ev.bind (spot3_val h i hi) ?_
  refine Ev.congr (fun k => if_pos rfl) ?_
  have e1 : ((h : Int) == 62) = false := by rw [beq_eq_false_iff_ne]; omega
  simp only [e1]
  have pv := place3_val h (sibN i) hs
  have ht : Int.tmod (i : Int) 2 = ((i % 2 : Nat) : Int) := by rw [Int.tmod_eq_emod_of_nonneg (by omega)]; rfl
  by_cases hp : i % 2 = 1
  · have e2 : sibN i = i - 1 := by unfold sibN; rw [if_neg (by omega)]
    have e3 : IntKind.u64.wrap ((i : Int) - 1) = ((sibN i : Nat) : Int) := by rw [e2, w64_of _ (by omega) (by omega)]; omega
    refine Ev.step (fun k => by simp only [massifref3_Sibling.j0]; rw [if_neg (by simp), ht, if_pos (by omega), e3]) ?_
    exact Ev.bind pv (Ev.now _)
  · have e2 : sibN i = i + 1 := by unfold sibN; rw [if_pos (by omega)]
    have e3 : IntKind.u64.wrap ((i : Int) + 1) = ((sibN i : Nat) : Int) := by rw [e2, w64_of _ (by omega) (by omega)]; omega
    refine Ev.step (fun k => by simp only [massifref3_Sibling.j0]; rw [if_neg (by simp), ht, if_neg (by omega), e3]) ?_
    exact Ev.bind pv (Ev.now _)

/-! Peak, Path. -/
theorem peak3_loop (i : Nat) (hi : i < 4611686018427387904) (l : List (Nat × Nat)) (hl : l.length ≤ 63) (hh : ∀ s ∈ l, s.1 ≤ 62) (o : Nat) (ho : o < l.length) (hit : Und i (l[o]'ho)) (hno : ∀ j (hj : j < l.length), j < o → ¬ Und i (l[j]'hj)) : ∀ (d j : Nat), j + d = o →
    Ev (fun k => massifref3_Peak.l0 k (i : Int) (spotsOf l) (j : Int)) ((o : Int), true)
  | 0, j, hj => by
    obtain rfl : j = o := by omega
    have h62 := hh _ (List.getElem_mem ho)
    have hpu := p2_le (show (l[j]).1 ≤ 63 by omega)
    have hp := p2_pos (l[j]).1
    have eq : Int.tdiv (i : Int) ((2 ^ (l[j]).1 : Nat) : Int) = ((i / 2 ^ (l[j]).1 : Nat) : Int) := by rw [Int.tdiv_eq_ediv_of_nonneg (by omega)]; rfl
    have hdl : i / 2 ^ (l[j]).1 ≤ i := Nat.div_le_self _ _
    refine Ev.step (fun k => by simp only [massifref3_Peak.l0]; rw [if_pos (by rw [spots_lenP]; omega), if_pos (by omega), rd_spotsP l j ho]) ?_
    have hpv : Ev (fun k => massifref3_Power.f k (wrap64 ((⟨((l[j]).1 : Int), ((l[j]).2 : Int)⟩ : S74).f0))) ((2 ^ (l[j]).1 : Nat) : Int) := by
      show Ev (fun k => massifref3_Power.f k (wrap64 ((l[j]).1 : Int))) _
      rw [i64_of ((l[j]).1 : Int) (by omega) (by omega)]
      exact power_val (l[j]).1 (by omega)
    refine Ev.bind hpv ?_
    have hu : i / 2 ^ (l[j]).1 = (l[j]).2 := hit
    exact Ev.congr (fun k => by rw [if_neg (by omega), eq, w64_nat _ (by omega), hu, if_pos rfl]) (Ev.now _)
  | d + 1, j, hj => by
    have hjl : j < l.length := by omega
    have ih := peak3_loop i hi l hl hh o ho hit hno d (j + 1) (by omega)
    have h62 := hh _ (List.getElem_mem hjl)
    have hpu := p2_le (show (l[j]).1 ≤ 63 by omega)
    have hp := p2_pos (l[j]).1
    have eq : Int.tdiv (i : Int) ((2 ^ (l[j]).1 : Nat) : Int) = ((i / 2 ^ (l[j]).1 : Nat) : Int) := by rw [Int.tdiv_eq_ediv_of_nonneg (by omega)]; rfl
    have hdl : i / 2 ^ (l[j]).1 ≤ i := Nat.div_le_self _ _
    refine Ev.step (fun k => by simp only [massifref3_Peak.l0]; rw [if_pos (by rw [spots_lenP]; omega), if_pos (by omega), rd_spotsP l j hjl]) ?_
    have hpv : Ev (fun k => massifref3_Power.f k (wrap64 ((⟨((l[j]).1 : Int), ((l[j]).2 : Int)⟩ : S74).f0))) ((2 ^ (l[j]).1 : Nat) : Int) := by
      show Ev (fun k => massifref3_Power.f k (wrap64 ((l[j]).1 : Int))) _
      rw [i64_of ((l[j]).1 : Int) (by omega) (by omega)]
      exact power_val (l[j]).1 (by omega)
    refine Ev.bind hpv ?_
    have hu : ¬ (i / 2 ^ (l[j]).1 = (l[j]).2) := hno j hjl (by omega)
    exact Ev.congr (fun k => by rw [if_neg (by omega), eq, w64_nat _ (by omega), if_neg (by show ¬ (_ = ((l[j]).2 : Int)); omega), up_one j (by omega)]) ih
theorem over_und {i n : Nat} (h : i < n) (hn : n ≤ 4611686018427387904) : overN i n < (topsN n).length ∧ (topsN n)[overN i n]? = some (hiN i n, i / 2 ^ hiN i n) ∧ ∀ j, j < overN i n → ∀ s, (topsN n)[j]? = some s → ¬ Und i s := by
  have hpl := proof_len h hn
  obtain ⟨T, h1, h2, h3⟩ := over_split h hn
  refine ⟨hpl.1, hpl.2.1, ?_⟩
  intro j hj s hs hu
  have hT : s ∈ T := by
    rw [h1, List.getElem?_append_left (by omega)] at hs
    exact List.mem_of_getElem? hs
  have hm : s ∈ topsF 63 n := by
    rw [show topsF 63 n = topsN n from rfl, h1]
    exact List.mem_append.2 (.inl hT)
  have l1 := tops_lv hm hu
  have l2 := (hi_lv h (by omega)).1
  have := Lv.uniq l1 l2
  have := h3 s hT
  omega
theorem peak3_val (i n : Nat) (h : i < n) (hn : n ≤ 4611686018427387904) : Ev (fun k => massifref3_Peak.f k (i : Int) (n : Int)) (((overN i n : Nat) : Int), true) := by
  obtain ⟨h1, h2, h3⟩ := over_und h hn
  unfold massifref3_Peak.f
  refine Ev.congr (fun k => if_neg (by omega)) ?_
  refine Ev.bind (tops_val n hn) ?_
  rw [List.getElem?_eq_getElem h1] at h2
  injection h2 with h2
  refine peak3_loop i (by omega) (topsN n) (topsF_len 63 n) (fun s hs => by have := (tops_fit 63 n s hs).1; omega) (overN i n) h1 ?_ ?_ (overN i n) 0 (by omega)
  · rw [h2]
    rfl
  · intro j hj hjo
    exact h3 j hjo _ (List.getElem?_eq_getElem hj)
theorem sib_sib (z : Nat) : sibN (sibN z) = z := by
  unfold sibN
  split <;> split <;> omega
theorem half_cast (z : Nat) (hz : z < 4611686018427387904) : IntKind.u64.wrap (Int.tdiv (z : Int) 2) = ((z / 2 : Nat) : Int) := by
  rw [Int.tdiv_eq_ediv_of_nonneg (by omega), w64_of _ (by omega) (by omega)]
  rfl
theorem path3_loop (i n : Nat) (h : i < n) (hn : n ≤ 4611686018427387904) : ∀ (d k : Nat), k + d = hiN i n → Ev (fun j => massifref3_Path.l0 j (placesOf (sibsN i k)) ((hiN i n : Nat) : Int) (k : Int) ((i / 2 ^ k : Nat) : Int)) (placesOf (sibsN i (hiN i n)), true)
  | 0, k, hk => by
    have : k = hiN i n := by omega
    subst this
    exact Ev.step (f := fun _ => some (placesOf (sibsN i (hiN i n)), true)) (fun j => by simp only [massifref3_Path.l0]; rw [if_neg (by omega)]) (Ev.now _)
  | d + 1, k, hk => by
    have hle := hi_le h hn
    have ih := path3_loop i n h hn d (k + 1) (by omega)
    have hfit : (i / 2 ^ k + 1) * 2 ^ k ≤ 4611686018427387904 := by
      have hm : (k, sibN (i / 2 ^ k)) ∈ proofN i n := by
        unfold proofN
        refine List.mem_append.2 (.inl ?_)
        simp only [sibsN, List.mem_map, List.mem_range]
        exact ⟨k, by omega, rfl⟩
      have hf := sib_fit (Nat.le_trans (proof_fit h hn _ hm) hn) (show k < 62 by omega)
      simp only at hf
      rw [sib_sib] at hf
      exact hf
    have hq : i / 2 ^ k ≤ i := Nat.div_le_self _ _
    have e1 : ((k : Int) + 1) % 256 = ((k + 1 : Nat) : Int) := by omega
    have e2 : IntKind.u64.wrap (Int.tdiv ((i / 2 ^ k : Nat) : Int) 2) = ((i / 2 ^ (k + 1) : Nat) : Int) := by
      rw [half_cast _ (Nat.lt_of_le_of_lt hq (by omega)), half_up]
    have e3 : placesOf (sibsN i (k + 1)) = placesOf (sibsN i k) ++ [((placeN k (sibN (i / 2 ^ k)) : Nat) : Int)] := by
      simp [placesOf, sibsN, List.range_succ]
    have hlen : (placesOf (sibsN i k)).length < 17592186044416 := by simp [placesOf, sibsN]; omega
    rw [e3] at ih
    refine Ev.step (fun j => by simp only [massifref3_Path.l0]; rw [if_pos (by omega)]) ?_
    refine Ev.bind (place3_val k (i / 2 ^ k) hfit) ?_
    refine Ev.bind (sibling3_val k (i / 2 ^ k) hfit (by omega)) ?_
    exact Ev.congr (fun j => by rw [if_pos hlen, e1, e2]) ih
theorem path3_val (i n : Nat) (h : i < n) (hn : n ≤ 4611686018427387904) : Ev (fun k => massifref3_Path.f k (i : Int) (n : Int)) (placesOf (sibsN i (hiN i n)), true) := by
  obtain ⟨h1, h2, _⟩ := over_und h hn
  unfold massifref3_Path.f
  refine Ev.bind (peak3_val i n h hn) ?_
  refine Ev.congr (fun k => if_pos rfl) ?_
  refine Ev.bind (tops_val n hn) ?_
  rw [List.getElem?_eq_getElem h1] at h2
  injection h2 with h2
  have hp := path3_loop i n h hn (hiN i n) 0 (by omega)
  rw [Nat.pow_zero, Nat.div_one] at hp
  have hrd : (rd_T74 (spotsOf (topsN n)) ((overN i n : Nat) : Int)).f0 = ((hiN i n : Nat) : Int) := by rw [rd_spotsP _ _ h1, h2]
  refine Ev.congr (fun k => ?_) hp
  simp only
  rw [if_pos (by omega), if_pos (by rw [spots_lenP]; omega), hrd]
  rfl
/-! massifref7.Places. -/
theorem rd_placesP (l : List (Nat × Nat)) (j : Nat) (hj : j < l.length) : rd (placesOf l) (j : Int) = ((placeN (l[j]).1 (l[j]).2 : Nat) : Int) := by
  simp [rd, placesOf, List.getD_eq_getElem?_getD, List.getElem?_eq_getElem hj]
theorem placesOf_cons (s : Nat × Nat) (l : List (Nat × Nat)) : placesOf (s :: l) = [((placeN s.1 s.2 : Nat) : Int)] ++ placesOf l := rfl
theorem places7_past (l : List (Nat × Nat)) (hl : l.length ≤ 63) (o : Nat) : ∀ (d j : Nat) (acc : List Int), j + d = l.length → o < j → acc.length + d ≤ 200 →
    Ev (fun k => massifref7_Places.l0 k acc (o : Int) (placesOf l) (j : Int)) (acc ++ placesOf (l.drop j), 0)
  | 0, j, acc, hj, _, _ => by
    rw [List.drop_of_length_le (by omega), show placesOf [] = [] from rfl, List.append_nil]
    exact Ev.step (f := fun _ => some (acc, 0)) (fun k => by simp only [massifref7_Places.l0]; rw [if_neg (by rw [places_lenP]; omega)]) (Ev.now _)
  | d + 1, j, acc, hj, ho, ha => by
    have hjl : j < l.length := by omega
    rw [List.drop_eq_getElem_cons hjl, placesOf_cons, ← List.append_assoc]
    have ih := places7_past l hl o d (j + 1) (acc ++ [((placeN (l[j]).1 (l[j]).2 : Nat) : Int)]) (by omega) (by omega) (by simp; omega)
    exact Ev.step (fun k => by simp only [massifref7_Places.l0]; rw [if_pos (by rw [places_lenP]; omega), if_neg (by omega), if_pos (by omega), if_pos (by omega), rd_placesP l j hjl, up_one j (by omega)]) ih
theorem places7_loop (l : List (Nat × Nat)) (hl : l.length ≤ 63) (o : Nat) (ho : o < l.length) : ∀ (d j : Nat) (acc : List Int), j + d = o → acc.length + (l.length - j) ≤ 200 →
    Ev (fun k => massifref7_Places.l0 k acc (o : Int) (placesOf l) (j : Int)) (acc ++ placesOf ((l.drop j).eraseIdx d), 0)
  | 0, j, acc, hj, ha => by
    obtain rfl : j = o := by omega
    rw [List.drop_eq_getElem_cons ho, List.eraseIdx_cons_zero]
    have := places7_past l hl j (l.length - (j + 1)) (j + 1) acc (by omega) (by omega) (by omega)
    exact Ev.step (fun k => by simp only [massifref7_Places.l0]; rw [if_pos (by rw [places_lenP]; omega), if_pos trivial, up_one j (by omega)]) this
  | d + 1, j, acc, hj, ha => by
    have hjl : j < l.length := by omega
    rw [List.drop_eq_getElem_cons hjl, List.eraseIdx_cons_succ, placesOf_cons, ← List.append_assoc]
    have ih := places7_loop l hl o ho d (j + 1) (acc ++ [((placeN (l[j]).1 (l[j]).2 : Nat) : Int)]) (by omega) (by simp; omega)
    exact Ev.step (fun k => by simp only [massifref7_Places.l0]; rw [if_pos (by rw [places_lenP]; omega), if_neg (by omega), if_pos (by omega), if_pos (by omega), rd_placesP l j hjl, up_one j (by omega)]) ih
/-- What proof.Places answers. -/
def proofAns (i n : Nat) : List Int × Int := if 4611686018427387904 < n then ([], 30) else if n ≤ i then ([], 32) else (placesOf (proofN i n), 0)
theorem places7_val (i n : Nat) : Ev (fun k => massifref7_Places.f k (i : Int) (n : Int)) (proofAns i n) := by
  unfold massifref7_Places.f proofAns
  by_cases c1 : 4611686018427387904 < n
  · rw [if_pos c1]
    exact Ev.congr (fun k => if_pos (by omega)) (Ev.now _)
  · rw [if_neg c1]
    refine Ev.congr (fun k => if_neg (by omega)) ?_
    by_cases c2 : n ≤ i
    · rw [if_pos c2]
      exact Ev.congr (fun k => if_pos (by omega)) (Ev.now _)
    · rw [if_neg c2]
      refine Ev.congr (fun k => if_neg (by omega)) ?_
      have h : i < n := by omega
      have hn : n ≤ 4611686018427387904 := by omega
      obtain ⟨h1, _, _⟩ := over_und h hn
      have hle := hi_le h hn
      refine Ev.bind (path3_val i n h hn) ?_
      refine Ev.bind (peak3_val i n h hn) ?_
      refine Ev.bind (peaks3_val n hn) ?_
      have hl := places7_loop (topsN n) (topsF_len 63 n) (overN i n) h1 (overN i n) 0 (placesOf (sibsN i (hiN i n))) (by omega) (by
        have h63 : (topsN n).length ≤ 63 := topsF_len 63 n
        rw [places_lenP]
        simp only [sibsN, List.length_map, List.length_range]
        omega)
      rw [List.drop_zero] at hl
      have e : placesOf (proofN i n) = placesOf (sibsN i (hiN i n)) ++ placesOf ((topsN n).eraseIdx (overN i n)) := by
        unfold proofN placesOf
        rw [List.map_append]
      rw [e]
      exact hl
theorem places7_calls (i n : Nat) (w : World) :
    Calls Tryd.prog 16 #[.int .u64 i, .int .u64 n] w fun e w' => ∃ v, e = .returned (.tuple #[v, .int .i64 (proofAns i n).2]) ∧ Kd.R (Kd.int .u64) 30 w' w.heap.size (fun _ => True) v (proofAns i n).1 ∧ Below w.heap.size w w' := by
  obtain ⟨k, hk⟩ := (places7_val i n).rounds
  exact massifref7_Places.calls k _ _ _ _ w hk
theorem proof_length {i n : Nat} (h : i < n) (hn : n ≤ 4611686018427387904) : (proofN i n).length ≤ 124 := by
  have h1 := (proof_len h hn).2.2
  have h2 := hi_le h hn
  have h3 : (topsN n).length ≤ 63 := topsF_len 63 n
  omega
theorem proofAns_len (i n : Nat) : (proofAns i n).1.length ≤ 124 := by
  unfold proofAns
  split
  · simp
  · split
    · simp
    · have := proof_length (i := i) (n := n) (by omega) (by omega)
      simpa [placesOf] using this
end Go.Proofs.YtefnonlhepekdaaDoor.M

set_option linter.unusedVariables false
set_option linter.unusedSimpArgs false
namespace Go.Proofs.YtefnonlhepekdaaDoor.M
open Go.RowKit Go.Proofs.YtefnonlhepekdaaDoorW.PrintWords Go.Proofs.YtefnonlhepekdaaDoorW.PrintLast Go.Proofs.YtefnonlhepekdaaDoorW.PrintMore Go.Proofs.YtefnonlhepekdaaDoor.Leaf

theorem reps_int (k : IntKind) {w : World} {base : Nat} {ok : Nat → Prop} {xs : List Int} {cs : List Value} (h : Reps ((Kd.int k).M w base ok) (Kd.int k).sz xs cs) : cs = xs.map (Value.int k) := by
  have hl : cs.length = xs.length := by have := h.1; rwa [show (Kd.int k).sz = 1 from rfl, Nat.mul_one] at this
  refine List.ext_getElem? (fun j => ?_)
  rw [List.getElem?_map]
  by_cases hj : j < xs.length
  · have h2 := h.2 j xs[j] (List.getElem?_eq_getElem hj)
    have h3 : (cs.drop (j * 1)).take 1 = [Value.int k xs[j]] := h2
    rw [Nat.mul_one] at h3
    have h4 : ((cs.drop j).take 1)[0]? = some (Value.int k xs[j]) := by rw [h3]; rfl
    rw [List.getElem?_take_of_lt (by omega), List.getElem?_drop, Nat.add_zero] at h4
    rw [h4, List.getElem?_eq_getElem hj]
    rfl
  · rw [List.getElem?_eq_none (by omega), List.getElem?_eq_none (by omega)]
    rfl
theorem int_reps (k : IntKind) (w : World) (base : Nat) (ok : Nat → Prop) (xs : List Int) : Reps ((Kd.int k).M w base ok) (Kd.int k).sz xs (xs.map (Value.int k)) := by
  refine ⟨by rw [List.length_map]; exact (Nat.mul_one _).symm, fun j p hj => ?_⟩
  show ((xs.map (Value.int k)).drop (j * 1)).take 1 = [Value.int k p]
  rw [Nat.mul_one]
  have hl := (List.getElem?_eq_some_iff.1 hj).1
  rw [List.drop_eq_getElem_cons (by rw [List.length_map]; exact hl)]
  simp [(List.getElem?_eq_some_iff.1 hj).2]
/-- A row of numbers of one's own, laid open. -/
structure BlkD (k : IntKind) (e : Nat) (w : World) (base : Nat) (v : Value) (xs : List Int) (g cap : Nat) (cur : Array Value) : Prop where
  val : v = .slice (some ⟨g, 0, none⟩) xs.length cap
  base_le : base ≤ g
  heap : w.heap[g]? = some (.cells cur e (0, 0))
  len : xs.length ≤ cap
  max : cap ≤ maxLen
  size : cur.size = cap
  row : cur.toList.take xs.length = xs.map (Value.int k)
theorem R_open {k : IntKind} {e : Nat} {w : World} {base : Nat} {v : Value} {xs : List Int} (h : (Kd.int k).R e w base (fun _ => True) v xs) (h0 : 0 < xs.length) : ∃ g cap cur, BlkD k e w base v xs g cap cur := by
  obtain ⟨_, inner, ho, hr⟩ := h
  have hi := reps_int k hr
  subst hi
  rcases ho.2 with ⟨_, hz⟩ | ⟨g, cap, cur, he, hb, hh, hnc, hcm, hcs, ht⟩
  · omega
  · have e1 : (Kd.int k).sz = 1 := rfl
    rw [e1, Nat.mul_one] at hcs ht
    exact ⟨g, cap, cur, he, hb, hh, hnc, hcm, hcs, ht⟩
theorem BlkD.R {k : IntKind} {e : Nat} {w : World} {base : Nat} {v : Value} {xs : List Int} {g cap : Nat} {cur : Array Value} (h : BlkD k e w base v xs g cap cur) : (Kd.int k).R e w base (fun _ => True) v xs := by
  refine ⟨fun _ _ => trivial, xs.map (Value.int k), ⟨?_, .inr ⟨g, cap, cur, h.val, h.base_le, h.heap, h.len, h.max, ?_, ?_⟩⟩, int_reps k _ _ _ xs⟩
  · rw [List.length_map]; exact (Nat.mul_one _).symm
  · rw [h.size]; exact (Nat.mul_one _).symm
  · rw [show (Kd.int k).sz = 1 from rfl, Nat.mul_one]; exact h.row
theorem cell_of {w : World} {g : Nat} {cur : Array Value} {e : TypeId} (h : w.heap[g]? = some (.cells cur e (0, 0))) (o : Nat) : w.cell? ⟨g, o, none⟩ = cur[o]? := by
  show (match w.heap[g]? with | some (.cells c _ _) => if (none : Option Nat).isSome then none else c[o]? | _ => none) = _
  rw [h]
  rfl
theorem frozen_of {w : World} {g : Nat} {cur : Array Value} {e : TypeId} (h : w.heap[g]? = some (.cells cur e (0, 0))) (o : Nat) (hf : o < cur.size) : w.frozen? ⟨g, o, none⟩ = false := by
  unfold World.frozen?
  simp [h]
set_option maxHeartbeats 2000000 in
set_option maxRecDepth 100000 in
theorem delete_one (i j : Nat) (hj : j = i + 1) (w : World) (base : Nat) (v : Value) (xs : List Int) (h : (Kd.int .u64).R 30 w base (fun _ => True) v xs) (hi : i < xs.length) :
    Calls Tryd.prog 65 #[v, .int .i64 i, .int .i64 j] w fun e w' => ∃ v', e = .returned v' ∧ (Kd.int .u64).R 30 w' base (fun _ => True) v' (xs.eraseIdx i) ∧ Frm (fun k => some k = v.ownBlock) w w' ∧ v'.ownBlock = v.ownBlock := by
  obtain ⟨g, cap, cur, B⟩ := R_open h (by omega)
  obtain ⟨rfl, hbase, hh, hlen, hmax, hsize, hrow⟩ := B
  have hmax' : cap ≤ 9223372036854775807 := hmax
  have hglt : g < w.heap.size := (Array.getElem?_eq_some_iff.1 hh).1
  generalize hn : xs.length = n at *
  have hjn : j ≤ n := by omega
  have hij : i < j := by omega
  -- the numbers that are moved to the left
  obtain ⟨news, hnews⟩ : ∃ news, news = (xs.drop j).map (Value.int .u64) := ⟨_, rfl⟩
  have hnl : news.length = n - j := by rw [hnews]; simp [hn]
  have hget : ∀ j, j < n → cur[j]? = (xs.map (Value.int .u64))[j]? := by
    intro j hj
    rw [← hrow, List.getElem?_take_of_lt hj, Array.getElem?_toList]
  obtain ⟨A, hA, hsrc⟩ : ∃ A : Addr, (if cap = j then some (⟨g, 0, none⟩ : Addr) else some ⟨g, j, none⟩) = some A ∧ Hid (∀ t u, news[t]? = some u → w.drew.cell? (A.add t) = some u) := by
    by_cases hc : cap = j
    · refine ⟨⟨g, 0, none⟩, by simp [hc], fun t u hu => ?_⟩
      have h0 : news.length = 0 := by omega
      rw [List.length_eq_zero_iff.1 h0] at hu
      simp at hu
    · refine ⟨⟨g, j, none⟩, by simp [hc], fun t u hu => ?_⟩
      have ht : t < n - j := by
        have := (List.getElem?_eq_some_iff.1 hu).1
        omega
      rw [hnews, List.map_drop, List.getElem?_drop] at hu
      rw [Addr.add_lit]
      show w.cell? ⟨g, j + t, none⟩ = some u
      rw [cell_of hh, hget _ (by omega)]
      exact hu
  obtain ⟨W1, hW1⟩ : ∃ W1, W1 = w.drew.setCells g (0 + i * 1) news := ⟨_, rfl⟩
  have hhd : w.drew.heap[g]? = some (.cells cur 30 (0, 0)) := hh
  obtain ⟨c1, hc1, hs1, ht1⟩ := setCells_row (g := g) news (0 + i * 1) w.drew cur hhd (by omega)
  rw [← hW1] at hc1
  have s1 : Hid (news.length = (n - j) * 1) := by show news.length = _; omega
  have s2 : Hid (∀ u ∈ news, u.oneCell' = true) := by
    intro u hu
    rw [hnews] at hu
    obtain ⟨x, _, rfl⟩ := List.mem_map.1 hu
    rfl
  have s3 : Hid (∀ t, t < news.length → (w.drew.cell? ⟨g, 0 + i * 1 + t, none⟩).isSome = true ∧ w.drew.frozen? ⟨g, 0 + i * 1 + t, none⟩ = false) := by
    intro t ht
    refine ⟨?_, frozen_of hhd _ (by omega)⟩
    rw [cell_of hhd, Array.getElem?_eq_getElem (by omega)]
    rfl
  have hcl : ∀ ty, (Builtin.clear_ #[31] ty #[.slice (some ⟨g, i + (n - j), none⟩) (n - (i + (n - j))) (cap - (i + (n - j)))]).run Tryd.prog W1 = .ok (.tuple #[]) (W1.setCells g (i + (n - j)) (List.replicate (n - (i + (n - j))) (.int .u64 0))) :=
    fun ty => Lib.run_clear_slice W1 _ _ ty _ Tryd.underlying31 (fun w => (by kernel_rfl)) rfl rfl g (i + (n - j)) _ _ (by omega) (fun t ht => by rw [cell_of hc1, Array.getElem?_eq_getElem (by omega)]; rfl) (fun t ht => frozen_of hc1 _ (by omega))
  have S1 := Aside0.mk hc1
  have S2 := Aside0.mk ht1
  have S3 := Aside0.mk hs1
  have hW : Hid (W1 = w.drew.setCells g (0 + i * 1) news) := hW1
  have S4 := Aside0.mk hrow
  have S5 := Aside0.mk hnews
  have hic : i ≤ cap := by omega
  have mixed : Tryd.prog.follows .mixedOrders = true := by kernel_rfl
  have HJ := Aside0.mk hj
  have hjc : j ≤ cap := by omega
  clear hj
  clear hW1 hc1 ht1 hs1 hrow hnews hget hh hhd h
  go_enter Tryd.func65, Tryd.ntmps65
  go_wp2_with fail
  go_region_law_o (refine step_append_room rfl (.tmp 22) (.tmp 25) 31 rfl 30 _ 1 Tryd.underlying31 rfl rfl g 0 i cap (by simp [Act.eval, Act.put]) A (n - j) (cap - j) news (by simp [Act.eval, Act.put]) s1.out hsrc.out s2.out (by omega) s3.out ?_; rw [← hW.out])
  go_wp2
  go_ret
  have hj := HJ.out
  rw [show n - (i + (n - j)) = 1 by omega]
  have hh2 := S1.out
  obtain ⟨c2, h2, hs2, ht2⟩ := setCells_row (g := g) (List.replicate 1 (Value.int .u64 0)) (i + (n - j)) W1 c1 hh2 (by rw [S3.out, hsize, List.length_replicate]; omega)
  have hxe : (xs.eraseIdx i).length = i + (n - j) := by rw [List.length_eraseIdx_of_lt (by omega)]; omega
  refine ⟨.slice (some ⟨g, 0, none⟩) (i + (n - j)) cap, rfl, BlkD.R (g := g) (cap := cap) (cur := c2) ⟨by rw [hxe], hbase, h2, by omega, hmax, by rw [hs2, S3.out, hsize], ?_⟩, ?_, rfl⟩
  · have hc : cur.toList.length = cap := by rw [Array.length_toList]; exact hsize
    have hc1 : c1.toList.length = cap := by rw [Array.length_toList, S3.out]; exact hsize
    have e1 : (cur.toList.take (0 + i * 1)) = (xs.take i).map (Value.int .u64) := by
      rw [show 0 + i * 1 = i by omega, List.map_take, ← S4.out, List.take_take, show min i n = i by omega]
    have e2 : ((xs.take i).map (Value.int .u64) ++ news).length = i + (n - j) := by rw [List.length_append, List.length_map, List.length_take, hnl, hn]; omega
    rw [hxe, ht2, List.append_assoc, List.take_left' (by rw [List.length_take, hc1]; omega), S2.out, e1, List.take_left' e2, S5.out, List.eraseIdx_eq_take_drop_succ, List.map_append, hj]
  · refine ⟨?_, ?_, ?_, ?_, fun k hk hne => ?_⟩
    · exact (setCells_same g _ _ _).1.trans (by rw [hW.out]; exact (setCells_same g _ _ _).1)
    · exact (setCells_same g _ _ _).2.1.trans (by rw [hW.out]; exact (setCells_same g _ _ _).2.1)
    · exact (setCells_same g _ _ _).2.2.1.trans (by rw [hW.out]; exact (setCells_same g _ _ _).2.2.1)
    · exact Nat.le_of_eq ((setCells_same g _ _ _).2.2.2.trans (by rw [hW.out]; exact (setCells_same g _ _ _).2.2.2)).symm
    · have hkg : k ≠ g := fun e => hne (by rw [e]; rfl)
      rw [setCells_far _ _ k hkg, hW.out, setCells_far _ _ k hkg]
      rfl
end Go.Proofs.YtefnonlhepekdaaDoor.M
