/- Hashes, further words: as bytes, read, compared, written; rows that are marked; what two rows of unlike types share. (For seats in which the texts of spans are not.). The lowest set bit by Go's table; cut.Span. Go's table for the lowest set bit is where the condition says; a world of the door's meets it. A parameter that is a slice of integers: what it reads as, and that it reads the same where the call has at most laid new blocks. Parameters that are proofs (two numbers and a slice of hashes): what they read as. Arrays and structs in memory, of any length: a part of a block is loaded, is written; one is handed back; what 'clear' leaves. What massifref3.Peaks, Spot, Sibling, Peak, Path and massifref7.Places come to. slices.Delete of one number of a row of the call's own. proof.Places. num.Short and massifref1.Short make the same bytes. slices.Grow of nil, slices.Concat of byte rows. proof.write and proof.Encode. num.Long reads back what num.Short writes, and reads nothing else. massifref7.Take: so many hashes, and nothing behind them (on a seat without the spans' texts). proof.reader: fail, kind, number. -/
import Derived.Test.YtefnonlhepekdaaDoorPR0
import Derived.Test.YtefnonlhepekdaaDoorTie
import Derived.Test.YtefnonlhepekdaaDoorCards
import Derived.LaidMore
import Derived.Stop.Joined
import Derived.SevenTiedAt
import Derived.ChangeSlices
import Derived.OpenShut
import Derived.ChangeArms
import Derived.WideKeyArgs
import Derived.DataReads
import Derived.Lib.SliceRun
import Derived.Shelf.RegionOpenPlain
import Derived.Deep.RegionLaw
import Derived.Test.YtefnonlhepekdaaDoorLng1
import Derived.BigQuiet
import Derived.Deep.QuietTactic
import Derived.IntWalk
set_option linter.unusedVariables false
set_option linter.unusedSimpArgs false
set_option linter.unusedVariables false
set_option linter.unusedSimpArgs false
namespace Go.Proofs.YtefnonlhepekdaaDoor.M
open Go.RowKit Go.Proofs.YtefnonlhepekdaaDoorW.PrintWords Go.Proofs.YtefnonlhepekdaaDoorW.PrintLast Go.Proofs.YtefnonlhepekdaaDoorW.PrintMore Go.Proofs.YtefnonlhepekdaaDoor.Leaf

def Bytes (l : List Int) : Prop := ∀ b ∈ l, 0 ≤ b ∧ b < 256
def hashZ : Hsh := hash1 0
def mkH (l : List Int) : Hsh := if h : l.length = 32 then ⟨l, h⟩ else hashZ
theorem mkH_b {l : List Int} (h : l.length = 32) : (mkH l).b = l := by unfold mkH; rw [dif_pos h]
def nodesI (ns : List Hsh) : List Int := ns.flatMap fun h => h.b
theorem nodes_len : ∀ l : List Hsh, (nodesI l).length = 32 * l.length
  | [] => rfl
  | x :: l => by
    rw [show nodesI (x :: l) = x.b ++ nodesI l from rfl, List.length_append, nodes_len l, x.len, List.length_cons]
    omega
def takeH : Nat → List Int → List Hsh
  | 0, _ => []
  | k + 1, bs => mkH (bs.take 32) :: takeH k (bs.drop 32)
theorem takeH_len : ∀ k bs, (takeH k bs).length = k
  | 0, _ => rfl
  | k + 1, bs => by simp [takeH, takeH_len k]
theorem takeH_nodes : ∀ (ns : List Hsh), takeH ns.length (nodesI ns) = ns
  | [] => rfl
  | x :: r => by
    have ih := takeH_nodes r
    have e : nodesI (x :: r) = x.b ++ nodesI r := rfl
    rw [List.length_cons, e]
    simp only [takeH]
    rw [show (x.b ++ nodesI r).take 32 = x.b by rw [List.take_append_of_le_length (by rw [x.len]; exact Nat.le_refl _), List.take_of_length_le (by rw [x.len]; exact Nat.le_refl _)],
      show (x.b ++ nodesI r).drop 32 = nodesI r by rw [List.drop_append_of_le_length (by rw [x.len]; exact Nat.le_refl _), List.drop_of_length_le (by rw [x.len]; exact Nat.le_refl _), List.nil_append], ih]
    congr 1
    cases x with
    | mk b hb => unfold mkH; rw [dif_pos hb]
theorem nodes_takeH : ∀ (k : Nat) (bs : List Int), bs.length = 32 * k → nodesI (takeH k bs) = bs
  | 0, bs, h => by
    have : bs = [] := List.length_eq_zero_iff.1 (by omega)
    subst this
    rfl
  | k + 1, bs, h => by
    have ih := nodes_takeH k (bs.drop 32) (by rw [List.length_drop]; omega)
    have e : nodesI (takeH (k + 1) bs) = (mkH (bs.take 32)).b ++ nodesI (takeH k (bs.drop 32)) := rfl
    rw [e, ih, mkH_b (by rw [List.length_take]; omega), List.take_append_drop]
theorem takeH_snoc : ∀ (k : Nat) (bs : List Int), takeH (k + 1) bs = takeH k bs ++ [mkH ((bs.drop (32 * k)).take 32)]
  | 0, bs => by simp [takeH]
  | k + 1, bs => by
    have ih := takeH_snoc k (bs.drop 32)
    rw [show takeH (k + 1 + 1) bs = mkH (bs.take 32) :: takeH (k + 1) (bs.drop 32) from rfl, ih, show takeH (k + 1) bs = mkH (bs.take 32) :: takeH k (bs.drop 32) from rfl, List.drop_drop, show 32 + 32 * k = 32 * (k + 1) by omega]
    rfl
theorem R_emptyK {α : Type} (d : Kd α) {e : Nat} {w : World} {g : Nat} {t : Nat} (ht : t = e) (hg : w.heap[g]? = some (.cells #[] t (0, 0))) {base : Nat} (hb : base ≤ g) : d.R e w base (fun _ => True) (.slice (some ⟨g, 0, none⟩) 0 0) [] := by
  subst ht
  exact ⟨fun _ _ => trivial, [], ⟨by simp, .inr ⟨g, 0, #[], rfl, hb, hg, Nat.le_refl _, Nat.zero_le _, by simp, by simp⟩⟩, Reps.none _ _⟩
theorem Rd.row {k : IntKind} {w : World} {A : Option Addr} {m c : Nat} {xs : List Int} (h : Rd k w (.slice A m c) xs) : Kd.C (Kd.int k) w A m xs := by
  obtain ⟨A', c', ev, _, hC⟩ := h
  injection ev with e1 e2 e3
  subst e1 e2
  exact hC
/-- What one reads of a row of one's own. -/
theorem R_C {α : Type} {d : Kd α} {e base : Nat} {w : World} {A : Option Addr} {n c : Nat} {xs : List α} (h : d.R e w base (fun _ => True) (.slice A n c) xs) : d.C w A n xs := by
  have h1 := Kd.R_reads' h
  rw [h1.1]
  exact h1.2.2
theorem R_capk {α : Type} {d : Kd α} {e base : Nat} {w : World} {A : Option Addr} {n c : Nat} {xs : List α} (h : d.R e w base (fun _ => True) (.slice A n c) xs) : n = xs.length ∧ n ≤ c ∧ c ≤ 9223372036854775807 := by
  refine ⟨(Kd.R_reads' h).1, (Kd.R_reads' h).2.1, ?_⟩
  obtain ⟨inner, ho⟩ := Kd.R_own h
  rcases ho.2 with ⟨h1, _⟩ | ⟨g, cap, cur, h1, _, _, _, h2, _⟩
  · injection h1 with _ _ h3
    omega
  · injection h1 with _ _ h3
    subst h3
    exact h2
theorem C_cut {α : Type} {d : Kd α} {w : World} {A : Option Addr} {n : Nat} {xs ys : List α} (h : d.C w A n (xs ++ ys)) (m : Nat) (hm : m = xs.length) : d.C w A m xs := by
  have hl := Kd.C_len h
  subst hl hm
  have h2 := Kd.C_take h (m := xs.length) (by simp)
  rw [List.take_left] at h2
  exact h2
/-- Rows of two types own no block together. -/
theorem own_types {α β : Type} {d : Kd α} {d' : Kd β} {e e' base base' : Nat} {ok ok' : Nat → Prop} {w : World} {u v : Value} {xs : List α} {ys : List β} (h : d.R e w base ok u xs) (h' : d'.R e' w base' ok' v ys) (hne : e ≠ e') {k : Nat} (h1 : u.ownBlock = some k) (h2 : v.ownBlock = some k) : False := by
  obtain ⟨c1, e1⟩ := Kd.R_typed h k h1
  obtain ⟨c2, e2⟩ := Kd.R_typed h' k h2
  rw [e1] at e2
  injection e2 with e2
  injection e2 with _ e2
  exact hne e2
/-- Two values that own no block together. -/
def Apart (u v : Value) : Prop := ∀ k, u.ownBlock = some k → v.ownBlock ≠ some k
theorem Apart.symm {u v : Value} (h : Apart u v) : Apart v u := fun k h1 h2 => h k h2 h1
theorem row_round {k : IntKind} {e base g n c : Nat} {W : World} {M : List Int} (h : (Kd.int k).R e W base (fun _ => True) (.slice (some ⟨g, 0, none⟩) n c) M) (j : Nat) (hj : j < n) :
    (∃ z : Int, W.cell? ⟨g, j, none⟩ = some (.int k z)) ∧ W.frozen? ⟨g, j, none⟩ = false ∧ ∀ x : Int, (Kd.int k).R e (W.setCell ⟨g, j, none⟩ (.int k x)) base (fun _ => True) (.slice (some ⟨g, 0, none⟩) n c) (M.set j x) := by
  obtain ⟨k1, k2⟩ := Kd.R_celln 0 h (j : Int) (by omega) (by omega)
  rw [Int.toNat_natCast] at k1 k2
  refine ⟨⟨_, k1⟩, k2, fun x => ?_⟩
  have s1 := Kd.R_putn h (j : Int) x
  rw [Int.toNat_natCast] at s1
  exact s1
/-- Hashes, read. -/
def Hd (w : World) (v : Value) (xs : List Hsh) : Prop := ∃ A c, v = .slice A xs.length c ∧ kH.C w A xs.length xs
theorem Hd.below {w w1 : World} {v : Value} {xs : List Hsh} (h : Hd w v xs) (hb : Below w.heap.size w w1) : Hd w1 v xs := by
  obtain ⟨A, c, e, hc⟩ := h
  exact ⟨A, c, e, Kd.C_below hc hb⟩
section
variable {ops : Array Oper} {rest : List Oper} {o : Oper} {a : Act} {Q : Exit → Act → World → Prop} {W : World}
end
theorem heap_new2 (w : World) (o : Obj) {b : Nat} (hb : b = w.heap.size) : (w.alloc o).heap[b]? = some o := by subst hb; exact heap_new w o
end Go.Proofs.YtefnonlhepekdaaDoor.M

set_option linter.unusedVariables false
set_option linter.unusedSimpArgs false
namespace Go.Proofs.YtefnonlhepekdaaDoor.M
open Go.RowKit Go.Proofs.YtefnonlhepekdaaDoorW.PrintWords Go.Proofs.YtefnonlhepekdaaDoorW.PrintLast Go.Proofs.YtefnonlhepekdaaDoorW.PrintMore Go.Proofs.YtefnonlhepekdaaDoor.Leaf

/-- Go's table for the lowest set bit. -/
def dbTab : List Nat := [0, 1, 56, 2, 57, 49, 28, 3, 61, 58, 42, 50, 38, 29, 17, 4, 62, 47, 59, 36, 45, 43, 51, 22, 53, 39, 33, 30, 24, 18, 12, 5, 63, 55, 48, 27, 60, 41, 37, 16, 46, 35, 44, 21, 52, 32, 23, 11, 54, 26, 40, 15, 34, 20, 31, 10, 25, 14, 19, 9, 13, 8, 7, 6]
theorem db_hit : ∀ k : Fin 64, dbTab[(2 ^ k.val * 285870213051353865 % 18446744073709551616) / 288230376151711744]? = some k.val := by decide +kernel
/-- The table lies where the program lays it. -/
def DB (w : World) : Prop := ∀ (j : Nat) (k : Nat), dbTab[j]? = some k → w.cell? ⟨1, j, none⟩ = some (.int .u8 (k : Int))
theorem DB.below {w w' : World} (h : DB w) (hb : Below w.heap.size w w') : DB w' := fun j k hk => pw_cell_below hb (h j k hk)

set_option maxHeartbeats 1000000 in
set_option maxRecDepth 100000 in
theorem tz_calls (x : Nat) (hx : x < 18446744073709551616) (w : World) (hT : DB w) :
    Calls Tryd.prog 116 #[.int .u64 x] w fun e w' => e = .returned (.int .i64 (loN x : Nat)) ∧ w' = w := by
  by_cases h0 : x = 0
  · subst h0
    clear hT
    go_enter Tryd.func116, Tryd.ntmps116
    go_wp2_with fail
    go_ret
    exact ⟨rfl, rfl⟩
  · have hd : ((x : Int) == 0) = false := by rw [beq_eq_false_iff_ne]; omega
    obtain ⟨hk, _⟩ := lo_split h0 (by omega)
    have h1 : IntKind.u64.wrap (-(x : Int)) = ((18446744073709551616 - x : Nat) : Int) := by rw [IntKind.wrap_u64]; omega
    have h2 : Go.bits .and .u64 (x : Int) ((18446744073709551616 - x : Nat) : Int) = ((2 ^ loN x : Nat) : Int) := by
      rw [and64 x _ hx (by omega)]
      exact congrArg _ (and_neg h0 (by omega))
    have hp : 2 ^ loN x ≤ 9223372036854775808 := p2_le (by omega)
    have h3 : IntKind.u64.wrap (((2 ^ loN x : Nat) : Int) * 285870213051353865) = ((2 ^ loN x * 285870213051353865 % 18446744073709551616 : Nat) : Int) := by rw [IntKind.wrap_u64]; omega
    have hc := hT _ _ (db_hit ⟨loN x, hk⟩)
    have hj : (2 ^ loN x * 285870213051353865 % 18446744073709551616) / 288230376151711744 < 64 := by omega
    simp only at hc
    have h5 : wrap64 (loN x : Int) = loN x := i64_of _ (by omega) (by omega)
    clear hT hp
    generalize 2 ^ loN x * 285870213051353865 % 18446744073709551616 = q at *
    generalize 2 ^ loN x = p at *
    generalize loN x = k at *
    generalize 18446744073709551616 - x = y at *
    go_enter Tryd.func116, Tryd.ntmps116
    go_wp2_with fail
    go_ret
    exact ⟨rfl, rfl⟩
theorem low_calls (x : Nat) (hx : x < 18446744073709551616) (w : World) (hT : DB w) :
    Calls Tryd.prog 86 #[.int .u64 x] w fun e w' => e = .returned (.int .i64 (loN x : Nat)) ∧ w' = w := by
  have HT := Aside0.mk hT
  clear hT
  go_enter Tryd.func86, Tryd.ntmps86
  go_wp2_with fail
  refine (tz_calls x hx w HT.out).mono ?_
  rintro e w1 ⟨rfl, rfl⟩
  go_wp2_with fail
  go_ret
  exact ⟨rfl, rfl⟩
theorem high_calls (x : Nat) (h0 : x ≠ 0) (hx : x ≤ 4611686018427387904) (w : World) :
    Calls Tryd.prog 87 #[.int .u64 x] w fun e w' => e = .returned (.int .i64 ((Lib.bitLen x - 1 : Nat) : Int)) ∧ Drawn0 w w' := by
  have hl := len_facts h0 hx
  refine num_High.calls 1 x _ w ?_
  unfold num_High.f bits_Len64.f
  rw [if_pos (by omega)]
  simp only [Option.bind_some, Int.toNat_natCast]
  rw [i64_of _ (by omega) (by omega)]
  exact congrArg some (by omega)

/-- Spots as elements of a slice. -/
def spCells (s : Nat × Nat) : List Value := [.int .u8 (s.1 : Int), .int .u64 (s.2 : Int)]
def kS : Kd (Nat × Nat) := flat spCells 2 (fun _ => rfl) (fun s u hu => by
  simp only [spCells, List.mem_cons, List.not_mem_nil, or_false] at hu
  rcases hu with rfl | rfl <;> rfl)
theorem flat_kS : Flat kS := fun _ _ _ _ _ _ _ _ h => h
theorem infoS : (Tryd.prog.info? 74).map (fun i => (i.zero, i.size, i.bytes)) = some (some (.agg #[.int .u8 0, .int .u64 0]), 2, 16) := by kernel_rfl
end Go.Proofs.YtefnonlhepekdaaDoor.M

set_option linter.unusedVariables false
set_option linter.unusedSimpArgs false
namespace Go.Proofs.YtefnonlhepekdaaDoor.M
open Go.ChangeShapes Go.WideShapes Go.ChangeAt Go.RowKit

theorem ownKn : ownKnob Tryd.prog.godebug = none := by kernel_rfl
def laidDB : List (String × DataW Unit) := [("math/bits.deBruijn64tab", Rows.laid_math_bits_deBruijn64tab)]
theorem gDB : Tryd.prog.globalNamed "math/bits.deBruijn64tab" = some 1 := by kernel_rfl
theorem tDB : (Tryd.prog.globals[1]?).map (·.type) = some 154 := by kernel_rfl
theorem datDB : (Rows.laid_math_bits_deBruijn64tab : DataW Unit) = .agg (dbTab.map fun (k : Nat) => .lit (.int .u8 (k : Int))) := rfl
theorem db_of_laid {W : World} (h : laidMetH Tryd.prog laidDB W) : DB W := by
  rw [MakeChecks.laidMetH_plain _ _ _ (by kernel_rfl)] at h
  obtain ⟨ps, ⟨g0, t0, cs0, f0, p0, q0, hg0, ht0, hv0, hd0, _, _⟩, _, _⟩ := h
  obtain rfl := Option.some.inj (gDB.symm.trans hg0)
  obtain rfl := Option.some.inj (tDB.symm.trans ht0)
  obtain ⟨xs, m1, rfl, hx1, hlen, hn3, hel⟩ := DataW.trod_array Tryd.underlying154 hd0
  rw [datDB] at hx1
  simp only [Prod.mk.injEq, DataW.agg.injEq] at hx1
  have c5 : Tryd.prog.cellsOf 5 = 1 := by kernel_rfl
  rw [c5] at hel
  intro j k hj
  have hj64 : j < 64 := (List.getElem?_eq_some_iff.1 hj).1
  obtain ⟨x, hx⟩ : ∃ x, xs[j]? = some x := ⟨xs[j], List.getElem?_eq_getElem (by omega)⟩
  have hxk : x.1 = .lit (.int .u8 (k : Int)) := by
    have h1 := congrArg (fun l => l[j]?) hx1.1
    simp only [List.getElem?_map, hx, hj, Option.map_some] at h1
    exact (Option.some.inj h1).symm
  have h2 := hel j hj64
  rw [hx, Nat.mul_one] at h2
  obtain ⟨n, e1, e2, _⟩ := DataW.trod_int Tryd.underlying5 h2
  rw [e2] at hxk
  obtain rfl : n = (k : Int) := by simpa using hxk
  have hc := World.var?_cell hg0 hv0 j
  rw [hc]
  have h3 : (cs0.toList.drop j)[0]? = some (.int .u8 (k : Int)) := by
    have h4 : ((cs0.toList.drop j).take 1)[0]? = some (.int .u8 (k : Int)) := by rw [e1]; rfl
    rwa [List.getElem?_take_of_lt (by omega)] at h4
  rw [List.getElem?_drop, Nat.add_zero] at h3
  simpa using h3
theorem door_met (os : Os) (args : Array Value) : laidMetH Tryd.prog laidDB ((World.doorLaid Tryd.prog 24 os).forCall (fun _ _ => 0) ⟨#[], args, []⟩).memory :=
  laidMetH_of_parts3 (fuel := 8) (laidMet_of_run' 8 (by kernel_rfl) (by kernel_rfl)) (by kernel_rfl) (by kernel_rfl)
end Go.Proofs.YtefnonlhepekdaaDoor.M

set_option linter.unusedVariables false
set_option linter.unusedSimpArgs false
namespace Go.Proofs.YtefnonlhepekdaaDoor.M
open Go.ChangeShapes Go.WideShapes Go.ChangeAt Go.RowKit Go.Proofs.YtefnonlhepekdaaDoorW.PrintWords Go.Proofs.YtefnonlhepekdaaDoorW.PrintLast Go.Proofs.YtefnonlhepekdaaDoorW.PrintMore

theorem open_row {H : Type} {enc : TypeId × Value → H} {P : Program} {W : World} {t e : TypeId} {k : IntKind} {v : Value} {d : DataW H} {ps : List MemPlace} (ht : P.underlying t = some (.slice e)) (he : P.underlying e = some (.int k)) (hc : P.cellsOf e = 1)
    (hval : Value.okWide P W .any 0 t v) (hd : DataW.Trod enc P W 0 (fun _ => true) true t v d ps) :
    ∃ (A : Option Addr) (cap : Nat) (xs : List Int), v = .slice A xs.length cap ∧ xs.length ≤ cap ∧ cap ≤ 9223372036854775807 ∧ Kd.C (Kd.int k) W A xs.length xs ∧ (∀ x ∈ xs, (Lit.int k x).wf = true) ∧
      ∀ W', Below W.heap.size W W' → ∀ sp : Nat → Bool, (∀ p ∈ ps, sp p.block = true) → DataW.Trod enc P W' 0 sp true t v d ps := by
  obtain ⟨a0, len0, cap0, rfl⟩ := okWide_slice ht hval
  obtain ⟨fuel, hf⟩ := hd
  rcases open_ints ht he hc hf with ⟨hcs, hx⟩ | ⟨a, len, cap, zs, hcs, _, hle, hmax, hall, hx, hcell, hwf⟩
  · simp [Value.cells] at hcs
    obtain ⟨rfl, rfl, rfl⟩ := hcs
    simp only [Prod.mk.injEq] at hx
    obtain ⟨rfl, rfl⟩ := hx
    refine ⟨none, 0, [], rfl, Nat.le_refl _, by omega, ⟨rfl, by simp, fun h => absurd h (by simp)⟩, fun x hx => by simp at hx, fun W' _ sp _ => ⟨1, ?_⟩⟩
    simp [DataW.trod, ht, Value.cells]
  · simp [Value.cells] at hcs
    obtain ⟨rfl, rfl, rfl⟩ := hcs
    simp only [Prod.mk.injEq] at hx
    obtain ⟨rfl, rfl⟩ := hx
    simp only [if_true] at hall
    have hmax2 : cap0 ≤ 9223372036854775807 := hmax
    have hlen : (zs.take len0).length = len0 := by rw [List.length_take]; omega
    refine ⟨some a, cap0, zs.take len0, by rw [hlen], by omega, hmax2, ⟨rfl, by omega, fun _ => ⟨a, rfl, fun j x hj => ⟨[.int k x], rfl, rfl, fun i u hi => ?_⟩⟩⟩, fun x hx => hwf x (List.mem_of_mem_take hx), fun W' hb sp hsp => ?_⟩
    · cases i with
      | succ i => simp at hi
      | zero =>
        simp at hi
        subst hi
        rw [Nat.add_zero]
        rw [List.getElem?_take] at hj
        split at hj
        · next hjl =>
          have hjz : j < zs.length := by omega
          have := hcell j hjz
          rw [show (Kd.int k).sz = 1 from rfl, Nat.mul_one, this]
          rw [List.getD_eq_getElem?_getD, hj]
          rfl
        · simp at hj
    · refine ⟨2, shut_ints 0 ht he hc (Nat.zero_le _) hle hmax ?_ (fun i hi => ?_) hwf⟩
      · by_cases h0 : zs.length = 0
        · split <;> omega
        · rw [if_pos, hall]
          have := hsp (.cell a.block (a.off + 0)) (List.mem_map.2 ⟨0, List.mem_range.2 (by omega), rfl⟩)
          exact this
      · have h1 := hcell i hi
        have hlt : (a.add i).block < W.heap.size := by
          refine Decidable.by_contra (fun hn => ?_)
          have hnone : W.heap[(a.add i).block]? = none := Array.getElem?_eq_none (by omega)
          simp [World.cell?, hnone] at h1
        rw [World.cell?_of_block (hb.block _ hlt)]
        exact h1
end Go.Proofs.YtefnonlhepekdaaDoor.M

set_option linter.unusedVariables false
set_option linter.unusedSimpArgs false
namespace Go.Proofs.YtefnonlhepekdaaDoor.M
open Go.ChangeShapes Go.WideShapes Go.ChangeAt Go.RowKit Go.Proofs.YtefnonlhepekdaaDoorW.PrintWords Go.Proofs.YtefnonlhepekdaaDoorW.PrintLast Go.Proofs.YtefnonlhepekdaaDoorW.PrintMore

section
variable {H : Type} {enc : TypeId × Value → H} {W : World} {sp : Nat → Bool} {held : Bool} {fuel : Nat}
theorem add_add (a : Addr) (x y : Nat) : (a.add x).add y = a.add (x + y) := by
  by_cases hx : x = 0
  · subst hx
    simp [Addr.add]
  · by_cases hy : y = 0
    · subst hy
      simp [Addr.add]
    · simp [Addr.add, hx, hy]
      omega
def byteOfV : Value → Int
  | .int _ k => k
  | _ => 0
/-- 32 cells that read as a hash are one's. -/
theorem trod_hash {cs : List Value} {x : DataW H × List MemPlace} (h : DataW.trod enc Tryd.prog W 0 sp held fuel 63 cs = some x) : ∃ g : Hsh, cs = g.cells ∧ Bytes g.b := by
  obtain ⟨xs, m, rfl, _, hl, hn, hi⟩ := DataW.trod_array Tryd.underlying63 h
  have hc1 : Tryd.prog.cellsOf 5 = 1 := by kernel_rfl
  have hc32 : Tryd.prog.cellsOf 63 = 32 := by kernel_rfl
  rw [hc32] at hl
  have key : ∀ j (hj : j < cs.length), ∃ k : Int, cs[j] = .int .u8 k ∧ 0 ≤ k ∧ k < 256 := by
    intro j hj
    have h1 := hi j (by omega)
    rw [hc1, List.getElem?_eq_getElem (by omega)] at h1
    obtain ⟨k, e1, _, e3⟩ := DataW.trod_int Tryd.underlying5 h1
    rw [Nat.mul_one, List.drop_eq_getElem_cons hj, List.take_succ_cons, List.take_zero] at e1
    injection e1 with e1 _
    have hb := bounds_u8 e3
    exact ⟨k, e1, by omega, by omega⟩
  have hlen : (cs.map byteOfV).length = 32 := by rw [List.length_map, hl]
  refine ⟨⟨cs.map byteOfV, hlen⟩, ?_, ?_⟩
  · unfold Hsh.cells
    rw [List.map_map]
    refine List.ext_getElem (by simp) (fun j h1 h2 => ?_)
    obtain ⟨k, e, _⟩ := key j h1
    rw [List.getElem_map, Function.comp_apply, e]
    rfl
  · intro b hb
    obtain ⟨v, hv, rfl⟩ := List.mem_map.1 hb
    obtain ⟨j, hj, rfl⟩ := List.getElem_of_mem hv
    obtain ⟨k, e, k0, k1⟩ := key j hj
    rw [e]
    exact ⟨k0, k1⟩
/-- A slice of hashes. -/
theorem trod_hashes {cs : List Value} {x : DataW H × List MemPlace} (h : DataW.trod enc Tryd.prog W 0 sp held fuel 39 cs = some x) :
    ∃ (A : Option Addr) (cap : Nat) (ns : List Hsh), cs = [.slice A ns.length cap] ∧ ns.length ≤ cap ∧ cap ≤ 9223372036854775807 ∧ kH.C W A ns.length ns ∧ ∀ g ∈ ns, Bytes g.b := by
  rcases DataW.trod_slice Tryd.underlying39 h with ⟨rfl, _⟩ | ⟨a, len, cap, elems, rest, m, rfl, rfl, _, _, hle, hmax, hel, hi, _, _⟩
  · exact ⟨none, 0, [], rfl, Nat.le_refl _, by omega, ⟨rfl, by simp, fun h => absurd h (by simp)⟩, fun g hg => by simp at hg⟩
  · have hc32 : Tryd.prog.cellsOf 63 = 32 := by kernel_rfl
    rw [hc32] at hi
    have key : ∀ i, i < len → ∃ g : Hsh, Bytes g.b ∧ ∀ j u, g.cells[j]? = some u → W.cell? (a.add (i * 32 + j)) = some u := by
      intro i hl
      have h1 := hi i hl
      rw [List.getElem?_eq_getElem (by omega)] at h1
      cases hc : W.cells? 0 (a.add (i * 32)) 32 with
      | none => rw [hc] at h1; simp at h1
      | some cs =>
        rw [hc] at h1
        obtain ⟨g, e, hb⟩ := trod_hash h1
        subst e
        obtain ⟨_, hlen, hcell⟩ := World.cells?_some hc
        refine ⟨g, hb, fun j u hu => ?_⟩
        have hj : j < 32 := by have := (List.getElem?_eq_some_iff.1 hu).1; rw [Hsh.cells_len] at this; exact this
        have := hcell j hj
        rw [hu] at this
        rw [← this, add_add]
    have key2 : ∃ f : Nat → Hsh, ∀ i, i < len → Bytes (f i).b ∧ ∀ j u, (f i).cells[j]? = some u → W.cell? (a.add (i * 32 + j)) = some u :=
      ⟨fun i => if h : i < len then (key i h).choose else hash1 0, fun i hl => by have := (key i hl).choose_spec; simpa only [dif_pos hl] using this⟩
    obtain ⟨f, hf⟩ := key2
    have hlen : ((List.range len).map f).length = len := by simp
    have hmax : cap ≤ 9223372036854775807 := hmax
    refine ⟨some a, cap, (List.range len).map f, by rw [hlen], by omega, hmax, ⟨rfl, by omega, fun _ => ⟨a, rfl, fun j p hj => ⟨p.cells, p.cells_len, rfl, fun i u hi => ?_⟩⟩⟩, fun g hg => ?_⟩
    · rw [List.getElem?_map] at hj
      have hj2 : j < len := by
        refine Nat.lt_of_not_le (fun hn => ?_)
        rw [List.getElem?_eq_none (by simpa using hn)] at hj
        simp at hj
      rw [List.getElem?_eq_getElem (by simpa using hj2)] at hj
      simp at hj
      subst hj
      exact (hf j hj2).2 i u hi
    · obtain ⟨i, hi, rfl⟩ := List.mem_map.1 hg
      exact (hf i (List.mem_range.1 hi)).1
theorem nat_u64 {a : Int} (h : (Lit.int .u64 a).wf = true) : ∃ n : Nat, a = (n : Int) ∧ n < 18446744073709551616 := by
  have h0 := bounds_u64 h
  exact ⟨a.toNat, by omega, by omega⟩
set_option maxRecDepth 100000 in
theorem open_proof {base : Nat} {v : Value} {d : DataW H} {ps : List MemPlace} (hval : Value.okWide Tryd.prog W .any base 41 v) (hd : DataW.Trod enc Tryd.prog W 0 sp held 41 v d ps) :
    ∃ (n f : Nat) (A : Option Addr) (cap : Nat) (ns : List Hsh), v = .agg #[.int .u64 n, .int .u64 f, .slice A ns.length cap] ∧ n < 18446744073709551616 ∧ f < 18446744073709551616 ∧ ns.length ≤ cap ∧ kH.C W A ns.length ns ∧ ∀ g ∈ ns, Bytes g.b := by
  obtain ⟨cs, rfl, hs⟩ := okWide_struct Tryd.underlying41 hval
  obtain ⟨fuel, hf⟩ := hd
  have hc4 : Tryd.prog.cellsOf 41 = 3 := by kernel_rfl
  have hc1 : Tryd.prog.cellsOf 30 = 1 := by kernel_rfl
  have hcs : Tryd.prog.cellsOf 39 = 1 := by kernel_rfl
  rw [hc4] at hs
  obtain ⟨xs, m, rfl, _, _, hn, hi⟩ := DataW.trod_struct Tryd.underlying41 hf
  have hcl : (Value.agg cs).cells.toList = cs.toList := rfl
  rw [hcl] at hi
  obtain ⟨l⟩ := cs
  have hs : l.length = 3 := hs
  match l, hs with
  | [c0, c1, c2], _ =>
    have i0 : DataW.trod enc Tryd.prog W 0 sp held m 30 (([c0, c1, c2].drop 0).take (Tryd.prog.cellsOf 30)) = xs[0]? := hi 0 _ rfl
    have i1 : DataW.trod enc Tryd.prog W 0 sp held m 30 (([c0, c1, c2].drop 1).take (Tryd.prog.cellsOf 30)) = xs[1]? := hi 1 _ rfl
    have i3 : DataW.trod enc Tryd.prog W 0 sp held m 39 (([c0, c1, c2].drop 2).take (Tryd.prog.cellsOf 39)) = xs[2]? := hi 2 _ rfl
    have hn : xs.length = 3 := hn
    rw [List.getElem?_eq_getElem (by omega)] at i0 i1 i3
    rw [hc1] at i0 i1
    rw [hcs] at i3
    obtain ⟨z0, e0, _, w0⟩ := DataW.trod_int Tryd.underlying30 i0
    obtain ⟨z1, e1, _, w1⟩ := DataW.trod_int Tryd.underlying30 i1
    obtain ⟨A, cap, ns, e3, k1, _, k3, k4⟩ := trod_hashes i3
    obtain ⟨n, rfl, hn2⟩ := nat_u64 w0
    obtain ⟨f, rfl, hf2⟩ := nat_u64 w1
    have q0 : c0 = .int .u64 (n : Int) := (List.cons.inj (show [c0] = [.int .u64 (n : Int)] from e0)).1
    have q1 : c1 = .int .u64 (f : Int) := (List.cons.inj (show [c1] = [.int .u64 (f : Int)] from e1)).1
    have q3 : c2 = .slice A ns.length cap := (List.cons.inj (show [c2] = [.slice A ns.length cap] from e3)).1
    clear i0 i1 i3 e0 e1 e3 hi hval
    subst q0 q1 q3
    exact ⟨n, f, A, cap, ns, rfl, hn2, hf2, k1, k3, k4⟩
set_option maxRecDepth 100000 in
theorem open_prefix {base : Nat} {v : Value} {d : DataW H} {ps : List MemPlace} (hval : Value.okWide Tryd.prog W .any base 43 v) (hd : DataW.Trod enc Tryd.prog W 0 sp held 43 v d ps) :
    ∃ (n f : Nat) (A : Option Addr) (cap : Nat) (ns : List Hsh), v = .agg #[.int .u64 n, .int .u64 f, .slice A ns.length cap] ∧ n < 18446744073709551616 ∧ f < 18446744073709551616 ∧ ns.length ≤ cap ∧ kH.C W A ns.length ns ∧ ∀ g ∈ ns, Bytes g.b := by
  obtain ⟨cs, rfl, hs⟩ := okWide_struct Tryd.underlying43 hval
  obtain ⟨fuel, hf⟩ := hd
  have hc4 : Tryd.prog.cellsOf 43 = 3 := by kernel_rfl
  have hc1 : Tryd.prog.cellsOf 30 = 1 := by kernel_rfl
  have hcs : Tryd.prog.cellsOf 39 = 1 := by kernel_rfl
  rw [hc4] at hs
  obtain ⟨xs, m, rfl, _, _, hn, hi⟩ := DataW.trod_struct Tryd.underlying43 hf
  have hcl : (Value.agg cs).cells.toList = cs.toList := rfl
  rw [hcl] at hi
  obtain ⟨l⟩ := cs
  have hs : l.length = 3 := hs
  match l, hs with
  | [c0, c1, c2], _ =>
    have i0 : DataW.trod enc Tryd.prog W 0 sp held m 30 (([c0, c1, c2].drop 0).take (Tryd.prog.cellsOf 30)) = xs[0]? := hi 0 _ rfl
    have i1 : DataW.trod enc Tryd.prog W 0 sp held m 30 (([c0, c1, c2].drop 1).take (Tryd.prog.cellsOf 30)) = xs[1]? := hi 1 _ rfl
    have i3 : DataW.trod enc Tryd.prog W 0 sp held m 39 (([c0, c1, c2].drop 2).take (Tryd.prog.cellsOf 39)) = xs[2]? := hi 2 _ rfl
    have hn : xs.length = 3 := hn
    rw [List.getElem?_eq_getElem (by omega)] at i0 i1 i3
    rw [hc1] at i0 i1
    rw [hcs] at i3
    obtain ⟨z0, e0, _, w0⟩ := DataW.trod_int Tryd.underlying30 i0
    obtain ⟨z1, e1, _, w1⟩ := DataW.trod_int Tryd.underlying30 i1
    obtain ⟨A, cap, ns, e3, k1, _, k3, k4⟩ := trod_hashes i3
    obtain ⟨n, rfl, hn2⟩ := nat_u64 w0
    obtain ⟨f, rfl, hf2⟩ := nat_u64 w1
    have q0 : c0 = .int .u64 (n : Int) := (List.cons.inj (show [c0] = [.int .u64 (n : Int)] from e0)).1
    have q1 : c1 = .int .u64 (f : Int) := (List.cons.inj (show [c1] = [.int .u64 (f : Int)] from e1)).1
    have q3 : c2 = .slice A ns.length cap := (List.cons.inj (show [c2] = [.slice A ns.length cap] from e3)).1
    clear i0 i1 i3 e0 e1 e3 hi hval
    subst q0 q1 q3
    exact ⟨n, f, A, cap, ns, rfl, hn2, hf2, k1, k3, k4⟩
end
end Go.Proofs.YtefnonlhepekdaaDoor.M

set_option linter.unusedVariables false
set_option linter.unusedSimpArgs false
namespace Go.Proofs.YtefnonlhepekdaaDoor.M
open Go.RowKit Go.Proofs.YtefnonlhepekdaaDoorW.PrintWords Go.Proofs.YtefnonlhepekdaaDoorW.PrintLast Go.Proofs.YtefnonlhepekdaaDoorW.PrintMore Go.Proofs.YtefnonlhepekdaaDoor.Leaf

/-- A block's cells as a list. -/
def Blk (w : World) (g : Nat) (t : TypeId) (l : List Value) : Prop := w.heap[g]? = some (.cells l.toArray t (0, 0))
theorem Blk.below {w w1 : World} {g : Nat} {t : TypeId} {l : List Value} (h : Blk w g t l) (hb : Below w.heap.size w w1) : Blk w1 g t l := (hb.block _ (blk_lt h)).trans h
theorem Blk.frm {S : Nat → Prop} {w w1 : World} {g : Nat} {t : TypeId} {l : List Value} (h : Blk w g t l) (hf : Frm S w w1) (hn : ¬ S g) : Blk w1 g t l := (hf.block _ (blk_lt h) hn).trans h
theorem Blk.cell {w : World} {g : Nat} {t : TypeId} {l : List Value} (h : Blk w g t l) (i : Nat) : w.cell? ⟨g, i, none⟩ = l[i]? := by
  have := blk_cell h i
  simpa using this
theorem Blk.at {w : World} {g : Nat} {t : TypeId} {l : List Value} (h : Blk w g t l) {i : Nat} {v : Value} (hv : l[i]? = some v) : w.cell? ⟨g, i, none⟩ = some v := (h.cell i).trans hv
theorem Blk.frozen {w : World} {g : Nat} {t : TypeId} {l : List Value} (h : Blk w g t l) (i : Nat) : w.frozen? ⟨g, i, none⟩ = false := blk_frozen h i
theorem Blk.set {w : World} {g : Nat} {t : TypeId} {l : List Value} (h : Blk w g t l) (i : Nat) (v : Value) : Blk (w.setCell ⟨g, i, none⟩ v) g t (l.set i v) := by
  have := blk_set h i v
  unfold Blk
  rw [this, List.setIfInBounds_toArray]
theorem Blk.lt {w : World} {g : Nat} {t : TypeId} {l : List Value} (h : Blk w g t l) : g < w.heap.size := blk_lt h
theorem Blk.range {w : World} {g : Nat} {t : TypeId} {l : List Value} (h : Blk w g t l) (o : Nat) (cs : List Value) (hc : (l.drop o).take cs.length = cs) : w.rangeAt g o cs := by
  intro j v hv
  rw [h.cell]
  have hj := (List.getElem?_eq_some_iff.1 hv).1
  rw [← hc, List.getElem?_take_of_lt hj, List.getElem?_drop] at hv
  exact hv
theorem Blk.setCells {w : World} {g : Nat} {t : TypeId} {l : List Value} (h : Blk w g t l) (o : Nat) (vs : List Value) (ho : o + vs.length ≤ l.length) : Blk (w.setCells g o vs) g t (l.take o ++ vs ++ l.drop (o + vs.length)) := by
  obtain ⟨c, hc, hs, hl⟩ := setCells_row (g := g) vs o w l.toArray h (by simpa using ho)
  have e : c = (l.take o ++ vs ++ l.drop (o + vs.length)).toArray := by
    apply Array.toList_inj.1
    rw [hl]
  unfold Blk
  rw [hc, e]
section
variable {ops : Array Oper} {rest : List Oper} {o : Oper} {a : Act} {Q : Exit → Act → World → Prop} {W : World}
end
end Go.Proofs.YtefnonlhepekdaaDoor.M

set_option linter.unusedVariables false
set_option linter.unusedSimpArgs false
namespace Go.Proofs.YtefnonlhepekdaaDoor.M
open Go.RowKit Go.Proofs.YtefnonlhepekdaaDoorW.PrintWords Go.Proofs.YtefnonlhepekdaaDoorW.PrintLast Go.Proofs.YtefnonlhepekdaaDoorW.PrintMore Go.Proofs.YtefnonlhepekdaaDoor.Leaf

/-! The node (h, i): the nodes ahead of it; those below it. -/
/-! Peak, Path. -/
/-! massifref7.Places. -/
/-- What proof.Places answers. -/
def proofAns (i n : Nat) : List Int × Int := if 4611686018427387904 < n then ([], 30) else if n ≤ i then ([], 32) else (placesOf (proofN i n), 0)
theorem proof_length {i n : Nat} (h : i < n) (hn : n ≤ 4611686018427387904) : (proofN i n).length ≤ 124 := by
  have h1 := (proof_len h hn).2.2
  have h2 := hi_le h hn
  have h3 : (topsN n).length ≤ 63 := topsF_len 63 n
  omega
theorem proofAns_len (i n : Nat) : (proofAns i n).1.length ≤ 124 := by
  unfold proofAns
  split
  · simp
  · split
    · simp
    · have := proof_length (i := i) (n := n) (by omega) (by omega)
      simpa [placesOf] using this
end Go.Proofs.YtefnonlhepekdaaDoor.M

set_option linter.unusedVariables false
set_option linter.unusedSimpArgs false
namespace Go.Proofs.YtefnonlhepekdaaDoor.M
open Go.RowKit Go.Proofs.YtefnonlhepekdaaDoorW.PrintWords Go.Proofs.YtefnonlhepekdaaDoorW.PrintLast Go.Proofs.YtefnonlhepekdaaDoorW.PrintMore Go.Proofs.YtefnonlhepekdaaDoor.Leaf

theorem reps_int (k : IntKind) {w : World} {base : Nat} {ok : Nat → Prop} {xs : List Int} {cs : List Value} (h : Reps ((Kd.int k).M w base ok) (Kd.int k).sz xs cs) : cs = xs.map (Value.int k) := by
  have hl : cs.length = xs.length := by have := h.1; rwa [show (Kd.int k).sz = 1 from rfl, Nat.mul_one] at this
  refine List.ext_getElem? (fun j => ?_)
  rw [List.getElem?_map]
  by_cases hj : j < xs.length
  · have h2 := h.2 j xs[j] (List.getElem?_eq_getElem hj)
    have h3 : (cs.drop (j * 1)).take 1 = [Value.int k xs[j]] := h2
    rw [Nat.mul_one] at h3
    have h4 : ((cs.drop j).take 1)[0]? = some (Value.int k xs[j]) := by rw [h3]; rfl
    rw [List.getElem?_take_of_lt (by omega), List.getElem?_drop, Nat.add_zero] at h4
    rw [h4, List.getElem?_eq_getElem hj]
    rfl
  · rw [List.getElem?_eq_none (by omega), List.getElem?_eq_none (by omega)]
    rfl
theorem int_reps (k : IntKind) (w : World) (base : Nat) (ok : Nat → Prop) (xs : List Int) : Reps ((Kd.int k).M w base ok) (Kd.int k).sz xs (xs.map (Value.int k)) := by
  refine ⟨by rw [List.length_map]; exact (Nat.mul_one _).symm, fun j p hj => ?_⟩
  show ((xs.map (Value.int k)).drop (j * 1)).take 1 = [Value.int k p]
  rw [Nat.mul_one]
  have hl := (List.getElem?_eq_some_iff.1 hj).1
  rw [List.drop_eq_getElem_cons (by rw [List.length_map]; exact hl)]
  simp [(List.getElem?_eq_some_iff.1 hj).2]
/-- A row of numbers of one's own, laid open. -/
structure BlkD (k : IntKind) (e : Nat) (w : World) (base : Nat) (v : Value) (xs : List Int) (g cap : Nat) (cur : Array Value) : Prop where
  val : v = .slice (some ⟨g, 0, none⟩) xs.length cap
  base_le : base ≤ g
  heap : w.heap[g]? = some (.cells cur e (0, 0))
  len : xs.length ≤ cap
  max : cap ≤ maxLen
  size : cur.size = cap
  row : cur.toList.take xs.length = xs.map (Value.int k)
theorem R_open {k : IntKind} {e : Nat} {w : World} {base : Nat} {v : Value} {xs : List Int} (h : (Kd.int k).R e w base (fun _ => True) v xs) (h0 : 0 < xs.length) : ∃ g cap cur, BlkD k e w base v xs g cap cur := by
  obtain ⟨_, inner, ho, hr⟩ := h
  have hi := reps_int k hr
  subst hi
  rcases ho.2 with ⟨_, hz⟩ | ⟨g, cap, cur, he, hb, hh, hnc, hcm, hcs, ht⟩
  · omega
  · have e1 : (Kd.int k).sz = 1 := rfl
    rw [e1, Nat.mul_one] at hcs ht
    exact ⟨g, cap, cur, he, hb, hh, hnc, hcm, hcs, ht⟩
theorem BlkD.R {k : IntKind} {e : Nat} {w : World} {base : Nat} {v : Value} {xs : List Int} {g cap : Nat} {cur : Array Value} (h : BlkD k e w base v xs g cap cur) : (Kd.int k).R e w base (fun _ => True) v xs := by
  refine ⟨fun _ _ => trivial, xs.map (Value.int k), ⟨?_, .inr ⟨g, cap, cur, h.val, h.base_le, h.heap, h.len, h.max, ?_, ?_⟩⟩, int_reps k _ _ _ xs⟩
  · rw [List.length_map]; exact (Nat.mul_one _).symm
  · rw [h.size]; exact (Nat.mul_one _).symm
  · rw [show (Kd.int k).sz = 1 from rfl, Nat.mul_one]; exact h.row
theorem cell_of {w : World} {g : Nat} {cur : Array Value} {e : TypeId} (h : w.heap[g]? = some (.cells cur e (0, 0))) (o : Nat) : w.cell? ⟨g, o, none⟩ = cur[o]? := by
  show (match w.heap[g]? with | some (.cells c _ _) => if (none : Option Nat).isSome then none else c[o]? | _ => none) = _
  rw [h]
  rfl
theorem frozen_of {w : World} {g : Nat} {cur : Array Value} {e : TypeId} (h : w.heap[g]? = some (.cells cur e (0, 0))) (o : Nat) (hf : o < cur.size) : w.frozen? ⟨g, o, none⟩ = false := by
  unfold World.frozen?
  simp [h]
set_option maxHeartbeats 2000000 in
set_option maxRecDepth 100000 in
theorem delete_one (i j : Nat) (hj : j = i + 1) (w : World) (base : Nat) (v : Value) (xs : List Int) (h : (Kd.int .u64).R 30 w base (fun _ => True) v xs) (hi : i < xs.length) :
    Calls Tryd.prog 65 #[v, .int .i64 i, .int .i64 j] w fun e w' => ∃ v', e = .returned v' ∧ (Kd.int .u64).R 30 w' base (fun _ => True) v' (xs.eraseIdx i) ∧ Frm (fun k => some k = v.ownBlock) w w' ∧ v'.ownBlock = v.ownBlock := by
  obtain ⟨g, cap, cur, B⟩ := R_open h (by omega)
  obtain ⟨rfl, hbase, hh, hlen, hmax, hsize, hrow⟩ := B
  have hmax' : cap ≤ 9223372036854775807 := hmax
  have hglt : g < w.heap.size := (Array.getElem?_eq_some_iff.1 hh).1
  generalize hn : xs.length = n at *
  have hjn : j ≤ n := by omega
  have hij : i < j := by omega
  -- the numbers that are moved to the left
  obtain ⟨news, hnews⟩ : ∃ news, news = (xs.drop j).map (Value.int .u64) := ⟨_, rfl⟩
  have hnl : news.length = n - j := by rw [hnews]; simp [hn]
  have hget : ∀ j, j < n → cur[j]? = (xs.map (Value.int .u64))[j]? := by
    intro j hj
    rw [← hrow, List.getElem?_take_of_lt hj, Array.getElem?_toList]
  obtain ⟨A, hA, hsrc⟩ : ∃ A : Addr, (if cap = j then some (⟨g, 0, none⟩ : Addr) else some ⟨g, j, none⟩) = some A ∧ Hid (∀ t u, news[t]? = some u → w.drew.cell? (A.add t) = some u) := by
    by_cases hc : cap = j
    · refine ⟨⟨g, 0, none⟩, by simp [hc], fun t u hu => ?_⟩
      have h0 : news.length = 0 := by omega
      rw [List.length_eq_zero_iff.1 h0] at hu
      simp at hu
    · refine ⟨⟨g, j, none⟩, by simp [hc], fun t u hu => ?_⟩
      have ht : t < n - j := by
        have := (List.getElem?_eq_some_iff.1 hu).1
        omega
      rw [hnews, List.map_drop, List.getElem?_drop] at hu
      rw [Addr.add_lit]
      show w.cell? ⟨g, j + t, none⟩ = some u
      rw [cell_of hh, hget _ (by omega)]
      exact hu
  obtain ⟨W1, hW1⟩ : ∃ W1, W1 = w.drew.setCells g (0 + i * 1) news := ⟨_, rfl⟩
  have hhd : w.drew.heap[g]? = some (.cells cur 30 (0, 0)) := hh
  obtain ⟨c1, hc1, hs1, ht1⟩ := setCells_row (g := g) news (0 + i * 1) w.drew cur hhd (by omega)
  rw [← hW1] at hc1
  have s1 : Hid (news.length = (n - j) * 1) := by show news.length = _; omega
  have s2 : Hid (∀ u ∈ news, u.oneCell' = true) := by
    intro u hu
    rw [hnews] at hu
    obtain ⟨x, _, rfl⟩ := List.mem_map.1 hu
    rfl
  have s3 : Hid (∀ t, t < news.length → (w.drew.cell? ⟨g, 0 + i * 1 + t, none⟩).isSome = true ∧ w.drew.frozen? ⟨g, 0 + i * 1 + t, none⟩ = false) := by
    intro t ht
    refine ⟨?_, frozen_of hhd _ (by omega)⟩
    rw [cell_of hhd, Array.getElem?_eq_getElem (by omega)]
    rfl
  have hcl : ∀ ty, (Builtin.clear_ #[31] ty #[.slice (some ⟨g, i + (n - j), none⟩) (n - (i + (n - j))) (cap - (i + (n - j)))]).run Tryd.prog W1 = .ok (.tuple #[]) (W1.setCells g (i + (n - j)) (List.replicate (n - (i + (n - j))) (.int .u64 0))) :=
    fun ty => Lib.run_clear_slice W1 _ _ ty _ Tryd.underlying31 (fun w => (by kernel_rfl)) rfl rfl g (i + (n - j)) _ _ (by omega) (fun t ht => by rw [cell_of hc1, Array.getElem?_eq_getElem (by omega)]; rfl) (fun t ht => frozen_of hc1 _ (by omega))
  have S1 := Aside0.mk hc1
  have S2 := Aside0.mk ht1
  have S3 := Aside0.mk hs1
  have hW : Hid (W1 = w.drew.setCells g (0 + i * 1) news) := hW1
  have S4 := Aside0.mk hrow
  have S5 := Aside0.mk hnews
  have hic : i ≤ cap := by omega
  have mixed : Tryd.prog.follows .mixedOrders = true := by kernel_rfl
  have HJ := Aside0.mk hj
  have hjc : j ≤ cap := by omega
  clear hj
  clear hW1 hc1 ht1 hs1 hrow hnews hget hh hhd h
  go_enter Tryd.func65, Tryd.ntmps65
  go_wp2_with fail
  go_region_law_o (refine step_append_room rfl (.tmp 22) (.tmp 25) 31 rfl 30 _ 1 Tryd.underlying31 rfl rfl g 0 i cap (by simp [Act.eval, Act.put]) A (n - j) (cap - j) news (by simp [Act.eval, Act.put]) s1.out hsrc.out s2.out (by omega) s3.out ?_; rw [← hW.out])
  go_wp2
  go_ret
  have hj := HJ.out
  rw [show n - (i + (n - j)) = 1 by omega]
  have hh2 := S1.out
  obtain ⟨c2, h2, hs2, ht2⟩ := setCells_row (g := g) (List.replicate 1 (Value.int .u64 0)) (i + (n - j)) W1 c1 hh2 (by rw [S3.out, hsize, List.length_replicate]; omega)
  have hxe : (xs.eraseIdx i).length = i + (n - j) := by rw [List.length_eraseIdx_of_lt (by omega)]; omega
  refine ⟨.slice (some ⟨g, 0, none⟩) (i + (n - j)) cap, rfl, BlkD.R (g := g) (cap := cap) (cur := c2) ⟨by rw [hxe], hbase, h2, by omega, hmax, by rw [hs2, S3.out, hsize], ?_⟩, ?_, rfl⟩
  · have hc : cur.toList.length = cap := by rw [Array.length_toList]; exact hsize
    have hc1 : c1.toList.length = cap := by rw [Array.length_toList, S3.out]; exact hsize
    have e1 : (cur.toList.take (0 + i * 1)) = (xs.take i).map (Value.int .u64) := by
      rw [show 0 + i * 1 = i by omega, List.map_take, ← S4.out, List.take_take, show min i n = i by omega]
    have e2 : ((xs.take i).map (Value.int .u64) ++ news).length = i + (n - j) := by rw [List.length_append, List.length_map, List.length_take, hnl, hn]; omega
    rw [hxe, ht2, List.append_assoc, List.take_left' (by rw [List.length_take, hc1]; omega), S2.out, e1, List.take_left' e2, S5.out, List.eraseIdx_eq_take_drop_succ, List.map_append, hj]
  · refine ⟨?_, ?_, ?_, ?_, fun k hk hne => ?_⟩
    · exact (setCells_same g _ _ _).1.trans (by rw [hW.out]; exact (setCells_same g _ _ _).1)
    · exact (setCells_same g _ _ _).2.1.trans (by rw [hW.out]; exact (setCells_same g _ _ _).2.1)
    · exact (setCells_same g _ _ _).2.2.1.trans (by rw [hW.out]; exact (setCells_same g _ _ _).2.2.1)
    · exact Nat.le_of_eq ((setCells_same g _ _ _).2.2.2.trans (by rw [hW.out]; exact (setCells_same g _ _ _).2.2.2)).symm
    · have hkg : k ≠ g := fun e => hne (by rw [e]; rfl)
      rw [setCells_far _ _ k hkg, hW.out, setCells_far _ _ k hkg]
      rfl
end Go.Proofs.YtefnonlhepekdaaDoor.M

set_option linter.unusedVariables false
set_option linter.unusedSimpArgs false
namespace Go.Proofs.YtefnonlhepekdaaDoor.M
open Go.RowKit Go.Proofs.YtefnonlhepekdaaDoorW.PrintWords Go.Proofs.YtefnonlhepekdaaDoorW.PrintLast Go.Proofs.YtefnonlhepekdaaDoorW.PrintMore Go.Proofs.YtefnonlhepekdaaDoor.Leaf

theorem placesOf_eraseIdx (l : List (Nat × Nat)) (k : Nat) : (placesOf l).eraseIdx k = placesOf (l.eraseIdx k) := by
  unfold placesOf
  rw [List.eraseIdx_eq_take_drop_succ, List.eraseIdx_eq_take_drop_succ, List.map_append, List.map_take, List.map_drop]
set_option maxHeartbeats 1000000 in
set_option maxRecDepth 100000 in
theorem proof_places_none (i n : Nat) (w : World) (h : 4611686018427387904 < n ∨ n ≤ i) :
    Calls Tryd.prog 18 #[.int .u64 i, .int .u64 n] w fun e w' => e = .returned (.tuple #[.slice none 0 0, .int .i64 (if 4611686018427387904 < n then 30 else 32)]) ∧ Below w.heap.size w w' := by
  by_cases hn : 4611686018427387904 < n
  · have e0 : (if 4611686018427387904 < n then (30 : Int) else 32) = 30 := if_pos hn
    rw [e0]
    have hd : ((n : Int) > 4611686018427387904) := by omega
    go_enter Tryd.func18, Tryd.ntmps18
    go_wp2
    go_ret2
    exact ⟨rfl, Below.refl _ _⟩
  · have e0 : (if 4611686018427387904 < n then (30 : Int) else 32) = 32 := if_neg hn
    rw [e0]
    have hd : ¬ ((n : Int) > 4611686018427387904) := by omega
    obtain ⟨k, hk⟩ := (path_none i n (by omega)).rounds
    have HK := Aside0.mk hk
    clear hk
    go_enter Tryd.func18, Tryd.ntmps18
    go_wp2_with fail
    refine (pos_Path.calls k i n _ _ _ HK.out).mono ?_
    rintro e w1 ⟨v1, rfl, hr, hb⟩
    obtain ⟨A1, c1, e1⟩ := Kd.R_slice hr
    rw [e1]
    have HB := Aside0.mk hb
    clear hr hb e1
    go_wp2
    go_ret2
    exact ⟨rfl, HB.out⟩
set_option maxHeartbeats 1000000 in
set_option maxRecDepth 100000 in
theorem proof_places_some (i n : Nat) (w : World) (h : i < n) (hn : n ≤ 4611686018427387904) :
    Calls Tryd.prog 18 #[.int .u64 i, .int .u64 n] w fun e w' => ∃ v, e = .returned (.tuple #[v, .int .i64 0]) ∧ Kd.R (Kd.int .u64) 30 w' w.heap.size (fun _ => True) v (placesOf (proofN i n)) ∧ Below w.heap.size w w' := by
  have hd : ¬ ((n : Int) > 4611686018427387904) := by omega
  have hlen := proof_length h hn
  have hpl := proof_len h hn
  have hN : placesOf (proofN i n) = placesOf (sibsN i (hiN i n)) ++ (placesOf (topsN n)).eraseIdx (overN i n) := by
    rw [placesOf_eraseIdx]
    unfold proofN placesOf
    rw [List.map_append]
  have hO : overN i n ≤ 64 := pop_lef 64 _
  have hol : overN i n < (placesOf (topsN n)).length := by simpa [placesOf] using hpl.1
  have hl2 : (placesOf (sibsN i (hiN i n))).length ≤ 62 := by have := hi_le h hn; simp [placesOf, sibsN]; exact this
  have hl3 : (placesOf (topsN n)).length ≤ 63 := by simp only [placesOf, List.length_map]; exact topsF_len 63 n
  obtain ⟨k1, hk1⟩ := (path_val i n h hn).rounds
  obtain ⟨k2, hk2⟩ := (peak_val i n h hn).rounds
  obtain ⟨k3, hk3⟩ := (peaks_val n hn).rounds
  rw [hN]
  clear hN hlen hpl
  generalize placesOf (sibsN i (hiN i n)) = X at *
  generalize placesOf (topsN n) = Y at *
  generalize overN i n = o at *
  have HK1 := Aside0.mk hk1
  have HK2 := Aside0.mk hk2
  have HK3 := Aside0.mk hk3
  clear hk1 hk2 hk3
  go_enter Tryd.func18, Tryd.ntmps18
  go_wp2_with fail
  refine (pos_Path.calls k1 i n _ _ _ HK1.out).mono ?_
  rintro e w1 ⟨v1, rfl, hr, hb⟩
  obtain ⟨A1, c1, e1⟩ := Kd.R_slice hr
  subst e1
  have HR := Aside0.mk hr
  have HB := Aside0.mk hb
  clear hr hb
  go_wp2_with fail
  refine (pos_Peak.calls k2 i n _ _ _ HK2.out).mono ?_
  rintro e w2 ⟨rfl, hd2⟩
  have HD2 := Aside0.mk hd2
  clear hd2
  go_wp2_with fail
  refine (pos_Peaks.calls k3 n _ _ HK3.out).mono ?_
  rintro e w3 ⟨v3, rfl, hr3, hb3⟩
  obtain ⟨A3, c3, e3⟩ := Kd.R_slice hr3
  subst e3
  have HR3 := Aside0.mk hr3
  have HB3 := Aside0.mk hb3
  clear hr3 hb3
  go_wp2_with fail
  refine (delete_one o (o + 1) rfl w3 w2.heap.size _ Y HR3.out (by omega)).mono ?_
  rintro e w4 ⟨v4, rfl, hr4, hf4, ho4⟩
  have hs12 := HD2.out.below.size
  have hs23 := HB3.out.size
  have hlt1 := Kd.R_lt HR.out
  have hb3 := Kd.R_base HR3.out
  have hr1 := R_frm (flat_int .u64) (Kd.R_below (Kd.R_below HR.out HD2.out.below) HB3.out) hf4 (fun k hk hs => by have := hlt1 k hk; have := hb3 k hs.symm; omega)
  have hbl : Below w.heap.size w w4 := below_on (blt (blt HB.out HD2.out.below) HB3.out) (by have := HB.out.size; omega) (Below.refl _ _) |>.trans (hf4.below (by have := HB.out.size; omega) (fun k hk => by have := hb3 k hk.symm; have := HB.out.size; omega))
  have hs4 := hf4.size
  have hw4 : w.heap.size ≤ w4.heap.size := by have := HB.out.size; omega
  have hle : (Y.eraseIdx o).length ≤ 63 := Nat.le_trans (List.length_eraseIdx_le ..) hl3
  obtain ⟨A4, c4, e4⟩ := Kd.R_slice hr4
  subst e4
  have HR1 := Aside0.mk hr1
  have HC4 := Aside0.mk (Kd.R_reads' hr4).2.2
  have HBL := Aside0.mk hbl
  have HW4 := Aside0.mk hw4
  have HLE := Aside0.mk hle
  have HL2 := Aside0.mk hl2
  have H4 := Aside0.mk hlt1
  have H5 := Aside0.mk (Kd.R_base HR.out)
  clear hr4 hr1 hbl hf4 ho4 hle hl2 hlt1 hb3 hs12 hs23 hs4 hw4 hol hl3
  go_wp2_with (at_builtin; go_loud (refine app_row .u64 w.heap.size rfl (.tmp 26) (.tmp 32) 31 30 (.int .u64 0) 8 rfl Tryd.underlying31 info30 rfl (by omega) _ _ _ _ _ _ rfl rfl HR1.out HC4.out HW4.out (by have := HLE.out; have := HL2.out; omega) ?_; intro A5 c5 w5 hr5 hf5 hat5; have HR5 := Aside0.mk hr5; have HF5 := Aside0.mk hf5; clear hr5 hf5 hat5))
  go_ret2
  exact ⟨_, rfl, HR5.out, HBL.out.trans (HF5.out.below HW4.out (fun k hk => H5.out k hk.symm))⟩
theorem proof_places (i n : Nat) (w : World) :
    Calls Tryd.prog 18 #[.int .u64 i, .int .u64 n] w fun e w' => ∃ v, e = .returned (.tuple #[v, .int .i64 (proofAns i n).2]) ∧ Kd.R (Kd.int .u64) 30 w' w.heap.size (fun _ => True) v (proofAns i n).1 ∧ Below w.heap.size w w' := by
  by_cases h : 4611686018427387904 < n ∨ n ≤ i
  · refine (proof_places_none i n w h).mono ?_
    rintro e w' ⟨he, hb⟩
    have e1 : proofAns i n = ([], if 4611686018427387904 < n then 30 else 32) := by
      unfold proofAns
      by_cases c1 : 4611686018427387904 < n
      · rw [if_pos c1, if_pos c1]
      · rw [if_neg c1, if_neg c1, if_pos (by omega)]
    rw [e1]
    exact ⟨_, he, Kd.R_nil _ _ _ _ _, hb⟩
  · have e1 : proofAns i n = (placesOf (proofN i n), 0) := by
      unfold proofAns
      rw [if_neg (by omega), if_neg (by omega)]
    rw [e1]
    exact proof_places_some i n w (by omega) (by omega)
end Go.Proofs.YtefnonlhepekdaaDoor.M

set_option linter.unusedVariables false
set_option linter.unusedSimpArgs false
namespace Go.Proofs.YtefnonlhepekdaaDoor.M
open Go.RowKit Go.Proofs.YtefnonlhepekdaaDoorW.PrintWords Go.Proofs.YtefnonlhepekdaaDoorW.PrintLast Go.Proofs.YtefnonlhepekdaaDoorW.PrintMore Go.Proofs.YtefnonlhepekdaaDoor.Leaf

/-- A number in as few bytes as it needs, by at most f + 1 of them. -/
def shortF : Nat → Nat → List Nat
  | 0, x => [x]
  | f + 1, x => if x < 128 then [x] else (128 + x % 128) :: shortF f (x / 128)
def shortI (x : Nat) : List Int := (shortF 9 x).map fun (b : Nat) => (b : Int)
theorem shortF_len : ∀ f x, (shortF f x).length ≤ f + 1
  | 0, x => by simp [shortF]
  | f + 1, x => by
    have := shortF_len f (x / 128)
    simp only [shortF]
    split <;> simp <;> omega
theorem or128 (x : Nat) : Go.bits .or .u8 ((x : Int) % 256) 128 = ((128 + x % 128 : Nat) : Int) := by
  have h := u8_or_nat (x % 256) 128 (by omega) (by omega)
  have h2 : x % 256 ||| 128 = 128 + x % 128 := by
    have : ∀ y : Fin 256, y.val ||| 128 = 128 + y.val % 128 := by decide +kernel
    have h3 := this ⟨x % 256, by omega⟩
    simp only at h3
    omega
  rw [h2] at h
  exact h
theorem short_loop (f : Nat) : ∀ (x : Nat) (xs : List Int), x < 2 ^ (7 * f + 1) → f ≤ 9 → xs.length + f ≤ 9 → Ev (fun k => num_Short.l0 k (x : Int) xs) (xs ++ (shortF f x).map fun (b : Nat) => (b : Int)) := by
  induction f with
  | zero =>
    intro x xs hx hf hl
    simp at hx
    exact Ev.step (f := fun _ => some (xs ++ [(x : Int)])) (fun k => by simp only [num_Short.l0]; rw [if_neg (by omega), if_pos (by omega), show (x : Int) % 256 = x by omega]) (Ev.now _)
  | succ f ih =>
    intro x xs hx hf hl
    by_cases c : x < 128
    · rw [show shortF (f + 1) x = [x] by simp only [shortF]; rw [if_pos c]]
      exact Ev.step (f := fun _ => some (xs ++ [(x : Int)])) (fun k => by simp only [num_Short.l0]; rw [if_neg (by omega), if_pos (by omega), show (x : Int) % 256 = x by omega]) (Ev.now _)
    · rw [show shortF (f + 1) x = (128 + x % 128) :: shortF f (x / 128) by simp only [shortF]; rw [if_neg c]]
      have ih := ih (x / 128) (xs ++ [((128 + x % 128 : Nat) : Int)]) (by rw [show 7 * (f + 1) + 1 = (7 * f + 1) + 7 by omega, Nat.pow_add] at hx; omega) (by omega) (by simp; omega)
      rw [List.map_cons, show xs ++ ((128 + x % 128 : Nat) : Int) :: (shortF f (x / 128)).map (fun (b : Nat) => (b : Int)) = xs ++ [((128 + x % 128 : Nat) : Int)] ++ (shortF f (x / 128)).map (fun (b : Nat) => (b : Int)) by simp]
      refine Ev.step (fun k => by simp only [num_Short.l0]; rw [if_pos (by omega), if_pos (by omega), or128, show (x : Int) / 128 = ((x / 128 : Nat) : Int) by omega]) ih
theorem short_val (x : Nat) (hx : x < 18446744073709551616) : Ev (fun k => num_Short.f k (x : Int)) (shortI x) := by
  have h := short_loop 9 x [] (by omega) (by omega) (by simp)
  exact h
theorem shortI_len (x : Nat) : (shortI x).length ≤ 10 := by
  have := shortF_len 9 x
  simpa [shortI] using this
end Go.Proofs.YtefnonlhepekdaaDoor.M

set_option linter.unusedVariables false
set_option linter.unusedSimpArgs false
namespace Go.Proofs.YtefnonlhepekdaaDoor.M
open Go.RowKit Go.Proofs.YtefnonlhepekdaaDoorW.PrintWords Go.Proofs.YtefnonlhepekdaaDoorW.PrintLast Go.Proofs.YtefnonlhepekdaaDoorW.PrintMore Go.Proofs.YtefnonlhepekdaaDoor.Leaf

set_option maxHeartbeats 1000000 in
set_option maxRecDepth 100000 in
theorem grow_nil (n : Nat) (w : World) (hn : n ≤ 140737488355328) :
    Calls Tryd.prog 127 #[.slice none 0 0, .int .i64 n] w fun e w' => ∃ v, e = .returned v ∧ Kd.R (Kd.int .u8) 5 w' w.heap.size (fun _ => True) v [] ∧ Below w.heap.size w w' := by
  by_cases h0 : n = 0
  · subst h0
    go_enter Tryd.func127, Tryd.ntmps127
    go_wp2
    go_ret
    exact ⟨_, rfl, Kd.R_nil _ _ _ _ _, Below.refl _ _⟩
  · have hp : 0 < n := by omega
    go_enter Tryd.func127, Tryd.ntmps127
    go_wp2_with (at_builtin; go_loud (refine Kd.R_append_zeros (Kd.int .u8) (w0 := w) w.heap.size rfl (.tmp 20) (.tmp 21) 22 3 5 (.int .u8 0) 1 rfl Tryd.underlying22 Tryd.underlying3 info5 rfl (by decide) (by omega) (.slice none 0 0) [] (0 : Int) (kx := .i64) (n : Int) (fun _ => True) rfl rfl rfl (fun _ _ => trivial) (Kd.R_nil _ _ _ _ _) (by omega) (Below.refl _ _) (Nat.le_refl _) (by simp; omega) ?_; intro v1 w1 hr hb hg hat; obtain ⟨A1, c1, e1⟩ := Kd.R_slice hr; have HR := Aside0.mk hr; have HB := Aside0.mk hb; have HE := Aside0.mk e1; clear hr hb hg hat e1; rw [HE.out]))
    go_ret
    have hr := HR.out
    rw [HE.out] at hr
    exact ⟨_, rfl, by have := Kd.R_take hr (Nat.zero_le _); rwa [List.take_zero] at this, HB.out⟩

theorem rd_rows {w : World} {A : Option Addr} {n : Nat} {LL : List (List Int)} (h : Kd.C (Kd.slice 5 (Kd.int .u8)) w A n LL) (j : Nat) (hj : j < LL.length) : ∃ ad A0 c0, A = some ad ∧ w.cell? (ad.add j) = some (.slice A0 (LL[j]).length c0) ∧ (LL[j]).length ≤ c0 ∧ (Kd.int .u8).C w A0 (LL[j]).length (LL[j]) := by
  have hl := Kd.C_len h
  obtain ⟨ad, c, e, _, hK, hc0⟩ := Kd.C_get h ([] : List Int) (j : Int) (by omega) (by omega)
  have hc : ∀ i u, c[i]? = some u → w.cell? (ad.add (j * 1 + i)) = some u := hc0
  rw [Int.toNat_natCast, List.getD_eq_getElem?_getD, List.getElem?_eq_getElem hj] at hK
  obtain ⟨A0, c0, rfl, l0, g0⟩ := hK
  exact ⟨ad, A0, c0, e, by have hq := hc 0 _ rfl; rwa [Nat.mul_one, Nat.add_zero] at hq, l0, g0⟩
theorem flat_take_le (LL : List (List Int)) (j : Nat) : (LL.take j).flatten.length ≤ LL.flatten.length := by
  conv => rhs; rw [← List.take_append_drop j LL]
  rw [List.flatten_append, List.length_append]
  omega
theorem flat_take_succ (LL : List (List Int)) (j : Nat) (hj : j < LL.length) : (LL.take (j + 1)).flatten = (LL.take j).flatten ++ LL[j] := by
  rw [List.take_add_one, List.getElem?_eq_getElem hj, List.flatten_append]
  simp

/-- The first j rows, one behind the other. -/
def fcat (LL : List (List Int)) (j : Nat) : List Int := (LL.take j).flatten
theorem fcat_zero (LL : List (List Int)) : fcat LL 0 = [] := by simp [fcat]
theorem fcat_all (LL : List (List Int)) : fcat LL LL.length = LL.flatten := by simp [fcat]
theorem fcat_le (LL : List (List Int)) (j : Nat) : (fcat LL j).length ≤ LL.flatten.length := flat_take_le LL j
theorem fcat_succ (LL : List (List Int)) (j : Nat) (hj : j < LL.length) : fcat LL (j + 1) = fcat LL j ++ LL[j] := flat_take_succ LL j hj
/-- How long the first j rows are together. -/
def flen (LL : List (List Int)) (j : Nat) : Nat := (LL.take j).flatten.length
theorem flen_zero (LL : List (List Int)) : flen LL 0 = 0 := by simp [flen]
theorem flen_le (LL : List (List Int)) (j : Nat) : flen LL j ≤ LL.flatten.length := flat_take_le LL j
theorem flen_succ (LL : List (List Int)) (j : Nat) (hj : j < LL.length) : flen LL (j + 1) = flen LL j + (LL[j]).length := by
  unfold flen
  rw [flat_take_succ LL j hj, List.length_append]
set_option maxHeartbeats 1000000 in
set_option maxRecDepth 100000 in
theorem concat_rows (A : Option Addr) (c : Nat) (LL : List (List Int)) (w : World) (hC : Kd.C (Kd.slice 5 (Kd.int .u8)) w A LL.length LL) (hl : LL.length ≤ 1000000) (hn : LL.flatten.length ≤ 140737488355328) :
    Calls Tryd.prog 104 #[.slice A LL.length c] w fun e w' => ∃ v, e = .returned v ∧ Kd.R (Kd.int .u8) 5 w' w.heap.size (fun _ => True) v LL.flatten ∧ Below w.heap.size w w' := by
  have HC := Aside0.mk hC
  clear hC
  go_enter Tryd.func104, Tryd.ntmps104
  go_wp2_with fail
  go_loop [3, 11] (fun s i => ∃ j : Nat, j ≤ LL.length ∧ i = .int .i64 j ∧ s = .int .i64 ((flen LL j : Nat) : Int)) (fun _ i => LL.length - (intOf i).toNat)
  case atStart => exact ⟨0, Nat.zero_le _, rfl, by rw [flen_zero]; rfl⟩
  case round =>
    obtain ⟨j, hj, rfl, rfl⟩ := hrel
    by_cases hlt : j < LL.length
    · obtain ⟨ad, A0, c0, ea, hx, hc0, hC0⟩ := rd_rows HC.out j hlt
      subst ea
      have hb1 := flen_le LL (j + 1)
      have hs := flen_succ LL j hlt
      have HS := Aside0.mk hs
      have hb2 : flen LL j + (LL[j]).length ≤ 140737488355328 := by omega
      clear hs hC0
      go_wp2_with fail
      go_round
      case rel => exact ⟨j + 1, by omega, by go_num, by rw [HS.out]; go_num⟩
      case measure => simp [intOf]; omega
    · have hjl : j = LL.length := by omega
      subst hjl
      have hn' : flen LL LL.length ≤ 140737488355328 := Nat.le_trans (flen_le _ _) hn
      go_wp2_with fail
      refine (grow_nil _ w hn').mono ?_
      rintro e w1 ⟨v1, rfl, hr, hb⟩
      obtain ⟨A1, cap1, e1⟩ := Kd.R_slice hr
      rw [e1] at hr ⊢
      have HR := Aside0.mk hr
      have HB := Aside0.mk hb
      clear hr hb e1
      go_wp2_with fail
      go_loopw [6, 27] (fun s i wr => ∃ j : Nat, j ≤ LL.length ∧ i = .int .i64 j ∧ Aside0 (Kd.R (Kd.int .u8) 5 wr w.heap.size (fun _ => True) s (fcat LL j)) ∧ Aside0 (Below w.heap.size w wr)) (fun _ i _ => LL.length - (intOf i).toNat)
      case atStart => exact ⟨0, Nat.zero_le _, rfl, by rw [fcat_zero]; exact HR, HB⟩
      case round =>
        obtain ⟨j, hj, rfl, HR2, HB2⟩ := hrel
        clear HR HB
        by_cases hlt : j < LL.length
        · obtain ⟨ad, A0, c0, ea, hx, hc0, hC0⟩ := rd_rows (Kd.C_below HC.out HB2.out) j hlt
          subst ea
          have hb1 := fcat_le LL (j + 1)
          have hs := fcat_succ LL j hlt
          rw [hs, List.length_append] at hb1
          have HS := Aside0.mk hs
          have HC0 := Aside0.mk hC0
          clear hs hC0
          have hbs := HB2.out.size
          go_wp2_with (at_builtin; go_loud (refine app_row .u8 w.heap.size rfl (.tmp 31) (.tmp 32) 22 5 (.int .u8 0) 1 rfl Tryd.underlying22 info5 rfl (by omega) _ _ _ _ _ _ rfl rfl HR2.out HC0.out hbs (by omega) ?_; intro A2 c2 w2 hr2 hf2 hat2; have HR3 := Aside0.mk hr2; have HF := Aside0.mk hf2; clear hr2 hf2 hat2))
          go_roundw
          case rel => exact ⟨j + 1, by omega, by go_num, ⟨by rw [HS.out]; exact HR3.out⟩, ⟨HB2.out.trans (HF.out.below hbs (fun k hk => Kd.R_base HR2.out k hk.symm))⟩⟩
          case measure => simp [intOf]; omega
        · have hjl : j = LL.length := by omega
          subst hjl
          obtain ⟨A2, cap2, e2⟩ := Kd.R_slice HR2.out
          have HE := Aside0.mk e2
          clear e2
          go_wp2_with fail
          go_ret
          exact ⟨_, rfl, by have := HR2.out; rwa [fcat_all] at this, HB2.out⟩
end Go.Proofs.YtefnonlhepekdaaDoor.M

set_option linter.unusedVariables false
set_option linter.unusedSimpArgs false
namespace Go.Proofs.YtefnonlhepekdaaDoor.M
open Go.RowKit Go.Proofs.YtefnonlhepekdaaDoorW.PrintWords Go.Proofs.YtefnonlhepekdaaDoorW.PrintLast Go.Proofs.YtefnonlhepekdaaDoorW.PrintMore Go.Proofs.YtefnonlhepekdaaDoor.Leaf

theorem short_calls (x : Nat) (hx : x < 18446744073709551616) (w : World) :
    Calls Tryd.prog 105 #[.int .u64 x] w fun e w' => ∃ v, e = .returned v ∧ Kd.R (Kd.int .u8) 5 w' w.heap.size (fun _ => True) v (shortI x) ∧ Below w.heap.size w w' := by
  obtain ⟨k, hk⟩ := (short_val x hx).rounds
  exact num_Short.calls k x _ w hk

def writeB (kd a b : Nat) (ns : List Hsh) : List Int := [(kd : Int)] ++ shortI a ++ shortI b ++ nodesI ns

set_option maxHeartbeats 2000000 in
set_option maxRecDepth 100000 in
theorem proof_write (kd x y c : Nat) (ns : List Hsh) (A : Option Addr) (w : World) (hx : x < 18446744073709551616) (hy : y < 18446744073709551616) (hA : kH.C w A ns.length ns) (hle : ns.length ≤ 100000) :
    Calls Tryd.prog 72 #[.int .u8 kd, .int .u64 x, .int .u64 y, .slice A ns.length c] w fun e w' => ∃ v, e = .returned v ∧ Kd.R (Kd.int .u8) 5 w' w.heap.size (fun _ => True) v (writeB kd x y ns) ∧ Below w.heap.size w w' := by
  have HN := Aside0.mk hA
  have hns := hle
  clear hA hle
  go_enter Tryd.func72, Tryd.ntmps72
  go_wp2_with fail
  refine (short_calls x hx _).mono ?_
  rintro e wa ⟨va, rfl, hra, hba⟩
  obtain ⟨Aa, ca, ea⟩ := Kd.R_slice hra
  rw [ea] at hra ⊢
  have ra := Aside0.mk (Rd.of_R hra)
  have ba := Aside0.mk hba
  clear hra hba ea
  go_wp2_with fail
  refine (short_calls y hy _).mono ?_
  rintro e wb ⟨vb, rfl, hrb, hbb⟩
  obtain ⟨Ab, cb, eb⟩ := Kd.R_slice hrb
  rw [eb] at hrb ⊢
  have rb := Aside0.mk (Rd.of_R hrb)
  have bb := Aside0.mk hbb
  clear hrb hbb eb
  go_wp2_with fail
  refine (concat_rows (some ⟨_, 0, none⟩) 3 [[(kd : Int)], shortI x, shortI y] _ (C_rows3 .u8 5 _ _ _ _ 22 _ _ _ (Rd.below (Rd.below (Rd.one _ _ _ _ rfl) ba.out) bb.out) (Rd.below ra.out bb.out) rb.out (by simp [World.drew])) (by simp) (by have := shortI_len x; have := shortI_len y; simp; omega)).mono ?_
  rintro e wd ⟨vd, rfl, hrd, hbd⟩
  obtain ⟨Ad, ld, cd, ed⟩ : ∃ A l c, vd = .slice A l c := (by obtain ⟨A, c, h⟩ := Kd.R_slice hrd; exact ⟨A, _, c, h⟩)
  rw [ed] at hrd ⊢
  obtain ⟨P0, hP⟩ : ∃ P, P = [(kd : Int)] ++ shortI x ++ shortI y := ⟨_, rfl⟩
  have hfl : [[(kd : Int)], shortI x, shortI y].flatten = P0 := by rw [hP]; simp
  rw [hfl] at hrd
  have hPl : P0.length ≤ 31 := by have := shortI_len x; have := shortI_len y; rw [hP]; simp only [List.length_append, List.length_singleton]; omega
  have hB0 : Below w.heap.size w wd := blt (blt (blt (bl_new w _) ba.out) bb.out) (below_on (bl_new wb _) (by simp) (Below.refl _ _)) |>.trans (hbd.mono (by have := ba.out.size; have := bb.out.size; simp at *; omega))
  have HP := Aside0.mk hP
  have G1 := Aside0.mk (Kd.R_lower hrd (by have := ba.out.size; have := bb.out.size; simp at *; omega : w.heap.size ≤ _))
  have G2 := Aside0.mk hB0
  clear hrd hbd ed hP hfl hB0
  go_wp2_with fail
  go_loopw [9, 22] (fun s i wr => ∃ j : Nat, j ≤ ns.length ∧ i = .int .i64 j ∧ Aside0 (Kd.R (Kd.int .u8) 5 wr w.heap.size (fun _ => True) s (P0 ++ nodesI (ns.take j))) ∧ Aside0 (Below w.heap.size w wr)) (fun _ i _ => ns.length - (intOf i).toNat)
  case atStart => exact ⟨0, Nat.zero_le _, rfl, by rw [List.take_zero]; simp only [nodesI, List.flatMap_nil, List.append_nil]; exact G1, G2⟩
  case round =>
    obtain ⟨j, hj, rfl, HR, HW⟩ := hrel
    clear G1 G2
    by_cases hlt : j < ns.length
    · obtain ⟨ad, ea, hh⟩ := C_hash (Kd.C_below HN.out HW.out) j hlt
      subst ea
      have HH := Aside0.mk hh
      clear hh
      obtain ⟨hv, hhv⟩ : ∃ h, h = ns[j] := ⟨_, rfl⟩
      rw [← hhv] at HH
      have hcat : nodesI (ns.take (j + 1)) = nodesI (ns.take j) ++ hv.b := by
        rw [List.take_add_one, List.getElem?_eq_getElem hlt, ← hhv]
        show nodesI (ns.take j ++ [hv]) = _
        unfold nodesI
        rw [List.flatMap_append]
        simp only [List.flatMap_cons, List.flatMap_nil, List.append_nil]
      have hlen : (nodesI (ns.take (j + 1))).length ≤ 32 * 100000 := by
        have h1 : ∀ l : List Hsh, (nodesI l).length = 32 * l.length := by
          intro l
          induction l with
          | nil => rfl
          | cons x l ih =>
            rw [show nodesI (x :: l) = x.b ++ nodesI l from rfl, List.length_append, ih, x.len, List.length_cons]
            omega
        rw [h1]
        have := List.length_take_le (j + 1) ns
        omega
      rw [hcat, List.length_append, hv.len] at hlen
      have HCat := Aside0.mk hcat
      clear hcat hhv
      have hsz := HW.out.size
      obtain ⟨P1, hP1⟩ : ∃ P, P = P0 ++ nodesI (ns.take j) := ⟨_, rfl⟩
      have hP1l : P1.length ≤ 3200100 := by rw [hP1, List.length_append]; omega
      rw [← hP1] at HR
      have HP1 := Aside0.mk hP1
      clear hP1
      go_wp2_with (first | ((with_reducible refine gate_dst (N := 25) rfl ?_); go_loud (refine load_hash rfl (.tmp 24) rfl _ _ rfl HH.out ?_)) | ((with_reducible refine gate_store (t := 63) (p := 11) (v := .tmp 25) rfl ?_); go_loud (refine store_hash rfl rfl (.tmp 11) (.tmp 25) rfl _ rfl _ _ rfl hv rfl rfl ?_)) | ((with_reducible refine gate_builtin (b := .append) (xs := #[.tmp 26, .tmp 27]) rfl ?_); at_builtin; go_loud (refine app_row .u8 w.heap.size rfl (.tmp 26) (.tmp 27) 22 5 (.int .u8 0) 1 rfl Tryd.underlying22 info5 rfl (by omega) _ P1 hv.b _ 32 32 rfl rfl (Kd.R_alloc HR.out _) (C_hash_row wr hv _ rfl) (by simp; omega) (by omega) ?_; intro A2 c2 w2 hr2 hf2 hat2; have HR2 := Aside0.mk hr2; have HF2 := Aside0.mk hf2; clear hr2 hf2 hat2)))
      go_roundw
      case rel => exact ⟨j + 1, by omega, by go_num, ⟨by rw [HCat.out, ← List.append_assoc, ← HP1.out]; exact HR2.out⟩, ⟨(below_alloc HW.out _).trans (HF2.out.below (by simp; omega) (fun k hk => Kd.R_base HR.out k hk.symm))⟩⟩
      case measure => simp [intOf]; omega
    · have hjl : j = ns.length := by omega
      subst hjl
      obtain ⟨A6, l6, c6, e6⟩ : ∃ A l c, u9 = .slice A l c := (by obtain ⟨A, c, h⟩ := Kd.R_slice HR.out; exact ⟨A, _, c, h⟩)
      have HE6 := Aside0.mk e6
      clear e6
      go_wp2_with fail
      go_ret
      refine ⟨_, rfl, ?_, HW.out⟩
      have hq := HR.out
      rw [List.take_length, HP.out] at hq
      exact hq


/-- What proof.Encode answers. -/
def pencAns (i n : Nat) (ns : List Hsh) : List Int × Int := if (proofAns i n).2 ≠ 0 then ([], (proofAns i n).2) else if (proofAns i n).1.length ≠ ns.length then ([], 70) else (writeB 77 n i ns, 0)
set_option maxHeartbeats 2000000 in
set_option maxRecDepth 100000 in
theorem proof_encode (i n c : Nat) (ns : List Hsh) (A : Option Addr) (w : World) (hi : i < 18446744073709551616) (hn : n < 18446744073709551616) (hA : kH.C w A ns.length ns) :
    Calls Tryd.prog 27 #[.agg #[.int .u64 n, .int .u64 i, .slice A ns.length c]] w fun e w' => ∃ v, e = .returned (.tuple #[v, .int .i64 (pencAns i n ns).2]) ∧ Kd.R (Kd.int .u8) 5 w' w.heap.size (fun _ => True) v (pencAns i n ns).1 ∧ Below w.heap.size w w' := by
  have hp := proof_places i n
  have hlen := proofAns_len i n
  have hdef : pencAns i n ns = if (proofAns i n).2 ≠ 0 then ([], (proofAns i n).2) else if (proofAns i n).1.length ≠ ns.length then ([], 70) else (writeB 77 n i ns, 0) := rfl
  generalize pencAns i n ns = E at *
  generalize (proofAns i n).1 = L at *
  generalize (proofAns i n).2 = er at *
  have HP := Aside0.mk hp
  have HE := Aside0.mk hdef
  have HN := Aside0.mk hA
  clear hp hdef hA
  go_enter Tryd.func27, Tryd.ntmps27
  go_wp2_with fail
  refine (HP.out _).mono ?_
  rintro e w1 ⟨v1, rfl, hr, hb⟩
  obtain ⟨A1, cap1, e1⟩ := Kd.R_slice hr
  rw [e1]
  have hb0 : Below w.heap.size w w1 := (bl_new w _).trans (hb.mono (by simp))
  have hbx : w1.heap[w.heap.size]? = some (.cells #[.int .u64 n, .int .u64 i, .slice A ns.length c] 41 (0, 0)) := (hb.block _ (by simp)).trans (heap_new w _)
  have hx0 : w1.cell? ⟨w.heap.size, 0, none⟩ = some (.int .u64 n) := (blk_cell hbx 0).trans rfl
  have hx1 : w1.cell? ⟨w.heap.size, 1, none⟩ = some (.int .u64 i) := (blk_cell hbx 1).trans rfl
  have hx2 : w1.cell? ⟨w.heap.size, 2, none⟩ = some (.slice A ns.length c) := (blk_cell hbx 2).trans rfl
  have HB := Aside0.mk hb0
  clear hr hb hb0 hbx e1
  by_cases h0 : er = 0
  · subst h0
    by_cases hk2 : L.length = ns.length
    · have hd : ((L.length : Int) != (ns.length : Int)) = false := by rw [bne_eq_false_iff_eq]; omega
      have HK := Aside0.mk hk2
      have hle : ns.length ≤ 100000 := by omega
      clear hk2
      go_wp2_with fail
      refine (proof_write 77 n i c ns A w1 hn hi (Kd.C_below HN.out HB.out) hle).mono ?_
      rintro e w2 ⟨v2, rfl, hr2, hb2⟩
      obtain ⟨A2, l2, c2, e2⟩ : ∃ A l c, v2 = .slice A l c := (by obtain ⟨A, c, h⟩ := Kd.R_slice hr2; exact ⟨A, _, c, h⟩)
      have HR2 := Aside0.mk hr2
      have HE2 := Aside0.mk e2
      have HB2 := Aside0.mk hb2
      clear hr2 hb2 e2
      go_wp2_with fail
      go_ret2
      have he := HE.out
      rw [if_neg (by simp), if_neg (fun h => h HK.out)] at he
      rw [he]
      exact ⟨_, rfl, Kd.R_lower HR2.out HB.out.size, HB.out.trans (HB2.out.mono HB.out.size)⟩
    · have hd : ((L.length : Int) != (ns.length : Int)) = true := by rw [bne_iff_ne]; omega
      have HK := Aside0.mk hk2
      clear hk2
      go_wp2
      go_ret2
      have he := HE.out
      rw [if_neg (by simp), if_pos HK.out] at he
      rw [he]
      exact ⟨_, rfl, Kd.R_nil _ _ _ _ _, HB.out⟩
  · have hd : (er != 0) = true := by rw [bne_iff_ne]; exact h0
    have HK := Aside0.mk h0
    clear h0
    go_wp2
    go_ret2
    have he := HE.out
    rw [if_pos HK.out] at he
    rw [he]
    exact ⟨_, rfl, Kd.R_nil _ _ _ _ _, HB.out⟩
end Go.Proofs.YtefnonlhepekdaaDoor.M

set_option linter.unusedVariables false
set_option linter.unusedSimpArgs false
namespace Go.Proofs.YtefnonlhepekdaaDoor.M
open Go.RowKit Go.Proofs.YtefnonlhepekdaaDoorW.PrintWords Go.Proofs.YtefnonlhepekdaaDoorW.PrintLast Go.Proofs.YtefnonlhepekdaaDoorW.PrintMore Go.Proofs.YtefnonlhepekdaaDoor.Leaf Go.Proofs.YtefnonlhepekdaaDoor.Lng

/-- Reading the byte number i: x has been read. -/
def longF : Nat → Nat → Nat → List Int → Int × Int × Int
  | 0, _, _, _ => (0, 0, 10)
  | _ + 1, _, _, [] => (0, 0, 11)
  | d + 1, i, x, b :: r =>
    if i = 9 ∧ b > 1 then (0, 0, 10)
    else if b < 128 then (if 0 < i ∧ b = 0 then (0, 0, 12) else (((x + b.toNat % 128 * 2 ^ (7 * i) : Nat) : Int), ((i + 1 : Nat) : Int), 0))
    else longF d (i + 1) (x + b.toNat % 128 * 2 ^ (7 * i)) r
def longN (bs : List Int) : Int × Int × Int := longF 10 0 0 bs
theorem or_high (x y i : Nat) (hx : x < 2 ^ i) : x ||| y * 2 ^ i = x + y * 2 ^ i := by
  rw [Nat.or_comm, Nat.mul_comm, ← Nat.two_pow_add_eq_or_of_lt hx, Nat.add_comm]
theorem long_step (x b i : Nat) (hi : i ≤ 9) (hx : x < 2 ^ (7 * i)) (hb : b < 256) (h9 : i = 9 → b ≤ 1) : Go.bits .or .u64 (x : Int) (shl .u64 (Go.bits .and .u64 (b : Int) 127) ((7 * i : Nat) : Int)) = ((x + b % 128 * 2 ^ (7 * i) : Nat) : Int) ∧ x + b % 128 * 2 ^ (7 * i) < 2 ^ 64 ∧ (i < 9 → x + b % 128 * 2 ^ (7 * i) < 2 ^ (7 * (i + 1))) := by
  have h1 : Go.bits .and .u64 (b : Int) 127 = ((b % 128 : Nat) : Int) := by
    have := and64 b 127 (by omega) (by omega)
    rw [show b &&& 127 = b % 128 from Nat.and_two_pow_sub_one_eq_mod b 7] at this
    exact this
  have hp : 0 < 2 ^ (7 * i) := p2_pos _
  have hm : b % 128 * 2 ^ (7 * i) ≤ 127 * 2 ^ (7 * i) := Nat.mul_le_mul_right _ (by omega)
  have hle : i < 9 → 2 ^ (7 * (i + 1)) ≤ 2 ^ 63 := fun h => Nat.pow_le_pow_right (by omega) (by omega)
  have hs : i < 9 → 2 ^ (7 * (i + 1)) = 128 * 2 ^ (7 * i) := fun _ => by rw [show 7 * (i + 1) = 7 * i + 7 by omega, Nat.pow_add]; omega
  have hlt : x + b % 128 * 2 ^ (7 * i) < 2 ^ 64 ∧ (i < 9 → x + b % 128 * 2 ^ (7 * i) < 2 ^ (7 * (i + 1))) := by
    by_cases h : i < 9
    · have := hle h
      have := hs h
      exact ⟨by omega, fun _ => by omega⟩
    · have h99 : i = 9 := by omega
      have := h9 h99
      subst h99
      have : b % 128 * 2 ^ (7 * 9) ≤ 1 * 2 ^ (7 * 9) := Nat.mul_le_mul_right _ (by omega)
      exact ⟨by omega, fun h => absurd h (by omega)⟩
  refine ⟨?_, hlt⟩
  rw [h1, shl_nat _ _ (by omega) (by omega)]
  have := u64_or_nat x (b % 128 * 2 ^ (7 * i)) (by omega) (by omega)
  rw [or_high x _ _ hx] at this
  exact this
theorem long_loop (bs : List Int) (hb : Bytes bs) (hl : bs.length < 9223372036854775807) : ∀ (d i x : Nat), i + d = 10 → i ≤ bs.length → x < 2 ^ (7 * i) → Ev (fun k => num_Long.l0 k bs (x : Int) (i : Int)) (longF d i x (bs.drop i))
  | 0, i, x, hd, _, _ => Ev.step (f := fun _ => some (0, 0, 10)) (fun k => by simp only [num_Long.l0]; rw [if_neg (by omega)]) (Ev.now _)
  | d + 1, i, x, hd, hi, hx => by
    by_cases he : i = bs.length
    · rw [List.drop_of_length_le (by omega)]
      exact Ev.step (f := fun _ => some (0, 0, 11)) (fun k => by simp only [num_Long.l0]; rw [if_pos (by omega), if_pos (by omega)]) (Ev.now _)
    · have hlt : i < bs.length := by omega
      have hr : rd bs (i : Int) = bs[i] := by simp [rd, List.getD_eq_getElem?_getD, List.getElem?_eq_getElem hlt]
      obtain ⟨h0, h256⟩ := hb _ (List.getElem_mem hlt)
      rw [List.drop_eq_getElem_cons hlt]
      generalize hbd : bs[i] = b at *
      obtain ⟨c, hc⟩ : ∃ c : Nat, b = (c : Int) := ⟨b.toNat, by omega⟩
      subst hc
      have SS := Aside0.mk (fun (hi9 : i ≤ 9) (h256 : c < 256) (h9 : i = 9 → c ≤ 1) => long_step x c i hi9 hx h256 h9)
      clear hx
      have hw : IntKind.u64.wrap (c : Int) = (c : Int) := w64_nat c (by omega)
      have h7 : wrap64 (7 * (i : Int)) = ((7 * i : Nat) : Int) := by rw [i64_of _ (by omega) (by omega)]; omega
      have tail : ∀ q : Bool, q = decide (i = 9 ∧ (c : Int) > 1) → Ev (fun k => num_Long.j1 k bs (x : Int) (i : Int) (c : Int) (i : Int) q) (longF (d + 1) i x ((c : Int) :: bs.drop (i + 1))) := by
        intro q hq
        simp only [longF]
        by_cases c9 : i = 9 ∧ (c : Int) > 1
        · rw [if_pos c9]
          rw [decide_eq_true c9] at hq
          subst hq
          exact Ev.step (f := fun _ => some (0, 0, 10)) (fun k => by simp only [num_Long.j1]; rw [if_pos trivial]) (Ev.now _)
        · rw [if_neg c9]
          rw [decide_eq_false c9] at hq
          subst hq
          have e1 : wrap64 ((i : Int) + 1) = ((i + 1 : Nat) : Int) := by rw [i64_of _ (by omega) (by omega)]; omega
          have h9 : ¬ (c : Int) < 128 → i < 9 := fun hc => Nat.lt_of_not_le (fun h => c9 ⟨by omega, by omega⟩)
          have g0 : (0 : Int) ≤ ((7 * i : Nat) : Int) := Int.natCast_nonneg _
          have gi : 0 < i → (i : Int) > 0 := fun h => by omega
          have gn : ¬ 0 < i → ¬ (i : Int) > 0 := fun h => by omega
          have gd : i + 1 + d = 10 := by omega
          have gl : i + 1 ≤ bs.length := by omega
          obtain ⟨s1, s2, s3⟩ := SS.out (by omega) (by omega) (fun h9 => by omega)
          rw [Int.toNat_natCast]
          obtain ⟨X, hX⟩ : ∃ X, X = x + c % 128 * 2 ^ (7 * i) := ⟨_, rfl⟩
          rw [← hX] at s1 s2 s3 ⊢
          have ihd : i < 9 → Ev (fun k => num_Long.l0 k bs (X : Int) ((i + 1 : Nat) : Int)) (longF d (i + 1) X (bs.drop (i + 1))) := fun h9 => long_loop bs hb hl d (i + 1) X gd gl (s3 h9)
          clear s2 s3 hX
          by_cases c128 : (c : Int) < 128
          · rw [if_pos c128]
            by_cases cf : 0 < i ∧ (c : Int) = 0
            · rw [if_pos cf]
              exact Ev.step (f := fun _ => some (0, 0, 12)) (fun k => by simp only [num_Long.j1]; rw [if_neg Bool.false_ne_true, h7, s1, if_pos g0, if_pos c128, if_pos (gi cf.1), if_pos cf.2]) (Ev.now _)
            · rw [if_neg cf]
              refine Ev.step (f := fun _ => some ((X : Int), ((i + 1 : Nat) : Int), 0)) (fun k => ?_) (Ev.now _)
              simp only [num_Long.j1]
              rw [if_neg Bool.false_ne_true, h7, s1, e1, if_pos g0, if_pos c128]
              by_cases hi0 : 0 < i
              · rw [if_pos (gi hi0), if_neg (fun h => cf ⟨hi0, h⟩)]
              · rw [if_neg (gn hi0)]
          · rw [if_neg c128]
            exact Ev.step (fun k => by simp only [num_Long.j1]; rw [if_neg Bool.false_ne_true, h7, s1, e1, if_pos g0, if_neg c128]) (ihd (h9 c128))
      have k1 : (i : Int) < 10 := by omega
      have k2 : ¬ (i : Int) = (bs.length : Int) := by omega
      have k3 : (0 : Int) ≤ (i : Int) := by omega
      have k4 : (i : Int) < (bs.length : Int) := by omega
      by_cases c9 : i = 9
      · have t := tail (decide ((c : Int) > 1)) (by simp [c9])
        have k5 : (i : Int) = 9 := by omega
        exact Ev.step (fun k => by simp only [num_Long.l0]; rw [if_pos k1, if_neg k2, if_pos k3, if_pos k4, if_pos k5, hr, hw]) t
      · have t := tail false (by simp [c9])
        have k5 : ¬ (i : Int) = 9 := by omega
        exact Ev.step (fun k => by simp only [num_Long.l0]; rw [if_pos k1, if_neg k2, if_pos k3, if_pos k4, if_neg k5, hr, hw]) t
theorem long_val (bs : List Int) (hb : Bytes bs) (hl : bs.length < 9223372036854775807) : Ev (fun k => num_Long.f k bs) (longN bs) := by
  have := long_loop bs hb hl 10 0 0 rfl (Nat.zero_le _) (by omega)
  rw [List.drop_zero] at this
  exact this
/-! There, and back. -/
theorem long_short (rest : List Int) : ∀ (f i acc x : Nat), i + f = 9 → x < 2 ^ (7 * f + 1) → (0 < i → 0 < x) → longF (f + 1) i acc ((shortF f x).map (fun (b : Nat) => (b : Int)) ++ rest) = (((acc + x * 2 ^ (7 * i) : Nat) : Int), ((i + (shortF f x).length : Nat) : Int), 0)
  | 0, i, acc, x, hf, hx, hp => by
    simp at hx
    simp only [shortF, List.map_cons, List.map_nil, List.cons_append, List.nil_append, longF, Int.toNat_natCast, List.length_singleton]
    rw [if_neg (by omega), if_pos (by omega), if_neg (by omega), Nat.mod_eq_of_lt (by omega)]
  | f + 1, i, acc, x, hf, hx, hp => by
    by_cases c : x < 128
    · rw [show shortF (f + 1) x = [x] by simp only [shortF]; rw [if_pos c]]
      simp only [List.map_cons, List.map_nil, List.cons_append, List.nil_append, longF, Int.toNat_natCast, List.length_singleton]
      rw [if_neg (by omega), if_pos (by omega), if_neg (by omega), Nat.mod_eq_of_lt c]
    · rw [show shortF (f + 1) x = (128 + x % 128) :: shortF f (x / 128) by simp only [shortF]; rw [if_neg c]]
      have ih := long_short rest f (i + 1) (acc + x % 128 * 2 ^ (7 * i)) (x / 128) (by omega) (by rw [show 7 * (f + 1) + 1 = (7 * f + 1) + 7 by omega, Nat.pow_add] at hx; omega) (fun _ => by omega)
      simp only [List.map_cons, List.cons_append, List.length_cons]
      rw [longF]
      rw [if_neg (by omega), if_neg (by omega), Int.toNat_natCast, show (128 + x % 128) % 128 = x % 128 by omega, ih]
      have e : acc + x % 128 * 2 ^ (7 * i) + x / 128 * 2 ^ (7 * (i + 1)) = acc + x * 2 ^ (7 * i) := by
        rw [show 7 * (i + 1) = 7 * i + 7 by omega, Nat.pow_add, show x / 128 * (2 ^ (7 * i) * 2 ^ 7) = (128 * (x / 128)) * 2 ^ (7 * i) by rw [← Nat.mul_assoc, Nat.mul_comm (x / 128), Nat.mul_assoc, Nat.mul_comm (2 ^ (7 * i))]; congr 1; omega, Nat.add_assoc, ← Nat.add_mul]
        congr 2
        omega
      rw [e, show i + 1 + (shortF f (x / 128)).length = i + ((shortF f (x / 128)).length + 1) by omega]
theorem longN_short (x : Nat) (rest : List Int) (hx : x < 18446744073709551616) : longN (shortI x ++ rest) = ((x : Int), ((shortI x).length : Int), 0) := by
  have := long_short rest 9 0 0 x rfl (by omega) (fun h => absurd h (by omega))
  unfold longN shortI
  rw [this]
  simp
theorem short_long : ∀ (d i acc : Nat) (bs : List Int) (v k : Int), Bytes bs → i + d = 9 → longF (d + 1) i acc bs = (v, k, 0) → ∃ y : Nat, y < 2 ^ (7 * d + 1) ∧ (0 < i → 0 < y) ∧ v = ((acc + y * 2 ^ (7 * i) : Nat) : Int) ∧ k = ((i + (shortF d y).length : Nat) : Int) ∧ ∃ rest, bs = (shortF d y).map (fun (b : Nat) => (b : Int)) ++ rest := by
  intro d
  induction d with
  | zero =>
    intro i acc bs v k hb hd h
    have hi : i = 9 := by omega
    cases bs with
    | nil => simp [longF] at h
    | cons b r =>
      obtain ⟨h0, h256⟩ := hb b List.mem_cons_self
      obtain ⟨c, hc⟩ : ∃ c : Nat, b = (c : Int) := ⟨b.toNat, by omega⟩
      subst hc
      rw [longF] at h
      split at h
      · simp at h
      · next c1 =>
        split at h
        · split at h
          · simp at h
          · next c3 =>
            rw [Int.toNat_natCast, Nat.mod_eq_of_lt (by omega)] at h
            injection h with h1 h2
            injection h2 with h2 _
            exact ⟨c, by omega, fun _ => by omega, h1.symm, by rw [← h2]; rfl, r, rfl⟩
        · simp only [longF] at h
          simp at h
  | succ d ih =>
    intro i acc bs v k hb hd h
    cases bs with
    | nil => simp [longF] at h
    | cons b r =>
      obtain ⟨h0, h256⟩ := hb b List.mem_cons_self
      obtain ⟨c, hc⟩ : ∃ c : Nat, b = (c : Int) := ⟨b.toNat, by omega⟩
      subst hc
      rw [longF] at h
      split at h
      · simp at h
      · next c1 =>
        split at h
        · next c2 =>
          split at h
          · simp at h
          · next c3 =>
            rw [Int.toNat_natCast, Nat.mod_eq_of_lt (by omega)] at h
            injection h with h1 h2
            injection h2 with h2 _
            have hs : shortF (d + 1) c = [c] := by simp only [shortF]; rw [if_pos (by omega)]
            refine ⟨c, ?_, fun _ => by omega, h1.symm, by rw [← h2, hs]; rfl, r, by rw [hs]; rfl⟩
            have : 2 ^ 8 ≤ 2 ^ (7 * (d + 1) + 1) := Nat.pow_le_pow_right (by omega) (by omega)
            omega
        · next c2 =>
          obtain ⟨y, y1, y2, y3, y4, rest, y5⟩ := ih (i + 1) _ r v k (fun x hx => hb x (List.mem_cons_of_mem _ hx)) (by omega) h
          have hy := y2 (by omega)
          rw [Int.toNat_natCast] at y3
          have hs : shortF (d + 1) (c % 128 + 128 * y) = (128 + c % 128) :: shortF d y := by
            simp only [shortF]
            rw [if_neg (by omega), show (c % 128 + 128 * y) % 128 = c % 128 by omega, show (c % 128 + 128 * y) / 128 = y by omega]
          refine ⟨c % 128 + 128 * y, ?_, fun _ => by omega, ?_, ?_, rest, ?_⟩
          · rw [show 7 * (d + 1) + 1 = (7 * d + 1) + 7 by omega, Nat.pow_add]
            omega
          · rw [y3, show 7 * (i + 1) = 7 * i + 7 by omega, Nat.pow_add, Nat.add_mul, show y * (2 ^ (7 * i) * 2 ^ 7) = 128 * y * 2 ^ (7 * i) by rw [← Nat.mul_assoc, Nat.mul_comm (y * 2 ^ (7 * i)), Nat.mul_assoc], Nat.add_assoc]
          · rw [y4, hs, List.length_cons]
            congr 1
            omega
          · rw [hs, List.map_cons, List.cons_append, ← y5]
            congr 1
            omega
theorem longN_back {bs : List Int} (hb : Bytes bs) {v k : Int} (h : longN bs = (v, k, 0)) : ∃ (x : Nat) (rest : List Int), x < 18446744073709551616 ∧ v = (x : Int) ∧ k = ((shortI x).length : Int) ∧ bs = shortI x ++ rest := by
  obtain ⟨y, y1, _, y3, y4, rest, y5⟩ := short_long 9 0 0 bs v k hb rfl h
  refine ⟨y, rest, by omega, by rw [y3]; simp, by rw [y4]; unfold shortI; simp, y5⟩
end Go.Proofs.YtefnonlhepekdaaDoor.M

set_option linter.unusedVariables false
set_option linter.unusedSimpArgs false
namespace Go.Proofs.YtefnonlhepekdaaDoor.M
open Go.RowKit Go.Proofs.YtefnonlhepekdaaDoorW.PrintWords Go.Proofs.YtefnonlhepekdaaDoorW.PrintLast Go.Proofs.YtefnonlhepekdaaDoorW.PrintMore Go.Proofs.YtefnonlhepekdaaDoor.Leaf

def takeAns (bs : List Int) (n : Nat) : List Hsh × Int := if bs.length < 32 * n then ([], 11) else if 32 * n < bs.length then ([], 13) else (takeH n bs, 0)
end Go.Proofs.YtefnonlhepekdaaDoor.M

set_option linter.unusedVariables false
set_option linter.unusedSimpArgs false
namespace Go.Proofs.YtefnonlhepekdaaDoor.M
open Go.RowKit Go.Proofs.YtefnonlhepekdaaDoorW.PrintWords Go.Proofs.YtefnonlhepekdaaDoorW.PrintLast Go.Proofs.YtefnonlhepekdaaDoorW.PrintMore Go.Proofs.YtefnonlhepekdaaDoor.Leaf Go.Proofs.YtefnonlhepekdaaDoor.Lng

/-- Bytes that lie in block g (none: no bytes). -/
def CG (g : Option Nat) (w : World) (A : Option Addr) (n : Nat) (xs : List Int) : Prop := ∀ w' : World, (∀ k, g = some k → w'.heap[k]? = w.heap[k]?) → Kd.C (Kd.int .u8) w' A n xs
theorem CG.here {g : Option Nat} {w : World} {A : Option Addr} {n : Nat} {xs : List Int} (h : CG g w A n xs) : Kd.C (Kd.int .u8) w A n xs := h w (fun _ _ => rfl)
theorem CG.frm {g : Option Nat} {w w1 : World} {A : Option Addr} {n : Nat} {xs : List Int} (h : CG g w A n xs) {S : Nat → Prop} (hf : Frm S w w1) (hg : ∀ k, g = some k → k < w.heap.size ∧ ¬ S k) : CG g w1 A n xs :=
  fun w' hw => h w' (fun k hk => (hw k hk).trans (hf.block k (hg k hk).1 (hg k hk).2))
/-- A reader in its box br; what is left to read lies in block g. -/
structure Rdr (w : World) (br : Nat) (g : Option Nat) (A : Option Addr) (n c : Nat) (er : Int) (bs : List Int) : Prop where
  box : w.heap[br]? = some (.cells #[.slice A n c, .int .i64 er] 126 (0, 0))
  len : bs.length = n
  cap : n ≤ c
  all : CG g w A n bs
  far : ∀ k, g = some k → k < w.heap.size ∧ k ≠ br
/-- A reader, some bytes of which may have been read. -/
def RdrE (w : World) (br : Nat) (g : Option Nat) (n : Nat) (er : Int) (bs : List Int) : Prop := ∃ A1 n1 c1, n1 ≤ n ∧ Rdr w br g A1 n1 c1 er bs
theorem Rdr.frm {w w1 : World} {br : Nat} {g : Option Nat} {A A1 : Option Addr} {n c n1 c1 : Nat} {er er1 : Int} {bs bs1 : List Int} (h : Rdr w br g A n c er bs) (hf : Frm (fun k => k = br) w w1) (hb : w1.heap[br]? = some (.cells #[.slice A1 n1 c1, .int .i64 er1] 126 (0, 0)))
    (hl : bs1.length = n1) (hc : n1 ≤ c1) (hA : CG g w A1 n1 bs1) : Rdr w1 br g A1 n1 c1 er1 bs1 :=
  ⟨hb, hl, hc, hA.frm hf (fun k hk => ⟨(h.far k hk).1, (h.far k hk).2⟩), fun k hk => ⟨Nat.lt_of_lt_of_le (h.far k hk).1 hf.size, (h.far k hk).2⟩⟩
theorem Rdr.below {w w1 : World} {br : Nat} {g : Option Nat} {A : Option Addr} {n c : Nat} {er : Int} {bs : List Int} (h : Rdr w br g A n c er bs) (hb : Below w.heap.size w w1) : Rdr w1 br g A n c er bs :=
  h.frm (Frm.of_below hb _) ((hb.block _ (blk_lt h.box)).trans h.box) h.len h.cap h.all
theorem Rdr.seterr {w : World} {br : Nat} {g : Option Nat} {A : Option Addr} {n c : Nat} {er : Int} {bs : List Int} (h : Rdr w br g A n c er bs) (e : Int) : Rdr (w.setCell ⟨br, 1, none⟩ (.int .i64 e)) br g A n c e bs :=
  h.frm (Frm.of_set w ⟨br, 1, none⟩ _) (by have := blk_set h.box 1 (.int .i64 e); rw [this]; rfl) h.len h.cap h.all
theorem Rdr.setb {w : World} {br : Nat} {g : Option Nat} {A A1 : Option Addr} {n c n1 c1 : Nat} {er : Int} {bs bs1 : List Int} (h : Rdr w br g A n c er bs) (hl : bs1.length = n1) (hc : n1 ≤ c1) (hA : CG g w A1 n1 bs1) : Rdr (w.setCell ⟨br, 0, none⟩ (.slice A1 n1 c1)) br g A1 n1 c1 er bs1 :=
  h.frm (Frm.of_set w ⟨br, 0, none⟩ _) (by have := blk_set h.box 0 (.slice A1 n1 c1); rw [this]; rfl) hl hc hA
theorem CG.drop {g : Option Nat} {w : World} {ad : Addr} {c m n : Nat} {xs : List Int} (h : CG g w (some ad) n xs) (hl : xs.length = n) (hm : m ≤ n) (hc : n ≤ c) : CG g w (if c = m then some ad else some (ad.add m)) (n - m) (xs.drop m) := by
  intro w' hw
  subst hl
  have h1 := Kd.C_drop (m := m) (c := c) (h w' hw) hm hc
  rw [List.length_drop] at h1
  have h2 : (if c = m then some ad else Option.map (fun x => x.add (m * (Kd.int IntKind.u8).sz)) (some ad)) = (if c = m then some ad else some (ad.add m)) := by
    rw [show (Kd.int IntKind.u8).sz = 1 from rfl, Nat.mul_one]
    rfl
  rw [h2] at h1
  exact h1
theorem CG.cell0 {g : Option Nat} {w : World} {A : Option Addr} {n : Nat} {b : Int} {r : List Int} (h : CG g w A n (b :: r)) : ∃ ad, A = some ad ∧ w.cell? ad = some (.int .u8 b) := by
  have hl := Kd.C_len h.here
  obtain ⟨ad, ea, hx⟩ := Kd.at_int h.here 0 (by omega) (by simp at hl; omega)
  exact ⟨ad, ea, by have := hx; simpa [Addr.add, rd] using this⟩
set_option maxHeartbeats 1000000 in
set_option maxRecDepth 100000 in
theorem fail_calls (wrong : Bool) (e er : Int) (br n c : Nat) (g : Option Nat) (A : Option Addr) (bs : List Int) (w : World) (h : Rdr w br g A n c er bs) :
    Calls Tryd.prog 92 #[.pointer (some ⟨br, 0, none⟩), .bool wrong, .int .i64 e] w fun o w' => o = .returned (.tuple #[]) ∧ Rdr w' br g A n c (if er = 0 ∧ wrong = true then e else er) bs ∧ Frm (fun k => k = br) w w' := by
  have k0 := (blk_cell h.box 0).trans (rfl : _ = some (Value.slice A n c))
  have k1 := (blk_cell h.box 1).trans (rfl : _ = some (Value.int .i64 er))
  have f1 := blk_frozen h.box 1
  have H := Aside0.mk h
  clear h
  by_cases he : er = 0
  · cases wrong
    · subst he
      go_enter Tryd.func92, Tryd.ntmps92
      go_wp2_with fail
      go_end0
      exact ⟨rfl, H.out, Frm.refl _ _⟩
    · subst he
      go_enter Tryd.func92, Tryd.ntmps92
      go_wp2_with fail
      go_end0
      exact ⟨rfl, H.out.seterr e, Frm.of_set _ ⟨br, 1, none⟩ _⟩
  · go_enter Tryd.func92, Tryd.ntmps92
    go_wp2_with fail
    go_end0
    exact ⟨rfl, H.out, Frm.refl _ _⟩
/-- The first byte is looked at. -/
def kindR (k : Int) : List Int → List Int × Int
  | [] => ([], 11)
  | b :: r => (r, if b ≠ k then 14 else 0)
set_option maxHeartbeats 1000000 in
set_option maxRecDepth 100000 in
theorem kind_calls (k : Int) (br n c : Nat) (g : Option Nat) (A : Option Addr) (bs : List Int) (w : World) (hn : n ≤ 1000000000) (h : Rdr w br g A n c 0 bs) :
    Calls Tryd.prog 91 #[.pointer (some ⟨br, 0, none⟩), .int .u8 k] w fun o w' => o = .returned (.tuple #[]) ∧ RdrE w' br g n (kindR k bs).2 (kindR k bs).1 ∧ Frm (fun k => k = br) w w' := by
  have k0 := (blk_cell h.box 0).trans (rfl : _ = some (Value.slice A n c))
  have H := Aside0.mk h
  clear h
  cases bs with
  | nil =>
    obtain rfl : n = 0 := H.out.len.symm
    go_enter Tryd.func91, Tryd.ntmps91
    go_wp2_with fail
    refine (fail_calls _ 11 0 br 0 c g A [] _ H.out).mono ?_
    rintro o w1 ⟨rfl, hr, hf⟩
    rw [if_pos ⟨rfl, by simp⟩] at hr
    have k1 := (blk_cell hr.box 1).trans (rfl : _ = some (Value.int .i64 11))
    have HR := Aside0.mk hr
    have HF := Aside0.mk hf
    clear hr hf
    go_wp2_with fail
    refine bodyPost_ret (results_none rfl _ _ _) rfl ?_
    exact ⟨rfl, ⟨A, 0, c, Nat.le_refl _, HR.out⟩, HF.out⟩
  | cons b r =>
    obtain ⟨m, rfl⟩ : ∃ m, n = m + 1 := ⟨r.length, by have := H.out.len; simpa using this.symm⟩
    have hg : ¬ (((m + 1 : Nat) : Int) = 0) := by omega
    go_enter Tryd.func91, Tryd.ntmps91
    go_wp2_with fail
    refine (fail_calls _ 11 0 br (m + 1) c g A (b :: r) _ H.out).mono ?_
    rintro o w1 ⟨rfl, hr, hf⟩
    rw [if_neg (by simp; try omega)] at hr
    have k0 := (blk_cell hr.box 0).trans (rfl : _ = some (Value.slice A (m + 1) c))
    have k1 := (blk_cell hr.box 1).trans (rfl : _ = some (Value.int .i64 0))
    obtain ⟨ad, rfl, hx⟩ := CG.cell0 hr.all
    have HR := Aside0.mk hr
    have HF := Aside0.mk hf
    clear hr hf
    go_wp2_with fail
    refine (fail_calls _ 14 0 br (m + 1) c g (some ad) (b :: r) _ HR.out).mono ?_
    rintro o w2 ⟨rfl, hr, hf⟩
    have he : (if (0 : Int) = 0 ∧ (b != k) = true then (14 : Int) else 0) = (kindR k (b :: r)).2 := by
      simp only [kindR]
      by_cases hb : b = k <;> simp [hb]
    rw [he] at hr
    generalize hee : (kindR k (b :: r)).2 = er at *
    have k0 := (blk_cell hr.box 0).trans (rfl : _ = some (Value.slice (some ad) (m + 1) c))
    have f0 := blk_frozen hr.box 0
    have hcm := hr.cap
    have HR2 := Aside0.mk hr
    have HF2 := Aside0.mk (HF.out.trans hf (fun _ _ h => h))
    have hC : CG g w2 (if c = 1 then some ad else some ⟨ad.block, ad.off + 1, none⟩) m r := CG.drop (m := 1) HR2.out.all HR2.out.len (by omega) HR2.out.cap
    obtain ⟨ad1, hif⟩ : ∃ ad1 : Addr, (if c = 1 then some ad else some ⟨ad.block, ad.off + 1, none⟩) = some ad1 := by split <;> exact ⟨_, rfl⟩
    rw [hif] at hC
    have HC := Aside0.mk hC
    have HE := Aside0.mk hee
    clear hr hf he hx k1 hee hC
    go_wp2_with fail
    go_end0
    exact ⟨rfl, by rw [HE.out]; exact ⟨_, m, c - 1, by omega, Rdr.setb HR2.out (bs1 := r) (by have := HR2.out.len; simpa using this) (by omega) HC.out⟩, HF2.out.trans (Frm.of_set _ ⟨br, 0, none⟩ _) (fun _ _ h => h)⟩
end Go.Proofs.YtefnonlhepekdaaDoor.M
