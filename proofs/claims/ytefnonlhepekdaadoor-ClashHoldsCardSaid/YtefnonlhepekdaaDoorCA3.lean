/- proof.reader: fail, kind, number. The lowest set bit by Go's table; cut.Span. cut.Span. massifref4.Span. proof.PrefixPlaces, massifref7.PrefixPlaces. massifref7.PrefixPlaces. proof.EncodePrefix. massifref7.Put: hashes behind bytes. massifref7.Encode. massifref7.EncodePrefix. massiflaw7.awake. Rows of numbers: SameNumbers; massiflaw7.numbers, all; a row of one's own within a range of blocks. massiflaw7.row, text, marked, still, bytes; massifref7.SameHashes and massifref2.SameBytes of what is the same. massiflaw7.ProofWrites returns true: the walk. What bytes read as a proof, or as a prefix proof: plain facts, there and back. proof.reader: number. proof.reader: nodes. proof.Decode. hash.Sum of one part. massifref2.cutOff cuts as hash.cut does. massifref2.Compress: the walk. -/
import Derived.Test.YtefnonlhepekdaaDoorCA0
import Derived.Test.YtefnonlhepekdaaDoorCA2
import Derived.BigQuiet
import Derived.Deep.QuietTactic
import Derived.IntWalk
import Derived.Test.YtefnonlhepekdaaDoorCA1
import Derived.Deep.RegionHeld3
import Derived.Laws.Cover3
import Derived.StillTailTactics
set_option linter.unusedVariables false
set_option linter.unusedSimpArgs false
set_option linter.unusedVariables false
set_option linter.unusedSimpArgs false
namespace Go.Proofs.YtefnonlhepekdaaDoor.M
open Go.RowKit Go.Proofs.YtefnonlhepekdaaDoorW.PrintWords Go.Proofs.YtefnonlhepekdaaDoorW.PrintLast Go.Proofs.YtefnonlhepekdaaDoorW.PrintMore Go.Proofs.YtefnonlhepekdaaDoor.Leaf Go.Proofs.YtefnonlhepekdaaDoor.Lng

/-- Bytes that lie in block g (none: no bytes). -/
def CG (g : Option Nat) (w : World) (A : Option Addr) (n : Nat) (xs : List Int) : Prop := ∀ w' : World, (∀ k, g = some k → w'.heap[k]? = w.heap[k]?) → Kd.C (Kd.int .u8) w' A n xs
theorem CG.here {g : Option Nat} {w : World} {A : Option Addr} {n : Nat} {xs : List Int} (h : CG g w A n xs) : Kd.C (Kd.int .u8) w A n xs := h w (fun _ _ => rfl)
theorem CG.frm {g : Option Nat} {w w1 : World} {A : Option Addr} {n : Nat} {xs : List Int} (h : CG g w A n xs) {S : Nat → Prop} (hf : Frm S w w1) (hg : ∀ k, g = some k → k < w.heap.size ∧ ¬ S k) : CG g w1 A n xs :=
  fun w' hw => h w' (fun k hk => (hw k hk).trans (hf.block k (hg k hk).1 (hg k hk).2))
/-- A reader in its box br; what is left to read lies in block g. -/
structure Rdr (w : World) (br : Nat) (g : Option Nat) (A : Option Addr) (n c : Nat) (er : Int) (bs : List Int) : Prop where
  box : w.heap[br]? = some (.cells #[.slice A n c, .int .i64 er] 126 (0, 0))
  len : bs.length = n
  cap : n ≤ c
  all : CG g w A n bs
  far : ∀ k, g = some k → k < w.heap.size ∧ k ≠ br
theorem Rdr.frm {w w1 : World} {br : Nat} {g : Option Nat} {A A1 : Option Addr} {n c n1 c1 : Nat} {er er1 : Int} {bs bs1 : List Int} (h : Rdr w br g A n c er bs) (hf : Frm (fun k => k = br) w w1) (hb : w1.heap[br]? = some (.cells #[.slice A1 n1 c1, .int .i64 er1] 126 (0, 0)))
    (hl : bs1.length = n1) (hc : n1 ≤ c1) (hA : CG g w A1 n1 bs1) : Rdr w1 br g A1 n1 c1 er1 bs1 :=
  ⟨hb, hl, hc, hA.frm hf (fun k hk => ⟨(h.far k hk).1, (h.far k hk).2⟩), fun k hk => ⟨Nat.lt_of_lt_of_le (h.far k hk).1 hf.size, (h.far k hk).2⟩⟩
theorem Rdr.below {w w1 : World} {br : Nat} {g : Option Nat} {A : Option Addr} {n c : Nat} {er : Int} {bs : List Int} (h : Rdr w br g A n c er bs) (hb : Below w.heap.size w w1) : Rdr w1 br g A n c er bs :=
  h.frm (Frm.of_below hb _) ((hb.block _ (blk_lt h.box)).trans h.box) h.len h.cap h.all
theorem CG.drop {g : Option Nat} {w : World} {ad : Addr} {c m n : Nat} {xs : List Int} (h : CG g w (some ad) n xs) (hl : xs.length = n) (hm : m ≤ n) (hc : n ≤ c) : CG g w (if c = m then some ad else some (ad.add m)) (n - m) (xs.drop m) := by
  intro w' hw
  subst hl
  have h1 := Kd.C_drop (m := m) (c := c) (h w' hw) hm hc
  rw [List.length_drop] at h1
  have h2 : (if c = m then some ad else Option.map (fun x => x.add (m * (Kd.int IntKind.u8).sz)) (some ad)) = (if c = m then some ad else some (ad.add m)) := by
    rw [show (Kd.int IntKind.u8).sz = 1 from rfl, Nat.mul_one]
    rfl
  rw [h2] at h1
  exact h1
end Go.Proofs.YtefnonlhepekdaaDoor.M

set_option linter.unusedVariables false
set_option linter.unusedSimpArgs false
namespace Go.Proofs.YtefnonlhepekdaaDoor.M
open Go.RowKit Go.Proofs.YtefnonlhepekdaaDoorW.PrintWords Go.Proofs.YtefnonlhepekdaaDoorW.PrintLast Go.Proofs.YtefnonlhepekdaaDoorW.PrintMore Go.Proofs.YtefnonlhepekdaaDoor.Leaf

/-- Go's table for the lowest set bit. -/
def dbTab : List Nat := [0, 1, 56, 2, 57, 49, 28, 3, 61, 58, 42, 50, 38, 29, 17, 4, 62, 47, 59, 36, 45, 43, 51, 22, 53, 39, 33, 30, 24, 18, 12, 5, 63, 55, 48, 27, 60, 41, 37, 16, 46, 35, 44, 21, 52, 32, 23, 11, 54, 26, 40, 15, 34, 20, 31, 10, 25, 14, 19, 9, 13, 8, 7, 6]
/-- The table lies where the program lays it. -/
def DB (w : World) : Prop := ∀ (j : Nat) (k : Nat), dbTab[j]? = some k → w.cell? ⟨1, j, none⟩ = some (.int .u8 (k : Int))
theorem DB.below {w w' : World} (h : DB w) (hb : Below w.heap.size w w') : DB w' := fun j k hk => pw_cell_below hb (h j k hk)

end Go.Proofs.YtefnonlhepekdaaDoor.M

set_option linter.unusedVariables false
set_option linter.unusedSimpArgs false
namespace Go.Proofs.YtefnonlhepekdaaDoor.M
open Go.RowKit Go.Proofs.YtefnonlhepekdaaDoorW.PrintWords Go.Proofs.YtefnonlhepekdaaDoorW.PrintLast Go.Proofs.YtefnonlhepekdaaDoorW.PrintMore Go.Proofs.YtefnonlhepekdaaDoor.Leaf

end Go.Proofs.YtefnonlhepekdaaDoor.M

set_option linter.unusedVariables false
set_option linter.unusedSimpArgs false
namespace Go.Proofs.YtefnonlhepekdaaDoor.M
open Go.RowKit Go.Proofs.YtefnonlhepekdaaDoorW.PrintWords Go.Proofs.YtefnonlhepekdaaDoorW.PrintLast Go.Proofs.YtefnonlhepekdaaDoorW.PrintMore Go.Proofs.YtefnonlhepekdaaDoor.Leaf

end Go.Proofs.YtefnonlhepekdaaDoor.M

set_option linter.unusedVariables false
set_option linter.unusedSimpArgs false
namespace Go.Proofs.YtefnonlhepekdaaDoor.M
open Go.RowKit Go.Proofs.YtefnonlhepekdaaDoorW.PrintWords Go.Proofs.YtefnonlhepekdaaDoorW.PrintLast Go.Proofs.YtefnonlhepekdaaDoorW.PrintMore Go.Proofs.YtefnonlhepekdaaDoor.Leaf

end Go.Proofs.YtefnonlhepekdaaDoor.M

set_option linter.unusedVariables false
set_option linter.unusedSimpArgs false
namespace Go.Proofs.YtefnonlhepekdaaDoor.M
open Go.RowKit Go.Proofs.YtefnonlhepekdaaDoorW.PrintWords Go.Proofs.YtefnonlhepekdaaDoorW.PrintLast Go.Proofs.YtefnonlhepekdaaDoorW.PrintMore Go.Proofs.YtefnonlhepekdaaDoor.Leaf

end Go.Proofs.YtefnonlhepekdaaDoor.M

set_option linter.unusedVariables false
set_option linter.unusedSimpArgs false
namespace Go.Proofs.YtefnonlhepekdaaDoor.M
open Go.RowKit Go.Proofs.YtefnonlhepekdaaDoorW.PrintWords Go.Proofs.YtefnonlhepekdaaDoorW.PrintLast Go.Proofs.YtefnonlhepekdaaDoorW.PrintMore Go.Proofs.YtefnonlhepekdaaDoor.Leaf

end Go.Proofs.YtefnonlhepekdaaDoor.M

set_option linter.unusedVariables false
set_option linter.unusedSimpArgs false
namespace Go.Proofs.YtefnonlhepekdaaDoor.M
open Go.RowKit Go.Proofs.YtefnonlhepekdaaDoorW.PrintWords Go.Proofs.YtefnonlhepekdaaDoorW.PrintLast Go.Proofs.YtefnonlhepekdaaDoorW.PrintMore Go.Proofs.YtefnonlhepekdaaDoor.Leaf

end Go.Proofs.YtefnonlhepekdaaDoor.M

set_option linter.unusedVariables false
set_option linter.unusedSimpArgs false
namespace Go.Proofs.YtefnonlhepekdaaDoor.M
open Go.RowKit Go.Proofs.YtefnonlhepekdaaDoorW.PrintWords Go.Proofs.YtefnonlhepekdaaDoorW.PrintLast Go.Proofs.YtefnonlhepekdaaDoorW.PrintMore Go.Proofs.YtefnonlhepekdaaDoor.Leaf

end Go.Proofs.YtefnonlhepekdaaDoor.M

set_option linter.unusedVariables false
set_option linter.unusedSimpArgs false
namespace Go.Proofs.YtefnonlhepekdaaDoor.M
open Go.RowKit Go.Proofs.YtefnonlhepekdaaDoorW.PrintWords Go.Proofs.YtefnonlhepekdaaDoorW.PrintLast Go.Proofs.YtefnonlhepekdaaDoorW.PrintMore Go.Proofs.YtefnonlhepekdaaDoor.Leaf

end Go.Proofs.YtefnonlhepekdaaDoor.M

set_option linter.unusedVariables false
set_option linter.unusedSimpArgs false
namespace Go.Proofs.YtefnonlhepekdaaDoor.M
open Go.RowKit Go.Proofs.YtefnonlhepekdaaDoorW.PrintWords Go.Proofs.YtefnonlhepekdaaDoorW.PrintLast Go.Proofs.YtefnonlhepekdaaDoorW.PrintMore Go.Proofs.YtefnonlhepekdaaDoor.Leaf

end Go.Proofs.YtefnonlhepekdaaDoor.M

set_option linter.unusedVariables false
set_option linter.unusedSimpArgs false
namespace Go.Proofs.YtefnonlhepekdaaDoor.M
open Go.RowKit Go.Proofs.YtefnonlhepekdaaDoorW.PrintWords Go.Proofs.YtefnonlhepekdaaDoorW.PrintLast Go.Proofs.YtefnonlhepekdaaDoorW.PrintMore Go.Proofs.YtefnonlhepekdaaDoor.Leaf

/-- A row of numbers of the call's own, whose block is one of S. -/
def RwS {α : Type} (d : Kd α) (e : Nat) (w0 w : World) (S : Nat → Prop) (v : Value) (L : List α) : Prop :=
  d.R e w w0.heap.size (fun _ => True) v L ∧ ∀ k, v.ownBlock = some k → S k
theorem RwS.below {α : Type} {d : Kd α} {e : Nat} {w0 w w1 : World} {S : Nat → Prop} {v : Value} {L : List α} (h : RwS d e w0 w S v L) (hb : Below w.heap.size w w1) : RwS d e w0 w1 S v L := ⟨Kd.R_below h.1 hb, h.2⟩
theorem RwS.frm {α : Type} {d : Kd α} (hd : Flat d) {e : Nat} {w0 w w1 : World} {S T : Nat → Prop} {v : Value} {L : List α} (h : RwS d e w0 w S v L) (hf : Frm T w w1) (hs : ∀ k, S k → ¬ T k) : RwS d e w0 w1 S v L := ⟨R_frm hd h.1 hf (fun k hk => hs k (h.2 k hk)), h.2⟩
theorem RwS.mono {α : Type} {d : Kd α} {e : Nat} {w0 w : World} {S T : Nat → Prop} {v : Value} {L : List α} (h : RwS d e w0 w S v L) (hs : ∀ k, S k → T k) : RwS d e w0 w T v L := ⟨h.1, fun k hk => hs k (h.2 k hk)⟩
/-- What a call has made lies between the heap's ends. -/
theorem RwS.new {α : Type} {d : Kd α} {e : Nat} {w0 w w1 : World} {v : Value} {L : List α} (h : d.R e w1 w.heap.size (fun _ => True) v L) (hs : w0.heap.size ≤ w.heap.size) : RwS d e w0 w1 (fun k => w.heap.size ≤ k ∧ k < w1.heap.size) v L :=
  ⟨Kd.R_lower h hs, fun k hk => ⟨Kd.R_base h k hk, Kd.R_lt h k hk⟩⟩
theorem RwS.rd {k : IntKind} {e : Nat} {w0 w : World} {S : Nat → Prop} {v : Value} {L : List Int} (h : RwS (Kd.int k) e w0 w S v L) : Rd k w v L := Rd.of_R h.1

end Go.Proofs.YtefnonlhepekdaaDoor.M

set_option linter.unusedVariables false
set_option linter.unusedSimpArgs false
namespace Go.Proofs.YtefnonlhepekdaaDoor.M
open Go.RowKit Go.Proofs.YtefnonlhepekdaaDoorW.PrintWords Go.Proofs.YtefnonlhepekdaaDoorW.PrintLast Go.Proofs.YtefnonlhepekdaaDoorW.PrintMore Go.Proofs.YtefnonlhepekdaaDoor.Leaf

theorem Hd.of_R {e base : Nat} {w : World} {v : Value} {xs : List Hsh} (h : kH.R e w base (fun _ => True) v xs) : Hd w v xs := by
  obtain ⟨A, c, e1, hl, hc⟩ := Kd.R_reads h
  exact ⟨A, c, e1, hc⟩
theorem sameB_loop (xs ys : List Int) (hl : xs.length = ys.length) (hb : xs.length < 9223372036854775807) : ∀ (d i : Nat), i + d = xs.length → Ev (fun k => massifref2_SameBytes.l0 k xs ys (i : Int)) (decide (xs.drop i = ys.drop i))
  | 0, i, hi => by
    rw [List.drop_of_length_le (by omega), List.drop_of_length_le (by omega)]
    exact Ev.step (f := fun _ => some (decide (([] : List Int) = []))) (fun k => by simp only [massifref2_SameBytes.l0]; rw [if_neg (by omega)]; rfl) (Ev.now _)
  | d + 1, i, hi => by
    have h1 : i < xs.length := by omega
    have h2 : i < ys.length := by omega
    have ih := sameB_loop xs ys hl hb d (i + 1) (by omega)
    have e1 : wrap64 ((i : Int) + 1) = ((i + 1 : Nat) : Int) := by rw [i64_of _ (by omega) (by omega)]; omega
    have r1 : rd xs (i : Int) = xs[i] := by simp [rd, List.getD_eq_getElem?_getD, List.getElem?_eq_getElem h1]
    have r2 : rd ys (i : Int) = ys[i] := by simp [rd, List.getD_eq_getElem?_getD, List.getElem?_eq_getElem h2]
    rw [List.drop_eq_getElem_cons h1, List.drop_eq_getElem_cons h2]
    refine Ev.step (fun k => by simp only [massifref2_SameBytes.l0]; rw [if_pos (by omega), if_pos (by omega), if_pos (by omega), r1, r2, e1]) ?_
    by_cases c : xs[i] = ys[i]
    · refine Ev.congr (fun k => if_pos c) ?_
      rw [show decide (xs[i] :: xs.drop (i + 1) = ys[i] :: ys.drop (i + 1)) = decide (xs.drop (i + 1) = ys.drop (i + 1)) by apply decide_eq_decide.2; rw [List.cons.injEq]; exact ⟨fun h => h.2, fun h => ⟨c, h⟩⟩]
      exact ih
    · refine Ev.congr (fun k => if_neg c) ?_
      rw [decide_eq_false (fun h => c (List.cons.inj h).1)]
      exact Ev.now _
theorem sameB_val (xs ys : List Int) (hb : xs.length < 9223372036854775807) : Ev (fun k => massifref2_SameBytes.f k xs ys) (decide (xs = ys)) := by
  unfold massifref2_SameBytes.f
  by_cases c : xs.length = ys.length
  · exact Ev.congr (fun k => if_pos (by omega)) (sameB_loop xs ys c hb _ 0 (Nat.zero_add _))
  · refine Ev.congr (fun k => if_neg (by omega)) ?_
    rw [decide_eq_false (fun e => c (by rw [e]))]
    exact Ev.now _
theorem sameB_true {A0 A1 : Option Addr} {n0 n1 c0 c1 : Nat} {xs : List Int} {w : World} (h0 : Rd .u8 w (.slice A0 n0 c0) xs) (h1 : Rd .u8 w (.slice A1 n1 c1) xs) (hl : xs.length < 9223372036854775807) :
    Calls Tryd.prog 56 #[.slice A0 n0 c0, .slice A1 n1 c1] w fun e w' => e = .returned (.bool true) ∧ Drawn0 w w' := by
  obtain ⟨_, _, e0, hl0, hc0⟩ := h0
  obtain ⟨_, _, e1, hl1, hc1⟩ := h1
  injection e0 with a0 b0 d0
  injection e1 with a1 b1 d1
  subst a0 b0 d0 a1 b1 d1
  obtain ⟨k, hk⟩ := (sameB_val xs xs hl).rounds
  rw [decide_eq_true rfl] at hk
  exact massifref2_SameBytes.calls k _ _ _ _ _ _ _ w hc0 hl0 hc1 hl1 hk

end Go.Proofs.YtefnonlhepekdaaDoor.M

set_option linter.unusedVariables false
set_option linter.unusedSimpArgs false
namespace Go.Proofs.YtefnonlhepekdaaDoor.M
open Go.RowKit Go.Proofs.YtefnonlhepekdaaDoorW.PrintWords Go.Proofs.YtefnonlhepekdaaDoorW.PrintLast Go.Proofs.YtefnonlhepekdaaDoorW.PrintMore Go.Proofs.YtefnonlhepekdaaDoor.Leaf

end Go.Proofs.YtefnonlhepekdaaDoor.M

set_option linter.unusedVariables false
set_option linter.unusedSimpArgs false
namespace Go.Proofs.YtefnonlhepekdaaDoor.M
open Go.RowKit Go.Proofs.YtefnonlhepekdaaDoorW.PrintWords Go.Proofs.YtefnonlhepekdaaDoorW.PrintLast Go.Proofs.YtefnonlhepekdaaDoorW.PrintMore Go.Proofs.YtefnonlhepekdaaDoor.Leaf

theorem take_zero {r : List Int} {q : Nat} (h : (takeAns r q).2 = 0) : r.length = 32 * q ∧ (takeAns r q).1 = takeH q r := by
  unfold takeAns at h ⊢
  split at h
  · simp at h
  · next c1 =>
    split at h
    · simp at h
    · next c2 =>
      refine ⟨by omega, ?_⟩
      rw [if_neg c1, if_neg c2]
end Go.Proofs.YtefnonlhepekdaaDoor.M

set_option linter.unusedVariables false
set_option linter.unusedSimpArgs false
namespace Go.Proofs.YtefnonlhepekdaaDoor.M
open Go.RowKit Go.Proofs.YtefnonlhepekdaaDoorW.PrintWords Go.Proofs.YtefnonlhepekdaaDoorW.PrintLast Go.Proofs.YtefnonlhepekdaaDoorW.PrintMore Go.Proofs.YtefnonlhepekdaaDoor.Leaf Go.Proofs.YtefnonlhepekdaaDoor.Lng

end Go.Proofs.YtefnonlhepekdaaDoor.M

set_option linter.unusedVariables false
set_option linter.unusedSimpArgs false
namespace Go.Proofs.YtefnonlhepekdaaDoor.M
open Go.RowKit Go.Proofs.YtefnonlhepekdaaDoorW.PrintWords Go.Proofs.YtefnonlhepekdaaDoorW.PrintLast Go.Proofs.YtefnonlhepekdaaDoorW.PrintMore Go.Proofs.YtefnonlhepekdaaDoor.Leaf

end Go.Proofs.YtefnonlhepekdaaDoor.M

set_option linter.unusedVariables false
set_option linter.unusedSimpArgs false
namespace Go.Proofs.YtefnonlhepekdaaDoor.M
open Go.RowKit Go.Proofs.YtefnonlhepekdaaDoorW.PrintWords Go.Proofs.YtefnonlhepekdaaDoorW.PrintLast Go.Proofs.YtefnonlhepekdaaDoorW.PrintMore Go.Proofs.YtefnonlhepekdaaDoor.Leaf

theorem CG.of_C {w : World} {A : Option Addr} {n : Nat} {xs : List Int} (h : Kd.C (Kd.int .u8) w A n xs) : CG (A.map (fun a => a.block)) w A n xs := by
  intro w' hw
  obtain ⟨h1, h2, h3⟩ := h
  refine ⟨h1, h2, fun hn => ?_⟩
  obtain ⟨ad, rfl, hc⟩ := h3 hn
  refine ⟨ad, rfl, fun j x hx => ?_⟩
  obtain ⟨c, k1, k2, k3⟩ := hc j x hx
  refine ⟨c, k1, k2, fun i v hv => ?_⟩
  exact (World.cell?_of_block (a := ad.add (j * (Kd.int IntKind.u8).sz + i)) (by have := hw ad.block rfl; simp only [Addr.add]; split <;> exact this)).trans (k3 i v hv)
theorem CG.ex {w : World} {A : Option Addr} {n : Nat} {xs : List Int} (h : Kd.C (Kd.int .u8) w A n xs) : ∃ g, CG g w A n xs ∧ ∀ k, g = some k → k < w.heap.size := by
  by_cases hn : 0 < n
  · refine ⟨_, CG.of_C h, fun k hk => ?_⟩
    have hl := Kd.C_len h
    obtain ⟨ad, ea, hx⟩ := Kd.at_int h 0 (by omega) (by omega)
    subst ea
    obtain rfl : ad.block = k := Option.some.inj hk
    refine Decidable.by_contra (fun hc => ?_)
    have hnone : w.heap[ad.block]? = none := Array.getElem?_eq_none (by omega)
    simp [World.cell?, Addr.add, hnone] at hx
  · refine ⟨none, fun w' _ => ?_, fun k hk => by cases hk⟩
    obtain ⟨h1, h2, h3⟩ := h
    exact ⟨h1, h2, fun hn' => absurd hn' hn⟩
theorem CG.below {g : Option Nat} {w w1 : World} {A : Option Addr} {n : Nat} {xs : List Int} (h : CG g w A n xs) (hg : ∀ k, g = some k → k < w.heap.size) (hb : Below w.heap.size w w1) : CG g w1 A n xs :=
  h.frm (S := fun _ => False) (Frm.of_below hb _) (fun k hk => ⟨hg k hk, fun h => h⟩)
/-- A reader in a new box. -/
theorem Rdr.new {g : Option Nat} {w W : World} {A : Option Addr} {n c : Nat} {bs : List Int} (h : CG g w A n bs) (hg : ∀ k, g = some k → k < w.heap.size) (hl : bs.length = n) (hc : n ≤ c) (hb : Below w.heap.size w W) {b : Nat} (hB : b = W.heap.size) : Rdr (W.alloc (.cells #[.slice A n c, .int .i64 0] 126)) b g A n c 0 bs := by
  subst hB
  have h1 := (h.below hg hb).below (fun k hk => Nat.lt_of_lt_of_le (hg k hk) hb.size) (bl_new W (.cells #[.slice A n c, .int .i64 0] 126))
  exact ⟨heap_new W _, hl, hc, h1, fun k hk => ⟨by have := hg k hk; have := hb.size; simp; omega, by have := hg k hk; have := hb.size; omega⟩⟩
/-- In Decode: what stays, and the result's variable. -/
structure Dp (t : TypeId) (w w1 : World) : Prop where
  be : Below w.heap.size w w1
  res : w1.heap[w.heap.size]? = some (.cells #[.int .u64 0, .int .u64 0, .slice none 0 0] t (0, 0))
theorem Dp.frm {t : TypeId} {w w1 w2 : World} (h : Dp t w w1) (hf : Frm (fun k => k = w.heap.size + 1) w1 w2) : Dp t w w2 :=
  ⟨h.be.trans (hf.below h.be.size (fun k hk => by omega)), (hf.block _ (blk_lt h.res) (by omega)).trans h.res⟩
theorem Dp.below {t : TypeId} {w w1 w2 : World} (h : Dp t w w1) (hb : Below w1.heap.size w1 w2) : Dp t w w2 := ⟨blt h.be hb, (hb.block _ (blk_lt h.res)).trans h.res⟩
end Go.Proofs.YtefnonlhepekdaaDoor.M

set_option linter.unusedVariables false
set_option linter.unusedSimpArgs false
namespace Go.Proofs.YtefnonlhepekdaaDoor.M
open Go.RowKit Go.Proofs.YtefnonlhepekdaaDoorW.PrintWords Go.Proofs.YtefnonlhepekdaaDoorW.PrintLast Go.Proofs.YtefnonlhepekdaaDoorW.PrintMore Go.Proofs.YtefnonlhepekdaaDoor.Leaf

theorem HF.below {w w' : World} (h : HF w) (hb : Below w.heap.size w w') : HF w' := fun j v hv => pw_cell_below hb (h j v hv)
set_option maxHeartbeats 4000000 in
set_option maxRecDepth 100000 in
theorem sum1_calls (wd : Int) (bs : List Int) (A : Option Addr) (n c cp : Nat) (ad : Addr) (w : World) (hF : HF w) (hK : HK w) (hb : Bytes bs) (hl : bs.length ≤ 900000000) (hc : n ≤ c) (hc2 : c ≤ 9223372036854775807) (hC : Kd.C (Kd.int .u8) w A n bs) (hx : w.cell? ad = some (.slice A n c)) :
    Calls Tryd.prog 55 #[.int .i64 wd, .slice (some ad) 1 cp] w fun e w' => e = .returned (sumH wd bs).val ∧ Below w.heap.size w w' := by
  obtain ⟨g0, hg0, hgl⟩ := CG.ex hC
  have hb0 := bl_new w (.cells hashZ.cells.toArray 63)
  have HNew := Aside0.mk (new_calls wd _ (hF.below hb0))
  have HKw := Aside0.mk hK
  have HG0 := Aside0.mk (And.intro hg0 hgl)
  have HBy := Aside0.mk hb
  have HX := Aside0.mk hx
  clear hF hK hg0 hgl hb hC hx hb0
  go_enter Tryd.func55, Tryd.ntmps55
  go_wp2_with fail
  refine HNew.out.mono ?_
  rintro e w2 ⟨g, rfl, hg2, hb2, hgw⟩
  have hgw : w.heap.size + 1 ≤ g := by simpa using hgw
  have HB2 := Aside0.mk ((bl_new w (.cells hashZ.cells.toArray 63)).trans (hb2.mono (by simp)))
  have HR2 := Aside0.mk ((hb2.block w.heap.size (by simp)).trans (heap_new w (.cells hashZ.cells.toArray 63)))
  have HG2 := Aside0.mk hg2
  clear hb2 hg2 HNew
  go_wp2_with fail
  go_loopw [12] (fun s wr => ∃ j : Nat, j ≤ 1 ∧ s = .int .i64 j ∧ Aside0 (Hst wr g wd (if j = 0 then [] else bs)) ∧ Aside0 (Below w.heap.size w wr) ∧ Aside0 (wr.heap[w.heap.size]? = some (.cells hashZ.cells.toArray 63 (0, 0)))) (fun s _ => 1 - (intOf s).toNat)
  case atStart => exact ⟨0, by omega, rfl, ⟨by rw [if_pos rfl]; exact HG2.out⟩, HB2, HR2⟩
  case round =>
    obtain ⟨j, hj, rfl, HS, HB, HR⟩ := hrel
    clear HB2 HR2 HG2
    by_cases hj0 : j = 0
    · subst hj0
      have k1 := pw_cell_below HB.out HX.out
      have hS := HS.out
      rw [if_pos rfl] at hS
      have hkl := HKw.out.lt
      have HCc := fun W' (h : Frm (fun k => k = g) wr W') => ((HG0.out.1.below HG0.out.2 HB.out).frm h (fun k hk => ⟨Nat.lt_of_lt_of_le (HG0.out.2 k hk) HB.out.size, fun hS => by
        have hS : k = g := hS
        have := HG0.out.2 k hk
        omega⟩)).here
      have HKK := fun W' (h : Frm (fun k => k = g) wr W') => (HKw.out.below HB.out).frm h (fun hk => by
        have hk : 2 = g := hk
        omega)
      have hw := write_calls wd [] bs g A n c wr hS HBy.out (by simp; omega) hc hc2 HCc HKK
      rw [List.nil_append] at hw
      have HW := Aside0.mk hw
      clear hS HCc HKK hw
      go_wp2_with fail
      refine HW.out.mono ?_
      rintro e w4 ⟨rfl, hg4, hf4⟩
      have HS4 := Aside0.mk hg4
      have HB4 := Aside0.mk (HB.out.trans (hf4.below HB.out.size (fun k hk => by have hk : k = g := hk; omega)))
      have HR4 := Aside0.mk ((hf4.block _ (blk_lt HR.out) (by show ¬ (w.heap.size = g); omega)).trans HR.out)
      clear hg4 hf4
      go_wp2_with fail
      go_roundw
      case rel => exact ⟨1, Nat.le_refl _, by go_num, ⟨by rw [if_neg (by decide)]; exact HS4.out⟩, HB4, HR4⟩
      case measure => simp [intOf]
    · have hj1 : j = 1 := by omega
      subst hj1
      have hS := HS.out
      rw [if_neg (by decide)] at hS
      have HSs := Aside0.mk (hsum_calls g wd bs wr hS hl (HKw.out.below HB.out))
      have hone := Hsh.one' (sumH wd bs)
      clear hS
      go_wp2_with fail
      refine HSs.out.mono ?_
      rintro e w5 ⟨rfl, hb5⟩
      have HR5 := Aside0.mk ((hb5.block _ (blk_lt HR.out)).trans HR.out)
      have HB5 := Aside0.mk (blt HB.out hb5)
      clear hb5
      go_wp2_with ((with_reducible refine gate_store (t := 63) (p := 4) (v := .tmp 21) rfl ?_); go_loud (refine store_var 63 (sumH wd bs).cells rfl rfl (.tmp 4) (.tmp 21) rfl (by rw [Hsh.cells_len]; exact sizeH) (Hsh.one' _) w.heap.size 63 hashZ.cells HR5.out (by rw [Hsh.cells_len, Hsh.cells_len]) rfl rfl ?_; intro w7 hz7 hf7; have HZ7 := Aside0.mk hz7; have HF7 := Aside0.mk hf7; clear hz7 hf7))
      (try simp only [Exit.inBlock, Exit.then])
      refine bodyPost_ret (results_blk (fn := Tryd.f55) (p := 4) (ty := 63) rfl _ _ w.heap.size 63 (sumH wd bs).cells _ rfl HZ7.out Tryd.underlying63 rfl (by rw [Hsh.cells_len]; exact sizeH)) rfl ?_
      exact ⟨rfl, HB5.out.trans (HF7.out.below HB5.out.size (fun k hk => by have hk : k = w.heap.size := hk; omega))⟩
end Go.Proofs.YtefnonlhepekdaaDoor.M

set_option linter.unusedVariables false
set_option linter.unusedSimpArgs false
namespace Go.Proofs.YtefnonlhepekdaaDoor.M
open Go.RowKit Go.Proofs.YtefnonlhepekdaaDoorW.PrintWords Go.Proofs.YtefnonlhepekdaaDoorW.PrintLast Go.Proofs.YtefnonlhepekdaaDoorW.PrintMore Go.Proofs.YtefnonlhepekdaaDoor.Leaf

/-- Bytes, of which those from the k-th on have been cleared as far as the i-th. -/
def cutP (b : List Int) (k i : Nat) : List Int := b.take k ++ List.replicate (i - k) 0 ++ b.drop i
theorem cutP_len (b : List Int) (k i : Nat) (hb : b.length = 32) (hk : k ≤ i) (hi : i ≤ 32) : (cutP b k i).length = 32 := by
  simp [cutP, hb]
  omega
theorem cutP_zero (b : List Int) (k : Nat) : cutP b k k = b := by simp [cutP]
theorem cutP_all (b : List Int) (k : Nat) (hb : b.length = 32) : cutP b k 32 = b.take k ++ List.replicate (32 - k) 0 := by
  unfold cutP
  rw [List.drop_of_length_le (by omega), List.append_nil]
theorem cutP_set (b : List Int) (k i : Nat) (hb : b.length = 32) (hk : k ≤ i) (hi : i < 32) : (cutP b k i).set i 0 = cutP b k (i + 1) := by
  unfold cutP
  have h1 : (b.take k ++ List.replicate (i - k) (0 : Int)).length = i := by simp [hb]; omega
  rw [List.set_append_right _ _ (by omega), h1, Nat.sub_self, List.drop_eq_getElem_cons (by omega), List.set_cons_zero, show i + 1 - k = (i - k) + 1 by omega, List.replicate_succ', ← List.append_assoc, List.append_assoc]
  simp
theorem width_calls (wd : Int) (w : World) : Calls Tryd.prog 142 #[.int .i64 wd] w fun e w' => e = .returned (.int .i64 ((widN wd : Nat) : Int)) ∧ Drawn0 w w' := by
  refine massifref2_Width.calls wd ((widN wd : Nat) : Int) w ?_
  unfold massifref2_Width.f widN
  by_cases h1 : wd < 1
  · rw [if_pos h1]; congr 1; omega
  · rw [if_neg h1]
    by_cases h2 : wd > 32
    · rw [if_pos h2]; congr 1; omega
    · rw [if_neg h2]; congr 1; omega
set_option maxHeartbeats 4000000 in
set_option maxRecDepth 100000 in
theorem ref_cut_calls (wd : Int) (h : Hsh) (w : World) : Calls Tryd.prog 131 #[.int .i64 wd, .agg h.cells.toArray] w fun e w' => e = .returned (.agg (cutH wd h).cells.toArray) ∧ Below w.heap.size w w' := by
  have hone := Hsh.one' h
  have HW := Aside0.mk (fun W => width_calls wd W)
  go_enter Tryd.func131, Tryd.ntmps131
  go_wp2_with fail
  refine (HW.out _).mono ?_
  rintro e w1 ⟨rfl, hd⟩
  have hb := hd.below
  have HB1 := Aside0.mk (blt (w := w) (by repeat (with_reducible first | exact Below.refl _ _ | refine below_alloc ?_ _ | refine below_drew ?_)) hb)
  have c0 : Blk w1 w.heap.size 63 ((cutP h.b (widN wd) (widN wd)).map (Value.int .u8)) := by
    rw [cutP_zero]
    exact (hb.block w.heap.size (by simp; omega)).trans ((Below.heap_alloc _ _ _ (by simp)).trans (heap_new w _))
  have c1 : Blk w1 (w.heap.size + 1) 63 hashZ.cells := (hb.block (w.heap.size + 1) (by simp)).trans (heap_new2 _ _ (by simp))
  have HC0 := Aside0.mk c0
  have HC1 := Aside0.mk c1
  have hk := widN_le wd
  have hcut : (cutH wd h).cells = (h.b.take (widN wd) ++ List.replicate (32 - widN wd) 0).map (Value.int .u8) := rfl
  have HCut := Aside0.mk hcut
  have hone2 := Hsh.one' (cutH wd h)
  generalize widN wd = k at *
  clear hd hb c0 c1 hcut HW
  go_wp2_with fail
  go_loopw [5] (fun s wr => ∃ i : Nat, k ≤ i ∧ i ≤ 32 ∧ s = .int .i64 i ∧ Aside0 (Blk wr w.heap.size 63 ((cutP h.b k i).map (Value.int .u8))) ∧ Aside0 (Blk wr (w.heap.size + 1) 63 hashZ.cells) ∧ Aside0 (Below w.heap.size w wr)) (fun s _ => 32 - (intOf s).toNat)
  case atStart => exact ⟨k, Nat.le_refl _, hk, rfl, HC0, HC1, HB1⟩
  case round =>
    obtain ⟨i, hi, hi2, rfl, H0, H1, HB⟩ := hrel
    clear HC0 HC1 HB1
    by_cases hlt : i < 32
    · have hlen := cutP_len h.b k i h.len hi hi2
      obtain ⟨x, hx⟩ : ∃ x, ((cutP h.b k i).map (Value.int .u8))[i]? = some (.int .u8 x) := by
        rw [List.getElem?_map, List.getElem?_eq_getElem (by omega)]
        exact ⟨_, rfl⟩
      have k1 := H0.out.at hx
      have k2 := H0.out.frozen i
      have hset := H0.out.set i (.int .u8 0)
      rw [← List.map_set (f := Value.int .u8), cutP_set h.b k i h.len hi hlt] at hset
      have HS := Aside0.mk hset
      have HS1 := Aside0.mk (H1.out.frm (Frm.of_set wr ⟨w.heap.size, i, none⟩ (.int .u8 0)) (by show ¬ (w.heap.size + 1 = w.heap.size); omega))
      have HBs := Aside0.mk (HB.out.setCell (p := ⟨w.heap.size, i, none⟩) (Nat.le_refl _) (.int .u8 0))
      clear hx hset hlen
      go_wp2_with fail
      go_roundw
      case rel => exact ⟨i + 1, by omega, by omega, by go_num, HS, HS1, HBs⟩
      case measure => simp [intOf]; omega
    · obtain rfl : i = 32 := by omega
      have h0 := H0.out
      rw [cutP_all h.b k h.len, ← HCut.out] at h0
      have HL := Aside0.mk h0
      clear h0 H0
      go_wp2_with (first | ((with_reducible refine gate_dst (N := 14) rfl ?_); go_loud (refine load_var 63 _ rfl (.tmp 3) rfl w.heap.size 63 (cutH wd h).cells rfl HL.out Tryd.underlying63 rfl (by rw [Hsh.cells_len]; exact sizeH) ?_)) | ((with_reducible refine gate_store (t := 63) (p := 4) (v := .tmp 14) rfl ?_); go_loud (refine store_var 63 (cutH wd h).cells rfl rfl (.tmp 4) (.tmp 14) rfl (by rw [Hsh.cells_len]; exact sizeH) hone2 (w.heap.size + 1) 63 hashZ.cells H1.out (by rw [Hsh.cells_len, Hsh.cells_len]) rfl rfl ?_; intro w7 hz7 hf7; have HZ7 := Aside0.mk hz7; have HF7 := Aside0.mk hf7; clear hz7 hf7)))
      (try simp only [Exit.inBlock, Exit.then])
      refine bodyPost_ret (results_blk (fn := Tryd.f131) (p := 4) (ty := 63) rfl _ _ (w.heap.size + 1) 63 (cutH wd h).cells _ rfl HZ7.out Tryd.underlying63 rfl (by rw [Hsh.cells_len]; exact sizeH)) rfl ?_
      exact ⟨rfl, HB.out.trans (HF7.out.below HB.out.size (fun k hk => by have hk : k = w.heap.size + 1 := hk; omega))⟩
set_option maxHeartbeats 4000000 in
set_option maxRecDepth 100000 in
theorem ref_begin_calls (wd : Int) (w : World) : Calls Tryd.prog 123 #[.int .i64 wd] w fun e w' => e = .returned (.agg (begH wd).cells.toArray) ∧ Below w.heap.size w w' := by
  have HCl := Aside0.mk (fun W => ref_cut_calls wd begU W)
  have hone := Hsh.one' (begH wd)
  go_enter Tryd.func123, Tryd.ntmps123
  go_wp2_with fail
  refine (HCl.out _).mono ?_
  rintro e w1 ⟨rfl, hb⟩
  rw [beg_cut]
  have HR := Aside0.mk ((hb.block w.heap.size (by simp)).trans (heap_new w (.cells hashZ.cells.toArray 63)))
  have HB := Aside0.mk (blt (bl_new w (.cells hashZ.cells.toArray 63)) hb)
  clear hb HCl
  go_wp2_with ((with_reducible refine gate_store (t := 63) (p := 2) (v := .tmp 5) rfl ?_); go_loud (refine store_var 63 (begH wd).cells rfl rfl (.tmp 2) (.tmp 5) rfl (by rw [Hsh.cells_len]; exact sizeH) hone w.heap.size 63 hashZ.cells HR.out (by rw [Hsh.cells_len, Hsh.cells_len]) rfl rfl ?_; intro w7 hz7 hf7; have HZ7 := Aside0.mk hz7; have HF7 := Aside0.mk hf7; clear hz7 hf7))
  (try simp only [Exit.inBlock, Exit.then])
  refine bodyPost_ret (results_blk (fn := Tryd.f123) (p := 2) (ty := 63) rfl _ _ w.heap.size 63 (begH wd).cells _ rfl HZ7.out Tryd.underlying63 rfl (by rw [Hsh.cells_len]; exact sizeH)) rfl ?_
  exact ⟨rfl, HB.out.trans (HF7.out.below HB.out.size (fun k hk => by have hk : k = w.heap.size := hk; omega))⟩
end Go.Proofs.YtefnonlhepekdaaDoor.M

set_option linter.unusedVariables false
set_option linter.unusedSimpArgs false
namespace Go.Proofs.YtefnonlhepekdaaDoor.M
open Go.RowKit Go.Proofs.YtefnonlhepekdaaDoorW.PrintWords Go.Proofs.YtefnonlhepekdaaDoorW.PrintLast Go.Proofs.YtefnonlhepekdaaDoorW.PrintMore Go.Proofs.YtefnonlhepekdaaDoor.Leaf

/-- The eight words of a state lie in a block. -/
def SC (w : World) (g : Nat) (s : St) : Prop := ∀ i, i < 8 → w.cell? ⟨g, i, none⟩ = some (.int .u64 ((s.list.getD i 0 : Nat) : Int))
theorem SC.below {w w' : World} {g : Nat} {s : St} (h : SC w g s) (hb : Below w.heap.size w w') : SC w' g s := fun i hi => pw_cell_below hb (h i hi)
def su (s : St) : List Value := [.int .u64 (s.a : Int), .int .u64 (s.b : Int), .int .u64 (s.c : Int), .int .u64 (s.d : Int), .int .u64 (s.e : Int), .int .u64 (s.f : Int), .int .u64 (s.g : Int), .int .u64 (s.h : Int)]
theorem SC.of_blk {w : World} {g : Nat} {t : TypeId} {s : St} (h : Blk w g t (su s)) : SC w g s := fun i hi => by
  refine h.at ?_
  match i, hi with
  | 0, _ => rfl
  | 1, _ => rfl
  | 2, _ => rfl
  | 3, _ => rfl
  | 4, _ => rfl
  | 5, _ => rfl
  | 6, _ => rfl
  | 7, _ => rfl
theorem list_of (b : List Int) : wordsB b 8 = (stOf b).list := rfl
/-- The bytes of i words, and the last ones of one word more. -/
def outQ (O : List Nat) (i j : Nat) : List Int := (outP O i).take (4 * i + j) ++ (bytesW (O.getD i 0)).drop j ++ (outP O i).drop (4 * i + 4)
theorem outQ_four (O : List Nat) (i : Nat) : outQ O i 4 = outP O i := by
  unfold outQ
  rw [show (bytesW (O.getD i 0)).drop 4 = [] from rfl, List.append_nil, List.take_append_drop]
theorem outQ_zero (O : List Nat) (hO : O.length = 8) (i : Nat) (hi : i < 8) : outQ O i 0 = outP O (i + 1) := by
  rw [← outP_step O hO i hi]
  rfl
theorem bytesW_at (x j : Nat) (hj : j < 4) : (bytesW x).drop j = ((x / 256 ^ (3 - j) % 256 : Nat) : Int) :: (bytesW x).drop (j + 1) := by
  match j, hj with
  | 0, _ => rfl
  | 1, _ => rfl
  | 2, _ => rfl
  | 3, _ =>
    show ([((x % 256 : Nat) : Int)] : List Int) = [((x / 256 ^ 0 % 256 : Nat) : Int)]
    rw [Nat.pow_zero, Nat.div_one]
theorem outQ_set (O : List Nat) (hO : O.length = 8) (i j : Nat) (hi : i < 8) (hj : j < 4) : (outQ O i (j + 1)).set (4 * i + j) ((O.getD i 0 / 256 ^ (3 - j) % 256 : Nat) : Int) = outQ O i j := by
  have hl := outP_len O hO i (by omega)
  unfold outQ
  rw [bytesW_at _ j hj, show 4 * i + (j + 1) = 4 * i + j + 1 by omega, List.take_succ_eq_append_getElem (by omega), List.append_assoc, List.append_assoc, List.set_append_right _ _ (by rw [List.length_take]; omega), List.length_take, show 4 * i + j - min (4 * i + j) (outP O i).length = 0 by omega, List.append_assoc]
  rfl
theorem outQ_len (O : List Nat) (hO : O.length = 8) (i j : Nat) (hi : i < 8) (hj : j ≤ 4) : (outQ O i j).length = 32 := by
  have hl := outP_len O hO i (by omega)
  unfold outQ
  rw [List.length_append, List.length_append, List.length_take, List.length_drop, List.length_drop, hl, bytesW_len]
  omega
theorem mod256 (X : Nat) (h : X < 18446744073709551616) : ∃ y z : Nat, Int.tmod (X : Int) 256 = (y : Int) ∧ IntKind.u8.wrap (y : Int) = (y : Int) ∧ IntKind.u64.wrap (Int.tdiv (X : Int) 256) = (z : Int) ∧ y = X % 256 ∧ z = X / 256 := by
  refine ⟨X % 256, X / 256, ?_, ?_, ?_, rfl, rfl⟩
  · rw [Int.tmod_eq_emod_of_nonneg (by omega)]; omega
  · rw [IntKind.wrap_u8]; omega
  · rw [Int.tdiv_eq_ediv_of_nonneg (by omega), w64_of _ (by omega) (by omega)]; omega
theorem own_below {α : Type} {d : Kd α} {e : Nat} {w W w1 : World} {v : Value} {xs : List α} {B : Nat} (hr : d.R e W B (fun _ => True) v xs) (hb : Below B w W) (hf : Frm (fun k => some k = v.ownBlock) W w1) (hB : B ≤ W.heap.size) : Below B w w1 :=
  hb.trans (hf.below hB (fun k hk => Kd.R_base hr k hk.symm))
theorem blB {B : Nat} {w W W1 : World} (h : Below B w W) (hB : B ≤ w.heap.size) (k : Below W.heap.size W W1) : Below B w W1 := h.trans (k.mono (Nat.le_trans hB h.size))
set_option maxHeartbeats 40000000 in
set_option maxRecDepth 100000 in
theorem ref_compress_calls (wd : Int) (st : Hsh) (bk : Bk) (w : World) (hb : Bytes bk.b) (hs : Bytes st.b) :
    Calls Tryd.prog 124 #[.int .i64 wd, .agg st.cells.toArray, .agg bk.cells.toArray] w fun e w' => e = .returned (.agg (compH wd st bk.b).cells.toArray) ∧ Below w.heap.size w w' := by
  obtain ⟨ws, hws⟩ : ∃ ws, ws = wordsB bk.b 16 := ⟨_, rfl⟩
  have hwl : ws.length = 16 := by rw [hws]; simp [wordsB]
  have hwb : ∀ x ∈ ws, x < 4294967296 := by
    intro x hx
    rw [hws] at hx
    obtain ⟨i, _, rfl⟩ := List.mem_map.1 hx
    exact wordB_lt bk.b hb i
  have b0 := blk_newL w st.cells 63 (g := w.heap.size) rfl
  have b1 := blk_newL (w.alloc (.cells st.cells.toArray 63)) bk.cells 154 (g := w.heap.size + 1) (by simp)
  have b2 := blk_newL ((w.alloc (.cells st.cells.toArray 63)).alloc (.cells bk.cells.toArray 154)) [Value.int .u8 0, Value.int .u8 0, Value.int .u8 0, Value.int .u8 0, Value.int .u8 0, Value.int .u8 0, Value.int .u8 0, Value.int .u8 0, Value.int .u8 0, Value.int .u8 0, Value.int .u8 0, Value.int .u8 0, Value.int .u8 0, Value.int .u8 0, Value.int .u8 0, Value.int .u8 0, Value.int .u8 0, Value.int .u8 0, Value.int .u8 0, Value.int .u8 0, Value.int .u8 0, Value.int .u8 0, Value.int .u8 0, Value.int .u8 0, Value.int .u8 0, Value.int .u8 0, Value.int .u8 0, Value.int .u8 0, Value.int .u8 0, Value.int .u8 0, Value.int .u8 0, Value.int .u8 0] 63 (g := w.heap.size + 1 + 1) (by simp)
  have hb2 := bl_new ((w.alloc (.cells st.cells.toArray 63)).alloc (.cells bk.cells.toArray 154)) (.cells ([Value.int .u8 0, Value.int .u8 0, Value.int .u8 0, Value.int .u8 0, Value.int .u8 0, Value.int .u8 0, Value.int .u8 0, Value.int .u8 0, Value.int .u8 0, Value.int .u8 0, Value.int .u8 0, Value.int .u8 0, Value.int .u8 0, Value.int .u8 0, Value.int .u8 0, Value.int .u8 0, Value.int .u8 0, Value.int .u8 0, Value.int .u8 0, Value.int .u8 0, Value.int .u8 0, Value.int .u8 0, Value.int .u8 0, Value.int .u8 0, Value.int .u8 0, Value.int .u8 0, Value.int .u8 0, Value.int .u8 0, Value.int .u8 0, Value.int .u8 0, Value.int .u8 0, Value.int .u8 0]).toArray 63)
  have c0 := Blk.below (Blk.below b0 (bl_new _ (.cells bk.cells.toArray 154))) hb2
  have c1 := Blk.below b1 hb2
  have hbe : Below w.heap.size w (((w.alloc (.cells st.cells.toArray 63)).alloc (.cells bk.cells.toArray 154)).alloc (.cells ([Value.int .u8 0, Value.int .u8 0, Value.int .u8 0, Value.int .u8 0, Value.int .u8 0, Value.int .u8 0, Value.int .u8 0, Value.int .u8 0, Value.int .u8 0, Value.int .u8 0, Value.int .u8 0, Value.int .u8 0, Value.int .u8 0, Value.int .u8 0, Value.int .u8 0, Value.int .u8 0, Value.int .u8 0, Value.int .u8 0, Value.int .u8 0, Value.int .u8 0, Value.int .u8 0, Value.int .u8 0, Value.int .u8 0, Value.int .u8 0, Value.int .u8 0, Value.int .u8 0, Value.int .u8 0, Value.int .u8 0, Value.int .u8 0, Value.int .u8 0, Value.int .u8 0, Value.int .u8 0]).toArray 63)) := (by repeat (with_reducible first | exact Below.refl _ _ | refine below_alloc ?_ _ | refine below_drew ?_))
  have HWS := Aside0.mk hws
  have HWB := Aside0.mk hwb
  have HWL := Aside0.mk hwl
  have HBb := Aside0.mk hb
  have HSb := Aside0.mk hs
  clear hws hwl hwb hb hs b0 b1 hb2
  go_enter Tryd.func124, Tryd.ntmps124
  go_wp2_with fail
  generalize (((w.alloc (.cells st.cells.toArray 63)).alloc (.cells bk.cells.toArray 154)).alloc (.cells ([Value.int .u8 0, Value.int .u8 0, Value.int .u8 0, Value.int .u8 0, Value.int .u8 0, Value.int .u8 0, Value.int .u8 0, Value.int .u8 0, Value.int .u8 0, Value.int .u8 0, Value.int .u8 0, Value.int .u8 0, Value.int .u8 0, Value.int .u8 0, Value.int .u8 0, Value.int .u8 0, Value.int .u8 0, Value.int .u8 0, Value.int .u8 0, Value.int .u8 0, Value.int .u8 0, Value.int .u8 0, Value.int .u8 0, Value.int .u8 0, Value.int .u8 0, Value.int .u8 0, Value.int .u8 0, Value.int .u8 0, Value.int .u8 0, Value.int .u8 0, Value.int .u8 0, Value.int .u8 0]).toArray 63)) = W1 at *
  have C0 := Aside0.mk c0
  have C1 := Aside0.mk c1
  have b2 : Blk W1 (w.heap.size + 1 + 1) 63 [Value.int .u8 0, Value.int .u8 0, Value.int .u8 0, Value.int .u8 0, Value.int .u8 0, Value.int .u8 0, Value.int .u8 0, Value.int .u8 0, Value.int .u8 0, Value.int .u8 0, Value.int .u8 0, Value.int .u8 0, Value.int .u8 0, Value.int .u8 0, Value.int .u8 0, Value.int .u8 0, Value.int .u8 0, Value.int .u8 0, Value.int .u8 0, Value.int .u8 0, Value.int .u8 0, Value.int .u8 0, Value.int .u8 0, Value.int .u8 0, Value.int .u8 0, Value.int .u8 0, Value.int .u8 0, Value.int .u8 0, Value.int .u8 0, Value.int .u8 0, Value.int .u8 0, Value.int .u8 0] := b2
  have C2 := Aside0.mk b2
  have HBe := Aside0.mk hbe
  clear c0 c1 b2 hbe
  refine (massifref2_table.calls _ W1 rfl).mono ?_
  rintro e w2 ⟨v7, rfl, hr7, hb7⟩
  obtain ⟨A7, n7, c7, e9⟩ : ∃ A m c, v7 = .slice A m c := by obtain ⟨A, c, h⟩ := Kd.R_slice hr7; exact ⟨A, _, c, h⟩
  subst e9
  have hn7 : 64 = n7 := Kd.C_len (R_C hr7)
  subst hn7
  obtain ⟨ad7, ea7, -⟩ := C_at (R_C hr7) 0 (by omega)
  subst ea7
  have hk7 : Kd.C (Kd.int .u64) w2 (some ad7) 64 (natsI kTab) := R_C hr7
  have HK7 := Aside0.mk hk7
  replace C0 := Aside0.mk (C0.out.below hb7)
  replace C1 := Aside0.mk (C1.out.below hb7)
  replace C2 := Aside0.mk (C2.out.below hb7)
  replace HBe := Aside0.mk (blt HBe.out hb7)
  have hcw := Blk.bytes C1.out (by rw [bk.len]; omega)
  rw [bk.len] at hcw
  have HCW := Aside0.mk (words_calls bk.b HBb.out 16 bk.len (by omega) _ 64 64 w2 hcw (Nat.le_refl _))
  clear hr7 hb7 hk7 hcw
  go_wp2_with fail
  refine HCW.out.mono ?_
  rintro e w3 ⟨v8, rfl, hr8, hb8⟩
  rw [← HWS.out] at hr8
  obtain ⟨A8, n8, c8, e9⟩ : ∃ A m c, v8 = .slice A m c := by obtain ⟨A, c, h⟩ := Kd.R_slice hr8; exact ⟨A, _, c, h⟩
  subst e9
  have hn8 : 16 = n8 := by have := Kd.C_len (R_C hr8); rw [natsI_len, HWL.out] at this; exact this
  subst hn8
  obtain ⟨ad8, ea8, -⟩ := C_at (R_C hr8) 0 (by omega)
  subst ea8
  have HR8 := Aside0.mk hr8
  have HB8 := Aside0.mk hb8
  have n2 : w.heap.size + 1 + 1 < w2.heap.size := C2.out.lt
  clear hr8 hb8 HCW C1
  generalize hB : w2.heap.size = B at *
  have HBl := Aside0.mk (Nat.le_of_eq hB.symm)
  have HBq := Aside0.mk hB
  clear hB
  go_wp2_with fail
  go_loopw [8, 9] (fun s8 s9 wr => ∃ (t : Nat) (ad : Addr) (c : Nat), 16 ≤ t ∧ t ≤ 64 ∧ s8 = .slice (some ad) t c ∧ s9 = .int .i64 t ∧ Aside0 (Kd.R (Kd.int .u64) 30 wr B (fun _ => True) (.slice (some ad) t c) (natsI (schedN ws (t - 16)))) ∧ Aside0 (Below B w2 wr)) (fun _ s9 _ => 64 - (intOf s9).toNat)
  case atStart => exact ⟨16, ad8, c8, by omega, by omega, rfl, rfl, HR8, HB8⟩
  case round =>
    obtain ⟨t, ad, c, ht, ht2, rfl, rfl, HR, HB⟩ := hrel
    clear HR8 HB8
    by_cases hlt : t < 64
    · obtain ⟨L, hL⟩ : ∃ L, L = schedN ws (t - 16) := ⟨_, rfl⟩
      have hLb : ∀ x ∈ L, x < 4294967296 := hL ▸ sched_lt ws HWB.out _
      have hnext : schedN ws (t + 1 - 16) = L ++ [nextW L t] := by
        rw [hL, show t + 1 - 16 = (t - 16) + 1 by omega, schedN, show 16 + (t - 16) = t by omega]
      have hr := HR.out
      rw [← hL] at hr
      have hC := R_C hr
      have k2 := nat_cell hC (t - 2) (by omega)
      have k7 := nat_cell hC (t - 7) (by omega)
      have k15 := nat_cell hC (t - 15) (by omega)
      have k16 := nat_cell hC (t - 16) (by omega)
      have b2 := getD_lt hLb (t - 2)
      have b7 := getD_lt hLb (t - 7)
      have b15 := getD_lt hLb (t - 15)
      have b16 := getD_lt hLb (t - 16)
      unfold nextW at hnext
      generalize L.getD (t - 2) 0 = x2 at *
      generalize L.getD (t - 7) 0 = x7 at *
      generalize L.getD (t - 15) 0 = x15 at *
      generalize L.getD (t - 16) 0 = x16 at *
      obtain ⟨r1, r2, r3, H1, H2, H3, H4⟩ : ∃ r1 r2 r3 : Nat, CallsN 135 #[.int .u64 x2, .int .i64 17] r1 ∧ CallsN 135 #[.int .u64 x2, .int .i64 19] r2 ∧ CallsN 136 #[.int .u64 x2, .int .i64 10] r3 ∧ CallsN 134 #[.int .u64 r1, .int .u64 r2, .int .u64 r3] (sg1 x2) := sig_four x2 17 19 10 17 19 10 b2 (by omega) (by omega) (by omega) rfl rfl rfl
      obtain ⟨r4, r5, r6, H5, H6, H7, H8⟩ : ∃ r1 r2 r3 : Nat, CallsN 135 #[.int .u64 x15, .int .i64 7] r1 ∧ CallsN 135 #[.int .u64 x15, .int .i64 18] r2 ∧ CallsN 136 #[.int .u64 x15, .int .i64 3] r3 ∧ CallsN 134 #[.int .u64 r1, .int .u64 r2, .int .u64 r3] (sg0 x15) := sig_four x15 7 18 3 7 18 3 b15 (by omega) (by omega) (by omega) rfl rfl rfl
      have l1 := sg1_lt b2
      have l0 := sg0_lt b15
      generalize sg1 x2 = s1 at *
      generalize sg0 x15 = s0 at *
      obtain ⟨z1, z2, z3, z4, e1, e2, e3, e4, e5⟩ := add_four s1 x7 s0 x16 l1 b7 l0 b16
      rw [← e5] at hnext
      have HN := Aside0.mk hnext
      have HR1 := Aside0.mk hr
      have q2 : IntKind.i64.wrap ((t : Int) - 2) = ((t - 2 : Nat) : Int) := by rw [IntWalk.i64_in _ (by omega)]; omega
      have q7 : IntKind.i64.wrap ((t : Int) - 7) = ((t - 7 : Nat) : Int) := by rw [IntWalk.i64_in _ (by omega)]; omega
      have q15 : IntKind.i64.wrap ((t : Int) - 15) = ((t - 15 : Nat) : Int) := by rw [IntWalk.i64_in _ (by omega)]; omega
      have q16 : IntKind.i64.wrap ((t : Int) - 16) = ((t - 16 : Nat) : Int) := by rw [IntWalk.i64_in _ (by omega)]; omega
      have u2 : ((t - 2 : Nat) : Int) < (t : Int) := by omega
      have u7 : ((t - 7 : Nat) : Int) < (t : Int) := by omega
      have u15 : ((t - 15 : Nat) : Int) < (t : Int) := by omega
      have u16 : ((t - 16 : Nat) : Int) < (t : Int) := by omega
      generalize t - 2 = p2 at *
      generalize t - 7 = p7 at *
      generalize t - 15 = p15 at *
      generalize t - 16 = p16 at *
      clear hL hLb hnext hr hC HR e5 b2 b7 b15 b16 l0 l1
      go_wp2_with fail
      go_big_quiet (first | (with_reducible exact CallsN.quiet H1) | (with_reducible exact CallsN.quiet H2) | (with_reducible exact CallsN.quiet H3) | (with_reducible exact CallsN.quiet H4))
      have hd6 : Below wr.heap.size wr (wr.drewN nq) := pw_below_drewN (Below.refl _ _) nq
      replace k7 := pw_cell_below hd6 k7
      replace k15 := pw_cell_below hd6 k15
      replace k16 := pw_cell_below hd6 k16
      replace HR1 := Aside0.mk (Kd.R_below HR1.out hd6)
      replace HB := Aside0.mk (blB HB.out HBl.out hd6)
      clear k2 hd6 H1 H2 H3 H4
      generalize wr.drewN nq = w6 at *
      go_wp2_with fail
      go_big_quiet (first | (with_reducible exact CallsN.quiet H5) | (with_reducible exact CallsN.quiet H6) | (with_reducible exact CallsN.quiet H7) | (with_reducible exact CallsN.quiet H8))
      have hd7 : Below w6.heap.size w6 (w6.drewN nq) := pw_below_drewN (Below.refl _ _) nq
      replace k7 := pw_cell_below hd7 k7
      replace k16 := pw_cell_below hd7 k16
      replace HR1 := Aside0.mk (Kd.R_below HR1.out hd7)
      replace HB := Aside0.mk (blB HB.out HBl.out hd7)
      clear k15 hd7 H5 H6 H7 H8
      generalize w6.drewN nq = w7 at *
      go_wp2_with fail
      have e4' : (z3 : Int) % 4294967296 = (z4 : Int) := by rw [← e4, Int.tmod_eq_emod_of_nonneg (by omega)]
      have hd8 : Below w7.heap.size w7 w7.drew := below_drew (Below.refl _ _)
      replace HR1 := Aside0.mk (Kd.R_below HR1.out hd8)
      replace HB := Aside0.mk (blB HB.out HBl.out hd8)
      have hz8 : B ≤ w7.drew.heap.size := Nat.le_trans HBl.out HB.out.size
      have hLl : L.length ≤ 64 := by have := Kd.C_len (R_C HR1.out); rw [natsI_len] at this; omega
      have hLn : (natsI L).length ≤ 64 := by rw [natsI_len]; exact hLl
      clear hd8 hLl
      go_region_law ((go_loud (refine step_of_list rfl (app_oneN (Kd.int .u64) (W := w7.drew) B rfl (.tmp 68) (.tmp 85) 31 30 (.int .u64 0) 8 rfl Tryd.underlying31 info30 rfl (by decide) (by omega) (.slice (some ad) t c) (natsI L) (z4 : Int) [.int .u64 z4] rfl rfl rfl HR1.out hz8 (by omega) ?_)); intro A9 n9 c9 w9 hr9 hf9 ha9; refine ⟨rfl, ?_⟩; have HR9 := Aside0.mk hr9; have HB9 := Aside0.mk (own_below HR1.out HB.out hf9 hz8); clear hr9 hf9 ha9))
      all_goals (
        have hn9 := Kd.C_len (R_C HR9.out)
        rw [List.length_append, List.length_singleton] at hn9
        obtain ⟨ad9, ea9, -⟩ := C_at (R_C HR9.out) 0 (by omega)
        have hnl := Kd.C_len (R_C HR1.out)
        have hn9' : n9 = t + 1 := by rw [← hn9, hnl]
        subst ea9 hn9'
        go_wp2_with fail
        go_roundw
        case rel => exact ⟨t + 1, ad9, c9, by omega, by omega, rfl, by go_num, ⟨by rw [HN.out, natsI_app]; exact HR9.out⟩, HB9⟩
        case measure => simp [intOf]; omega)
    · have ht64 : t = 64 := by omega
      obtain ⟨M, hM⟩ : ∃ M, M = schedN ws 48 := ⟨_, rfl⟩
      have hr := HR.out
      rw [show t - 16 = 48 by omega, ← hM] at hr
      have hkm : Kd.C (Kd.int .u64) wr (some ad) t (natsI M) := R_C hr
      have hMb : ∀ x ∈ M, x < 4294967296 := hM ▸ sched_lt ws HWB.out _
      have hbb : Below w2.heap.size w2 wr := by rw [HBq.out]; exact HB.out
      have HKM := Aside0.mk hkm
      have HMb := Aside0.mk hMb
      have HM := Aside0.mk hM
      have HT := Aside0.mk ht64
      replace C0 := Aside0.mk (C0.out.below hbb)
      replace C2 := Aside0.mk (C2.out.below hbb)
      replace HK7 := Aside0.mk (Kd.C_below HK7.out hbb)
      replace HBe := Aside0.mk (blt HBe.out hbb)
      have hcw := Blk.bytes (l := st.b) C0.out (by rw [st.len]; omega)
      rw [st.len] at hcw
      have HCW := Aside0.mk (words_calls st.b HSb.out 8 st.len (by omega) _ 32 32 wr hcw (Nat.le_refl _))
      clear hr hkm hMb hM ht64 hbb hcw HR HB HBl HBq
      go_wp2_with fail
      refine HCW.out.mono ?_
      rintro e w4 ⟨v12, rfl, hr12, hb12⟩
      obtain ⟨A12, n12, c12, e9⟩ : ∃ A m c, v12 = .slice A m c := by obtain ⟨A, c, h⟩ := Kd.R_slice hr12; exact ⟨A, _, c, h⟩
      subst e9
      have hn12 : 8 = n12 := Kd.C_len (R_C hr12)
      subst hn12
      obtain ⟨ad12, ea12, -⟩ := C_at (R_C hr12) 0 (by omega)
      subst ea12
      have HK12 := Aside0.mk (R_C hr12)
      have n4 : w.heap.size + 1 + 1 < wr.heap.size := C2.out.lt
      replace C2 := Aside0.mk (C2.out.below hb12)
      replace HK7 := Aside0.mk (Kd.C_below HK7.out hb12)
      replace HKM := Aside0.mk (Kd.C_below HKM.out hb12)
      replace HBe := Aside0.mk (blt HBe.out hb12)
      have n5 : w.heap.size + 1 + 1 < w4.heap.size := C2.out.lt
      have hba := bl_new w4 (.cells #[] 30)
      have HBa := Aside0.mk hba
      have HRa := Aside0.mk (R_emptyK (Kd.int .u64) (e := 30) rfl (heap_new w4 (.cells #[] 30)) (Nat.le_refl w4.heap.size))
      have HCa := Aside0.mk (Kd.C_below HK12.out hba)
      have hza := hba.size
      have hnil : ([] : List Int).length = 0 := rfl
      clear hr12 hb12 hba HCW C0
      go_wp2_with ((with_reducible refine gate_builtin (b := .append) (xs := #[.tmp 89, .tmp 90]) rfl ?_); at_builtin; go_loud (refine app_rowN .u64 w4.heap.size rfl (.tmp 89) (.tmp 90) 31 30 (.int .u64 0) 8 rfl Tryd.underlying31 info30 rfl (by omega) (.slice (some ⟨w4.heap.size, 0, none⟩) 0 0) ([] : List Int) (natsI (wordsB st.b 8)) (some ad12) 8 c12 rfl rfl HRa.out HCa.out hza (by omega) ?_; intro A10 n10 c10 w10 hr10 hf10 ha10; have HB10 := Aside0.mk (own_below HRa.out HBa.out hf10 hza); rw [List.nil_append] at hr10; have HR10 := Aside0.mk hr10; have HF10 := Aside0.mk hf10; have HA10 := Aside0.mk ha10; clear hr10 hf10 ha10))
      obtain ⟨ad10, ea10, -⟩ : ∃ ad, A10 = some ad ∧ True := by
        obtain ⟨ad, h, _⟩ := C_at (R_C HR10.out) 0 (by have := Kd.C_len (R_C HR10.out); rw [natsI_len] at this; simp [wordsB] at this; omega)
        exact ⟨ad, h, trivial⟩
      subst ea10
      obtain ⟨gs0, egs⟩ := Kd.R_head HR10.out
      subst egs
      have hn10 : 8 = n10 := by have := Kd.C_len (R_C HR10.out); rw [natsI_len] at this; simpa [wordsB] using this
      subst hn10
      obtain ⟨s0, hs0⟩ : ∃ s0, s0 = stOf st.b := ⟨_, rfl⟩
      have hsc : SC w10 gs0 s0 := fun i hi => by
        have := nat_cell (R_C HR10.out) i hi
        rw [list_of, ← hs0, Go.WideShapes.add_plain, Nat.zero_add] at this
        exact this
      have hok0 : s0.ok := hs0 ▸ stOf_ok st.b HSb.out
      have HSC := Aside0.mk hsc
      have HOk := Aside0.mk hok0
      have HS0 := Aside0.mk hs0
      generalize hB4 : w4.heap.size = B4 at *
      have HBl := Aside0.mk (Nat.le_of_eq hB4.symm)
      have HBq := Aside0.mk hB4
      clear hsc hok0 hs0 hB4 HRa HCa HR10 HF10 HA10 HBa hza hnil
      go_loopw [13, 14] (fun s13 s14 wr => ∃ (t2 gs cs : Nat), t2 ≤ 64 ∧ s13 = .slice (some ⟨gs, 0, none⟩) 8 cs ∧ s14 = .int .i64 t2 ∧ Aside0 (SC wr gs (roundsN M s0 t2)) ∧ Aside0 (Below B4 w4 wr)) (fun _ s14 _ => 64 - (intOf s14).toNat)
      case atStart => exact ⟨0, gs0, c10, by omega, rfl, rfl, HSC, HB10⟩
      case round =>
        obtain ⟨t2, gs, cs, ht2, rfl, rfl, HS, HB⟩ := hrel
        clear HSC HB10
        by_cases hlt : t2 < 64
        · have hok := roundsN_ok HOk.out M t2
          have hnx : roundsN M s0 (t2 + 1) = roundN (roundsN M s0 t2) (kTab.getD t2 0) (M.getD t2 0) := rfl
          have hx := HS.out
          have hbb : Below w4.heap.size w4 wr := by rw [HBq.out]; exact HB.out
          have kt1 := nat_cell (Kd.C_below HK7.out hbb) t2 hlt
          have mt1 := nat_cell (Kd.C_below HKM.out hbb) t2 (by have := HT.out; omega)
          have bk := getD_lt kTab_lt t2
          have bm := getD_lt HMb.out t2
          have ut : (t2 : Int) < 64 := by omega
          have ut2 : (t2 : Int) < (t : Int) := by have := HT.out; omega
          generalize kTab.getD t2 0 = kt at *
          generalize M.getD t2 0 = mt at *
          obtain ⟨s, hs⟩ : ∃ s, s = roundsN M s0 t2 := ⟨_, rfl⟩
          rw [← hs] at hok hnx hx
          clear hs hbb
          obtain ⟨a, b, c_, d, e, f, g, hh⟩ := s
          obtain ⟨ba, bb, bc, bd, be, bf, bg, bh⟩ := hok
          simp only at ba bb bc bd be bf bg bh
          have q0 : wr.cell? ⟨gs, 0, none⟩ = some (.int .u64 (a : Int)) := hx 0 (by omega)
          have q1 : wr.cell? ⟨gs, 1, none⟩ = some (.int .u64 (b : Int)) := hx 1 (by omega)
          have q2 : wr.cell? ⟨gs, 2, none⟩ = some (.int .u64 (c_ : Int)) := hx 2 (by omega)
          have q3 : wr.cell? ⟨gs, 3, none⟩ = some (.int .u64 (d : Int)) := hx 3 (by omega)
          have q4 : wr.cell? ⟨gs, 4, none⟩ = some (.int .u64 (e : Int)) := hx 4 (by omega)
          have q5 : wr.cell? ⟨gs, 5, none⟩ = some (.int .u64 (f : Int)) := hx 5 (by omega)
          have q6 : wr.cell? ⟨gs, 6, none⟩ = some (.int .u64 (g : Int)) := hx 6 (by omega)
          have q7 : wr.cell? ⟨gs, 7, none⟩ = some (.int .u64 (hh : Int)) := hx 7 (by omega)
          obtain ⟨r1, r2, r3, H1, H2, H3, H4⟩ : ∃ r1 r2 r3 : Nat, CallsN 135 #[.int .u64 e, .int .i64 6] r1 ∧ CallsN 135 #[.int .u64 e, .int .i64 11] r2 ∧ CallsN 135 #[.int .u64 e, .int .i64 25] r3 ∧ CallsN 134 #[.int .u64 r1, .int .u64 r2, .int .u64 r3] (bg1 e) := big_four e 6 11 25 6 11 25 be (by omega) (by omega) (by omega) rfl rfl rfl
          obtain ⟨r4, r5, r6, H5, H6, H7, H8⟩ : ∃ r1 r2 r3 : Nat, CallsN 135 #[.int .u64 a, .int .i64 2] r1 ∧ CallsN 135 #[.int .u64 a, .int .i64 13] r2 ∧ CallsN 135 #[.int .u64 a, .int .i64 22] r3 ∧ CallsN 134 #[.int .u64 r1, .int .u64 r2, .int .u64 r3] (bg0 a) := big_four a 2 13 22 2 13 22 ba (by omega) (by omega) (by omega) rfl rfl rfl
          have HC1 : CallsN 137 #[.int .u64 e, .int .u64 f, .int .u64 g] (chN e f g) := CallsN.of (fun W => rch_calls e f g be bf bg W)
          have HC2 : CallsN 138 #[.int .u64 a, .int .u64 b, .int .u64 c_] (majN a b c_) := CallsN.of (fun W => rmaj_calls a b c_ ba bb bc W)
          have l1 := bg1_lt be
          have l0 := bg0_lt ba
          have l2 := chN_lt be bf bg
          have l3 := majN_lt ba bb bc
          unfold roundN t1N t2N at hnx
          simp only at hnx
          generalize bg1 e = g1 at *
          generalize bg0 a = g0 at *
          generalize chN e f g = cv at *
          generalize majN a b c_ = mv at *
          obtain ⟨y1, y2, y3, y4, t1, e1, e2, e3, e4, e5, e6⟩ := add_five hh g1 cv kt mt bh l1 l2 bk bm
          have lt1 : t1 < 4294967296 := by omega
          obtain ⟨y5, tt, f1, f2, f3, lt2⟩ := add_two g0 mv l0 l3
          rw [← e6, ← f3] at hnx
          obtain ⟨y6, na, i1, i2, i3, _⟩ := add_two t1 tt lt1 lt2
          obtain ⟨y7, ne, j1, j2, j3, _⟩ := add_two d t1 bd lt1
          rw [← i3, ← j3] at hnx
          have HN := Aside0.mk hnx
          have e5' : (y4 : Int) % 4294967296 = (t1 : Int) := by rw [← e5, Int.tmod_eq_emod_of_nonneg (by omega)]
          have f2' : (y5 : Int) % 4294967296 = (tt : Int) := by rw [← f2, Int.tmod_eq_emod_of_nonneg (by omega)]
          have i2' : (y6 : Int) % 4294967296 = (na : Int) := by rw [← i2, Int.tmod_eq_emod_of_nonneg (by omega)]
          have j2' : (y7 : Int) % 4294967296 = (ne : Int) := by rw [← j2, Int.tmod_eq_emod_of_nonneg (by omega)]
          clear hx hnx e6 f3 i3 j3 ba bb bc bd be bf bg bh bk bm l0 l1 l2 l3 lt1 lt2 HS
          go_wp2_with fail
          go_big_quiet (first | (with_reducible exact CallsN.quiet H1) | (with_reducible exact CallsN.quiet H2) | (with_reducible exact CallsN.quiet H3) | (with_reducible exact CallsN.quiet H4))
          have hd1 : Below wr.heap.size wr (wr.drewN nq) := pw_below_drewN (Below.refl _ _) nq
          replace q0 := pw_cell_below hd1 q0
          replace q1 := pw_cell_below hd1 q1
          replace q2 := pw_cell_below hd1 q2
          replace q3 := pw_cell_below hd1 q3
          replace q4 := pw_cell_below hd1 q4
          replace q5 := pw_cell_below hd1 q5
          replace q6 := pw_cell_below hd1 q6
          replace q7 := pw_cell_below hd1 q7
          replace kt1 := pw_cell_below hd1 kt1
          replace mt1 := pw_cell_below hd1 mt1
          replace HB := Aside0.mk (blB HB.out HBl.out hd1)
          clear hd1 H1 H2 H3 H4
          generalize wr.drewN nq = v1 at *
          go_wp2_with fail
          go_big_quiet (with_reducible exact CallsN.quiet HC1)
          have hd1 : Below v1.heap.size v1 (v1.drewN nq) := pw_below_drewN (Below.refl _ _) nq
          replace q0 := pw_cell_below hd1 q0
          replace q1 := pw_cell_below hd1 q1
          replace q2 := pw_cell_below hd1 q2
          replace q3 := pw_cell_below hd1 q3
          replace q4 := pw_cell_below hd1 q4
          replace q5 := pw_cell_below hd1 q5
          replace q6 := pw_cell_below hd1 q6
          replace q7 := pw_cell_below hd1 q7
          replace kt1 := pw_cell_below hd1 kt1
          replace mt1 := pw_cell_below hd1 mt1
          replace HB := Aside0.mk (blB HB.out HBl.out hd1)
          clear hd1 HC1 e1 e2 e3 e4 e5 e5'
          generalize v1.drewN nq = v2 at *
          go_wp2_with fail
          go_big_quiet (first | (with_reducible exact CallsN.quiet H5) | (with_reducible exact CallsN.quiet H6) | (with_reducible exact CallsN.quiet H7) | (with_reducible exact CallsN.quiet H8))
          have hd1 : Below v2.heap.size v2 (v2.drewN nq) := pw_below_drewN (Below.refl _ _) nq
          replace q0 := pw_cell_below hd1 q0
          replace q1 := pw_cell_below hd1 q1
          replace q2 := pw_cell_below hd1 q2
          replace q3 := pw_cell_below hd1 q3
          replace q4 := pw_cell_below hd1 q4
          replace q5 := pw_cell_below hd1 q5
          replace q6 := pw_cell_below hd1 q6
          replace q7 := pw_cell_below hd1 q7
          replace kt1 := pw_cell_below hd1 kt1
          replace mt1 := pw_cell_below hd1 mt1
          replace HB := Aside0.mk (blB HB.out HBl.out hd1)
          clear hd1 H5 H6 H7 H8
          generalize v2.drewN nq = v3 at *
          go_wp2_with fail
          go_big_quiet (with_reducible exact CallsN.quiet HC2)
          have hd1 : Below v3.heap.size v3 (v3.drewN nq) := pw_below_drewN (Below.refl _ _) nq
          replace q0 := pw_cell_below hd1 q0
          replace q1 := pw_cell_below hd1 q1
          replace q2 := pw_cell_below hd1 q2
          replace q3 := pw_cell_below hd1 q3
          replace q4 := pw_cell_below hd1 q4
          replace q5 := pw_cell_below hd1 q5
          replace q6 := pw_cell_below hd1 q6
          replace q7 := pw_cell_below hd1 q7
          replace kt1 := pw_cell_below hd1 kt1
          replace mt1 := pw_cell_below hd1 mt1
          replace HB := Aside0.mk (blB HB.out HBl.out hd1)
          clear hd1 HC2 f1 f2 f2'
          generalize v3.drewN nq = v4 at *
          go_wp2_with fail
          go_still_tail 28, (by kernel_rfl)
          change wpList _ _ _ _ _ v4.drew
          have hd1 : Below v4.heap.size v4 v4.drew := below_drew (Below.refl _ _)
          replace q0 := pw_cell_below hd1 q0
          replace q1 := pw_cell_below hd1 q1
          replace q2 := pw_cell_below hd1 q2
          replace q3 := pw_cell_below hd1 q3
          replace q4 := pw_cell_below hd1 q4
          replace q5 := pw_cell_below hd1 q5
          replace q6 := pw_cell_below hd1 q6
          replace q7 := pw_cell_below hd1 q7
          replace kt1 := pw_cell_below hd1 kt1
          replace mt1 := pw_cell_below hd1 mt1
          replace HB := Aside0.mk (blB HB.out HBl.out hd1)
          clear hd1 i1 i2 i2' j1 j2 j2' q0 q1 q2 q3 q4 q5 q6 q7 kt1 mt1
          generalize v4.drew = v5 at *
          go_wp2_with fail
          have hsu : SC (v5.alloc (.cells (su ⟨na, a, b, c_, ne, e, f, g⟩).toArray 30)) v5.heap.size (roundsN M s0 (t2 + 1)) := by
            rw [HN.out]
            exact SC.of_blk (s := ⟨na, a, b, c_, ne, e, f, g⟩) (blk_newL v5 (su ⟨na, a, b, c_, ne, e, f, g⟩) 30 (g := v5.heap.size) rfl)
          have HSu := Aside0.mk hsu
          have HBu := Aside0.mk (blB HB.out HBl.out (bl_new v5 (.cells (su ⟨na, a, b, c_, ne, e, f, g⟩).toArray 30)))
          clear hsu
          go_roundw
          case rel => exact ⟨t2 + 1, v5.heap.size, 8, by omega, rfl, by go_num, HSu, HBu⟩
          case measure => simp [intOf]; omega
        · rename World => w30
          have hs64 := HS.out
          rw [show t2 = 64 by omega] at hs64
          obtain ⟨sF, hsF⟩ : ∃ sF, sF = roundsN M s0 64 := ⟨_, rfl⟩
          rw [← hsF] at hs64
          have hokF : sF.ok := hsF ▸ roundsN_ok HOk.out M 64
          obtain ⟨O, hO⟩ : ∃ O, O = addS s0 sF := ⟨_, rfl⟩
          have hOl : O.length = 8 := by rw [hO]; rfl
          have hcomp : compB st.b bk.b = outP O 8 := by
            rw [outP_all O hOl, hO, hsF, HM.out, HWS.out, HS0.out]
            rfl
          have hbb : Below w4.heap.size w4 w30 := by rw [HBq.out]; exact HB.out
          have HSF := Aside0.mk hs64
          have HOF := Aside0.mk hokF
          have HO := Aside0.mk hO
          have HOl := Aside0.mk hOl
          have HCp := Aside0.mk hcomp
          have h12 := Kd.C_below HK12.out (Below.refl _ _)
          have HK := Aside0.mk (Kd.C_below HK12.out hbb)
          have HC2 := Aside0.mk (C2.out.below hbb)
          have HBw := Aside0.mk (blt HBe.out hbb)
          have n6 : w.heap.size + 1 + 1 < w30.heap.size := HC2.out.lt
          have hbr := bl_new w30 (.cells ([Value.int .u8 0, Value.int .u8 0, Value.int .u8 0, Value.int .u8 0, Value.int .u8 0, Value.int .u8 0, Value.int .u8 0, Value.int .u8 0, Value.int .u8 0, Value.int .u8 0, Value.int .u8 0, Value.int .u8 0, Value.int .u8 0, Value.int .u8 0, Value.int .u8 0, Value.int .u8 0, Value.int .u8 0, Value.int .u8 0, Value.int .u8 0, Value.int .u8 0, Value.int .u8 0, Value.int .u8 0, Value.int .u8 0, Value.int .u8 0, Value.int .u8 0, Value.int .u8 0, Value.int .u8 0, Value.int .u8 0, Value.int .u8 0, Value.int .u8 0, Value.int .u8 0, Value.int .u8 0]).toArray 63)
          have HB3 := Aside0.mk hbr
          have D := Aside0.mk (show Blk (w30.alloc (.cells ([Value.int .u8 0, Value.int .u8 0, Value.int .u8 0, Value.int .u8 0, Value.int .u8 0, Value.int .u8 0, Value.int .u8 0, Value.int .u8 0, Value.int .u8 0, Value.int .u8 0, Value.int .u8 0, Value.int .u8 0, Value.int .u8 0, Value.int .u8 0, Value.int .u8 0, Value.int .u8 0, Value.int .u8 0, Value.int .u8 0, Value.int .u8 0, Value.int .u8 0, Value.int .u8 0, Value.int .u8 0, Value.int .u8 0, Value.int .u8 0, Value.int .u8 0, Value.int .u8 0, Value.int .u8 0, Value.int .u8 0, Value.int .u8 0, Value.int .u8 0, Value.int .u8 0, Value.int .u8 0]).toArray 63)) w30.heap.size 63 ((outP O 0).map (Value.int .u8)) from blk_newL w30 [Value.int .u8 0, Value.int .u8 0, Value.int .u8 0, Value.int .u8 0, Value.int .u8 0, Value.int .u8 0, Value.int .u8 0, Value.int .u8 0, Value.int .u8 0, Value.int .u8 0, Value.int .u8 0, Value.int .u8 0, Value.int .u8 0, Value.int .u8 0, Value.int .u8 0, Value.int .u8 0, Value.int .u8 0, Value.int .u8 0, Value.int .u8 0, Value.int .u8 0, Value.int .u8 0, Value.int .u8 0, Value.int .u8 0, Value.int .u8 0, Value.int .u8 0, Value.int .u8 0, Value.int .u8 0, Value.int .u8 0, Value.int .u8 0, Value.int .u8 0, Value.int .u8 0, Value.int .u8 0] 63 rfl)
          clear hs64 hsF hokF hO hOl hcomp hbb h12 hbr HS HB HM HKM HMb HK7 HSb HBb HWS HWB HWL HT C2 HBe HK12
          go_wp2_with fail
          generalize w30.alloc (.cells ([Value.int .u8 0, Value.int .u8 0, Value.int .u8 0, Value.int .u8 0, Value.int .u8 0, Value.int .u8 0, Value.int .u8 0, Value.int .u8 0, Value.int .u8 0, Value.int .u8 0, Value.int .u8 0, Value.int .u8 0, Value.int .u8 0, Value.int .u8 0, Value.int .u8 0, Value.int .u8 0, Value.int .u8 0, Value.int .u8 0, Value.int .u8 0, Value.int .u8 0, Value.int .u8 0, Value.int .u8 0, Value.int .u8 0, Value.int .u8 0, Value.int .u8 0, Value.int .u8 0, Value.int .u8 0, Value.int .u8 0, Value.int .u8 0, Value.int .u8 0, Value.int .u8 0, Value.int .u8 0]).toArray 63) = W19 at *
          go_loopw [20] (fun s wq => ∃ i : Nat, i ≤ 8 ∧ s = .int .i64 i ∧ Aside0 (Blk wq w30.heap.size 63 ((outP O i).map (Value.int .u8))) ∧ Aside0 (Below w30.heap.size w30 wq)) (fun s _ => 8 - (intOf s).toNat)
          case atStart => exact ⟨0, Nat.zero_le _, rfl, D, HB3⟩
          case round =>
            obtain ⟨i, hi, rfl, HD, HB⟩ := hrel
            clear D HB3
            by_cases hlt : i < 8
            · have kv := nat_cell (Kd.C_below HK.out HB.out) i hlt
              have ks := (HSF.out.below HB.out) i hlt
              have ks' : wr.cell? ((⟨gs, 0, none⟩ : Addr).add i) = some (.int .u64 ((sF.list.getD i 0 : Nat) : Int)) := by
                rw [Go.WideShapes.add_plain, Nat.zero_add]
                exact ks
              have hg := addS_get s0 sF i hlt
              rw [← HO.out] at hg
              rw [list_of, ← HS0.out] at kv
              have b1 := list_lt HOk.out i
              have b2 := list_lt HOF.out i
              generalize s0.list.getD i 0 = va at *
              generalize sF.list.getD i 0 = sa at *
              obtain ⟨y, x, e1, e2, e3, e4⟩ := add_two va sa b1 b2
              have e2' : (y : Int) % 4294967296 = (x : Int) := by rw [← e2, Int.tmod_eq_emod_of_nonneg (by omega)]
              rw [← e3] at hg
              have HG := Aside0.mk hg
              clear hg e3 b1 b2
              go_wp2_with fail
              go_big_quiet (fail)
              have hd1 : Below wr.heap.size wr (wr.drewN nq) := pw_below_drewN (Below.refl _ _) nq
              replace HD := Aside0.mk (HD.out.below hd1)
              replace HB := Aside0.mk (blt HB.out hd1)
              clear hd1 kv ks ks' e1 e2 e2'
              generalize wr.drewN nq = w31 at *
              go_wp2_with fail
              go_loopw [21, 22] (fun s21 s22 wq => ∃ (j : Nat) (z : Int) (X : Nat), j ≤ 4 ∧ s21 = .int .u64 X ∧ s22 = .int .i64 z ∧ Aside0 (z = (j : Int) - 1) ∧ Aside0 (X = x / 256 ^ (4 - j)) ∧ Aside0 (Blk wq w30.heap.size 63 ((outQ O i j).map (Value.int .u8))) ∧ Aside0 (Below w30.heap.size w30 wq)) (fun _ s22 _ => (intOf s22 + 1).toNat)
              case atStart => exact ⟨4, 3, x, by omega, rfl, rfl, ⟨by omega⟩, ⟨by rw [Nat.sub_self, Nat.pow_zero, Nat.div_one]⟩, ⟨by rw [outQ_four]; exact HD.out⟩, HB⟩
              case round =>
                obtain ⟨j, z, X, hj, rfl, rfl, HZ, HX, HQ, HBq2⟩ := hrel
                clear HD HB
                by_cases hj0 : j = 0
                · subst hj0
                  have hz : z = -1 := by have := HZ.out; omega
                  subst hz
                  have HD2 := HQ.out
                  rw [outQ_zero O HOl.out i hlt] at HD2
                  have HD3 := Aside0.mk HD2
                  clear HD2 HQ
                  go_wp2_with fail
                  go_roundw
                  case rel => exact ⟨i + 1, by omega, by go_num, HD3, HBq2⟩
                  case measure => simp [intOf]; omega
                · obtain ⟨k, rfl⟩ : ∃ k, j = k + 1 := ⟨j - 1, by omega⟩
                  have hz : z = (k : Int) := by have := HZ.out; omega
                  subst hz
                  have hxl : X < 18446744073709551616 := by
                    have h1 : x / 256 ^ (4 - (k + 1)) ≤ x := Nat.div_le_self _ _
                    have h2 := HX.out
                    omega
                  obtain ⟨y2, z2, f1, f2, f3, f4, f5⟩ := mod256 X hxl
                  have f1' : (X : Int) % 256 = (y2 : Int) := by rw [← f1, Int.tmod_eq_emod_of_nonneg (by omega)]
                  have f3' : IntKind.u64.wrap ((X : Int) / 256) = (z2 : Int) := by rw [← f3, Int.tdiv_eq_ediv_of_nonneg (by omega)]
                  have hy2 : y2 = O.getD i 0 / 256 ^ (3 - k) % 256 := by rw [f4, HX.out, HG.out, show 4 - (k + 1) = 3 - k by omega]
                  have hz2 : z2 = x / 256 ^ (4 - k) := by rw [f5, HX.out, Nat.div_div_eq_div_mul, ← Nat.pow_succ, show (4 - (k + 1)).succ = 4 - k by omega]
                  have hlen := outQ_len O HOl.out i (k + 1) hlt hj
                  have g1 : IntKind.i64.wrap (4 * (i : Int)) = ((4 * i : Nat) : Int) := by rw [IntWalk.i64_in _ (by omega)]; omega
                  have g2 : IntKind.i64.wrap (((4 * i : Nat) : Int) + (k : Int)) = ((4 * i + k : Nat) : Int) := by rw [IntWalk.i64_in _ (by omega)]; omega
                  have g3 : ((4 * i + k : Nat) : Int) < 32 := by omega
                  obtain ⟨u, hu⟩ : ∃ u, ((outQ O i (k + 1)).map (Value.int .u8))[4 * i + k]? = some (.int .u8 u) := by
                    rw [List.getElem?_map, List.getElem?_eq_getElem (by omega)]
                    exact ⟨_, rfl⟩
                  have m1 := HQ.out.at hu
                  have m2 := HQ.out.frozen (4 * i + k)
                  have m3 := HQ.out.set (4 * i + k) (.int .u8 (y2 : Int))
                  rw [← List.map_set (f := Value.int .u8), hy2, outQ_set O HOl.out i k hlt (by omega), ← hy2] at m3
                  have M3 := Aside0.mk m3
                  have M4 := Aside0.mk (HBq2.out.setCell (p := ⟨w30.heap.size, 4 * i + k, none⟩) (Nat.le_refl _) (.int .u8 (y2 : Int)))
                  have HZ2 := Aside0.mk hz2
                  generalize 4 * i + k = pk at *
                  generalize 4 * i = pi at *
                  clear m3 hu hlen hy2 hz2 f4 f5 hxl HQ HBq2 HX HZ
                  go_wp2_with fail
                  go_roundw
                  case rel => exact ⟨k, (k : Int) - 1, z2, by omega, rfl, rfl, ⟨rfl⟩, HZ2, M3, M4⟩
                  case measure => simp [intOf]
            · have hd8 := HD.out
              rw [show i = 8 by omega, ← HCp.out] at hd8
              obtain ⟨h, hh⟩ : ∃ h : Hsh, h = ⟨compB st.b bk.b, compB_len _ _⟩ := ⟨_, rfl⟩
              have hcells : (compB st.b bk.b).map (Value.int .u8) = h.cells := by rw [hh]; rfl
              have hcut : cutH wd h = compH wd st bk.b := by rw [hh]; rfl
              rw [hcells] at hd8
              have HL := Aside0.mk hd8
              have HC6 := Aside0.mk (HC2.out.below HB.out)
              have HBf := Aside0.mk (blt HBw.out HB.out)
              have HCut := Aside0.mk (fun W => ref_cut_calls wd h W)
              have hone := Hsh.one' (compH wd st bk.b)
              rw [hcut] at HCut
              clear hd8 hh hcells hcut HD HB HC2 HBw HK HSF HOF HO HOl HCp
              go_wp2_with ((with_reducible refine gate_dst (N := 220) rfl ?_); go_loud (refine load_var 63 _ rfl (.tmp 19) rfl w30.heap.size 63 h.cells rfl HL.out Tryd.underlying63 rfl (by rw [Hsh.cells_len]; exact sizeH) ?_))
              refine (HCut.out _).mono ?_
              rintro e w32 ⟨rfl, hb32⟩
              replace HC6 := Aside0.mk (HC6.out.below hb32)
              replace HBf := Aside0.mk (blt HBf.out hb32)
              clear hb32 HL HCut
              go_wp2_with ((with_reducible refine gate_store (t := 63) (p := 6) (v := .tmp 221) rfl ?_); go_loud (refine store_var 63 (compH wd st bk.b).cells rfl rfl (.tmp 6) (.tmp 221) rfl (by rw [Hsh.cells_len]; exact sizeH) hone (w.heap.size + 1 + 1) 63 [Value.int .u8 0, Value.int .u8 0, Value.int .u8 0, Value.int .u8 0, Value.int .u8 0, Value.int .u8 0, Value.int .u8 0, Value.int .u8 0, Value.int .u8 0, Value.int .u8 0, Value.int .u8 0, Value.int .u8 0, Value.int .u8 0, Value.int .u8 0, Value.int .u8 0, Value.int .u8 0, Value.int .u8 0, Value.int .u8 0, Value.int .u8 0, Value.int .u8 0, Value.int .u8 0, Value.int .u8 0, Value.int .u8 0, Value.int .u8 0, Value.int .u8 0, Value.int .u8 0, Value.int .u8 0, Value.int .u8 0, Value.int .u8 0, Value.int .u8 0, Value.int .u8 0, Value.int .u8 0] HC6.out (by rw [Hsh.cells_len]; rfl) rfl rfl ?_; intro w7 hz7 hf7; have HZ7 := Aside0.mk hz7; have HF7 := Aside0.mk hf7; clear hz7 hf7))
              (try simp only [Exit.inBlock, Exit.then])
              refine bodyPost_ret (results_blk (fn := Tryd.f124) (p := 6) (ty := 63) rfl _ _ (w.heap.size + 1 + 1) 63 (compH wd st bk.b).cells _ rfl HZ7.out Tryd.underlying63 rfl (by rw [Hsh.cells_len]; exact sizeH)) rfl ?_
              exact ⟨rfl, HBf.out.trans (HF7.out.below HBf.out.size (fun k hk => by have hk : k = w.heap.size + 1 + 1 := hk; omega))⟩
end Go.Proofs.YtefnonlhepekdaaDoor.M
