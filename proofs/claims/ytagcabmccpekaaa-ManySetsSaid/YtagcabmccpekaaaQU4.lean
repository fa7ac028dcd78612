/- massiflaw20.awake. massiflaw20.SpanPlaces returns true. slices.Delete of one number of a row of the call's own. proof.Places. proof.write and proof.Encode. massiflaw7.awake. What massiflaw7.ProofSets asks of a proof's places, as plain facts; the law's walk. What massiflaw20.SpanSets asks of a span's places, as plain facts. massiflaw10.awake. What massiflaw10.ManyOne asks, as plain facts; the law's walk. -/
import Derived.Test.YtagcabmccpekaaaQU3
import Derived.Test.YtagcabmccpekaaaQU0
import Derived.Shelf.RegionOpenPlain
import Derived.Deep.RegionLaw
import Derived.Lib.SliceRun
import Derived.Test.YtagcabmccpekaaaQU2
import Derived.Test.YtagcabmccpekaaaQU1
set_option linter.unusedVariables false
set_option linter.unusedSimpArgs false
namespace Go.Proofs.Ytagcabmccpekaaa.M
open Go.RowKit Go.Proofs.YtagcabmccpekaaaW.PrintWords Go.Proofs.YtagcabmccpekaaaW.PrintLast Go.Proofs.YtagcabmccpekaaaW.PrintMore Go.Proofs.Ytagcabmccpekaaa.Leaf

theorem awake20_places : spanAns 1 3 7 = ([0, 4, 9, 10], 0) := by decide +kernel
theorem awake20_bytes : encAns 0 2 3 [hash1 7] = ([83, 3, 0, 2, 7, 0, 0, 0, 0, 0, 0, 0, 0, 0, 0, 0, 0, 0, 0, 0, 0, 0, 0, 0, 0, 0, 0, 0, 0, 0, 0, 0, 0, 0, 0, 0], 0) := by decide +kernel

set_option maxHeartbeats 1000000 in
set_option maxRecDepth 100000 in
theorem awake20 (w : World) : Calls Try.prog 14 #[] w fun e w' => e = .returned (.bool true) ∧ Below w.heap.size w w' := by
  have hp := span_places 1 3 7
  rw [awake20_places] at hp
  have HP := Aside0.mk hp
  clear hp
  go_enter Try.func14, Try.ntmps14
  go_wp2_with fail
  refine (HP.out _).mono ?_
  rintro e w1 ⟨v1, rfl, hr, hb⟩
  obtain ⟨A1, c1, e1, _, hC⟩ := Kd.R_reads hr
  obtain ⟨ad, ea, _⟩ := Kd.at_int hC 0 (by omega) (by simp)
  subst ea
  rw [e1]
  have HC := Aside0.mk hC
  have HB := Aside0.mk hb
  clear hr hb hC e1
  have he := span_encode 0 2 3 1 [hash1 7] (some ⟨w1.heap.size, 0, none⟩) (w1.alloc (.cells (hash1 7).cells.toArray 73)) (by omega) (by omega) (by omega) (C_hash_one (heap_new w1 _))
  rw [awake20_bytes] at he
  have HEn := Aside0.mk he
  clear he
  go_wp2_with fail
  refine HEn.out.mono ?_
  rintro e w2 ⟨v2, rfl, hr2, hb2⟩
  have hb3 : Below w1.heap.size w1 w2 := (bl_new w1 _).trans (hb2.mono (by simp))
  obtain ⟨A2, c2, e2, _, hC2⟩ := Kd.R_reads hr2
  obtain ⟨ad2, ea2, k5⟩ := Kd.at_int hC2 0 (by omega) (by simp)
  subst ea2
  rw [e2]
  have at1 : ∀ i : Nat, i < 4 → w2.cell? (ad.add i) = some (.int .u64 (rd [0, 4, 9, 10] i)) := fun i hi => by
    obtain ⟨ad', ea', hx⟩ := Kd.at_int (Kd.C_below HC.out hb3) (i : Int) (by omega) (by simp; omega)
    injection ea' with ea'
    subst ea'
    exact hx
  have at2 : ∀ i : Nat, i < 36 → w2.cell? (ad2.add i) = some (.int .u8 (rd [83, 3, 0, 2, 7, 0, 0, 0, 0, 0, 0, 0, 0, 0, 0, 0, 0, 0, 0, 0, 0, 0, 0, 0, 0, 0, 0, 0, 0, 0, 0, 0, 0, 0, 0, 0] i)) := fun i hi => by
    obtain ⟨ad', ea', hx⟩ := Kd.at_int hC2 (i : Int) (by omega) (by simp; omega)
    injection ea' with ea'
    subst ea'
    exact hx
  have a0 : w2.cell? (ad.add 0) = some (.int .u64 0) := at1 0 (by omega)
  have a1 : w2.cell? ⟨ad.block, ad.off + 1, none⟩ = some (.int .u64 4) := at1 1 (by omega)
  have a2 : w2.cell? ⟨ad.block, ad.off + 2, none⟩ = some (.int .u64 9) := at1 2 (by omega)
  have b0 : w2.cell? (ad2.add 0) = some (.int .u8 83) := at2 0 (by omega)
  have b3 : w2.cell? ⟨ad2.block, ad2.off + 3, none⟩ = some (.int .u8 2) := at2 3 (by omega)
  have b4 : w2.cell? ⟨ad2.block, ad2.off + 4, none⟩ = some (.int .u8 7) := at2 4 (by omega)
  have a0' : w2.cell? ad = some (.int .u64 0) := by have := a0; rwa [show ad.add 0 = ad by simp [Addr.add]] at this
  have b0' : w2.cell? ad2 = some (.int .u8 83) := by have := b0; rwa [show ad2.add 0 = ad2 by simp [Addr.add]] at this
  have HB3 := Aside0.mk hb3
  clear hr2 hb2 hb3 hC2 e2 at1 at2 HC HEn
  go_wp2
  go_ret
  exact ⟨rfl, HB.out.trans (HB3.out.mono HB.out.size)⟩
end Go.Proofs.Ytagcabmccpekaaa.M

namespace Go.Proofs.Ytagcabmccpekaaa.M
open Go.RowKit Go.Proofs.YtagcabmccpekaaaW.PrintWords Go.Proofs.YtagcabmccpekaaaW.PrintLast Go.Proofs.YtagcabmccpekaaaW.PrintMore Go.Proofs.Ytagcabmccpekaaa.Leaf

theorem ref20_calls (f t n : Nat) (w : World) :
    Calls Try.prog 11 #[.int .u64 f, .int .u64 t, .int .u64 n] w fun e w' => ∃ v, e = .returned (.tuple #[v, .int .i64 (spanAns f t n).2]) ∧ Kd.R (Kd.int .u64) 22 w' w.heap.size (fun _ => True) v (spanAns f t n).1 ∧ Below w.heap.size w w' := by
  obtain ⟨k, hk⟩ := (ref20_places f t n).rounds
  exact massifref20_Places.calls k _ _ _ _ _ w hk
theorem same_calls {A0 A1 : Option Addr} {n0 n1 c0 c1 : Nat} {xs ys : List Int} {w : World} (h0 : Rd .u64 w (.slice A0 n0 c0) xs) (h1 : Rd .u64 w (.slice A1 n1 c1) ys) (hl : xs.length ≤ 1000000000) :
    Calls Try.prog 13 #[.slice A0 n0 c0, .slice A1 n1 c1] w fun e w' => e = .returned (.bool (decide (xs = ys))) ∧ Drawn0 w w' := by
  obtain ⟨_, _, e0, hl0, hc0⟩ := h0
  obtain ⟨_, _, e1, hl1, hc1⟩ := h1
  injection e0 with a0 b0 d0
  injection e1 with a1 b1 d1
  subst a0 b0 d0 a1 b1 d1
  obtain ⟨k, hk⟩ := (same_val xs ys (by omega)).rounds
  exact massifref7_SameNumbers.calls k _ _ _ _ _ _ _ w hc0 hl0 hc1 hl1 hk
theorem same_true {A0 A1 : Option Addr} {n0 n1 c0 c1 : Nat} {xs : List Int} {w : World} (h0 : Rd .u64 w (.slice A0 n0 c0) xs) (h1 : Rd .u64 w (.slice A1 n1 c1) xs) (hl : xs.length ≤ 1000000000) :
    Calls Try.prog 13 #[.slice A0 n0 c0, .slice A1 n1 c1] w fun e w' => e = .returned (.bool true) ∧ Drawn0 w w' := by
  refine (same_calls h0 h1 hl).mono ?_
  rintro e w' ⟨he, hd⟩
  rw [decide_eq_true rfl] at he
  exact ⟨he, hd⟩

/-- Numbers, the first j of which have been marked. -/
def mk (x : Int) (L : List Int) (j : Nat) : List Int := List.replicate j x ++ L.drop j
theorem mk_len (x : Int) (L : List Int) (j : Nat) (hj : j ≤ L.length) : (mk x L j).length = L.length := by simp [mk]; omega
theorem mk_set (x : Int) (L : List Int) (j : Nat) (hj : j < L.length) : (mk x L j).set j x = mk x L (j + 1) := by
  unfold mk
  rw [List.drop_eq_getElem_cons hj, List.set_append_right _ _ (by simp), List.length_replicate, Nat.sub_self, List.set_cons_zero, List.replicate_succ', List.append_assoc]
  rfl
theorem mk_all (x : Int) (L : List Int) : mk x L L.length = List.replicate L.length x := by simp [mk]
theorem mk_zero (x : Int) (L : List Int) : mk x L 0 = L := by simp [mk]
/-- Two values that own no block together. -/
def Apart (u v : Value) : Prop := ∀ k, u.ownBlock = some k → v.ownBlock ≠ some k
theorem Apart.symm {u v : Value} (h : Apart u v) : Apart v u := fun k h1 h2 => h k h2 h1
theorem apart_new {α β : Type} {d : Kd α} {d' : Kd β} {e e' base : Nat} {w w1 : World} {u v : Value} {xs : List α} {ys : List β} {ok ok' : Nat → Prop} (h : d.R e w base ok u xs) (h' : d'.R e' w1 w.heap.size ok' v ys) : Apart u v :=
  fun k h1 h2 => by have := Kd.R_lt h k h1; have := Kd.R_base h' k h2; omega
theorem R_below' {α : Type} {d : Kd α} {e base : Nat} {ok : Nat → Prop} {w w1 : World} {v : Value} {xs : List α} (h : d.R e w base ok v xs) (hb : Below w.heap.size w w1) : d.R e w1 base ok v xs := Kd.R_below h hb

/-- The world in the first loop of SpanPlaces: j numbers of a and b have been marked. -/
def SpL1 (w : World) (va vb vw : Value) (L : List Int) (j : Nat) (wr : World) : Prop :=
  Kd.R (Kd.int .u64) 22 wr w.heap.size (fun _ => True) va (mk 201 L j) ∧ Kd.R (Kd.int .u64) 22 wr w.heap.size (fun _ => True) vb (mk 202 L j) ∧
    Kd.R (Kd.int .u64) 22 wr w.heap.size (fun _ => True) vw L ∧ Below w.heap.size w wr
theorem SpL1.next {w : World} {ga gb na nb ca cb : Nat} {vw : Value} {L : List Int} {j : Nat} {wr : World} (h : SpL1 w (.slice (some ⟨ga, 0, none⟩) na ca) (.slice (some ⟨gb, 0, none⟩) nb cb) vw L j wr) (hj : j < L.length)
    (hab : Apart (.slice (some ⟨ga, 0, none⟩) na ca) (.slice (some ⟨gb, 0, none⟩) nb cb)) (haw : Apart vw (.slice (some ⟨ga, 0, none⟩) na ca)) (hbw : Apart vw (.slice (some ⟨gb, 0, none⟩) nb cb)) :
    SpL1 w (.slice (some ⟨ga, 0, none⟩) na ca) (.slice (some ⟨gb, 0, none⟩) nb cb) vw L (j + 1) ((wr.setCell ⟨ga, j, none⟩ (.int .u64 201)).setCell ⟨gb, j, none⟩ (.int .u64 202)) := by
  obtain ⟨h1, h2, h3, h4⟩ := h
  have oa : ∀ n c, (Value.slice (some ⟨ga, 0, none⟩) n c).ownBlock = some ga := fun _ _ => by simp [Value.ownBlock]
  have ob : ∀ n c, (Value.slice (some ⟨gb, 0, none⟩) n c).ownBlock = some gb := fun _ _ => by simp [Value.ownBlock]
  have hne : ga ≠ gb := fun he => hab ga (oa _ _) (by rw [ob, he])
  have s1 := Kd.R_putn h1 (j : Int) (201 : Int)
  rw [Int.toNat_natCast, mk_set 201 L j hj] at s1
  have f1 := Frm.of_set wr ⟨ga, j, none⟩ (.int .u64 201)
  have f2 := Frm.of_set (wr.setCell ⟨ga, j, none⟩ (.int .u64 201)) ⟨gb, j, none⟩ (.int .u64 202)
  have h2' := R_frm (flat_int .u64) h2 f1 (fun k hk he => by rw [ob] at hk; injection hk with hk; exact hne (by rw [hk]; exact he.symm))
  have s2 := Kd.R_putn h2' (j : Int) (202 : Int)
  rw [Int.toNat_natCast, mk_set 202 L j hj] at s2
  refine ⟨R_frm (flat_int .u64) s1 f2 (fun k hk he => by rw [oa] at hk; injection hk with hk; exact hne (by rw [hk]; exact he)), s2,
    R_frm (flat_int .u64) (R_frm (flat_int .u64) h3 f1 (fun k hk he => haw k hk (by rw [oa, he]))) f2 (fun k hk he => hbw k hk (by rw [ob, he])), ?_⟩
  have hba := Kd.R_base h1 ga (oa _ _)
  have hbb := Kd.R_base h2 gb (ob _ _)
  exact (h4.setCell hba _).setCell hbb _
theorem SpL1.drewN {w : World} {va vb vw : Value} {L : List Int} {j : Nat} {wr : World} (h : SpL1 w va vb vw L j wr) (n : Nat) : SpL1 w va vb vw L j (wr.drewN n) :=
  ⟨Kd.R_drewN h.1 n, Kd.R_drewN h.2.1 n, Kd.R_drewN h.2.2.1 n, pw_below_drewN h.2.2.2 n⟩
/-- The cells that a round of the first loop writes. -/
theorem SpL1.form {w : World} {Aa Ab : Option Addr} {na nb ca cb : Nat} {vw : Value} {L : List Int} {j : Nat} {wr : World} (h : SpL1 w (.slice Aa na ca) (.slice Ab nb cb) vw L j wr) (hj : j < L.length)
    (hab : Apart (.slice Aa na ca) (.slice Ab nb cb)) : ∃ ga gb, Aa = some ⟨ga, 0, none⟩ ∧ Ab = some ⟨gb, 0, none⟩ ∧ ga ≠ gb ∧ (∃ x : Int, wr.cell? ⟨ga, j, none⟩ = some (.int .u64 x)) ∧ wr.frozen? ⟨ga, j, none⟩ = false ∧
      (∀ u, ∃ x : Int, (wr.setCell ⟨ga, j, none⟩ u).cell? ⟨gb, j, none⟩ = some (.int .u64 x)) ∧ (∀ u, (wr.setCell ⟨ga, j, none⟩ u).frozen? ⟨gb, j, none⟩ = false) := by
  obtain ⟨h1, h2, h3, h4⟩ := h
  have l1 := mk_len 201 L j (by omega)
  have l2 := mk_len 202 L j (by omega)
  obtain ⟨ga, cap, ea, _, _, _⟩ := Kd.R_form h1 (by omega)
  obtain ⟨gb, capb, eb, _, _, _⟩ := Kd.R_form h2 (by omega)
  injection ea with ea1 ea2 ea3
  injection eb with eb1 eb2 eb3
  subst ea1 ea2 ea3 eb1 eb2 eb3
  have hne : ga ≠ gb := fun he => hab ga (by simp [Value.ownBlock]) (by simp [Value.ownBlock, he])
  obtain ⟨k1, k2⟩ := Kd.R_celln 0 h1 (j : Int) (by omega) (by omega)
  obtain ⟨k3, k4⟩ := Kd.R_celln 0 h2 (j : Int) (by omega) (by omega)
  rw [Int.toNat_natCast] at k1 k2 k3 k4
  have hb : ∀ u, (wr.setCell ⟨ga, j, none⟩ u).heap[gb]? = wr.heap[gb]? := fun u => Below.heap_setCell wr ⟨ga, j, none⟩ u gb (fun he => hne he.symm)
  exact ⟨ga, gb, rfl, rfl, hne, ⟨_, k1⟩, k2, fun u => ⟨_, (World.cell?_of_block (a := ⟨gb, j, none⟩) (hb u)).trans k3⟩, fun u => (World.frozen?_of_block (a := ⟨gb, j, none⟩) (hb u)).trans k4⟩
/-- Behind the two appends. -/
def SpL2 (w : World) (va vb vw : Value) (L : List Int) (wr : World) : Prop :=
  Kd.R (Kd.int .u64) 22 wr w.heap.size (fun _ => True) va (List.replicate (L.length + 1) 201) ∧ Kd.R (Kd.int .u64) 22 wr w.heap.size (fun _ => True) vb (List.replicate (L.length + 1) 202) ∧
    Kd.R (Kd.int .u64) 22 wr w.heap.size (fun _ => True) vw L ∧ Below w.heap.size w wr
theorem apart_step {u v v' : Value} {n : Nat} (h : Apart u v) (hu : ∀ k, u.ownBlock = some k → k < n) (ha : v'.ownBlock = v.ownBlock ∨ ∃ b, v'.ownBlock = some b ∧ n ≤ b) : Apart u v' := fun k h1 h2 => by
  rcases ha with ha | ⟨b, ha, hb⟩
  · exact h k h1 (ha ▸ h2)
  · rw [ha] at h2
    injection h2 with h2
    have := hu k h1
    omega
theorem SpL2.make {w wr w5 w6 : World} {va vb vw va' vb' : Value} {L : List Int} (h : SpL1 w va vb vw L L.length wr) (hab : Apart va vb) (hwa : Apart vw va) (hwb : Apart vw vb)
    (h1 : Kd.R (Kd.int .u64) 22 w5 w.heap.size (fun _ => True) va' (List.replicate L.length 201 ++ [201])) (f1 : Frm (fun k => some k = va.ownBlock) wr w5) (a1 : va'.ownBlock = va.ownBlock ∨ ∃ b, va'.ownBlock = some b ∧ wr.heap.size ≤ b)
    (h2 : Kd.R (Kd.int .u64) 22 w6 w.heap.size (fun _ => True) vb' (List.replicate L.length 202 ++ [202])) (f2 : Frm (fun k => some k = vb.ownBlock) w5 w6) (a2 : vb'.ownBlock = vb.ownBlock ∨ ∃ b, vb'.ownBlock = some b ∧ w5.heap.size ≤ b) :
    SpL2 w va' vb' vw L w6 ∧ Apart va' vb' := by
  have hvw : Apart va' vb := Apart.symm (apart_step hab.symm (Kd.R_lt h.2.1) a1)
  refine ⟨⟨?_, ?_, ?_, ?_⟩, apart_step hvw (Kd.R_lt h1) a2⟩
  · rw [List.replicate_succ']
    exact R_frm (flat_int .u64) h1 f2 (fun k hk he => hvw k hk he.symm)
  · rw [List.replicate_succ']
    exact h2
  · exact R_frm (flat_int .u64) (R_frm (flat_int .u64) h.2.2.1 f1 (fun k hk he => hwa k hk he.symm)) f2 (fun k hk he => hwb k hk he.symm)
  · have hs := h.2.2.2.size
    exact (h.2.2.2.trans (f1.below hs (fun k hk => Kd.R_base h.1 k hk.symm))).trans (f2.below (Nat.le_trans hs f1.size) (fun k hk => Kd.R_base h.2.1 k hk.symm))
theorem rep_cell {w : World} {base : Nat} {A : Option Addr} {m c n : Nat} {x : Int} (h : Kd.R (Kd.int .u64) 22 w base (fun _ => True) (.slice A m c) (List.replicate n x)) (j : Nat) (hj : j < n) : ∃ ad, A = some ad ∧ w.cell? (ad.add j) = some (.int .u64 x) := by
  obtain ⟨_, _, hC⟩ := Kd.R_reads' h
  obtain ⟨ad, ea, hx⟩ := Kd.at_int hC (j : Int) (by omega) (by rw [List.length_replicate]; omega)
  rw [Int.toNat_natCast] at hx
  refine ⟨ad, ea, ?_⟩
  rw [show rd (List.replicate n x) (j : Int) = x by simp [rd, List.getD_eq_getElem?_getD, List.getElem?_replicate, hj]] at hx
  exact hx
end Go.Proofs.Ytagcabmccpekaaa.M

namespace Go.Proofs.Ytagcabmccpekaaa.M
open Go.RowKit Go.Proofs.YtagcabmccpekaaaW.PrintWords Go.Proofs.YtagcabmccpekaaaW.PrintLast Go.Proofs.YtagcabmccpekaaaW.PrintMore Go.Proofs.Ytagcabmccpekaaa.Leaf

theorem reps_int (k : IntKind) {w : World} {base : Nat} {ok : Nat → Prop} {xs : List Int} {cs : List Value} (h : Reps ((Kd.int k).M w base ok) (Kd.int k).sz xs cs) : cs = xs.map (Value.int k) := by
  have hl : cs.length = xs.length := by have := h.1; rwa [show (Kd.int k).sz = 1 from rfl, Nat.mul_one] at this
  refine List.ext_getElem? (fun j => ?_)
  rw [List.getElem?_map]
  by_cases hj : j < xs.length
  · have h2 := h.2 j xs[j] (List.getElem?_eq_getElem hj)
    have h3 : (cs.drop (j * 1)).take 1 = [Value.int k xs[j]] := h2
    rw [Nat.mul_one] at h3
    have h4 : ((cs.drop j).take 1)[0]? = some (Value.int k xs[j]) := by rw [h3]; rfl
    rw [List.getElem?_take_of_lt (by omega), List.getElem?_drop, Nat.add_zero] at h4
    rw [h4, List.getElem?_eq_getElem hj]
    rfl
  · rw [List.getElem?_eq_none (by omega), List.getElem?_eq_none (by omega)]
    rfl
theorem int_reps (k : IntKind) (w : World) (base : Nat) (ok : Nat → Prop) (xs : List Int) : Reps ((Kd.int k).M w base ok) (Kd.int k).sz xs (xs.map (Value.int k)) := by
  refine ⟨by rw [List.length_map]; exact (Nat.mul_one _).symm, fun j p hj => ?_⟩
  show ((xs.map (Value.int k)).drop (j * 1)).take 1 = [Value.int k p]
  rw [Nat.mul_one]
  have hl := (List.getElem?_eq_some_iff.1 hj).1
  rw [List.drop_eq_getElem_cons (by rw [List.length_map]; exact hl)]
  simp [(List.getElem?_eq_some_iff.1 hj).2]
/-- A row of numbers of one's own, laid open. -/
structure Blk (k : IntKind) (e : Nat) (w : World) (base : Nat) (v : Value) (xs : List Int) (g cap : Nat) (cur : Array Value) : Prop where
  val : v = .slice (some ⟨g, 0, none⟩) xs.length cap
  base_le : base ≤ g
  heap : w.heap[g]? = some (.cells cur e (0, 0))
  len : xs.length ≤ cap
  max : cap ≤ maxLen
  size : cur.size = cap
  row : cur.toList.take xs.length = xs.map (Value.int k)
theorem R_open {k : IntKind} {e : Nat} {w : World} {base : Nat} {v : Value} {xs : List Int} (h : (Kd.int k).R e w base (fun _ => True) v xs) (h0 : 0 < xs.length) : ∃ g cap cur, Blk k e w base v xs g cap cur := by
  obtain ⟨_, inner, ho, hr⟩ := h
  have hi := reps_int k hr
  subst hi
  rcases ho.2 with ⟨_, hz⟩ | ⟨g, cap, cur, he, hb, hh, hnc, hcm, hcs, ht⟩
  · omega
  · have e1 : (Kd.int k).sz = 1 := rfl
    rw [e1, Nat.mul_one] at hcs ht
    exact ⟨g, cap, cur, he, hb, hh, hnc, hcm, hcs, ht⟩
theorem Blk.R {k : IntKind} {e : Nat} {w : World} {base : Nat} {v : Value} {xs : List Int} {g cap : Nat} {cur : Array Value} (h : Blk k e w base v xs g cap cur) : (Kd.int k).R e w base (fun _ => True) v xs := by
  refine ⟨fun _ _ => trivial, xs.map (Value.int k), ⟨?_, .inr ⟨g, cap, cur, h.val, h.base_le, h.heap, h.len, h.max, ?_, ?_⟩⟩, int_reps k _ _ _ xs⟩
  · rw [List.length_map]; exact (Nat.mul_one _).symm
  · rw [h.size]; exact (Nat.mul_one _).symm
  · rw [show (Kd.int k).sz = 1 from rfl, Nat.mul_one]; exact h.row
theorem cell_of {w : World} {g : Nat} {cur : Array Value} {e : TypeId} (h : w.heap[g]? = some (.cells cur e (0, 0))) (o : Nat) : w.cell? ⟨g, o, none⟩ = cur[o]? := by
  show (match w.heap[g]? with | some (.cells c _ _) => if (none : Option Nat).isSome then none else c[o]? | _ => none) = _
  rw [h]
  rfl
theorem frozen_of {w : World} {g : Nat} {cur : Array Value} {e : TypeId} (h : w.heap[g]? = some (.cells cur e (0, 0))) (o : Nat) (hf : o < cur.size) : w.frozen? ⟨g, o, none⟩ = false := by
  unfold World.frozen?
  simp [h]
set_option maxHeartbeats 2000000 in
set_option maxRecDepth 100000 in
theorem delete_one (i j : Nat) (hj : j = i + 1) (w : World) (base : Nat) (v : Value) (xs : List Int) (h : (Kd.int .u64).R 22 w base (fun _ => True) v xs) (hi : i < xs.length) :
    Calls Try.prog 48 #[v, .int .i64 i, .int .i64 j] w fun e w' => ∃ v', e = .returned v' ∧ (Kd.int .u64).R 22 w' base (fun _ => True) v' (xs.eraseIdx i) ∧ Frm (fun k => some k = v.ownBlock) w w' ∧ v'.ownBlock = v.ownBlock := by
  obtain ⟨g, cap, cur, B⟩ := R_open h (by omega)
  obtain ⟨rfl, hbase, hh, hlen, hmax, hsize, hrow⟩ := B
  have hmax' : cap ≤ 9223372036854775807 := hmax
  have hglt : g < w.heap.size := (Array.getElem?_eq_some_iff.1 hh).1
  generalize hn : xs.length = n at *
  have hjn : j ≤ n := by omega
  have hij : i < j := by omega
  -- the numbers that are moved to the left
  obtain ⟨news, hnews⟩ : ∃ news, news = (xs.drop j).map (Value.int .u64) := ⟨_, rfl⟩
  have hnl : news.length = n - j := by rw [hnews]; simp [hn]
  have hget : ∀ j, j < n → cur[j]? = (xs.map (Value.int .u64))[j]? := by
    intro j hj
    rw [← hrow, List.getElem?_take_of_lt hj, Array.getElem?_toList]
  obtain ⟨A, hA, hsrc⟩ : ∃ A : Addr, (if cap = j then some (⟨g, 0, none⟩ : Addr) else some ⟨g, j, none⟩) = some A ∧ Hid (∀ t u, news[t]? = some u → w.drew.cell? (A.add t) = some u) := by
    by_cases hc : cap = j
    · refine ⟨⟨g, 0, none⟩, by simp [hc], fun t u hu => ?_⟩
      have h0 : news.length = 0 := by omega
      rw [List.length_eq_zero_iff.1 h0] at hu
      simp at hu
    · refine ⟨⟨g, j, none⟩, by simp [hc], fun t u hu => ?_⟩
      have ht : t < n - j := by
        have := (List.getElem?_eq_some_iff.1 hu).1
        omega
      rw [hnews, List.map_drop, List.getElem?_drop] at hu
      rw [Addr.add_lit]
      show w.cell? ⟨g, j + t, none⟩ = some u
      rw [cell_of hh, hget _ (by omega)]
      exact hu
  obtain ⟨W1, hW1⟩ : ∃ W1, W1 = w.drew.setCells g (0 + i * 1) news := ⟨_, rfl⟩
  have hhd : w.drew.heap[g]? = some (.cells cur 22 (0, 0)) := hh
  obtain ⟨c1, hc1, hs1, ht1⟩ := setCells_row (g := g) news (0 + i * 1) w.drew cur hhd (by omega)
  rw [← hW1] at hc1
  have s1 : Hid (news.length = (n - j) * 1) := by show news.length = _; omega
  have s2 : Hid (∀ u ∈ news, u.oneCell' = true) := by
    intro u hu
    rw [hnews] at hu
    obtain ⟨x, _, rfl⟩ := List.mem_map.1 hu
    rfl
  have s3 : Hid (∀ t, t < news.length → (w.drew.cell? ⟨g, 0 + i * 1 + t, none⟩).isSome = true ∧ w.drew.frozen? ⟨g, 0 + i * 1 + t, none⟩ = false) := by
    intro t ht
    refine ⟨?_, frozen_of hhd _ (by omega)⟩
    rw [cell_of hhd, Array.getElem?_eq_getElem (by omega)]
    rfl
  have hcl : ∀ ty, (Builtin.clear_ #[23] ty #[.slice (some ⟨g, i + (n - j), none⟩) (n - (i + (n - j))) (cap - (i + (n - j)))]).run Try.prog W1 = .ok (.tuple #[]) (W1.setCells g (i + (n - j)) (List.replicate (n - (i + (n - j))) (.int .u64 0))) :=
    fun ty => Lib.run_clear_slice W1 _ _ ty _ Try.underlying23 (fun w => (by kernel_rfl)) rfl rfl g (i + (n - j)) _ _ (by omega) (fun t ht => by rw [cell_of hc1, Array.getElem?_eq_getElem (by omega)]; rfl) (fun t ht => frozen_of hc1 _ (by omega))
  have S1 := Aside0.mk hc1
  have S2 := Aside0.mk ht1
  have S3 := Aside0.mk hs1
  have hW : Hid (W1 = w.drew.setCells g (0 + i * 1) news) := hW1
  have S4 := Aside0.mk hrow
  have S5 := Aside0.mk hnews
  have hic : i ≤ cap := by omega
  have mixed : Try.prog.follows .mixedOrders = true := by kernel_rfl
  have HJ := Aside0.mk hj
  have hjc : j ≤ cap := by omega
  clear hj
  clear hW1 hc1 ht1 hs1 hrow hnews hget hh hhd h
  go_enter Try.func48, Try.ntmps48
  go_wp2_with fail
  go_region_law_o (refine step_append_room rfl (.tmp 22) (.tmp 25) 23 rfl 22 _ 1 Try.underlying23 rfl rfl g 0 i cap (by simp [Act.eval, Act.put]) A (n - j) (cap - j) news (by simp [Act.eval, Act.put]) s1.out hsrc.out s2.out (by omega) s3.out ?_; rw [← hW.out])
  go_wp2
  go_ret
  have hj := HJ.out
  rw [show n - (i + (n - j)) = 1 by omega]
  have hh2 := S1.out
  obtain ⟨c2, h2, hs2, ht2⟩ := setCells_row (g := g) (List.replicate 1 (Value.int .u64 0)) (i + (n - j)) W1 c1 hh2 (by rw [S3.out, hsize, List.length_replicate]; omega)
  have hxe : (xs.eraseIdx i).length = i + (n - j) := by rw [List.length_eraseIdx_of_lt (by omega)]; omega
  refine ⟨.slice (some ⟨g, 0, none⟩) (i + (n - j)) cap, rfl, Blk.R (g := g) (cap := cap) (cur := c2) ⟨by rw [hxe], hbase, h2, by omega, hmax, by rw [hs2, S3.out, hsize], ?_⟩, ?_, rfl⟩
  · have hc : cur.toList.length = cap := by rw [Array.length_toList]; exact hsize
    have hc1 : c1.toList.length = cap := by rw [Array.length_toList, S3.out]; exact hsize
    have e1 : (cur.toList.take (0 + i * 1)) = (xs.take i).map (Value.int .u64) := by
      rw [show 0 + i * 1 = i by omega, List.map_take, ← S4.out, List.take_take, show min i n = i by omega]
    have e2 : ((xs.take i).map (Value.int .u64) ++ news).length = i + (n - j) := by rw [List.length_append, List.length_map, List.length_take, hnl, hn]; omega
    rw [hxe, ht2, List.append_assoc, List.take_left' (by rw [List.length_take, hc1]; omega), S2.out, e1, List.take_left' e2, S5.out, List.eraseIdx_eq_take_drop_succ, List.map_append, hj]
  · refine ⟨?_, ?_, ?_, ?_, fun k hk hne => ?_⟩
    · exact (setCells_same g _ _ _).1.trans (by rw [hW.out]; exact (setCells_same g _ _ _).1)
    · exact (setCells_same g _ _ _).2.1.trans (by rw [hW.out]; exact (setCells_same g _ _ _).2.1)
    · exact (setCells_same g _ _ _).2.2.1.trans (by rw [hW.out]; exact (setCells_same g _ _ _).2.2.1)
    · exact Nat.le_of_eq ((setCells_same g _ _ _).2.2.2.trans (by rw [hW.out]; exact (setCells_same g _ _ _).2.2.2)).symm
    · have hkg : k ≠ g := fun e => hne (by rw [e]; rfl)
      rw [setCells_far _ _ k hkg, hW.out, setCells_far _ _ k hkg]
      rfl
end Go.Proofs.Ytagcabmccpekaaa.M

namespace Go.Proofs.Ytagcabmccpekaaa.M
open Go.RowKit Go.Proofs.YtagcabmccpekaaaW.PrintWords Go.Proofs.YtagcabmccpekaaaW.PrintLast Go.Proofs.YtagcabmccpekaaaW.PrintMore Go.Proofs.Ytagcabmccpekaaa.Leaf

/-- What proof.Places answers. -/
def proofAns (i n : Nat) : List Int × Int := if 4611686018427387904 < n then ([], 30) else if n ≤ i then ([], 32) else (placesOf (proofN i n), 0)
theorem placesOf_eraseIdx (l : List (Nat × Nat)) (k : Nat) : (placesOf l).eraseIdx k = placesOf (l.eraseIdx k) := by
  unfold placesOf
  rw [List.eraseIdx_eq_take_drop_succ, List.eraseIdx_eq_take_drop_succ, List.map_append, List.map_take, List.map_drop]
theorem proof_length {i n : Nat} (h : i < n) (hn : n ≤ 4611686018427387904) : (proofN i n).length ≤ 124 := by
  have h1 := (proof_len h hn).2.2
  have h2 := hi_le h hn
  have h3 : (topsN n).length ≤ 63 := topsF_len 63 n
  omega

set_option maxHeartbeats 1000000 in
set_option maxRecDepth 100000 in
theorem proof_places_none (i n : Nat) (w : World) (h : 4611686018427387904 < n ∨ n ≤ i) :
    Calls Try.prog 15 #[.int .u64 i, .int .u64 n] w fun e w' => e = .returned (.tuple #[.slice none 0 0, .int .i64 (if 4611686018427387904 < n then 30 else 32)]) ∧ Below w.heap.size w w' := by
  by_cases hn : 4611686018427387904 < n
  · have e0 : (if 4611686018427387904 < n then (30 : Int) else 32) = 30 := if_pos hn
    rw [e0]
    have hd : ((n : Int) > 4611686018427387904) := by omega
    go_enter Try.func15, Try.ntmps15
    go_wp2
    go_ret2
    exact ⟨rfl, Below.refl _ _⟩
  · have e0 : (if 4611686018427387904 < n then (30 : Int) else 32) = 32 := if_neg hn
    rw [e0]
    have hd : ¬ ((n : Int) > 4611686018427387904) := by omega
    obtain ⟨k, hk⟩ := (path_none i n (by omega)).rounds
    have HK := Aside0.mk hk
    clear hk
    go_enter Try.func15, Try.ntmps15
    go_wp2_with fail
    refine (pos_Path.calls k i n _ _ _ HK.out).mono ?_
    rintro e w1 ⟨v1, rfl, hr, hb⟩
    obtain ⟨A1, c1, e1⟩ := Kd.R_slice hr
    rw [e1]
    have HB := Aside0.mk hb
    clear hr hb e1
    go_wp2
    go_ret2
    exact ⟨rfl, HB.out⟩
set_option maxHeartbeats 1000000 in
set_option maxRecDepth 100000 in
theorem proof_places_some (i n : Nat) (w : World) (h : i < n) (hn : n ≤ 4611686018427387904) :
    Calls Try.prog 15 #[.int .u64 i, .int .u64 n] w fun e w' => ∃ v, e = .returned (.tuple #[v, .int .i64 0]) ∧ Kd.R (Kd.int .u64) 22 w' w.heap.size (fun _ => True) v (placesOf (proofN i n)) ∧ Below w.heap.size w w' := by
  have hd : ¬ ((n : Int) > 4611686018427387904) := by omega
  have hlen := proof_length h hn
  have hpl := proof_len h hn
  have hN : placesOf (proofN i n) = placesOf (sibsN i (hiN i n)) ++ (placesOf (topsN n)).eraseIdx (overN i n) := by
    rw [placesOf_eraseIdx]
    unfold proofN placesOf
    rw [List.map_append]
  have hO : overN i n ≤ 64 := pop_lef 64 _
  have hol : overN i n < (placesOf (topsN n)).length := by simpa [placesOf] using hpl.1
  have hl2 : (placesOf (sibsN i (hiN i n))).length ≤ 62 := by have := hi_le h hn; simp [placesOf, sibsN]; exact this
  have hl3 : (placesOf (topsN n)).length ≤ 63 := by simp only [placesOf, List.length_map]; exact topsF_len 63 n
  obtain ⟨k1, hk1⟩ := (path_val i n h hn).rounds
  obtain ⟨k2, hk2⟩ := (peak_val i n h hn).rounds
  obtain ⟨k3, hk3⟩ := (peaks_val n hn).rounds
  rw [hN]
  clear hN hlen hpl
  generalize placesOf (sibsN i (hiN i n)) = X at *
  generalize placesOf (topsN n) = Y at *
  generalize overN i n = o at *
  have HK1 := Aside0.mk hk1
  have HK2 := Aside0.mk hk2
  have HK3 := Aside0.mk hk3
  clear hk1 hk2 hk3
  go_enter Try.func15, Try.ntmps15
  go_wp2_with fail
  refine (pos_Path.calls k1 i n _ _ _ HK1.out).mono ?_
  rintro e w1 ⟨v1, rfl, hr, hb⟩
  obtain ⟨A1, c1, e1⟩ := Kd.R_slice hr
  subst e1
  have HR := Aside0.mk hr
  have HB := Aside0.mk hb
  clear hr hb
  go_wp2_with fail
  refine (pos_Peak.calls k2 i n _ _ _ HK2.out).mono ?_
  rintro e w2 ⟨rfl, hd2⟩
  have HD2 := Aside0.mk hd2
  clear hd2
  go_wp2_with fail
  refine (pos_Peaks.calls k3 n _ _ HK3.out).mono ?_
  rintro e w3 ⟨v3, rfl, hr3, hb3⟩
  obtain ⟨A3, c3, e3⟩ := Kd.R_slice hr3
  subst e3
  have HR3 := Aside0.mk hr3
  have HB3 := Aside0.mk hb3
  clear hr3 hb3
  go_wp2_with fail
  refine (delete_one o (o + 1) rfl w3 w2.heap.size _ Y HR3.out (by omega)).mono ?_
  rintro e w4 ⟨v4, rfl, hr4, hf4, ho4⟩
  have hs12 := HD2.out.below.size
  have hs23 := HB3.out.size
  have hlt1 := Kd.R_lt HR.out
  have hb3 := Kd.R_base HR3.out
  have hr1 := R_frm (flat_int .u64) (Kd.R_below (Kd.R_below HR.out HD2.out.below) HB3.out) hf4 (fun k hk hs => by have := hlt1 k hk; have := hb3 k hs.symm; omega)
  have hbl : Below w.heap.size w w4 := below_on (blt (blt HB.out HD2.out.below) HB3.out) (by have := HB.out.size; omega) (Below.refl _ _) |>.trans (hf4.below (by have := HB.out.size; omega) (fun k hk => by have := hb3 k hk.symm; have := HB.out.size; omega))
  have hs4 := hf4.size
  have hw4 : w.heap.size ≤ w4.heap.size := by have := HB.out.size; omega
  have hle : (Y.eraseIdx o).length ≤ 63 := Nat.le_trans (List.length_eraseIdx_le ..) hl3
  obtain ⟨A4, c4, e4⟩ := Kd.R_slice hr4
  subst e4
  have HR1 := Aside0.mk hr1
  have HC4 := Aside0.mk (Kd.R_reads' hr4).2.2
  have HBL := Aside0.mk hbl
  have HW4 := Aside0.mk hw4
  have HLE := Aside0.mk hle
  have HL2 := Aside0.mk hl2
  have H4 := Aside0.mk hlt1
  have H5 := Aside0.mk (Kd.R_base HR.out)
  clear hr4 hr1 hbl hf4 ho4 hle hl2 hlt1 hb3 hs12 hs23 hs4 hw4 hol hl3
  go_wp2_with (at_builtin; go_loud (refine app_row .u64 w.heap.size rfl (.tmp 26) (.tmp 32) 23 22 (.int .u64 0) 8 rfl Try.underlying23 info22 rfl (by omega) _ _ _ _ _ _ rfl rfl HR1.out HC4.out HW4.out (by have := HLE.out; have := HL2.out; omega) ?_; intro A5 c5 w5 hr5 hf5 hat5; have HR5 := Aside0.mk hr5; have HF5 := Aside0.mk hf5; clear hr5 hf5 hat5))
  go_ret2
  exact ⟨_, rfl, HR5.out, HBL.out.trans (HF5.out.below HW4.out (fun k hk => H5.out k hk.symm))⟩
theorem proof_places (i n : Nat) (w : World) :
    Calls Try.prog 15 #[.int .u64 i, .int .u64 n] w fun e w' => ∃ v, e = .returned (.tuple #[v, .int .i64 (proofAns i n).2]) ∧ Kd.R (Kd.int .u64) 22 w' w.heap.size (fun _ => True) v (proofAns i n).1 ∧ Below w.heap.size w w' := by
  by_cases h : 4611686018427387904 < n ∨ n ≤ i
  · refine (proof_places_none i n w h).mono ?_
    rintro e w' ⟨he, hb⟩
    have e1 : proofAns i n = ([], if 4611686018427387904 < n then 30 else 32) := by
      unfold proofAns
      by_cases c1 : 4611686018427387904 < n
      · rw [if_pos c1, if_pos c1]
      · rw [if_neg c1, if_neg c1, if_pos (by omega)]
    rw [e1]
    exact ⟨_, he, Kd.R_nil _ _ _ _ _, hb⟩
  · have e1 : proofAns i n = (placesOf (proofN i n), 0) := by
      unfold proofAns
      rw [if_neg (by omega), if_neg (by omega)]
    rw [e1]
    exact proof_places_some i n w (by omega) (by omega)
end Go.Proofs.Ytagcabmccpekaaa.M

namespace Go.Proofs.Ytagcabmccpekaaa.M
open Go.RowKit Go.Proofs.YtagcabmccpekaaaW.PrintWords Go.Proofs.YtagcabmccpekaaaW.PrintLast Go.Proofs.YtagcabmccpekaaaW.PrintMore Go.Proofs.Ytagcabmccpekaaa.Leaf

def writeB (kd a b : Nat) (ns : List Hsh) : List Int := [(kd : Int)] ++ shortI a ++ shortI b ++ nodesI ns

set_option maxHeartbeats 2000000 in
set_option maxRecDepth 100000 in
theorem proof_write (kd x y c : Nat) (ns : List Hsh) (A : Option Addr) (w : World) (hx : x < 18446744073709551616) (hy : y < 18446744073709551616) (hA : kH.C w A ns.length ns) (hle : ns.length ≤ 100000) :
    Calls Try.prog 76 #[.int .u8 kd, .int .u64 x, .int .u64 y, .slice A ns.length c] w fun e w' => ∃ v, e = .returned v ∧ Kd.R (Kd.int .u8) 5 w' w.heap.size (fun _ => True) v (writeB kd x y ns) ∧ Below w.heap.size w w' := by
  have HN := Aside0.mk hA
  have hns := hle
  clear hA hle
  go_enter Try.func76, Try.ntmps76
  go_wp2_with fail
  refine (short_calls x hx _).mono ?_
  rintro e wa ⟨va, rfl, hra, hba⟩
  obtain ⟨Aa, ca, ea⟩ := Kd.R_slice hra
  rw [ea] at hra ⊢
  have ra := Aside0.mk (Rd.of_R hra)
  have ba := Aside0.mk hba
  clear hra hba ea
  go_wp2_with fail
  refine (short_calls y hy _).mono ?_
  rintro e wb ⟨vb, rfl, hrb, hbb⟩
  obtain ⟨Ab, cb, eb⟩ := Kd.R_slice hrb
  rw [eb] at hrb ⊢
  have rb := Aside0.mk (Rd.of_R hrb)
  have bb := Aside0.mk hbb
  clear hrb hbb eb
  go_wp2_with fail
  refine (concat_rows (some ⟨_, 0, none⟩) 3 [[(kd : Int)], shortI x, shortI y] _ (C_rows3 .u8 5 _ _ _ _ 46 _ _ _ (Rd.below (Rd.below (Rd.one _ _ _ _ rfl) ba.out) bb.out) (Rd.below ra.out bb.out) rb.out (by simp [World.drew])) (by simp) (by have := shortI_len x; have := shortI_len y; simp; omega)).mono ?_
  rintro e wd ⟨vd, rfl, hrd, hbd⟩
  obtain ⟨Ad, ld, cd, ed⟩ : ∃ A l c, vd = .slice A l c := (by obtain ⟨A, c, h⟩ := Kd.R_slice hrd; exact ⟨A, _, c, h⟩)
  rw [ed] at hrd ⊢
  obtain ⟨P0, hP⟩ : ∃ P, P = [(kd : Int)] ++ shortI x ++ shortI y := ⟨_, rfl⟩
  have hfl : [[(kd : Int)], shortI x, shortI y].flatten = P0 := by rw [hP]; simp
  rw [hfl] at hrd
  have hPl : P0.length ≤ 31 := by have := shortI_len x; have := shortI_len y; rw [hP]; simp only [List.length_append, List.length_singleton]; omega
  have hB0 : Below w.heap.size w wd := blt (blt (blt (bl_new w _) ba.out) bb.out) (below_on (bl_new wb _) (by simp) (Below.refl _ _)) |>.trans (hbd.mono (by have := ba.out.size; have := bb.out.size; simp at *; omega))
  have HP := Aside0.mk hP
  have G1 := Aside0.mk (Kd.R_lower hrd (by have := ba.out.size; have := bb.out.size; simp at *; omega : w.heap.size ≤ _))
  have G2 := Aside0.mk hB0
  clear hrd hbd ed hP hfl hB0
  go_wp2_with fail
  go_loopw [9, 22] (fun s i wr => ∃ j : Nat, j ≤ ns.length ∧ i = .int .i64 j ∧ Aside0 (Kd.R (Kd.int .u8) 5 wr w.heap.size (fun _ => True) s (P0 ++ nodesI (ns.take j))) ∧ Aside0 (Below w.heap.size w wr)) (fun _ i _ => ns.length - (intOf i).toNat)
  case atStart => exact ⟨0, Nat.zero_le _, rfl, by rw [List.take_zero]; simp only [nodesI, List.flatMap_nil, List.append_nil]; exact G1, G2⟩
  case round =>
    obtain ⟨j, hj, rfl, HR, HW⟩ := hrel
    clear G1 G2
    by_cases hlt : j < ns.length
    · obtain ⟨ad, ea, hh⟩ := C_hash (Kd.C_below HN.out HW.out) j hlt
      subst ea
      have HH := Aside0.mk hh
      clear hh
      obtain ⟨hv, hhv⟩ : ∃ h, h = ns[j] := ⟨_, rfl⟩
      rw [← hhv] at HH
      have hcat : nodesI (ns.take (j + 1)) = nodesI (ns.take j) ++ hv.b := by
        rw [List.take_add_one, List.getElem?_eq_getElem hlt, ← hhv]
        show nodesI (ns.take j ++ [hv]) = _
        unfold nodesI
        rw [List.flatMap_append]
        simp only [List.flatMap_cons, List.flatMap_nil, List.append_nil]
      have hlen : (nodesI (ns.take (j + 1))).length ≤ 32 * 100000 := by
        have h1 : ∀ l : List Hsh, (nodesI l).length = 32 * l.length := by
          intro l
          induction l with
          | nil => rfl
          | cons x l ih =>
            rw [show nodesI (x :: l) = x.b ++ nodesI l from rfl, List.length_append, ih, x.len, List.length_cons]
            omega
        rw [h1]
        have := List.length_take_le (j + 1) ns
        omega
      rw [hcat, List.length_append, hv.len] at hlen
      have HCat := Aside0.mk hcat
      clear hcat hhv
      have hsz := HW.out.size
      obtain ⟨P1, hP1⟩ : ∃ P, P = P0 ++ nodesI (ns.take j) := ⟨_, rfl⟩
      have hP1l : P1.length ≤ 3200100 := by rw [hP1, List.length_append]; omega
      rw [← hP1] at HR
      have HP1 := Aside0.mk hP1
      clear hP1
      go_wp2_with (first | ((with_reducible refine gate_dst (N := 25) rfl ?_); go_loud (refine load_hash rfl (.tmp 24) rfl _ _ rfl HH.out ?_)) | ((with_reducible refine gate_store (t := 73) (p := 11) (v := .tmp 25) rfl ?_); go_loud (refine store_hash rfl rfl (.tmp 11) (.tmp 25) rfl _ rfl _ _ rfl hv rfl rfl ?_)) | ((with_reducible refine gate_builtin (b := .append) (xs := #[.tmp 26, .tmp 27]) rfl ?_); at_builtin; go_loud (refine app_row .u8 w.heap.size rfl (.tmp 26) (.tmp 27) 46 5 (.int .u8 0) 1 rfl Try.underlying46 info5 rfl (by omega) _ P1 hv.b _ 32 32 rfl rfl (Kd.R_alloc HR.out _) (C_hash_row wr hv _ rfl) (by simp; omega) (by omega) ?_; intro A2 c2 w2 hr2 hf2 hat2; have HR2 := Aside0.mk hr2; have HF2 := Aside0.mk hf2; clear hr2 hf2 hat2)))
      go_roundw
      case rel => exact ⟨j + 1, by omega, by go_num, ⟨by rw [HCat.out, ← List.append_assoc, ← HP1.out]; exact HR2.out⟩, ⟨(below_alloc HW.out _).trans (HF2.out.below (by simp; omega) (fun k hk => Kd.R_base HR.out k hk.symm))⟩⟩
      case measure => simp [intOf]; omega
    · have hjl : j = ns.length := by omega
      subst hjl
      obtain ⟨A6, l6, c6, e6⟩ : ∃ A l c, u9 = .slice A l c := (by obtain ⟨A, c, h⟩ := Kd.R_slice HR.out; exact ⟨A, _, c, h⟩)
      have HE6 := Aside0.mk e6
      clear e6
      go_wp2_with fail
      go_ret
      refine ⟨_, rfl, ?_, HW.out⟩
      have hq := HR.out
      rw [List.take_length, HP.out] at hq
      exact hq


/-- What proof.Encode answers. -/
def pencAns (i n : Nat) (ns : List Hsh) : List Int × Int := if (proofAns i n).2 ≠ 0 then ([], (proofAns i n).2) else if (proofAns i n).1.length ≠ ns.length then ([], 70) else (writeB 77 n i ns, 0)
theorem proofAns_len (i n : Nat) : (proofAns i n).1.length ≤ 124 := by
  unfold proofAns
  split
  · simp
  · split
    · simp
    · have := proof_length (i := i) (n := n) (by omega) (by omega)
      simpa [placesOf] using this
set_option maxHeartbeats 2000000 in
set_option maxRecDepth 100000 in
theorem proof_encode (i n c : Nat) (ns : List Hsh) (A : Option Addr) (w : World) (hi : i < 18446744073709551616) (hn : n < 18446744073709551616) (hA : kH.C w A ns.length ns) :
    Calls Try.prog 49 #[.agg #[.int .u64 n, .int .u64 i, .slice A ns.length c]] w fun e w' => ∃ v, e = .returned (.tuple #[v, .int .i64 (pencAns i n ns).2]) ∧ Kd.R (Kd.int .u8) 5 w' w.heap.size (fun _ => True) v (pencAns i n ns).1 ∧ Below w.heap.size w w' := by
  have hp := proof_places i n
  have hlen := proofAns_len i n
  have hdef : pencAns i n ns = if (proofAns i n).2 ≠ 0 then ([], (proofAns i n).2) else if (proofAns i n).1.length ≠ ns.length then ([], 70) else (writeB 77 n i ns, 0) := rfl
  generalize pencAns i n ns = E at *
  generalize (proofAns i n).1 = L at *
  generalize (proofAns i n).2 = er at *
  have HP := Aside0.mk hp
  have HE := Aside0.mk hdef
  have HN := Aside0.mk hA
  clear hp hdef hA
  go_enter Try.func49, Try.ntmps49
  go_wp2_with fail
  refine (HP.out _).mono ?_
  rintro e w1 ⟨v1, rfl, hr, hb⟩
  obtain ⟨A1, cap1, e1⟩ := Kd.R_slice hr
  rw [e1]
  have hb0 : Below w.heap.size w w1 := (bl_new w _).trans (hb.mono (by simp))
  have hbx : w1.heap[w.heap.size]? = some (.cells #[.int .u64 n, .int .u64 i, .slice A ns.length c] 79 (0, 0)) := (hb.block _ (by simp)).trans (heap_new w _)
  have hx0 : w1.cell? ⟨w.heap.size, 0, none⟩ = some (.int .u64 n) := (blk_cell hbx 0).trans rfl
  have hx1 : w1.cell? ⟨w.heap.size, 1, none⟩ = some (.int .u64 i) := (blk_cell hbx 1).trans rfl
  have hx2 : w1.cell? ⟨w.heap.size, 2, none⟩ = some (.slice A ns.length c) := (blk_cell hbx 2).trans rfl
  have HB := Aside0.mk hb0
  clear hr hb hb0 hbx e1
  by_cases h0 : er = 0
  · subst h0
    by_cases hk2 : L.length = ns.length
    · have hd : ((L.length : Int) != (ns.length : Int)) = false := by rw [bne_eq_false_iff_eq]; omega
      have HK := Aside0.mk hk2
      have hle : ns.length ≤ 100000 := by omega
      clear hk2
      go_wp2_with fail
      refine (proof_write 77 n i c ns A w1 hn hi (Kd.C_below HN.out HB.out) hle).mono ?_
      rintro e w2 ⟨v2, rfl, hr2, hb2⟩
      obtain ⟨A2, l2, c2, e2⟩ : ∃ A l c, v2 = .slice A l c := (by obtain ⟨A, c, h⟩ := Kd.R_slice hr2; exact ⟨A, _, c, h⟩)
      have HR2 := Aside0.mk hr2
      have HE2 := Aside0.mk e2
      have HB2 := Aside0.mk hb2
      clear hr2 hb2 e2
      go_wp2_with fail
      go_ret2
      have he := HE.out
      rw [if_neg (by simp), if_neg (fun h => h HK.out)] at he
      rw [he]
      exact ⟨_, rfl, Kd.R_lower HR2.out HB.out.size, HB.out.trans (HB2.out.mono HB.out.size)⟩
    · have hd : ((L.length : Int) != (ns.length : Int)) = true := by rw [bne_iff_ne]; omega
      have HK := Aside0.mk hk2
      clear hk2
      go_wp2
      go_ret2
      have he := HE.out
      rw [if_neg (by simp), if_pos HK.out] at he
      rw [he]
      exact ⟨_, rfl, Kd.R_nil _ _ _ _ _, HB.out⟩
  · have hd : (er != 0) = true := by rw [bne_iff_ne]; exact h0
    have HK := Aside0.mk h0
    clear h0
    go_wp2
    go_ret2
    have he := HE.out
    rw [if_pos HK.out] at he
    rw [he]
    exact ⟨_, rfl, Kd.R_nil _ _ _ _ _, HB.out⟩
end Go.Proofs.Ytagcabmccpekaaa.M

namespace Go.Proofs.Ytagcabmccpekaaa.M
open Go.RowKit Go.Proofs.YtagcabmccpekaaaW.PrintWords Go.Proofs.YtagcabmccpekaaaW.PrintLast Go.Proofs.YtagcabmccpekaaaW.PrintMore Go.Proofs.Ytagcabmccpekaaa.Leaf

theorem awake7_places : proofAns 1 7 = ([0, 5, 9, 10], 0) := by decide +kernel
theorem awake7_bytes : pencAns 0 1 [] = ([77, 1, 0], 0) := by decide +kernel

set_option maxHeartbeats 1000000 in
set_option maxRecDepth 100000 in
theorem awake7 (w : World) : Calls Try.prog 16 #[] w fun e w' => e = .returned (.bool true) ∧ Below w.heap.size w w' := by
  have hp := proof_places 1 7
  rw [awake7_places] at hp
  have HP := Aside0.mk hp
  clear hp
  go_enter Try.func16, Try.ntmps16
  go_wp2_with fail
  refine (HP.out _).mono ?_
  rintro e w1 ⟨v1, rfl, hr, hb⟩
  obtain ⟨A1, c1, e1, _, hC⟩ := Kd.R_reads hr
  obtain ⟨ad, ea, _⟩ := Kd.at_int hC 0 (by omega) (by simp)
  subst ea
  rw [e1]
  have HC := Aside0.mk hC
  have HB := Aside0.mk hb
  clear hr hb hC e1
  have he := proof_encode 0 1 0 [] none w1 (by omega) (by omega) ⟨rfl, by simp, fun h => absurd h (by simp)⟩
  rw [awake7_bytes] at he
  have HEn := Aside0.mk he
  clear he
  go_wp2_with fail
  refine HEn.out.mono ?_
  rintro e w2 ⟨v2, rfl, hr2, hb2⟩
  have hb3 : Below w1.heap.size w1 w2 := hb2
  obtain ⟨A2, c2, e2, _, hC2⟩ := Kd.R_reads hr2
  obtain ⟨ad2, ea2, k5⟩ := Kd.at_int hC2 0 (by omega) (by simp)
  subst ea2
  rw [e2]
  have at1 : ∀ i : Nat, i < 4 → w2.cell? (ad.add i) = some (.int .u64 (rd [0, 5, 9, 10] i)) := fun i hi => by
    obtain ⟨ad', ea', hx⟩ := Kd.at_int (Kd.C_below HC.out hb3) (i : Int) (by omega) (by simp; omega)
    injection ea' with ea'
    subst ea'
    exact hx
  have at2 : ∀ i : Nat, i < 3 → w2.cell? (ad2.add i) = some (.int .u8 (rd [77, 1, 0] i)) := fun i hi => by
    obtain ⟨ad', ea', hx⟩ := Kd.at_int hC2 (i : Int) (by omega) (by simp; omega)
    injection ea' with ea'
    subst ea'
    exact hx
  have a0 : w2.cell? (ad.add 0) = some (.int .u64 0) := at1 0 (by omega)
  have a1 : w2.cell? ⟨ad.block, ad.off + 1, none⟩ = some (.int .u64 5) := at1 1 (by omega)
  have a2 : w2.cell? ⟨ad.block, ad.off + 2, none⟩ = some (.int .u64 9) := at1 2 (by omega)
  have b0 : w2.cell? (ad2.add 0) = some (.int .u8 77) := at2 0 (by omega)
  have b1 : w2.cell? ⟨ad2.block, ad2.off + 1, none⟩ = some (.int .u8 1) := at2 1 (by omega)
  have a0' : w2.cell? ad = some (.int .u64 0) := by have := a0; rwa [show ad.add 0 = ad by simp [Addr.add]] at this
  have b0' : w2.cell? ad2 = some (.int .u8 77) := by have := b0; rwa [show ad2.add 0 = ad2 by simp [Addr.add]] at this
  have HB3 := Aside0.mk hb3
  clear hr2 hb2 hb3 hC2 e2 at1 at2 HC HEn
  go_wp2
  go_ret
  exact ⟨rfl, HB.out.trans (HB3.out.mono HB.out.size)⟩
end Go.Proofs.Ytagcabmccpekaaa.M

namespace Go.Proofs.Ytagcabmccpekaaa.M
open Go.RowKit Go.Proofs.YtagcabmccpekaaaW.PrintWords Go.Proofs.YtagcabmccpekaaaW.PrintLast Go.Proofs.YtagcabmccpekaaaW.PrintMore Go.Proofs.Ytagcabmccpekaaa.Leaf

def SetsOK (zs : List Int) (i n : Nat) (S : Nat → Nat) : Prop := ∀ j, j < zs.length → ∃ pl lo hi : Nat, zs[j]? = some (pl : Int) ∧ pl < nodesN n ∧ (∃ k, pos_Under.f k (pl : Int) = some ((lo : Int), (hi : Int), true)) ∧ lo ≤ hi ∧ hi ≤ n ∧ (i < lo ∨ hi ≤ i) ∧ S (j + 1) = S j + (hi - lo) ∧ S j ≤ n ∧ ∀ m, m < j → ∃ pl' lo' hi' : Nat, zs[m]? = some (pl' : Int) ∧ (∃ k, pos_Under.f k (pl' : Int) = some ((lo' : Int), (hi' : Int), true)) ∧ (hi ≤ lo' ∨ hi' ≤ lo)
theorem leaves_take (l : List (Nat × Nat)) (j : Nat) (hj : j < l.length) : leavesN (l.take (j + 1)) = leavesN (l.take j) + 2 ^ l[j].1 := by
  rw [List.take_add_one, List.getElem?_eq_getElem hj, leaves_app]
  simp [leavesN]
theorem leaves_take_le (l : List (Nat × Nat)) (j : Nat) : leavesN (l.take j) ≤ leavesN l := by
  have h := leaves_app (l.take j) (l.drop j)
  rw [List.take_append_drop] at h
  omega
theorem sets_proof {i n : Nat} (h : i < n) (hn : n ≤ 4611686018427387904) : SetsOK (placesOf (proofN i n)) i n (fun j => leavesN ((proofN i n).take j)) := by
  have hf := proof_fit h hn
  have ha := proof_apart h hn
  have ht := proof_not h hn
  have hs := proof_sum h hn
  generalize proofN i n = L at *
  intro j hj
  have hj : j < L.length := by simpa [placesOf] using hj
  have hget : ∀ m (hm : m < L.length), (placesOf L)[m]? = some ((placeN L[m].1 L[m].2 : Nat) : Int) := fun m hm => by
    unfold placesOf
    rw [List.getElem?_map, List.getElem?_eq_getElem hm]
    rfl
  have hu : ∀ m (hm : m < L.length), ∃ k, pos_Under.f k ((placeN L[m].1 L[m].2 : Nat) : Int) = some (((L[m].2 * 2 ^ L[m].1 : Nat) : Int), (((L[m].2 + 1) * 2 ^ L[m].1 : Nat) : Int), true) := fun m hm => by
    have := hf _ (List.getElem_mem hm)
    exact (under_val L[m].1 L[m].2 (by omega)).rounds
  have hfj := hf _ (List.getElem_mem hj)
  have hpw := p2_pos L[j].1
  have e1 : (L[j].2 + 1) * 2 ^ L[j].1 = L[j].2 * 2 ^ L[j].1 + 2 ^ L[j].1 := by rw [Nat.add_mul, Nat.one_mul]
  refine ⟨_, _, _, hget j hj, place_under (by omega) hfj, hu j hj, by omega, hfj, ?_, ?_, ?_, fun m hm => ⟨_, _, _, hget m (by omega), hu m (by omega), ?_⟩⟩
  · have h1 : ¬ Und i L[j] := ht _ (List.getElem_mem hj)
    have h2 : ¬ (L[j].2 * 2 ^ L[j].1 ≤ i ∧ i < (L[j].2 + 1) * 2 ^ L[j].1) := fun h3 => h1 ((und_iff _ _ _).2 h3)
    omega
  · show leavesN (L.take (j + 1)) = _
    rw [leaves_take L j hj]
    show _ = leavesN (L.take j) + _
    omega
  · have := leaves_take_le L j
    show leavesN (L.take j) ≤ n
    omega
  · have h1 := List.pairwise_iff_getElem.1 ha m j (by omega) hj hm
    have h2 : ¬ Meet L[m] L[j] := fun h3 => by
      obtain ⟨x, hx, hy⟩ := meet_und h3
      exact h1 x hx hy
    unfold Meet at h2
    omega

set_option maxHeartbeats 2000000 in
set_option maxRecDepth 100000 in
theorem proof_sets_some (i n : Nat) (w : World) (h : i < n) (hn : n ≤ 4611686018427387904) :
    Calls Try.prog 4 #[.int .u64 i, .int .u64 n] w fun e w' => e = .returned (.bool true) ∧ Below w.heap.size w w' := by
  have hp := proof_places_some i n
  have hset := sets_proof h hn
  have hsum := proof_sum h hn
  have hlen := proof_len h hn
  have hplen := proof_length h hn
  have hS0 : leavesN ((proofN i n).take 0) = 0 := rfl
  have hSn : leavesN ((proofN i n).take (placesOf (proofN i n)).length) + 1 = n := by
    rw [show (placesOf (proofN i n)).length = (proofN i n).length by simp [placesOf], List.take_length]
    exact hsum
  have hzl : (placesOf (proofN i n)).length = (proofN i n).length := by simp [placesOf]
  rw [← hzl] at hlen hplen
  have hdn : ¬ ((n : Int) > 4611686018427387904) := by omega
  have hdi : ¬ ((i : Int) ≥ (n : Int)) := by omega
  have hnodes : pos_Nodes.f (n : Int) = some (((nodesN n : Nat) : Int), true) := by
    unfold pos_Nodes.f
    rw [if_neg hdn, nodes_val n (by omega)]
    rfl
  have hfit := tops_fit 63 n (hiN i n, i / 2 ^ hiN i n) (List.mem_of_getElem? hlen.2.1)
  have hh63 : hiN i n ≤ 62 := hi_le h hn
  have ht63 : (topsN n).length ≤ 63 := topsF_len 63 n
  obtain ⟨ks, hks⟩ := (spot_val (hiN i n) (i / 2 ^ hiN i n) (by have := hfit.2; simp only at this; omega)).rounds
  obtain ⟨kp, hkp⟩ := (peak_val i n h hn).rounds
  obtain ⟨kt, hkt⟩ := (peaks_val n hn).rounds
  have htop : (placesOf (topsN n))[overN i n]? = some ((placeN (hiN i n) (i / 2 ^ hiN i n) : Nat) : Int) := by
    unfold placesOf
    rw [List.getElem?_map, hlen.2.1]
    rfl
  have htl : (topsN n).length = (placesOf (topsN n)).length := by simp [placesOf]
  rw [htl] at hlen ht63
  have hol := hlen.1
  have hzz := hlen.2.2
  have HP := Aside0.mk (fun w => hp w h hn)
  clear hp hsum hlen hzl htl hfit
  have hS0 : (fun j => leavesN ((proofN i n).take j)) 0 = 0 := hS0
  have hSn : (fun j => leavesN ((proofN i n).take j)) (placesOf (proofN i n)).length + 1 = n := hSn
  generalize (fun j => leavesN ((proofN i n).take j)) = S at *
  generalize placesOf (proofN i n) = Z at *
  generalize placesOf (topsN n) = T at *
  generalize placeN (hiN i n) (i / 2 ^ hiN i n) = tp at *
  generalize hiN i n = hh at *
  generalize overN i n = o at *
  generalize i / 2 ^ hh = q at *
  generalize hsz : nodesN n = sz at *
  have HSz := Aside0.mk hsz
  clear hsz
  have HN := Aside0.mk hnodes
  have HS := Aside0.mk hset
  have HS0 := Aside0.mk hS0
  have HSn := Aside0.mk hSn
  have HKs := Aside0.mk hks
  have HKp := Aside0.mk hkp
  have HKt := Aside0.mk hkt
  have HTop := Aside0.mk htop
  have HZZ := Aside0.mk hzz
  clear hnodes hset hS0 hSn hks hkp hkt htop hzz
  go_enter Try.func4, Try.ntmps4
  go_wp2_with fail
  refine (HP.out _).mono ?_
  rintro e w1 ⟨v1, rfl, hr, hb⟩
  obtain ⟨A1, c1, e1⟩ := Kd.R_slice hr
  subst e1
  have HR := Aside0.mk (Kd.R_reads' hr).2.2
  have HB := Aside0.mk hb
  clear hr hb
  go_wp2_with fail
  refine (pos_Nodes.calls n _ _ _ HN.out).mono ?_
  rintro e w2 ⟨rfl, hd2⟩
  have HB2 := Aside0.mk (blt HB.out hd2.below)
  have HR2 := Aside0.mk (Kd.C_below HR.out hd2.below)
  clear hd2 HR HB
  go_wp2_with fail
  go_loopw [9, 10] (fun sum k wr => ∃ j sm : Nat, j ≤ Z.length ∧ k = .int .i64 j ∧ sum = .int .u64 (sm : Int) ∧ Aside0 (sm = 1 + S j) ∧ Aside0 (Below w.heap.size w wr) ∧ Aside0 (Kd.C (Kd.int .u64) wr A1 Z.length Z)) (fun _ k _ => Z.length - (intOf k).toNat)
  case atStart => exact ⟨0, 1, Nat.zero_le _, rfl, rfl, ⟨by rw [HS0.out]⟩, HB2, HR2⟩
  case round =>
    obtain ⟨j, sm, hj, rfl, rfl, HSm, HBr, HRr⟩ := hrel
    clear HB2 HR2
    by_cases hlt : j < Z.length
    · obtain ⟨pl, lo, hi, hz, hpl, ⟨ku, hku⟩, hlh, hhn, hio, hSj, hSn, hm⟩ := HS.out j hlt
      obtain ⟨ad, ea, hx⟩ := Kd.at_int HRr.out (j : Int) (by omega) (by omega)
      rw [Int.toNat_natCast, show rd Z (j : Int) = (pl : Int) by simp [rd, List.getD_eq_getElem?_getD, hz]] at hx
      subst ea
      have HRd := Aside0.mk (show rd Z (j : Int) = (pl : Int) by simp [rd, List.getD_eq_getElem?_getD, hz])
      have HKu := Aside0.mk hku
      rw [HSz.out] at hpl
      have HM := Aside0.mk hm
      have HSj := Aside0.mk hSj
      have HSn2 := Aside0.mk hSn
      have HSh := Aside0.mk hhn
      clear hku hm hz hSj
      go_wp2_with fail
      refine (pos_Under.calls ku pl _ _ _ _ HKu.out).mono ?_
      rintro e w3 ⟨rfl, hb3⟩
      have HB3 := Aside0.mk (blt HBr.out hb3)
      have HR3 := Aside0.mk (Kd.C_below HRr.out hb3)
      obtain ⟨ad3, ea3, hx3⟩ := Kd.at_int HR3.out (j : Int) (by omega) (by omega)
      injection ea3 with ea3
      subst ea3
      rw [Int.toNat_natCast, HRd.out] at hx3
      clear hb3 hx
      have d1 : ¬ (sz ≤ pl) := by omega
      obtain ⟨d, hd⟩ : ∃ d, hi = lo + d := ⟨hi - lo, by omega⟩
      have e1 : IntKind.u64.wrap ((hi : Int) - (lo : Int)) = (d : Int) := by rw [w64_of _ (by omega) (by omega)]; omega
      have HD := Aside0.mk (show sm + d = 1 + S (j + 1) by have := HSj.out; have := HSn2.out; have := HSm.out; omega)
      have hsd : sm + d ≤ 9300000000000000000 := by have := HSm.out; have := HSn2.out; have := HSh.out; omega
      have hgo : (¬ (lo ≤ i)) ∨ (lo ≤ i ∧ ¬ (i < hi)) := by omega
      clear hio hpl hlh hhn hSn
      clear hd
      rcases hgo with d2 | ⟨d2, d3⟩
      all_goals
        go_wp2_with fail
        go_loopw [14] (fun m wr' => ∃ a : Nat, a ≤ j ∧ m = .int .i64 a ∧ Aside0 (Below w.heap.size w wr') ∧ Aside0 (Kd.C (Kd.int .u64) wr' (some ad) Z.length Z)) (fun m _ => j - (intOf m).toNat)
        case atStart => exact ⟨0, Nat.zero_le _, rfl, HB3, HR3⟩
        case round =>
          obtain ⟨a, haj, rfl, HBi, HRi⟩ := hrel
          clear HB3 HR3 hx3
          by_cases hlt2 : a < j
          · obtain ⟨pl', lo', hi', hz', ⟨ku', hku'⟩, hap⟩ := HM.out a hlt2
            obtain ⟨ad', ea', hx'⟩ := Kd.at_int HRi.out (a : Int) (by omega) (by omega)
            injection ea' with ea'
            subst ea'
            rw [Int.toNat_natCast, show rd Z (a : Int) = (pl' : Int) by simp [rd, List.getD_eq_getElem?_getD, hz']] at hx'
            have HKu' := Aside0.mk hku'
            have HG := Aside0.mk (show (¬ (lo' < hi)) ∨ (lo' < hi ∧ ¬ (lo < hi')) by omega)
            clear hap
            clear hku' hz'
            go_wp2_with fail
            refine (pos_Under.calls ku' pl' _ _ _ _ HKu'.out).mono ?_
            rintro e w4 ⟨rfl, hb4⟩
            have HB4 := Aside0.mk (blt HBi.out hb4)
            have HR4 := Aside0.mk (Kd.C_below HRi.out hb4)
            clear hb4 hx'
            rcases HG.out with d5 | ⟨d5, d6⟩
            all_goals
              go_wp2_with fail
              go_roundw
              case rel => exact ⟨a + 1, by omega, by go_num, HB4, HR4⟩
              case measure => simp [intOf]; omega
          · go_wp2_with fail
            go_roundw
            case rel => exact ⟨j + 1, sm + d, by omega, by go_num, by go_num, HD, HBi, HRi⟩
            case measure => simp [intOf]; omega
    · have hjz : j = Z.length := by omega
      subst hjz
      have hsm : sm = n := by have := HSm.out; have := HSn.out; omega
      subst hsm
      go_wp2_with fail
      refine (pos_Peak.calls kp i sm _ _ _ HKp.out).mono ?_
      rintro e w3 ⟨rfl, hd3⟩
      have HB3 := Aside0.mk (blt HBr.out hd3.below)
      clear hd3 HBr HRr
      go_wp2_with fail
      refine (pos_Peaks.calls kt sm _ _ HKt.out).mono ?_
      rintro e w4 ⟨v4, rfl, hr4, hb4⟩
      obtain ⟨A4, c4, e4⟩ := Kd.R_slice hr4
      subst e4
      have HC4 := Aside0.mk (Kd.R_reads' hr4).2.2
      have HB4 := Aside0.mk (blt HB3.out hb4)
      obtain ⟨ad4, ea4, hx4⟩ := Kd.at_int HC4.out (o : Int) (by omega) (by omega)
      rw [Int.toNat_natCast, show rd T (o : Int) = (tp : Int) by have := HTop.out; simp [rd, List.getD_eq_getElem?_getD, this]] at hx4
      subst ea4
      clear hr4 hb4
      have hol2 : ¬ (T.length ≤ o) := by omega
      go_wp2_with fail
      refine (pos_Spot.calls ks tp _ _ _ _ HKs.out).mono ?_
      rintro e w5 ⟨rfl, hb5⟩
      have HB5 := Aside0.mk (blt HB4.out hb5)
      clear hb5 hx4
      have hlast : (Z.length : Int) = (hh : Int) + (T.length : Int) - 1 := by have := HZZ.out; omega
      go_wp2_with fail
      refine (awake7 _).mono ?_
      rintro e w6 ⟨rfl, hb6⟩
      have HB6 := Aside0.mk (blt (below_alloc HB5.out _) hb6)
      clear hb6
      go_wp2_with fail
      go_ret
      exact ⟨rfl, HB6.out⟩
set_option maxHeartbeats 2000000 in
set_option maxRecDepth 100000 in
theorem proof_sets_none (i n : Nat) (w : World) (h : 4611686018427387904 < n ∨ n ≤ i) :
    Calls Try.prog 4 #[.int .u64 i, .int .u64 n] w fun e w' => e = .returned (.bool true) ∧ Below w.heap.size w w' := by
  have HP := Aside0.mk (fun w => proof_places_none i n w h)
  by_cases hn : 4611686018427387904 < n
  · have e0 : (if 4611686018427387904 < n then (30 : Int) else 32) = 30 := if_pos hn
    rw [e0] at HP
    have hd : ((n : Int) > 4611686018427387904) := by omega
    clear h e0
    go_enter Try.func4, Try.ntmps4
    go_wp2_with fail
    refine (HP.out _).mono ?_
    rintro e w1 ⟨rfl, hb1⟩
    have HB1 := Aside0.mk hb1
    clear hb1
    go_wp2_with fail
    refine (awake7 _).mono ?_
    rintro e w6 ⟨rfl, hb6⟩
    have HB6 := Aside0.mk (blt HB1.out hb6)
    clear hb6
    go_wp2_with fail
    go_ret
    exact ⟨rfl, HB6.out⟩
  · have e0 : (if 4611686018427387904 < n then (30 : Int) else 32) = 32 := if_neg hn
    rw [e0] at HP
    have hd : ¬ ((n : Int) > 4611686018427387904) := by omega
    have hi : ((i : Int) ≥ (n : Int)) := by omega
    clear h e0
    go_enter Try.func4, Try.ntmps4
    go_wp2_with fail
    refine (HP.out _).mono ?_
    rintro e w1 ⟨rfl, hb1⟩
    have HB1 := Aside0.mk hb1
    clear hb1
    go_wp2_with fail
    refine (awake7 _).mono ?_
    rintro e w6 ⟨rfl, hb6⟩
    have HB6 := Aside0.mk (blt HB1.out hb6)
    clear hb6
    go_wp2_with fail
    go_ret
    exact ⟨rfl, HB6.out⟩
theorem proof_sets_law (i n : Nat) (w : World) :
    Calls Try.prog 4 #[.int .u64 i, .int .u64 n] w fun e w' => e = .returned (.bool true) ∧ Below w.heap.size w w' := by
  by_cases h : 4611686018427387904 < n ∨ n ≤ i
  · exact proof_sets_none i n w h
  · exact proof_sets_some i n w (by omega) (by omega)
end Go.Proofs.Ytagcabmccpekaaa.M

namespace Go.Proofs.Ytagcabmccpekaaa.M
open Go.RowKit Go.Proofs.YtagcabmccpekaaaW.PrintWords Go.Proofs.YtagcabmccpekaaaW.PrintLast Go.Proofs.YtagcabmccpekaaaW.PrintMore Go.Proofs.Ytagcabmccpekaaa.Leaf

theorem R_cap {α : Type} {d : Kd α} {e base : Nat} {ok : Nat → Prop} {w : World} {A : Option Addr} {n c : Nat} {xs : List α} (h : d.R e w base ok (.slice A n c) xs) : c ≤ 9223372036854775807 := by
  obtain ⟨inner, ho⟩ := Kd.R_own h
  rcases ho.2 with ⟨h1, _⟩ | ⟨g, cap, cur, h1, _, _, _, h2, _⟩
  · injection h1 with _ _ h3
    omega
  · injection h1 with _ _ h3
    subst h3
    exact h2
def SpSets (Z : List Int) (f t n : Nat) (S : Nat → Nat) : Prop := ∀ j, j < Z.length → ∃ pl lo hi : Nat, Z[j]? = some (pl : Int) ∧ pl < nodesN n ∧ (∃ k, pos_Under.f k (pl : Int) = some ((lo : Int), (hi : Int), true)) ∧ lo ≤ hi ∧ hi ≤ n ∧ (¬ (lo < t) ∨ (lo < t ∧ ¬ (f < hi)) ∨ (lo < t ∧ f < hi ∧ ¬ (f < t))) ∧ S (j + 1) = S j + (hi - lo) ∧ S j ≤ n ∧ ∀ q, j = q + 1 → ∃ pl' : Nat, Z[q]? = some (pl' : Int) ∧ pl' < pl
theorem sets_span {f t n : Nat} (hft : f ≤ t) (htn : t ≤ n) (hn : n ≤ 4611686018427387904) : SpSets (placesOf (spanSpots f t n)) f t n (fun j => (t - f) + leavesN ((spanSpots f t n).take j)) ∧ (t - f) + leavesN ((spanSpots f t n).take (placesOf (spanSpots f t n)).length) = n ∧ (placesOf (spanSpots f t n)).length ≤ 187 := by
  have ho := span_ord f t n hn
  have hc := span_count f t n hn
  have hout := span_out f t n
  have hsh := span_short f t n
  have hov : ov f t 0 n = t - f := by unfold ov; omega
  rw [hov] at hc
  generalize spanSpots f t n = L at *
  have hlen : (placesOf L).length = L.length := by simp [placesOf]
  refine ⟨?_, by rw [hlen, List.take_length]; omega, by omega⟩
  intro j hj
  have hj : j < L.length := by omega
  have hget : ∀ m (hm : m < L.length), (placesOf L)[m]? = some ((placeN L[m].1 L[m].2 : Nat) : Int) := fun m hm => by
    unfold placesOf
    rw [List.getElem?_map, List.getElem?_eq_getElem hm]
    rfl
  have hm := List.getElem_mem hj
  have hof := ho.1 _ hm
  have hfit : (L[j].2 + 1) * 2 ^ L[j].1 ≤ n := hof.2
  have e := up_lo L[j]
  have hpw := p2_pos L[j].1
  have h3 := hout _ hm
  refine ⟨_, lo L[j], up L[j], hget j hj, place_under (by omega) hfit, (under_val L[j].1 L[j].2 (by omega)).rounds, by omega, hfit, by omega, ?_, ?_, ?_⟩
  · show (t - f) + leavesN (L.take (j + 1)) = (t - f) + leavesN (L.take j) + _
    rw [leaves_take L j hj]
    omega
  · have := leaves_take_le L j
    show (t - f) + leavesN (L.take j) ≤ n
    omega
  · rintro q rfl
    refine ⟨_, hget q (by omega), place_bef (List.pairwise_iff_getElem.1 ho.2 q (q + 1) (by omega) hj (by omega)) (by omega)⟩
theorem span_index {f t n : Nat} (hft : f ≤ t) (htn : t ≤ n) (hn : n ≤ 4611686018427387904) : manyAns (List.range' f (t - f)) n = (placesOf (spanSpots f t n), 0) := by
  have hm : ∀ x, x ∈ List.range' f (t - f) ↔ f ≤ x ∧ x < t := fun x => by rw [List.mem_range'_1]; omega
  unfold manyAns
  rw [look_ok n hn _ List.pairwise_lt_range' (fun x hx => by have := (hm x).1 hx; omega), if_pos rfl, span_many f t n _ hm]
end Go.Proofs.Ytagcabmccpekaaa.M

namespace Go.Proofs.Ytagcabmccpekaaa.M
open Go.RowKit Go.Proofs.YtagcabmccpekaaaW.PrintWords Go.Proofs.YtagcabmccpekaaaW.PrintLast Go.Proofs.YtagcabmccpekaaaW.PrintMore Go.Proofs.Ytagcabmccpekaaa.Leaf

theorem awake10_places : manyAns [1, 2] 7 = ([0, 4, 9, 10], 0) := by decide +kernel
theorem awake10_bytes : mencAns [0, 2] 3 [hash1 7] = ([78, 3, 2, 0, 1, 7, 0, 0, 0, 0, 0, 0, 0, 0, 0, 0, 0, 0, 0, 0, 0, 0, 0, 0, 0, 0, 0, 0, 0, 0, 0, 0, 0, 0, 0, 0, 0], 0) := by decide +kernel
theorem C_two (w : World) (x y : Int) {b : Nat} (hb : b = w.heap.size) : Kd.C (Kd.int .u64) (w.alloc (.cells #[.int .u64 x, .int .u64 y] 22)) (some ⟨b, 0, none⟩) 2 [x, y] := by
  subst hb
  exact C_int_block .u64 (xs := [x, y]) (heap_new w _) (by simp) (fun j z hj => by
    match j, hj with
    | 0, hj => simp at hj; subst hj; rfl
    | 1, hj => simp at hj; subst hj; rfl)
set_option maxHeartbeats 1000000 in
set_option maxRecDepth 100000 in
theorem awake10 (w : World) : Calls Try.prog 39 #[] w fun e w' => e = .returned (.bool true) ∧ Below w.heap.size w w' := by
  have hp := many_places [1, 2] 7 (some ⟨w.heap.size, 0, none⟩) 2 (w.alloc (.cells #[.int .u64 1, .int .u64 2] 22)) (by simp) (by simp) (by omega) (C_two w 1 2 rfl)
  rw [awake10_places] at hp
  have HP := Aside0.mk hp
  clear hp
  go_enter Try.func39, Try.ntmps39
  go_wp2_with fail
  refine HP.out.mono ?_
  rintro e w1 ⟨v1, rfl, hr, hb⟩
  obtain ⟨A1, c1, e1, _, hC⟩ := Kd.R_reads hr
  obtain ⟨ad, ea, _⟩ := Kd.at_int hC 0 (by omega) (by simp)
  subst ea
  rw [e1]
  have HC := Aside0.mk hC
  have HB := Aside0.mk ((bl_new w _).trans (hb.mono (by simp)))
  clear hr hb hC e1
  have he := many_encode [0, 2] 3 2 1 [hash1 7] (some ⟨w1.heap.size, 0, none⟩) (some ⟨w1.heap.size + 1, 0, none⟩) ((w1.alloc (.cells #[.int .u64 0, .int .u64 2] 22)).alloc (.cells (hash1 7).cells.toArray 73)) (by omega) (by simp) (by simp) (by omega) (Kd.C_below (C_two w1 0 2 rfl) (bl_new _ _)) (by rw [show w1.heap.size + 1 = (w1.alloc (.cells #[.int .u64 0, .int .u64 2] 22)).heap.size by simp]; exact C_hash_one (heap_new _ _))
  rw [awake10_bytes] at he
  have HEn := Aside0.mk he
  clear he
  go_wp2_with fail
  refine HEn.out.mono ?_
  rintro e w2 ⟨v2, rfl, hr2, hb2⟩
  have hb3 : Below w1.heap.size w1 w2 := (blt (bl_new w1 _) (bl_new _ _)).trans (hb2.mono (by simp; omega))
  obtain ⟨A2, c2, e2, _, hC2⟩ := Kd.R_reads hr2
  obtain ⟨ad2, ea2, k5⟩ := Kd.at_int hC2 0 (by omega) (by simp)
  subst ea2
  rw [e2]
  have at1 : ∀ i : Nat, i < 4 → w2.cell? (ad.add i) = some (.int .u64 (rd [0, 4, 9, 10] i)) := fun i hi => by
    obtain ⟨ad', ea', hx⟩ := Kd.at_int (Kd.C_below HC.out hb3) (i : Int) (by omega) (by simp; omega)
    injection ea' with ea'
    subst ea'
    exact hx
  have at2 : ∀ i : Nat, i < 37 → w2.cell? (ad2.add i) = some (.int .u8 (rd [78, 3, 2, 0, 1, 7, 0, 0, 0, 0, 0, 0, 0, 0, 0, 0, 0, 0, 0, 0, 0, 0, 0, 0, 0, 0, 0, 0, 0, 0, 0, 0, 0, 0, 0, 0, 0] i)) := fun i hi => by
    obtain ⟨ad', ea', hx⟩ := Kd.at_int hC2 (i : Int) (by omega) (by simp; omega)
    injection ea' with ea'
    subst ea'
    exact hx
  have a0 : w2.cell? (ad.add 0) = some (.int .u64 0) := at1 0 (by omega)
  have a1 : w2.cell? ⟨ad.block, ad.off + 1, none⟩ = some (.int .u64 4) := at1 1 (by omega)
  have a2 : w2.cell? ⟨ad.block, ad.off + 2, none⟩ = some (.int .u64 9) := at1 2 (by omega)
  have b0 : w2.cell? (ad2.add 0) = some (.int .u8 78) := at2 0 (by omega)
  have b4 : w2.cell? ⟨ad2.block, ad2.off + 4, none⟩ = some (.int .u8 1) := at2 4 (by omega)
  have b5 : w2.cell? ⟨ad2.block, ad2.off + 5, none⟩ = some (.int .u8 7) := at2 5 (by omega)
  have a0' : w2.cell? ad = some (.int .u64 0) := by have := a0; rwa [show ad.add 0 = ad by simp [Addr.add]] at this
  have b0' : w2.cell? ad2 = some (.int .u8 78) := by have := b0; rwa [show ad2.add 0 = ad2 by simp [Addr.add]] at this
  have HB3 := Aside0.mk hb3
  clear hr2 hb2 hb3 hC2 e2 at1 at2 HC HEn
  go_wp2
  go_ret
  exact ⟨rfl, HB.out.trans (HB3.out.mono HB.out.size)⟩
end Go.Proofs.Ytagcabmccpekaaa.M

namespace Go.Proofs.Ytagcabmccpekaaa.M
open Go.RowKit Go.Proofs.YtagcabmccpekaaaW.PrintWords Go.Proofs.YtagcabmccpekaaaW.PrintLast Go.Proofs.YtagcabmccpekaaaW.PrintMore Go.Proofs.Ytagcabmccpekaaa.Leaf

def OneOK (Z Y : List Int) : Prop := Z.length = Y.length ∧ ∀ j, j < Z.length → ∃ a : Nat, Z[j]? = some (a : Int) ∧ (a : Int) ∈ Y ∧ ∀ q, j = q + 1 → ∃ b : Nat, Z[q]? = some (b : Int) ∧ b < a
theorem look_nil (n : Nat) : lookN [] n = if 4611686018427387904 < n then 30 else 0 := by
  unfold lookN
  rw [lookF_nil]
theorem one_ok (i n : Nat) : (manyAns [i] n).2 = (proofAns i n).2 ∧ OneOK (manyAns [i] n).1 (proofAns i n).1 ∧ (manyAns [i] n).1.length ≤ 124 := by
  by_cases h1 : 4611686018427387904 < n
  · have e1 : manyAns [i] n = ([], 30) := by
      have : lookN [i] n = 30 := by unfold lookN; rw [if_pos h1]
      unfold manyAns
      rw [this, if_neg (by decide)]
    have e2 : proofAns i n = ([], 30) := by unfold proofAns; rw [if_pos h1]
    rw [e1, e2]
    exact ⟨rfl, ⟨rfl, fun j hj => by simp at hj⟩, by simp⟩
  · by_cases h2 : n ≤ i
    · have e1 : manyAns [i] n = ([], 32) := by
        have : lookN [i] n = 32 := by unfold lookN; rw [if_neg h1, lookF_big rfl h2]
        unfold manyAns
        rw [this, if_neg (by decide)]
      have e2 : proofAns i n = ([], 32) := by unfold proofAns; rw [if_neg h1, if_pos h2]
      rw [e1, e2]
      exact ⟨rfl, ⟨rfl, fun j hj => by simp at hj⟩, by simp⟩
    · have h : i < n := by omega
      have hn : n ≤ 4611686018427387904 := by omega
      have e1 : manyAns [i] n = (placesOf (manySpots [i] n), 0) := by
        have : lookN [i] n = 0 := look_ok n hn [i] (List.pairwise_singleton _ _) (fun x hx => by simp at hx; omega)
        unfold manyAns
        rw [this, if_pos rfl]
      have e2 : proofAns i n = (placesOf (proofN i n), 0) := by unfold proofAns; rw [if_neg h1, if_neg h2]
      rw [e1, e2]
      obtain ⟨o1, o2⟩ := one_spots h hn
      have hord := many_ord [i] n hn
      have hpl := proof_length h hn
      have hlen : ∀ L, (placesOf L).length = L.length := fun L => by simp [placesOf]
      refine ⟨rfl, ⟨by rw [hlen, hlen, o1], fun j hj => ?_⟩, by show (placesOf (manySpots [i] n)).length ≤ 124; rw [hlen]; omega⟩
      have hj : j < (manySpots [i] n).length := by rw [← hlen]; exact hj
      have hget : ∀ m (hm : m < (manySpots [i] n).length), (placesOf (manySpots [i] n))[m]? = some ((placeN (manySpots [i] n)[m].1 (manySpots [i] n)[m].2 : Nat) : Int) := fun m hm => by
        unfold placesOf
        rw [List.getElem?_map, List.getElem?_eq_getElem hm]
        rfl
      refine ⟨_, hget j hj, ?_, ?_⟩
      · exact List.mem_map.2 ⟨_, o2 _ (List.getElem_mem hj), rfl⟩
      · rintro q rfl
        have := (hord.1 _ (List.getElem_mem hj)).2
        exact ⟨_, hget q (by omega), place_bef (List.pairwise_iff_getElem.1 hord.2 q (q + 1) (by omega) hj (by omega)) (by omega)⟩
theorem C_one (w : World) (x : Int) {b : Nat} (hb : b = w.heap.size) : Kd.C (Kd.int .u64) (w.alloc (.cells #[.int .u64 x] 22)) (some ⟨b, 0, none⟩) 1 [x] := by
  subst hb
  exact C_int_block .u64 (xs := [x]) (heap_new w _) (by simp) (fun j z hj => by
    match j, hj with
    | 0, hj => simp at hj; subst hj; rfl)
theorem mem_step (a : Int) (Y : List Int) (j : Nat) (hj : j < Y.length) : (a ∈ Y.take (j + 1)) ↔ (a ∈ Y.take j ∨ Y[j] = a) := by
  rw [List.take_add_one, List.getElem?_eq_getElem hj]
  show a ∈ Y.take j ++ [Y[j]] ↔ _
  rw [List.mem_append, List.mem_singleton, eq_comm (a := a)]

theorem all_ans (m : Nat) (hm : m ≤ 4611686018427387904) : manyAns (List.range' 0 m) m = ([], 0) := by
  have h := span_index (f := 0) (t := m) (n := m) (Nat.zero_le _) (Nat.le_refl _) hm
  rw [Nat.sub_zero] at h
  have hs := all_spots m hm (List.range' 0 m) (fun x => by rw [List.mem_range'_1]; omega)
  rw [h]
  rw [span_many 0 m m (List.range' 0 m) (fun x => by rw [List.mem_range'_1]; omega)] at hs
  rw [hs]
  rfl
set_option maxHeartbeats 4000000 in
set_option maxRecDepth 100000 in
theorem many_one_law (i n : Nat) (z : Int) (w : World) :
    Calls Try.prog 10 #[.int .u64 i, .int .u64 n, .int .i64 z] w fun e w' => e = .returned (.bool true) ∧ Below w.heap.size w w' := by
  have hp1 := many_places [i] n (some ⟨w.heap.size, 0, none⟩) 1 (w.alloc (.cells #[.int .u64 i] 22)) (by simp) (by simp) (by omega) (C_one w i rfl)
  have hp2 := proof_places i n
  obtain ⟨her, ⟨hlen, hok⟩, hsh⟩ := one_ok i n
  rw [her] at hp1
  generalize (manyAns [i] n).1 = Z at *
  generalize (proofAns i n).1 = Y at *
  generalize (proofAns i n).2 = er at *
  have HP1 := Aside0.mk hp1
  have HP2 := Aside0.mk hp2
  have HOk := Aside0.mk hok
  clear hp1 hp2 her hok
  go_enter Try.func10, Try.ntmps10
  go_wp2_with fail
  refine HP1.out.mono ?_
  rintro e w1 ⟨v1, rfl, hr, hb⟩
  obtain ⟨A1, c1, e1⟩ := Kd.R_slice hr
  subst e1
  have HR := Aside0.mk (Rd.of_R hr)
  have HB := Aside0.mk ((bl_new w _).trans (hb.mono (by simp)))
  clear hr hb
  rw [hlen] at HR ⊢
  go_wp2_with fail
  refine (HP2.out _).mono ?_
  rintro e w2 ⟨v2, rfl, hr2, hb2⟩
  obtain ⟨A2, c2, e2⟩ := Kd.R_slice hr2
  subst e2
  have HR2 := Aside0.mk (Rd.of_R hr2)
  have HRb := Aside0.mk (HR.out.below hb2)
  have HB2 := Aside0.mk (blt HB.out hb2)
  clear hr2 hb2 HR HB HP1
  go_wp2_with fail
  go_loopw [11] (fun k wr => ∃ j : Nat, j ≤ Y.length ∧ k = .int .i64 j ∧ Aside0 (Below w.heap.size w wr ∧ Rd .u64 wr (.slice A1 Y.length c1) Z ∧ Rd .u64 wr (.slice A2 Y.length c2) Y)) (fun k _ => Y.length - (intOf k).toNat)
  case atStart => exact ⟨0, Nat.zero_le _, rfl, ⟨HB2.out, HRb.out, HR2.out⟩⟩
  case round =>
    obtain ⟨j, hj, rfl, HW⟩ := hrel
    clear HB2 HRb HR2
    by_cases hlt : j < Y.length
    · obtain ⟨a, hz, hmem, hprev⟩ := HOk.out j (by omega)
      obtain ⟨q1, q2, q3⟩ := HW.out
      obtain ⟨_, _, ev, _, hC⟩ := q2
      injection ev with ev1 ev2 ev3
      subst ev1
      obtain ⟨ad, ea, hx⟩ := Kd.at_int hC (j : Int) (by omega) (by omega)
      subst ea
      clear hx hC ev2 ev3 q1 q3
      have HZ := Aside0.mk hz
      have HMem := Aside0.mk hmem
      have HPv := Aside0.mk hprev
      clear hz hmem hprev
      go_wp2_with fail
      go_loopw [12, 13] (fun b k wr => ∃ (p : Nat) (bb : Bool), p ≤ Y.length ∧ k = .int .i64 p ∧ b = .bool bb ∧ Aside0 (bb = decide ((a : Int) ∈ Y.take p)) ∧ Aside0 (Below w.heap.size w wr ∧ Rd .u64 wr (.slice (some ad) Y.length c1) Z ∧ Rd .u64 wr (.slice A2 Y.length c2) Y)) (fun _ k _ => Y.length - (intOf k).toNat)
      case atStart => exact ⟨0, false, Nat.zero_le _, rfl, rfl, ⟨by simp⟩, HW⟩
      case round =>
        clear HW
        obtain ⟨p, bb, hp, rfl, rfl, HBB, HW⟩ := hrel
        by_cases hlt2 : p < Y.length
        · obtain ⟨q1, q2, q3⟩ := HW.out
          obtain ⟨_, _, ev, _, hC⟩ := q2
          injection ev with ev1 ev2 ev3
          subst ev1
          obtain ⟨ad1, ea1, hx⟩ := Kd.at_int hC (j : Int) (by omega) (by omega)
          injection ea1 with ea1
          subst ea1
          rw [Int.toNat_natCast, show rd Z (j : Int) = (a : Int) by have := HZ.out; simp [rd, List.getD_eq_getElem?_getD, this]] at hx
          obtain ⟨_, _, fv, _, hC2⟩ := q3
          injection fv with fv1 fv2 fv3
          subst fv1
          obtain ⟨ad2, ea2, hx2⟩ := Kd.at_int hC2 (p : Int) (by omega) (by omega)
          subst ea2
          have hrd2 : rd Y (p : Int) = Y[p] := by simp [rd, List.getD_eq_getElem?_getD, List.getElem?_eq_getElem hlt2]
          rw [Int.toNat_natCast, hrd2] at hx2
          have hms := mem_step (a : Int) Y p hlt2
          clear hC ev2 ev3 q1 hC2 fv2 fv3 hrd2
          have g9 : (j : Int) < (Y.length : Int) := by omega
          have g8 : (p : Int) < (Y.length : Int) := by omega
          generalize Y[p] = y at *
          have HMs := Aside0.mk hms
          clear hms
          cases bb with
          | true =>
            go_upto_region 12 with (fail)
            go_quiet (fail)
            go_wp2_with fail
            go_roundw
            case rel => exact ⟨p + 1, true, by omega, by go_num, rfl, ⟨(decide_eq_true (HMs.out.2 (.inl (of_decide_eq_true HBB.out.symm)))).symm⟩, ⟨pw_below_drewN HW.out.1 _, HW.out.2.1.drewN _, HW.out.2.2.drewN _⟩⟩
            case measure => simp [intOf]; omega
          | false =>
            by_cases hy : y = (a : Int)
            · subst hy
              have g1 : decide ((a : Int) = (a : Int)) = true := decide_eq_true rfl
              clear g1
              go_upto_region 12 with (fail)
              go_quiet (fail)
              go_wp2_with fail
              go_roundw
              case rel => exact ⟨p + 1, true, by omega, by go_num, (by first | rfl | simp), ⟨(decide_eq_true (HMs.out.2 (.inr rfl))).symm⟩, ⟨pw_below_drewN HW.out.1 _, HW.out.2.1.drewN _, HW.out.2.2.drewN _⟩⟩
              case measure => simp [intOf]; omega
            · have g1 : (y == (a : Int)) = false := by rw [beq_eq_false_iff_ne]; exact hy
              have g2 : decide (y = (a : Int)) = false := decide_eq_false hy
              go_upto_region 12 with (fail)
              go_quiet (fail)
              go_wp2_with fail
              go_roundw
              case rel => exact ⟨p + 1, false, by omega, by go_num, (by first | rfl | simp [g1, g2, hy]), ⟨(decide_eq_false (fun h => by rcases HMs.out.1 h with h | h; exact (of_decide_eq_false HBB.out.symm) h; exact hy h)).symm⟩, ⟨pw_below_drewN HW.out.1 _, HW.out.2.1.drewN _, HW.out.2.2.drewN _⟩⟩
              case measure => simp [intOf]; omega
        · have hpl : p = Y.length := by omega
          have hbb : bb = true := by rw [HBB.out, hpl, List.take_length]; exact decide_eq_true HMem.out
          subst hbb
          obtain ⟨q1, q2, q3⟩ := HW.out
          obtain ⟨_, _, ev, _, hC⟩ := q2
          injection ev with ev1 ev2 ev3
          subst ev1
          obtain ⟨ad1, ea1, hx⟩ := Kd.at_int hC (j : Int) (by omega) (by omega)
          injection ea1 with ea1
          subst ea1
          rw [Int.toNat_natCast, show rd Z (j : Int) = (a : Int) by have := HZ.out; simp [rd, List.getD_eq_getElem?_getD, this]] at hx
          have g9 : (j : Int) < (Y.length : Int) := by omega
          by_cases hj0 : j = 0
          · have g0 : decide ((0 : Int) < (j : Int)) = false := decide_eq_false (by omega)
            have g3 : decide (0 < j) = false := decide_eq_false (by omega)
            clear hj0 hC ev2 ev3 q1 q3
            go_upto_region 13 with (fail)
            go_quiet (fail)
            go_wp2_with fail
            go_roundw
            case rel => exact ⟨j + 1, by omega, by go_num, ⟨pw_below_drewN HW.out.1 _, HW.out.2.1.drewN _, HW.out.2.2.drewN _⟩⟩
            case measure => simp [intOf]; omega
          · obtain ⟨q, hq⟩ : ∃ q, j = q + 1 := ⟨j - 1, by omega⟩
            obtain ⟨b, hzb, hba⟩ := HPv.out q hq
            obtain ⟨adq, eaq, hxq⟩ := Kd.at_int hC (q : Int) (by omega) (by omega)
            injection eaq with eaq
            subst eaq
            rw [Int.toNat_natCast, show rd Z (q : Int) = (b : Int) by simp [rd, List.getD_eq_getElem?_getD, hzb]] at hxq
            have e3 : wrap64 ((j : Int) - 1) = (q : Int) := by rw [i64_of _ (by omega) (by omega)]; omega
            have e4 : IntKind.i64.wrap ((j : Int) - 1) = (q : Int) := by rw [IntKind.wrap_i64]; omega
            have hqz : q < Y.length := by omega
            have hj1 : 0 < j := by omega
            have d8 : ¬ (a ≤ b) := by omega
            have g8 : (q : Int) < (Y.length : Int) := by omega
            clear hzb hj0 hq hba hC ev2 ev3 q1 q3
            go_upto_region 13 with (fail)
            go_quiet (fail)
            go_wp2_with fail
            go_roundw
            case rel => exact ⟨j + 1, by omega, by go_num, ⟨pw_below_drewN HW.out.1 _, HW.out.2.1.drewN _, HW.out.2.2.drewN _⟩⟩
            case measure => simp [intOf]; omega
    · have hjz : j = Y.length := by omega
      subst hjz
      have HBr := Aside0.mk HW.out.1
      clear HW HOk
      obtain ⟨w4, rfl⟩ : ∃ w4, w4 = wr := ⟨_, rfl⟩
      have hpn := many_places [] n none 0 w4 (by simp) (by simp) (by omega) ⟨rfl, by simp, fun h => absurd h (by simp)⟩
      have hz3 : z < 0 ∨ (¬ z < 0 ∧ 200 < z) ∨ ∃ m : Nat, z = (m : Int) ∧ m ≤ 200 := by
        by_cases c1 : z < 0
        · exact .inl c1
        · by_cases c2 : 200 < z
          · exact .inr (.inl ⟨c1, c2⟩)
          · exact .inr (.inr ⟨z.toNat, by omega, by omega⟩)
      by_cases hn : 4611686018427387904 < n
      · have en : manyAns [] n = ([], 30) := by unfold manyAns; rw [look_nil, if_pos hn, if_neg (by decide)]
        rw [en] at hpn
        have HPn := Aside0.mk hpn
        clear hpn en
        rcases hz3 with d1 | ⟨d1, d2⟩ | ⟨m, rfl, hm⟩
        · go_wp2_with fail
          refine HPn.out.mono ?_
          rintro e w5 ⟨v5, rfl, hr5, hb5⟩
          obtain ⟨A5, c5, e5⟩ := Kd.R_slice hr5
          subst e5
          have HR5 := Aside0.mk (Rd.of_R hr5)
          have HB5 := Aside0.mk (blt HBr.out hb5)
          clear hr5 hb5 HPn
          go_wp2_with (first | (go_at_call 20; go_loud (refine (pos_Peaks.calls kt n _ _ HKt.out).mono ?_; rintro e w6 ⟨v6, rfl, hr6, hb6⟩; obtain ⟨A6, c6, e6⟩ := Kd.R_slice hr6; subst e6; have HR6 := Aside0.mk (Rd.of_R hr6); have HR5 := Aside0.mk (HR5.out.below hb6); have HB5 := Aside0.mk (blt HB5.out hb6); clear hr6 hb6)) | (go_at_call 13; go_loud (refine (same_true (xs := T) HR5.out HR6.out (by omega)).mono ?_; rintro e w7 ⟨rfl, hd7⟩; have HB5 := Aside0.mk (blt HB5.out hd7.below); clear hd7)) | (go_at_call 39; go_loud (refine (awake10 _).mono ?_; rintro e w9 ⟨rfl, hb9⟩; have HB5 := Aside0.mk (blt HB5.out hb9); clear hb9)))
          go_ret
          exact ⟨rfl, HB5.out⟩
        · go_wp2_with fail
          refine HPn.out.mono ?_
          rintro e w5 ⟨v5, rfl, hr5, hb5⟩
          obtain ⟨A5, c5, e5⟩ := Kd.R_slice hr5
          subst e5
          have HR5 := Aside0.mk (Rd.of_R hr5)
          have HB5 := Aside0.mk (blt HBr.out hb5)
          clear hr5 hb5 HPn
          go_wp2_with (first | (go_at_call 20; go_loud (refine (pos_Peaks.calls kt n _ _ HKt.out).mono ?_; rintro e w6 ⟨v6, rfl, hr6, hb6⟩; obtain ⟨A6, c6, e6⟩ := Kd.R_slice hr6; subst e6; have HR6 := Aside0.mk (Rd.of_R hr6); have HR5 := Aside0.mk (HR5.out.below hb6); have HB5 := Aside0.mk (blt HB5.out hb6); clear hr6 hb6)) | (go_at_call 13; go_loud (refine (same_true (xs := T) HR5.out HR6.out (by omega)).mono ?_; rintro e w7 ⟨rfl, hd7⟩; have HB5 := Aside0.mk (blt HB5.out hd7.below); clear hd7)) | (go_at_call 39; go_loud (refine (awake10 _).mono ?_; rintro e w9 ⟨rfl, hb9⟩; have HB5 := Aside0.mk (blt HB5.out hb9); clear hb9)))
          go_ret
          exact ⟨rfl, HB5.out⟩
        · go_wp2_with fail
          refine HPn.out.mono ?_
          rintro e w5 ⟨v5, rfl, hr5, hb5⟩
          obtain ⟨A5, c5, e5⟩ := Kd.R_slice hr5
          subst e5
          have HR5 := Aside0.mk (Rd.of_R hr5)
          have HB5 := Aside0.mk (blt HBr.out hb5)
          clear hr5 hb5 HPn
          go_wp2_with (first | (go_at_call 20; go_loud (refine (pos_Peaks.calls kt n _ _ HKt.out).mono ?_; rintro e w6 ⟨v6, rfl, hr6, hb6⟩; obtain ⟨A6, c6, e6⟩ := Kd.R_slice hr6; subst e6; have HR6 := Aside0.mk (Rd.of_R hr6); have HR5 := Aside0.mk (HR5.out.below hb6); have HB5 := Aside0.mk (blt HB5.out hb6); clear hr6 hb6)) | (go_at_call 13; go_loud (refine (same_true (xs := T) HR5.out HR6.out (by omega)).mono ?_; rintro e w7 ⟨rfl, hd7⟩; have HB5 := Aside0.mk (blt HB5.out hd7.below); clear hd7)))
          go_loopw [16, 17] (fun s i wr => ∃ k : Nat, k ≤ m ∧ i = .int .i64 (k : Nat) ∧ Aside0 (Kd.R (Kd.int .u64) 22 wr w.heap.size (fun _ => True) s (intsOf (List.range' 0 k))) ∧ Aside0 (Below w.heap.size w wr)) (fun _ i _ => m - (intOf i).toNat)
          case atStart => exact ⟨0, Nat.zero_le _, rfl, ⟨Kd.R_nil _ _ _ _ _⟩, HB5⟩
          case round =>
            obtain ⟨k, hk, rfl, HRk, HBk⟩ := hrel
            clear HB5 HR5
            have hrl : (intsOf (List.range' 0 k)).length = k := by simp [intsOf]
            have hsn : intsOf (List.range' 0 k) ++ [(k : Int)] = intsOf (List.range' 0 (k + 1)) := by rw [List.range'_1_concat]; simp [intsOf]
            have HSn3 := Aside0.mk hsn
            have e4 : IntKind.u64.wrap (k : Int) = (k : Int) := w64_nat k (by omega)
            have hszk := HBk.out.size
            clear hsn
            by_cases hlt : k < m
            · generalize intsOf (List.range' 0 k) = U at *
              go_wp2_with (first | ((with_reducible refine gate_builtin (b := .append) (xs := #[.tmp 115, .tmp 118]) rfl ?_); at_builtin; go_loud (refine app_one (Kd.int .u64) w.heap.size rfl (.tmp 115) (.tmp 118) 23 22 (.int .u64 0) 8 rfl Try.underlying23 info22 rfl (by decide) (by omega) _ U k [.int .u64 k] rfl rfl rfl HRk.out hszk (by omega) ?_; intro A9 c9 w9 hr9 hf9 ha9; have HR9 := Aside0.mk hr9; have HF9 := Aside0.mk hf9; clear hr9 hf9 ha9)))
              go_roundw
              case rel => exact ⟨k + 1, by omega, by go_num, ⟨by rw [← HSn3.out]; have h := HR9.out; rw [hrl] at h; exact h⟩, ⟨HBk.out.trans (HF9.out.below hszk (fun k hk => Kd.R_base HRk.out k hk.symm))⟩⟩
              case measure => simp [intOf]; omega
            · have hkm : k = m := by omega
              subst hkm
              obtain ⟨A7, c7, e7⟩ := Kd.R_slice HRk.out
              have hr7 := HRk.out
              rw [e7] at hr7
              obtain ⟨_, hlc, hC7⟩ := Kd.R_reads' hr7
              have hcc7 : c7 ≤ 9223372036854775807 := R_cap hr7
              rw [hrl] at hC7 hlc
              rw [hrl] at e7
              subst e7
              have hmp := many_places (List.range' 0 k) k A7 c7 wr (by simp; omega) (by simpa using hlc) hcc7 (by simpa using hC7)
              rw [all_ans k (by omega), List.length_range'] at hmp
              have HMP := Aside0.mk hmp
              clear HSn3 hr7 hC7 hlc hmp
              go_wp2_with fail
              refine HMP.out.mono ?_
              rintro e w8 ⟨v8, rfl, hr8, hb8⟩
              obtain ⟨A8, c8, e8⟩ := Kd.R_slice hr8
              subst e8
              have HB5 := Aside0.mk (blt HBk.out hb8)
              clear hr8 hb8
              go_wp2_with (go_at_call 39; go_loud (refine (awake10 _).mono ?_; rintro e w9 ⟨rfl, hb9⟩; have HB5 := Aside0.mk (blt HB5.out hb9); clear hb9))
              go_ret
              exact ⟨rfl, HB5.out⟩
      · have en : manyAns [] n = (placesOf (topsN n), 0) := by unfold manyAns; rw [look_nil, if_neg hn, if_pos rfl, no_spots]
        obtain ⟨kt, hkt⟩ := (peaks_val n (by omega)).rounds
        have htl : (placesOf (topsN n)).length ≤ 63 := by have : (topsN n).length ≤ 63 := topsF_len 63 n; simpa [placesOf] using this
        rw [en] at hpn
        generalize placesOf (topsN n) = T at *
        have HPn := Aside0.mk hpn
        have HKt := Aside0.mk hkt
        clear hpn en hkt
        rcases hz3 with d1 | ⟨d1, d2⟩ | ⟨m, rfl, hm⟩
        · go_wp2_with fail
          refine HPn.out.mono ?_
          rintro e w5 ⟨v5, rfl, hr5, hb5⟩
          obtain ⟨A5, c5, e5⟩ := Kd.R_slice hr5
          subst e5
          have HR5 := Aside0.mk (Rd.of_R hr5)
          have HB5 := Aside0.mk (blt HBr.out hb5)
          clear hr5 hb5 HPn
          go_wp2_with (first | (go_at_call 20; go_loud (refine (pos_Peaks.calls kt n _ _ HKt.out).mono ?_; rintro e w6 ⟨v6, rfl, hr6, hb6⟩; obtain ⟨A6, c6, e6⟩ := Kd.R_slice hr6; subst e6; have HR6 := Aside0.mk (Rd.of_R hr6); have HR5 := Aside0.mk (HR5.out.below hb6); have HB5 := Aside0.mk (blt HB5.out hb6); clear hr6 hb6)) | (go_at_call 13; go_loud (refine (same_true (xs := T) HR5.out HR6.out (by omega)).mono ?_; rintro e w7 ⟨rfl, hd7⟩; have HB5 := Aside0.mk (blt HB5.out hd7.below); clear hd7)) | (go_at_call 39; go_loud (refine (awake10 _).mono ?_; rintro e w9 ⟨rfl, hb9⟩; have HB5 := Aside0.mk (blt HB5.out hb9); clear hb9)))
          go_ret
          exact ⟨rfl, HB5.out⟩
        · go_wp2_with fail
          refine HPn.out.mono ?_
          rintro e w5 ⟨v5, rfl, hr5, hb5⟩
          obtain ⟨A5, c5, e5⟩ := Kd.R_slice hr5
          subst e5
          have HR5 := Aside0.mk (Rd.of_R hr5)
          have HB5 := Aside0.mk (blt HBr.out hb5)
          clear hr5 hb5 HPn
          go_wp2_with (first | (go_at_call 20; go_loud (refine (pos_Peaks.calls kt n _ _ HKt.out).mono ?_; rintro e w6 ⟨v6, rfl, hr6, hb6⟩; obtain ⟨A6, c6, e6⟩ := Kd.R_slice hr6; subst e6; have HR6 := Aside0.mk (Rd.of_R hr6); have HR5 := Aside0.mk (HR5.out.below hb6); have HB5 := Aside0.mk (blt HB5.out hb6); clear hr6 hb6)) | (go_at_call 13; go_loud (refine (same_true (xs := T) HR5.out HR6.out (by omega)).mono ?_; rintro e w7 ⟨rfl, hd7⟩; have HB5 := Aside0.mk (blt HB5.out hd7.below); clear hd7)) | (go_at_call 39; go_loud (refine (awake10 _).mono ?_; rintro e w9 ⟨rfl, hb9⟩; have HB5 := Aside0.mk (blt HB5.out hb9); clear hb9)))
          go_ret
          exact ⟨rfl, HB5.out⟩
        · go_wp2_with fail
          refine HPn.out.mono ?_
          rintro e w5 ⟨v5, rfl, hr5, hb5⟩
          obtain ⟨A5, c5, e5⟩ := Kd.R_slice hr5
          subst e5
          have HR5 := Aside0.mk (Rd.of_R hr5)
          have HB5 := Aside0.mk (blt HBr.out hb5)
          clear hr5 hb5 HPn
          go_wp2_with (first | (go_at_call 20; go_loud (refine (pos_Peaks.calls kt n _ _ HKt.out).mono ?_; rintro e w6 ⟨v6, rfl, hr6, hb6⟩; obtain ⟨A6, c6, e6⟩ := Kd.R_slice hr6; subst e6; have HR6 := Aside0.mk (Rd.of_R hr6); have HR5 := Aside0.mk (HR5.out.below hb6); have HB5 := Aside0.mk (blt HB5.out hb6); clear hr6 hb6)) | (go_at_call 13; go_loud (refine (same_true (xs := T) HR5.out HR6.out (by omega)).mono ?_; rintro e w7 ⟨rfl, hd7⟩; have HB5 := Aside0.mk (blt HB5.out hd7.below); clear hd7)))
          go_loopw [16, 17] (fun s i wr => ∃ k : Nat, k ≤ m ∧ i = .int .i64 (k : Nat) ∧ Aside0 (Kd.R (Kd.int .u64) 22 wr w.heap.size (fun _ => True) s (intsOf (List.range' 0 k))) ∧ Aside0 (Below w.heap.size w wr)) (fun _ i _ => m - (intOf i).toNat)
          case atStart => exact ⟨0, Nat.zero_le _, rfl, ⟨Kd.R_nil _ _ _ _ _⟩, HB5⟩
          case round =>
            obtain ⟨k, hk, rfl, HRk, HBk⟩ := hrel
            clear HB5 HR5
            have hrl : (intsOf (List.range' 0 k)).length = k := by simp [intsOf]
            have hsn : intsOf (List.range' 0 k) ++ [(k : Int)] = intsOf (List.range' 0 (k + 1)) := by rw [List.range'_1_concat]; simp [intsOf]
            have HSn3 := Aside0.mk hsn
            have e4 : IntKind.u64.wrap (k : Int) = (k : Int) := w64_nat k (by omega)
            have hszk := HBk.out.size
            clear hsn
            by_cases hlt : k < m
            · generalize intsOf (List.range' 0 k) = U at *
              go_wp2_with (first | ((with_reducible refine gate_builtin (b := .append) (xs := #[.tmp 115, .tmp 118]) rfl ?_); at_builtin; go_loud (refine app_one (Kd.int .u64) w.heap.size rfl (.tmp 115) (.tmp 118) 23 22 (.int .u64 0) 8 rfl Try.underlying23 info22 rfl (by decide) (by omega) _ U k [.int .u64 k] rfl rfl rfl HRk.out hszk (by omega) ?_; intro A9 c9 w9 hr9 hf9 ha9; have HR9 := Aside0.mk hr9; have HF9 := Aside0.mk hf9; clear hr9 hf9 ha9)))
              go_roundw
              case rel => exact ⟨k + 1, by omega, by go_num, ⟨by rw [← HSn3.out]; have h := HR9.out; rw [hrl] at h; exact h⟩, ⟨HBk.out.trans (HF9.out.below hszk (fun k hk => Kd.R_base HRk.out k hk.symm))⟩⟩
              case measure => simp [intOf]; omega
            · have hkm : k = m := by omega
              subst hkm
              obtain ⟨A7, c7, e7⟩ := Kd.R_slice HRk.out
              have hr7 := HRk.out
              rw [e7] at hr7
              obtain ⟨_, hlc, hC7⟩ := Kd.R_reads' hr7
              have hcc7 : c7 ≤ 9223372036854775807 := R_cap hr7
              rw [hrl] at hC7 hlc
              rw [hrl] at e7
              subst e7
              have hmp := many_places (List.range' 0 k) k A7 c7 wr (by simp; omega) (by simpa using hlc) hcc7 (by simpa using hC7)
              rw [all_ans k (by omega), List.length_range'] at hmp
              have HMP := Aside0.mk hmp
              clear HSn3 hr7 hC7 hlc hmp
              go_wp2_with fail
              refine HMP.out.mono ?_
              rintro e w8 ⟨v8, rfl, hr8, hb8⟩
              obtain ⟨A8, c8, e8⟩ := Kd.R_slice hr8
              subst e8
              have HB5 := Aside0.mk (blt HBk.out hb8)
              clear hr8 hb8
              go_wp2_with (go_at_call 39; go_loud (refine (awake10 _).mono ?_; rintro e w9 ⟨rfl, hb9⟩; have HB5 := Aside0.mk (blt HB5.out hb9); clear hb9))
              go_ret
              exact ⟨rfl, HB5.out⟩
end Go.Proofs.Ytagcabmccpekaaa.M
