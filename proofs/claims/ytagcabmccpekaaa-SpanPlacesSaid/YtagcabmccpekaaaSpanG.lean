/- massiflaw20.SpanPlaces returns true. -/
import Derived.Test.YtagcabmccpekaaaSpanF
namespace Go.Proofs.Ytagcabmccpekaaa.M
open Go.RowKit Go.Proofs.YtagcabmccpekaaaW.PrintWords Go.Proofs.YtagcabmccpekaaaW.PrintLast Go.Proofs.YtagcabmccpekaaaW.PrintMore Go.Proofs.Ytagcabmccpekaaa.Leaf

theorem ref20_calls (f t n : Nat) (w : World) :
    Calls Try.prog 11 #[.int .u64 f, .int .u64 t, .int .u64 n] w fun e w' => ∃ v, e = .returned (.tuple #[v, .int .i64 (spanAns f t n).2]) ∧ Kd.R (Kd.int .u64) 22 w' w.heap.size (fun _ => True) v (spanAns f t n).1 ∧ Below w.heap.size w w' := by
  obtain ⟨k, hk⟩ := (ref20_places f t n).rounds
  exact massifref20_Places.calls k _ _ _ _ _ w hk
theorem same_calls {A0 A1 : Option Addr} {n0 n1 c0 c1 : Nat} {xs ys : List Int} {w : World} (h0 : Rd .u64 w (.slice A0 n0 c0) xs) (h1 : Rd .u64 w (.slice A1 n1 c1) ys) (hl : xs.length ≤ 1000000000) :
    Calls Try.prog 13 #[.slice A0 n0 c0, .slice A1 n1 c1] w fun e w' => e = .returned (.bool (decide (xs = ys))) ∧ Drawn0 w w' := by
  obtain ⟨_, _, e0, hl0, hc0⟩ := h0
  obtain ⟨_, _, e1, hl1, hc1⟩ := h1
  injection e0 with a0 b0 d0
  injection e1 with a1 b1 d1
  subst a0 b0 d0 a1 b1 d1
  obtain ⟨k, hk⟩ := (same_val xs ys (by omega)).rounds
  exact massifref7_SameNumbers.calls k _ _ _ _ _ _ _ w hc0 hl0 hc1 hl1 hk
theorem same_true {A0 A1 : Option Addr} {n0 n1 c0 c1 : Nat} {xs : List Int} {w : World} (h0 : Rd .u64 w (.slice A0 n0 c0) xs) (h1 : Rd .u64 w (.slice A1 n1 c1) xs) (hl : xs.length ≤ 1000000000) :
    Calls Try.prog 13 #[.slice A0 n0 c0, .slice A1 n1 c1] w fun e w' => e = .returned (.bool true) ∧ Drawn0 w w' := by
  refine (same_calls h0 h1 hl).mono ?_
  rintro e w' ⟨he, hd⟩
  rw [decide_eq_true rfl] at he
  exact ⟨he, hd⟩

/-- Numbers, the first j of which have been marked. -/
def mk (x : Int) (L : List Int) (j : Nat) : List Int := List.replicate j x ++ L.drop j
theorem mk_len (x : Int) (L : List Int) (j : Nat) (hj : j ≤ L.length) : (mk x L j).length = L.length := by simp [mk]; omega
theorem mk_set (x : Int) (L : List Int) (j : Nat) (hj : j < L.length) : (mk x L j).set j x = mk x L (j + 1) := by
  unfold mk
  rw [List.drop_eq_getElem_cons hj, List.set_append_right _ _ (by simp), List.length_replicate, Nat.sub_self, List.set_cons_zero, List.replicate_succ', List.append_assoc]
  rfl
theorem mk_all (x : Int) (L : List Int) : mk x L L.length = List.replicate L.length x := by simp [mk]
theorem mk_zero (x : Int) (L : List Int) : mk x L 0 = L := by simp [mk]
/-- Two values that own no block together. -/
def Apart (u v : Value) : Prop := ∀ k, u.ownBlock = some k → v.ownBlock ≠ some k
theorem Apart.symm {u v : Value} (h : Apart u v) : Apart v u := fun k h1 h2 => h k h2 h1
theorem apart_new {α β : Type} {d : Kd α} {d' : Kd β} {e e' base : Nat} {w w1 : World} {u v : Value} {xs : List α} {ys : List β} {ok ok' : Nat → Prop} (h : d.R e w base ok u xs) (h' : d'.R e' w1 w.heap.size ok' v ys) : Apart u v :=
  fun k h1 h2 => by have := Kd.R_lt h k h1; have := Kd.R_base h' k h2; omega
theorem R_below' {α : Type} {d : Kd α} {e base : Nat} {ok : Nat → Prop} {w w1 : World} {v : Value} {xs : List α} (h : d.R e w base ok v xs) (hb : Below w.heap.size w w1) : d.R e w1 base ok v xs := Kd.R_below h hb

/-- The world in the first loop of SpanPlaces: j numbers of a and b have been marked. -/
def SpL1 (w : World) (va vb vw : Value) (L : List Int) (j : Nat) (wr : World) : Prop :=
  Kd.R (Kd.int .u64) 22 wr w.heap.size (fun _ => True) va (mk 201 L j) ∧ Kd.R (Kd.int .u64) 22 wr w.heap.size (fun _ => True) vb (mk 202 L j) ∧
    Kd.R (Kd.int .u64) 22 wr w.heap.size (fun _ => True) vw L ∧ Below w.heap.size w wr
theorem SpL1.next {w : World} {ga gb na nb ca cb : Nat} {vw : Value} {L : List Int} {j : Nat} {wr : World} (h : SpL1 w (.slice (some ⟨ga, 0, none⟩) na ca) (.slice (some ⟨gb, 0, none⟩) nb cb) vw L j wr) (hj : j < L.length)
    (hab : Apart (.slice (some ⟨ga, 0, none⟩) na ca) (.slice (some ⟨gb, 0, none⟩) nb cb)) (haw : Apart vw (.slice (some ⟨ga, 0, none⟩) na ca)) (hbw : Apart vw (.slice (some ⟨gb, 0, none⟩) nb cb)) :
    SpL1 w (.slice (some ⟨ga, 0, none⟩) na ca) (.slice (some ⟨gb, 0, none⟩) nb cb) vw L (j + 1) ((wr.setCell ⟨ga, j, none⟩ (.int .u64 201)).setCell ⟨gb, j, none⟩ (.int .u64 202)) := by
  obtain ⟨h1, h2, h3, h4⟩ := h
  have oa : ∀ n c, (Value.slice (some ⟨ga, 0, none⟩) n c).ownBlock = some ga := fun _ _ => by simp [Value.ownBlock]
  have ob : ∀ n c, (Value.slice (some ⟨gb, 0, none⟩) n c).ownBlock = some gb := fun _ _ => by simp [Value.ownBlock]
  have hne : ga ≠ gb := fun he => hab ga (oa _ _) (by rw [ob, he])
  have s1 := Kd.R_putn h1 (j : Int) (201 : Int)
  rw [Int.toNat_natCast, mk_set 201 L j hj] at s1
  have f1 := Frm.of_set wr ⟨ga, j, none⟩ (.int .u64 201)
  have f2 := Frm.of_set (wr.setCell ⟨ga, j, none⟩ (.int .u64 201)) ⟨gb, j, none⟩ (.int .u64 202)
  have h2' := R_frm (flat_int .u64) h2 f1 (fun k hk he => by rw [ob] at hk; injection hk with hk; exact hne (by rw [hk]; exact he.symm))
  have s2 := Kd.R_putn h2' (j : Int) (202 : Int)
  rw [Int.toNat_natCast, mk_set 202 L j hj] at s2
  refine ⟨R_frm (flat_int .u64) s1 f2 (fun k hk he => by rw [oa] at hk; injection hk with hk; exact hne (by rw [hk]; exact he)), s2,
    R_frm (flat_int .u64) (R_frm (flat_int .u64) h3 f1 (fun k hk he => haw k hk (by rw [oa, he]))) f2 (fun k hk he => hbw k hk (by rw [ob, he])), ?_⟩
  have hba := Kd.R_base h1 ga (oa _ _)
  have hbb := Kd.R_base h2 gb (ob _ _)
  exact (h4.setCell hba _).setCell hbb _
theorem SpL1.drewN {w : World} {va vb vw : Value} {L : List Int} {j : Nat} {wr : World} (h : SpL1 w va vb vw L j wr) (n : Nat) : SpL1 w va vb vw L j (wr.drewN n) :=
  ⟨Kd.R_drewN h.1 n, Kd.R_drewN h.2.1 n, Kd.R_drewN h.2.2.1 n, pw_below_drewN h.2.2.2 n⟩
/-- The cells that a round of the first loop writes. -/
theorem SpL1.form {w : World} {Aa Ab : Option Addr} {na nb ca cb : Nat} {vw : Value} {L : List Int} {j : Nat} {wr : World} (h : SpL1 w (.slice Aa na ca) (.slice Ab nb cb) vw L j wr) (hj : j < L.length)
    (hab : Apart (.slice Aa na ca) (.slice Ab nb cb)) : ∃ ga gb, Aa = some ⟨ga, 0, none⟩ ∧ Ab = some ⟨gb, 0, none⟩ ∧ ga ≠ gb ∧ (∃ x : Int, wr.cell? ⟨ga, j, none⟩ = some (.int .u64 x)) ∧ wr.frozen? ⟨ga, j, none⟩ = false ∧
      (∀ u, ∃ x : Int, (wr.setCell ⟨ga, j, none⟩ u).cell? ⟨gb, j, none⟩ = some (.int .u64 x)) ∧ (∀ u, (wr.setCell ⟨ga, j, none⟩ u).frozen? ⟨gb, j, none⟩ = false) := by
  obtain ⟨h1, h2, h3, h4⟩ := h
  have l1 := mk_len 201 L j (by omega)
  have l2 := mk_len 202 L j (by omega)
  obtain ⟨ga, cap, ea, _, _, _⟩ := Kd.R_form h1 (by omega)
  obtain ⟨gb, capb, eb, _, _, _⟩ := Kd.R_form h2 (by omega)
  injection ea with ea1 ea2 ea3
  injection eb with eb1 eb2 eb3
  subst ea1 ea2 ea3 eb1 eb2 eb3
  have hne : ga ≠ gb := fun he => hab ga (by simp [Value.ownBlock]) (by simp [Value.ownBlock, he])
  obtain ⟨k1, k2⟩ := Kd.R_celln 0 h1 (j : Int) (by omega) (by omega)
  obtain ⟨k3, k4⟩ := Kd.R_celln 0 h2 (j : Int) (by omega) (by omega)
  rw [Int.toNat_natCast] at k1 k2 k3 k4
  have hb : ∀ u, (wr.setCell ⟨ga, j, none⟩ u).heap[gb]? = wr.heap[gb]? := fun u => Below.heap_setCell wr ⟨ga, j, none⟩ u gb (fun he => hne he.symm)
  exact ⟨ga, gb, rfl, rfl, hne, ⟨_, k1⟩, k2, fun u => ⟨_, (World.cell?_of_block (a := ⟨gb, j, none⟩) (hb u)).trans k3⟩, fun u => (World.frozen?_of_block (a := ⟨gb, j, none⟩) (hb u)).trans k4⟩
/-- Behind the two appends. -/
def SpL2 (w : World) (va vb vw : Value) (L : List Int) (wr : World) : Prop :=
  Kd.R (Kd.int .u64) 22 wr w.heap.size (fun _ => True) va (List.replicate (L.length + 1) 201) ∧ Kd.R (Kd.int .u64) 22 wr w.heap.size (fun _ => True) vb (List.replicate (L.length + 1) 202) ∧
    Kd.R (Kd.int .u64) 22 wr w.heap.size (fun _ => True) vw L ∧ Below w.heap.size w wr
theorem apart_step {u v v' : Value} {n : Nat} (h : Apart u v) (hu : ∀ k, u.ownBlock = some k → k < n) (ha : v'.ownBlock = v.ownBlock ∨ ∃ b, v'.ownBlock = some b ∧ n ≤ b) : Apart u v' := fun k h1 h2 => by
  rcases ha with ha | ⟨b, ha, hb⟩
  · exact h k h1 (ha ▸ h2)
  · rw [ha] at h2
    injection h2 with h2
    have := hu k h1
    omega
theorem SpL2.make {w wr w5 w6 : World} {va vb vw va' vb' : Value} {L : List Int} (h : SpL1 w va vb vw L L.length wr) (hab : Apart va vb) (hwa : Apart vw va) (hwb : Apart vw vb)
    (h1 : Kd.R (Kd.int .u64) 22 w5 w.heap.size (fun _ => True) va' (List.replicate L.length 201 ++ [201])) (f1 : Frm (fun k => some k = va.ownBlock) wr w5) (a1 : va'.ownBlock = va.ownBlock ∨ ∃ b, va'.ownBlock = some b ∧ wr.heap.size ≤ b)
    (h2 : Kd.R (Kd.int .u64) 22 w6 w.heap.size (fun _ => True) vb' (List.replicate L.length 202 ++ [202])) (f2 : Frm (fun k => some k = vb.ownBlock) w5 w6) (a2 : vb'.ownBlock = vb.ownBlock ∨ ∃ b, vb'.ownBlock = some b ∧ w5.heap.size ≤ b) :
    SpL2 w va' vb' vw L w6 ∧ Apart va' vb' := by
  have hvw : Apart va' vb := Apart.symm (apart_step hab.symm (Kd.R_lt h.2.1) a1)
  refine ⟨⟨?_, ?_, ?_, ?_⟩, apart_step hvw (Kd.R_lt h1) a2⟩
  · rw [List.replicate_succ']
    exact R_frm (flat_int .u64) h1 f2 (fun k hk he => hvw k hk he.symm)
  · rw [List.replicate_succ']
    exact h2
  · exact R_frm (flat_int .u64) (R_frm (flat_int .u64) h.2.2.1 f1 (fun k hk he => hwa k hk he.symm)) f2 (fun k hk he => hwb k hk he.symm)
  · have hs := h.2.2.2.size
    exact (h.2.2.2.trans (f1.below hs (fun k hk => Kd.R_base h.1 k hk.symm))).trans (f2.below (Nat.le_trans hs f1.size) (fun k hk => Kd.R_base h.2.1 k hk.symm))
theorem rep_cell {w : World} {base : Nat} {A : Option Addr} {m c n : Nat} {x : Int} (h : Kd.R (Kd.int .u64) 22 w base (fun _ => True) (.slice A m c) (List.replicate n x)) (j : Nat) (hj : j < n) : ∃ ad, A = some ad ∧ w.cell? (ad.add j) = some (.int .u64 x) := by
  obtain ⟨_, _, hC⟩ := Kd.R_reads' h
  obtain ⟨ad, ea, hx⟩ := Kd.at_int hC (j : Int) (by omega) (by rw [List.length_replicate]; omega)
  rw [Int.toNat_natCast] at hx
  refine ⟨ad, ea, ?_⟩
  rw [show rd (List.replicate n x) (j : Int) = x by simp [rd, List.getD_eq_getElem?_getD, List.getElem?_replicate, hj]] at hx
  exact hx
end Go.Proofs.Ytagcabmccpekaaa.M
