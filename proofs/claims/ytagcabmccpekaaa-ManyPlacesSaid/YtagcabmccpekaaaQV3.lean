/- massiflaw10.stays and massiflaw10.apart (of places). massiflaw10.ManyPlaces returns true: the walk. -/
import Derived.Test.YtagcabmccpekaaaQV2
import Derived.Test.YtagcabmccpekaaaQV1
import Derived.ChangeSlices
set_option linter.unusedVariables false
set_option linter.unusedSimpArgs false
namespace Go.Proofs.Ytagcabmccpekaaa.M
open Go.RowKit Go.Proofs.YtagcabmccpekaaaW.PrintWords Go.Proofs.YtagcabmccpekaaaW.PrintLast Go.Proofs.YtagcabmccpekaaaW.PrintMore Go.Proofs.Ytagcabmccpekaaa.Leaf

set_option maxHeartbeats 2000000 in
set_option maxRecDepth 100000 in
theorem stays_true (l : List Nat) (A A' : Option Addr) (c c' base : Nat) (w : World) (hl : l.length ≤ 1000000) (hR : Kd.R (Kd.int .u64) 22 w base (fun _ => True) (.slice A' (l.length + 1) c') (intsOf l ++ [171])) (hC : Kd.C (Kd.int .u64) w A l.length (intsOf l)) (hc : l.length ≤ c) :
    Calls Try.prog 37 #[.slice A' l.length c', .slice A l.length c] w fun e w' => e = .returned (.bool true) ∧ Below w.heap.size w w' := by
  obtain ⟨hC1, hl1, hc1⟩ := numbers_C hR
  obtain ⟨hn, hle, hC2⟩ := Kd.R_reads' hR
  obtain ⟨ad, ea, hx⟩ := Kd.at_int hC2 (l.length : Int) (by omega) (by omega)
  subst ea
  rw [Int.toNat_natCast, show rd (intsOf l ++ [171]) (l.length : Int) = 171 by simp [rd, List.getD_eq_getElem?_getD, intsOf]] at hx
  have e1 : wrap64 ((l.length : Int) + 1) = ((l.length + 1 : Nat) : Int) := by rw [i64_of _ (by omega) (by omega)]; omega
  have e2 : IntKind.i64.wrap ((l.length : Int) + 1) = ((l.length + 1 : Nat) : Int) := by rw [IntKind.wrap_i64]; omega
  have R0 := Aside0.mk (show Rd .u64 w (.slice (some ad) l.length c') (intsOf l) from ⟨_, _, by rw [ints_len], by rw [ints_len]; exact hl1, by rw [ints_len]; exact hC1⟩)
  have R1 := Aside0.mk (show Rd .u64 w (.slice A l.length c) (intsOf l) from ⟨_, _, by rw [ints_len], by rw [ints_len]; exact hc, by rw [ints_len]; exact hC⟩)
  have hle2 : (l.length : Int) + 1 ≤ (c' : Int) := by omega
  clear hR hC hC1 hC2 hn
  go_enter Try.func37, Try.ntmps37
  go_wp2_with (first | (go_at_call 13; go_loud (refine (same_true (xs := intsOf l) R0.out R1.out (by rw [ints_len]; omega)).mono ?_; rintro e w7 ⟨rfl, ⟨nd, rfl⟩⟩; have hx7 : (w.drewN nd).cell? (ad.add l.length) = some (.int .u64 171) := hx)))
  go_ret
  exact ⟨rfl, pw_below_drewN (Below.refl _ _) _⟩
/-- In massiflaw10.apart: the two rows, j numbers of which have been marked, and the two variables that hold them. -/
structure ApL (B n0 : Nat) (va vb : Value) (xs ys : List Int) (w wr : World) : Prop where
  ra : Kd.R (Kd.int .u64) 22 wr B (fun _ => True) va xs
  rb : Kd.R (Kd.int .u64) 22 wr B (fun _ => True) vb ys
  ba : wr.heap[n0]? = some (.cells #[.int .u64 0, va, .slice none 0 0] 63 (0, 0))
  bb : wr.heap[n0 + 1]? = some (.cells #[.int .u64 0, vb, .slice none 0 0] 63 (0, 0))
  be : Below B w wr
theorem ApL.below {B n0 : Nat} {va vb : Value} {xs ys : List Int} {w wr w1 : World} (h : ApL B n0 va vb xs ys w wr) (hb : Below wr.heap.size wr w1) (hB : B ≤ wr.heap.size) : ApL B n0 va vb xs ys w w1 :=
  ⟨Kd.R_below h.ra hb, Kd.R_below h.rb hb, (hb.block _ (blk_lt h.ba)).trans h.ba, (hb.block _ (blk_lt h.bb)).trans h.bb, below_on h.be hB hb⟩
theorem ApL.next {B n0 ga gb na nb ca cb : Nat} {xs ys : List Int} {w wr : World} (h : ApL B n0 (.slice (some ⟨ga, 0, none⟩) na ca) (.slice (some ⟨gb, 0, none⟩) nb cb) xs ys w wr) (j : Nat) (x y : Int) (hne : ga ≠ gb) :
    ApL B n0 (.slice (some ⟨ga, 0, none⟩) na ca) (.slice (some ⟨gb, 0, none⟩) nb cb) (xs.set j x) (ys.set j y) w ((wr.setCell ⟨ga, j, none⟩ (.int .u64 x)).setCell ⟨gb, j, none⟩ (.int .u64 y)) ∧
    ApL B n0 (.slice (some ⟨ga, 0, none⟩) na ca) (.slice (some ⟨gb, 0, none⟩) nb cb) (xs.set j x) (ys.set j y) w ((wr.setCell ⟨gb, j, none⟩ (.int .u64 y)).setCell ⟨ga, j, none⟩ (.int .u64 x)) := by
  have oa : (Value.slice (some ⟨ga, 0, none⟩) na ca).ownBlock = some ga := by simp [Value.ownBlock]
  have ob : (Value.slice (some ⟨gb, 0, none⟩) nb cb).ownBlock = some gb := by simp [Value.ownBlock]
  have na0 : n0 ≠ ga := fun he => Kd.R_ne h.ra h.ba (by decide) (by rw [oa, he])
  have na1 : n0 + 1 ≠ ga := fun he => Kd.R_ne h.ra h.bb (by decide) (by rw [oa, he])
  have nb0 : n0 ≠ gb := fun he => Kd.R_ne h.rb h.ba (by decide) (by rw [ob, he])
  have nb1 : n0 + 1 ≠ gb := fun he => Kd.R_ne h.rb h.bb (by decide) (by rw [ob, he])
  have hba := Kd.R_base h.ra ga oa
  have hbb := Kd.R_base h.rb gb ob
  constructor
  · have s1 := Kd.R_putn h.ra (j : Int) x
    rw [Int.toNat_natCast] at s1
    have f1 := Frm.of_set wr ⟨ga, j, none⟩ (.int .u64 x)
    have f2 := Frm.of_set (wr.setCell ⟨ga, j, none⟩ (.int .u64 x)) ⟨gb, j, none⟩ (.int .u64 y)
    have r2 := R_frm (flat_int .u64) h.rb f1 (fun k hk he => by rw [ob] at hk; injection hk with hk; exact hne (by rw [hk]; exact he.symm))
    have s2 := Kd.R_putn r2 (j : Int) y
    rw [Int.toNat_natCast] at s2
    refine ⟨R_frm (flat_int .u64) s1 f2 (fun k hk he => by rw [oa] at hk; injection hk with hk; exact hne (by rw [hk]; exact he)), s2, ?_, ?_, (h.be.setCell hba _).setCell hbb _⟩
    · exact (Below.heap_setCell _ ⟨gb, j, none⟩ _ n0 nb0).trans ((Below.heap_setCell _ ⟨ga, j, none⟩ _ n0 na0).trans h.ba)
    · exact (Below.heap_setCell _ ⟨gb, j, none⟩ _ _ nb1).trans ((Below.heap_setCell _ ⟨ga, j, none⟩ _ _ na1).trans h.bb)
  · have s1 := Kd.R_putn h.rb (j : Int) y
    rw [Int.toNat_natCast] at s1
    have f1 := Frm.of_set wr ⟨gb, j, none⟩ (.int .u64 y)
    have f2 := Frm.of_set (wr.setCell ⟨gb, j, none⟩ (.int .u64 y)) ⟨ga, j, none⟩ (.int .u64 x)
    have r2 := R_frm (flat_int .u64) h.ra f1 (fun k hk he => by rw [oa] at hk; injection hk with hk; exact hne (by rw [hk]; exact he))
    have s2 := Kd.R_putn r2 (j : Int) x
    rw [Int.toNat_natCast] at s2
    refine ⟨s2, R_frm (flat_int .u64) s1 f2 (fun k hk he => by rw [ob] at hk; injection hk with hk; exact hne (by rw [hk]; exact he.symm)), ?_, ?_, (h.be.setCell hbb _).setCell hba _⟩
    · exact (Below.heap_setCell _ ⟨ga, j, none⟩ _ n0 na0).trans ((Below.heap_setCell _ ⟨gb, j, none⟩ _ n0 nb0).trans h.ba)
    · exact (Below.heap_setCell _ ⟨ga, j, none⟩ _ _ na1).trans ((Below.heap_setCell _ ⟨gb, j, none⟩ _ _ nb1).trans h.bb)
/-- What the writing of one place of each reads and needs, in either order. -/
theorem ApL.form {B n0 : Nat} {Aa Ab : Option Addr} {na nb ca cb : Nat} {xs ys : List Int} {w wr : World} (h : ApL B n0 (.slice Aa na ca) (.slice Ab nb cb) xs ys w wr) {j : Nat} (hj : j < xs.length) (hj2 : j < ys.length) (hab : Apart (.slice Aa na ca) (.slice Ab nb cb)) :
    ∃ ga gb, Aa = some ⟨ga, 0, none⟩ ∧ Ab = some ⟨gb, 0, none⟩ ∧ ga ≠ gb ∧ (∃ x : Int, wr.cell? ⟨ga, j, none⟩ = some (.int .u64 x) ∧ ∀ u, (wr.setCell ⟨gb, j, none⟩ u).cell? ⟨ga, j, none⟩ = some (.int .u64 x)) ∧ (∃ x : Int, wr.cell? ⟨gb, j, none⟩ = some (.int .u64 x) ∧ ∀ u, (wr.setCell ⟨ga, j, none⟩ u).cell? ⟨gb, j, none⟩ = some (.int .u64 x)) ∧
      wr.frozen? ⟨ga, j, none⟩ = false ∧ wr.frozen? ⟨gb, j, none⟩ = false ∧ (∀ u, (wr.setCell ⟨ga, j, none⟩ u).frozen? ⟨gb, j, none⟩ = false) ∧ (∀ u, (wr.setCell ⟨gb, j, none⟩ u).frozen? ⟨ga, j, none⟩ = false) ∧
      (∀ u, (wr.setCell ⟨ga, j, none⟩ u).cell? ⟨n0, 1, none⟩ = some (.slice Aa na ca) ∧ (wr.setCell ⟨ga, j, none⟩ u).cell? ⟨n0 + 1, 1, none⟩ = some (.slice Ab nb cb)) ∧ (∀ u, (wr.setCell ⟨gb, j, none⟩ u).cell? ⟨n0, 1, none⟩ = some (.slice Aa na ca) ∧ (wr.setCell ⟨gb, j, none⟩ u).cell? ⟨n0 + 1, 1, none⟩ = some (.slice Ab nb cb)) := by
  obtain ⟨h1, h2, h3, h4, h5⟩ := h
  obtain ⟨ga, cap, ea, _, _, _⟩ := Kd.R_form h1 (by omega)
  obtain ⟨gb, capb, eb, _, _, _⟩ := Kd.R_form h2 (by omega)
  injection ea with ea1 ea2 ea3
  injection eb with eb1 eb2 eb3
  subst ea1 ea2 ea3 eb1 eb2 eb3
  have hne : ga ≠ gb := fun he => hab ga (by simp [Value.ownBlock]) (by simp [Value.ownBlock, he])
  obtain ⟨k1, k2⟩ := Kd.R_celln 0 h1 (j : Int) (by omega) (by omega)
  obtain ⟨k3, k4⟩ := Kd.R_celln 0 h2 (j : Int) (by omega) (by omega)
  rw [Int.toNat_natCast] at k1 k2 k3 k4
  have hb : ∀ u, (wr.setCell ⟨ga, j, none⟩ u).heap[gb]? = wr.heap[gb]? := fun u => Below.heap_setCell wr ⟨ga, j, none⟩ u gb (fun he => hne he.symm)
  have ha : ∀ u, (wr.setCell ⟨gb, j, none⟩ u).heap[ga]? = wr.heap[ga]? := fun u => Below.heap_setCell wr ⟨gb, j, none⟩ u ga (fun he => hne he)
  have oa : ∀ n c, (Value.slice (some ⟨ga, 0, none⟩) n c).ownBlock = some ga := fun _ _ => by simp [Value.ownBlock]
  have ob : ∀ n c, (Value.slice (some ⟨gb, 0, none⟩) n c).ownBlock = some gb := fun _ _ => by simp [Value.ownBlock]
  have na0 : n0 ≠ ga := fun he => Kd.R_ne h1 h3 (by decide) (by rw [oa, he])
  have na1 : n0 + 1 ≠ ga := fun he => Kd.R_ne h1 h4 (by decide) (by rw [oa, he])
  have nb0 : n0 ≠ gb := fun he => Kd.R_ne h2 h3 (by decide) (by rw [ob, he])
  have nb1 : n0 + 1 ≠ gb := fun he => Kd.R_ne h2 h4 (by decide) (by rw [ob, he])
  refine ⟨ga, gb, rfl, rfl, hne, ⟨_, k1, fun u => (World.cell?_of_block (a := ⟨ga, j, none⟩) (ha u)).trans k1⟩, ⟨_, k3, fun u => (World.cell?_of_block (a := ⟨gb, j, none⟩) (hb u)).trans k3⟩, k2, k4, fun u => (World.frozen?_of_block (a := ⟨gb, j, none⟩) (hb u)).trans k4, fun u => (World.frozen?_of_block (a := ⟨ga, j, none⟩) (ha u)).trans k2, fun u => ⟨?_, ?_⟩, fun u => ⟨?_, ?_⟩⟩
  · exact (blk_cell ((Below.heap_setCell wr ⟨ga, j, none⟩ u n0 na0).trans h3) 1).trans rfl
  · exact (blk_cell ((Below.heap_setCell wr ⟨ga, j, none⟩ u _ na1).trans h4) 1).trans rfl
  · exact (blk_cell ((Below.heap_setCell wr ⟨gb, j, none⟩ u n0 nb0).trans h3) 1).trans rfl
  · exact (blk_cell ((Below.heap_setCell wr ⟨gb, j, none⟩ u _ nb1).trans h4) 1).trans rfl
/-- In massiflaw10.apart, behind the loops: rows that grow, and the two variables that still hold what they held. -/
structure Ap2 (B n0 : Nat) (oa ob va vb : Value) (xs ys : List Int) (w wr : World) : Prop where
  ra : Kd.R (Kd.int .u64) 22 wr B (fun _ => True) va xs
  rb : Kd.R (Kd.int .u64) 22 wr B (fun _ => True) vb ys
  ba : wr.heap[n0]? = some (.cells #[.int .u64 0, oa, .slice none 0 0] 63 (0, 0))
  bb : wr.heap[n0 + 1]? = some (.cells #[.int .u64 0, ob, .slice none 0 0] 63 (0, 0))
  be : Below B w wr
  sz : B ≤ wr.heap.size
  ap : Apart va vb
theorem Ap2.below {B n0 : Nat} {oa ob va vb : Value} {xs ys : List Int} {w wr w1 : World} (h : Ap2 B n0 oa ob va vb xs ys w wr) (hb : Below wr.heap.size wr w1) : Ap2 B n0 oa ob va vb xs ys w w1 :=
  ⟨Kd.R_below h.ra hb, Kd.R_below h.rb hb, (hb.block _ (blk_lt h.ba)).trans h.ba, (hb.block _ (blk_lt h.bb)).trans h.bb, below_on h.be h.sz hb, Nat.le_trans h.sz hb.size, h.ap⟩
theorem Ap2.stepA {B n0 : Nat} {oa ob va vb va' : Value} {xs ys xs' : List Int} {w wr wc w1 : World} (h : Ap2 B n0 oa ob va vb xs ys w wr) (hb : Below wr.heap.size wr wc) (hr : Kd.R (Kd.int .u64) 22 w1 B (fun _ => True) va' xs') (hf : Frm (fun k => some k = va.ownBlock) wc w1)
    (ha : va'.ownBlock = va.ownBlock ∨ ∃ b, va'.ownBlock = some b ∧ wc.heap.size ≤ b) : Ap2 B n0 oa ob va' vb xs' ys w w1 := by
  have hc := h.below hb
  refine ⟨hr, R_frm (flat_int .u64) hc.rb hf (fun k hk he => hc.ap k he.symm hk), (hf.block _ (blk_lt hc.ba) (Kd.R_ne hc.ra hc.ba (by decide))).trans hc.ba, (hf.block _ (blk_lt hc.bb) (Kd.R_ne hc.ra hc.bb (by decide))).trans hc.bb, hc.be.trans (hf.below hc.sz (fun k hk => Kd.R_base hc.ra k hk.symm)), Nat.le_trans hc.sz hf.size, (apart_step hc.ap.symm (Kd.R_lt hc.rb) ha).symm⟩
theorem Ap2.stepB {B n0 : Nat} {oa ob va vb vb' : Value} {xs ys ys' : List Int} {w wr wc w1 : World} (h : Ap2 B n0 oa ob va vb xs ys w wr) (hb : Below wr.heap.size wr wc) (hr : Kd.R (Kd.int .u64) 22 w1 B (fun _ => True) vb' ys') (hf : Frm (fun k => some k = vb.ownBlock) wc w1)
    (ha : vb'.ownBlock = vb.ownBlock ∨ ∃ b, vb'.ownBlock = some b ∧ wc.heap.size ≤ b) : Ap2 B n0 oa ob va vb' xs ys' w w1 := by
  have hc := h.below hb
  refine ⟨R_frm (flat_int .u64) hc.ra hf (fun k hk he => hc.ap k hk he.symm), hr, (hf.block _ (blk_lt hc.ba) (Kd.R_ne hc.rb hc.ba (by decide))).trans hc.ba, (hf.block _ (blk_lt hc.bb) (Kd.R_ne hc.rb hc.bb (by decide))).trans hc.bb, hc.be.trans (hf.below hc.sz (fun k hk => Kd.R_base hc.rb k hk.symm)), Nat.le_trans hc.sz hf.size, apart_step hc.ap (Kd.R_lt hc.ra) ha⟩
theorem Ap2.cells {B n0 : Nat} {oa ob va vb : Value} {xs ys : List Int} {w wr wc : World} (h : Ap2 B n0 oa ob va vb xs ys w wr) (hb : Below wr.heap.size wr wc) : wc.cell? ⟨n0, 1, none⟩ = some oa ∧ wc.cell? ⟨n0 + 1, 1, none⟩ = some ob :=
  ⟨(blk_cell (h.below hb).ba 1).trans rfl, (blk_cell (h.below hb).bb 1).trans rfl⟩
theorem C_alloc {w : World} {A : Option Addr} {n : Nat} {xs : List Int} (h : Kd.C (Kd.int .u64) w A n xs) (o : Obj) : Kd.C (Kd.int .u64) (w.alloc o) A n xs := Kd.C_below h (bl_new w o)
theorem C_drew {w : World} {A : Option Addr} {n : Nat} {xs : List Int} (h : Kd.C (Kd.int .u64) w A n xs) : Kd.C (Kd.int .u64) w.drew A n xs := Kd.C_below h (below_drew (Below.refl _ _))
theorem C_frm {w w' : World} {b n : Nat} {xs : List Int} {S : Nat → Prop} (h : Kd.C (Kd.int .u64) w (some ⟨b, 0, none⟩) n xs) (hf : Frm S w w') (hS : ¬ S b) : Kd.C (Kd.int .u64) w' (some ⟨b, 0, none⟩) n xs := by
  obtain ⟨h1, h2, h3⟩ := h
  refine ⟨h1, h2, fun h0 => ?_⟩
  obtain ⟨ad, ea, hc⟩ := h3 h0
  injection ea with ea
  subst ea
  refine ⟨_, rfl, fun j p hj => ?_⟩
  obtain ⟨c, k1, k2, k3⟩ := hc j p hj
  refine ⟨c, k1, k2, fun i u hi => ?_⟩
  have h5 := k3 i u hi
  have hblk : ∀ m, ((⟨b, 0, none⟩ : Addr).add m).block = b := fun m => Go.ChangeShapes.block_add _ m
  have hlt : b < w.heap.size := by
    refine Decidable.by_contra (fun hn => ?_)
    have hnone : w.heap[((⟨b, 0, none⟩ : Addr).add (j * (Kd.int .u64).sz + i)).block]? = none := by rw [hblk]; exact Array.getElem?_eq_none (by omega)
    simp [World.cell?, hnone] at h5
  exact (World.cell?_of_block (a := (⟨b, 0, none⟩ : Addr).add (j * (Kd.int .u64).sz + i)) (by rw [hblk]; exact hf.block b hlt hS)).trans h5
theorem H_frm {w w' : World} {b n : Nat} {xs : List Hsh} {S : Nat → Prop} (h : kH.C w (some ⟨b, 0, none⟩) n xs) (hn : 0 < n) (hf : Frm S w w') (hS : ¬ S b) : kH.C w' (some ⟨b, 0, none⟩) n xs := by
  obtain ⟨h1, h2, h3⟩ := h
  refine ⟨h1, h2, fun h0 => ?_⟩
  obtain ⟨ad, ea, hc⟩ := h3 h0
  injection ea with ea
  subst ea
  refine ⟨_, rfl, fun j p hj => ?_⟩
  obtain ⟨c, k1, k2, k3⟩ := hc j p hj
  refine ⟨c, k1, k2, fun i u hi => ?_⟩
  have h5 := k3 i u hi
  have hblk : ∀ m, ((⟨b, 0, none⟩ : Addr).add m).block = b := fun m => Go.ChangeShapes.block_add _ m
  have hlt : b < w.heap.size := by
    refine Decidable.by_contra (fun hn => ?_)
    have hnone : w.heap[((⟨b, 0, none⟩ : Addr).add (j * kH.sz + i)).block]? = none := by rw [hblk]; exact Array.getElem?_eq_none (by omega)
    simp [World.cell?, hnone] at h5
  exact (World.cell?_of_block (a := (⟨b, 0, none⟩ : Addr).add (j * kH.sz + i)) (by rw [hblk]; exact hf.block b hlt hS)).trans h5
theorem H_alloc {w : World} {A : Option Addr} {n : Nat} {xs : List Hsh} (h : kH.C w A n xs) (o : Obj) : kH.C (w.alloc o) A n xs := Kd.C_below h (bl_new w o)
theorem H_drew {w : World} {A : Option Addr} {n : Nat} {xs : List Hsh} (h : kH.C w A n xs) : kH.C w.drew A n xs := Kd.C_below h (below_drew (Below.refl _ _))
theorem H_new (w : World) (h : Hsh) {b : Nat} (hb : b = w.heap.size) : kH.C (w.alloc (.cells h.cells.toArray 73)) (some ⟨b, 0, none⟩) 1 [h] := C_hash_one (heap_new2 w _ hb)
/-- The two rows of hashes. -/
structure Ap3 (B : Nat) (ve vf : Value) (hs gs : List Hsh) (wr : World) : Prop where
  re : kH.R 73 wr B (fun _ => True) ve hs
  rf : kH.R 73 wr B (fun _ => True) vf gs
  ap : Apart ve vf
  sz : B ≤ wr.heap.size
theorem Ap3.below {B : Nat} {ve vf : Value} {hs gs : List Hsh} {wr w1 : World} (h : Ap3 B ve vf hs gs wr) (hb : Below wr.heap.size wr w1) : Ap3 B ve vf hs gs w1 := ⟨Kd.R_below h.re hb, Kd.R_below h.rf hb, h.ap, Nat.le_trans h.sz hb.size⟩
theorem Ap3.stepE {B : Nat} {ve vf ve' : Value} {hs gs hs' : List Hsh} {wr wc w1 : World} (h : Ap3 B ve vf hs gs wr) (hb : Below wr.heap.size wr wc) (hr : kH.R 73 w1 B (fun _ => True) ve' hs') (hf : Frm (fun k => some k = ve.ownBlock) wc w1)
    (ha : ve'.ownBlock = ve.ownBlock ∨ ∃ b, ve'.ownBlock = some b ∧ wc.heap.size ≤ b) : Ap3 B ve' vf hs' gs w1 := by
  have hc := h.below hb
  exact ⟨hr, R_frm flat_kH hc.rf hf (fun k hk he => hc.ap k he.symm hk), (apart_step hc.ap.symm (Kd.R_lt hc.rf) ha).symm, Nat.le_trans hc.sz hf.size⟩
theorem Ap3.stepF {B : Nat} {ve vf vf' : Value} {hs gs gs' : List Hsh} {wr wc w1 : World} (h : Ap3 B ve vf hs gs wr) (hb : Below wr.heap.size wr wc) (hr : kH.R 73 w1 B (fun _ => True) vf' gs') (hf : Frm (fun k => some k = vf.ownBlock) wc w1)
    (ha : vf'.ownBlock = vf.ownBlock ∨ ∃ b, vf'.ownBlock = some b ∧ wc.heap.size ≤ b) : Ap3 B ve vf' hs gs' w1 := by
  have hc := h.below hb
  exact ⟨R_frm flat_kH hc.re hf (fun k hk he => hc.ap k hk he.symm), hr, apart_step hc.ap (Kd.R_lt hc.re) ha, Nat.le_trans hc.sz hf.size⟩
/-- Rows of numbers, of their own, where a row of hashes has grown. -/
theorem Ap2.hashed {B n0 : Nat} {oa ob va vb ve : Value} {xs ys : List Int} {hs : List Hsh} {w wr wc w1 : World} (h : Ap2 B n0 oa ob va vb xs ys w wr) (hb : Below wr.heap.size wr wc) (hr : kH.R 73 wc B (fun _ => True) ve hs) (hf : Frm (fun k => some k = ve.ownBlock) wc w1) : Ap2 B n0 oa ob va vb xs ys w w1 := by
  have hc := h.below hb
  have hne : ∀ {v : Value} {zs : List Int}, Kd.R (Kd.int .u64) 22 wc B (fun _ => True) v zs → ∀ k, v.ownBlock = some k → ¬ some k = ve.ownBlock := by
    intro v zs hv k hk he
    obtain ⟨cc, hcc⟩ := hash_typed hr k he.symm
    exact Kd.R_ne hv hcc (by decide) hk.symm
  refine ⟨R_frm (flat_int .u64) hc.ra hf (hne hc.ra), R_frm (flat_int .u64) hc.rb hf (hne hc.rb), (hf.block _ (blk_lt hc.ba) (Kd.R_ne hr hc.ba (by decide))).trans hc.ba, (hf.block _ (blk_lt hc.bb) (Kd.R_ne hr hc.bb (by decide))).trans hc.bb, hc.be.trans (hf.below hc.sz (fun k hk => Kd.R_base hr k hk.symm)), Nat.le_trans hc.sz hf.size, hc.ap⟩
theorem Ap2.cells2 {B n0 : Nat} {oa ob va vb : Value} {xs ys : List Int} {w wr wc : World} (h : Ap2 B n0 oa ob va vb xs ys w wr) (hb : Below wr.heap.size wr wc) : wc.cell? ⟨n0, 2, none⟩ = some (.slice none 0 0) ∧ wc.cell? ⟨n0 + 1, 2, none⟩ = some (.slice none 0 0) :=
  ⟨(blk_cell (h.below hb).ba 2).trans rfl, (blk_cell (h.below hb).bb 2).trans rfl⟩
set_option maxHeartbeats 4000000 in
set_option maxRecDepth 100000 in
theorem apart_rows (xs ys : List Int) (Aa Ab : Option Addr) (ca cb B : Nat) (w : World) (hl : xs.length = ys.length) (ha : Kd.R (Kd.int .u64) 22 w B (fun _ => True) (.slice Aa xs.length ca) xs) (hb : Kd.R (Kd.int .u64) 22 w B (fun _ => True) (.slice Ab xs.length cb) ys) (hab : Apart (.slice Aa xs.length ca) (.slice Ab xs.length cb)) (hB : B ≤ w.heap.size) (hlen : xs.length ≤ 1000000000) :
    Calls Try.prog 38 #[.agg #[.int .u64 0, .slice Aa xs.length ca, .slice none 0 0], .agg #[.int .u64 0, .slice Ab xs.length cb, .slice none 0 0]] w fun e w' => e = .returned (.bool true) ∧ Below B w w' := by
  obtain ⟨n, hn⟩ : ∃ n, n = xs.length := ⟨_, rfl⟩
  rw [← hn] at ha hb hab hlen ⊢
  have hny : ys.length = n := by omega
  obtain ⟨w0, hw0⟩ : ∃ w0, w0 = (w.alloc (.cells #[.int .u64 0, .slice Aa n ca, .slice none 0 0] 63)).alloc (.cells #[.int .u64 0, .slice Ab n cb, .slice none 0 0] 63) := ⟨_, rfl⟩
  have hb0 : Below w.heap.size w w0 := by rw [hw0]; exact below_alloc (bl_new w _) _
  have A0 := Aside0.mk (show ApL B w.heap.size (.slice Aa n ca) (.slice Ab n cb) xs ys w w0 from ⟨Kd.R_below ha hb0, Kd.R_below hb hb0, by rw [hw0]; exact (Below.heap_alloc _ _ _ (by simp)).trans (heap_new w _), by rw [hw0]; exact heap_new2 _ _ (by simp), hb0.mono hB⟩)
  have HW0 := Aside0.mk hw0
  have hsz0 : B ≤ w0.heap.size := Nat.le_trans hB hb0.size
  have HAB := Aside0.mk hab
  have HNx := Aside0.mk (show xs.length = n ∧ ys.length = n from ⟨hn.symm, hny⟩)
  clear ha hb hab hw0 hb0 hl hn hny
  go_enter Try.func38, Try.ntmps38
  go_upto_region 1 with (fail)
  change Code.wp _ _ _ _ ((w.alloc (.cells #[.int .u64 0, .slice Aa n ca, .slice none 0 0] 63)).alloc (.cells #[.int .u64 0, .slice Ab n cb, .slice none 0 0] 63))
  rw [← HW0.out]
  go_wp2_with fail
  go_loopw [5] (fun k wr => ∃ j : Nat, j ≤ n ∧ k = .int .i64 j ∧ Aside0 (ApL B w.heap.size (.slice Aa n ca) (.slice Ab n cb) (mk 201 xs j) (mk 202 ys j) w wr ∧ B ≤ wr.heap.size)) (fun k _ => n - (intOf k).toNat)
  case atStart => exact ⟨0, Nat.zero_le _, rfl, ⟨by rw [mk_zero, mk_zero]; exact A0.out, hsz0⟩⟩
  case round =>
    obtain ⟨j, hj, rfl, HS⟩ := hrel
    clear A0
    have x0 : wr.cell? ⟨w.heap.size, 1, none⟩ = some (.slice Aa n ca) := (blk_cell HS.out.1.ba 1).trans rfl
    have x1 : wr.cell? ⟨w.heap.size + 1, 1, none⟩ = some (.slice Ab n cb) := (blk_cell HS.out.1.bb 1).trans rfl
    by_cases hlt : j < n
    · obtain ⟨ga, gb, ea, eb, hne, ⟨y1, k1, k1'⟩, ⟨y2, k2, k2'⟩, f1, f2, f3, f4, l1, l2⟩ := ApL.form HS.out.1 (j := j) (by have := HNx.out; rw [mk_len _ _ _ (by omega)]; omega) (by have := HNx.out; rw [mk_len _ _ _ (by omega)]; omega) HAB.out
      subst ea eb
      have HN := Aside0.mk (ApL.next HS.out.1 j 201 202 hne)
      rw [mk_set 201 xs j (by have := HNx.out; omega), mk_set 202 ys j (by have := HNx.out; omega)] at HN
      go_wp2_with fail
      go_region_held3 (fun w' => w'.cell? ⟨w.heap.size, 1, none⟩ = some (.slice (some ⟨ga, 0, none⟩) n ca) ∧ w'.cell? ⟨w.heap.size + 1, 1, none⟩ = some (.slice (some ⟨gb, 0, none⟩) n cb)) (first | exact ⟨x0, x1⟩ | exact l1 _ | exact l2 _ | exact ⟨(blk_cell HN.out.1.ba 1).trans rfl, (blk_cell HN.out.1.bb 1).trans rfl⟩ | exact ⟨(blk_cell HN.out.2.ba 1).trans rfl, (blk_cell HN.out.2.bb 1).trans rfl⟩) (fail)
      go_wp2_with fail
      go_roundw
      case rel => exact ⟨j + 1, by omega, by go_num, ⟨HN.out.1.below (below_drew (Below.refl _ _)) (by have := HS.out.2; simp [World.setCell]; omega), by have := HS.out.2; simp [World.setCell, World.drew]; omega⟩⟩
      case measure => simp [intOf]; omega
    · have hjn : j = n := by omega
      subst hjn
      obtain ⟨w1, rfl⟩ : ∃ w1, w1 = wr := ⟨_, rfl⟩
      have z0 : w1.cell? ⟨w.heap.size, 2, none⟩ = some (.slice none 0 0) := (blk_cell HS.out.1.ba 2).trans rfl
      have z1 : w1.cell? ⟨w.heap.size + 1, 2, none⟩ = some (.slice none 0 0) := (blk_cell HS.out.1.bb 2).trans rfl
      have hmk : mk 201 xs j = List.replicate j 201 ∧ mk 202 ys j = List.replicate j 202 := by
        obtain ⟨h1, h2⟩ := HNx.out
        have e1 := mk_all 201 xs
        have e2 := mk_all 202 ys
        rw [h1] at e1
        rw [h2] at e2
        exact ⟨e1, e2⟩
      rw [hmk.1, hmk.2] at HS
      clear hmk
      go_wp2_with fail
      go_loop [6] (fun c => c = .int .i64 0) (fun _ => 0)
      case atStart => rfl
      case round =>
        obtain rfl := hrel
        go_wp2_with fail
        have SA := Aside0.mk (show Ap2 B w.heap.size (.slice Aa j ca) (.slice Ab j cb) (.slice Aa j ca) (.slice Ab j cb) (List.replicate j 201) (List.replicate j 202) w w1 from ⟨HS.out.1.ra, HS.out.1.rb, HS.out.1.ba, HS.out.1.bb, HS.out.1.be, HS.out.2, HAB.out⟩)
        go_cut [7, 8] (fun va vb wc => ∃ A5 c5 A6 c6, va = .slice A5 (j + 1) c5 ∧ vb = .slice A6 (j + 1) c6 ∧ Aside0 (Ap2 B w.heap.size (.slice Aa j ca) (.slice Ab j cb) va vb (List.replicate (j + 1) 201) (List.replicate (j + 1) 202) w wc))
        case first =>
          go_region_held3 (fun w' => w'.cell? ⟨w.heap.size, 1, none⟩ = some (.slice Aa j ca) ∧ w'.cell? ⟨w.heap.size + 1, 1, none⟩ = some (.slice Ab j cb)) (exact SA.out.cells (by repeat (with_reducible first | exact Below.refl _ _ | refine below_alloc ?_ _ | refine below_drew ?_))) (first | ((refine step_of_list rfl (app_row .u64 B rfl (.tmp 60) (.tmp 61) 23 22 (.int .u64 0) 8 rfl Try.underlying23 info22 rfl (by omega) (.slice Aa j ca) (List.replicate j 201) [201] _ 1 1 rfl rfl (Kd.R_below SA.out.ra (by repeat (with_reducible first | exact Below.refl _ _ | refine below_alloc ?_ _ | refine below_drew ?_))) (by repeat (with_reducible first | exact C_one _ _ (by first | rfl | simp [World.drew]) | refine C_drew ?_ | refine C_alloc ?_ _)) (SA.out.below (by repeat (with_reducible first | exact Below.refl _ _ | refine below_alloc ?_ _ | refine below_drew ?_))).sz (by rw [List.length_replicate]; omega) ?_)); intro A5 c5 w5 hr5 hf5 ha5; rw [List.length_replicate] at hr5 ha5 ⊢; have HF5 := Aside0.mk hf5; have HO5 := Aside0.mk (Kd.R_lt SA.out.ra); have SA := Aside0.mk (Ap2.stepA SA.out (by repeat (with_reducible first | exact Below.refl _ _ | refine below_alloc ?_ _ | refine below_drew ?_)) hr5 hf5 ha5); clear hr5 hf5 ha5; refine ⟨rfl, ?_⟩) | ((refine step_of_list rfl (app_row .u64 B rfl (.tmp 64) (.tmp 65) 23 22 (.int .u64 0) 8 rfl Try.underlying23 info22 rfl (by omega) (.slice Ab j cb) (List.replicate j 202) [202] _ 1 1 rfl rfl (Kd.R_below SA.out.rb (by repeat (with_reducible first | exact Below.refl _ _ | refine below_alloc ?_ _ | refine below_drew ?_))) (by repeat (with_reducible first | exact C_one _ _ (by first | rfl | simp [World.drew]) | refine C_drew ?_ | refine C_alloc ?_ _ | refine C_frm ?_ HF5.out (fun he => by have := HO5.out _ he.symm; omega))) (SA.out.below (by repeat (with_reducible first | exact Below.refl _ _ | refine below_alloc ?_ _ | refine below_drew ?_))).sz (by rw [List.length_replicate]; omega) ?_)); intro A6 c6 w6 hr6 hf6 ha6; rw [List.length_replicate] at hr6 ha6 ⊢; have SA := Aside0.mk (Ap2.stepB SA.out (by repeat (with_reducible first | exact Below.refl _ _ | refine below_alloc ?_ _ | refine below_drew ?_)) hr6 hf6 ha6); clear hr6 hf6 ha6; refine ⟨rfl, ?_⟩))
          all_goals
            go_wp2_with fail
            go_meet
            case rel => exact ⟨_, _, _, _, rfl, rfl, ⟨by rw [List.replicate_succ', List.replicate_succ']; exact SA.out⟩⟩
        case rest =>
          obtain ⟨A5, c5, A6, c6, rfl, rfl, hcc⟩ := hcut
          have SA := hcc
          clear hcc HS x0 x1 z0 z1
          have z0 := (SA.out.cells2 (Below.refl _ _)).1
          have z1 := (SA.out.cells2 (Below.refl _ _)).2
          have SE := Aside0.mk (show Ap3 B (.slice none 0 0) (.slice none 0 0) [] [] wc from ⟨Kd.R_nil _ _ _ _ _, Kd.R_nil _ _ _ _ _, fun k hk => by simp [Value.ownBlock] at hk, SA.out.sz⟩)
          go_upto_region 10 with (fail)
          go_cut [9, 10] (fun ve vf wc => ∃ A7 c7 A8 c8, ve = .slice A7 1 c7 ∧ vf = .slice A8 1 c8 ∧ Aside0 (Ap2 B w.heap.size (.slice Aa j ca) (.slice Ab j cb) (.slice A5 (j + 1) c5) (.slice A6 (j + 1) c6) (List.replicate (j + 1) 201) (List.replicate (j + 1) 202) w wc) ∧ Aside0 (Ap3 B ve vf [hash1 201] [hash1 202] wc))
          case first =>
            go_region_held3 (fun w' => w'.cell? ⟨w.heap.size, 2, none⟩ = some (.slice none 0 0) ∧ w'.cell? ⟨w.heap.size + 1, 2, none⟩ = some (.slice none 0 0)) (exact SA.out.cells2 (by repeat (with_reducible first | exact Below.refl _ _ | refine below_alloc ?_ _ | refine below_drew ?_))) (first | ((refine step_of_list rfl (app_rows kH (fun _ _ _ _ _ h => h) B rfl (.tmp 68) (.tmp 70) 43 73 _ 32 rfl Try.underlying43 infoH rfl (by decide) (by decide) (.slice none 0 0) [] [hash1 201] _ 1 1 rfl rfl (Kd.R_below SE.out.re (by repeat (with_reducible first | exact Below.refl _ _ | refine below_alloc ?_ _ | refine below_drew ?_))) (by repeat (first | exact H_new _ _ (by first | rfl | simp [World.drew]) | (with_reducible refine H_drew ?_) | (with_reducible refine H_alloc ?_ _))) (SE.out.below (by repeat (with_reducible first | exact Below.refl _ _ | refine below_alloc ?_ _ | refine below_drew ?_))).sz (by decide) ?_)); intro A7 c7 w7 hr7 hf7 ha7; have HF7 := Aside0.mk hf7; have SA := Aside0.mk (Ap2.hashed SA.out (by repeat (with_reducible first | exact Below.refl _ _ | refine below_alloc ?_ _ | refine below_drew ?_)) (Kd.R_below SE.out.re (by repeat (with_reducible first | exact Below.refl _ _ | refine below_alloc ?_ _ | refine below_drew ?_))) hf7); have SE := Aside0.mk (Ap3.stepE SE.out (by repeat (with_reducible first | exact Below.refl _ _ | refine below_alloc ?_ _ | refine below_drew ?_)) hr7 hf7 ha7); clear hr7 hf7 ha7; refine ⟨rfl, ?_⟩) | ((refine step_of_list rfl (app_rows kH (fun _ _ _ _ _ h => h) B rfl (.tmp 73) (.tmp 75) 43 73 _ 32 rfl Try.underlying43 infoH rfl (by decide) (by decide) (.slice none 0 0) [] [hash1 202] _ 1 1 rfl rfl (Kd.R_below SE.out.rf (by repeat (with_reducible first | exact Below.refl _ _ | refine below_alloc ?_ _ | refine below_drew ?_))) (by repeat (first | exact H_new _ _ (by first | rfl | simp [World.drew]) | (with_reducible refine H_drew ?_) | (with_reducible refine H_alloc ?_ _) | (with_reducible refine H_frm ?_ (by decide) HF7.out (fun he => by simp [Value.ownBlock] at he)))) (SE.out.below (by repeat (with_reducible first | exact Below.refl _ _ | refine below_alloc ?_ _ | refine below_drew ?_))).sz (by decide) ?_)); intro A8 c8 w8 hr8 hf8 ha8; have SA := Aside0.mk (Ap2.hashed SA.out (by repeat (with_reducible first | exact Below.refl _ _ | refine below_alloc ?_ _ | refine below_drew ?_)) (Kd.R_below SE.out.rf (by repeat (with_reducible first | exact Below.refl _ _ | refine below_alloc ?_ _ | refine below_drew ?_))) hf8); have SE := Aside0.mk (Ap3.stepF SE.out (by repeat (with_reducible first | exact Below.refl _ _ | refine below_alloc ?_ _ | refine below_drew ?_)) hr8 hf8 ha8); clear hr8 hf8 ha8; refine ⟨rfl, ?_⟩))
            all_goals
              go_wp2_with fail
              go_meet
              case rel => exact ⟨_, _, _, _, rfl, rfl, SA, SE⟩
          case rest =>
            obtain ⟨A7, c7, A8, c8, rfl, rfl, SA2, SE2⟩ := hcut
            clear SA SE z0 z1
            go_wp2_with fail
            go_loop [11] (fun c => ∃ k : Nat, k ≤ j + 1 ∧ c = .int .i64 k) (fun c => j + 1 - (intOf c).toNat)
            case atStart => exact ⟨0, Nat.zero_le _, rfl⟩
            case round =>
              obtain ⟨k, hk, rfl⟩ := hrel
              by_cases hlt : k < j + 1
              · obtain ⟨ad5, ea5, k5⟩ := rep_cell SA2.out.ra k hlt
                obtain ⟨ad6, ea6, k6⟩ := rep_cell SA2.out.rb k hlt
                subst ea5 ea6
                go_wp2_with fail
                go_round
                case rel => exact ⟨k + 1, by omega, by go_num⟩
                case measure => simp [intOf]; omega
              · have hkl : k = j + 1 := by omega
                subst hkl
                go_wp2_with fail
                go_loop [12] (fun c => ∃ k : Nat, k ≤ 1 ∧ c = .int .i64 k) (fun c => 1 - (intOf c).toNat)
                case atStart => exact ⟨0, Nat.zero_le _, rfl⟩
                case round =>
                  obtain ⟨k, hk, rfl⟩ := hrel
                  by_cases hlt : k < 1
                  · obtain ⟨ad7, ea7, h7⟩ := C_hash (Kd.R_reads' SE2.out.re).2.2 k (by simpa using hlt)
                    obtain ⟨ad8, ea8, h8⟩ := C_hash (Kd.R_reads' SE2.out.rf).2.2 k (by simpa using hlt)
                    have e7 : ([hash1 201] : List Hsh)[k]'(by simpa using hlt) = hash1 201 := by have : k = 0 := by omega
                                                                                                 subst this; rfl
                    have e8 : ([hash1 202] : List Hsh)[k]'(by simpa using hlt) = hash1 202 := by have : k = 0 := by omega
                                                                                                 subst this; rfl
                    rw [e7] at h7
                    rw [e8] at h8
                    subst ea7 ea8
                    have H7 := Aside0.mk h7
                    have H8 := Aside0.mk h8
                    clear h7 h8 e7 e8
                    go_wp2_with ((with_reducible refine gate_dst (N := 104) rfl ?_); go_loud (refine load_hash rfl (.tmp 103) rfl _ _ rfl H7.out ?_))
                    rw [show (Value.agg #[Value.int IntKind.u8 201, Value.int IntKind.u8 0, Value.int IntKind.u8 0, Value.int IntKind.u8 0, Value.int IntKind.u8 0, Value.int IntKind.u8 0, Value.int IntKind.u8 0, Value.int IntKind.u8 0, Value.int IntKind.u8 0, Value.int IntKind.u8 0, Value.int IntKind.u8 0, Value.int IntKind.u8 0, Value.int IntKind.u8 0, Value.int IntKind.u8 0, Value.int IntKind.u8 0, Value.int IntKind.u8 0, Value.int IntKind.u8 0, Value.int IntKind.u8 0, Value.int IntKind.u8 0, Value.int IntKind.u8 0, Value.int IntKind.u8 0, Value.int IntKind.u8 0, Value.int IntKind.u8 0, Value.int IntKind.u8 0, Value.int IntKind.u8 0, Value.int IntKind.u8 0, Value.int IntKind.u8 0, Value.int IntKind.u8 0, Value.int IntKind.u8 0, Value.int IntKind.u8 0, Value.int IntKind.u8 0, Value.int IntKind.u8 0]) = (hash1 201).val from rfl, hash_guard, Result.andThen_ok, hash_neq]
                    simp only [Result.andThen_ok, Oper.upon, decide_true, Bool.not_true]
                    go_wp2_with ((with_reducible refine gate_dst (N := 111) rfl ?_); go_loud (refine wp_unguard (by rfl) (load_hash rfl (.tmp 110) rfl _ _ rfl H8.out ?_)))
                    rw [show (Value.agg #[Value.int IntKind.u8 202, Value.int IntKind.u8 0, Value.int IntKind.u8 0, Value.int IntKind.u8 0, Value.int IntKind.u8 0, Value.int IntKind.u8 0, Value.int IntKind.u8 0, Value.int IntKind.u8 0, Value.int IntKind.u8 0, Value.int IntKind.u8 0, Value.int IntKind.u8 0, Value.int IntKind.u8 0, Value.int IntKind.u8 0, Value.int IntKind.u8 0, Value.int IntKind.u8 0, Value.int IntKind.u8 0, Value.int IntKind.u8 0, Value.int IntKind.u8 0, Value.int IntKind.u8 0, Value.int IntKind.u8 0, Value.int IntKind.u8 0, Value.int IntKind.u8 0, Value.int IntKind.u8 0, Value.int IntKind.u8 0, Value.int IntKind.u8 0, Value.int IntKind.u8 0, Value.int IntKind.u8 0, Value.int IntKind.u8 0, Value.int IntKind.u8 0, Value.int IntKind.u8 0, Value.int IntKind.u8 0, Value.int IntKind.u8 0]) = (hash1 202).val from rfl, hash_guard, Result.andThen_ok, hash_neq]
                    simp only [Result.andThen_ok, Oper.upon, decide_true, Bool.not_true]
                    go_wp2_with fail
                    go_round
                    case rel => exact ⟨k + 1, by omega, by go_num⟩
                    case measure => simp [intOf]; omega
                  · have hkl : k = 1 := by omega
                    subst hkl
                    go_wp2_with fail
                    go_ret
                    exact ⟨rfl, SA2.out.be⟩
end Go.Proofs.Ytagcabmccpekaaa.M

namespace Go.Proofs.Ytagcabmccpekaaa.M
open Go.RowKit Go.Proofs.YtagcabmccpekaaaW.PrintWords Go.Proofs.YtagcabmccpekaaaW.PrintLast Go.Proofs.YtagcabmccpekaaaW.PrintMore Go.Proofs.Ytagcabmccpekaaa.Leaf

theorem ref10_calls (l : List Nat) (n : Nat) (A : Option Addr) (c : Nat) (w : World) (hx : ∀ x ∈ l, x < 18446744073709551616) (hl : l.length ≤ 100000) (hc : l.length ≤ c) (hC : Kd.C (Kd.int .u64) w A l.length (intsOf l)) :
    Calls Try.prog 35 #[.slice A l.length c, .int .u64 n] w fun e w' => ∃ v, e = .returned (.tuple #[v, .int .i64 (manyAns l n).2]) ∧ Kd.R (Kd.int .u64) 22 w' w.heap.size (fun _ => True) v (manyAns l n).1 ∧ Below w.heap.size w w' := by
  obtain ⟨k, hk⟩ := (ref10_val l n hx hl).rounds
  have := massifref10_Places.calls k A c (intsOf l) n _ _ w (by rw [ints_len]; exact hC) (by rw [ints_len]; exact hc) hk
  rw [ints_len] at this
  exact this
/-- Leaves, the first j of which have been halved. -/
def hv (l : List Nat) (j : Nat) : List Nat := (l.take j).map (· / 2) ++ l.drop j
theorem hv_zero (l : List Nat) : hv l 0 = l := by simp [hv]
theorem hv_set (l : List Nat) (j : Nat) (hj : j < l.length) : (intsOf (hv l j) ++ [171]).set j ((l[j] / 2 : Nat) : Int) = intsOf (hv l (j + 1)) ++ [171] ∧ (intsOf (hv l j) ++ [171])[j]? = some ((l[j] : Nat) : Int) := by
  have e : ((l.take j).map (· / 2)).length = j := by simp; omega
  have e1 : hv l j = (l.take j).map (· / 2) ++ l[j] :: l.drop (j + 1) := by unfold hv; rw [List.drop_eq_getElem_cons hj]
  have e2 : hv l (j + 1) = (l.take j).map (· / 2) ++ l[j] / 2 :: l.drop (j + 1) := by
    unfold hv
    rw [List.take_add_one, List.getElem?_eq_getElem hj, Option.toList_some, List.map_append, List.append_assoc]
    rfl
  rw [e1, e2]
  generalize (l.take j).map (· / 2) = T at *
  subst e
  constructor
  · unfold intsOf
    rw [List.map_append, List.map_append, List.append_assoc, List.append_assoc, List.set_append_right _ _ (by rw [List.length_map]; exact Nat.le_refl _), List.length_map, Nat.sub_self]
    rfl
  · unfold intsOf
    rw [List.map_append, List.append_assoc, List.getElem?_append_right (by rw [List.length_map]; exact Nat.le_refl _), List.length_map, Nat.sub_self]
    rfl
theorem hv_all (l : List Nat) : hv l l.length = l.map (· / 2) := by simp [hv]
theorem manyAns_len (l : List Nat) (n : Nat) (hl : l.length ≤ 100000) : (manyAns l n).1.length ≤ 700000000 := by
  unfold manyAns
  split
  · have key : ∀ T : List (Nat × Nat), (∀ s ∈ T, s.1 ≤ 62) → (T.flatMap fun s => mneed s.1 s.2 l).length ≤ 6200001 * T.length := by
      intro T
      induction T with
      | nil => intro _; simp
      | cons s r ih =>
        intro hs
        have ih := ih (fun x hx => hs x (List.mem_cons_of_mem _ hx))
        have h1 := mneed_len s.1 s.2 l
        have h2 : s.1 * (undL s.1 s.2 l).length ≤ 62 * 100000 := Nat.mul_le_mul (hs s List.mem_cons_self) (Nat.le_trans (und_len _ _ _) hl)
        rw [List.flatMap_cons, List.length_append, List.length_cons]
        omega
    have h5 := key (topsN n) (fun s hs => by have := (tops_fit 63 n s hs).1; omega)
    have h6 : (topsN n).length ≤ 63 := topsF_len 63 n
    have h7 : (manySpots l n).length ≤ 700000000 := by unfold manySpots; omega
    simpa [placesOf] using h7
  · simp
set_option maxHeartbeats 2000000 in
set_option maxRecDepth 100000 in
theorem many_places_big (idx : List Nat) (n : Nat) (A : Option Addr) (c : Nat) (w : World) (d1 : 200 < idx.length) :
    Calls Try.prog 7 #[.slice A idx.length c, .int .u64 n] w fun e w' => e = .returned (.bool true) ∧ Below w.heap.size w w' := by
  go_enter Try.func7, Try.ntmps7
  go_wp2_with fail
  go_ret
  exact ⟨rfl, Below.refl _ _⟩
set_option maxHeartbeats 4000000 in
set_option maxRecDepth 100000 in
theorem many_places_small (idx : List Nat) (n : Nat) (A : Option Addr) (c : Nat) (w : World) (hil : idx.length ≤ 200) (hx64 : ∀ x ∈ idx, x < 18446744073709551616) (hc : idx.length ≤ c) (hC : Kd.C (Kd.int .u64) w A idx.length (intsOf idx)) :
    Calls Try.prog 7 #[.slice A idx.length c, .int .u64 n] w fun e w' => e = .returned (.bool true) ∧ Below w.heap.size w w' := by
  have hnum := numbers_calls (intsOf idx) A c w (by rw [ints_len]; omega) (by rw [ints_len]; exact hC)
  rw [ints_len] at hnum
  have d1 : ¬ (200 < idx.length) := by omega
  have HNum := Aside0.mk hnum
  have HI := Aside0.mk hC
  have HX := Aside0.mk hx64
  clear hnum hC hx64
  go_enter Try.func7, Try.ntmps7
  go_wp2_with fail
  refine HNum.out.mono ?_
  rintro e w1 ⟨A1, c1, rfl, hr1, hb1⟩
  have G1 := Aside0.mk hr1
  have B1 := Aside0.mk hb1
  have hrf := ref10_calls idx n A c w1 HX.out (by omega) hc (Kd.C_below HI.out B1.out)
  have hlenL := manyAns_len idx n (by omega)
  have HMP := Aside0.mk (fun w' (hb : Below w1.heap.size w1 w') => many_places idx n A1 c1 w' (by omega) (numbers_C (Kd.R_below hr1 hb)).2.1 (numbers_C (Kd.R_below hr1 hb)).2.2 (numbers_C (Kd.R_below hr1 hb)).1)
  clear hr1 hb1 HNum
  generalize (manyAns idx n).1 = L at *
  generalize (manyAns idx n).2 = er at *
  have HRf := Aside0.mk hrf
  clear hrf
  go_wp2_with fail
  refine HRf.out.mono ?_
  rintro e w2 ⟨v2, rfl, hr2, hb2⟩
  obtain ⟨A2, c2, e2⟩ := Kd.R_slice hr2
  subst e2
  have W2 := Aside0.mk hr2
  have B2 := Aside0.mk hb2
  clear hr2 hb2 HRf
  go_wp2_with fail
  refine (HMP.out _ B2.out).mono ?_
  rintro e w3 ⟨v3, rfl, hr3, hb3⟩
  obtain ⟨A3, c3, e3⟩ := Kd.R_slice hr3
  subst e3
  have RA := Aside0.mk hr3
  have B3 := Aside0.mk hb3
  clear hr3 hb3
  go_wp2_with fail
  refine (HMP.out _ (blt B2.out B3.out)).mono ?_
  rintro e w4 ⟨v4, rfl, hr4, hb4⟩
  obtain ⟨A4, c4, e4⟩ := Kd.R_slice hr4
  subst e4
  have RB := Aside0.mk hr4
  have B4 := Aside0.mk hb4
  clear hr4 hb4
  have f1 : (er != er) = false := by simp
  have f2 : (er == er) = true := by simp
  have ra4 := Aside0.mk (Rd.of_R (Kd.R_below RA.out B4.out))
  have rb4 := Aside0.mk (Rd.of_R RB.out)
  have rw4 := Aside0.mk (Rd.of_R (Kd.R_below (Kd.R_below W2.out B3.out) B4.out))
  have hb24 := Aside0.mk (blt B3.out B4.out)
  have hb14 := Aside0.mk (blt (blt B2.out B3.out) B4.out)
  have ap := Aside0.mk (apart_new RA.out RB.out)
  have hs4 : w2.heap.size ≤ w4.heap.size := hb24.out.size
  go_wp2_with (first | (go_at_call 13; go_loud (refine (same_true (xs := L) (by (repeat (with_reducible refine Rd.drewN ?_ _)); with_reducible first | exact ra4.out | exact rb4.out) (by (repeat (with_reducible refine Rd.drewN ?_ _)); exact rw4.out) (by omega)).mono ?_; rintro e w5 ⟨rfl, ⟨nd, rfl⟩⟩)) | (go_at_call 37; refine (stays_true idx A A1 c c1 w.heap.size (w4.drewN _) (by omega) (Kd.R_drewN (Kd.R_below G1.out hb14.out) _) (Kd.C_below HI.out (pw_below_drewN (blt B1.out hb14.out) _)) hc).mono ?_; rintro e w5 ⟨rfl, hb5⟩; have B5 := Aside0.mk (show Below w4.heap.size w4 w5 from blt (pw_below_drewN (Below.refl _ _) _) hb5); clear hb5) | (go_at_call 38; go_loud (refine (apart_rows L L A3 A4 c3 c4 w2.heap.size w5 rfl (Kd.R_below (Kd.R_below RA.out B4.out) B5.out) (Kd.R_lower (Kd.R_below RB.out B5.out) B3.out.size) ap.out (Nat.le_trans hs4 B5.out.size) (by omega)).mono ?_; rintro e w6 ⟨rfl, hb6⟩; have B6 := Aside0.mk hb6; have BW6 := Aside0.mk (show Below w.heap.size w w6 from (blt (blt B1.out hb14.out) B5.out).trans (hb6.mono (Nat.le_trans B1.out.size B2.out.size))); have G6 := Aside0.mk (show Kd.R (Kd.int .u64) 22 w6 w.heap.size (fun _ => True) (.slice A1 (idx.length + 1) c1) (intsOf idx ++ [171]) from R_frm (flat_int .u64) (Kd.R_below (Kd.R_below G1.out hb14.out) B5.out) (S := fun k => w2.heap.size ≤ k) ⟨hb6.os, hb6.tape, hb6.output, hb6.size, fun k hk hn => hb6.block k (by omega)⟩ (fun k hk hs => by have := Kd.R_lt G1.out k hk; have := B2.out.size; omega)); clear hb6)) | (go_at_call 37; go_loud (refine (stays_true idx A A1 c c1 w.heap.size w6 (by omega) G6.out (Kd.C_below HI.out BW6.out) hc).mono ?_; rintro e w7 ⟨rfl, hb7⟩; have B7 := Aside0.mk hb7; clear hb7)))
  have BW7 := Aside0.mk (blt BW6.out B7.out)
  have G7 := Aside0.mk (Kd.R_below G6.out B7.out)
  clear BW6 G6 B7 B6 ap ra4 rb4 rw4 RA RB W2 hb24 hb14 G1 HMP B1 B2 B3 B4 B5
  go_loopw [12] (fun k wr => ∃ j : Nat, j ≤ idx.length ∧ k = .int .i64 j ∧ Aside0 (Kd.R (Kd.int .u64) 22 wr w.heap.size (fun _ => True) (.slice A1 (idx.length + 1) c1) (intsOf (hv idx j) ++ [171]) ∧ Below w.heap.size w wr)) (fun k _ => idx.length - (intOf k).toNat)
  case atStart => exact ⟨0, Nat.zero_le _, rfl, ⟨by rw [hv_zero]; exact G7.out, BW7.out⟩⟩
  case round =>
    obtain ⟨j, hj, rfl, HS⟩ := hrel
    clear G7 BW7
    by_cases hlt : j < idx.length
    · obtain ⟨hset, hget⟩ := hv_set idx j hlt
      obtain ⟨ga, cap, ea, hbs, _, _⟩ := Kd.R_form HS.out.1 (by simp)
      injection ea with ea1 ea2 ea3
      subst ea1
      obtain ⟨k1, k2⟩ := Kd.R_celln 0 HS.out.1 (j : Int) (by omega) (by omega)
      rw [Int.toNat_natCast] at k1 k2
      have hxx := HX.out _ (List.getElem_mem hlt)
      have hrd : rdOf 0 (intsOf (hv idx j) ++ [171]) (j : Int) = ((idx[j] : Nat) : Int) := by simp only [rdOf, Int.toNat_natCast, List.getD_eq_getElem?_getD, hget, Option.getD_some]
      rw [hrd] at k1
      have hput := Kd.R_putn HS.out.1 (j : Int) ((idx[j] / 2 : Nat) : Int)
      rw [Int.toNat_natCast, hset] at hput
      have HPut := Aside0.mk hput
      have HBs := Aside0.mk (HS.out.2.setCell (p := ⟨ga, j, none⟩) hbs (.int .u64 ((idx[j] / 2 : Nat) : Int)))
      have k1' : wr.cell? ⟨ga, j, none⟩ = some (.int .u64 ((idx[j] : Nat) : Int)) := k1
      generalize hxd : idx[j] = x at *
      have e1 : IntKind.u64.wrap (Int.tdiv (x : Int) 2) = ((x / 2 : Nat) : Int) := by
        rw [show Int.tdiv (x : Int) 2 = ((x / 2 : Nat) : Int) from rfl]
        exact w64_nat _ (by omega)
      have e2 : Int.tdiv (x : Int) 2 = ((x / 2 : Nat) : Int) := rfl
      clear hput hset hget hrd k1 hbs ea2 ea3
      go_wp2_with fail
      go_roundw
      case rel => exact ⟨j + 1, by omega, by go_num, ⟨HPut.out, HBs.out⟩⟩
      case measure => simp [intOf]; omega
    · have hjl : j = idx.length := by omega
      subst hjl
      rw [hv_all] at HS
      obtain ⟨idx2, hidx2⟩ : ∃ l, l = idx.map (· / 2) := ⟨_, rfl⟩
      have hl2 : idx2.length = idx.length := by rw [hidx2, List.length_map]
      rw [← hidx2, ← hl2] at HS
      have hx2 : ∀ x ∈ idx2, x < 18446744073709551616 := by
        intro x hx
        rw [hidx2] at hx
        obtain ⟨y, hy, rfl⟩ := List.mem_map.1 hx
        have := HX.out y hy
        omega
      have HX2 := Aside0.mk hx2
      have hil2 : idx2.length ≤ 200 := by omega
      clear hidx2 hx2
      obtain ⟨hC9, hl9, hc9⟩ := numbers_C HS.out.1
      have HC9 := Aside0.mk hC9
      have HBr := Aside0.mk HS.out.2
      have HMP2 := Aside0.mk (fun w' (hb : Below wr.heap.size wr w') => many_places idx2 n A1 c1 w' (by omega) hl9 hc9 (Kd.C_below hC9 hb))
      have hlenL := manyAns_len idx2 n (by omega)
      have HRf := Aside0.mk (fun (A' : Option Addr) (c' : Nat) (w' : World) (hc' : idx2.length ≤ c') (hC' : Kd.C (Kd.int .u64) w' A' idx2.length (intsOf idx2)) => ref10_calls idx2 n A' c' w' HX2.out (by omega) hc' hC')
      obtain ⟨w0, rfl⟩ : ∃ w0, w0 = wr := ⟨_, rfl⟩
      have HE := Aside0.mk (R_empty (e := 22) (base := w0.heap.size) rfl (heap_new w0 (.cells #[] 22)) (Nat.le_refl _))
      generalize (manyAns idx2 n).1 = M at *
      generalize (manyAns idx2 n).2 = es at *
      have hl2' := hl2
      rw [hl2] at HMP2 HRf HC9
      have f3 : (es != es) = false := by simp
      have f4 : (es == es) = true := by simp
      have HL2 := Aside0.mk hl2'
      clear hC9 HS hl2 hl2' hil2 hl9
      go_wp2_with (first | ((with_reducible refine gate_builtin (b := .append) (xs := #[.tmp 89, .tmp 90]) rfl ?_); at_builtin; go_loud (refine app_row .u64 w0.heap.size rfl (.tmp 89) (.tmp 90) 23 22 (.int .u64 0) 8 rfl Try.underlying23 info22 rfl (by omega) (.slice (some ⟨w0.heap.size, 0, none⟩) 0 0) [] (intsOf idx2) A1 idx.length c1 rfl rfl HE.out (Kd.C_below HC9.out (bl_new w0 _)) (by simp) (by simp; omega) ?_; intro A5 c5 w5 hr5 hf5 hat5; simp only [List.length_nil, Nat.zero_add, List.nil_append] at hr5 ⊢; have HR5 := Aside0.mk hr5; have hb5 := Aside0.mk ((bl_new w0 _).trans (hf5.below (by simp) (fun k hk => Kd.R_base HE.out k hk.symm))); clear hr5 hf5 hat5)))
      have hr5 := Kd.R_reads' HR5.out
      rw [ints_len, HL2.out] at hr5
      refine (HRf.out A5 c5 w5 hr5.2.1 hr5.2.2).mono ?_
      rintro e w6 ⟨v6, rfl, hr6, hb6⟩
      obtain ⟨A6, c6, e6⟩ := Kd.R_slice hr6
      subst e6
      have W6 := Aside0.mk hr6
      have B6 := Aside0.mk (blt hb5.out hb6)
      clear hr6 hb6 HRf hr5
      go_wp2_with fail
      refine (HMP2.out _ B6.out).mono ?_
      rintro e w7 ⟨v7, rfl, hr7, hb7⟩
      obtain ⟨A7, c7, e7⟩ := Kd.R_slice hr7
      subst e7
      have ra7 := Aside0.mk (Rd.of_R hr7)
      have rw7 := Aside0.mk (Rd.of_R (Kd.R_below W6.out hb7))
      have BW7 := Aside0.mk (blt HBr.out (blt B6.out hb7))
      clear hr7 hb7 HMP2
      go_wp2_with (first | (go_at_call 13; go_loud (refine (same_true (xs := M) ra7.out rw7.out (by omega)).mono ?_; rintro e w8 ⟨rfl, hd8⟩; have BW8 := Aside0.mk (blt BW7.out hd8.below); clear hd8)) | (go_at_call 39; go_loud (refine (awake10 _).mono ?_; rintro e w9 ⟨rfl, hb9⟩; have BW9 := Aside0.mk (blt BW8.out hb9); clear hb9)))
      go_ret
      exact ⟨rfl, BW9.out⟩
theorem many_places_law (idx : List Nat) (n : Nat) (A : Option Addr) (c : Nat) (w : World) (hx64 : ∀ x ∈ idx, x < 18446744073709551616) (hc : idx.length ≤ c) (hC : Kd.C (Kd.int .u64) w A idx.length (intsOf idx)) :
    Calls Try.prog 7 #[.slice A idx.length c, .int .u64 n] w fun e w' => e = .returned (.bool true) ∧ Below w.heap.size w w' := by
  by_cases h : 200 < idx.length
  · exact many_places_big idx n A c w h
  · exact many_places_small idx n A c w (by omega) hx64 hc hC
end Go.Proofs.Ytagcabmccpekaaa.M
