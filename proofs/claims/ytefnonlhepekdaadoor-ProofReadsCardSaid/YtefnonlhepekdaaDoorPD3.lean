/- Four rows of bytes of one's own, each apart from the others; what is no row of bytes stays as it was. massiflaw7.ProofWrites returns true: the walk. What bytes read as a proof, or as a prefix proof: plain facts, there and back. proof.reader: number. proof.reader: nodes. proof.Decode. proof.DecodePrefix. massifref7.SameProofs, SamePrefixes, of what is the same. massifref1.Long reads as num.Long does. massifref7.Decode. -/
import Derived.Test.YtefnonlhepekdaaDoorPD1
import Derived.Test.YtefnonlhepekdaaDoorPD2
import Derived.Deep.RegionHeld3
import Derived.BigQuiet
import Derived.Laws.Cover3
import Derived.StillTailTactics
set_option linter.unusedVariables false
set_option linter.unusedSimpArgs false
set_option linter.unusedVariables false
set_option linter.unusedSimpArgs false
namespace Go.Proofs.YtefnonlhepekdaaDoor.M
open Go.RowKit Go.Proofs.YtefnonlhepekdaaDoorW.PrintWords Go.Proofs.YtefnonlhepekdaaDoorW.PrintLast Go.Proofs.YtefnonlhepekdaaDoorW.PrintMore Go.Proofs.YtefnonlhepekdaaDoor.Leaf

def upd {α : Type} (f : Nat → α) (m : Nat) (x : α) : Nat → α := fun i => if i = m then x else f i
theorem upd_same {α : Type} (f : Nat → α) (m : Nat) (x : α) : upd f m x m = x := if_pos rfl
theorem upd_other {α : Type} (f : Nat → α) {m i : Nat} (x : α) (h : i ≠ m) : upd f m x i = f i := if_neg h
/-- What is no block of bytes is as it was. -/
def KeepT (w1 w : World) : Prop := ∀ (g : Nat) (cs : Array Value) (t : TypeId) (fz : Nat × Nat), w1.heap[g]? = some (.cells cs t fz) → t ≠ 5 → w.heap[g]? = some (.cells cs t fz)
theorem KeepT.refl (w : World) : KeepT w w := fun _ _ _ _ h _ => h
theorem KeepT.below {w1 w w2 : World} (h : KeepT w1 w) (hb : Below w.heap.size w w2) : KeepT w1 w2 := fun g cs t fz hg ht => by
  have := h g cs t fz hg ht
  exact (hb.block _ (blk_lt this)).trans this
theorem KeepT.frm {w1 w w2 : World} {base : Nat} {v : Value} {xs : List Int} (h : KeepT w1 w) (hr : (Kd.int .u8).R 5 w base (fun _ => True) v xs) (hf : Frm (fun k => some k = v.ownBlock) w w2) : KeepT w1 w2 := fun g cs t fz hg ht => by
  have h1 := h g cs t fz hg ht
  refine (hf.block _ (blk_lt h1) (fun he => ?_)).trans h1
  obtain ⟨c1, e1⟩ := Kd.R_typed hr g he.symm
  rw [e1] at h1
  injection h1 with h1
  injection h1 with _ h1
  exact ht h1.symm
structure Fam (w0 w : World) (As : Nat → Option Addr) (ns cs : Nat → Nat) (D : Nat → List Int) : Prop where
  R : ∀ j, j < 4 → (Kd.int .u8).R 5 w w0.heap.size (fun _ => True) (.slice (As j) (ns j) (cs j)) (D j)
  ap : ∀ i j, i < 4 → j < 4 → i ≠ j → Apart (.slice (As i) (ns i) (cs i)) (.slice (As j) (ns j) (cs j))
theorem Fam.below {w0 w w1 : World} {As : Nat → Option Addr} {ns cs : Nat → Nat} {D : Nat → List Int} (h : Fam w0 w As ns cs D) (hb : Below w.heap.size w w1) : Fam w0 w1 As ns cs D := ⟨fun j hj => Kd.R_below (h.R j hj) hb, h.ap⟩
theorem Fam.congr {w0 w : World} {As : Nat → Option Addr} {ns cs : Nat → Nat} {D D' : Nat → List Int} (h : Fam w0 w As ns cs D) (e : ∀ j, j < 4 → D j = D' j) : Fam w0 w As ns cs D' := ⟨fun j hj => e j hj ▸ h.R j hj, h.ap⟩
theorem Fam.set {w0 w : World} {As : Nat → Option Addr} {ns cs : Nat → Nat} {D : Nat → List Int} (h : Fam w0 w As ns cs D) {m g : Nat} (hm : m < 4) (hg : As m = some ⟨g, 0, none⟩) (j : Nat) (hj : j < ns m) (x : Int) :
    Fam w0 (w.setCell ⟨g, j, none⟩ (.int .u8 x)) As ns cs (upd D m ((D m).set j x)) := by
  refine ⟨fun i hi => ?_, h.ap⟩
  by_cases e : i = m
  · subst e
    rw [upd_same]
    have hr := h.R i hi
    rw [hg] at hr ⊢
    exact (row_round hr j hj).2.2 x
  · rw [upd_other D _ e]
    refine R_frm (flat_int .u8) (h.R i hi) (Frm.of_set w ⟨g, j, none⟩ (.int .u8 x)) (fun k hk hs => ?_)
    have hs : k = g := hs
    subst hs
    exact h.ap i m hi hm e k hk (by rw [hg]; simp [Value.ownBlock])
/-- The array of the long rows: its first m cells. -/
def Lng (w : World) (g m : Nat) (As : Nat → Option Addr) (ns cs : Nat → Nat) (lr : Array Value) : Prop :=
  w.heap[g]? = some (.cells lr 49 (0, 0)) ∧ lr.size = 4 ∧ ∀ j, j < m → lr[j]? = some (.slice (As j) (ns j) (cs j))
theorem Lng.next {w : World} {g m : Nat} {As : Nat → Option Addr} {ns cs : Nat → Nat} {lr : Array Value} (h : Lng w g m As ns cs lr) (hm : m < 4) (A : Option Addr) (n c : Nat) :
    Lng (w.setCell ⟨g, m, none⟩ (.slice A n c)) g (m + 1) (upd As m A) (upd ns m n) (upd cs m c) (lr.setIfInBounds m (.slice A n c)) := by
  obtain ⟨h1, h2, h3⟩ := h
  refine ⟨blk_set h1 m (.slice A n c), by simp [h2], fun j hj => ?_⟩
  by_cases e : j = m
  · subst e
    rw [upd_same, upd_same, upd_same]
    simp [h2, hm]
  · rw [upd_other _ _ e, upd_other _ _ e, upd_other _ _ e, Array.getElem?_setIfInBounds_ne (fun h => e h.symm)]
    exact h3 j (by omega)
theorem Lng.zero {w : World} {g : Nat} {As : Nat → Option Addr} {ns cs : Nat → Nat} {lr : Array Value} (h : w.heap[g]? = some (.cells lr 49 (0, 0))) (hs : lr.size = 4) : Lng w g 0 As ns cs lr := ⟨h, hs, fun j hj => absurd hj (Nat.not_lt_zero _)⟩
end Go.Proofs.YtefnonlhepekdaaDoor.M

set_option linter.unusedVariables false
set_option linter.unusedSimpArgs false
namespace Go.Proofs.YtefnonlhepekdaaDoor.M
open Go.RowKit Go.Proofs.YtefnonlhepekdaaDoorW.PrintWords Go.Proofs.YtefnonlhepekdaaDoorW.PrintLast Go.Proofs.YtefnonlhepekdaaDoorW.PrintMore Go.Proofs.YtefnonlhepekdaaDoor.Leaf

end Go.Proofs.YtefnonlhepekdaaDoor.M

set_option linter.unusedVariables false
set_option linter.unusedSimpArgs false
namespace Go.Proofs.YtefnonlhepekdaaDoor.M
open Go.RowKit Go.Proofs.YtefnonlhepekdaaDoorW.PrintWords Go.Proofs.YtefnonlhepekdaaDoorW.PrintLast Go.Proofs.YtefnonlhepekdaaDoorW.PrintMore Go.Proofs.YtefnonlhepekdaaDoor.Leaf

theorem longF_err : ∀ (d i x : Nat) (bs : List Int), (longF d i x bs).2.2 ≠ 0 → longF d i x bs = (0, 0, (longF d i x bs).2.2)
  | 0, _, _, _, _ => rfl
  | _ + 1, _, _, [], _ => rfl
  | d + 1, i, x, b :: r, h => by
    rw [longF] at h ⊢
    split
    · rfl
    · next c1 =>
      rw [if_neg c1] at h
      split
      · next c2 =>
        rw [if_pos c2] at h
        split
        · rfl
        · next c3 => rw [if_neg c3] at h; exact absurd rfl h
      · next c2 =>
        rw [if_neg c2] at h
        exact longF_err d (i + 1) _ r h
theorem longN_err {bs : List Int} (h : (longN bs).2.2 ≠ 0) : longN bs = (0, 0, (longN bs).2.2) := longF_err _ _ _ _ h
/-- A number is read, and how many bytes it takes. -/
theorem longN_ok {bs : List Int} (hb : Bytes bs) (h : (longN bs).2.2 = 0) : ∃ (x : Nat) (rest : List Int), x < 18446744073709551616 ∧ longN bs = ((x : Int), ((shortI x).length : Int), 0) ∧ bs = shortI x ++ rest := by
  obtain ⟨x, rest, x1, x2, x3, x4⟩ := longN_back hb (v := (longN bs).1) (k := (longN bs).2.1) (by rw [← h])
  refine ⟨x, rest, x1, ?_, x4⟩
  rw [← x2, ← x3, ← h]
/-- What the number in front is, which bytes are left, and the error. -/
def numR (bs : List Int) : Nat × List Int × Int := ((longN bs).1.toNat, bs.drop (longN bs).2.1.toNat, (longN bs).2.2)
theorem numR_short (x : Nat) (rest : List Int) (hx : x < 18446744073709551616) : numR (shortI x ++ rest) = (x, rest, 0) := by
  unfold numR
  rw [longN_short x rest hx, Int.toNat_natCast, Int.toNat_natCast, List.drop_left]
theorem numR_ok {bs : List Int} (hb : Bytes bs) (h : (numR bs).2.2 = 0) : ∃ (x : Nat) (rest : List Int), x < 18446744073709551616 ∧ numR bs = (x, rest, 0) ∧ bs = shortI x ++ rest ∧ Bytes rest := by
  obtain ⟨x, rest, x1, x2, x3⟩ := longN_ok hb h
  refine ⟨x, rest, x1, ?_, x3, fun y hy => hb y (by rw [x3]; exact List.mem_append_right _ hy)⟩
  rw [x3]
  exact numR_short x rest x1
def noPr : Nat × Nat × List Hsh := (0, 0, [])
def tailP (a b q : Nat) (r : List Int) : (Nat × Nat × List Hsh) × Int := if (takeAns r q).2 ≠ 0 then (noPr, (takeAns r q).2) else ((a, b, (takeAns r q).1), 0)
def decP2 (n i : Nat) (r : List Int) : (Nat × Nat × List Hsh) × Int := if n ≤ i then (noPr, 32) else tailP n i (proofAns i n).1.length r
def decP : List Int → (Nat × Nat × List Hsh) × Int
  | [] => (noPr, 11)
  | b :: r => if b ≠ 77 then (noPr, 14) else if (numR r).2.2 ≠ 0 then (noPr, (numR r).2.2) else if 4611686018427387904 < (numR r).1 then (noPr, 30) else
    if (numR (numR r).2.1).2.2 ≠ 0 then (noPr, (numR (numR r).2.1).2.2) else decP2 (numR r).1 (numR (numR r).2.1).1 (numR (numR r).2.1).2.1
def decX2 (m n : Nat) (r : List Int) : (Nat × Nat × List Hsh) × Int := if (prefAns m n).2 ≠ 0 then (noPr, (prefAns m n).2) else tailP m n (prefAns m n).1.length r
def decX : List Int → (Nat × Nat × List Hsh) × Int
  | [] => (noPr, 11)
  | b :: r => if b ≠ 80 then (noPr, 14) else if (numR r).2.2 ≠ 0 then (noPr, (numR r).2.2) else
    if (numR (numR r).2.1).2.2 ≠ 0 then (noPr, (numR (numR r).2.1).2.2) else decX2 (numR r).1 (numR (numR r).2.1).1 (numR (numR r).2.1).2.1
theorem take_zero {r : List Int} {q : Nat} (h : (takeAns r q).2 = 0) : r.length = 32 * q ∧ (takeAns r q).1 = takeH q r := by
  unfold takeAns at h ⊢
  split at h
  · simp at h
  · next c1 =>
    split at h
    · simp at h
    · next c2 =>
      refine ⟨by omega, ?_⟩
      rw [if_neg c1, if_neg c2]
theorem proof_ok_iff {i n : Nat} (h1 : i < n) (h2 : n ≤ 4611686018427387904) : (proofAns i n).2 = 0 := by
  unfold proofAns
  rw [if_neg (by omega), if_neg (by omega)]
theorem penc_of {i n : Nat} {ns : List Hsh} (h1 : i < n) (h2 : n ≤ 4611686018427387904) (h3 : (proofAns i n).1.length = ns.length) : pencAns i n ns = (writeB 77 n i ns, 0) := by
  unfold pencAns
  rw [if_neg (fun h => h (proof_ok_iff h1 h2)), if_neg (fun h => h h3)]
theorem xenc_of {m n : Nat} {ns : List Hsh} (h1 : (prefAns m n).2 = 0) (h3 : (prefAns m n).1.length = ns.length) : xencAns m n ns = (writeB 80 m n ns, 0) := by
  unfold xencAns
  rw [if_neg (fun h => h h1), if_neg (fun h => h h3)]
theorem tailP_zero {a b q : Nat} {r : List Int} (h : (tailP a b q r).2 = 0) : r.length = 32 * q ∧ tailP a b q r = ((a, b, takeH q r), 0) := by
  unfold tailP at h ⊢
  split at h
  · next c => exact absurd h c
  · next c =>
    obtain ⟨h1, h2⟩ := take_zero (Decidable.by_contra c)
    rw [if_neg c, h2]
    exact ⟨h1, rfl⟩
/-- What is read is what was written. -/
theorem decP_back {bs : List Int} (hb : Bytes bs) (h : (decP bs).2 = 0) : ∃ n i ns, decP bs = ((n, i, ns), 0) ∧ i < n ∧ n ≤ 4611686018427387904 ∧ pencAns i n ns = (bs, 0) ∧ bs = writeB 77 n i ns ∧ (proofAns i n).1.length = ns.length := by
  cases bs with
  | nil => simp [decP] at h
  | cons b r =>
    rw [decP] at h ⊢
    split at h
    · simp at h
    · next c1 =>
      have hbr : Bytes r := fun x hx => hb x (List.mem_cons_of_mem _ hx)
      rw [if_neg c1]
      split at h
      · next c2 => exact absurd h c2
      · next c2 =>
        obtain ⟨n, r1, x1, x2, x3, x4⟩ := numR_ok hbr (Decidable.by_contra c2)
        rw [x2] at h ⊢
        simp only at h ⊢
        rw [if_neg (by simp)]
        split at h
        · simp at h
        · next c3 =>
          rw [if_neg c3]
          split at h
          · next c4 => exact absurd h c4
          · next c4 =>
            obtain ⟨i, r2, y1, y2, y3, y4⟩ := numR_ok x4 (Decidable.by_contra c4)
            rw [y2] at h ⊢
            simp only at h ⊢
            rw [if_neg (by simp)]
            unfold decP2 at h ⊢
            split at h
            · simp at h
            · next c5 =>
              rw [if_neg c5]
              obtain ⟨z1, z2⟩ := tailP_zero h
              have hw : b :: r = writeB 77 n i (takeH (proofAns i n).1.length r2) := by
                unfold writeB
                rw [nodes_takeH _ _ z1, x3, y3, show ((77 : Nat) : Int) = b from (Decidable.by_contra c1).symm, List.append_assoc, List.append_assoc]
                rfl
              refine ⟨n, i, _, z2, by omega, by omega, ?_, hw, by rw [takeH_len]⟩
              rw [penc_of (by omega) (by omega) (by rw [takeH_len]), ← hw]
theorem decX_back {bs : List Int} (hb : Bytes bs) (h : (decX bs).2 = 0) : ∃ m n ns, decX bs = ((m, n, ns), 0) ∧ (prefAns m n).2 = 0 ∧ xencAns m n ns = (bs, 0) ∧ bs = writeB 80 m n ns ∧ (prefAns m n).1.length = ns.length := by
  cases bs with
  | nil => simp [decX] at h
  | cons b r =>
    rw [decX] at h ⊢
    split at h
    · simp at h
    · next c1 =>
      have hbr : Bytes r := fun x hx => hb x (List.mem_cons_of_mem _ hx)
      rw [if_neg c1]
      split at h
      · next c2 => exact absurd h c2
      · next c2 =>
        obtain ⟨m, r1, x1, x2, x3, x4⟩ := numR_ok hbr (Decidable.by_contra c2)
        rw [x2] at h ⊢
        simp only at h ⊢
        rw [if_neg (by simp)]
        split at h
        · next c4 => exact absurd h c4
        · next c4 =>
          obtain ⟨n, r2, y1, y2, y3, y4⟩ := numR_ok x4 (Decidable.by_contra c4)
          rw [y2] at h ⊢
          simp only at h ⊢
          rw [if_neg (by simp)]
          unfold decX2 at h ⊢
          split at h
          · next c5 => exact absurd h c5
          · next c5 =>
            rw [if_neg c5]
            obtain ⟨z1, z2⟩ := tailP_zero h
            have hw : b :: r = writeB 80 m n (takeH (prefAns m n).1.length r2) := by
              unfold writeB
              rw [nodes_takeH _ _ z1, x3, y3, show ((80 : Nat) : Int) = b from (Decidable.by_contra c1).symm, List.append_assoc, List.append_assoc]
              rfl
            refine ⟨m, n, _, z2, Decidable.by_contra c5, ?_, hw, by rw [takeH_len]⟩
            rw [xenc_of (Decidable.by_contra c5) (by rw [takeH_len]), ← hw]
end Go.Proofs.YtefnonlhepekdaaDoor.M

set_option linter.unusedVariables false
set_option linter.unusedSimpArgs false
namespace Go.Proofs.YtefnonlhepekdaaDoor.M
open Go.RowKit Go.Proofs.YtefnonlhepekdaaDoorW.PrintWords Go.Proofs.YtefnonlhepekdaaDoorW.PrintLast Go.Proofs.YtefnonlhepekdaaDoorW.PrintMore Go.Proofs.YtefnonlhepekdaaDoor.Leaf Go.Proofs.YtefnonlhepekdaaDoor.Lng

theorem long_calls (bs : List Int) (A : Option Addr) (n c : Nat) (w : World) (hb : Bytes bs) (hl : bs.length = n) (hn : n ≤ 1000000000) (hc : n ≤ c) (hC : Kd.C (Kd.int .u8) w A n bs) :
    Calls Tryd.prog 118 #[.slice A n c] w fun e w' => e = .returned (.tuple #[.int .u64 (longN bs).1, .int .i64 (longN bs).2.1, .int .i64 (longN bs).2.2]) ∧ Drawn0 w w' := by
  subst hl
  obtain ⟨k, hk⟩ := (long_val bs hb (by omega)).rounds
  exact num_Long.calls k _ _ _ _ _ _ w hC hc hk
theorem longN_nil : (longN []).2.2 = 11 := rfl
/-- What number answers, which bytes are left, and the error. -/
def numS (er : Int) (bs : List Int) : Nat × List Int × Int := if er ≠ 0 then (0, bs, er) else numR bs
theorem numS_ok {bs : List Int} {x : Nat} {rest : List Int} (x2 : longN bs = ((x : Int), ((shortI x).length : Int), 0)) (x3 : bs = shortI x ++ rest) : numS 0 bs = (x, rest, 0) := by
  unfold numS numR
  rw [if_neg (by simp), x2, Int.toNat_natCast, Int.toNat_natCast]
  simp only
  rw [show bs.drop (shortI x).length = rest by rw [x3, List.drop_left]]
theorem numS_bad {bs : List Int} (h : (longN bs).2.2 ≠ 0) : numS 0 bs = (0, bs, (longN bs).2.2) := by
  unfold numS numR
  rw [if_neg (by simp), longN_err h]
  rfl
set_option maxHeartbeats 1000000 in
set_option maxRecDepth 100000 in
theorem number_calls (er : Int) (br n c : Nat) (g : Option Nat) (A : Option Addr) (bs : List Int) (w : World) (hn : n ≤ 1000000000) (hb : Bytes bs) (h : Rdr w br g A n c er bs) :
    Calls Tryd.prog 90 #[.pointer (some ⟨br, 0, none⟩)] w fun o w' => o = .returned (.int .u64 ((numS er bs).1 : Nat)) ∧ RdrE w' br g n (numS er bs).2.2 (numS er bs).2.1 ∧ Frm (fun k => k = br) w w' := by
  have k0 := (blk_cell h.box 0).trans (rfl : _ = some (Value.slice A n c))
  have k1 := (blk_cell h.box 1).trans (rfl : _ = some (Value.int .i64 er))
  by_cases he : er = 0
  · subst he
    have hcl := long_calls bs A n c w hb h.len hn h.cap h.all.here
    by_cases hk : (longN bs).2.2 = 0
    · obtain ⟨x, rest, x1, x2, x3⟩ := longN_ok hb hk
      rw [numS_ok x2 x3]
      rw [x2] at hcl
      have hA : ∃ ad, A = some ad := by
        cases bs with
        | nil => rw [longN_nil] at hk; simp at hk
        | cons b r => obtain ⟨ad, e, _⟩ := CG.cell0 h.all; exact ⟨ad, e⟩
      obtain ⟨ad, rfl⟩ := hA
      have hlen : n = (shortI x).length + rest.length := by rw [← h.len, x3, List.length_append]
      have hdrop : bs.drop (shortI x).length = rest := by rw [x3, List.drop_left]
      generalize (shortI x).length = kk at *
      have HL := Aside0.mk hlen
      have HD := Aside0.mk hdrop
      have H := Aside0.mk h
      have hkn : kk ≤ n := by omega
      have hnc := h.cap
      have HCl := Aside0.mk hcl
      clear h hcl x2 x3 hk hb hlen hdrop
      go_enter Tryd.func90, Tryd.ntmps90
      go_wp2_with fail
      refine HCl.out.mono ?_
      rintro o w1 ⟨rfl, hd⟩
      have HR := Aside0.mk (H.out.below hd.below)
      have HF := Aside0.mk (Frm.of_below hd.below (fun k => k = br))
      clear hd k0 k1
      go_wp2_with fail
      refine (fail_calls _ 0 0 br n c g (some ad) bs _ HR.out).mono ?_
      rintro o w2 ⟨rfl, hr, hf⟩
      rw [show (if (0 : Int) = 0 ∧ _ then (0 : Int) else 0) = 0 from ite_self _] at hr
      have k0 := (blk_cell hr.box 0).trans (rfl : _ = some (Value.slice (some ad) n c))
      have f0 := blk_frozen hr.box 0
      have HR2 := Aside0.mk hr
      have HF2 := Aside0.mk (HF.out.trans hf (fun _ _ h => h))
      clear hr hf HR HF
      have hC := CG.drop (m := kk) HR2.out.all HR2.out.len hkn HR2.out.cap
      rw [HD.out] at hC
      obtain ⟨ad1, hif⟩ : ∃ ad1 : Addr, (if c = kk then some ad else some (ad.add kk)) = some ad1 := by split <;> exact ⟨_, rfl⟩
      rw [hif] at hC
      have HC := Aside0.mk hC
      clear hC
      go_wp2_with fail
      go_ret
      exact ⟨rfl, ⟨_, n - kk, c - kk, by omega, Rdr.setb HR2.out (bs1 := rest) (by have := HL.out; omega) (by omega) HC.out⟩, HF2.out.trans (Frm.of_set _ ⟨br, 0, none⟩ _) (fun _ _ h => h)⟩
    · rw [numS_bad hk]
      rw [longN_err hk] at hcl
      generalize (longN bs).2.2 = el at *
      have H := Aside0.mk h
      have hnc := h.cap
      have HCl := Aside0.mk hcl
      clear h hcl hb
      go_enter Tryd.func90, Tryd.ntmps90
      go_wp2_with fail
      refine HCl.out.mono ?_
      rintro o w1 ⟨rfl, hd⟩
      have HR := Aside0.mk (H.out.below hd.below)
      have HF := Aside0.mk (Frm.of_below hd.below (fun k => k = br))
      clear hd k0 k1
      go_wp2_with fail
      refine (fail_calls _ el 0 br n c g A bs _ HR.out).mono ?_
      rintro o w2 ⟨rfl, hr, hf⟩
      rw [if_pos ⟨rfl, by simp [hk]⟩] at hr
      have k0 := (blk_cell hr.box 0).trans (rfl : _ = some (Value.slice A n c))
      have f0 := blk_frozen hr.box 0
      have HR2 := Aside0.mk hr
      have HF2 := Aside0.mk (HF.out.trans hf (fun _ _ h => h))
      clear hr hf HR HF
      cases A with
      | none =>
        go_wp2_with fail
        go_ret
        exact ⟨rfl, ⟨_, n, c, Nat.le_refl _, Rdr.setb HR2.out (bs1 := bs) HR2.out.len HR2.out.cap HR2.out.all⟩, HF2.out.trans (Frm.of_set _ ⟨br, 0, none⟩ _) (fun _ _ h => h)⟩
      | some ad =>
        go_wp2_with fail
        go_ret
        exact ⟨rfl, ⟨_, n, c, Nat.le_refl _, Rdr.setb HR2.out (bs1 := bs) HR2.out.len HR2.out.cap HR2.out.all⟩, HF2.out.trans (Frm.of_set _ ⟨br, 0, none⟩ _) (fun _ _ h => h)⟩
  · rw [show numS er bs = (0, bs, er) from if_pos he]
    have H := Aside0.mk h
    clear h hb k0
    go_enter Tryd.func90, Tryd.ntmps90
    go_wp2_with fail
    go_ret
    exact ⟨rfl, ⟨A, n, c, Nat.le_refl _, H.out⟩, Frm.refl _ _⟩
end Go.Proofs.YtefnonlhepekdaaDoor.M

set_option linter.unusedVariables false
set_option linter.unusedSimpArgs false
namespace Go.Proofs.YtefnonlhepekdaaDoor.M
open Go.RowKit Go.Proofs.YtefnonlhepekdaaDoorW.PrintWords Go.Proofs.YtefnonlhepekdaaDoorW.PrintLast Go.Proofs.YtefnonlhepekdaaDoorW.PrintMore Go.Proofs.YtefnonlhepekdaaDoor.Leaf

theorem bytes_hash {w : World} {ad : Addr} {n : Nat} {l : List Int} (h : Kd.C (Kd.int .u8) w (some ad) n l) (hl : 32 ≤ l.length) : HashAt w ad (mkH (l.take 32)) := by
  obtain ⟨h1, h2, h3⟩ := h
  obtain ⟨ad', ea, hc⟩ := h3 (by omega)
  injection ea with ea
  subst ea
  have hcell : ∀ j (hj : j < l.length), w.cell? (ad.add j) = some (.int .u8 l[j]) := by
    intro j hj
    obtain ⟨c, k1, k2, k3⟩ := hc j _ (List.getElem?_eq_getElem hj)
    have k2 : c = [.int .u8 l[j]] := k2
    subst k2
    have := k3 0 (.int .u8 l[j]) rfl
    rwa [show j * (Kd.int IntKind.u8).sz + 0 = j from Nat.mul_one j] at this
  have hs : ad.spot = none := by
    have h0 := hcell 0 (by omega)
    have h5 : ad.add 0 = ad := by simp [Addr.add]
    rw [h5] at h0
    cases hsp : ad.spot with
    | none => rfl
    | some x =>
      exfalso
      simp only [World.cell?, hsp, Option.isSome_some, if_true] at h0
      split at h0 <;> simp at h0
  refine ⟨ad.block, ad.off, by cases ad; simp at hs; subst hs; rfl, fun j v hv => ?_⟩
  have hb : (mkH (l.take 32)).b = l.take 32 := mkH_b (by rw [List.length_take]; omega)
  unfold Hsh.cells at hv
  rw [hb, List.getElem?_map] at hv
  have hj : j < 32 := by
    refine Nat.lt_of_not_le (fun hn => ?_)
    rw [List.getElem?_eq_none (by rw [List.length_take]; omega)] at hv
    simp at hv
  rw [List.getElem?_take_of_lt hj, List.getElem?_eq_getElem (by omega)] at hv
  injection hv with hv
  subst hv
  have := hcell j (by omega)
  rw [show ad.add j = ⟨ad.block, ad.off + j, none⟩ by cases ad; simp at hs; subst hs; exact Go.WideShapes.add_plain _ _ _] at this
  exact this
theorem Rdr.keep {w w1 : World} {br : Nat} {g : Option Nat} {A : Option Addr} {n c : Nat} {er : Int} {bs : List Int} {S : Nat → Prop} (h : Rdr w br g A n c er bs) (hf : Frm S w w1) (hb : ¬ S br) (hg : ∀ k, g = some k → ¬ S k) : Rdr w1 br g A n c er bs :=
  ⟨(hf.block _ (blk_lt h.box) hb).trans h.box, h.len, h.cap, h.all.frm hf (fun k hk => ⟨(h.far k hk).1, hg k hk⟩), fun k hk => ⟨Nat.lt_of_lt_of_le (h.far k hk).1 hf.size, (h.far k hk).2⟩⟩
/-- What nodes answers, and the error. -/
def nodS (er : Int) (q : Nat) (bs : List Int) : List Hsh × Int := if er ≠ 0 then ([], er) else takeAns bs q
def lenOf : Value → Nat
  | .slice _ l _ => l
  | _ => 0
set_option maxHeartbeats 4000000 in
set_option maxRecDepth 100000 in
theorem nodes_loop (br n c q : Nat) (g : Option Nat) (A : Option Addr) (bs : List Int) (w : World) (hq : q ≤ 1000000) (h : Rdr w br g A n c 0 bs) (hn : n = 32 * q) :
    Calls Tryd.prog 93 #[.pointer (some ⟨br, 0, none⟩), .int .i64 q] w fun o w' => ∃ v, o = .returned v ∧ kH.R 63 w' w.heap.size (fun _ => True) v (takeH q bs) ∧ (∃ A1 n1 c1 bs1, Rdr w' br g A1 n1 c1 0 bs1) ∧ Frm (fun k => k = br) w w' := by
  have k0 := (blk_cell h.box 0).trans (rfl : _ = some (Value.slice A n c))
  have k1 := (blk_cell h.box 1).trans (rfl : _ = some (Value.int .i64 0))
  have HLen := Aside0.mk (h.len.trans hn)
  have H := Aside0.mk h
  have hn2 : (n : Int) = 32 * (q : Int) := by omega
  have hw : wrap64 (32 * (q : Int)) = (n : Int) := by rw [i64_of _ (by omega) (by omega)]; omega
  clear h
  go_enter Tryd.func93, Tryd.ntmps93
  go_wp2_with fail
  refine (fail_calls _ 11 0 br n c g A bs _ H.out).mono ?_
  rintro o w1 ⟨rfl, hr, hf⟩
  rw [if_neg (by simp; try omega)] at hr
  have k0 := (blk_cell hr.box 0).trans (rfl : _ = some (Value.slice A n c))
  have HR := Aside0.mk hr
  have HF := Aside0.mk hf
  clear hr hf k1
  go_wp2_with fail
  refine (fail_calls _ 13 0 br n c g A bs _ HR.out).mono ?_
  rintro o w2 ⟨rfl, hr, hf⟩
  rw [if_neg (by simp; try omega)] at hr
  have k1 := (blk_cell hr.box 1).trans (rfl : _ = some (Value.int .i64 0))
  have HR2 := Aside0.mk hr
  have HF2 := Aside0.mk (HF.out.trans hf (fun _ _ h => h))
  clear hr hf k0 HR HF hn2 hw
  go_wp2_with fail
  go_loopw [5] (fun v wr => ∃ (k n5 : Nat) (A5 : Option Addr) (c5 : Nat) (A6 : Option Addr) (c6 : Nat), v = .slice A6 k c6 ∧ n5 ≤ n ∧ Aside0 (n5 + 32 * k = 32 * q) ∧ Aside0 (Rdr wr br g A5 n5 c5 0 (bs.drop (32 * k))) ∧ Aside0 (kH.R 63 wr w.heap.size (fun _ => True) (.slice A6 k c6) (takeH k bs)) ∧ Aside0 (Frm (fun k => k = br) w wr)) (fun v _ => q - lenOf v)
  case atStart => exact ⟨0, n, A, c, none, 0, rfl, Nat.le_refl _, ⟨by omega⟩, ⟨by rw [Nat.mul_zero, List.drop_zero]; exact HR2.out⟩, ⟨Kd.R_nil _ _ _ _ _⟩, ⟨HF2.out⟩⟩
  case round =>
    obtain ⟨k, n5, A5, c5, A6, c6, rfl, hn5, HK, HB, HL, HW⟩ := hrel
    have k0 := (blk_cell HB.out.box 0).trans (rfl : _ = some (Value.slice A5 n5 c5))
    clear k1 HR2 HF2
    by_cases h0 : 0 < n5
    · have hk32 : 32 ≤ n5 := by have := HK.out; omega
      have hc32 := HB.out.cap
      have hlen := HB.out.len
      have hA : ∃ ad, A5 = some ad := by
        obtain ⟨ad, e, _⟩ := Kd.at_int HB.out.all.here 0 (by omega) (by omega)
        exact ⟨ad, e⟩
      obtain ⟨ad, rfl⟩ := hA
      have hh := bytes_hash HB.out.all.here (by omega)
      have hsn := takeH_snoc k bs
      obtain ⟨hv, hhv⟩ : ∃ hv, hv = mkH ((bs.drop (32 * k)).take 32) := ⟨_, rfl⟩
      obtain ⟨P, hP⟩ : ∃ P, P = takeH k bs := ⟨_, rfl⟩
      rw [← hhv] at hh hsn
      rw [← hP] at hsn
      have hPl : P.length = k := by rw [hP, takeH_len]
      have HR6 := Aside0.mk (show kH.R 63 wr w.heap.size (fun _ => True) (.slice A6 k c6) P by rw [hP]; exact HL.out)
      have hs := HW.out.size
      have hat : ∀ w, (Instr.arrayAt 63 (.slice (some ad) n5 c5)).run Tryd.prog w = .ok (.pointer (some ad)) w := fun w => run_arrayAt w _ _ 32 _ _ _ Tryd.underlying63 hk32
      have HH := Aside0.mk hh
      have HSn := Aside0.mk hsn
      have hP9 : P.length ≤ 1000000 := by have := HK.out; omega
      have HPl := Aside0.mk hPl
      have hone := hv.one
      clear hh hsn hhv hP hlen HL hPl
      have hbr := Aside0.mk (blk_lt H.out.box)
      have hfar := Aside0.mk (fun k (hk : g = some k) => (H.out.far k hk).1)
      obtain ⟨ad1, hif⟩ : ∃ ad1 : Addr, (if c5 = 32 then some ad else some ⟨ad.block, ad.off + 32, none⟩) = some ad1 := by split <;> exact ⟨_, rfl⟩
      have hC : CG g wr (if c5 = 32 then some ad else some ⟨ad.block, ad.off + 32, none⟩) (n5 - 32) ((bs.drop (32 * k)).drop 32) := CG.drop (m := 32) HB.out.all HB.out.len hk32 hc32
      rw [hif, List.drop_drop, show 32 * k + 32 = 32 * (k + 1) by omega] at hC
      have HC := Aside0.mk hC
      clear hC
      go_wp2_with (first | ((with_reducible refine gate_dst (N := 51) rfl ?_); go_loud (refine load_hash rfl (.tmp 50) rfl _ _ rfl HH.out ?_)) | ((with_reducible refine gate_dst (N := 52) rfl ?_); go_loud (refine build_hash rfl (.tmp 51) rfl hv rfl ?_)) | ((with_reducible refine gate_builtin (b := .append) (xs := #[.tmp 45, .tmp 52]) rfl ?_); at_builtin; go_loud (refine app_oneN kH w.heap.size rfl (.tmp 45) (.tmp 52) 39 63 _ 32 rfl Tryd.underlying39 infoH rfl (by decide) (by decide) (.slice A6 k c6) P hv (hv).cells rfl rfl rfl HR6.out hs (by omega) ?_; intro A9 n9 c9 w9 hr9 hf9 ha9; have hk9 := HB.out.keep hf9 (fun h => Nat.not_lt.2 (Kd.R_base HR6.out _ h.symm) hbr.out) (fun k hk h => Nat.not_lt.2 (Kd.R_base HR6.out _ h.symm) (hfar.out k hk)); have k0 := (blk_cell hk9.box 0).trans (rfl : _ = some (Value.slice (some ad) n5 c5)); have f0 := blk_frozen hk9.box 0; have HK9 := Aside0.mk hk9; clear hk9; have HR9 := Aside0.mk hr9; have HF9 := Aside0.mk hf9; have HA9 := Aside0.mk ha9; clear hr9 hf9 ha9)))
      go_roundw
      case rel =>
        have hn9 := (Kd.R_reads' HR9.out).1
        rw [List.length_append, List.length_singleton, HPl.out] at hn9
        subst hn9
        have hfr := HW.out.trans HF9.out (fun i hi h => absurd hi (Nat.not_lt.2 (Kd.R_base HR6.out _ h.symm)))
        exact ⟨k + 1, n5 - 32, some ad1, c5 - 32, A9, c9, rfl, by omega, ⟨by have := HK.out; omega⟩, ⟨HK9.out.setb (by have := HK9.out.len; have := HK.out; have := HLen.out; rw [List.length_drop]; omega) (by omega) (HC.out.frm HF9.out (fun k hk => ⟨(HB.out.far k hk).1, fun h => Nat.not_lt.2 (Kd.R_base HR6.out _ h.symm) (hfar.out k hk)⟩))⟩, ⟨by rw [HSn.out]; exact Kd.R_set HR9.out HK9.out.box (by decide) 0 _⟩, ⟨hfr.trans (Frm.of_set _ ⟨br, 0, none⟩ _) (fun _ _ h => h)⟩⟩
      case measure => have := HPl.out; have := (Kd.R_reads' HR9.out).1; rw [List.length_append, List.length_singleton] at this; simp [lenOf]; have := HK.out; omega
    · have hn0 : n5 = 0 := by omega
      subst hn0
      obtain rfl : k = q := by have := HK.out; omega
      go_wp2_with fail
      go_ret
      exact ⟨_, rfl, HL.out, ⟨A5, 0, c5, _, HB.out⟩, HW.out⟩
set_option maxHeartbeats 1000000 in
set_option maxRecDepth 100000 in
theorem nodes_stop (er : Int) (br n c q : Nat) (g : Option Nat) (A : Option Addr) (bs : List Int) (w : World) (hq : q ≤ 1000000) (h : Rdr w br g A n c er bs) (hs : (nodS er q bs).2 ≠ 0) :
    Calls Tryd.prog 93 #[.pointer (some ⟨br, 0, none⟩), .int .i64 q] w fun o w' => o = .returned (.slice none 0 0) ∧ Rdr w' br g A n c (nodS er q bs).2 bs ∧ Frm (fun k => k = br) w w' := by
  have k0 := (blk_cell h.box 0).trans (rfl : _ = some (Value.slice A n c))
  have H := Aside0.mk h
  have HS := Aside0.mk hs
  have HL := Aside0.mk h.len
  have hw : wrap64 (32 * (q : Int)) = 32 * (q : Int) := i64_of _ (by omega) (by omega)
  clear h hs
  go_enter Tryd.func93, Tryd.ntmps93
  go_wp2_with fail
  refine (fail_calls _ 11 er br n c g A bs _ H.out).mono ?_
  rintro o w1 ⟨rfl, hr, hf⟩
  have k0 := (blk_cell hr.box 0).trans (rfl : _ = some (Value.slice A n c))
  have HR := Aside0.mk hr
  have HF := Aside0.mk hf
  clear hr hf
  go_wp2_with fail
  refine (fail_calls _ 13 _ br n c g A bs _ HR.out).mono ?_
  rintro o w2 ⟨rfl, hr, hf⟩
  have he : (if (if er = 0 ∧ decide ((n : Int) < 32 * (q : Int)) = true then (11 : Int) else er) = 0 ∧ decide ((n : Int) > 32 * (q : Int)) = true then (13 : Int) else (if er = 0 ∧ decide ((n : Int) < 32 * (q : Int)) = true then (11 : Int) else er)) = (nodS er q bs).2 := by
    unfold nodS takeAns
    rw [HL.out]
    by_cases c1 : er = 0
    · by_cases c2 : n < 32 * q
      · have c3 : (n : Int) < 32 * (q : Int) := by omega
        simp [c1, c2, c3]
      · have c3 : ¬ ((n : Int) < 32 * (q : Int)) := by omega
        by_cases c4 : 32 * q < n
        · have c5 : 32 * (q : Int) < (n : Int) := by omega
          simp [c1, c2, c3, c4, c5]
        · have c5 : ¬ (32 * (q : Int) < (n : Int)) := by omega
          simp [c1, c2, c3, c4, c5]
    · simp [c1]
  rw [he] at hr
  have hs := HS.out
  generalize hee : (nodS er q bs).2 = ee at *
  have k1 := (blk_cell hr.box 1).trans (rfl : _ = some (Value.int .i64 ee))
  have HR2 := Aside0.mk hr
  have HF2 := Aside0.mk (HF.out.trans hf (fun _ _ h => h))
  have HE := Aside0.mk hee
  clear hr hf HR HF he hee HS k0
  go_wp2_with fail
  go_ret
  exact ⟨rfl, by rw [HE.out]; exact HR2.out, HF2.out⟩
theorem nodes_calls (er : Int) (br n c q : Nat) (g : Option Nat) (A : Option Addr) (bs : List Int) (w : World) (hq : q ≤ 1000000) (h : Rdr w br g A n c er bs) :
    Calls Tryd.prog 93 #[.pointer (some ⟨br, 0, none⟩), .int .i64 q] w fun o w' => ∃ v, o = .returned v ∧ kH.R 63 w' w.heap.size (fun _ => True) v (nodS er q bs).1 ∧ (∃ A1 n1 c1 bs1, Rdr w' br g A1 n1 c1 (nodS er q bs).2 bs1) ∧ Frm (fun k => k = br) w w' := by
  by_cases hs : (nodS er q bs).2 = 0
  · have he : er = 0 := by
      refine Decidable.by_contra (fun hc => ?_)
      unfold nodS at hs
      rw [if_pos hc] at hs
      exact hc hs
    subst he
    have hn : nodS 0 q bs = takeAns bs q := by unfold nodS; rw [if_neg (by simp)]
    rw [hn] at hs ⊢
    obtain ⟨h1, h2⟩ := take_zero hs
    rw [h2, hs]
    exact nodes_loop br n c q g A bs w hq h (by rw [← h.len, h1])
  · refine (nodes_stop er br n c q g A bs w hq h hs).mono ?_
    rintro o w' ⟨rfl, hr, hf⟩
    have hnil : (nodS er q bs).1 = [] := by
      unfold nodS takeAns at hs ⊢
      by_cases c1 : er ≠ 0
      · rw [if_pos c1]
      · rw [if_neg c1] at hs ⊢
        split
        · rfl
        · next c2 =>
          rw [if_neg c2] at hs
          split
          · rfl
          · next c3 =>
            rw [if_neg c3] at hs
            exact absurd rfl hs
    exact ⟨_, rfl, by rw [hnil]; exact Kd.R_nil _ _ _ _ _, ⟨_, _, _, _, hr⟩, hf⟩
end Go.Proofs.YtefnonlhepekdaaDoor.M

set_option linter.unusedVariables false
set_option linter.unusedSimpArgs false
namespace Go.Proofs.YtefnonlhepekdaaDoor.M
open Go.RowKit Go.Proofs.YtefnonlhepekdaaDoorW.PrintWords Go.Proofs.YtefnonlhepekdaaDoorW.PrintLast Go.Proofs.YtefnonlhepekdaaDoorW.PrintMore Go.Proofs.YtefnonlhepekdaaDoor.Leaf

theorem CG.of_C {w : World} {A : Option Addr} {n : Nat} {xs : List Int} (h : Kd.C (Kd.int .u8) w A n xs) : CG (A.map (fun a => a.block)) w A n xs := by
  intro w' hw
  obtain ⟨h1, h2, h3⟩ := h
  refine ⟨h1, h2, fun hn => ?_⟩
  obtain ⟨ad, rfl, hc⟩ := h3 hn
  refine ⟨ad, rfl, fun j x hx => ?_⟩
  obtain ⟨c, k1, k2, k3⟩ := hc j x hx
  refine ⟨c, k1, k2, fun i v hv => ?_⟩
  exact (World.cell?_of_block (a := ad.add (j * (Kd.int IntKind.u8).sz + i)) (by have := hw ad.block rfl; simp only [Addr.add]; split <;> exact this)).trans (k3 i v hv)
theorem CG.ex {w : World} {A : Option Addr} {n : Nat} {xs : List Int} (h : Kd.C (Kd.int .u8) w A n xs) : ∃ g, CG g w A n xs ∧ ∀ k, g = some k → k < w.heap.size := by
  by_cases hn : 0 < n
  · refine ⟨_, CG.of_C h, fun k hk => ?_⟩
    have hl := Kd.C_len h
    obtain ⟨ad, ea, hx⟩ := Kd.at_int h 0 (by omega) (by omega)
    subst ea
    obtain rfl : ad.block = k := Option.some.inj hk
    refine Decidable.by_contra (fun hc => ?_)
    have hnone : w.heap[ad.block]? = none := Array.getElem?_eq_none (by omega)
    simp [World.cell?, Addr.add, hnone] at hx
  · refine ⟨none, fun w' _ => ?_, fun k hk => by cases hk⟩
    obtain ⟨h1, h2, h3⟩ := h
    exact ⟨h1, h2, fun hn' => absurd hn' hn⟩
theorem CG.below {g : Option Nat} {w w1 : World} {A : Option Addr} {n : Nat} {xs : List Int} (h : CG g w A n xs) (hg : ∀ k, g = some k → k < w.heap.size) (hb : Below w.heap.size w w1) : CG g w1 A n xs :=
  h.frm (S := fun _ => False) (Frm.of_below hb _) (fun k hk => ⟨hg k hk, fun h => h⟩)
/-- A reader in a new box. -/
theorem Rdr.new {g : Option Nat} {w W : World} {A : Option Addr} {n c : Nat} {bs : List Int} (h : CG g w A n bs) (hg : ∀ k, g = some k → k < w.heap.size) (hl : bs.length = n) (hc : n ≤ c) (hb : Below w.heap.size w W) {b : Nat} (hB : b = W.heap.size) : Rdr (W.alloc (.cells #[.slice A n c, .int .i64 0] 126)) b g A n c 0 bs := by
  subst hB
  have h1 := (h.below hg hb).below (fun k hk => Nat.lt_of_lt_of_le (hg k hk) hb.size) (bl_new W (.cells #[.slice A n c, .int .i64 0] 126))
  exact ⟨heap_new W _, hl, hc, h1, fun k hk => ⟨by have := hg k hk; have := hb.size; simp; omega, by have := hg k hk; have := hb.size; omega⟩⟩
theorem kind_bytes {k : Int} {bs : List Int} (h : Bytes bs) : Bytes (kindR k bs).1 := by
  cases bs with
  | nil => exact h
  | cons b r => exact fun x hx => h x (List.mem_cons_of_mem _ hx)
theorem numS_bytes {er : Int} {bs : List Int} (h : Bytes bs) : Bytes (numS er bs).2.1 := by
  unfold numS numR
  split
  · exact h
  · exact fun x hx => h x (List.mem_of_mem_drop hx)
theorem numS_lt {er : Int} {bs : List Int} (h : Bytes bs) : (numS er bs).1 < 18446744073709551616 := by
  by_cases h0 : er = 0
  · subst h0
    by_cases hk : (longN bs).2.2 = 0
    · obtain ⟨x, rest, x1, x2, x3⟩ := longN_ok h hk
      rw [numS_ok x2 x3]
      exact x1
    · rw [numS_bad hk]
      simp
  · rw [show numS er bs = (0, bs, er) from if_pos h0]
    simp
def orE (e : Int) (p : Prop) [Decidable p] (f : Int) : Int := if e = 0 ∧ p then f else e
/-- As the reader goes. -/
def endP (a b : Nat) (e : Int) (r : List Int) (L : List Int) : (Nat × Nat × List Hsh) × Int := if e ≠ 0 then (noPr, e) else if (nodS 0 L.length r).2 ≠ 0 then (noPr, (nodS 0 L.length r).2) else ((a, b, (nodS 0 L.length r).1), 0)
theorem runP (bs : List Int) {s1 s2 a1 a2 a3 b1 b2 b3} (hs : kindR 77 bs = (s1, s2)) (ha : numS s2 s1 = (a1, a2, a3)) (hb : numS (orE a3 (4611686018427387904 < a1) 30) a2 = (b1, b2, b3)) :
    decP bs = endP a1 b1 (orE b3 (a1 ≤ b1) 32) b2 (proofAns b1 a1).1 := by
  cases bs with
  | nil =>
    cases hs
    cases ha
    cases hb
    rfl
  | cons b r =>
    simp only [kindR] at hs
    injection hs with h1 h2
    subst h1
    rw [decP]
    by_cases c1 : b ≠ 77
    · rw [if_pos c1] at h2 ⊢
      subst h2
      cases ha
      cases hb
      rfl
    · rw [if_neg c1] at h2 ⊢
      subst h2
      rw [show numS 0 r = numR r from if_neg (by simp)] at ha
      rw [ha]
      simp only
      by_cases c2 : a3 = 0
      · subst c2
        rw [if_neg (by simp)]
        by_cases c3 : 4611686018427387904 < a1
        · rw [if_pos c3]
          rw [show orE 0 (4611686018427387904 < a1) 30 = 30 from if_pos ⟨rfl, c3⟩] at hb
          cases hb
          rfl
        · rw [if_neg c3]
          rw [show orE 0 (4611686018427387904 < a1) 30 = 0 from if_neg (fun h => c3 h.2), show numS 0 a2 = numR a2 from if_neg (by simp)] at hb
          rw [hb]
          simp only
          by_cases c4 : b3 = 0
          · subst c4
            rw [if_neg (by simp)]
            unfold decP2 endP
            by_cases c5 : a1 ≤ b1
            · rw [if_pos c5, show orE 0 (a1 ≤ b1) 32 = 32 from if_pos ⟨rfl, c5⟩, if_pos (by decide)]
            · rw [if_neg c5, show orE 0 (a1 ≤ b1) 32 = 0 from if_neg (fun h => c5 h.2), if_neg (by simp)]
              rfl
          · rw [if_pos c4]
            unfold endP
            rw [show orE b3 (a1 ≤ b1) 32 = b3 from if_neg (fun h => c4 h.1), if_pos c4]
      · rw [if_pos c2]
        rw [show orE a3 (4611686018427387904 < a1) 30 = a3 from if_neg (fun h => c2 h.1), show numS a3 a2 = (0, a2, a3) from if_pos c2] at hb
        cases hb
        unfold endP
        rw [show orE a3 (a1 ≤ 0) 32 = a3 from if_neg (fun h => c2 h.1), if_pos c2]
theorem sizePf : (Tryd.prog.info? 41).map (·.size) = some 3 := by kernel_rfl
theorem sizePx : (Tryd.prog.info? 43).map (·.size) = some 3 := by kernel_rfl
/-- In Decode: what stays, and the result's variable. -/
structure Dp (t : TypeId) (w w1 : World) : Prop where
  be : Below w.heap.size w w1
  res : w1.heap[w.heap.size]? = some (.cells #[.int .u64 0, .int .u64 0, .slice none 0 0] t (0, 0))
theorem Dp.frm {t : TypeId} {w w1 w2 : World} (h : Dp t w w1) (hf : Frm (fun k => k = w.heap.size + 1) w1 w2) : Dp t w w2 :=
  ⟨h.be.trans (hf.below h.be.size (fun k hk => by omega)), (hf.block _ (blk_lt h.res) (by omega)).trans h.res⟩
theorem Dp.below {t : TypeId} {w w1 w2 : World} (h : Dp t w w1) (hb : Below w1.heap.size w1 w2) : Dp t w w2 := ⟨blt h.be hb, (hb.block _ (blk_lt h.res)).trans h.res⟩
theorem Frm.set3 (w : World) (g : Nat) (a b c : Value) : Frm (fun k => k = g) w (((w.setCell ⟨g, 0, none⟩ a).setCell ⟨g, 1, none⟩ b).setCell ⟨g, 2, none⟩ c) :=
  ((Frm.of_set w ⟨g, 0, none⟩ a).trans (Frm.of_set _ ⟨g, 1, none⟩ b) (fun _ _ h => h)).trans (Frm.of_set _ ⟨g, 2, none⟩ c) (fun _ _ h => h)
theorem Frm.drewR {S : Nat → Prop} {w w1 : World} (h : Frm S w w1) : Frm S w w1.drew := h.trans (Frm.of_below (below_drew (Below.refl _ _)) S) (fun _ _ h => h)
theorem blk_set3 {w : World} {g : Nat} {cs : Array Value} {t : TypeId} (h : w.heap[g]? = some (.cells cs t (0, 0))) (hs : cs.size = 3) (a b c : Value) : (((w.setCell ⟨g, 0, none⟩ a).setCell ⟨g, 1, none⟩ b).setCell ⟨g, 2, none⟩ c).heap[g]? = some (.cells #[a, b, c] t (0, 0)) := by
  have h1 := blk_set (blk_set (blk_set h 0 a) 1 b) 2 c
  rw [h1]
  obtain ⟨l⟩ := cs
  match l, hs with
  | [x, y, z], _ => rfl
theorem Dp.end3 {t : TypeId} {w w1 w2 : World} (h : Dp t w w1) (hf : Frm (fun k => k = w.heap.size) w1 w2) : Below w.heap.size w w2 := h.be.trans (hf.below h.be.size (fun k hk => by omega))
def DecA (t : TypeId) (D : (Nat × Nat × List Hsh) × Int) (w : World) (e : Ending) (w' : World) : Prop := ∃ v, e = .returned (.tuple #[.agg #[.int .u64 (D.1.1 : Nat), .int .u64 (D.1.2.1 : Nat), v], .int .i64 D.2]) ∧ kH.R 63 w' w.heap.size (fun _ => True) v D.1.2.2 ∧ Below w.heap.size w w'
set_option maxHeartbeats 4000000 in
set_option maxRecDepth 100000 in
theorem proof_decode (bs : List Int) (A : Option Addr) (n c : Nat) (w : World) (hb : Bytes bs) (hl : bs.length = n) (hn : n ≤ 1000000000) (hc : n ≤ c) (hC : Kd.C (Kd.int .u8) w A n bs) :
    Calls Tryd.prog 47 #[.slice A n c] w (DecA 41 (decP bs) w) := by
  obtain ⟨g, hg, hgl⟩ := CG.ex hC
  obtain ⟨⟨s1, s2⟩, hs⟩ : ∃ x, kindR 77 bs = x := ⟨_, rfl⟩
  obtain ⟨⟨a1, a2, a3⟩, ha⟩ : ∃ x, numS s2 s1 = x := ⟨_, rfl⟩
  obtain ⟨⟨b1, b2, b3⟩, hb3⟩ : ∃ x, numS (orE a3 (4611686018427387904 < a1) 30) a2 = x := ⟨_, rfl⟩
  have hrun := runP bs hs ha hb3
  have hby1 : Bytes s1 := by have := kind_bytes (k := 77) hb; rw [hs] at this; exact this
  have hby2 : Bytes a2 := by have := numS_bytes (er := s2) hby1; rw [ha] at this; exact this
  have ha1 : a1 < 18446744073709551616 := by have := numS_lt (er := s2) hby1; rw [ha] at this; exact this
  have hb1 : b1 < 18446744073709551616 := by have := numS_lt (er := orE a3 (4611686018427387904 < a1) 30) hby2; rw [hb3] at this; exact this
  have HG := Aside0.mk hg
  have HGL := Aside0.mk hgl
  have HS := Aside0.mk hs
  have HA := Aside0.mk ha
  have HB := Aside0.mk hb3
  have HRun := Aside0.mk hrun
  have HY1 := Aside0.mk hby1
  have HY2 := Aside0.mk hby2
  have hmf : ∀ (fn : Fn) (first cap : Array Value) (w : World), (Instr.makeFunc fn first cap).run Tryd.prog w = .ok (.func fn first cap) w := fun _ _ _ _ => rfl
  clear hC hg hgl hs ha hb3 hrun hby1 hby2 hb
  go_enter Tryd.func47, Tryd.ntmps47
  go_wp2_with fail
  refine (kind_calls 77 (w.heap.size + 1) n c g A bs _ hn (Rdr.new HG.out HGL.out hl hc (bl_new w _) (by simp))).mono ?_
  rintro o w1 ⟨rfl, hr, hf⟩
  rw [HS.out] at hr
  have HR := Aside0.mk hr
  have HD := Aside0.mk (Dp.frm (t := 41) ⟨below_alloc (bl_new w _) _, (Below.heap_alloc _ _ _ (by simp)).trans (heap_new w _)⟩ hf)
  clear hr hf
  go_wp2_with fail
  obtain ⟨A1, n1, c1, hn1, hr1⟩ := HR.out
  refine (number_calls s2 (w.heap.size + 1) n1 c1 g A1 s1 _ (Nat.le_trans hn1 hn) HY1.out hr1).mono ?_
  rintro o w2 ⟨rfl, hr, hf⟩
  rw [HA.out] at hr ⊢
  have HR2 := Aside0.mk hr
  have HD2 := Aside0.mk (HD.out.frm hf)
  clear hr hf HR HD hr1
  go_wp2_with fail
  obtain ⟨A2, n2, c2, hn2, hr2⟩ := HR2.out
  refine (fail_calls _ 30 a3 (w.heap.size + 1) n2 c2 g A2 a2 _ hr2).mono ?_
  rintro o w3 ⟨rfl, hr, hf⟩
  have he : (if a3 = 0 ∧ decide ((a1 : Int) > 4611686018427387904) = true then (30 : Int) else a3) = orE a3 (4611686018427387904 < a1) 30 := by
    unfold orE
    by_cases c1 : a3 = 0
    · by_cases c2 : 4611686018427387904 < a1
      · have : (4611686018427387904 : Int) < (a1 : Int) := by omega
        simp [c1, c2, this]
      · have : ¬ ((4611686018427387904 : Int) < (a1 : Int)) := by omega
        simp [c1, c2, this]
    · simp [c1]
  rw [he] at hr
  have HR3 := Aside0.mk hr
  have HD3 := Aside0.mk (HD2.out.frm hf)
  have hn3 : n2 ≤ 1000000000 := by omega
  clear hr hf HR2 HD2 hr2 he
  go_wp2_with fail
  refine (number_calls (orE a3 (4611686018427387904 < a1) 30) (w.heap.size + 1) n2 c2 g A2 a2 _ hn3 HY2.out HR3.out).mono ?_
  rintro o w4 ⟨rfl, hr, hf⟩
  rw [HB.out] at hr ⊢
  have HR4 := Aside0.mk hr
  have HD4 := Aside0.mk (HD3.out.frm hf)
  clear hr hf HR3 HD3
  go_wp2_with fail
  obtain ⟨A4, n4, c4, hn4, hr4⟩ := HR4.out
  refine (fail_calls _ 32 b3 (w.heap.size + 1) n4 c4 g A4 b2 _ hr4).mono ?_
  rintro o w5 ⟨rfl, hr, hf⟩
  have he : (if b3 = 0 ∧ decide (a1 ≤ b1) = true then (32 : Int) else b3) = orE b3 (a1 ≤ b1) 32 := by
    unfold orE
    by_cases c2 : a1 ≤ b1 <;> simp [c2]
  rw [he] at hr
  generalize orE b3 (a1 ≤ b1) 32 = e5 at *
  have k1 := (blk_cell hr.box 1).trans (rfl : _ = some (Value.int .i64 e5))
  have HR5 := Aside0.mk hr
  have HD5 := Aside0.mk (HD4.out.frm hf)
  clear hr hf HR4 HD4 hr4 he HA HB HS
  by_cases h5 : e5 = 0
  · subst h5
    go_wp2_with fail
    refine (proof_places b1 a1 w5).mono ?_
    rintro e w6 ⟨v, rfl, hr6, hb6⟩
    obtain ⟨A6, q, c6, e9⟩ : ∃ A m c, v = .slice A m c := by obtain ⟨A, c, h⟩ := Kd.R_slice hr6; exact ⟨A, _, c, h⟩
    subst e9
    have hq := (Kd.R_reads' hr6).1
    have hq2 := proofAns_len b1 a1
    rw [← hq] at hq2
    have HQ := Aside0.mk hq.symm
    have HR6 := Aside0.mk (HR5.out.below hb6)
    have HD6 := Aside0.mk (HD5.out.below hb6)
    have HW6 := Aside0.mk (Nat.le_trans HD5.out.be.size hb6.size)
    clear hr6 hb6 HR5 HD5 hq k1
    go_wp2_with fail
    refine (nodes_calls 0 (w.heap.size + 1) n4 c4 q g A4 b2 _ (by omega) HR6.out).mono ?_
    rintro o w7 ⟨v, rfl, hr7, hrd, hf7⟩
    obtain ⟨A7, n7, c7, e9⟩ : ∃ A m c, v = .slice A m c := by obtain ⟨A, c, h⟩ := Kd.R_slice hr7; exact ⟨A, _, c, h⟩
    subst e9
    obtain ⟨A8, n8, c8, bs8, hr8⟩ := hrd
    have hend : decP bs = (if (nodS 0 q b2).2 ≠ 0 then (noPr, (nodS 0 q b2).2) else ((a1, b1, (nodS 0 q b2).1), 0)) := by
      rw [HRun.out]
      unfold endP
      rw [if_neg (by simp), HQ.out]
    generalize (nodS 0 q b2).1 = hs at *
    generalize (nodS 0 q b2).2 = e7 at *
    have k1 := (blk_cell hr8.box 1).trans (rfl : _ = some (Value.int .i64 e7))
    have HD7 := Aside0.mk (HD6.out.frm hf7)
    have HH7 := Aside0.mk (Kd.R_lower hr7 HW6.out)
    have HO7 := Aside0.mk (show ∀ k, (Value.slice A7 n7 c7).ownBlock = some k → k ≠ w.heap.size from fun k hk h => by
      have := Kd.R_base hr7 k hk
      have := HD6.out.be.size
      have := blk_lt HD6.out.res
      omega)
    have r0 := (blk_cell HD7.out.res 0).trans (rfl : _ = some (Value.int .u64 0))
    have r1 := (blk_cell HD7.out.res 1).trans (rfl : _ = some (Value.int .u64 0))
    have r2 := (blk_cell HD7.out.res 2).trans (rfl : _ = some (Value.slice none 0 0))
    have q0 := blk_frozen HD7.out.res 0
    have q1 := blk_frozen HD7.out.res 1
    have q2 := blk_frozen HD7.out.res 2
    clear hr7 hr8 hf7 HR6 HD6 HRun HQ
    by_cases h7 : e7 = 0
    · rw [if_neg (fun h => h h7)] at hend
      subst h7
      have HEnd := Aside0.mk hend
      clear hend
      go_wp2_with fail
      (try simp only [Exit.inBlock, Exit.then])
      refine bodyPost_ret (results_ct rfl _ _ w.heap.size 41 #[.int .u64 a1, .int .u64 b1, .slice A7 n7 c7] (0, 0) _ rfl (blk_set3 HD7.out.res rfl (.int .u64 a1) (.int .u64 b1) (.slice A7 n7 c7)) Tryd.underlying41 rfl sizePf) rfl ?_
      rw [HEnd.out]
      exact ⟨.slice A7 n7 c7, rfl, R_frm flat_kH HH7.out (Frm.set3 _ _ _ _ _) (fun k hk h => HO7.out k hk h), HD7.out.end3 (Frm.set3 _ _ _ _ _)⟩
    · rw [if_pos h7] at hend
      have HEnd := Aside0.mk hend
      clear hend
      go_wp2_with fail
      go_region
      go_wp2_with fail
      (try simp only [Exit.inBlock, Exit.then])
      refine bodyPost_ret (results_ct rfl _ _ w.heap.size 41 #[.int .u64 0, .int .u64 0, .slice none 0 0] (0, 0) _ rfl (blk_set3 HD7.out.res rfl (.int .u64 0) (.int .u64 0) (.slice none 0 0)) Tryd.underlying41 rfl sizePf) rfl ?_
      rw [HEnd.out]
      exact ⟨.slice none 0 0, rfl, Kd.R_nil _ _ _ _ _, HD7.out.end3 (Frm.set3 _ _ _ _ _).drewR⟩
  · have hd : decP bs = (noPr, e5) := by rw [HRun.out]; exact if_pos h5
    have HEnd := Aside0.mk hd
    clear hd
    have r0 := (blk_cell HD5.out.res 0).trans (rfl : _ = some (Value.int .u64 0))
    have r1 := (blk_cell HD5.out.res 1).trans (rfl : _ = some (Value.int .u64 0))
    have r2 := (blk_cell HD5.out.res 2).trans (rfl : _ = some (Value.slice none 0 0))
    have q0 := blk_frozen HD5.out.res 0
    have q1 := blk_frozen HD5.out.res 1
    have q2 := blk_frozen HD5.out.res 2
    go_wp2_with fail
    go_region
    go_wp2_with fail
    (try simp only [Exit.inBlock, Exit.then])
    refine bodyPost_ret (results_ct rfl _ _ w.heap.size 41 #[.int .u64 0, .int .u64 0, .slice none 0 0] (0, 0) _ rfl (blk_set3 HD5.out.res rfl (.int .u64 0) (.int .u64 0) (.slice none 0 0)) Tryd.underlying41 rfl sizePf) rfl ?_
    rw [HEnd.out]
    exact ⟨.slice none 0 0, rfl, Kd.R_nil _ _ _ _ _, HD5.out.end3 (Frm.set3 _ _ _ _ _).drewR⟩
end Go.Proofs.YtefnonlhepekdaaDoor.M

set_option linter.unusedVariables false
set_option linter.unusedSimpArgs false
namespace Go.Proofs.YtefnonlhepekdaaDoor.M
open Go.RowKit Go.Proofs.YtefnonlhepekdaaDoorW.PrintWords Go.Proofs.YtefnonlhepekdaaDoorW.PrintLast Go.Proofs.YtefnonlhepekdaaDoorW.PrintMore Go.Proofs.YtefnonlhepekdaaDoor.Leaf

theorem runX (bs : List Int) {s1 s2 a1 a2 a3 b1 b2 b3} (hs : kindR 80 bs = (s1, s2)) (ha : numS s2 s1 = (a1, a2, a3)) (hb : numS a3 a2 = (b1, b2, b3)) :
    decX bs = endP a1 b1 (orE b3 ((prefAns a1 b1).2 ≠ 0) (prefAns a1 b1).2) b2 (prefAns a1 b1).1 := by
  have bad : ∀ (x y : Nat) (e : Int) (r : List Int), e ≠ 0 → endP x y (orE e ((prefAns x y).2 ≠ 0) (prefAns x y).2) r (prefAns x y).1 = (noPr, e) := fun x y e r he => by
    rw [show orE e ((prefAns x y).2 ≠ 0) (prefAns x y).2 = e from if_neg (fun h => he h.1)]
    exact if_pos he
  cases bs with
  | nil =>
    cases hs
    cases ha
    cases hb
    exact (bad _ _ _ _ (by decide)).symm
  | cons b r =>
    simp only [kindR] at hs
    injection hs with h1 h2
    subst h1
    rw [decX]
    by_cases c1 : b ≠ 80
    · rw [if_pos c1] at h2 ⊢
      subst h2
      cases ha
      cases hb
      exact (bad _ _ _ _ (by decide)).symm
    · rw [if_neg c1] at h2 ⊢
      subst h2
      rw [show numS 0 r = numR r from if_neg (by simp)] at ha
      rw [ha]
      simp only
      by_cases c2 : a3 = 0
      · subst c2
        rw [if_neg (by simp)]
        rw [show numS 0 a2 = numR a2 from if_neg (by simp)] at hb
        rw [hb]
        simp only
        by_cases c4 : b3 = 0
        · subst c4
          rw [if_neg (by simp)]
          unfold decX2 endP
          by_cases c5 : (prefAns a1 b1).2 = 0
          · rw [if_neg (fun h => h c5), show orE 0 ((prefAns a1 b1).2 ≠ 0) (prefAns a1 b1).2 = 0 from if_neg (fun h => h.2 c5), if_neg (by simp)]
            rfl
          · rw [if_pos c5, show orE 0 ((prefAns a1 b1).2 ≠ 0) (prefAns a1 b1).2 = (prefAns a1 b1).2 from if_pos ⟨rfl, c5⟩, if_pos c5]
        · rw [if_pos c4]
          exact (bad _ _ _ _ c4).symm
      · rw [if_pos c2]
        rw [show numS a3 a2 = (0, a2, a3) from if_pos c2] at hb
        cases hb
        exact (bad _ _ _ _ c2).symm
set_option maxHeartbeats 4000000 in
set_option maxRecDepth 100000 in
theorem pref_decode (bs : List Int) (A : Option Addr) (n c : Nat) (w : World) (hb : Bytes bs) (hl : bs.length = n) (hn : n ≤ 1000000000) (hc : n ≤ c) (hC : Kd.C (Kd.int .u8) w A n bs) (hT : DB w) :
    Calls Tryd.prog 48 #[.slice A n c] w (DecA 43 (decX bs) w) := by
  obtain ⟨g, hg, hgl⟩ := CG.ex hC
  obtain ⟨⟨s1, s2⟩, hs⟩ : ∃ x, kindR 80 bs = x := ⟨_, rfl⟩
  obtain ⟨⟨a1, a2, a3⟩, ha⟩ : ∃ x, numS s2 s1 = x := ⟨_, rfl⟩
  obtain ⟨⟨b1, b2, b3⟩, hb3⟩ : ∃ x, numS a3 a2 = x := ⟨_, rfl⟩
  have hrun := runX bs hs ha hb3
  have hby1 : Bytes s1 := by have := kind_bytes (k := 80) hb; rw [hs] at this; exact this
  have hby2 : Bytes a2 := by have := numS_bytes (er := s2) hby1; rw [ha] at this; exact this
  have ha1 : a1 < 18446744073709551616 := by have := numS_lt (er := s2) hby1; rw [ha] at this; exact this
  have hb1 : b1 < 18446744073709551616 := by have := numS_lt (er := a3) hby2; rw [hb3] at this; exact this
  have HG := Aside0.mk hg
  have HT := Aside0.mk hT
  have HGL := Aside0.mk hgl
  have HS := Aside0.mk hs
  have HA := Aside0.mk ha
  have HB := Aside0.mk hb3
  have HRun := Aside0.mk hrun
  have HY1 := Aside0.mk hby1
  have HY2 := Aside0.mk hby2
  have hmf : ∀ (fn : Fn) (first cap : Array Value) (w : World), (Instr.makeFunc fn first cap).run Tryd.prog w = .ok (.func fn first cap) w := fun _ _ _ _ => rfl
  clear hC hT hg hgl hs ha hb3 hrun hby1 hby2 hb
  go_enter Tryd.func48, Tryd.ntmps48
  go_wp2_with fail
  refine (kind_calls 80 (w.heap.size + 1) n c g A bs _ hn (Rdr.new HG.out HGL.out hl hc (bl_new w _) (by simp))).mono ?_
  rintro o w1 ⟨rfl, hr, hf⟩
  rw [HS.out] at hr
  have HR := Aside0.mk hr
  have HD := Aside0.mk (Dp.frm (t := 43) ⟨below_alloc (bl_new w _) _, (Below.heap_alloc _ _ _ (by simp)).trans (heap_new w _)⟩ hf)
  clear hr hf
  go_wp2_with fail
  obtain ⟨A1, n1, c1, hn1, hr1⟩ := HR.out
  refine (number_calls s2 (w.heap.size + 1) n1 c1 g A1 s1 _ (Nat.le_trans hn1 hn) HY1.out hr1).mono ?_
  rintro o w2 ⟨rfl, hr, hf⟩
  rw [HA.out] at hr ⊢
  have HR2 := Aside0.mk hr
  have HD2 := Aside0.mk (HD.out.frm hf)
  clear hr hf HR HD hr1
  go_wp2_with fail
  obtain ⟨A2, n2, c2, hn2, hr2⟩ := HR2.out
  have hn3 : n2 ≤ 1000000000 := by omega
  refine (number_calls a3 (w.heap.size + 1) n2 c2 g A2 a2 _ hn3 HY2.out hr2).mono ?_
  rintro o w4 ⟨rfl, hr, hf⟩
  rw [HB.out] at hr ⊢
  have HR4 := Aside0.mk hr
  have HD4 := Aside0.mk (HD2.out.frm hf)
  clear hr hf HR2 HD2 hr2
  go_wp2_with fail
  refine (pref_calls a1 b1 w4 (HT.out.below HD4.out.be)).mono ?_
  rintro e w6 ⟨v, rfl, hr6, hb6⟩
  obtain ⟨A6, q, c6, e9⟩ : ∃ A m c, v = .slice A m c := by obtain ⟨A, c, h⟩ := Kd.R_slice hr6; exact ⟨A, _, c, h⟩
  subst e9
  have hq := (Kd.R_reads' hr6).1
  have hq2 := prefAns_len a1 b1
  rw [← hq] at hq2
  have HQ := Aside0.mk hq.symm
  obtain ⟨A4, n4, c4, hn4, hr4⟩ := HR4.out
  have HR6 := Aside0.mk (hr4.below hb6)
  have HD6 := Aside0.mk (HD4.out.below hb6)
  clear hr6 hb6 HR4 HD4 hr4 hq
  generalize hpe : (prefAns a1 b1).2 = pe at *
  go_wp2_with fail
  refine (fail_calls _ pe b3 (w.heap.size + 1) n4 c4 g A4 b2 _ HR6.out).mono ?_
  rintro o w5 ⟨rfl, hr, hf⟩
  have he : (if b3 = 0 ∧ (pe != 0) = true then pe else b3) = orE b3 (pe ≠ 0) pe := by
    unfold orE
    by_cases c2 : pe = 0 <;> simp [c2]
  rw [he] at hr
  generalize orE b3 (pe ≠ 0) pe = e5 at *
  have k1 := (blk_cell hr.box 1).trans (rfl : _ = some (Value.int .i64 e5))
  have HR5 := Aside0.mk hr
  have HD5 := Aside0.mk (HD6.out.frm hf)
  clear hr hf HR6 HD6 he HA HB HS
  by_cases h5 : e5 = 0
  · subst h5
    have HR6 := Aside0.mk HR5.out
    have HD6 := Aside0.mk HD5.out
    have HW6 := Aside0.mk HD5.out.be.size
    go_wp2_with fail
    clear HR5 HD5 k1
    refine (nodes_calls 0 (w.heap.size + 1) n4 c4 q g A4 b2 _ (by omega) HR6.out).mono ?_
    rintro o w7 ⟨v, rfl, hr7, hrd, hf7⟩
    obtain ⟨A7, n7, c7, e9⟩ : ∃ A m c, v = .slice A m c := by obtain ⟨A, c, h⟩ := Kd.R_slice hr7; exact ⟨A, _, c, h⟩
    subst e9
    obtain ⟨A8, n8, c8, bs8, hr8⟩ := hrd
    have hend : decX bs = (if (nodS 0 q b2).2 ≠ 0 then (noPr, (nodS 0 q b2).2) else ((a1, b1, (nodS 0 q b2).1), 0)) := by
      rw [HRun.out]
      unfold endP
      rw [if_neg (by simp), HQ.out]
    generalize (nodS 0 q b2).1 = hs at *
    generalize (nodS 0 q b2).2 = e7 at *
    have k1 := (blk_cell hr8.box 1).trans (rfl : _ = some (Value.int .i64 e7))
    have HD7 := Aside0.mk (HD6.out.frm hf7)
    have HH7 := Aside0.mk (Kd.R_lower hr7 HW6.out)
    have HO7 := Aside0.mk (show ∀ k, (Value.slice A7 n7 c7).ownBlock = some k → k ≠ w.heap.size from fun k hk h => by
      have := Kd.R_base hr7 k hk
      have := HD6.out.be.size
      have := blk_lt HD6.out.res
      omega)
    have r0 := (blk_cell HD7.out.res 0).trans (rfl : _ = some (Value.int .u64 0))
    have r1 := (blk_cell HD7.out.res 1).trans (rfl : _ = some (Value.int .u64 0))
    have r2 := (blk_cell HD7.out.res 2).trans (rfl : _ = some (Value.slice none 0 0))
    have q0 := blk_frozen HD7.out.res 0
    have q1 := blk_frozen HD7.out.res 1
    have q2 := blk_frozen HD7.out.res 2
    clear hr7 hr8 hf7 HR6 HD6 HRun HQ
    by_cases h7 : e7 = 0
    · rw [if_neg (fun h => h h7)] at hend
      subst h7
      have HEnd := Aside0.mk hend
      clear hend
      go_wp2_with fail
      (try simp only [Exit.inBlock, Exit.then])
      refine bodyPost_ret (results_ct rfl _ _ w.heap.size 43 #[.int .u64 a1, .int .u64 b1, .slice A7 n7 c7] (0, 0) _ rfl (blk_set3 HD7.out.res rfl (.int .u64 a1) (.int .u64 b1) (.slice A7 n7 c7)) Tryd.underlying43 rfl sizePx) rfl ?_
      rw [HEnd.out]
      exact ⟨.slice A7 n7 c7, rfl, R_frm flat_kH HH7.out (Frm.set3 _ _ _ _ _) (fun k hk h => HO7.out k hk h), HD7.out.end3 (Frm.set3 _ _ _ _ _)⟩
    · rw [if_pos h7] at hend
      have HEnd := Aside0.mk hend
      clear hend
      go_wp2_with fail
      go_region
      go_wp2_with fail
      (try simp only [Exit.inBlock, Exit.then])
      refine bodyPost_ret (results_ct rfl _ _ w.heap.size 43 #[.int .u64 0, .int .u64 0, .slice none 0 0] (0, 0) _ rfl (blk_set3 HD7.out.res rfl (.int .u64 0) (.int .u64 0) (.slice none 0 0)) Tryd.underlying43 rfl sizePx) rfl ?_
      rw [HEnd.out]
      exact ⟨.slice none 0 0, rfl, Kd.R_nil _ _ _ _ _, HD7.out.end3 (Frm.set3 _ _ _ _ _).drewR⟩
  · have hd : decX bs = (noPr, e5) := by rw [HRun.out]; exact if_pos h5
    have HEnd := Aside0.mk hd
    clear hd
    have r0 := (blk_cell HD5.out.res 0).trans (rfl : _ = some (Value.int .u64 0))
    have r1 := (blk_cell HD5.out.res 1).trans (rfl : _ = some (Value.int .u64 0))
    have r2 := (blk_cell HD5.out.res 2).trans (rfl : _ = some (Value.slice none 0 0))
    have q0 := blk_frozen HD5.out.res 0
    have q1 := blk_frozen HD5.out.res 1
    have q2 := blk_frozen HD5.out.res 2
    go_wp2_with fail
    go_region
    go_wp2_with fail
    (try simp only [Exit.inBlock, Exit.then])
    refine bodyPost_ret (results_ct rfl _ _ w.heap.size 43 #[.int .u64 0, .int .u64 0, .slice none 0 0] (0, 0) _ rfl (blk_set3 HD5.out.res rfl (.int .u64 0) (.int .u64 0) (.slice none 0 0)) Tryd.underlying43 rfl sizePx) rfl ?_
    rw [HEnd.out]
    exact ⟨.slice none 0 0, rfl, Kd.R_nil _ _ _ _ _, HD5.out.end3 (Frm.set3 _ _ _ _ _).drewR⟩
end Go.Proofs.YtefnonlhepekdaaDoor.M

set_option linter.unusedVariables false
set_option linter.unusedSimpArgs false
namespace Go.Proofs.YtefnonlhepekdaaDoor.M
open Go.RowKit Go.Proofs.YtefnonlhepekdaaDoorW.PrintWords Go.Proofs.YtefnonlhepekdaaDoorW.PrintLast Go.Proofs.YtefnonlhepekdaaDoorW.PrintMore Go.Proofs.YtefnonlhepekdaaDoor.Leaf

set_option maxHeartbeats 1000000 in
set_option maxRecDepth 100000 in
theorem same_proofs (n i : Nat) (ns : List Hsh) (A B : Option Addr) (c d : Nat) (w : World) (hl : ns.length ≤ 1000000000) (hA : kH.C w A ns.length ns) (hB : kH.C w B ns.length ns) :
    Calls Tryd.prog 49 #[.agg #[.int .u64 n, .int .u64 i, .slice A ns.length c], .agg #[.int .u64 n, .int .u64 i, .slice B ns.length d]] w fun e w' => e = .returned (.bool true) ∧ Below w.heap.size w w' := by
  have HA := Aside0.mk hA
  have HB := Aside0.mk hB
  clear hA hB
  go_enter Tryd.func49, Tryd.ntmps49
  go_wp2_with fail
  refine (sameH_true ns A B c d _ hl (Kd.C_below HA.out (by repeat (with_reducible first | exact Below.refl _ _ | refine below_alloc ?_ _ | refine below_drew ?_))) (Kd.C_below HB.out (by repeat (with_reducible first | exact Below.refl _ _ | refine below_alloc ?_ _ | refine below_drew ?_)))).mono ?_
  rintro e w1 ⟨rfl, hb⟩
  have HB1 := Aside0.mk (blt (w := w) (by repeat (with_reducible first | exact Below.refl _ _ | refine below_alloc ?_ _ | refine below_drew ?_)) hb)
  clear hb
  go_wp2_with fail
  go_ret
  exact ⟨rfl, HB1.out⟩
set_option maxHeartbeats 1000000 in
set_option maxRecDepth 100000 in
theorem same_prefs (n i : Nat) (ns : List Hsh) (A B : Option Addr) (c d : Nat) (w : World) (hl : ns.length ≤ 1000000000) (hA : kH.C w A ns.length ns) (hB : kH.C w B ns.length ns) :
    Calls Tryd.prog 50 #[.agg #[.int .u64 n, .int .u64 i, .slice A ns.length c], .agg #[.int .u64 n, .int .u64 i, .slice B ns.length d]] w fun e w' => e = .returned (.bool true) ∧ Below w.heap.size w w' := by
  have HA := Aside0.mk hA
  have HB := Aside0.mk hB
  clear hA hB
  go_enter Tryd.func50, Tryd.ntmps50
  go_wp2_with fail
  refine (sameH_true ns A B c d _ hl (Kd.C_below HA.out (by repeat (with_reducible first | exact Below.refl _ _ | refine below_alloc ?_ _ | refine below_drew ?_))) (Kd.C_below HB.out (by repeat (with_reducible first | exact Below.refl _ _ | refine below_alloc ?_ _ | refine below_drew ?_)))).mono ?_
  rintro e w1 ⟨rfl, hb⟩
  have HB1 := Aside0.mk (blt (w := w) (by repeat (with_reducible first | exact Below.refl _ _ | refine below_alloc ?_ _ | refine below_drew ?_)) hb)
  clear hb
  go_wp2_with fail
  go_ret
  exact ⟨rfl, HB1.out⟩
end Go.Proofs.YtefnonlhepekdaaDoor.M

set_option linter.unusedVariables false
set_option linter.unusedSimpArgs false
namespace Go.Proofs.YtefnonlhepekdaaDoor.M
open Go.RowKit Go.Proofs.YtefnonlhepekdaaDoorW.PrintWords Go.Proofs.YtefnonlhepekdaaDoorW.PrintLast Go.Proofs.YtefnonlhepekdaaDoorW.PrintMore Go.Proofs.YtefnonlhepekdaaDoor.Leaf

/-- Bytes of a number, the lowest first. -/
def valB : List Int → Nat
  | [] => 0
  | b :: r => b.toNat % 128 + 128 * valB r
theorem valB_snoc : ∀ (l : List Int) (b : Int), valB (l ++ [b]) = valB l + b.toNat % 128 * 2 ^ (7 * l.length)
  | [], b => by simp [valB]
  | c :: r, b => by
    have ih := valB_snoc r b
    rw [List.cons_append, valB, ih, valB, List.length_cons, show 7 * (r.length + 1) = 7 * r.length + 7 by omega, Nat.pow_add, Nat.mul_add, show b.toNat % 128 * (2 ^ (7 * r.length) * 2 ^ 7) = 128 * (b.toNat % 128 * 2 ^ (7 * r.length)) by rw [← Nat.mul_assoc, Nat.mul_comm _ (2 ^ 7)]]
    omega
theorem valB_lt : ∀ l : List Int, valB l < 2 ^ (7 * l.length)
  | [] => by simp [valB]
  | b :: r => by
    have ih := valB_lt r
    rw [valB, List.length_cons, show 7 * (r.length + 1) = 7 * r.length + 7 by omega, Nat.pow_add]
    omega
theorem valB_take (bs : List Int) (i : Nat) (hi : i < bs.length) : valB (bs.take (i + 1)) = valB (bs.take i) + (bs[i]).toNat % 128 * 2 ^ (7 * i) := by
  rw [List.take_add_one, List.getElem?_eq_getElem hi]
  show valB (bs.take i ++ [bs[i]]) = _
  rw [valB_snoc, List.length_take, Nat.min_eq_left (by omega)]
theorem long1_down (bs : List Int) (hb : Bytes bs) (i : Nat) (hi : i ≤ 10) : ∀ (m x : Nat), m ≤ bs.length → x * 2 ^ (7 * m) + valB (bs.take m) < 18446744073709551616 → m ≤ 10 →
    Ev (fun k => massifref1_Long.l1 k bs (i : Int) (x : Int) ((m : Int) - 1)) (((x * 2 ^ (7 * m) + valB (bs.take m) : Nat) : Int), ((i + 1 : Nat) : Int), 0)
  | 0, x, _, hx, _ => by
    have e1 : wrap64 ((i : Int) + 1) = ((i + 1 : Nat) : Int) := by rw [i64_of _ (by omega) (by omega)]; omega
    refine Ev.step (f := fun _ => some (((x * 2 ^ (7 * 0) + valB (bs.take 0) : Nat) : Int), ((i + 1 : Nat) : Int), 0)) (fun k => ?_) (Ev.now _)
    simp only [massifref1_Long.l1]
    rw [if_neg (by omega), e1]
    simp [valB]
  | m + 1, x, hm, hx, h10 => by
    have hml : m < bs.length := by omega
    have hv := valB_take bs m hml
    have hbm := hb _ (List.getElem_mem hml)
    obtain ⟨b, hbb⟩ : ∃ b : Nat, bs[m] = (b : Int) := ⟨(bs[m]).toNat, by omega⟩
    have hp : 2 ^ (7 * (m + 1)) = 128 * 2 ^ (7 * m) := by rw [show 7 * (m + 1) = 7 * m + 7 by omega, Nat.pow_add]; omega
    have hp0 : 0 < 2 ^ (7 * m) := Nat.pow_pos (by omega)
    have hex : (128 * x + b % 128) * 2 ^ (7 * m) + valB (bs.take m) = x * 2 ^ (7 * (m + 1)) + valB (bs.take (m + 1)) := by
      rw [hv, hbb, Int.toNat_natCast, hp, Nat.add_mul, ← Nat.mul_assoc, Nat.mul_comm x 128]
      omega
    have hle : 128 * x ≤ x * 2 ^ (7 * (m + 1)) := by
      rw [hp, ← Nat.mul_assoc, Nat.mul_comm x 128]
      exact Nat.le_mul_of_pos_right _ hp0
    have ih := long1_down bs hb i hi m (128 * x + b % 128) (by omega) (by rw [hex]; exact hx) (by omega)
    rw [hex] at ih
    have hx64 : 128 * x + 127 < 18446744073709551616 := by omega
    generalize x * 2 ^ (7 * (m + 1)) + valB (bs.take (m + 1)) = T at *
    clear hex hle hp hv hp0
    have r1 : rd bs (m : Int) = (b : Int) := by simp [rd, List.getD_eq_getElem?_getD, List.getElem?_eq_getElem hml, hbb]
    have e2 : Int.tmod (b : Int) 128 = ((b % 128 : Nat) : Int) := by
      rw [Int.tmod_eq_emod_of_nonneg (by omega)]
      omega
    have e3 : IntKind.u64.wrap ((IntKind.u64.wrap (128 * (x : Int))) + IntKind.u64.wrap ((b % 128 : Nat) : Int)) = ((128 * x + b % 128 : Nat) : Int) := by
      have h1 : IntKind.u64.wrap (128 * (x : Int)) = 128 * (x : Int) := w64_of _ (by omega) (by omega)
      have h2 : IntKind.u64.wrap ((b % 128 : Nat) : Int) = ((b % 128 : Nat) : Int) := w64_of _ (by omega) (by omega)
      rw [h1, h2, w64_of _ (by omega) (by omega)]
      omega
    have e4 : wrap64 ((m : Int) - 1) = (m : Int) - 1 := i64_of _ (by omega) (by omega)
    refine Ev.step (fun k => ?_) ih
    simp only [massifref1_Long.l1]
    rw [show ((m + 1 : Nat) : Int) - 1 = (m : Int) by omega, if_pos (by omega), if_pos (by omega), if_pos (by omega), r1, e2, e3, e4]
theorem long1_loop (bs : List Int) (hb : Bytes bs) (hl : bs.length < 9223372036854775807) : ∀ (d i : Nat), i + d = 10 → i ≤ bs.length → Ev (fun k => massifref1_Long.l0 k bs (i : Int)) (longF d i (valB (bs.take i)) (bs.drop i))
  | 0, i, hi, hil => by
    have h10 : i = 10 := by omega
    have j : Ev (fun k => massifref1_Long.j1 k bs (i : Int)) (0, 0, 10) := Ev.step (f := fun _ => some (0, 0, 10)) (fun k => by simp only [massifref1_Long.j1]; rw [if_pos (by omega)]) (Ev.now _)
    rw [show longF 0 i (valB (bs.take i)) (bs.drop i) = (0, 0, 10) from rfl]
    by_cases c : i < bs.length
    · exact Ev.step (fun k => by simp only [massifref1_Long.l0]; rw [if_pos (by omega), if_neg (by omega)]) j
    · exact Ev.step (fun k => by simp only [massifref1_Long.l0]; rw [if_neg (by omega)]) j
  | d + 1, i, hi, hil => by
    by_cases c : i < bs.length
    · have ih := long1_loop bs hb hl d (i + 1) (by omega) (by omega)
      have hbi := hb _ (List.getElem_mem c)
      have r1 : rd bs (i : Int) = bs[i] := by simp [rd, List.getD_eq_getElem?_getD, List.getElem?_eq_getElem c]
      have e1 : wrap64 ((i : Int) + 1) = ((i + 1 : Nat) : Int) := by rw [i64_of _ (by omega) (by omega)]; omega
      have hv := valB_take bs i c
      rw [List.drop_eq_getElem_cons c]
      by_cases c8 : bs[i] ≥ 128
      · have e : longF (d + 1) i (valB (bs.take i)) (bs[i] :: bs.drop (i + 1)) = longF d (i + 1) (valB (bs.take (i + 1))) (bs.drop (i + 1)) := by
          rw [longF]
          by_cases c9 : i = 9
          · have hd : d = 0 := by omega
            subst hd
            rw [if_pos ⟨c9, by omega⟩]
            rfl
          · rw [if_neg (by omega), if_neg (by omega), hv]
        rw [e]
        exact Ev.step (fun k => by simp only [massifref1_Long.l0]; rw [if_pos (by omega), if_pos (by omega), if_pos (by omega), r1, if_pos c8, e1]) ih
      · have hto : ∀ r, Ev (fun k => massifref1_Long.j1 k bs (i : Int)) r → Ev (fun k => massifref1_Long.l0 k bs (i : Int)) r := fun r hr =>
          Ev.step (fun k => by simp only [massifref1_Long.l0]; rw [if_pos (by omega), if_pos (by omega), if_pos (by omega), r1, if_neg c8]) hr
        refine hto _ ?_
        have hdown : ¬ (i = 9 ∧ bs[i] > 1) → Ev (fun k => massifref1_Long.l1 k bs (i : Int) 0 (i : Int)) (((valB (bs.take (i + 1)) : Nat) : Int), ((i + 1 : Nat) : Int), 0) := by
          intro h9
          have hlt := valB_lt (bs.take i)
          rw [List.length_take, Nat.min_eq_left (by omega)] at hlt
          have hm : valB (bs.take (i + 1)) < 18446744073709551616 := by
            by_cases c9 : i = 9
            · have : (bs[i]).toNat % 128 ≤ 1 := by omega
              have h2 : (bs[i]).toNat % 128 * 2 ^ (7 * i) ≤ 1 * 2 ^ (7 * i) := Nat.mul_le_mul_right _ this
              rw [hv]
              subst c9
              omega
            · have h3 := valB_lt (bs.take (i + 1))
              rw [List.length_take, Nat.min_eq_left (by omega)] at h3
              have h4 : 2 ^ (7 * (i + 1)) ≤ 2 ^ 63 := Nat.pow_le_pow_right (by omega) (by omega)
              omega
          have := long1_down bs hb i (by omega) (i + 1) 0 (by omega) (by rw [Nat.zero_mul, Nat.zero_add]; exact hm) (by omega)
          rw [Nat.zero_mul, Nat.zero_add, show ((i + 1 : Nat) : Int) - 1 = (i : Int) by omega] at this
          exact this
        have tail : ∀ bb : Bool, (bb = true ↔ i = 9 ∧ bs[i] > 1) → Ev (fun k => massifref1_Long.j2 k bs (i : Int) bb) (longF (d + 1) i (valB (bs.take i)) (bs[i] :: bs.drop (i + 1))) := by
          intro bb hbb
          rw [longF]
          cases bb with
          | true =>
            rw [if_pos (hbb.1 rfl)]
            exact Ev.step (f := fun _ => some (0, 0, 10)) (fun k => by simp only [massifref1_Long.j2]; rw [if_pos trivial]) (Ev.now _)
          | false =>
            have h9 : ¬ (i = 9 ∧ bs[i] > 1) := fun h => absurd (hbb.2 h) (by simp)
            rw [if_neg h9, if_pos (by omega)]
            have hd := hdown h9
            by_cases c0 : 0 < i
            · by_cases cz : bs[i] = 0
              · rw [if_pos ⟨c0, cz⟩]
                refine Ev.step (f := fun k => massifref1_Long.j3 k bs (i : Int) true) (fun k => by simp only [massifref1_Long.j2]; rw [if_neg (by simp), if_pos (by omega), if_pos (by omega), if_pos (by omega), r1, cz]; rfl) ?_
                exact Ev.step (f := fun _ => some (0, 0, 12)) (fun k => by simp only [massifref1_Long.j3]; rw [if_pos trivial]) (Ev.now _)
              · rw [if_neg (fun h => cz h.2), ← hv]
                refine Ev.step (f := fun k => massifref1_Long.j3 k bs (i : Int) false) (fun k => by simp only [massifref1_Long.j2]; rw [if_neg (by simp), if_pos (by omega), if_pos (by omega), if_pos (by omega), r1, show (bs[i] == 0) = false from beq_eq_false_iff_ne.2 cz]) ?_
                exact Ev.step (fun k => by simp only [massifref1_Long.j3]; rw [if_neg (by simp)]) hd
            · rw [if_neg (fun h => c0 h.1), ← hv]
              refine Ev.step (f := fun k => massifref1_Long.j3 k bs (i : Int) false) (fun k => by simp only [massifref1_Long.j2]; rw [if_neg (by simp), if_neg (by omega)]) ?_
              exact Ev.step (fun k => by simp only [massifref1_Long.j3]; rw [if_neg (by simp)]) hd
        by_cases c9 : i = 9
        · have t := tail (decide (bs[i] > 1)) (by simp [c9])
          have r9 : rd bs 9 = bs[i] := by rw [show (9 : Int) = (i : Int) by omega]; exact r1
          exact Ev.step (fun k => by simp only [massifref1_Long.j1]; rw [if_neg (by omega), if_neg (by omega), if_pos (by omega), if_pos (by omega), r9]) t
        · have t := tail false (by simp [c9])
          exact Ev.step (fun k => by simp only [massifref1_Long.j1]; rw [if_neg (by omega), if_neg (by omega), if_neg (by omega)]) t
    · rw [List.drop_of_length_le (by omega), longF]
      have j : Ev (fun k => massifref1_Long.j1 k bs (i : Int)) (0, 0, 11) := Ev.step (f := fun _ => some (0, 0, 11)) (fun k => by simp only [massifref1_Long.j1]; rw [if_neg (by omega), if_pos (by omega)]) (Ev.now _)
      exact Ev.step (fun k => by simp only [massifref1_Long.l0]; rw [if_neg (by omega)]) j
theorem long1_val (bs : List Int) (hb : Bytes bs) (hl : bs.length < 9223372036854775807) : Ev (fun k => massifref1_Long.f k bs) (longN bs) := by
  have := long1_loop bs hb hl 10 0 rfl (Nat.zero_le _)
  rw [List.drop_zero] at this
  exact this
theorem long1_calls (bs : List Int) (A : Option Addr) (c : Nat) (w : World) (hb : Bytes bs) (hl : bs.length < 9223372036854775807) (hc : bs.length ≤ c) (hC : Kd.C (Kd.int .u8) w A bs.length bs) :
    Calls Tryd.prog 88 #[.slice A bs.length c] w fun e w' => e = .returned (.tuple #[.int .u64 (longN bs).1, .int .i64 (longN bs).2.1, .int .i64 (longN bs).2.2]) ∧ Drawn0 w w' := by
  obtain ⟨k, hk⟩ := (long1_val bs hb hl).rounds
  exact massifref1_Long.calls k _ _ _ _ _ _ w hC hc hk
end Go.Proofs.YtefnonlhepekdaaDoor.M

set_option linter.unusedVariables false
set_option linter.unusedSimpArgs false
namespace Go.Proofs.YtefnonlhepekdaaDoor.M
open Go.RowKit Go.Proofs.YtefnonlhepekdaaDoorW.PrintWords Go.Proofs.YtefnonlhepekdaaDoorW.PrintLast Go.Proofs.YtefnonlhepekdaaDoorW.PrintMore Go.Proofs.YtefnonlhepekdaaDoor.Leaf

theorem long1_n (bs : List Int) (A : Option Addr) (n c : Nat) (w : World) (hb : Bytes bs) (hl : bs.length = n) (hn : n ≤ 1000000) (hc : n ≤ c) (hC : Kd.C (Kd.int .u8) w A n bs) :
    Calls Tryd.prog 88 #[.slice A n c] w fun e w' => e = .returned (.tuple #[.int .u64 (longN bs).1, .int .i64 (longN bs).2.1, .int .i64 (longN bs).2.2]) ∧ Drawn0 w w' := by
  subst hl
  exact long1_calls bs A c w hb (by omega) hc hC
theorem take_n (bs : List Int) (q n : Nat) (A : Option Addr) (c : Nat) (w : World) (hq : q ≤ 1000000) (hl : bs.length = n) (hn : n ≤ 1000000) (hc : n ≤ c) (hC : Kd.C (Kd.int .u8) w A n bs) :
    Calls Tryd.prog 89 #[.slice A n c, .int .i64 q] w fun e w' => ∃ v, e = .returned (.tuple #[v, .int .i64 (takeAns bs q).2]) ∧ kH.R 63 w' w.heap.size (fun _ => True) v (takeAns bs q).1 ∧ Below w.heap.size w w' := by
  subst hl
  exact take_calls bs q A c w hq (by omega) hc hC
/-- The bytes from the m-th on. -/
theorem C_from {w : World} {ad : Addr} {c m n : Nat} {xs : List Int} (h : Kd.C (Kd.int .u8) w (some ad) n xs) (hl : xs.length = n) (hm : m ≤ n) (hc : n ≤ c) : Kd.C (Kd.int .u8) w (if c = m then some ad else some (ad.add m)) (n - m) (xs.drop m) := by
  obtain ⟨g, hg, _⟩ := CG.ex h
  exact (CG.drop hg hl hm hc).here
theorem cell_new {w : World} {ad : Addr} {v : Value} (h : w.cell? ad = some v) (o : Obj) : (w.alloc o).cell? ad = some v := by
  have hlt : ad.block < w.heap.size := by
    refine Decidable.by_contra (fun hn => ?_)
    have hnone : w.heap[ad.block]? = none := Array.getElem?_eq_none (by omega)
    simp [World.cell?, hnone] at h
  exact (World.cell?_of_block ((bl_new w o).block _ hlt)).trans h
theorem wrap_at {k a : Nat} (h : a = 1 + k) (ha : a ≤ 1000000) : wrap64 (1 + (k : Int)) = (a : Int) := by rw [i64_of _ (by omega) (by omega)]; omega
theorem wrap_at2 {b k a : Nat} (h : a = b + k) (ha : a ≤ 1000000) : wrap64 ((b : Int) + (k : Int)) = (a : Int) := by rw [i64_of _ (by omega) (by omega)]; omega
theorem Dp.new (t : TypeId) (w : World) : Dp t w (w.alloc (.cells #[.int .u64 0, .int .u64 0, .slice none 0 0] t)) := ⟨bl_new w _, heap_new w _⟩
set_option maxHeartbeats 4000000 in
set_option maxRecDepth 100000 in
theorem ref7_Decode_head (bs : List Int) (A : Option Addr) (n c : Nat) (w : World) (hl : bs.length = n) (hn : n ≤ 1000000) (hc : n ≤ c) (hC : Kd.C (Kd.int .u8) w A n bs) (h : ∀ r, bs ≠ 77 :: r) :
    Calls Tryd.prog 45 #[.slice A n c] w (DecA 41 (decP bs) w) := by
  cases bs with
  | nil =>
    obtain rfl : n = 0 := hl.symm
    have HEnd := Aside0.mk (show decP [] = (noPr, 11) from rfl)
    clear hC h
    go_enter Tryd.func45, Tryd.ntmps45
    go_wp2_with fail
    (try simp only [Exit.inBlock, Exit.then])
    refine bodyPost_ret (results_ct rfl _ _ w.heap.size 41 #[.int .u64 0, .int .u64 0, .slice none 0 0] (0, 0) _ rfl (heap_new w _) Tryd.underlying41 rfl sizePf) rfl ?_
    unfold DecA
    rw [HEnd.out]
    exact ⟨.slice none 0 0, rfl, Kd.R_nil _ _ _ _ _, bl_new w _⟩
  | cons b r =>
    have hbk : b ≠ 77 := fun h9 => h r (by rw [h9])
    have HEnd := Aside0.mk (show decP (b :: r) = (noPr, 14) from if_pos hbk)
    obtain ⟨ad, rfl, hx⟩ := CG.cell0 (CG.of_C hC)
    have hx1 := cell_new hx (.cells #[.int .u64 0, .int .u64 0, .slice none 0 0] 41)
    obtain ⟨m, rfl⟩ : ∃ m, n = m + 1 := ⟨r.length, by simpa using hl.symm⟩
    have g1 : (b != 77) = true := by rw [bne_iff_ne]; exact hbk
    clear hC h hx hl
    go_enter Tryd.func45, Tryd.ntmps45
    go_wp2_with fail
    (try simp only [Exit.inBlock, Exit.then])
    refine bodyPost_ret (results_ct rfl _ _ w.heap.size 41 #[.int .u64 0, .int .u64 0, .slice none 0 0] (0, 0) _ rfl (heap_new w _) Tryd.underlying41 rfl sizePf) rfl ?_
    unfold DecA
    rw [HEnd.out]
    exact ⟨.slice none 0 0, rfl, Kd.R_nil _ _ _ _ _, bl_new w _⟩
set_option maxHeartbeats 4000000 in
set_option maxRecDepth 100000 in
theorem ref7_Decode_some (r : List Int) (A : Option Addr) (n c : Nat) (w : World) (hb : Bytes (77 :: r)) (hl : (77 :: r : List Int).length = n) (hn : n ≤ 1000000) (hc : n ≤ c) (hC : Kd.C (Kd.int .u8) w A n (77 :: r)) :
    Calls Tryd.prog 45 #[.slice A n c] w (DecA 41 (decP (77 :: r)) w) := by
  obtain ⟨ad, rfl, hx⟩ := CG.cell0 (CG.of_C hC)
  have hx1 := cell_new hx (.cells #[.int .u64 0, .int .u64 0, .slice none 0 0] 41)
  have hbr : Bytes r := fun x hx => hb x (List.mem_cons_of_mem _ hx)
  have hn0 : 1 ≤ n := by rw [← hl]; simp
  obtain ⟨ad1, hif1⟩ : ∃ ad1 : Addr, (if c = 1 then some ad else some ⟨ad.block, ad.off + 1, none⟩) = some ad1 := by split <;> exact ⟨_, rfl⟩
  have hC1 : Kd.C (Kd.int .u8) w (if c = 1 then some ad else some ⟨ad.block, ad.off + 1, none⟩) (n - 1) r := C_from (m := 1) hC hl hn0 hc
  rw [hif1] at hC1
  have hl1 : r.length = n - 1 := by rw [← hl]; rfl
  have hcc : n - 1 ≤ c - 1 := by omega
  have hnn : n - 1 ≤ 1000000 := by omega
  have HC := Aside0.mk hC
  have HLen := Aside0.mk hl
  have HBy := Aside0.mk hbr
  have hL1 := long1_n r (some ad1) (n - 1) (c - 1) _ hbr hl1 hnn hcc (Kd.C_below hC1 (bl_new w (.cells #[.int .u64 0, .int .u64 0, .slice none 0 0] 41)))
  have hdec : decP (77 :: r) = if (numR r).2.2 ≠ 0 then (noPr, (numR r).2.2) else (if 4611686018427387904 < (numR r).1 then (noPr, 30) else if (numR (numR r).2.1).2.2 ≠ 0 then (noPr, (numR (numR r).2.1).2.2) else decP2 (numR r).1 (numR (numR r).2.1).1 (numR (numR r).2.1).2.1) := by
    rw [decP, if_neg (by simp)]
  by_cases he : (longN r).2.2 = 0
  · obtain ⟨x, rest, x1, x2, x3⟩ := longN_ok hbr he
    rw [x2] at hL1
    have hnum : numR r = (x, rest, 0) := by rw [x3]; exact numR_short x rest x1
    rw [hnum] at hdec
    simp only at hdec
    rw [if_neg (by simp)] at hdec
    obtain ⟨k1, hk1⟩ : ∃ k1, k1 = (shortI x).length := ⟨_, rfl⟩
    rw [← hk1] at hL1
    obtain ⟨at1, hat1⟩ : ∃ at1, at1 = 1 + k1 := ⟨_, rfl⟩
    have hln : n = at1 + rest.length := by rw [← hl, x3, List.length_cons, List.length_append]; omega
    have hle1 : at1 ≤ n := by omega
    have hI1 : (at1 : Int) ≤ (c : Int) := Int.ofNat_le.2 (Nat.le_trans hle1 hc)
    obtain ⟨ad2, hif2⟩ : ∃ ad2 : Addr, (if c = at1 then some ad else some (ad.add at1)) = some ad2 := by split <;> exact ⟨_, rfl⟩
    have hC2 := C_from (m := at1) hC hl hle1 hc
    rw [hif2, show (77 :: r : List Int).drop at1 = rest by rw [hat1, Nat.add_comm, List.drop_succ_cons, x3, hk1, List.drop_left]] at hC2
    have hl2 : rest.length = n - at1 := by omega
    have hcc2 : n - at1 ≤ c - at1 := by omega
    have hnn2 : n - at1 ≤ 1000000 := by omega
    have hbr2 : Bytes rest := fun y hy => hbr y (by rw [x3]; exact List.mem_append_right _ hy)
    have HL2 := Aside0.mk (fun W (hW : Below w.heap.size w W) => long1_n rest (some ad2) (n - at1) (c - at1) W hbr2 hl2 hnn2 hcc2 (Kd.C_below hC2 hW))
    have HL1 := Aside0.mk hL1
    have HDec := Aside0.mk hdec
    have HX := Aside0.mk x1
    have HK1 := Aside0.mk (show (at1 = 1 + k1 ∧ k1 = (shortI x).length) ∧ r = shortI x ++ rest ∧ n = at1 + rest.length from ⟨⟨hat1, hk1⟩, x3, hln⟩)
    have HBy2 := Aside0.mk hbr2
    have hw1 : wrap64 (1 + (k1 : Int)) = (at1 : Int) := wrap_at hat1 (Nat.le_trans hle1 hn)
    clear hb hbr hC hC1 hl hl1 hnn hcc hL1 he x2 x3 hnum hk1 hat1 hln hC2 hl2 hcc2 hnn2 hbr2 hdec x1 hx HBy
    go_enter Tryd.func45, Tryd.ntmps45
    go_wp2_with fail
    refine HL1.out.mono ?_
    rintro e w1 ⟨rfl, hd⟩
    have HD1 := Aside0.mk ((Dp.new 41 w).below hd.below)
    clear hd hx1 HL1
    have r0 := (blk_cell HD1.out.res 0).trans (rfl : _ = some (Value.int .u64 0))
    have r1 := (blk_cell HD1.out.res 1).trans (rfl : _ = some (Value.int .u64 0))
    have r2 := (blk_cell HD1.out.res 2).trans (rfl : _ = some (Value.slice none 0 0))
    have q0 := blk_frozen HD1.out.res 0
    have q1 := blk_frozen HD1.out.res 1
    have q2 := blk_frozen HD1.out.res 2
    by_cases hbig : 4611686018427387904 < x
    · have hd := HDec.out
      rw [if_pos hbig] at hd
      have HEnd := Aside0.mk hd
      have hbig2 : (4611686018427387904 : Int) < (x : Int) := by omega
      clear hd hbig
      go_wp2_with fail
      (try simp only [Exit.inBlock, Exit.then])
      refine bodyPost_ret (results_ct rfl _ _ w.heap.size 41 #[.int .u64 0, .int .u64 0, .slice none 0 0] (0, 0) _ rfl (blk_set3 HD1.out.res rfl (.int .u64 0) (.int .u64 0) (.slice none 0 0)) Tryd.underlying41 rfl sizePf) rfl ?_
      unfold DecA
      rw [HEnd.out]
      exact ⟨.slice none 0 0, rfl, Kd.R_nil _ _ _ _ _, HD1.out.end3 (Frm.set3 _ _ _ _ _)⟩
    · have hbig2 : ¬ ((4611686018427387904 : Int) < (x : Int)) := by omega
      have HBig := Aside0.mk hbig
      clear hbig
      go_wp2_with fail
      have hL2 := HL2.out w1 HD1.out.be
      by_cases he : (longN rest).2.2 = 0
      · obtain ⟨y, rest2, y1, y2, y3⟩ := longN_ok HBy2.out he
        rw [y2] at hL2
        have hnum : numR rest = (y, rest2, 0) := by rw [y3]; exact numR_short y rest2 y1
        have hdec := HDec.out
        rw [if_neg HBig.out] at hdec
        rw [hnum] at hdec
        simp only at hdec
        rw [if_neg (by simp)] at hdec
        obtain ⟨k2, hk2⟩ : ∃ k2, k2 = (shortI y).length := ⟨_, rfl⟩
        rw [← hk2] at hL2
        obtain ⟨at2, hat2⟩ : ∃ at2, at2 = at1 + k2 := ⟨_, rfl⟩
        have hln : n = at2 + rest2.length := by have := HK1.out.2.2; rw [this, y3, List.length_append]; omega
        have hle2 : at2 ≤ n := by omega
        have hI2 : (at2 : Int) ≤ (c : Int) := Int.ofNat_le.2 (Nat.le_trans hle2 hc)
        obtain ⟨ad3, hif3⟩ : ∃ ad3 : Addr, (if c = at2 then some ad else some (ad.add at2)) = some ad3 := by split <;> exact ⟨_, rfl⟩
        have hC3 := C_from (m := at2) HC.out HLen.out hle2 hc
        rw [hif3, show (77 :: r : List Int).drop at2 = rest2 by rw [hat2, HK1.out.1.1, show 1 + k1 + k2 = k1 + k2 + 1 by omega, List.drop_succ_cons, HK1.out.2.1, ← List.drop_drop, HK1.out.1.2, List.drop_left, y3, hk2, List.drop_left]] at hC3
        have hl3 : rest2.length = n - at2 := by omega
        have hcc3 : n - at2 ≤ c - at2 := by omega
        have hnn3 : n - at2 ≤ 1000000 := by omega
        have HTk := Aside0.mk (fun W (hW : Below w.heap.size w W) q (hq : q ≤ 1000000) => take_n rest2 q (n - at2) (some ad3) (c - at2) W hq hl3 hnn3 hcc3 (Kd.C_below hC3 hW))
        have HL := Aside0.mk hL2
        have HDc := Aside0.mk hdec
        have hw2 : wrap64 ((at1 : Int) + (k2 : Int)) = (at2 : Int) := wrap_at2 hat2 (Nat.le_trans hle2 hn)
        clear hL2 he y2 y3 hnum hk2 hat2 hln hC3 hl3 hcc3 hnn3 hdec r0 r1 r2 q0 q1 q2
        refine HL.out.mono ?_
        rintro e w2 ⟨rfl, hd⟩
        have HD2 := Aside0.mk (HD1.out.below hd.below)
        clear hd HL
        go_wp2_with fail
        refine (wants_Encode x y 0 (.slice none 0 0) _).mono ?_
        rintro e w3 ⟨rfl, hb⟩
        have HD3 := Aside0.mk (HD2.out.below hb)
        clear hb HD1 HD2
        have r0 := (blk_cell HD3.out.res 0).trans (rfl : _ = some (Value.int .u64 0))
        have r1 := (blk_cell HD3.out.res 1).trans (rfl : _ = some (Value.int .u64 0))
        have r2 := (blk_cell HD3.out.res 2).trans (rfl : _ = some (Value.slice none 0 0))
        have q0 := blk_frozen HD3.out.res 0
        have q1 := blk_frozen HD3.out.res 1
        have q2 := blk_frozen HD3.out.res 2
        have hqlen := proofAns_len y x
        have hans : decP (77 :: r) = if (proofAns y x).2 ≠ 0 then (noPr, (proofAns y x).2) else tailP x y (proofAns y x).1.length rest2 := by
          rw [HDc.out]
          have hb := HBig.out
          unfold decP2 proofAns
          rw [if_neg hb]
          by_cases h : x ≤ y
          · rw [if_pos h, if_pos h]
            rfl
          · rw [if_neg h, if_neg h]
            rfl
        generalize (proofAns y x).1.length = q at *
        generalize (proofAns y x).2 = e3 at *
        by_cases h3 : e3 = 0
        · subst h3
          rw [if_neg (by simp)] at hans
          have HAns := Aside0.mk hans
          have hTk := HTk.out w3 HD3.out.be q (by omega)
          have hW3 := Aside0.mk HD3.out.be.size
          have HTK := Aside0.mk hTk
          clear hTk hans
          go_wp2_with fail
          refine HTK.out.mono ?_
          rintro e w4 ⟨v, rfl, hr4, hb4⟩
          obtain ⟨A4, n4, c4, e9⟩ : ∃ A m c, v = .slice A m c := by obtain ⟨A, c, h⟩ := Kd.R_slice hr4; exact ⟨A, _, c, h⟩
          subst e9
          have HD4 := Aside0.mk (HD3.out.below hb4)
          have hd4 := HAns.out
          unfold tailP at hd4
          have HH4 := Aside0.mk (Kd.R_lower hr4 hW3.out)
          have HO4 := Aside0.mk (show ∀ k, (Value.slice A4 n4 c4).ownBlock = some k → k ≠ w.heap.size from fun k hk h => by
            have := Kd.R_base hr4 k hk
            have := blk_lt HD3.out.res
            omega)
          generalize (takeAns rest2 q).1 = hs at *
          generalize (takeAns rest2 q).2 = e4 at *
          clear hr4 hb4 HTK HAns r0 r1 r2 q0 q1 q2
          have r0 := (blk_cell HD4.out.res 0).trans (rfl : _ = some (Value.int .u64 0))
          have r1 := (blk_cell HD4.out.res 1).trans (rfl : _ = some (Value.int .u64 0))
          have r2 := (blk_cell HD4.out.res 2).trans (rfl : _ = some (Value.slice none 0 0))
          have q0 := blk_frozen HD4.out.res 0
          have q1 := blk_frozen HD4.out.res 1
          have q2 := blk_frozen HD4.out.res 2
          by_cases h4 : e4 = 0
          · rw [if_neg (fun h => h h4)] at hd4
            subst h4
            have HEnd := Aside0.mk hd4
            clear hd4
            go_wp2_with fail
            (try simp only [Exit.inBlock, Exit.then])
            refine bodyPost_ret (results_ct rfl _ _ w.heap.size 41 #[.int .u64 x, .int .u64 y, .slice A4 n4 c4] (0, 0) _ rfl (blk_set3 HD4.out.res rfl (.int .u64 x) (.int .u64 y) (.slice A4 n4 c4)) Tryd.underlying41 rfl sizePf) rfl ?_
            unfold DecA
            rw [HEnd.out]
            exact ⟨.slice A4 n4 c4, rfl, R_frm flat_kH HH4.out (Frm.set3 _ _ _ _ _) (fun k hk h => HO4.out k hk h), HD4.out.end3 (Frm.set3 _ _ _ _ _)⟩
          · rw [if_pos h4] at hd4
            have HEnd := Aside0.mk hd4
            clear hd4
            go_wp2_with fail
            (try simp only [Exit.inBlock, Exit.then])
            refine bodyPost_ret (results_ct rfl _ _ w.heap.size 41 #[.int .u64 0, .int .u64 0, .slice none 0 0] (0, 0) _ rfl (blk_set3 HD4.out.res rfl (.int .u64 0) (.int .u64 0) (.slice none 0 0)) Tryd.underlying41 rfl sizePf) rfl ?_
            unfold DecA
            rw [HEnd.out]
            exact ⟨.slice none 0 0, rfl, Kd.R_nil _ _ _ _ _, HD4.out.end3 (Frm.set3 _ _ _ _ _)⟩
        · rw [if_pos h3] at hans
          have HEnd := Aside0.mk hans
          clear hans
          go_wp2_with fail
          (try simp only [Exit.inBlock, Exit.then])
          refine bodyPost_ret (results_ct rfl _ _ w.heap.size 41 #[.int .u64 0, .int .u64 0, .slice none 0 0] (0, 0) _ rfl (blk_set3 HD3.out.res rfl (.int .u64 0) (.int .u64 0) (.slice none 0 0)) Tryd.underlying41 rfl sizePf) rfl ?_
          unfold DecA
          rw [HEnd.out]
          exact ⟨.slice none 0 0, rfl, Kd.R_nil _ _ _ _ _, HD3.out.end3 (Frm.set3 _ _ _ _ _)⟩
      · have hdec := HDec.out
        have hnum : numR rest = (0, rest, (longN rest).2.2) := by unfold numR; rw [longN_err he]; rfl
        rw [if_neg HBig.out] at hdec
        rw [hnum] at hdec
        simp only at hdec
        rw [if_pos he] at hdec
        rw [longN_err he] at hL2
        generalize (longN rest).2.2 = e2 at *
        have HEnd := Aside0.mk hdec
        have HL := Aside0.mk hL2
        clear hL2 hdec hnum r0 r1 r2 q0 q1 q2
        refine HL.out.mono ?_
        rintro e w2 ⟨rfl, hd⟩
        have HD2 := Aside0.mk (HD1.out.below hd.below)
        clear hd HL HD1
        have r0 := (blk_cell HD2.out.res 0).trans (rfl : _ = some (Value.int .u64 0))
        have r1 := (blk_cell HD2.out.res 1).trans (rfl : _ = some (Value.int .u64 0))
        have r2 := (blk_cell HD2.out.res 2).trans (rfl : _ = some (Value.slice none 0 0))
        have q0 := blk_frozen HD2.out.res 0
        have q1 := blk_frozen HD2.out.res 1
        have q2 := blk_frozen HD2.out.res 2
        go_wp2_with fail
        (try simp only [Exit.inBlock, Exit.then])
        refine bodyPost_ret (results_ct rfl _ _ w.heap.size 41 #[.int .u64 0, .int .u64 0, .slice none 0 0] (0, 0) _ rfl (blk_set3 HD2.out.res rfl (.int .u64 0) (.int .u64 0) (.slice none 0 0)) Tryd.underlying41 rfl sizePf) rfl ?_
        unfold DecA
        rw [HEnd.out]
        exact ⟨.slice none 0 0, rfl, Kd.R_nil _ _ _ _ _, HD2.out.end3 (Frm.set3 _ _ _ _ _)⟩
  · have hnum : numR r = (0, r, (longN r).2.2) := by unfold numR; rw [longN_err he]; rfl
    rw [hnum] at hdec
    simp only at hdec
    rw [if_pos he] at hdec
    rw [longN_err he] at hL1
    generalize (longN r).2.2 = e1 at *
    have HEnd := Aside0.mk hdec
    have HL1 := Aside0.mk hL1
    clear hb hbr hC hC1 hl hl1 hnn hcc hL1 hnum hdec hx
    go_enter Tryd.func45, Tryd.ntmps45
    go_wp2_with fail
    refine HL1.out.mono ?_
    rintro e w1 ⟨rfl, hd⟩
    have HD1 := Aside0.mk ((Dp.new 41 w).below hd.below)
    clear hd hx1 HL1
    have r0 := (blk_cell HD1.out.res 0).trans (rfl : _ = some (Value.int .u64 0))
    have r1 := (blk_cell HD1.out.res 1).trans (rfl : _ = some (Value.int .u64 0))
    have r2 := (blk_cell HD1.out.res 2).trans (rfl : _ = some (Value.slice none 0 0))
    have q0 := blk_frozen HD1.out.res 0
    have q1 := blk_frozen HD1.out.res 1
    have q2 := blk_frozen HD1.out.res 2
    go_wp2_with fail
    (try simp only [Exit.inBlock, Exit.then])
    refine bodyPost_ret (results_ct rfl _ _ w.heap.size 41 #[.int .u64 0, .int .u64 0, .slice none 0 0] (0, 0) _ rfl (blk_set3 HD1.out.res rfl (.int .u64 0) (.int .u64 0) (.slice none 0 0)) Tryd.underlying41 rfl sizePf) rfl ?_
    unfold DecA
    rw [HEnd.out]
    exact ⟨.slice none 0 0, rfl, Kd.R_nil _ _ _ _ _, HD1.out.end3 (Frm.set3 _ _ _ _ _)⟩
theorem ref7_Decode (bs : List Int) (A : Option Addr) (n c : Nat) (w : World) (hb : Bytes bs) (hl : bs.length = n) (hn : n ≤ 1000000) (hc : n ≤ c) (hC : Kd.C (Kd.int .u8) w A n bs) :
    Calls Tryd.prog 45 #[.slice A n c] w (DecA 41 (decP bs) w) := by
  by_cases h : ∃ r, bs = 77 :: r
  · obtain ⟨r, rfl⟩ := h
    exact ref7_Decode_some r A n c w hb hl hn hc hC
  · exact ref7_Decode_head bs A n c w hl hn hc hC (fun r hr => h ⟨r, hr⟩)
end Go.Proofs.YtefnonlhepekdaaDoor.M
