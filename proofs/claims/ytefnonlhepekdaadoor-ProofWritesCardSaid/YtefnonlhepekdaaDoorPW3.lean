/- Four rows of bytes of one's own, each apart from the others; what is no row of bytes stays as it was. massiflaw7.ProofWrites returns true: the walk. -/
import Derived.Test.YtefnonlhepekdaaDoorPW1
import Derived.Test.YtefnonlhepekdaaDoorPW2
import Derived.Deep.RegionHeld3
import Derived.BigQuiet
set_option linter.unusedVariables false
set_option linter.unusedSimpArgs false
set_option linter.unusedVariables false
set_option linter.unusedSimpArgs false
namespace Go.Proofs.YtefnonlhepekdaaDoor.M
open Go.RowKit Go.Proofs.YtefnonlhepekdaaDoorW.PrintWords Go.Proofs.YtefnonlhepekdaaDoorW.PrintLast Go.Proofs.YtefnonlhepekdaaDoorW.PrintMore Go.Proofs.YtefnonlhepekdaaDoor.Leaf

def fam4 {α : Type} (a b c d : α) : Nat → α
  | 0 => a
  | 1 => b
  | 2 => c
  | _ => d
def upd {α : Type} (f : Nat → α) (m : Nat) (x : α) : Nat → α := fun i => if i = m then x else f i
theorem upd_same {α : Type} (f : Nat → α) (m : Nat) (x : α) : upd f m x m = x := if_pos rfl
theorem upd_other {α : Type} (f : Nat → α) {m i : Nat} (x : α) (h : i ≠ m) : upd f m x i = f i := if_neg h
/-- What is no block of bytes is as it was. -/
def KeepT (w1 w : World) : Prop := ∀ (g : Nat) (cs : Array Value) (t : TypeId) (fz : Nat × Nat), w1.heap[g]? = some (.cells cs t fz) → t ≠ 5 → w.heap[g]? = some (.cells cs t fz)
theorem KeepT.refl (w : World) : KeepT w w := fun _ _ _ _ h _ => h
theorem KeepT.below {w1 w w2 : World} (h : KeepT w1 w) (hb : Below w.heap.size w w2) : KeepT w1 w2 := fun g cs t fz hg ht => by
  have := h g cs t fz hg ht
  exact (hb.block _ (blk_lt this)).trans this
theorem KeepT.frm {w1 w w2 : World} {base : Nat} {v : Value} {xs : List Int} (h : KeepT w1 w) (hr : (Kd.int .u8).R 5 w base (fun _ => True) v xs) (hf : Frm (fun k => some k = v.ownBlock) w w2) : KeepT w1 w2 := fun g cs t fz hg ht => by
  have h1 := h g cs t fz hg ht
  refine (hf.block _ (blk_lt h1) (fun he => ?_)).trans h1
  obtain ⟨c1, e1⟩ := Kd.R_typed hr g he.symm
  rw [e1] at h1
  injection h1 with h1
  injection h1 with _ h1
  exact ht h1.symm
theorem R_keepT {α : Type} {d : Kd α} (hd : Flat d) {e : Nat} (he : e ≠ 5) {w1 w : World} {base : Nat} {v : Value} {xs : List α} (h : d.R e w1 base (fun _ => True) v xs) (hk : KeepT w1 w) : d.R e w base (fun _ => True) v xs :=
  Kd.R_mono (Kd.R_step (R_self hd h) (fun k hko hkl => by
    obtain ⟨c1, e1⟩ := Kd.R_typed h k hko.symm
    rw [hk k _ _ _ e1 he, e1])) (fun _ _ => trivial)
structure Fam (w0 w : World) (As : Nat → Option Addr) (ns cs : Nat → Nat) (D : Nat → List Int) : Prop where
  R : ∀ j, j < 4 → (Kd.int .u8).R 5 w w0.heap.size (fun _ => True) (.slice (As j) (ns j) (cs j)) (D j)
  ap : ∀ i j, i < 4 → j < 4 → i ≠ j → Apart (.slice (As i) (ns i) (cs i)) (.slice (As j) (ns j) (cs j))
theorem Fam.below {w0 w w1 : World} {As : Nat → Option Addr} {ns cs : Nat → Nat} {D : Nat → List Int} (h : Fam w0 w As ns cs D) (hb : Below w.heap.size w w1) : Fam w0 w1 As ns cs D := ⟨fun j hj => Kd.R_below (h.R j hj) hb, h.ap⟩
theorem Fam.congr {w0 w : World} {As : Nat → Option Addr} {ns cs : Nat → Nat} {D D' : Nat → List Int} (h : Fam w0 w As ns cs D) (e : ∀ j, j < 4 → D j = D' j) : Fam w0 w As ns cs D' := ⟨fun j hj => e j hj ▸ h.R j hj, h.ap⟩
theorem Fam.set {w0 w : World} {As : Nat → Option Addr} {ns cs : Nat → Nat} {D : Nat → List Int} (h : Fam w0 w As ns cs D) {m g : Nat} (hm : m < 4) (hg : As m = some ⟨g, 0, none⟩) (j : Nat) (hj : j < ns m) (x : Int) :
    Fam w0 (w.setCell ⟨g, j, none⟩ (.int .u8 x)) As ns cs (upd D m ((D m).set j x)) := by
  refine ⟨fun i hi => ?_, h.ap⟩
  by_cases e : i = m
  · subst e
    rw [upd_same]
    have hr := h.R i hi
    rw [hg] at hr ⊢
    exact (row_round hr j hj).2.2 x
  · rw [upd_other D _ e]
    refine R_frm (flat_int .u8) (h.R i hi) (Frm.of_set w ⟨g, j, none⟩ (.int .u8 x)) (fun k hk hs => ?_)
    have hs : k = g := hs
    subst hs
    exact h.ap i m hi hm e k hk (by rw [hg]; simp [Value.ownBlock])
theorem Fam.app {w0 w w1 : World} {As : Nat → Option Addr} {ns cs : Nat → Nat} {D : Nat → List Int} (h : Fam w0 w As ns cs D) {m : Nat} (hm : m < 4) {A1 : Option Addr} {n1 c1 : Nat} {P : List Int}
    (hr : (Kd.int .u8).R 5 w1 w0.heap.size (fun _ => True) (.slice A1 n1 c1) P) (hf : Frm (fun k => some k = (Value.slice (As m) (ns m) (cs m)).ownBlock) w w1)
    (ha : (Value.slice A1 n1 c1).ownBlock = (Value.slice (As m) (ns m) (cs m)).ownBlock ∨ ∃ b, (Value.slice A1 n1 c1).ownBlock = some b ∧ w.heap.size ≤ b) :
    Fam w0 w1 (upd As m A1) (upd ns m n1) (upd cs m c1) (upd D m P) := by
  have hap : ∀ i, i < 4 → i ≠ m → Apart (.slice (As i) (ns i) (cs i)) (.slice A1 n1 c1) := fun i hi he => apart_step (h.ap i m hi hm he) (Kd.R_lt (h.R i hi)) ha
  refine ⟨fun i hi => ?_, fun i j hi hj hij => ?_⟩
  · by_cases e : i = m
    · subst e
      rw [upd_same, upd_same, upd_same, upd_same]
      exact hr
    · rw [upd_other _ _ e, upd_other _ _ e, upd_other _ _ e, upd_other _ _ e]
      exact R_frm (flat_int .u8) (h.R i hi) hf (fun k hk hs => h.ap i m hi hm e k hk hs.symm)
  · by_cases e : i = m
    · subst e
      rw [upd_same, upd_same, upd_same, upd_other _ _ (fun h => hij h.symm), upd_other _ _ (fun h => hij h.symm), upd_other _ _ (fun h => hij h.symm)]
      exact (hap j hj (fun h => hij h.symm)).symm
    · by_cases e2 : j = m
      · subst e2
        rw [upd_same, upd_same, upd_same, upd_other _ _ e, upd_other _ _ e, upd_other _ _ e]
        exact hap i hi e
      · rw [upd_other _ _ e, upd_other _ _ e, upd_other _ _ e, upd_other _ _ e2, upd_other _ _ e2, upd_other _ _ e2]
        exact h.ap i j hi hj hij
theorem Fam.setT {w0 w : World} {As : Nat → Option Addr} {ns cs : Nat → Nat} {D : Nat → List Int} (h : Fam w0 w As ns cs D) {g : Nat} {c : Array Value} {t : TypeId} (hg : w.heap[g]? = some (.cells c t (0, 0))) (ht : 5 ≠ t) (o : Nat) (v : Value) : Fam w0 (w.setCell ⟨g, o, none⟩ v) As ns cs D :=
  ⟨fun j hj => Kd.R_set (h.R j hj) hg (fun q hq => by
    rcases List.mem_cons.1 hq with h | h
    · rw [h]; exact ht
    · have h : q ∈ ([] : List Nat) := h
      cases h) o v, h.ap⟩
theorem KeepT.setNew {w1 w : World} (h : KeepT w1 w) {g : Nat} (hg : w1.heap.size ≤ g) (o : Nat) (v : Value) : KeepT w1 (w.setCell ⟨g, o, none⟩ v) := fun k cs t fz hk ht => by
  have hlt := blk_lt hk
  exact (Below.heap_setCell w ⟨g, o, none⟩ v k (by show k ≠ g; omega)).trans (h k cs t fz hk ht)
theorem Frm.own2 {w w1 w2 : World} {u v : Value} (h : Frm (fun k => some k = u.ownBlock) w w1) (ha : v.ownBlock = u.ownBlock ∨ ∃ b, v.ownBlock = some b ∧ w.heap.size ≤ b) (k : Frm (fun k => some k = v.ownBlock) w1 w2) : Frm (fun k => some k = u.ownBlock) w w2 :=
  h.trans k (fun i hi hs => by
    rcases ha with ha | ⟨b, ha, hb⟩
    · rw [ha] at hs; exact hs
    · rw [ha] at hs; injection hs with hs; omega)
theorem own_via {w w1 : World} {u v x : Value} (hs : w.heap.size ≤ w1.heap.size) (ha : v.ownBlock = u.ownBlock ∨ ∃ b, v.ownBlock = some b ∧ w.heap.size ≤ b) (hb : x.ownBlock = v.ownBlock ∨ ∃ b, x.ownBlock = some b ∧ w1.heap.size ≤ b) :
    x.ownBlock = u.ownBlock ∨ ∃ b, x.ownBlock = some b ∧ w.heap.size ≤ b := by
  rcases hb with hb | ⟨b, hb, hc⟩
  · rcases ha with ha | ⟨b, ha, hc⟩
    · exact .inl (hb.trans ha)
    · exact .inr ⟨b, hb.trans ha, hc⟩
  · exact .inr ⟨b, hb, Nat.le_trans hs hc⟩
theorem rep_at {k : IntKind} {e : Nat} {w : World} {base : Nat} {A : Option Addr} {m c n : Nat} {x : Int} (h : Kd.R (Kd.int k) e w base (fun _ => True) (.slice A m c) (List.replicate n x)) (j : Nat) (hj : j < n) : ∃ ad : Addr, A = some ad ∧ w.cell? (ad.add j) = some (.int k x) := by
  obtain ⟨_, _, hC⟩ := Kd.R_reads' h
  obtain ⟨ad, ea, hx⟩ := Kd.at_int hC (j : Int) (by omega) (by rw [List.length_replicate]; omega)
  rw [Int.toNat_natCast] at hx
  refine ⟨ad, ea, ?_⟩
  rw [show rd (List.replicate n x) (j : Int) = x by simp [rd, List.getD_eq_getElem?_getD, List.getElem?_replicate, hj]] at hx
  exact hx
/-- The array of the long rows: its first m cells. -/
def Lng (w : World) (g m : Nat) (As : Nat → Option Addr) (ns cs : Nat → Nat) (lr : Array Value) : Prop :=
  w.heap[g]? = some (.cells lr 49 (0, 0)) ∧ lr.size = 4 ∧ ∀ j, j < m → lr[j]? = some (.slice (As j) (ns j) (cs j))
theorem Lng.next {w : World} {g m : Nat} {As : Nat → Option Addr} {ns cs : Nat → Nat} {lr : Array Value} (h : Lng w g m As ns cs lr) (hm : m < 4) (A : Option Addr) (n c : Nat) :
    Lng (w.setCell ⟨g, m, none⟩ (.slice A n c)) g (m + 1) (upd As m A) (upd ns m n) (upd cs m c) (lr.setIfInBounds m (.slice A n c)) := by
  obtain ⟨h1, h2, h3⟩ := h
  refine ⟨blk_set h1 m (.slice A n c), by simp [h2], fun j hj => ?_⟩
  by_cases e : j = m
  · subst e
    rw [upd_same, upd_same, upd_same]
    simp [h2, hm]
  · rw [upd_other _ _ e, upd_other _ _ e, upd_other _ _ e, Array.getElem?_setIfInBounds_ne (fun h => e h.symm)]
    exact h3 j (by omega)
theorem Lng.zero {w : World} {g : Nat} {As : Nat → Option Addr} {ns cs : Nat → Nat} {lr : Array Value} (h : w.heap[g]? = some (.cells lr 49 (0, 0))) (hs : lr.size = 4) : Lng w g 0 As ns cs lr := ⟨h, hs, fun j hj => absurd hj (Nat.not_lt_zero _)⟩
theorem len_snoc {α : Type} {P : List α} {x : α} {n : Nat} (h : P.length ≤ n) : (P ++ [x]).length ≤ n + 1 := by rw [List.length_append]; exact Nat.succ_le_succ h
theorem Lng.get {w : World} {g m : Nat} {As : Nat → Option Addr} {ns cs : Nat → Nat} {lr : Array Value} (h : Lng w g m As ns cs lr) {p : Nat} (hp : p < 4) : ∃ u, lr[p]? = some u := ⟨lr[p]'(by rw [h.2.1]; exact hp), Array.getElem?_eq_getElem _⟩
theorem Lng.move {w w1 : World} {g m : Nat} {As : Nat → Option Addr} {ns cs : Nat → Nat} {lr : Array Value} (h : Lng w g m As ns cs lr) {base : Nat} {v : Value} {xs : List Int} (hr : (Kd.int .u8).R 5 w base (fun _ => True) v xs) (hf : Frm (fun k => some k = v.ownBlock) w w1) : Lng w1 g m As ns cs lr :=
  ⟨(hf.block _ (blk_lt h.1) (Kd.R_ne hr h.1 (by decide))).trans h.1, h.2⟩
/-- The rows in the loops: those below m are marked, of m-th the first n bytes. -/
def markD (D : Nat → List Int) (m n : Nat) : Nat → List Int := fun j => if j < m then List.replicate (D j).length (201 + (j : Int)) else if j = m then mkA (201 + (m : Int)) (D m) n else D j
theorem markD_start (D : Nat → List Int) (j : Nat) : markD D 0 0 j = D j := by
  unfold markD
  rw [if_neg (Nat.not_lt_zero _)]
  split
  · rename_i h; subst h; exact mkA_zero _ _
  · rfl
theorem markD_next (D : Nat → List Int) (m n : Nat) (hn : n < (D m).length) (j : Nat) : upd (markD D m n) m ((markD D m n m).set n (201 + (m : Int))) j = markD D m (n + 1) j := by
  by_cases e : j = m
  · subst e
    rw [upd_same]
    unfold markD
    rw [if_neg (Nat.lt_irrefl _), if_pos rfl, if_neg (Nat.lt_irrefl _), if_pos rfl]
    exact mkA_set _ _ _ hn
  · rw [upd_other _ _ e]
    unfold markD
    rw [if_neg e, if_neg e]
theorem markD_up (D : Nat → List Int) (m j : Nat) : markD D m (D m).length j = markD D (m + 1) 0 j := by
  unfold markD
  by_cases h1 : j < m
  · rw [if_pos h1, if_pos (by omega)]
  · rw [if_neg h1]
    by_cases h2 : j = m
    · subst h2
      rw [if_pos rfl, if_pos (by omega), mkA_all]
    · rw [if_neg h2, if_neg (by omega)]
      split
      · rename_i h; subst h; rw [mkA_zero]
      · rfl
theorem markD_len (D : Nat → List Int) (m n : Nat) (hn : n ≤ (D m).length) (j : Nat) : (markD D m n j).length = (D j).length := by
  unfold markD
  split
  · simp
  · split
    · rename_i h; subst h; exact mkA_len _ _ _ hn
    · rfl
/-- .. and behind the appends. -/
def longD (D : Nat → List Int) (m : Nat) : Nat → List Int := fun j => if j < m then List.replicate ((D j).length + 2) (201 + (j : Int)) else List.replicate (D j).length (201 + (j : Int))
theorem longD_start (D : Nat → List Int) (j : Nat) (hj : j < 4) : markD D 4 0 j = longD D 0 j := by
  unfold markD longD
  rw [if_pos hj, if_neg (Nat.not_lt_zero _)]
theorem longD_at (D : Nat → List Int) (m : Nat) : longD D m m = List.replicate (D m).length (201 + (m : Int)) := by
  unfold longD
  rw [if_neg (Nat.lt_irrefl _)]
theorem longD_all (D : Nat → List Int) (m : Nat) (hm : m < 4) : longD D 4 m = List.replicate ((D m).length + 2) (201 + (m : Int)) := by
  unfold longD
  rw [if_pos hm]
theorem longD_next (D : Nat → List Int) (m j : Nat) : upd (longD D m) m (longD D m m ++ [201 + (m : Int)] ++ [201 + (m : Int)]) j = longD D (m + 1) j := by
  by_cases e : j = m
  · subst e
    rw [upd_same]
    unfold longD
    rw [if_neg (Nat.lt_irrefl _), if_pos (by omega), ← List.replicate_succ', ← List.replicate_succ']
  · rw [upd_other _ _ e]
    unfold longD
    by_cases h : j < m
    · rw [if_pos h, if_pos (by omega)]
    · rw [if_neg h, if_neg (by omega)]
end Go.Proofs.YtefnonlhepekdaaDoor.M

set_option linter.unusedVariables false
set_option linter.unusedSimpArgs false
namespace Go.Proofs.YtefnonlhepekdaaDoor.M
open Go.RowKit Go.Proofs.YtefnonlhepekdaaDoorW.PrintWords Go.Proofs.YtefnonlhepekdaaDoorW.PrintLast Go.Proofs.YtefnonlhepekdaaDoorW.PrintMore Go.Proofs.YtefnonlhepekdaaDoor.Leaf

theorem mark_pos {D0 : Nat → List Int} {k n l : Nat} (h : l = (D0 k).length) (hn : n < l) : 0 < (markD D0 k n k).length := by
  rw [markD_len D0 k n (by omega)]
  omega
theorem len_big {k : Nat} (h : k ≤ 300) : k ≤ 1000000000 := by omega
theorem len_mid {k : Nat} (h : k ≤ 300) : k ≤ 1000000 := by omega
theorem lt4 (k : Nat) (h : k < 4) : (k : Int) < 4 := by omega
theorem nlt4 (k : Nat) (h : ¬ k < 4) : ¬ ((k : Int) < 4) := by omega
theorem eq4 (k : Nat) (hk : k ≤ 4) (h : ¬ k < 4) : k = 4 := by omega
theorem up4 (k : Nat) (h : k < 4) : k + 1 ≤ 4 := h
theorem add201 (k : Nat) (h : k < 4) : wrap64 (201 + (k : Int)) = 201 + (k : Int) := i64_of _ (by omega) (by omega)
theorem byte201 (k : Nat) (h : k < 4) : IntKind.u8.wrap (201 + (k : Int)) = 201 + (k : Int) := by rw [IntKind.wrap_u8]; omega
theorem writeB_len (kd a b : Nat) (ns : List Hsh) : (writeB kd a b ns).length ≤ 21 + 32 * ns.length := by
  unfold writeB
  have h1 := shortI_len a
  have h2 := shortI_len b
  simp only [List.length_append, nodes_len, List.length_singleton]
  omega
theorem penc_len (i n : Nat) (ns : List Hsh) (h : ns.length ≤ 300) : (pencAns i n ns).1.length ≤ 10000 := by
  unfold pencAns
  have := writeB_len 77 n i ns
  split
  · simp
  · split
    · simp
    · simp only; omega
theorem xenc_len (m n : Nat) (ns : List Hsh) (h : ns.length ≤ 300) : (xencAns m n ns).1.length ≤ 10000 := by
  unfold xencAns
  have := writeB_len 80 m n ns
  split
  · simp
  · split
    · simp
    · simp only; omega
theorem four_new (w : World) (o1 o2 o3 o4 : Obj) : ((((w.alloc o1).alloc o2).alloc o3).alloc o4).drew.heap[w.heap.size]? = some o1 ∧ ((((w.alloc o1).alloc o2).alloc o3).alloc o4).drew.heap[w.heap.size + 1]? = some o2 ∧
    ((((w.alloc o1).alloc o2).alloc o3).alloc o4).drew.heap[w.heap.size + 1 + 1]? = some o3 ∧ ((((w.alloc o1).alloc o2).alloc o3).alloc o4).drew.heap[w.heap.size + 1 + 1 + 1]? = some o4 ∧ Below w.heap.size w ((((w.alloc o1).alloc o2).alloc o3).alloc o4).drew := by
  have a1 := heap_new w o1
  have a2 := heap_new2 (w.alloc o1) o2 (b := w.heap.size + 1) (by simp)
  have a3 := heap_new2 ((w.alloc o1).alloc o2) o3 (b := w.heap.size + 1 + 1) (by simp)
  have a4 := heap_new2 (((w.alloc o1).alloc o2).alloc o3) o4 (b := w.heap.size + 1 + 1 + 1) (by simp)
  have l1 : ∀ k, k < w.heap.size + 1 → ((w.alloc o1).alloc o2).heap[k]? = (w.alloc o1).heap[k]? := fun k hk => Below.heap_alloc _ _ _ (by simpa using hk)
  have l2 : ∀ k, k < w.heap.size + 1 + 1 → (((w.alloc o1).alloc o2).alloc o3).heap[k]? = ((w.alloc o1).alloc o2).heap[k]? := fun k hk => Below.heap_alloc _ _ _ (by simpa using hk)
  have l3 : ∀ k, k < w.heap.size + 1 + 1 + 1 → ((((w.alloc o1).alloc o2).alloc o3).alloc o4).heap[k]? = (((w.alloc o1).alloc o2).alloc o3).heap[k]? := fun k hk => Below.heap_alloc _ _ _ (by simpa using hk)
  have hd : ((((w.alloc o1).alloc o2).alloc o3).alloc o4).drew.heap = ((((w.alloc o1).alloc o2).alloc o3).alloc o4).heap := rfl
  rw [hd]
  exact ⟨((l3 _ (by omega)).trans ((l2 _ (by omega)).trans (l1 _ (by omega)))).trans a1, ((l3 _ (by omega)).trans (l2 _ (by omega))).trans a2, (l3 _ (by omega)).trans a3, a4, (by repeat (with_reducible first | exact Below.refl _ _ | refine below_alloc ?_ _ | refine below_drew ?_))⟩
set_option maxHeartbeats 4000000 in
set_option maxRecDepth 100000 in
theorem proof_writes_law (n i m q cA cB : Nat) (ns xs : List Hsh) (A B : Option Addr) (w : World) (hn : n < 18446744073709551616) (hi : i < 18446744073709551616) (hm : m < 18446744073709551616) (hq : q < 18446744073709551616)
    (hA : kH.C w A ns.length ns) (hB : kH.C w B xs.length xs) (hT : DB w) :
    Calls Tryd.prog 5 #[.agg #[.int .u64 n, .int .u64 i, .slice A ns.length cA], .agg #[.int .u64 m, .int .u64 q, .slice B xs.length cB]] w fun e w' => e = .returned (.bool true) ∧ Below w.heap.size w w' := by
  have HA := Aside0.mk hA
  have HXs := Aside0.mk hB
  have HT := Aside0.mk hT
  clear hA hB hT
  by_cases hl1 : ns.length ≤ 300
  · by_cases hl2 : xs.length ≤ 300
    · have hl2' : xs.length ≤ 1000000 := by omega
      have hL := penc_len i n ns hl1
      have hM := xenc_len m q xs hl2
      have hc1 := fun W (h : Below w.heap.size w W) => ref7_Encode n i cA ns A W hn hi (Kd.C_below HA.out h)
      have hc2 := fun W (h : Below w.heap.size w W) => ref7_EncodePrefix m q cB xs B W hm hq (Kd.C_below HXs.out h)
      have hc3 := fun W A' c' (h : kH.C W A' ns.length ns) => proof_encode i n c' ns A' W hi hn h
      have hc4 := fun W A' c' (h : kH.C W A' xs.length xs) (h2 : Below w.heap.size w W) => pref_encode m q c' xs A' W hm hq h (HT.out.below h2)
      generalize (pencAns i n ns).1 = L at *
      generalize (pencAns i n ns).2 = er at *
      generalize (xencAns m q xs).1 = M at *
      generalize (xencAns m q xs).2 = fr at *
      have HC1 := Aside0.mk hc1
      have HC2 := Aside0.mk hc2
      have HC3 := Aside0.mk hc3
      have HC4 := Aside0.mk hc4
      have he1 : (er != er) = false := by simp
      have hf1 : (fr != fr) = false := by simp
      clear hc1 hc2 hc3 hc4 hn hi hm hq
      go_enter Tryd.func5, Tryd.ntmps5
      go_upto_region 3 with (fail)
      go_cut [5, 6] (fun v5 v6 wc => ∃ b5 b6, v5 = .pointer (some ⟨b5, 0, none⟩) ∧ v6 = .pointer (some ⟨b6, 0, none⟩) ∧ b5 ≠ b6 ∧ w.heap.size + 1 < b5 ∧ w.heap.size + 1 < b6 ∧ Aside0 (wc.heap[b5]? = some (.cells #[.int .u64 n, .int .u64 i, .slice A ns.length cA] 41 (0, 0)) ∧ wc.heap[b6]? = some (.cells #[.int .u64 m, .int .u64 q, .slice B xs.length cB] 43 (0, 0)) ∧
        wc.heap[w.heap.size]? = some (.cells #[.int .u64 n, .int .u64 i, .slice A ns.length cA] 41 (0, 0)) ∧ wc.heap[w.heap.size + 1]? = some (.cells #[.int .u64 m, .int .u64 q, .slice B xs.length cB] 43 (0, 0)) ∧ Below w.heap.size w wc))
      case first =>
        go_region
        · go_wp2_with fail
          go_meet
          case rel =>
            obtain ⟨g1, g2, g3, g4, g5⟩ := four_new w (.cells #[.int .u64 n, .int .u64 i, .slice A ns.length cA] 41) (.cells #[.int .u64 m, .int .u64 q, .slice B xs.length cB] 43) (.cells #[.int .u64 n, .int .u64 i, .slice A ns.length cA] 41) (.cells #[.int .u64 m, .int .u64 q, .slice B xs.length cB] 43)
            exact ⟨_, _, rfl, rfl, by omega, by omega, by omega, ⟨g3, g4, g1, g2, g5⟩⟩
        · go_wp2_with fail
          go_meet
          case rel =>
            obtain ⟨g1, g2, g3, g4, g5⟩ := four_new w (.cells #[.int .u64 n, .int .u64 i, .slice A ns.length cA] 41) (.cells #[.int .u64 m, .int .u64 q, .slice B xs.length cB] 43) (.cells #[.int .u64 m, .int .u64 q, .slice B xs.length cB] 43) (.cells #[.int .u64 n, .int .u64 i, .slice A ns.length cA] 41)
            exact ⟨_, _, rfl, rfl, by omega, by omega, by omega, ⟨g4, g3, g1, g2, g5⟩⟩
      case rest =>
        obtain ⟨b5, b6, rfl, rfl, hne, hb5, hb6, HC⟩ := hcut
        obtain ⟨e5, e6, e2, e3, hbw⟩ := HC.out
        have E5 := Aside0.mk e5
        have E6 := Aside0.mk e6
        have E2 := Aside0.mk e2
        have E3 := Aside0.mk e3
        have HW := Aside0.mk hbw
        have x2 := (blk_cell e2 2).trans (rfl : _ = some (Value.slice A ns.length cA))
        have x3 := (blk_cell e3 2).trans (rfl : _ = some (Value.slice B xs.length cB))
        clear e5 e6 e2 e3 hbw HC
        go_upto_region 4 with (fail)
        go_cut [] (fun wd => ∃ Ag cg Ah ch, Aside0 (wd.heap[b5]? = some (.cells #[.int .u64 n, .int .u64 i, .slice Ag ns.length cg] 41 (0, 0)) ∧ wd.heap[b6]? = some (.cells #[.int .u64 m, .int .u64 q, .slice Ah xs.length ch] 43 (0, 0)) ∧
          wd.heap[w.heap.size]? = some (.cells #[.int .u64 n, .int .u64 i, .slice A ns.length cA] 41 (0, 0)) ∧ wd.heap[w.heap.size + 1]? = some (.cells #[.int .u64 m, .int .u64 q, .slice B xs.length cB] 43 (0, 0)) ∧ Below w.heap.size w wd ∧
          kH.R 63 wd w.heap.size (fun _ => True) (.slice Ag (ns.length + 1) cg) (ns ++ [hash1 171]) ∧ kH.R 63 wd w.heap.size (fun _ => True) (.slice Ah (xs.length + 1) ch) (xs ++ [hash1 171])))
        case first =>
          have hwd := Aside0.mk (below_drew HW.out)
          have k5 := Aside0.mk (show wc.drew.heap[b5]? = some (.cells #[.int .u64 n, .int .u64 i, .slice A ns.length cA] 41 (0, 0)) from E5.out)
          have k6 := Aside0.mk (show wc.drew.heap[b6]? = some (.cells #[.int .u64 m, .int .u64 q, .slice B xs.length cB] 43 (0, 0)) from E6.out)
          have k2 := Aside0.mk (show wc.drew.heap[w.heap.size]? = some (.cells #[.int .u64 n, .int .u64 i, .slice A ns.length cA] 41 (0, 0)) from E2.out)
          have k3 := Aside0.mk (show wc.drew.heap[w.heap.size + 1]? = some (.cells #[.int .u64 m, .int .u64 q, .slice B xs.length cB] 43 (0, 0)) from E3.out)
          have y2 : wc.drew.cell? ⟨w.heap.size, 2, none⟩ = some (.slice A ns.length cA) := x2
          have y3 : wc.drew.cell? ⟨w.heap.size + 1, 2, none⟩ = some (.slice B xs.length cB) := x3
          have hRA := Aside0.mk (row_calls ns A cA wc.drew (by omega) (Kd.C_below HA.out hwd.out))
          clear E5 E6 E2 E3
          go_region_held3 (fun w' => w'.cell? ⟨w.heap.size, 2, none⟩ = some (.slice A ns.length cA) ∧ w'.cell? ⟨w.heap.size + 1, 2, none⟩ = some (.slice B xs.length cB)) (first | exact ⟨y2, y3⟩ | exact ⟨u2, u3⟩ | exact ⟨t2, t3⟩ | exact ⟨v2, v3⟩ | exact ⟨z2, z3⟩) ((go_at_call 24; first | ((with_reducible refine hRA.out.mono ?_); rintro e w1 ⟨A1, c1, rfl, hr1, hb1⟩; have u2 := pw_cell_below hb1 y2; have u3 := pw_cell_below hb1 y3; have HR1 := Aside0.mk hr1; have HB1 := Aside0.mk hb1; clear hr1 hb1) | ((with_reducible refine (row_calls xs B cB w1 hl2' (Kd.C_below HXs.out (blt hwd.out HB1.out))).mono ?_); rintro e w2 ⟨A2, c2, rfl, hr2, hb2⟩; have t2 := pw_cell_below hb2 u2; have t3 := pw_cell_below hb2 u3; have q5 := (hb2.block _ (Nat.lt_of_lt_of_le (blk_lt k5.out) HB1.out.size)).trans ((HB1.out.block _ (blk_lt k5.out)).trans k5.out); have q6 := (hb2.block _ (Nat.lt_of_lt_of_le (blk_lt k6.out) HB1.out.size)).trans ((HB1.out.block _ (blk_lt k6.out)).trans k6.out); have s5 := (blk_cell q5 2).trans (rfl : _ = some (Value.slice A ns.length cA)); have f5 := blk_frozen q5 2; have q6' := (Below.heap_setCell w2 ⟨b5, 2, none⟩ (.slice A1 ns.length c1) b6 (fun h => hne h.symm)).trans q6; have s6 := (blk_cell q6' 2).trans (rfl : _ = some (Value.slice B xs.length cB)); have f6 := blk_frozen q6' 2; have v2 := (World.cell?_of_block (a := ⟨w.heap.size, 2, none⟩) (Below.heap_setCell w2 ⟨b5, 2, none⟩ (.slice A1 ns.length c1) w.heap.size (by show w.heap.size ≠ b5; omega))).trans t2; have v3 := (World.cell?_of_block (a := ⟨w.heap.size + 1, 2, none⟩) (Below.heap_setCell w2 ⟨b5, 2, none⟩ (.slice A1 ns.length c1) (w.heap.size + 1) (by show w.heap.size + 1 ≠ b5; omega))).trans t3; have z2 := (World.cell?_of_block (a := ⟨w.heap.size, 2, none⟩) (Below.heap_setCell (w2.setCell ⟨b5, 2, none⟩ (.slice A1 ns.length c1)) ⟨b6, 2, none⟩ (.slice A2 xs.length c2) w.heap.size (by show w.heap.size ≠ b6; omega))).trans v2; have z3 := (World.cell?_of_block (a := ⟨w.heap.size + 1, 2, none⟩) (Below.heap_setCell (w2.setCell ⟨b5, 2, none⟩ (.slice A1 ns.length c1)) ⟨b6, 2, none⟩ (.slice A2 xs.length c2) (w.heap.size + 1) (by show w.heap.size + 1 ≠ b6; omega))).trans v3; have Q5 := Aside0.mk q5; have Q6 := Aside0.mk q6; have HR2 := Aside0.mk hr2; have HB2 := Aside0.mk hb2; clear hr2 hb2 q5 q6 q6')))
          · go_wp2_with fail
            have hr1 := Kd.R_lower HR1.out hwd.out.size
            have hr2 := Kd.R_lower HR2.out (Nat.le_trans hwd.out.size HB1.out.size)
            have m5 := blk_set Q5.out 2 (.slice A1 ns.length c1)
            have m5' := (Below.heap_setCell (w2.setCell ⟨b5, 2, none⟩ (.slice A1 ns.length c1)) ⟨b6, 2, none⟩ (.slice A2 xs.length c2) b5 hne).trans m5
            have m6 := blk_set ((Below.heap_setCell w2 ⟨b5, 2, none⟩ (.slice A1 ns.length c1) b6 (fun h => hne h.symm)).trans Q6.out) 2 (.slice A2 xs.length c2)
            have m2 := (Below.heap_setCell (w2.setCell ⟨b5, 2, none⟩ (.slice A1 ns.length c1)) ⟨b6, 2, none⟩ (.slice A2 xs.length c2) w.heap.size (by show w.heap.size ≠ b6; omega)).trans ((Below.heap_setCell w2 ⟨b5, 2, none⟩ (.slice A1 ns.length c1) w.heap.size (by show w.heap.size ≠ b5; omega)).trans ((HB2.out.block _ (Nat.lt_of_lt_of_le (blk_lt k2.out) HB1.out.size)).trans ((HB1.out.block _ (blk_lt k2.out)).trans k2.out)))
            have m3 := (Below.heap_setCell (w2.setCell ⟨b5, 2, none⟩ (.slice A1 ns.length c1)) ⟨b6, 2, none⟩ (.slice A2 xs.length c2) (w.heap.size + 1) (by show w.heap.size + 1 ≠ b6; omega)).trans ((Below.heap_setCell w2 ⟨b5, 2, none⟩ (.slice A1 ns.length c1) (w.heap.size + 1) (by show w.heap.size + 1 ≠ b5; omega)).trans ((HB2.out.block _ (Nat.lt_of_lt_of_le (blk_lt k3.out) HB1.out.size)).trans ((HB1.out.block _ (blk_lt k3.out)).trans k3.out)))
            have hr1' := Kd.R_below hr1 HB2.out
            have m6' := (Below.heap_setCell w2 ⟨b5, 2, none⟩ (.slice A1 ns.length c1) b6 (fun h => hne h.symm)).trans Q6.out
            have hq1 := Kd.R_set (Kd.R_set hr1' Q5.out (by decide) 2 (.slice A1 ns.length c1)) m6' (by decide) 2 (.slice A2 xs.length c2)
            have hq2 := Kd.R_set (Kd.R_set hr2 Q5.out (by decide) 2 (.slice A1 ns.length c1)) m6' (by decide) 2 (.slice A2 xs.length c2)
            have hbz := Below.setCell (Below.setCell (blt (blt hwd.out HB1.out) HB2.out) (p := ⟨b5, 2, none⟩) (by show w.heap.size ≤ b5; omega) (.slice A1 ns.length c1)) (p := ⟨b6, 2, none⟩) (by show w.heap.size ≤ b6; omega) (.slice A2 xs.length c2)
            go_meet
            case rel => exact ⟨A1, c1, A2, c2, ⟨m5', m6, m2, m3, hbz, hq1, hq2⟩⟩
        case rest =>
          obtain ⟨Ag, cg, Ah, ch, HC⟩ := hcut
          obtain ⟨g5, g6, g2, g3, gb, gr, gh⟩ := HC.out
          have E5 := Aside0.mk g5
          have E6 := Aside0.mk g6
          have E2 := Aside0.mk g2
          have E3 := Aside0.mk g3
          have HB := Aside0.mk gb
          have RG := Aside0.mk gr
          have RH := Aside0.mk gh
          clear HC g5 g6 g2 g3 gb gr gh x2 x3 HW
          have c0_ := (blk_cell E2.out 0).trans (rfl : _ = some (Value.int .u64 n))
          have c1_ := (blk_cell E2.out 1).trans (rfl : _ = some (Value.int .u64 i))
          have c2_ := (blk_cell E2.out 2).trans (rfl : _ = some (Value.slice A ns.length cA))
          go_wp2_with fail
          refine (HC1.out _ HB.out).mono ?_
          rintro e w1 ⟨v1, rfl, hr, hb⟩
          obtain ⟨A1, n1, c1, e9⟩ : ∃ A m c, v1 = .slice A m c := by obtain ⟨A, c, h⟩ := Kd.R_slice hr; exact ⟨A, _, c, h⟩
          subst e9
          have z1 := Aside0.mk hb.size
          have hv := RwS.new hr HB.out.size
          try replace V1 := Aside0.mk (V1.out.below hb)
          try replace V2 := Aside0.mk (V2.out.below hb)
          try replace V3 := Aside0.mk (V3.out.below hb)
          try replace V4 := Aside0.mk (V4.out.below hb)
          try replace V5 := Aside0.mk (V5.out.below hb)
          try replace V6 := Aside0.mk (V6.out.below hb)
          try replace V7 := Aside0.mk (V7.out.below hb)
          try replace V8 := Aside0.mk (V8.out.below hb)
          try replace V9 := Aside0.mk (V9.out.below hb)
          try replace V10 := Aside0.mk (V10.out.below hb)
          try replace V11 := Aside0.mk (V11.out.below hb)
          try replace V12 := Aside0.mk (V12.out.below hb)
          try replace U1 := Aside0.mk (U1.out.below hb)
          try replace U2 := Aside0.mk (U2.out.below hb)
          try replace U3 := Aside0.mk (U3.out.below hb)
          try replace U4 := Aside0.mk (U4.out.below hb)
          try replace E2 := Aside0.mk ((hb.block _ (blk_lt E2.out)).trans E2.out)
          try replace E3 := Aside0.mk ((hb.block _ (blk_lt E3.out)).trans E3.out)
          try replace E5 := Aside0.mk ((hb.block _ (blk_lt E5.out)).trans E5.out)
          try replace E6 := Aside0.mk ((hb.block _ (blk_lt E6.out)).trans E6.out)
          try replace RG := Aside0.mk (Kd.R_below RG.out hb)
          try replace RH := Aside0.mk (Kd.R_below RH.out hb)
          replace HB := Aside0.mk (blt HB.out hb)
          have V1 := Aside0.mk hv
          clear hv hr hb
          clear c0_ c1_ c2_
          have c0_ := (blk_cell E3.out 0).trans (rfl : _ = some (Value.int .u64 m))
          have c1_ := (blk_cell E3.out 1).trans (rfl : _ = some (Value.int .u64 q))
          have c2_ := (blk_cell E3.out 2).trans (rfl : _ = some (Value.slice B xs.length cB))
          go_wp2_with fail
          refine (HC2.out _ HB.out).mono ?_
          rintro e w2 ⟨v2, rfl, hr, hb⟩
          obtain ⟨A2, n2, c2, e9⟩ : ∃ A m c, v2 = .slice A m c := by obtain ⟨A, c, h⟩ := Kd.R_slice hr; exact ⟨A, _, c, h⟩
          subst e9
          have z2 := Aside0.mk hb.size
          have hv := RwS.new hr HB.out.size
          try replace V1 := Aside0.mk (V1.out.below hb)
          try replace V2 := Aside0.mk (V2.out.below hb)
          try replace V3 := Aside0.mk (V3.out.below hb)
          try replace V4 := Aside0.mk (V4.out.below hb)
          try replace V5 := Aside0.mk (V5.out.below hb)
          try replace V6 := Aside0.mk (V6.out.below hb)
          try replace V7 := Aside0.mk (V7.out.below hb)
          try replace V8 := Aside0.mk (V8.out.below hb)
          try replace V9 := Aside0.mk (V9.out.below hb)
          try replace V10 := Aside0.mk (V10.out.below hb)
          try replace V11 := Aside0.mk (V11.out.below hb)
          try replace V12 := Aside0.mk (V12.out.below hb)
          try replace U1 := Aside0.mk (U1.out.below hb)
          try replace U2 := Aside0.mk (U2.out.below hb)
          try replace U3 := Aside0.mk (U3.out.below hb)
          try replace U4 := Aside0.mk (U4.out.below hb)
          try replace E2 := Aside0.mk ((hb.block _ (blk_lt E2.out)).trans E2.out)
          try replace E3 := Aside0.mk ((hb.block _ (blk_lt E3.out)).trans E3.out)
          try replace E5 := Aside0.mk ((hb.block _ (blk_lt E5.out)).trans E5.out)
          try replace E6 := Aside0.mk ((hb.block _ (blk_lt E6.out)).trans E6.out)
          try replace RG := Aside0.mk (Kd.R_below RG.out hb)
          try replace RH := Aside0.mk (Kd.R_below RH.out hb)
          replace HB := Aside0.mk (blt HB.out hb)
          have V2 := Aside0.mk hv
          clear hv hr hb
          clear c0_ c1_ c2_
          have c0_ := (blk_cell E5.out 0).trans (rfl : _ = some (Value.int .u64 n))
          have c1_ := (blk_cell E5.out 1).trans (rfl : _ = some (Value.int .u64 i))
          have c2_ := (blk_cell E5.out 2).trans (rfl : _ = some (Value.slice Ag ns.length cg))
          go_wp2_with fail
          refine (HC3.out _ Ag cg (C_cut (R_C RG.out) ns.length rfl)).mono ?_
          rintro e w3 ⟨v3, rfl, hr, hb⟩
          obtain ⟨A3, n3, c3, e9⟩ : ∃ A m c, v3 = .slice A m c := by obtain ⟨A, c, h⟩ := Kd.R_slice hr; exact ⟨A, _, c, h⟩
          subst e9
          have z3 := Aside0.mk hb.size
          have hv := RwS.new hr HB.out.size
          try replace V1 := Aside0.mk (V1.out.below hb)
          try replace V2 := Aside0.mk (V2.out.below hb)
          try replace V3 := Aside0.mk (V3.out.below hb)
          try replace V4 := Aside0.mk (V4.out.below hb)
          try replace V5 := Aside0.mk (V5.out.below hb)
          try replace V6 := Aside0.mk (V6.out.below hb)
          try replace V7 := Aside0.mk (V7.out.below hb)
          try replace V8 := Aside0.mk (V8.out.below hb)
          try replace V9 := Aside0.mk (V9.out.below hb)
          try replace V10 := Aside0.mk (V10.out.below hb)
          try replace V11 := Aside0.mk (V11.out.below hb)
          try replace V12 := Aside0.mk (V12.out.below hb)
          try replace U1 := Aside0.mk (U1.out.below hb)
          try replace U2 := Aside0.mk (U2.out.below hb)
          try replace U3 := Aside0.mk (U3.out.below hb)
          try replace U4 := Aside0.mk (U4.out.below hb)
          try replace E2 := Aside0.mk ((hb.block _ (blk_lt E2.out)).trans E2.out)
          try replace E3 := Aside0.mk ((hb.block _ (blk_lt E3.out)).trans E3.out)
          try replace E5 := Aside0.mk ((hb.block _ (blk_lt E5.out)).trans E5.out)
          try replace E6 := Aside0.mk ((hb.block _ (blk_lt E6.out)).trans E6.out)
          try replace RG := Aside0.mk (Kd.R_below RG.out hb)
          try replace RH := Aside0.mk (Kd.R_below RH.out hb)
          replace HB := Aside0.mk (blt HB.out hb)
          have V3 := Aside0.mk hv
          clear hv hr hb
          clear c0_ c1_ c2_
          have c0_ := (blk_cell E5.out 0).trans (rfl : _ = some (Value.int .u64 n))
          have c1_ := (blk_cell E5.out 1).trans (rfl : _ = some (Value.int .u64 i))
          have c2_ := (blk_cell E5.out 2).trans (rfl : _ = some (Value.slice Ag ns.length cg))
          go_wp2_with fail
          refine (HC3.out _ Ag cg (C_cut (R_C RG.out) ns.length rfl)).mono ?_
          rintro e w4 ⟨v4, rfl, hr, hb⟩
          obtain ⟨A4, n4, c4, e9⟩ : ∃ A m c, v4 = .slice A m c := by obtain ⟨A, c, h⟩ := Kd.R_slice hr; exact ⟨A, _, c, h⟩
          subst e9
          have z4 := Aside0.mk hb.size
          have hv := RwS.new hr HB.out.size
          try replace V1 := Aside0.mk (V1.out.below hb)
          try replace V2 := Aside0.mk (V2.out.below hb)
          try replace V3 := Aside0.mk (V3.out.below hb)
          try replace V4 := Aside0.mk (V4.out.below hb)
          try replace V5 := Aside0.mk (V5.out.below hb)
          try replace V6 := Aside0.mk (V6.out.below hb)
          try replace V7 := Aside0.mk (V7.out.below hb)
          try replace V8 := Aside0.mk (V8.out.below hb)
          try replace V9 := Aside0.mk (V9.out.below hb)
          try replace V10 := Aside0.mk (V10.out.below hb)
          try replace V11 := Aside0.mk (V11.out.below hb)
          try replace V12 := Aside0.mk (V12.out.below hb)
          try replace U1 := Aside0.mk (U1.out.below hb)
          try replace U2 := Aside0.mk (U2.out.below hb)
          try replace U3 := Aside0.mk (U3.out.below hb)
          try replace U4 := Aside0.mk (U4.out.below hb)
          try replace E2 := Aside0.mk ((hb.block _ (blk_lt E2.out)).trans E2.out)
          try replace E3 := Aside0.mk ((hb.block _ (blk_lt E3.out)).trans E3.out)
          try replace E5 := Aside0.mk ((hb.block _ (blk_lt E5.out)).trans E5.out)
          try replace E6 := Aside0.mk ((hb.block _ (blk_lt E6.out)).trans E6.out)
          try replace RG := Aside0.mk (Kd.R_below RG.out hb)
          try replace RH := Aside0.mk (Kd.R_below RH.out hb)
          replace HB := Aside0.mk (blt HB.out hb)
          have V4 := Aside0.mk hv
          clear hv hr hb
          clear c0_ c1_ c2_
          have c0_ := (blk_cell E6.out 0).trans (rfl : _ = some (Value.int .u64 m))
          have c1_ := (blk_cell E6.out 1).trans (rfl : _ = some (Value.int .u64 q))
          have c2_ := (blk_cell E6.out 2).trans (rfl : _ = some (Value.slice Ah xs.length ch))
          go_wp2_with fail
          refine (HC4.out _ Ah ch (C_cut (R_C RH.out) xs.length rfl) HB.out).mono ?_
          rintro e w5 ⟨v5, rfl, hr, hb⟩
          obtain ⟨A5, n5, c5, e9⟩ : ∃ A m c, v5 = .slice A m c := by obtain ⟨A, c, h⟩ := Kd.R_slice hr; exact ⟨A, _, c, h⟩
          subst e9
          have z5 := Aside0.mk hb.size
          have hv := RwS.new hr HB.out.size
          try replace V1 := Aside0.mk (V1.out.below hb)
          try replace V2 := Aside0.mk (V2.out.below hb)
          try replace V3 := Aside0.mk (V3.out.below hb)
          try replace V4 := Aside0.mk (V4.out.below hb)
          try replace V5 := Aside0.mk (V5.out.below hb)
          try replace V6 := Aside0.mk (V6.out.below hb)
          try replace V7 := Aside0.mk (V7.out.below hb)
          try replace V8 := Aside0.mk (V8.out.below hb)
          try replace V9 := Aside0.mk (V9.out.below hb)
          try replace V10 := Aside0.mk (V10.out.below hb)
          try replace V11 := Aside0.mk (V11.out.below hb)
          try replace V12 := Aside0.mk (V12.out.below hb)
          try replace U1 := Aside0.mk (U1.out.below hb)
          try replace U2 := Aside0.mk (U2.out.below hb)
          try replace U3 := Aside0.mk (U3.out.below hb)
          try replace U4 := Aside0.mk (U4.out.below hb)
          try replace E2 := Aside0.mk ((hb.block _ (blk_lt E2.out)).trans E2.out)
          try replace E3 := Aside0.mk ((hb.block _ (blk_lt E3.out)).trans E3.out)
          try replace E5 := Aside0.mk ((hb.block _ (blk_lt E5.out)).trans E5.out)
          try replace E6 := Aside0.mk ((hb.block _ (blk_lt E6.out)).trans E6.out)
          try replace RG := Aside0.mk (Kd.R_below RG.out hb)
          try replace RH := Aside0.mk (Kd.R_below RH.out hb)
          replace HB := Aside0.mk (blt HB.out hb)
          have V5 := Aside0.mk hv
          clear hv hr hb
          clear c0_ c1_ c2_
          have c0_ := (blk_cell E6.out 0).trans (rfl : _ = some (Value.int .u64 m))
          have c1_ := (blk_cell E6.out 1).trans (rfl : _ = some (Value.int .u64 q))
          have c2_ := (blk_cell E6.out 2).trans (rfl : _ = some (Value.slice Ah xs.length ch))
          go_wp2_with fail
          refine (HC4.out _ Ah ch (C_cut (R_C RH.out) xs.length rfl) HB.out).mono ?_
          rintro e w6 ⟨v6, rfl, hr, hb⟩
          obtain ⟨A6, n6, c6, e9⟩ : ∃ A m c, v6 = .slice A m c := by obtain ⟨A, c, h⟩ := Kd.R_slice hr; exact ⟨A, _, c, h⟩
          subst e9
          have z6 := Aside0.mk hb.size
          have hv := RwS.new hr HB.out.size
          try replace V1 := Aside0.mk (V1.out.below hb)
          try replace V2 := Aside0.mk (V2.out.below hb)
          try replace V3 := Aside0.mk (V3.out.below hb)
          try replace V4 := Aside0.mk (V4.out.below hb)
          try replace V5 := Aside0.mk (V5.out.below hb)
          try replace V6 := Aside0.mk (V6.out.below hb)
          try replace V7 := Aside0.mk (V7.out.below hb)
          try replace V8 := Aside0.mk (V8.out.below hb)
          try replace V9 := Aside0.mk (V9.out.below hb)
          try replace V10 := Aside0.mk (V10.out.below hb)
          try replace V11 := Aside0.mk (V11.out.below hb)
          try replace V12 := Aside0.mk (V12.out.below hb)
          try replace U1 := Aside0.mk (U1.out.below hb)
          try replace U2 := Aside0.mk (U2.out.below hb)
          try replace U3 := Aside0.mk (U3.out.below hb)
          try replace U4 := Aside0.mk (U4.out.below hb)
          try replace E2 := Aside0.mk ((hb.block _ (blk_lt E2.out)).trans E2.out)
          try replace E3 := Aside0.mk ((hb.block _ (blk_lt E3.out)).trans E3.out)
          try replace E5 := Aside0.mk ((hb.block _ (blk_lt E5.out)).trans E5.out)
          try replace E6 := Aside0.mk ((hb.block _ (blk_lt E6.out)).trans E6.out)
          try replace RG := Aside0.mk (Kd.R_below RG.out hb)
          try replace RH := Aside0.mk (Kd.R_below RH.out hb)
          replace HB := Aside0.mk (blt HB.out hb)
          have V6 := Aside0.mk hv
          clear hv hr hb
          clear c0_ c1_ c2_
          go_wp2_with fail
          refine (bytes7_true (xs := L) V3.out.rd V1.out.rd (by omega)).mono ?_
          rintro e w7 ⟨rfl, hd⟩
          have hb := hd.below
          have z7 := Aside0.mk hb.size
          try replace V1 := Aside0.mk (V1.out.below hb)
          try replace V2 := Aside0.mk (V2.out.below hb)
          try replace V3 := Aside0.mk (V3.out.below hb)
          try replace V4 := Aside0.mk (V4.out.below hb)
          try replace V5 := Aside0.mk (V5.out.below hb)
          try replace V6 := Aside0.mk (V6.out.below hb)
          try replace V7 := Aside0.mk (V7.out.below hb)
          try replace V8 := Aside0.mk (V8.out.below hb)
          try replace V9 := Aside0.mk (V9.out.below hb)
          try replace V10 := Aside0.mk (V10.out.below hb)
          try replace V11 := Aside0.mk (V11.out.below hb)
          try replace V12 := Aside0.mk (V12.out.below hb)
          try replace U1 := Aside0.mk (U1.out.below hb)
          try replace U2 := Aside0.mk (U2.out.below hb)
          try replace U3 := Aside0.mk (U3.out.below hb)
          try replace U4 := Aside0.mk (U4.out.below hb)
          try replace E2 := Aside0.mk ((hb.block _ (blk_lt E2.out)).trans E2.out)
          try replace E3 := Aside0.mk ((hb.block _ (blk_lt E3.out)).trans E3.out)
          try replace E5 := Aside0.mk ((hb.block _ (blk_lt E5.out)).trans E5.out)
          try replace E6 := Aside0.mk ((hb.block _ (blk_lt E6.out)).trans E6.out)
          try replace RG := Aside0.mk (Kd.R_below RG.out hb)
          try replace RH := Aside0.mk (Kd.R_below RH.out hb)
          replace HB := Aside0.mk (blt HB.out hb)
          clear hd hb
          go_wp2_with fail
          refine (bytes7_true (xs := L) V4.out.rd V1.out.rd (by omega)).mono ?_
          rintro e w8 ⟨rfl, hd⟩
          have hb := hd.below
          have z8 := Aside0.mk hb.size
          try replace V1 := Aside0.mk (V1.out.below hb)
          try replace V2 := Aside0.mk (V2.out.below hb)
          try replace V3 := Aside0.mk (V3.out.below hb)
          try replace V4 := Aside0.mk (V4.out.below hb)
          try replace V5 := Aside0.mk (V5.out.below hb)
          try replace V6 := Aside0.mk (V6.out.below hb)
          try replace V7 := Aside0.mk (V7.out.below hb)
          try replace V8 := Aside0.mk (V8.out.below hb)
          try replace V9 := Aside0.mk (V9.out.below hb)
          try replace V10 := Aside0.mk (V10.out.below hb)
          try replace V11 := Aside0.mk (V11.out.below hb)
          try replace V12 := Aside0.mk (V12.out.below hb)
          try replace U1 := Aside0.mk (U1.out.below hb)
          try replace U2 := Aside0.mk (U2.out.below hb)
          try replace U3 := Aside0.mk (U3.out.below hb)
          try replace U4 := Aside0.mk (U4.out.below hb)
          try replace E2 := Aside0.mk ((hb.block _ (blk_lt E2.out)).trans E2.out)
          try replace E3 := Aside0.mk ((hb.block _ (blk_lt E3.out)).trans E3.out)
          try replace E5 := Aside0.mk ((hb.block _ (blk_lt E5.out)).trans E5.out)
          try replace E6 := Aside0.mk ((hb.block _ (blk_lt E6.out)).trans E6.out)
          try replace RG := Aside0.mk (Kd.R_below RG.out hb)
          try replace RH := Aside0.mk (Kd.R_below RH.out hb)
          replace HB := Aside0.mk (blt HB.out hb)
          clear hd hb
          go_wp2_with fail
          refine (bytes7_true (xs := M) V5.out.rd V2.out.rd (by omega)).mono ?_
          rintro e w9 ⟨rfl, hd⟩
          have hb := hd.below
          have z9 := Aside0.mk hb.size
          try replace V1 := Aside0.mk (V1.out.below hb)
          try replace V2 := Aside0.mk (V2.out.below hb)
          try replace V3 := Aside0.mk (V3.out.below hb)
          try replace V4 := Aside0.mk (V4.out.below hb)
          try replace V5 := Aside0.mk (V5.out.below hb)
          try replace V6 := Aside0.mk (V6.out.below hb)
          try replace V7 := Aside0.mk (V7.out.below hb)
          try replace V8 := Aside0.mk (V8.out.below hb)
          try replace V9 := Aside0.mk (V9.out.below hb)
          try replace V10 := Aside0.mk (V10.out.below hb)
          try replace V11 := Aside0.mk (V11.out.below hb)
          try replace V12 := Aside0.mk (V12.out.below hb)
          try replace U1 := Aside0.mk (U1.out.below hb)
          try replace U2 := Aside0.mk (U2.out.below hb)
          try replace U3 := Aside0.mk (U3.out.below hb)
          try replace U4 := Aside0.mk (U4.out.below hb)
          try replace E2 := Aside0.mk ((hb.block _ (blk_lt E2.out)).trans E2.out)
          try replace E3 := Aside0.mk ((hb.block _ (blk_lt E3.out)).trans E3.out)
          try replace E5 := Aside0.mk ((hb.block _ (blk_lt E5.out)).trans E5.out)
          try replace E6 := Aside0.mk ((hb.block _ (blk_lt E6.out)).trans E6.out)
          try replace RG := Aside0.mk (Kd.R_below RG.out hb)
          try replace RH := Aside0.mk (Kd.R_below RH.out hb)
          replace HB := Aside0.mk (blt HB.out hb)
          clear hd hb
          go_wp2_with fail
          refine (bytes7_true (xs := M) V6.out.rd V2.out.rd (by omega)).mono ?_
          rintro e w10 ⟨rfl, hd⟩
          have hb := hd.below
          have z10 := Aside0.mk hb.size
          try replace V1 := Aside0.mk (V1.out.below hb)
          try replace V2 := Aside0.mk (V2.out.below hb)
          try replace V3 := Aside0.mk (V3.out.below hb)
          try replace V4 := Aside0.mk (V4.out.below hb)
          try replace V5 := Aside0.mk (V5.out.below hb)
          try replace V6 := Aside0.mk (V6.out.below hb)
          try replace V7 := Aside0.mk (V7.out.below hb)
          try replace V8 := Aside0.mk (V8.out.below hb)
          try replace V9 := Aside0.mk (V9.out.below hb)
          try replace V10 := Aside0.mk (V10.out.below hb)
          try replace V11 := Aside0.mk (V11.out.below hb)
          try replace V12 := Aside0.mk (V12.out.below hb)
          try replace U1 := Aside0.mk (U1.out.below hb)
          try replace U2 := Aside0.mk (U2.out.below hb)
          try replace U3 := Aside0.mk (U3.out.below hb)
          try replace U4 := Aside0.mk (U4.out.below hb)
          try replace E2 := Aside0.mk ((hb.block _ (blk_lt E2.out)).trans E2.out)
          try replace E3 := Aside0.mk ((hb.block _ (blk_lt E3.out)).trans E3.out)
          try replace E5 := Aside0.mk ((hb.block _ (blk_lt E5.out)).trans E5.out)
          try replace E6 := Aside0.mk ((hb.block _ (blk_lt E6.out)).trans E6.out)
          try replace RG := Aside0.mk (Kd.R_below RG.out hb)
          try replace RH := Aside0.mk (Kd.R_below RH.out hb)
          replace HB := Aside0.mk (blt HB.out hb)
          clear hd hb
          go_wp2_with fail
          have q3 := (Kd.R_reads' V3.out.1).1
          have q4 := (Kd.R_reads' V4.out.1).1
          have q5 := (Kd.R_reads' V5.out.1).1
          have q6 := (Kd.R_reads' V6.out.1).1
          obtain ⟨As, hAs⟩ : ∃ f, f = fam4 A3 A4 A5 A6 := ⟨_, rfl⟩
          obtain ⟨ls, hls⟩ : ∃ f, f = fam4 n3 n4 n5 n6 := ⟨_, rfl⟩
          obtain ⟨cs, hcs⟩ : ∃ f, f = fam4 c3 c4 c5 c6 := ⟨_, rfl⟩
          obtain ⟨D0, hD0⟩ : ∃ f, f = fam4 L L M M := ⟨_, rfl⟩
          obtain ⟨ar, har⟩ : ∃ ar, ar = #[Value.slice A3 n3 c3, Value.slice A4 n4 c4, Value.slice A5 n5 c5, Value.slice A6 n6 c6] := ⟨_, rfl⟩
          have hat : ∀ j, j < 4 → ar[j]? = some (.slice (As j) (ls j) (cs j)) := by
            intro j hj
            subst hAs hls hcs har
            match j, hj with
            | 0, _ => rfl
            | 1, _ => rfl
            | 2, _ => rfl
            | 3, _ => rfl
          have hDl : ∀ j, j < 4 → ls j = (D0 j).length ∧ (D0 j).length ≤ 10000 := by
            intro j hj
            subst hls hD0
            match j, hj with
            | 0, _ => exact ⟨q3, hL⟩
            | 1, _ => exact ⟨q4, hL⟩
            | 2, _ => exact ⟨q5, hM⟩
            | 3, _ => exact ⟨q6, hM⟩
          have hF0 : Fam w w10 As ls cs D0 := by
            subst hAs hls hcs hD0
            have y1 := z1.out; have y2 := z2.out; have y3 := z3.out; have y4 := z4.out; have y5 := z5.out; have y6 := z6.out
            refine ⟨fun j hj => ?_, fun a b ha hb hab k h1 h2 => ?_⟩
            · match j, hj with
              | 0, _ => exact V3.out.1
              | 1, _ => exact V4.out.1
              | 2, _ => exact V5.out.1
              | 3, _ => exact V6.out.1
            · have o3 := V3.out.2 k
              have o4 := V4.out.2 k
              have o5 := V5.out.2 k
              have o6 := V6.out.2 k
              match a, ha, b, hb with
              | 0, _, 0, _ => exact hab rfl
              | 0, _, 1, _ => have := o3 h1; have := o4 h2; omega
              | 0, _, 2, _ => have := o3 h1; have := o5 h2; omega
              | 0, _, 3, _ => have := o3 h1; have := o6 h2; omega
              | 1, _, 0, _ => have := o4 h1; have := o3 h2; omega
              | 1, _, 1, _ => exact hab rfl
              | 1, _, 2, _ => have := o4 h1; have := o5 h2; omega
              | 1, _, 3, _ => have := o4 h1; have := o6 h2; omega
              | 2, _, 0, _ => have := o5 h1; have := o3 h2; omega
              | 2, _, 1, _ => have := o5 h1; have := o4 h2; omega
              | 2, _, 2, _ => exact hab rfl
              | 2, _, 3, _ => have := o5 h1; have := o6 h2; omega
              | 3, _, 0, _ => have := o6 h1; have := o3 h2; omega
              | 3, _, 1, _ => have := o6 h1; have := o4 h2; omega
              | 3, _, 2, _ => have := o6 h1; have := o5 h2; omega
              | 3, _, 3, _ => exact hab rfl
          rw [← har]
          obtain ⟨g4, hg4⟩ : ∃ g, g = w10.heap.size := ⟨_, rfl⟩
          rw [← hg4]
          obtain ⟨ws, hws⟩ : ∃ W, W = w10.alloc (.cells ar 22) := ⟨_, rfl⟩
          have b4 : ws.heap[g4]? = some (.cells ar 22 (0, 0)) := by rw [hws, hg4]; exact heap_new w10 _
          have hbs : Below w10.heap.size w10 ws := by rw [hws]; exact bl_new w10 _
          rw [← hws]
          have HF0 := Aside0.mk (hF0.below (hbs.trans ((bl_new ws (.cells #[Value.slice none 0 0, Value.slice none 0 0, Value.slice none 0 0, Value.slice none 0 0] 49)).mono hbs.size)))
          have b20 := heap_new ws (.cells #[Value.slice none 0 0, Value.slice none 0 0, Value.slice none 0 0, Value.slice none 0 0] 49)
          have hb20 := bl_new ws (.cells #[Value.slice none 0 0, Value.slice none 0 0, Value.slice none 0 0, Value.slice none 0 0] 49)
          try replace V1 := Aside0.mk (V1.out.below hbs)
          try replace V2 := Aside0.mk (V2.out.below hbs)
          try replace V3 := Aside0.mk (V3.out.below hbs)
          try replace V4 := Aside0.mk (V4.out.below hbs)
          try replace V5 := Aside0.mk (V5.out.below hbs)
          try replace V6 := Aside0.mk (V6.out.below hbs)
          try replace V7 := Aside0.mk (V7.out.below hbs)
          try replace V8 := Aside0.mk (V8.out.below hbs)
          try replace V9 := Aside0.mk (V9.out.below hbs)
          try replace V10 := Aside0.mk (V10.out.below hbs)
          try replace V11 := Aside0.mk (V11.out.below hbs)
          try replace V12 := Aside0.mk (V12.out.below hbs)
          try replace U1 := Aside0.mk (U1.out.below hbs)
          try replace U2 := Aside0.mk (U2.out.below hbs)
          try replace U3 := Aside0.mk (U3.out.below hbs)
          try replace U4 := Aside0.mk (U4.out.below hbs)
          try replace E2 := Aside0.mk ((hbs.block _ (blk_lt E2.out)).trans E2.out)
          try replace E3 := Aside0.mk ((hbs.block _ (blk_lt E3.out)).trans E3.out)
          try replace E5 := Aside0.mk ((hbs.block _ (blk_lt E5.out)).trans E5.out)
          try replace E6 := Aside0.mk ((hbs.block _ (blk_lt E6.out)).trans E6.out)
          try replace RG := Aside0.mk (Kd.R_below RG.out hbs)
          try replace RH := Aside0.mk (Kd.R_below RH.out hbs)
          replace HB := Aside0.mk (blt HB.out hbs)
          clear V1 V2 V3 V4 V5 V6
          have hsz : ws.heap.size = g4 + 1 := by rw [hws, hg4]; simp
          obtain ⟨g20, hg20'⟩ : ∃ g, g = g4 + 1 := ⟨_, rfl⟩
          have hg20 : g20 = ws.heap.size := by rw [hg20', hsz]
          rw [← hg20'] at hsz
          rw [← hg20']
          rw [hsz] at b20 hb20
          generalize hwt : ws.alloc (.cells #[Value.slice none 0 0, Value.slice none 0 0, Value.slice none 0 0, Value.slice none 0 0] 49) = wt at *
          have HB4 := Aside0.mk b4
          have HB20 := Aside0.mk b20
          have HKT := Aside0.mk ((KeepT.refl ws).below (hg20 ▸ hb20))
          have HBt := Aside0.mk (blt HB.out (hg20 ▸ hb20))
          have HAt := Aside0.mk hat
          have HDl := Aside0.mk hDl
          have HG20 := Aside0.mk hg20
          have HG4 := Aside0.mk (show g4 < g20 by rw [hg20]; exact blk_lt b4)
          clear q3 q4 q5 q6 hAs hls hcs hD0 har hat hDl hF0 hg4 hws b4 hbs b20 hb20 hwt hsz hg20 hg20' z1 z2 z3 z4 z5 z6 z7 z8 z9 z10
          go_loopw [21] (fun v wr => ∃ m : Nat, m ≤ 4 ∧ v = .int .i64 m ∧ Aside0 (Fam w wr As ls cs (markD D0 m 0)) ∧ Aside0 (KeepT ws wr) ∧ Aside0 (Below w.heap.size w wr) ∧ Aside0 (wr.heap[g20]? = some (.cells #[Value.slice none 0 0, Value.slice none 0 0, Value.slice none 0 0, Value.slice none 0 0] 49 (0, 0)))) (fun v _ => 4 - (intOf v).toNat)
          case atStart => exact ⟨0, Nat.zero_le _, rfl, ⟨HF0.out.congr (fun j _ => (markD_start D0 j).symm)⟩, HKT, HBt, HB20⟩
          case round =>
            obtain ⟨k, hk, rfl, HF, HK, HBr, HL20⟩ := hrel
            clear HF0 HKT HBt HB20
            by_cases hlt : k < 4
            · have hcell := Aside0.mk (HAt.out k hlt)
              have hlen := (HDl.out k hlt)
              have HLK := Aside0.mk hlen
              clear hlen
              have hw201 := add201 k hlt
              have hu201 := byte201 k hlt
              have hk4 := lt4 k hlt
              clear hk
              go_wp2_with fail
              go_loopw [22] (fun v wx => ∃ n : Nat, n ≤ ls k ∧ v = .int .i64 n ∧ Aside0 (Fam w wx As ls cs (markD D0 k n)) ∧ Aside0 (KeepT ws wx) ∧ Aside0 (Below w.heap.size w wx) ∧ Aside0 (wx.heap[g20]? = some (.cells #[Value.slice none 0 0, Value.slice none 0 0, Value.slice none 0 0, Value.slice none 0 0] 49 (0, 0)))) (fun v _ => ls k - (intOf v).toNat)
              case atStart => exact ⟨0, Nat.zero_le _, rfl, HF, HK, HBr, HL20⟩
              case round =>
                obtain ⟨n, hn, rfl, HF, HK, HBr, HL20⟩ := hrel
                have c4 := (blk_cell (HK.out g4 _ _ _ HB4.out (by decide)) k).trans hcell.out
                by_cases hnk : n < ls k
                · have hrk := HF.out.R k hlt
                  obtain ⟨ga, cap, ea, _, _, _⟩ := Kd.R_form hrk (mark_pos HLK.out.1 hnk)
                  injection ea with ea1 ea2 ea3
                  have rr := row_round (ea1 ▸ hrk) n hnk
                  obtain ⟨⟨zz, hz⟩, hfz, _⟩ := rr
                  rw [ea1] at c4
                  have HEA := Aside0.mk ea1
                  clear ea1 ea2 ea3 hrk hn
                  have hnk2 := Int.ofNat_lt.2 hnk
                  have HNK := Aside0.mk hnk
                  generalize hlsk : ls k = lk at *
                  have hl10 : lk ≤ 10000 := HLK.out.1 ▸ HLK.out.2
                  have HLS := Aside0.mk hlsk
                  clear hlsk
                  go_wp2_with fail
                  go_roundw
                  case rel =>
                    have hls := HLS.out
                    have hnk1 : n < ls k := by rw [hls]; exact HNK.out
                    have hst := HF.out.set hlt HEA.out n hnk1 (201 + (k : Int))
                    have hr2 := HF.out.R k hlt
                    have hfr := Frm.of_set wr ⟨ga, n, none⟩ (.int .u8 (201 + (k : Int)))
                    rw [HEA.out] at hr2
                    have hfr2 : Frm (fun q => some q = (Value.slice (some ⟨ga, 0, none⟩) (ls k) (cs k)).ownBlock) wr (wr.setCell ⟨ga, n, none⟩ (.int .u8 (201 + (k : Int)))) := hfr.mono (fun q _ hq => by have hq : q = ga := hq; subst hq; simp [Value.ownBlock])
                    exact ⟨n + 1, HNK.out, by go_num, ⟨hst.congr (fun j _ => markD_next D0 k n (by have := HLK.out.1; omega) j)⟩, ⟨HK.out.frm hr2 hfr2⟩, ⟨HBr.out.trans (hfr2.below HBr.out.size (fun q hq => Kd.R_base hr2 q hq.symm))⟩,
                      ⟨(hfr2.block _ (blk_lt HL20.out) (Kd.R_ne hr2 HL20.out (by decide))).trans HL20.out⟩⟩
                  case measure => have := HNK.out; simp [intOf]; omega
                · have hnl : n = ls k := by omega
                  subst hnl
                  go_wp2_with fail
                  go_roundw
                  case rel => exact ⟨k + 1, by omega, by go_num, ⟨HF.out.congr (fun j _ => by rw [HLK.out.1]; exact markD_up D0 k j)⟩, HK, HBr, HL20⟩
                  case measure => simp [intOf]; omega
            · have hk4 := nlt4 k hlt
              have hke := eq4 k hk hlt
              have HF0 := Aside0.mk ((hke ▸ HF.out).congr (fun j hj => longD_start D0 j hj))
              clear hk HF hke
              go_wp2_with fail
              go_loopw [23] (fun v wx => ∃ (p : Nat) (A' : Nat → Option Addr) (l' c' : Nat → Nat) (lr : Array Value), p ≤ 4 ∧ v = .int .i64 p ∧ Aside0 (Fam w wx A' l' c' (longD D0 p)) ∧ Aside0 (∀ j, p ≤ j → A' j = As j ∧ l' j = ls j ∧ c' j = cs j) ∧ Aside0 (Lng wx g20 p A' l' c' lr) ∧ Aside0 (KeepT ws wx) ∧ Aside0 (Below w.heap.size w wx)) (fun v _ => 4 - (intOf v).toNat)
              case atStart => exact ⟨0, As, ls, cs, _, Nat.zero_le _, rfl, HF0, ⟨fun _ _ => ⟨rfl, rfl, rfl⟩⟩, ⟨Lng.zero HL20.out rfl⟩, HK, HBr⟩
              case round =>
                obtain ⟨p, A', l', c', lr, hp, rfl, HF, HE, HLr, HK, HBr⟩ := hrel
                clear HF0 HL20 hk4 hlt
                by_cases hlt : p < 4
                · have hk4 := lt4 p hlt
                  have hw201 := add201 p hlt
                  have hu201 := byte201 p hlt
                  have c4 := (blk_cell (HK.out g4 _ _ _ HB4.out (by decide)) p).trans (HAt.out p hlt)
                  have hR := HF.out.R p hlt
                  obtain ⟨e1, e2, e3⟩ := HE.out p (Nat.le_refl _)
                  rw [longD_at, e1, e2, e3] at hR
                  have HR0 := Aside0.mk hR
                  have hl10 := (HDl.out p hlt).2
                  obtain ⟨P0, hP0⟩ : ∃ P, P = List.replicate (D0 p).length (201 + (p : Int)) := ⟨_, rfl⟩
                  have hP0l : P0.length ≤ 10000 := by rw [hP0, List.length_replicate]; exact hl10
                  rw [← hP0] at HR0
                  have HP0 := Aside0.mk hP0
                  have HAe := Aside0.mk e1
                  have HLe := Aside0.mk e2
                  have HCe := Aside0.mk e3
                  have hbase := HBr.out.size
                  clear hR e1 e2 e3 hP0 hl10 hp
                  generalize As p = Ap at *
                  generalize ls p = lp at *
                  generalize cs p = cp at *
                  go_wp2_with (first | ((with_reducible refine gate_builtin (b := .append) (xs := #[.tmp 153, .tmp 157]) rfl ?_); at_builtin; go_loud (refine app_oneN (Kd.int .u8) w.heap.size rfl (.tmp 153) (.tmp 157) 22 5 (.int .u8 0) 1 rfl Tryd.underlying22 info5 rfl (by decide) (by omega) (.slice Ap lp cp) P0 (201 + (p : Int)) [.int .u8 (201 + (p : Int))] rfl rfl rfl HR0.out hbase (by omega) ?_; intro A51 n51 c51 w51 hr51 hf51 ha51; obtain ⟨P1, hP1⟩ : ∃ P, P = P0 ++ [201 + (p : Int)] := ⟨_, rfl⟩; have hP1l : P1.length ≤ 10001 := hP1 ▸ len_snoc hP0l; have hb51 := Nat.le_trans hbase hf51.size; rw [← hP1] at hr51; have HP1 := Aside0.mk hP1; clear hP1; have HR51 := Aside0.mk hr51; have HF51 := Aside0.mk hf51; have HA51 := Aside0.mk ha51; clear hr51 hf51 ha51)) | ((with_reducible refine gate_builtin (b := .append) (xs := #[.tmp 158, .tmp 162]) rfl ?_); at_builtin; go_loud (refine app_oneN (Kd.int .u8) w.heap.size rfl (.tmp 158) (.tmp 162) 22 5 (.int .u8 0) 1 rfl Tryd.underlying22 info5 rfl (by decide) (by omega) (.slice A51 n51 c51) P1 (201 + (p : Int)) [.int .u8 (201 + (p : Int))] rfl rfl rfl HR51.out hb51 (by omega) ?_; intro A52 n52 c52 w52 hr52 hf52 ha52; have hft := Frm.own2 HF51.out HA51.out hf52; have hlg := HLr.out.move HR0.out hft; obtain ⟨old, ho⟩ := hlg.get hlt; have s20 := (blk_cell hlg.1 p).trans ho; have f20 := blk_frozen hlg.1 p; have HLg := Aside0.mk hlg; have HFt := Aside0.mk hft; clear hlg hft ho; have HR52 := Aside0.mk hr52; have HF52 := Aside0.mk hf52; have HA52 := Aside0.mk ha52; clear hr52 hf52 ha52)))
                  have hg20 : ws.heap.size ≤ g20 := Nat.le_of_eq HG20.out.symm
                  have hw20 : w.heap.size ≤ g20 := Nat.le_trans HB.out.size hg20
                  have happ := HF.out.app hlt HR52.out (by rw [HAe.out, HLe.out, HCe.out]; exact HFt.out) (by rw [HAe.out, HLe.out, HCe.out]; exact own_via HF51.out.size HA51.out HA52.out)
                  have hfam := (happ.setT HLg.out.1 (by decide) p (.slice A52 n52 c52)).congr (D' := longD D0 (p + 1)) (fun j _ => by rw [HP1.out, HP0.out, ← longD_at]; exact longD_next D0 p j)
                  have he2 : ∀ j, p + 1 ≤ j → upd A' p A52 j = As j ∧ upd l' p n52 j = ls j ∧ upd c' p c52 j = cs j := fun j hj => by
                    rw [upd_other _ _ (by omega), upd_other _ _ (by omega), upd_other _ _ (by omega)]
                    exact HE.out j (by omega)
                  have hlg2 := HLg.out.next hlt A52 n52 c52
                  have hkt2 := (HK.out.frm HR0.out HFt.out).setNew hg20 p (.slice A52 n52 c52)
                  have hbr2 := (HBr.out.trans (HFt.out.below hbase (fun q hq => Kd.R_base HR0.out q hq.symm))).setCell (p := ⟨g20, p, none⟩) hw20 (.slice A52 n52 c52)
                  go_roundw
                  case rel => exact ⟨p + 1, upd A' p A52, upd l' p n52, upd c' p c52, _, up4 p hlt, by go_num, ⟨hfam⟩, ⟨he2⟩, ⟨hlg2⟩, ⟨hkt2⟩, ⟨hbr2⟩⟩
                  case measure => simp [intOf]; omega
                · have hk4 := nlt4 p hlt
                  have hpe := eq4 p hp hlt
                  have HF4 := Aside0.mk (hpe ▸ HF.out)
                  have HL4 := Aside0.mk (hpe ▸ HLr.out)
                  clear hp HF HLr hpe HE
                  go_wp2_with fail
                  go_loop [24] (fun v => ∃ (r : Nat), r ≤ 4 ∧ v = .int .i64 r) (fun v => 4 - (intOf v).toNat)
                  case atStart => exact ⟨0, Nat.zero_le _, rfl⟩
                  case round =>
                    obtain ⟨r, hr, rfl⟩ := hrel
                    clear hk4 hlt
                    by_cases hlt : r < 4
                    · have hk4 := lt4 r hlt
                      have hw201 := add201 r hlt
                      have hu201 := byte201 r hlt
                      have c20 := (blk_cell HL4.out.1 r).trans (HL4.out.2.2 r hlt)
                      have hR := HF4.out.R r hlt
                      rw [longD_all D0 r hlt] at hR
                      have hl10 := (HDl.out r hlt).2
                      have hll := (Kd.R_reads' hR).1
                      rw [List.length_replicate] at hll
                      have HR0 := Aside0.mk hR
                      have HLL := Aside0.mk hll
                      have hl12 : l' r ≤ 10002 := by rw [hll]; exact Nat.add_le_add_right hl10 2
                      clear hR hl10 hll hr
                      generalize A' r = Ar at *
                      generalize l' r = lr2 at *
                      generalize c' r = cr at *
                      go_wp2_with fail
                      go_loop [25] (fun v => ∃ (t : Nat), t ≤ lr2 ∧ v = .int .i64 t) (fun v => lr2 - (intOf v).toNat)
                      case atStart => exact ⟨0, Nat.zero_le _, rfl⟩
                      case round =>
                        obtain ⟨t, ht, rfl⟩ := hrel
                        by_cases htl : t < lr2
                        · obtain ⟨ad, ea, hx⟩ := rep_at HR0.out t (HLL.out ▸ htl)
                          subst ea
                          have htl2 := Int.ofNat_lt.2 htl
                          have HTL := Aside0.mk htl
                          clear ht
                          go_wp2_with fail
                          go_round
                          case rel => exact ⟨t + 1, HTL.out, by go_num⟩
                          case measure => have := HTL.out; simp [intOf]; omega
                        · have htl2 : ¬ ((t : Int) < (lr2 : Int)) := fun h => htl (Int.ofNat_lt.1 h)
                          clear ht
                          go_wp2_with fail
                          go_round
                          case rel => exact ⟨r + 1, up4 r hlt, by go_num⟩
                          case measure => simp [intOf]; omega
                    · have hk4 := nlt4 r hlt
                      clear hr
                      have e5 := HK.out _ _ _ _ E5.out (by decide)
                      have e6 := HK.out _ _ _ _ E6.out (by decide)
                      have e2 := HK.out _ _ _ _ E2.out (by decide)
                      have e3 := HK.out _ _ _ _ E3.out (by decide)
                      have rg := R_keepT flat_kH (by decide) RG.out HK.out
                      have rh := R_keepT flat_kH (by decide) RH.out HK.out
                      have cg1 := R_capk rg
                      have ch1 := R_capk rh
                      replace E5 := Aside0.mk e5
                      replace E6 := Aside0.mk e6
                      replace E2 := Aside0.mk e2
                      replace E3 := Aside0.mk e3
                      replace RG := Aside0.mk rg
                      replace RH := Aside0.mk rh
                      have CG := Aside0.mk cg1
                      have CH := Aside0.mk ch1
                      replace HB := HBr
                      clear e5 e6 e2 e3 rg rh cg1 ch1 HK HBr HL4 HF4 HAt HDl HB4
                      have d5 := (blk_cell E5.out 2).trans (rfl : _ = some (Value.slice Ag ns.length cg))
                      have d2 := (blk_cell E2.out 2).trans (rfl : _ = some (Value.slice A ns.length cA))
                      go_wp2_with fail
                      refine (sameH_true ns Ag A cg cA _ (len_big hl1) (C_cut (R_C RG.out) ns.length rfl) (Kd.C_below HA.out HB.out)).mono ?_
                      rintro e w71 ⟨rfl, hb⟩
                      try replace V1 := Aside0.mk (V1.out.below hb)
                      try replace V2 := Aside0.mk (V2.out.below hb)
                      try replace V3 := Aside0.mk (V3.out.below hb)
                      try replace V4 := Aside0.mk (V4.out.below hb)
                      try replace V5 := Aside0.mk (V5.out.below hb)
                      try replace V6 := Aside0.mk (V6.out.below hb)
                      try replace V7 := Aside0.mk (V7.out.below hb)
                      try replace V8 := Aside0.mk (V8.out.below hb)
                      try replace V9 := Aside0.mk (V9.out.below hb)
                      try replace V10 := Aside0.mk (V10.out.below hb)
                      try replace V11 := Aside0.mk (V11.out.below hb)
                      try replace V12 := Aside0.mk (V12.out.below hb)
                      try replace U1 := Aside0.mk (U1.out.below hb)
                      try replace U2 := Aside0.mk (U2.out.below hb)
                      try replace U3 := Aside0.mk (U3.out.below hb)
                      try replace U4 := Aside0.mk (U4.out.below hb)
                      try replace E2 := Aside0.mk ((hb.block _ (blk_lt E2.out)).trans E2.out)
                      try replace E3 := Aside0.mk ((hb.block _ (blk_lt E3.out)).trans E3.out)
                      try replace E5 := Aside0.mk ((hb.block _ (blk_lt E5.out)).trans E5.out)
                      try replace E6 := Aside0.mk ((hb.block _ (blk_lt E6.out)).trans E6.out)
                      try replace RG := Aside0.mk (Kd.R_below RG.out hb)
                      try replace RH := Aside0.mk (Kd.R_below RH.out hb)
                      replace HB := Aside0.mk (blt HB.out hb)
                      clear hb d5 d2
                      have d5 := (blk_cell E5.out 2).trans (rfl : _ = some (Value.slice Ag ns.length cg))
                      go_wp2_with fail
                      refine (marked7_calls ns Ag cg _ (len_mid hl1) CG.out.2.1 CG.out.2.2 (by have := R_C RG.out; exact this)).mono ?_
                      rintro e w72 ⟨rfl, hb⟩
                      try replace V1 := Aside0.mk (V1.out.below hb)
                      try replace V2 := Aside0.mk (V2.out.below hb)
                      try replace V3 := Aside0.mk (V3.out.below hb)
                      try replace V4 := Aside0.mk (V4.out.below hb)
                      try replace V5 := Aside0.mk (V5.out.below hb)
                      try replace V6 := Aside0.mk (V6.out.below hb)
                      try replace V7 := Aside0.mk (V7.out.below hb)
                      try replace V8 := Aside0.mk (V8.out.below hb)
                      try replace V9 := Aside0.mk (V9.out.below hb)
                      try replace V10 := Aside0.mk (V10.out.below hb)
                      try replace V11 := Aside0.mk (V11.out.below hb)
                      try replace V12 := Aside0.mk (V12.out.below hb)
                      try replace U1 := Aside0.mk (U1.out.below hb)
                      try replace U2 := Aside0.mk (U2.out.below hb)
                      try replace U3 := Aside0.mk (U3.out.below hb)
                      try replace U4 := Aside0.mk (U4.out.below hb)
                      try replace E2 := Aside0.mk ((hb.block _ (blk_lt E2.out)).trans E2.out)
                      try replace E3 := Aside0.mk ((hb.block _ (blk_lt E3.out)).trans E3.out)
                      try replace E5 := Aside0.mk ((hb.block _ (blk_lt E5.out)).trans E5.out)
                      try replace E6 := Aside0.mk ((hb.block _ (blk_lt E6.out)).trans E6.out)
                      try replace RG := Aside0.mk (Kd.R_below RG.out hb)
                      try replace RH := Aside0.mk (Kd.R_below RH.out hb)
                      replace HB := Aside0.mk (blt HB.out hb)
                      clear hb d5
                      have d6 := (blk_cell E6.out 2).trans (rfl : _ = some (Value.slice Ah xs.length ch))
                      have d3 := (blk_cell E3.out 2).trans (rfl : _ = some (Value.slice B xs.length cB))
                      go_wp2_with fail
                      refine (sameH_true xs Ah B ch cB _ (len_big hl2) (C_cut (R_C RH.out) xs.length rfl) (Kd.C_below HXs.out HB.out)).mono ?_
                      rintro e w73 ⟨rfl, hb⟩
                      try replace V1 := Aside0.mk (V1.out.below hb)
                      try replace V2 := Aside0.mk (V2.out.below hb)
                      try replace V3 := Aside0.mk (V3.out.below hb)
                      try replace V4 := Aside0.mk (V4.out.below hb)
                      try replace V5 := Aside0.mk (V5.out.below hb)
                      try replace V6 := Aside0.mk (V6.out.below hb)
                      try replace V7 := Aside0.mk (V7.out.below hb)
                      try replace V8 := Aside0.mk (V8.out.below hb)
                      try replace V9 := Aside0.mk (V9.out.below hb)
                      try replace V10 := Aside0.mk (V10.out.below hb)
                      try replace V11 := Aside0.mk (V11.out.below hb)
                      try replace V12 := Aside0.mk (V12.out.below hb)
                      try replace U1 := Aside0.mk (U1.out.below hb)
                      try replace U2 := Aside0.mk (U2.out.below hb)
                      try replace U3 := Aside0.mk (U3.out.below hb)
                      try replace U4 := Aside0.mk (U4.out.below hb)
                      try replace E2 := Aside0.mk ((hb.block _ (blk_lt E2.out)).trans E2.out)
                      try replace E3 := Aside0.mk ((hb.block _ (blk_lt E3.out)).trans E3.out)
                      try replace E5 := Aside0.mk ((hb.block _ (blk_lt E5.out)).trans E5.out)
                      try replace E6 := Aside0.mk ((hb.block _ (blk_lt E6.out)).trans E6.out)
                      try replace RG := Aside0.mk (Kd.R_below RG.out hb)
                      try replace RH := Aside0.mk (Kd.R_below RH.out hb)
                      replace HB := Aside0.mk (blt HB.out hb)
                      clear hb d6 d3
                      have d6 := (blk_cell E6.out 2).trans (rfl : _ = some (Value.slice Ah xs.length ch))
                      go_wp2_with fail
                      refine (marked7_calls xs Ah ch _ (len_mid hl2) CH.out.2.1 CH.out.2.2 (by have := R_C RH.out; exact this)).mono ?_
                      rintro e w74 ⟨rfl, hb⟩
                      try replace V1 := Aside0.mk (V1.out.below hb)
                      try replace V2 := Aside0.mk (V2.out.below hb)
                      try replace V3 := Aside0.mk (V3.out.below hb)
                      try replace V4 := Aside0.mk (V4.out.below hb)
                      try replace V5 := Aside0.mk (V5.out.below hb)
                      try replace V6 := Aside0.mk (V6.out.below hb)
                      try replace V7 := Aside0.mk (V7.out.below hb)
                      try replace V8 := Aside0.mk (V8.out.below hb)
                      try replace V9 := Aside0.mk (V9.out.below hb)
                      try replace V10 := Aside0.mk (V10.out.below hb)
                      try replace V11 := Aside0.mk (V11.out.below hb)
                      try replace V12 := Aside0.mk (V12.out.below hb)
                      try replace U1 := Aside0.mk (U1.out.below hb)
                      try replace U2 := Aside0.mk (U2.out.below hb)
                      try replace U3 := Aside0.mk (U3.out.below hb)
                      try replace U4 := Aside0.mk (U4.out.below hb)
                      try replace E2 := Aside0.mk ((hb.block _ (blk_lt E2.out)).trans E2.out)
                      try replace E3 := Aside0.mk ((hb.block _ (blk_lt E3.out)).trans E3.out)
                      try replace E5 := Aside0.mk ((hb.block _ (blk_lt E5.out)).trans E5.out)
                      try replace E6 := Aside0.mk ((hb.block _ (blk_lt E6.out)).trans E6.out)
                      try replace RG := Aside0.mk (Kd.R_below RG.out hb)
                      try replace RH := Aside0.mk (Kd.R_below RH.out hb)
                      replace HB := Aside0.mk (blt HB.out hb)
                      clear hb d6
                      go_wp2_with fail
                      refine (awake7 _).mono ?_
                      rintro e w75 ⟨rfl, hb⟩
                      try replace V1 := Aside0.mk (V1.out.below hb)
                      try replace V2 := Aside0.mk (V2.out.below hb)
                      try replace V3 := Aside0.mk (V3.out.below hb)
                      try replace V4 := Aside0.mk (V4.out.below hb)
                      try replace V5 := Aside0.mk (V5.out.below hb)
                      try replace V6 := Aside0.mk (V6.out.below hb)
                      try replace V7 := Aside0.mk (V7.out.below hb)
                      try replace V8 := Aside0.mk (V8.out.below hb)
                      try replace V9 := Aside0.mk (V9.out.below hb)
                      try replace V10 := Aside0.mk (V10.out.below hb)
                      try replace V11 := Aside0.mk (V11.out.below hb)
                      try replace V12 := Aside0.mk (V12.out.below hb)
                      try replace U1 := Aside0.mk (U1.out.below hb)
                      try replace U2 := Aside0.mk (U2.out.below hb)
                      try replace U3 := Aside0.mk (U3.out.below hb)
                      try replace U4 := Aside0.mk (U4.out.below hb)
                      try replace E2 := Aside0.mk ((hb.block _ (blk_lt E2.out)).trans E2.out)
                      try replace E3 := Aside0.mk ((hb.block _ (blk_lt E3.out)).trans E3.out)
                      try replace E5 := Aside0.mk ((hb.block _ (blk_lt E5.out)).trans E5.out)
                      try replace E6 := Aside0.mk ((hb.block _ (blk_lt E6.out)).trans E6.out)
                      try replace RG := Aside0.mk (Kd.R_below RG.out hb)
                      try replace RH := Aside0.mk (Kd.R_below RH.out hb)
                      replace HB := Aside0.mk (blt HB.out hb)
                      clear hb
                      go_wp2_with fail
                      go_ret
                      exact ⟨rfl, HB.out⟩
    · go_enter Tryd.func5, Tryd.ntmps5
      go_wp2_with fail
      go_ret
      exact ⟨rfl, (by repeat (with_reducible first | exact Below.refl _ _ | refine below_alloc ?_ _ | refine below_drew ?_))⟩
  · go_enter Tryd.func5, Tryd.ntmps5
    go_wp2_with fail
    go_ret
    exact ⟨rfl, (by repeat (with_reducible first | exact Below.refl _ _ | refine below_alloc ?_ _ | refine below_drew ?_))⟩
end Go.Proofs.YtefnonlhepekdaaDoor.M
