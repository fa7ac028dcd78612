/- Hashes in memory: an element of a row of hashes is loaded, a variable takes one. -/
import Derived.Test.YtagcabmccpekaaaBase
import Derived.Deep.MidRow
namespace Go.Proofs.Ytagcabmccpekaaa.M
open Go.RowKit Go.Proofs.YtagcabmccpekaaaW.PrintWords Go.Proofs.YtagcabmccpekaaaW.PrintLast Go.Proofs.YtagcabmccpekaaaW.PrintMore

theorem sizeH : (Try.prog.info? 73).map (·.size) = some 32 := by kernel_rfl
theorem infoH : (Try.prog.info? 73).map (fun i => (i.zero, i.size, i.bytes)) = some (some (.agg #[.int .u8 0, .int .u8 0, .int .u8 0, .int .u8 0, .int .u8 0, .int .u8 0, .int .u8 0, .int .u8 0, .int .u8 0, .int .u8 0, .int .u8 0, .int .u8 0, .int .u8 0, .int .u8 0, .int .u8 0, .int .u8 0, .int .u8 0, .int .u8 0, .int .u8 0, .int .u8 0, .int .u8 0, .int .u8 0, .int .u8 0, .int .u8 0, .int .u8 0, .int .u8 0, .int .u8 0, .int .u8 0, .int .u8 0, .int .u8 0, .int .u8 0, .int .u8 0]), 32, 32) := by kernel_rfl
/-- A hash lies there. -/
def HashAt (w : World) (ad : Addr) (h : Hsh) : Prop := ∃ b o, ad = ⟨b, o, none⟩ ∧ w.rangeAt b o h.cells
theorem HashAt.below {w w1 : World} {ad : Addr} {h : Hsh} (hh : HashAt w ad h) (hb : Below w.heap.size w w1) : HashAt w1 ad h := by
  obtain ⟨b, o, rfl, hr⟩ := hh
  exact ⟨b, o, rfl, fun j v hv => pw_cell_below hb (hr j v hv)⟩
theorem HashAt.block {w : World} {b : Nat} {h : Hsh} {t : TypeId} {fz : Nat × Nat} (hb : w.heap[b]? = some (.cells h.cells.toArray t fz)) : HashAt w ⟨b, 0, none⟩ h := by
  refine ⟨b, 0, rfl, fun j v hv => ?_⟩
  rw [Nat.zero_add, cell_of_row w b j _ t fz hb]
  simpa using hv
theorem Hsh.one (h : Hsh) : ∀ v ∈ h.cells, v.oneCell' = true := fun u hu => by
  obtain ⟨y, _, rfl⟩ := List.mem_map.1 hu
  rfl
/-- Element j of a row of hashes. -/
theorem C_hash {w : World} {A : Option Addr} {n : Nat} {ns : List Hsh} (h : kH.C w A n ns) (j : Nat) (hj : j < ns.length) : ∃ ad, A = some ad ∧ HashAt w (ad.add (j * 32)) (ns[j]) := by
  have hl := Kd.C_len h
  obtain ⟨_, _, hr⟩ := h
  obtain ⟨ad, e, hx⟩ := hr (by omega)
  obtain ⟨c, _, hk, hc⟩ := hx j _ (List.getElem?_eq_getElem hj)
  have hk : c = (ns[j]).cells := hk
  have hc : ∀ i u, c[i]? = some u → w.cell? (ad.add (j * 32 + i)) = some u := hc
  subst hk
  refine ⟨ad, e, ?_⟩
  have hlen := (ns[j]).cells_len
  have hsp : ad.spot = none ∨ j * 32 ≠ 0 := by
    by_cases h0 : j * 32 = 0
    · left
      have h1 := hc 0 _ (List.getElem?_eq_getElem (by omega))
      rw [h0] at h1
      by_cases hs : ad.spot = none
      · exact hs
      · exfalso
        have h2 : ad.add (0 + 0) = ad := by simp [Addr.add]
        rw [h2] at h1
        unfold World.cell? at h1
        have h3 : ad.spot.isSome = true := by cases hq : ad.spot with | none => exact absurd hq hs | some _ => rfl
        split at h1
        · rw [if_pos h3] at h1
          exact absurd h1 (by simp)
        · exact absurd h1 (by simp)
    · exact .inr h0
  refine ⟨ad.block, ad.off + j * 32, ?_, fun i v hv => ?_⟩
  · unfold Addr.add
    split
    · next h0 =>
      rcases hsp with hs | hs
      · rw [h0, Nat.add_zero]
        cases ad
        simp_all
      · exact absurd h0 hs
    · rfl
  · have h1 := hc i v hv
    rwa [show ad.add (j * 32 + i) = ⟨ad.block, ad.off + j * 32 + i, none⟩ by
      unfold Addr.add
      split
      · next h0 =>
        have h4 : j * 32 = 0 := by omega
        have h5 : i = 0 := by omega
        rcases hsp with hs | hs
        · cases ad
          simp_all
        · exact absurd h4 hs
      · rw [Nat.add_assoc]] at h1

/-- A variable that holds a hash reads as 32 numbers. -/
theorem C_hash_row (w : World) (h : Hsh) (t : TypeId) {b : Nat} (hb : b = w.heap.size) : (Kd.int .u8).C (w.alloc (.cells h.cells.toArray t)) (some ⟨b, 0, none⟩) 32 h.b := by
  subst hb
  have := C_int_block .u8 (xs := h.b) (heap_new w (.cells h.cells.toArray t)) (by rw [h.len]; omega) (fun j x hj => by
    rw [List.getElem?_toArray]
    unfold Hsh.cells
    rw [List.getElem?_map, hj]
    rfl)
  rwa [h.len] at this
theorem C_hash_one {w : World} {b : Nat} {h : Hsh} {t : TypeId} {fz : Nat × Nat} (hb : w.heap[b]? = some (.cells h.cells.toArray t fz)) : kH.C w (some ⟨b, 0, none⟩) 1 [h] := by
  refine ⟨rfl, by simp, fun _ => ⟨_, rfl, fun j x hj => ?_⟩⟩
  cases j with
  | zero =>
    simp at hj
    subst hj
    refine ⟨h.cells, h.cells_len, rfl, fun i u hi => ?_⟩
    rw [Nat.zero_mul, Nat.zero_add, add_plain, cell_of_row w b i _ t fz hb]
    simpa using hi
  | succ j => simp at hj
/-- The hash that begins with x, and is 0 behind it. -/
def hash1 (x : Int) : Hsh := ⟨[x, 0, 0, 0, 0, 0, 0, 0, 0, 0, 0, 0, 0, 0, 0, 0, 0, 0, 0, 0, 0, 0, 0, 0, 0, 0, 0, 0, 0, 0, 0, 0], rfl⟩
section
variable {ops : Array Oper} {rest : List Oper} {o : Oper} {a : Act} {Q : Exit → Act → World → Prop}
/-- 'load' of a hash. -/
theorem load_hash {W : World} (hgd : o.guard = none) (x : Operand) (ho : o.op = .load 73 x) (ad : Addr) (h : Hsh) (hx : a.eval x = .pointer (some ad)) (hr : HashAt W ad h)
    (k : wpList Try.prog ops Q rest (a.put o.dst h.val) W) : wpList Try.prog ops Q (o :: rest) a W := by
  obtain ⟨b, off, rfl, hrg⟩ := hr
  exact wpList_load_mid hgd _ x ho b off hx h.cells _ hrg Try.underlying73 rfl (by rw [Hsh.cells_len]; exact sizeH) k
theorem set_all (w : World) (t : TypeId) (z : Array Value) (vs : List Value) (hl : z.size = vs.length) : (w.alloc (.cells z t)).setCells w.heap.size 0 vs = w.alloc (.cells vs.toArray t) := by
  have key : ∀ (vs : List Value) (o : Nat) (cur : Array Value), o + vs.length ≤ cur.size → (w.alloc (.cells cur t)).setCells w.heap.size o vs = w.alloc (.cells (cur.toList.take o ++ vs ++ cur.toList.drop (o + vs.length)).toArray t) := by
    intro vs
    induction vs with
    | nil =>
      intro o cur _
      simp [World.setCells]
    | cons v vs ih =>
      intro o cur hle
      rw [List.length_cons] at hle
      have e1 : (w.alloc (.cells cur t)).setCell ⟨w.heap.size, o, none⟩ v = w.alloc (.cells (cur.setIfInBounds o v) t) := by
        rw [World.setCell_alloc_at _ _ _ _ _ rfl]
      rw [show (w.alloc (.cells cur t)).setCells w.heap.size o (v :: vs) = ((w.alloc (.cells cur t)).setCell ⟨w.heap.size, o, none⟩ v).setCells w.heap.size (o + 1) vs from rfl, e1, ih (o + 1) _ (by simp; omega)]
      congr 3
      apply List.ext_getElem?
      intro i
      simp only [Array.toList_setIfInBounds, List.length_cons, List.getElem?_append, List.length_append, List.length_take, List.length_set, Array.length_toList, List.getElem?_take, List.getElem?_drop, List.getElem?_set]
      have hmin : min o cur.size = o := by omega
      have hmin1 : min (o + 1) cur.size = o + 1 := by omega
      rw [hmin, hmin1]
      by_cases c1 : i < o
      · rw [if_pos (by omega), if_pos (by omega), if_pos (by omega), if_neg (by omega), if_pos (by omega), if_pos (by omega), if_pos c1]
      · by_cases c2 : i = o
        · subst c2
          rw [if_pos (show i < i + 1 + vs.length by omega), if_pos (show i < i + 1 by omega), if_pos (show i < i + 1 by omega), if_pos rfl, if_pos (by omega), if_pos (by omega), if_neg (by omega), Nat.sub_self]
          rfl
        · by_cases c3 : i < o + 1 + vs.length
          · rw [if_pos (by omega), if_neg (by omega), if_pos (by omega), if_neg (by omega)]
            obtain ⟨d, rfl⟩ : ∃ d, i = o + 1 + d := ⟨i - (o + 1), by omega⟩
            rw [show o + 1 + d - (o + 1) = d by omega, show o + 1 + d - o = d + 1 by omega, List.getElem?_cons_succ]
          · rw [if_neg (by omega), if_neg (by omega), if_neg (by omega)]
            congr 1
            omega
  rw [key vs 0 z (by omega), List.drop_of_length_le (by rw [Array.length_toList]; omega)]
  simp
/-- A hash goes into a variable that has just been made. -/
theorem store_hash {W : World} (hgd : o.guard = none) (hd : o.dst = none) (x y : Operand) (ho : o.op = .store 73 x y) (z : Array Value) (hz : z.size = 32) (t : TypeId) (b : Nat) (hb : b = W.heap.size) (h : Hsh) (hx : a.eval x = .pointer (some ⟨b, 0, none⟩)) (hy : a.eval y = h.val)
    (k : wpList Try.prog ops Q rest a (W.alloc (.cells h.cells.toArray t))) : wpList Try.prog ops Q (o :: rest) a (W.alloc (.cells z t)) := by
  subst hb
  refine wpList_store_mid hgd _ x y ho W.heap.size 0 h.cells.toArray hx hy (fun j hj => ?_) (by rw [List.size_toArray, Hsh.cells_len]; exact sizeH) (all_oneCell_toArray h.one) ?_
  · have hj32 : j < 32 := by rwa [List.size_toArray, Hsh.cells_len] at hj
    rw [Nat.zero_add, cell_of_row _ _ j z t (0, 0) (heap_new W _), frozen_of_row _ _ j z t (heap_new W _)]
    simp
    omega
  · rw [hd]
    show wpList _ _ _ _ a _
    rw [show h.cells.toArray.toList = h.cells by simp, set_all W t z h.cells (by rw [hz, Hsh.cells_len])]
    exact k
end
end Go.Proofs.Ytagcabmccpekaaa.M
