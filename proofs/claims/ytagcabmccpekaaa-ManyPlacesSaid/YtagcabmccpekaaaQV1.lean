/- Hashes in memory: an element of a row of hashes is loaded, a variable takes one. The three closures of many.Places. What many.looked, slices.BinarySearch and the reference's Places of many leaves come to. (many.walk).down with the closures of many.Places. (many.walk).down: a spot with two kids. (many.walk).down, of any height; peaks; many.Places. What pos.Peak, pos.Path, pos.Under come to, by the plain laws. A law on a list of operations serves a region that draws its order, too. -/
import Derived.Test.YtagcabmccpekaaaQV0
import Derived.Deep.MidRow
import Derived.Laws.Rows
import Derived.Deep.RegionHeld3
import Derived.Deep.RegionLawGrows
set_option linter.unusedVariables false
set_option linter.unusedSimpArgs false
namespace Go.Proofs.Ytagcabmccpekaaa.M
open Go.RowKit Go.Proofs.YtagcabmccpekaaaW.PrintWords Go.Proofs.YtagcabmccpekaaaW.PrintLast Go.Proofs.YtagcabmccpekaaaW.PrintMore

theorem sizeH : (Try.prog.info? 73).map (·.size) = some 32 := by kernel_rfl
theorem infoH : (Try.prog.info? 73).map (fun i => (i.zero, i.size, i.bytes)) = some (some (.agg #[.int .u8 0, .int .u8 0, .int .u8 0, .int .u8 0, .int .u8 0, .int .u8 0, .int .u8 0, .int .u8 0, .int .u8 0, .int .u8 0, .int .u8 0, .int .u8 0, .int .u8 0, .int .u8 0, .int .u8 0, .int .u8 0, .int .u8 0, .int .u8 0, .int .u8 0, .int .u8 0, .int .u8 0, .int .u8 0, .int .u8 0, .int .u8 0, .int .u8 0, .int .u8 0, .int .u8 0, .int .u8 0, .int .u8 0, .int .u8 0, .int .u8 0, .int .u8 0]), 32, 32) := by kernel_rfl
/-- A hash lies there. -/
def HashAt (w : World) (ad : Addr) (h : Hsh) : Prop := ∃ b o, ad = ⟨b, o, none⟩ ∧ w.rangeAt b o h.cells
theorem HashAt.below {w w1 : World} {ad : Addr} {h : Hsh} (hh : HashAt w ad h) (hb : Below w.heap.size w w1) : HashAt w1 ad h := by
  obtain ⟨b, o, rfl, hr⟩ := hh
  exact ⟨b, o, rfl, fun j v hv => pw_cell_below hb (hr j v hv)⟩
theorem HashAt.block {w : World} {b : Nat} {h : Hsh} {t : TypeId} {fz : Nat × Nat} (hb : w.heap[b]? = some (.cells h.cells.toArray t fz)) : HashAt w ⟨b, 0, none⟩ h := by
  refine ⟨b, 0, rfl, fun j v hv => ?_⟩
  rw [Nat.zero_add, cell_of_row w b j _ t fz hb]
  simpa using hv
theorem Hsh.one (h : Hsh) : ∀ v ∈ h.cells, v.oneCell' = true := fun u hu => by
  obtain ⟨y, _, rfl⟩ := List.mem_map.1 hu
  rfl
/-- Element j of a row of hashes. -/
theorem C_hash {w : World} {A : Option Addr} {n : Nat} {ns : List Hsh} (h : kH.C w A n ns) (j : Nat) (hj : j < ns.length) : ∃ ad, A = some ad ∧ HashAt w (ad.add (j * 32)) (ns[j]) := by
  have hl := Kd.C_len h
  obtain ⟨_, _, hr⟩ := h
  obtain ⟨ad, e, hx⟩ := hr (by omega)
  obtain ⟨c, _, hk, hc⟩ := hx j _ (List.getElem?_eq_getElem hj)
  have hk : c = (ns[j]).cells := hk
  have hc : ∀ i u, c[i]? = some u → w.cell? (ad.add (j * 32 + i)) = some u := hc
  subst hk
  refine ⟨ad, e, ?_⟩
  have hlen := (ns[j]).cells_len
  have hsp : ad.spot = none ∨ j * 32 ≠ 0 := by
    by_cases h0 : j * 32 = 0
    · left
      have h1 := hc 0 _ (List.getElem?_eq_getElem (by omega))
      rw [h0] at h1
      by_cases hs : ad.spot = none
      · exact hs
      · exfalso
        have h2 : ad.add (0 + 0) = ad := by simp [Addr.add]
        rw [h2] at h1
        unfold World.cell? at h1
        have h3 : ad.spot.isSome = true := by cases hq : ad.spot with | none => exact absurd hq hs | some _ => rfl
        split at h1
        · rw [if_pos h3] at h1
          exact absurd h1 (by simp)
        · exact absurd h1 (by simp)
    · exact .inr h0
  refine ⟨ad.block, ad.off + j * 32, ?_, fun i v hv => ?_⟩
  · unfold Addr.add
    split
    · next h0 =>
      rcases hsp with hs | hs
      · rw [h0, Nat.add_zero]
        cases ad
        simp_all
      · exact absurd h0 hs
    · rfl
  · have h1 := hc i v hv
    rwa [show ad.add (j * 32 + i) = ⟨ad.block, ad.off + j * 32 + i, none⟩ by
      unfold Addr.add
      split
      · next h0 =>
        have h4 : j * 32 = 0 := by omega
        have h5 : i = 0 := by omega
        rcases hsp with hs | hs
        · cases ad
          simp_all
        · exact absurd h4 hs
      · rw [Nat.add_assoc]] at h1

/-- A variable that holds a hash reads as 32 numbers. -/
theorem C_hash_row (w : World) (h : Hsh) (t : TypeId) {b : Nat} (hb : b = w.heap.size) : (Kd.int .u8).C (w.alloc (.cells h.cells.toArray t)) (some ⟨b, 0, none⟩) 32 h.b := by
  subst hb
  have := C_int_block .u8 (xs := h.b) (heap_new w (.cells h.cells.toArray t)) (by rw [h.len]; omega) (fun j x hj => by
    rw [List.getElem?_toArray]
    unfold Hsh.cells
    rw [List.getElem?_map, hj]
    rfl)
  rwa [h.len] at this
theorem C_hash_one {w : World} {b : Nat} {h : Hsh} {t : TypeId} {fz : Nat × Nat} (hb : w.heap[b]? = some (.cells h.cells.toArray t fz)) : kH.C w (some ⟨b, 0, none⟩) 1 [h] := by
  refine ⟨rfl, by simp, fun _ => ⟨_, rfl, fun j x hj => ?_⟩⟩
  cases j with
  | zero =>
    simp at hj
    subst hj
    refine ⟨h.cells, h.cells_len, rfl, fun i u hi => ?_⟩
    rw [Nat.zero_mul, Nat.zero_add, add_plain, cell_of_row w b i _ t fz hb]
    simpa using hi
  | succ j => simp at hj
/-- The hash that begins with x, and is 0 behind it. -/
def hash1 (x : Int) : Hsh := ⟨[x, 0, 0, 0, 0, 0, 0, 0, 0, 0, 0, 0, 0, 0, 0, 0, 0, 0, 0, 0, 0, 0, 0, 0, 0, 0, 0, 0, 0, 0, 0, 0], rfl⟩
section
variable {ops : Array Oper} {rest : List Oper} {o : Oper} {a : Act} {Q : Exit → Act → World → Prop}
/-- 'load' of a hash. -/
theorem load_hash {W : World} (hgd : o.guard = none) (x : Operand) (ho : o.op = .load 73 x) (ad : Addr) (h : Hsh) (hx : a.eval x = .pointer (some ad)) (hr : HashAt W ad h)
    (k : wpList Try.prog ops Q rest (a.put o.dst h.val) W) : wpList Try.prog ops Q (o :: rest) a W := by
  obtain ⟨b, off, rfl, hrg⟩ := hr
  exact wpList_load_mid hgd _ x ho b off hx h.cells _ hrg Try.underlying73 rfl (by rw [Hsh.cells_len]; exact sizeH) k
theorem set_all (w : World) (t : TypeId) (z : Array Value) (vs : List Value) (hl : z.size = vs.length) : (w.alloc (.cells z t)).setCells w.heap.size 0 vs = w.alloc (.cells vs.toArray t) := by
  have key : ∀ (vs : List Value) (o : Nat) (cur : Array Value), o + vs.length ≤ cur.size → (w.alloc (.cells cur t)).setCells w.heap.size o vs = w.alloc (.cells (cur.toList.take o ++ vs ++ cur.toList.drop (o + vs.length)).toArray t) := by
    intro vs
    induction vs with
    | nil =>
      intro o cur _
      simp [World.setCells]
    | cons v vs ih =>
      intro o cur hle
      rw [List.length_cons] at hle
      have e1 : (w.alloc (.cells cur t)).setCell ⟨w.heap.size, o, none⟩ v = w.alloc (.cells (cur.setIfInBounds o v) t) := by
        rw [World.setCell_alloc_at _ _ _ _ _ rfl]
      rw [show (w.alloc (.cells cur t)).setCells w.heap.size o (v :: vs) = ((w.alloc (.cells cur t)).setCell ⟨w.heap.size, o, none⟩ v).setCells w.heap.size (o + 1) vs from rfl, e1, ih (o + 1) _ (by simp; omega)]
      congr 3
      apply List.ext_getElem?
      intro i
      simp only [Array.toList_setIfInBounds, List.length_cons, List.getElem?_append, List.length_append, List.length_take, List.length_set, Array.length_toList, List.getElem?_take, List.getElem?_drop, List.getElem?_set]
      have hmin : min o cur.size = o := by omega
      have hmin1 : min (o + 1) cur.size = o + 1 := by omega
      rw [hmin, hmin1]
      by_cases c1 : i < o
      · rw [if_pos (by omega), if_pos (by omega), if_pos (by omega), if_neg (by omega), if_pos (by omega), if_pos (by omega), if_pos c1]
      · by_cases c2 : i = o
        · subst c2
          rw [if_pos (show i < i + 1 + vs.length by omega), if_pos (show i < i + 1 by omega), if_pos (show i < i + 1 by omega), if_pos rfl, if_pos (by omega), if_pos (by omega), if_neg (by omega), Nat.sub_self]
          rfl
        · by_cases c3 : i < o + 1 + vs.length
          · rw [if_pos (by omega), if_neg (by omega), if_pos (by omega), if_neg (by omega)]
            obtain ⟨d, rfl⟩ : ∃ d, i = o + 1 + d := ⟨i - (o + 1), by omega⟩
            rw [show o + 1 + d - (o + 1) = d by omega, show o + 1 + d - o = d + 1 by omega, List.getElem?_cons_succ]
          · rw [if_neg (by omega), if_neg (by omega), if_neg (by omega)]
            congr 1
            omega
  rw [key vs 0 z (by omega), List.drop_of_length_le (by rw [Array.length_toList]; omega)]
  simp
/-- A hash goes into a variable that has just been made. -/
theorem store_hash {W : World} (hgd : o.guard = none) (hd : o.dst = none) (x y : Operand) (ho : o.op = .store 73 x y) (z : Array Value) (hz : z.size = 32) (t : TypeId) (b : Nat) (hb : b = W.heap.size) (h : Hsh) (hx : a.eval x = .pointer (some ⟨b, 0, none⟩)) (hy : a.eval y = h.val)
    (k : wpList Try.prog ops Q rest a (W.alloc (.cells h.cells.toArray t))) : wpList Try.prog ops Q (o :: rest) a (W.alloc (.cells z t)) := by
  subst hb
  refine wpList_store_mid hgd _ x y ho W.heap.size 0 h.cells.toArray hx hy (fun j hj => ?_) (by rw [List.size_toArray, Hsh.cells_len]; exact sizeH) (all_oneCell_toArray h.one) ?_
  · have hj32 : j < 32 := by rwa [List.size_toArray, Hsh.cells_len] at hj
    rw [Nat.zero_add, cell_of_row _ _ j z t (0, 0) (heap_new W _), frozen_of_row _ _ j z t (heap_new W _)]
    simp
    omega
  · rw [hd]
    show wpList _ _ _ _ a _
    rw [show h.cells.toArray.toList = h.cells by simp, set_all W t z h.cells (by rw [hz, Hsh.cells_len])]
    exact k
end
end Go.Proofs.Ytagcabmccpekaaa.M

namespace Go.Proofs.Ytagcabmccpekaaa.M
open Go.RowKit Go.Proofs.YtagcabmccpekaaaW.PrintWords Go.Proofs.YtagcabmccpekaaaW.PrintLast Go.Proofs.YtagcabmccpekaaaW.PrintMore Go.Proofs.Ytagcabmccpekaaa.Leaf

section
variable {ops : Array Oper} {rest : List Oper} {o : Oper} {a : Act} {Q : Exit → Act → World → Prop}
/-- A hash goes into a variable that holds one. -/
theorem store_hash_g {W : World} (hgd : o.guard = none) (hd : o.dst = none) (x y : Operand) (ho : o.op = .store 73 x y) (z : Array Value) (hz : z.size = 32) (t : TypeId) (g : Nat) (hg : W.heap[g]? = some (.cells z t (0, 0))) (h : Hsh) (hx : a.eval x = .pointer (some ⟨g, 0, none⟩)) (hy : a.eval y = h.val)
    (k : ∀ W1, W1.heap[g]? = some (.cells h.cells.toArray t (0, 0)) → Frm (fun k => k = g) W W1 → wpList Try.prog ops Q rest a W1) : wpList Try.prog ops Q (o :: rest) a W := by
  refine wpList_store_mid hgd _ x y ho g 0 h.cells.toArray hx hy (fun j hj => ?_) (by rw [List.size_toArray, Hsh.cells_len]; exact sizeH) (all_oneCell_toArray h.one) ?_
  · have hj32 : j < 32 := by rwa [List.size_toArray, Hsh.cells_len] at hj
    rw [Nat.zero_add, cell_of_row _ _ j z t (0, 0) hg, frozen_of_row _ _ j z t hg]
    simp
    omega
  · rw [hd]
    show wpList _ _ _ _ a _
    rw [show h.cells.toArray.toList = h.cells by simp]
    obtain ⟨c, hc, hs, hl⟩ := setCells_row (g := g) h.cells 0 W z hg (by rw [Hsh.cells_len]; omega)
    have e : c = h.cells.toArray := by
      apply Array.toList_inj.1
      rw [hl, Hsh.cells_len, List.drop_of_length_le (by rw [Array.length_toList]; omega)]
      simp
    rw [e] at hc
    exact k _ hc ⟨(setCells_same g _ _ _).1, (setCells_same g _ _ _).2.1, (setCells_same g _ _ _).2.2.1, Nat.le_of_eq (setCells_same g _ _ _).2.2.2.symm, fun k hk hn => setCells_far _ _ k hn⟩
end
theorem heap_new2 (w : World) (o : Obj) {b : Nat} (hb : b = w.heap.size) : (w.alloc o).heap[b]? = some o := by subst hb; exact heap_new w o
/-- The hash of zeros. -/
def hashZ : Hsh := ⟨[0, 0, 0, 0, 0, 0, 0, 0, 0, 0, 0, 0, 0, 0, 0, 0, 0, 0, 0, 0, 0, 0, 0, 0, 0, 0, 0, 0, 0, 0, 0, 0], rfl⟩
/-- Block bl's row has grown by ps. -/
def Tell (bl base : Nat) (v : Value) (xs ps : List Int) (w w' : World) : Prop := Told bl base v xs ps w (.returned (.tuple #[])) w'

set_option maxHeartbeats 1000000 in
set_option maxRecDepth 100000 in
theorem many_leaf (i : Int) (w : World) : Calls Try.prog 66 #[.int .u64 i] w fun e w' => e = .returned hashZ.val ∧ Below w.heap.size w w' := by
  go_enter Try.func66, Try.ntmps66
  go_wp2_with ((with_reducible refine gate_store (t := 73) (p := 2) (v := .tmp 3) rfl ?_); go_loud (refine store_hash rfl rfl (.tmp 2) (.tmp 3) rfl _ rfl _ _ rfl hashZ rfl rfl ?_))
  (try simp only [Exit.inBlock, Exit.then])
  refine bodyPost_ret (results_cell_row rfl _ _ (w.heap.size) 73 hashZ.cells.toArray (0, 0) _ rfl (heap_new w _) Try.underlying73 rfl (by rw [sizeH]; rfl)) rfl ?_
  exact ⟨rfl, bl_new w _⟩
set_option maxHeartbeats 1000000 in
set_option maxRecDepth 100000 in
theorem many_join (x y : Value) (w : World) (hx : x = hashZ.val) (hy : y = hashZ.val) : Calls Try.prog 67 #[x, y] w fun e w' => e = .returned hashZ.val ∧ Below w.heap.size w w' := by
  subst hx hy
  go_enter Try.func67, Try.ntmps67
  go_wp2_with ((with_reducible refine gate_store (t := 73) (p := 4) (v := .tmp 5) rfl ?_); go_loud (refine store_hash rfl rfl (.tmp 4) (.tmp 5) rfl _ rfl _ (w.heap.size + 1 + 1) (by simp) hashZ rfl rfl ?_))
  (try simp only [Exit.inBlock, Exit.then])
  refine bodyPost_ret (results_cell_row rfl _ _ (w.heap.size + 1 + 1) 73 hashZ.cells.toArray (0, 0) _ rfl (heap_new2 _ _ (by simp)) Try.underlying73 rfl (by rw [sizeH]; rfl)) rfl ?_
  exact ⟨rfl, below_alloc (below_alloc (bl_new w _) _) _⟩
set_option maxHeartbeats 1000000 in
set_option maxRecDepth 100000 in
theorem many_need (p : Int) (bl : Nat) (v : Value) (xs : List Int) (base : Nat) (w : World)
    (hbl : w.heap[bl]? = some (.cells #[v] 23 (0, 0))) (hv : Kd.R (Kd.int .u64) 22 w base (fun _ => True) v xs) (hbase : base ≤ w.heap.size) (hl : xs.length < 17592186044415) :
    Calls Try.prog 65 #[.int .u64 p, .pointer (some ⟨bl, 0, none⟩)] w fun e w' => e = .returned hashZ.val ∧ Tell bl base v xs [p] w w' := by
  have hlt := blk_lt hbl
  obtain ⟨w1, hw1⟩ : ∃ w1, w1 = w.alloc (.cells hashZ.cells.toArray 73) := ⟨_, rfl⟩
  have hb0 : Below w.heap.size w w1 := by rw [hw1]; exact bl_new w _
  have hz1 : w1.heap[w.heap.size]? = some (.cells hashZ.cells.toArray 73 (0, 0)) := by rw [hw1]; exact heap_new w _
  have hbl1 : w1.heap[bl]? = some (.cells #[v] 23 (0, 0)) := (hb0.block bl hlt).trans hbl
  have hv1 := Kd.R_below hv hb0
  have hsz := hb0.size
  have hbs1 : base ≤ w1.heap.size := by omega
  have hc0 : w1.cell? ⟨bl, 0, none⟩ = some v := (blk_cell hbl1 0).trans rfl
  have H := Aside0.mk hv1
  have HB := Aside0.mk hbl1
  have HL := Aside0.mk hl
  have H0 := Aside0.mk hb0
  have HZ := Aside0.mk hz1
  have HV := Aside0.mk (Kd.R_lt hv)
  have HW := Aside0.mk hw1
  clear hv hbl hl hb0 hv1 hbl1 hz1 hw1
  go_enter Try.func65, Try.ntmps65
  go_upto_region 1 with (fail)
  change Code.wp _ _ _ _ (w.alloc (.cells hashZ.cells.toArray 73))
  rw [← HW.out]
  go_upto_region 2 with (at_builtin; go_loud (refine app_one (Kd.int .u64) (W := w1) base rfl (.tmp 4) (.tmp 6) 23 22 (.int .u64 0) 8 rfl Try.underlying23 info22 rfl (by decide) (by omega) v xs p [.int .u64 p] rfl rfl rfl H.out hbs1 (by have := HL.out; omega) ?_; intro A1 c1 w2 hr2 hf2 hat2; have hne := Aside0.mk (Kd.R_ne H.out HB.out (by decide)); have hbl2 : w2.heap[bl]? = some (.cells #[v] 23 (0, 0)) := (hf2.block bl (blk_lt HB.out) hne.out).trans HB.out; have hz2 := Aside0.mk ((hf2.block w.heap.size (blk_lt HZ.out) (fun hk => by have := HV.out _ hk.symm; omega)).trans HZ.out); have hc2 : w2.cell? ⟨bl, 0, none⟩ = some v := (blk_cell hbl2 0).trans rfl; have hfz2 : w2.frozen? ⟨bl, 0, none⟩ = false := blk_frozen hbl2 0; have HB2 := Aside0.mk hbl2; have HR2 := Aside0.mk hr2; have HF2 := Aside0.mk hf2; have HA2 := Aside0.mk hat2; clear hbl2 hr2 hf2 hat2 hne))
  have hz3 := Aside0.mk ((Below.heap_setCell w2 ⟨bl, 0, none⟩ (.slice A1 (xs.length + 1) c1) w.heap.size (by simp; omega)).trans hz2.out)
  go_wp2_with ((with_reducible refine gate_store (t := 73) (p := 3) (v := .tmp 8) rfl ?_); go_loud (refine store_hash_g rfl rfl (.tmp 3) (.tmp 8) rfl _ rfl _ w.heap.size hz3.out hashZ rfl rfl ?_; intro w4 hz4 hf4; have HZ4 := Aside0.mk hz4; have HF4 := Aside0.mk hf4; clear hz4 hf4))
  (try simp only [Exit.inBlock, Exit.then])
  refine bodyPost_ret (results_cell_row rfl _ _ w.heap.size 73 hashZ.cells.toArray (0, 0) _ rfl HZ4.out Try.underlying73 rfl (by rw [sizeH]; rfl)) rfl ?_
  have hne : bl ≠ w.heap.size := by omega
  have hr3 := Kd.R_set HR2.out HB2.out (by decide) 0 (.slice A1 (xs.length + 1) c1)
  have hnz : ∀ k, (Value.slice A1 (xs.length + 1) c1).ownBlock = some k → ¬ k = w.heap.size := by
    intro k hk he
    rcases HA2.out with h1 | ⟨b1, h1, h2⟩
    · have := HV.out k (by rw [← h1]; exact hk)
      omega
    · rw [h1] at hk
      injection hk with hk
      have := blk_lt HZ.out
      omega
  refine ⟨rfl, rfl, .slice A1 (xs.length + 1) c1, ?_, R_frm (flat_int .u64) hr3 HF4.out hnz, ?_, ?_⟩
  · exact (HF4.out.block bl (by have := blk_lt HB2.out; simpa [World.setCell] using this) hne).trans (blk_set HB2.out 0 _)
  · refine Frm.trans (S := fun k => k = bl ∨ some k = v.ownBlock) (((Frm.of_below H0.out _).trans HF2.out (fun _ _ hk => .inr hk)).trans (Frm.of_set _ _ _) (fun _ _ hk => .inl hk)) HF4.out (fun k hk he => ?_)
    omega
  · rcases HA2.out with h1 | ⟨b1, h1, h2⟩
    · exact .inl h1
    · exact .inr ⟨b1, h1, by omega⟩
end Go.Proofs.Ytagcabmccpekaaa.M

namespace Go.Proofs.Ytagcabmccpekaaa.M
open Go.RowKit Go.Proofs.YtagcabmccpekaaaW.PrintWords Go.Proofs.YtagcabmccpekaaaW.PrintLast Go.Proofs.YtagcabmccpekaaaW.PrintMore Go.Proofs.Ytagcabmccpekaaa.Leaf

theorem rd_ints (l : List Nat) (j : Nat) (hj : j < l.length) : rd (intsOf l) (j : Int) = (l[j] : Int) := by
  simp [rd, intsOf, List.getD_eq_getElem?_getD, List.getElem?_map, List.getElem?_eq_getElem hj]
theorem ints_len (l : List Nat) : (intsOf l).length = l.length := by simp [intsOf]
/-- The number ahead. -/
def ahead (l : List Nat) (j : Nat) : Option Nat := if j = 0 then none else l[j - 1]?
theorem look_loop (l : List Nat) (n : Nat) (hl : l.length ≤ 4611686018427387904) : ∀ (d j : Nat), j + d = l.length →
    Ev (fun k => many_looked.l0 k (intsOf l) (n : Int) (intsOf l) ((intsOf l).length : Int) (j : Int)) (lookF n (ahead l j) (l.drop j))
  | 0, j, hj => by
    rw [List.drop_of_length_le (by omega)]
    exact Ev.step (f := fun _ => some (lookF n (ahead l j) [])) (fun k => by simp only [many_looked.l0]; rw [if_neg (by rw [ints_len]; omega), lookF_nil]) (Ev.now _)
  | d + 1, j, hj => by
    have hjl : j < l.length := by omega
    have ih := look_loop l n hl d (j + 1) (by omega)
    have e1 : wrap64 ((j : Int) + 1) = ((j + 1 : Nat) : Int) := by rw [i64_of _ (by omega) (by omega)]; omega
    have ea : ahead l (j + 1) = some l[j] := by unfold ahead; rw [if_neg (by omega), Nat.add_sub_cancel, List.getElem?_eq_getElem hjl]
    rw [ea] at ih
    rw [List.drop_eq_getElem_cons hjl]
    have tail : ∀ b : Bool, (∀ r, Ev (fun k => many_looked.j1 k (intsOf l) (n : Int) (l[j] : Int) (intsOf l) ((intsOf l).length : Int) (j : Int) b) r → Ev (fun k => many_looked.l0 k (intsOf l) (n : Int) (intsOf l) ((intsOf l).length : Int) (j : Int)) r) → b = badP (ahead l j) l[j] →
        Ev (fun k => many_looked.l0 k (intsOf l) (n : Int) (intsOf l) ((intsOf l).length : Int) (j : Int)) (lookF n (ahead l j) (l[j] :: l.drop (j + 1))) := by
      intro b hto hb
      refine hto _ ?_
      cases b with
      | true =>
        rw [lookF_bad hb.symm]
        exact Ev.step (f := fun _ => some 71) (fun k => by simp only [many_looked.j1]; rw [if_pos trivial]) (Ev.now _)
      | false =>
        by_cases c : n ≤ l[j]
        · rw [lookF_big hb.symm c]
          exact Ev.step (f := fun _ => some 32) (fun k => by simp only [many_looked.j1]; rw [if_neg (by simp), if_pos (by omega)]) (Ev.now _)
        · rw [lookF_go hb.symm c]
          exact Ev.step (fun k => by simp only [many_looked.j1]; rw [if_neg (by simp), if_neg (by omega), e1]) ih
    by_cases h0 : j = 0
    · refine tail false (fun r hr => Ev.step (fun k => by simp only [many_looked.l0]; rw [if_pos (by rw [ints_len]; omega), if_pos (by omega), if_pos (by rw [ints_len]; omega), if_neg (by omega), rd_ints l j hjl]) hr) ?_
      unfold ahead
      rw [if_pos h0]
      rfl
    · have e0 : wrap64 ((j : Int) - 1) = ((j - 1 : Nat) : Int) := by rw [i64_of _ (by omega) (by omega)]; omega
      have ea0 : ahead l j = some l[j - 1] := by unfold ahead; rw [if_neg h0, List.getElem?_eq_getElem (by omega)]
      refine tail (decide ((l[j] : Int) ≤ (l[j - 1] : Int))) (fun r hr => Ev.step (fun k => by simp only [many_looked.l0]; rw [if_pos (by rw [ints_len]; omega), if_pos (by omega), if_pos (by rw [ints_len]; omega), if_pos (by omega), e0, if_pos (by omega), if_pos (by rw [ints_len]; omega), rd_ints l j hjl, rd_ints l (j - 1) (by omega)]) hr) ?_
      rw [ea0]
      exact decide_eq_decide.2 (by omega)
theorem looked_val (l : List Nat) (n : Nat) (hl : l.length ≤ 4611686018427387904) : Ev (fun k => many_looked.f k (intsOf l) (n : Int)) (lookN l n) := by
  unfold many_looked.f lookN
  by_cases c : 4611686018427387904 < n
  · rw [if_pos c]
    exact Ev.congr (fun k => if_pos (by omega)) (Ev.now _)
  · rw [if_neg c]
    refine Ev.congr (fun k => if_neg (by omega)) ?_
    have := look_loop l n hl l.length 0 (by omega)
    rw [List.drop_zero] at this
    exact this
theorem nan_val (a : Int) : slices_isNaN_uint64.f a = some false := by unfold slices_isNaN_uint64.f; simp
theorem less_val (a b : Int) : cmp_Less_uint64.f a b = some (decide (a < b)) := by unfold cmp_Less_uint64.f cmp_isNaN_uint64.f; simp
theorem bs_loop (l : List Nat) (t : Nat) (hl : l.length ≤ 4611686018427387904) (hu : Up l) : ∀ (d i j : Nat), i ≤ cutN l t → cutN l t ≤ j → j ≤ l.length → j - i ≤ d →
    ∃ b, Ev (fun k => slices_BinarySearch_uint64_uint64.l0 k (intsOf l) (t : Int) ((intsOf l).length : Int) (i : Int) (j : Int)) (((cutN l t : Nat) : Int), b)
  | d, i, j, hi, hj, hjl, hd => by
    by_cases c : i < j
    · obtain ⟨d, rfl⟩ : ∃ d', d = d' + 1 := ⟨d - 1, by omega⟩
      have em : wrap64 ((IntKind.u64.wrap (wrap64 ((i : Int) + (j : Int)))) / 2) = (((i + j) / 2 : Nat) : Int) := by
        rw [i64_of ((i : Int) + (j : Int)) (by omega) (by omega), w64_of _ (by omega) (by omega), i64_of _ (by omega) (by omega)]
        omega
      have hm : (i + j) / 2 < l.length := by omega
      have hat := up_at (t := t) hu ((i + j) / 2) hm
      have e1 : wrap64 ((((i + j) / 2 : Nat) : Int) + 1) = (((i + j) / 2 + 1 : Nat) : Int) := by rw [i64_of _ (by omega) (by omega)]; omega
      by_cases hx : l[(i + j) / 2] < t
      · obtain ⟨b, hb⟩ := bs_loop l t hl hu d ((i + j) / 2 + 1) j (by have := hat.1 hx; omega) hj hjl (by omega)
        refine ⟨b, Ev.step (fun k => by simp only [slices_BinarySearch_uint64_uint64.l0]; rw [if_pos (by omega), em, if_pos (by omega), if_pos (by rw [ints_len]; omega), rd_ints l _ hm, less_val, Option.bind_some, if_pos (by rw [decide_eq_true_eq]; omega), e1]) hb⟩
      · obtain ⟨b, hb⟩ := bs_loop l t hl hu d i ((i + j) / 2) hi (by have : ¬ (i + j) / 2 < cutN l t := fun h => hx (hat.2 h); omega) (by omega) (by omega)
        refine ⟨b, Ev.step (fun k => by simp only [slices_BinarySearch_uint64_uint64.l0]; rw [if_pos (by omega), em, if_pos (by omega), if_pos (by rw [ints_len]; omega), rd_ints l _ hm, less_val, Option.bind_some, if_neg (by rw [decide_eq_true_eq]; omega)]) hb⟩
    · have hic : i = cutN l t := by omega
      subst hic
      have hle := cut_le l t
      by_cases c2 : cutN l t < l.length
      · by_cases c3 : (l[cutN l t] : Int) = (t : Int)
        · exact ⟨true, Ev.step (f := fun _ => some (((cutN l t : Nat) : Int), true)) (fun k => by simp only [slices_BinarySearch_uint64_uint64.l0]; rw [if_neg (by omega), if_pos (by rw [ints_len]; omega), if_pos (by omega), if_pos (by rw [ints_len]; omega), rd_ints l _ c2, if_pos c3]) (Ev.now _)⟩
        · exact ⟨false, Ev.step (f := fun _ => some (((cutN l t : Nat) : Int), false)) (fun k => by simp only [slices_BinarySearch_uint64_uint64.l0]; rw [if_neg (by omega), if_pos (by rw [ints_len]; omega), if_pos (by omega), if_pos (by rw [ints_len]; omega), rd_ints l _ c2, if_neg c3, nan_val, Option.bind_some, if_neg (by simp)]) (Ev.now _)⟩
      · exact ⟨false, Ev.step (f := fun _ => some (((cutN l t : Nat) : Int), false)) (fun k => by simp only [slices_BinarySearch_uint64_uint64.l0]; rw [if_neg (by omega), if_neg (by rw [ints_len]; omega)]) (Ev.now _)⟩
  termination_by d => d
theorem bs_val (l : List Nat) (t : Nat) (hl : l.length ≤ 4611686018427387904) (hu : Up l) : ∃ b, Ev (fun k => slices_BinarySearch_uint64_uint64.f k (intsOf l) (t : Int)) (((cutN l t : Nat) : Int), b) := by
  have := bs_loop l t hl hu l.length 0 l.length (Nat.zero_le _) (cut_le l t) (Nat.le_refl _) (by omega)
  unfold slices_BinarySearch_uint64_uint64.f
  rw [← ints_len] at this
  exact this

/-! The reference. -/
theorem und_loop (h i : Nat) (l : List Nat) (hh : h ≤ 62) (hlt : ∀ x ∈ l, x < 18446744073709551616) (hl : l.length ≤ 1000000) : ∀ (d j : Nat) (acc : List Nat), j + d = l.length → acc.length + d ≤ 1000000 →
    Ev (fun k => massifref10_under.l0 k (intsOf l) ((2 ^ h : Nat) : Int) (intsOf acc) (j : Int) (h : Int) (i : Int)) (intsOf (acc ++ undL h i (l.drop j)))
  | 0, j, acc, hj, _ => by
    rw [List.drop_of_length_le (by omega), show acc ++ undL h i [] = acc by simp [undL]]
    exact Ev.step (f := fun _ => some (intsOf acc)) (fun k => by simp only [massifref10_under.l0]; rw [if_neg (by rw [ints_len]; omega)]) (Ev.now _)
  | d + 1, j, acc, hj, ha => by
    have hjl : j < l.length := by omega
    have hx := hlt _ (List.getElem_mem hjl)
    have hp := p2_pos h
    have e1 : wrap64 ((j : Int) + 1) = ((j + 1 : Nat) : Int) := by rw [i64_of _ (by omega) (by omega)]; omega
    have hq : l[j] / 2 ^ h ≤ l[j] := Nat.div_le_self _ _
    have et : IntKind.u64.wrap (Int.tdiv (l[j] : Int) ((2 ^ h : Nat) : Int)) = ((l[j] / 2 ^ h : Nat) : Int) := by
      rw [show Int.tdiv (l[j] : Int) ((2 ^ h : Nat) : Int) = ((l[j] / 2 ^ h : Nat) : Int) from rfl]
      exact w64_nat _ (by omega)
    rw [List.drop_eq_getElem_cons hjl]
    by_cases c : l[j] / 2 ^ h = i
    · have ih := und_loop h i l hh hlt hl d (j + 1) (acc ++ [l[j]]) (by omega) (by simp; omega)
      rw [show acc ++ undL h i (l[j] :: l.drop (j + 1)) = acc ++ [l[j]] ++ undL h i (l.drop (j + 1)) by unfold undL; rw [List.filter_cons, if_pos (by simpa using c)]; simp]
      have e2 : intsOf (acc ++ [l[j]]) = intsOf acc ++ [(l[j] : Int)] := by simp [intsOf]
      rw [e2] at ih
      exact Ev.step (fun k => by simp only [massifref10_under.l0]; rw [if_pos (by rw [ints_len]; omega), if_pos (by omega), if_neg (by omega), rd_ints l j hjl, et, if_pos (by rw [c]), if_pos (by rw [ints_len]; omega), e1]) ih
    · have ih := und_loop h i l hh hlt hl d (j + 1) acc (by omega) (by omega)
      rw [show acc ++ undL h i (l[j] :: l.drop (j + 1)) = acc ++ undL h i (l.drop (j + 1)) by unfold undL; rw [List.filter_cons, if_neg (by simpa using c)]]
      exact Ev.step (fun k => by simp only [massifref10_under.l0]; rw [if_pos (by rw [ints_len]; omega), if_pos (by omega), if_neg (by omega), rd_ints l j hjl, et, if_neg (show ¬ ((l[j] / 2 ^ h : Nat) : Int) = (i : Int) from fun hc => c (Int.ofNat.inj hc)), e1]) ih
theorem und_val (h i : Nat) (l : List Nat) (hh : h ≤ 62) (hlt : ∀ x ∈ l, x < 18446744073709551616) (hl : l.length ≤ 1000000) : Ev (fun k => massifref10_under.f k (h : Int) (i : Int) (intsOf l)) (intsOf (undL h i l)) := by
  unfold massifref10_under.f
  rw [i64_of (h : Int) (by omega) (by omega)]
  refine Ev.bind (power_val h (by omega)) ?_
  have := und_loop h i l hh hlt hl l.length 0 [] (by omega) (by simpa using hl)
  rw [List.drop_zero, List.nil_append] at this
  exact this
theorem und_sub {h i : Nat} {l : List Nat} : ∀ x ∈ undL h i l, x ∈ l := fun _ hx => (List.mem_filter.1 hx).1
theorem need_val : ∀ (h i : Nat) (l : List Nat), (i + 1) * 2 ^ h ≤ 4611686018427387904 → (∀ x ∈ l, x < 18446744073709551616) → l.length ≤ 1000000 → Ev (fun k => massifref10_needs.f k (h : Int) (i : Int) (intsOf l)) (spotsOf (mneed h i l))
  | 0, i, l, hi, hlt, hl => by
    refine Ev.step (fun k => by simp only [massifref10_needs.f]; rfl) ?_
    refine Ev.bind (und_val 0 i l (by omega) hlt hl) ?_
    simp only [mneed]
    by_cases c : undL 0 i l = []
    · rw [c, if_pos rfl]
      exact Ev.now _
    · rw [if_neg c]
      have hp : 0 < (undL 0 i l).length := List.length_pos_iff.2 c
      refine Ev.congr (fun k => if_neg (by rw [ints_len]; omega)) ?_
      exact Ev.congr (fun k => if_pos rfl) (Ev.now _)
  | h + 1, i, l, hi, hlt, hl => by
    have hh := height_le (h + 1) i hi
    have hr := kid_right h i
    have hm : (2 * i + 1) * 2 ^ h ≤ (2 * i + 1 + 1) * 2 ^ h := Nat.mul_le_mul_right _ (by omega)
    have hi1 : i + 1 ≤ 4611686018427387904 := Nat.le_trans (Nat.le_mul_of_pos_right _ (p2_pos (h + 1))) hi
    refine Ev.step (fun k => by simp only [massifref10_needs.f]; rfl) ?_
    refine Ev.bind (und_val (h + 1) i l (by omega) hlt hl) ?_
    simp only [mneed]
    by_cases c : undL (h + 1) i l = []
    · rw [c, if_pos rfl]
      exact Ev.now _
    · rw [if_neg c]
      have hp : 0 < (undL (h + 1) i l).length := List.length_pos_iff.2 c
      have hul := und_len (h + 1) i l
      refine Ev.congr (fun k => if_neg (by rw [ints_len]; omega)) ?_
      refine Ev.congr (fun k => if_neg (by omega)) ?_
      generalize hu : undL (h + 1) i l = u at *
      have hus : ∀ x ∈ u, x < 18446744073709551616 := fun x hx => hlt x (by rw [← hu] at hx; exact und_sub x hx)
      have i1 := need_val h (2 * i) u (by omega) hus (by omega)
      have i2 := need_val h (2 * i + 1) u (by omega) hus (by omega)
      have l1 := mneed_len h (2 * i) u
      have l2 := mneed_len h (2 * i + 1) u
      have m1 : h * (undL h (2 * i) u).length ≤ 62 * 1000000 := Nat.mul_le_mul (by omega) (Nat.le_trans (und_len h (2 * i) u) (by omega))
      have m2 : h * (undL h (2 * i + 1) u).length ≤ 62 * 1000000 := Nat.mul_le_mul (by omega) (Nat.le_trans (und_len h (2 * i + 1) u) (by omega))
      rw [show ((((h + 1 : Nat) : Int) - 1) % 256) = (h : Int) by omega, w64_of (2 * (i : Int)) (by omega) (by omega), show (2 * (i : Int)) = ((2 * i : Nat) : Int) by omega, w64_of (((2 * i : Nat) : Int) + 1) (by omega) (by omega), show (((2 * i : Nat) : Int) + 1) = ((2 * i + 1 : Nat) : Int) by omega]
      refine Ev.bind i1 ?_
      refine Ev.congr (fun k => Option.bind_some _ _) ?_
      refine Ev.congr (fun k => if_pos (by simp [spotsOf]; omega)) ?_
      refine Ev.congr (fun k => Option.bind_some _ _) ?_
      refine Ev.bind i2 ?_
      refine Ev.congr (fun k => if_pos (by simp [spotsOf]; omega)) ?_
      rw [show [] ++ spotsOf (mneed h (2 * i) u) ++ spotsOf (mneed h (2 * i + 1) u) = spotsOf (mneed h (2 * i) u ++ mneed h (2 * i + 1) u) by simp [spotsOf]]
      exact Ev.now _
theorem mplaces_l2 (idx : List Int) (n : Int) (tops : List S39) (i : Int) (l : List (Nat × Nat)) (r : List Int × Int) (hl : l.length < 4611686018427387904) (hfit : ∀ s ∈ l, (s.2 + 1) * 2 ^ s.1 ≤ 4611686018427387904) :
    ∀ (d j : Nat) (acc : List Int), j + d = l.length → acc.length + d < 17592186044416 → Ev (fun k => massifref10_Places.l1 k idx (acc ++ placesOf (l.drop j)) tops (wrap64 (i + 1))) r →
      Ev (fun k => massifref10_Places.l2 k idx acc tops i (spotsOf l) (j : Int)) r
  | 0, j, acc, hj, _, hr => by
    rw [List.drop_of_length_le (by omega), show acc ++ placesOf [] = acc by simp [placesOf]] at hr
    exact Ev.step (fun k => by simp only [massifref10_Places.l2]; rw [if_neg (by simp [spotsOf]; omega)]) hr
  | d + 1, j, acc, hj, ha, hr => by
    have hjl : j < l.length := by omega
    have e1 : wrap64 ((j : Int) + 1) = ((j + 1 : Nat) : Int) := by rw [i64_of _ (by omega) (by omega)]; omega
    rw [List.drop_eq_getElem_cons hjl, show acc ++ placesOf (l[j] :: l.drop (j + 1)) = acc ++ [((placeN (l[j]).1 (l[j]).2 : Nat) : Int)] ++ placesOf (l.drop (j + 1)) by rw [placesOf_cons, List.append_assoc]] at hr
    have ih := mplaces_l2 idx n tops i l r hl hfit d (j + 1) (acc ++ [((placeN (l[j]).1 (l[j]).2 : Nat) : Int)]) (by omega) (by simp; omega) hr
    have pv := place3_val (l[j]).1 (l[j]).2 (hfit _ (List.getElem_mem hjl))
    refine Ev.step (fun k => by simp only [massifref10_Places.l2]; rw [if_pos (by simp [spotsOf]; omega), if_pos (by omega), rd_spots l j hjl]) ?_
    refine Ev.bind pv ?_
    refine Ev.congr (fun k => if_pos (by omega)) ?_
    rw [e1]
    exact ih
theorem mplaces_l1 (idx : List Nat) (n : Nat) (tops : List (Nat × Nat)) (hx : ∀ x ∈ idx, x < 18446744073709551616) (hxl : idx.length ≤ 100000) (hl : tops.length ≤ 63) (hfit : ∀ s ∈ tops, (s.2 + 1) * 2 ^ s.1 ≤ 4611686018427387904) :
    ∀ (d i : Nat) (acc : List Int), i + d = tops.length → acc.length + 6300001 * d < 17592186044416 →
      Ev (fun k => massifref10_Places.l1 k (intsOf idx) acc (spotsOf tops) (i : Int)) (acc ++ placesOf ((tops.drop i).flatMap fun s => mneed s.1 s.2 idx), 0)
  | 0, i, acc, hi, _ => by
    rw [List.drop_of_length_le (by omega), show acc ++ placesOf (([] : List (Nat × Nat)).flatMap fun s => mneed s.1 s.2 idx) = acc by simp [placesOf]]
    exact Ev.step (f := fun _ => some (acc, 0)) (fun k => by simp only [massifref10_Places.l1]; rw [if_neg (by simp [spotsOf]; omega)]) (Ev.now _)
  | d + 1, i, acc, hi, ha => by
    have hil : i < tops.length := by omega
    have hf := hfit _ (List.getElem_mem hil)
    have h62 := height_le _ _ hf
    have hlen := mneed_len (tops[i]).1 (tops[i]).2 idx
    have hm : (tops[i]).1 * (undL (tops[i]).1 (tops[i]).2 idx).length ≤ 62 * 100000 := Nat.mul_le_mul h62 (Nat.le_trans (und_len _ _ idx) hxl)
    have e1 : wrap64 ((i : Int) + 1) = ((i + 1 : Nat) : Int) := by rw [i64_of _ (by omega) (by omega)]; omega
    rw [List.drop_eq_getElem_cons hil, List.flatMap_cons, show acc ++ placesOf (mneed (tops[i]).1 (tops[i]).2 idx ++ (tops.drop (i + 1)).flatMap fun s => mneed s.1 s.2 idx) = acc ++ placesOf (mneed (tops[i]).1 (tops[i]).2 idx) ++ placesOf ((tops.drop (i + 1)).flatMap fun s => mneed s.1 s.2 idx) by simp [placesOf]]
    have ih := mplaces_l1 idx n tops hx hxl hl hfit d (i + 1) (acc ++ placesOf (mneed (tops[i]).1 (tops[i]).2 idx)) (by omega) (by simp [placesOf]; omega)
    refine Ev.step (fun k => by simp only [massifref10_Places.l1]; rw [if_pos (by simp [spotsOf]; omega), if_pos (by omega), rd_spots tops i hil]) ?_
    refine Ev.bind (need_val (tops[i]).1 (tops[i]).2 idx hf hx (by omega)) ?_
    refine mplaces_l2 (intsOf idx) (n : Int) (spotsOf tops) i _ _ (by omega) (fun s hs => ?_) _ 0 acc (Nat.zero_add _) (by omega) ?_
    · have := (mneed_fit _ _ _ s hs).2
      omega
    · rw [List.drop_zero, e1]
      exact ih
def manyAns (l : List Nat) (n : Nat) : List Int × Int := if lookN l n = 0 then (placesOf (manySpots l n), 0) else ([], lookN l n)
theorem mplaces_l0 (l : List Nat) (n : Nat) (hn : n ≤ 4611686018427387904) (hx : ∀ x ∈ l, x < 18446744073709551616) (hl : l.length ≤ 100000) : ∀ (d j : Nat), j + d = l.length →
    Ev (fun k => massifref10_Places.l0 k (intsOf l) (n : Int) (j : Int)) (if lookF n (ahead l j) (l.drop j) = 0 then (placesOf (manySpots l n), 0) else ([], lookF n (ahead l j) (l.drop j)))
  | 0, j, hj => by
    rw [List.drop_of_length_le (by omega), lookF_nil, if_pos rfl]
    refine Ev.step (fun k => by simp only [massifref10_Places.l0]; rw [if_neg (by rw [ints_len]; omega)]) ?_
    refine Ev.bind (tops_val n hn) ?_
    have h := mplaces_l1 l n (topsN n) hx hl (topsF_len 63 n) (tops_fits n hn) _ 0 [] (Nat.zero_add _) (by have := topsF_len 63 n; simp only [List.length_nil, topsN]; omega)
    rw [List.nil_append, List.drop_zero] at h
    exact h
  | d + 1, j, hj => by
    have hjl : j < l.length := by omega
    have ih := mplaces_l0 l n hn hx hl d (j + 1) (by omega)
    have e1 : wrap64 ((j : Int) + 1) = ((j + 1 : Nat) : Int) := by rw [i64_of _ (by omega) (by omega)]; omega
    have ea : ahead l (j + 1) = some l[j] := by unfold ahead; rw [if_neg (by omega), Nat.add_sub_cancel, List.getElem?_eq_getElem hjl]
    rw [ea] at ih
    rw [List.drop_eq_getElem_cons hjl]
    have tail : ∀ b : Bool, (∀ r, Ev (fun k => massifref10_Places.j1 k (intsOf l) (n : Int) (j : Int) b) r → Ev (fun k => massifref10_Places.l0 k (intsOf l) (n : Int) (j : Int)) r) → b = badP (ahead l j) l[j] →
        Ev (fun k => massifref10_Places.l0 k (intsOf l) (n : Int) (j : Int)) (if lookF n (ahead l j) (l[j] :: l.drop (j + 1)) = 0 then (placesOf (manySpots l n), 0) else ([], lookF n (ahead l j) (l[j] :: l.drop (j + 1)))) := by
      intro b hto hb
      refine hto _ ?_
      cases b with
      | true =>
        rw [lookF_bad hb.symm, if_neg (by omega)]
        exact Ev.step (f := fun _ => some ([], 71)) (fun k => by simp only [massifref10_Places.j1]; rw [if_pos trivial]) (Ev.now _)
      | false =>
        by_cases c : n ≤ l[j]
        · rw [lookF_big hb.symm c, if_neg (by omega)]
          exact Ev.step (f := fun _ => some ([], 32)) (fun k => by simp only [massifref10_Places.j1]; rw [if_neg (by simp), if_pos (by omega), if_pos (by rw [ints_len]; omega), rd_ints l j hjl, if_pos (by omega)]) (Ev.now _)
        · rw [lookF_go hb.symm c]
          exact Ev.step (fun k => by simp only [massifref10_Places.j1]; rw [if_neg (by simp), if_pos (by omega), if_pos (by rw [ints_len]; omega), rd_ints l j hjl, if_neg (by omega), e1]) ih
    by_cases h0 : j = 0
    · refine tail false (fun r hr => Ev.step (fun k => by simp only [massifref10_Places.l0]; rw [if_pos (by rw [ints_len]; omega), if_neg (by omega)]) hr) ?_
      unfold ahead
      rw [if_pos h0]
      rfl
    · have e0 : wrap64 ((j : Int) - 1) = ((j - 1 : Nat) : Int) := by rw [i64_of _ (by omega) (by omega)]; omega
      have ea0 : ahead l j = some l[j - 1] := by unfold ahead; rw [if_neg h0, List.getElem?_eq_getElem (by omega)]
      refine tail (decide ((l[j] : Int) ≤ (l[j - 1] : Int))) (fun r hr => Ev.step (fun k => by simp only [massifref10_Places.l0]; rw [if_pos (by rw [ints_len]; omega), if_pos (by omega), if_pos (by omega), e0, if_pos (by omega), if_pos (by rw [ints_len]; omega), rd_ints l j hjl, rd_ints l (j - 1) (by omega)]) hr) ?_
      rw [ea0]
      exact decide_eq_decide.2 (by omega)
theorem ref10_val (l : List Nat) (n : Nat) (hx : ∀ x ∈ l, x < 18446744073709551616) (hl : l.length ≤ 100000) : Ev (fun k => massifref10_Places.f k (intsOf l) (n : Int)) (manyAns l n) := by
  unfold massifref10_Places.f manyAns lookN
  by_cases c : 4611686018427387904 < n
  · rw [if_pos c, if_neg (by omega)]
    exact Ev.congr (fun k => if_pos (by omega)) (Ev.now _)
  · rw [if_neg c]
    refine Ev.congr (fun k => if_neg (by omega)) ?_
    have := mplaces_l0 l n (by omega) hx hl l.length 0 (by omega)
    rw [List.drop_zero] at this
    exact this
end Go.Proofs.Ytagcabmccpekaaa.M

namespace Go.Proofs.Ytagcabmccpekaaa.M
open Go.RowKit Go.Proofs.YtagcabmccpekaaaW.PrintWords Go.Proofs.YtagcabmccpekaaaW.PrintLast Go.Proofs.YtagcabmccpekaaaW.PrintMore Go.Proofs.Ytagcabmccpekaaa.Leaf

def walkV (bl : Nat) : Value := .agg #[.func (.func 65) #[] #[.pointer (some ⟨bl, 0, none⟩)], .func (.func 66) #[] #[], .func (.func 67) #[] #[]]
/-- What a call of down tells, whatever was told before. -/
def DownC (w0 : World) (bl h i : Nat) (u : List Nat) (A : Option Addr) (c : Nat) : Prop :=
  ∀ (w : World) (v : Value) (xs : List Int), Below w0.heap.size w0 w → w.heap[bl]? = some (.cells #[v] 23 (0, 0)) → Kd.R (Kd.int .u64) 22 w w0.heap.size (fun _ => True) v xs → xs.length + (mneed h i u).length < 17592186044415 →
    Calls Try.prog 83 #[walkV bl, .agg #[.int .u8 h, .int .u64 i], .slice A u.length c] w fun e w' => e = .returned hashZ.val ∧ Tell bl w0.heap.size v xs (placesOf (mneed h i u)) w w'
theorem Told.below {bl base : Nat} {v : Value} {xs ps : List Int} {w w' : World} {e : Ending} (h : Told bl base v xs ps w e w') (hb : base ≤ bl) (hv : ∀ k, v.ownBlock = some k → base ≤ k) (hw : base ≤ w.heap.size) : Below base w w' := by
  obtain ⟨_, v', h1, h2, h3, h4⟩ := h
  exact h3.below hw (fun k hk => by
    rcases hk with hk | hk
    · omega
    · exact hv k hk.symm)

/-- What down's own three blocks hold. -/
def Own (W : World) (n bl h i : Nat) (r : Hsh) : Prop :=
  W.heap[n]? = some (.cells #[.func (.func 65) #[] #[.pointer (some ⟨bl, 0, none⟩)], .func (.func 66) #[] #[], .func (.func 67) #[] #[]] 98 (0, 0)) ∧
  W.heap[n + 1]? = some (.cells #[.int .u8 h, .int .u64 i] 39 (0, 0)) ∧ W.heap[n + 1 + 1]? = some (.cells r.cells.toArray 73 (0, 0))
theorem Own.frm {W W' : World} {n bl h i : Nat} {r : Hsh} (o : Own W n bl h i r) {S : Nat → Prop} (hf : Frm S W W') (hS : ∀ k, n ≤ k → k < W.heap.size → ¬ S k) : Own W' n bl h i r := by
  obtain ⟨h1, h2, h3⟩ := o
  have l3 := blk_lt h3
  exact ⟨(hf.block _ (blk_lt h1) (hS _ (by omega) (blk_lt h1))).trans h1, (hf.block _ (blk_lt h2) (hS _ (by omega) (blk_lt h2))).trans h2, (hf.block _ l3 (hS _ (by omega) l3)).trans h3⟩
theorem Own.below {W W' : World} {n bl h i : Nat} {r : Hsh} (o : Own W n bl h i r) (hb : Below W.heap.size W W') : Own W' n bl h i r := o.frm (Frm.of_below hb (fun _ => False)) (fun _ _ _ => id)
theorem Own.cells {W : World} {n bl h i : Nat} {r : Hsh} (o : Own W n bl h i r) :
    W.cell? ⟨n, 0, none⟩ = some (.func (.func 65) #[] #[.pointer (some ⟨bl, 0, none⟩)]) ∧ W.cell? ⟨n, 1, none⟩ = some (.func (.func 66) #[] #[]) ∧ W.cell? ⟨n, 2, none⟩ = some (.func (.func 67) #[] #[]) ∧
    W.cell? ⟨n + 1, 0, none⟩ = some (.int .u8 h) ∧ W.cell? ⟨n + 1, 1, none⟩ = some (.int .u64 i) :=
  ⟨(blk_cell o.1 0).trans rfl, (blk_cell o.1 1).trans rfl, (blk_cell o.1 2).trans rfl, (blk_cell o.2.1 0).trans rfl, (blk_cell o.2.1 1).trans rfl⟩
/-- The world in which down's own blocks have been made. -/
def begun (w : World) (bl h i : Nat) : World :=
  ((w.alloc (.cells #[.func (.func 65) #[] #[.pointer (some ⟨bl, 0, none⟩)], .func (.func 66) #[] #[], .func (.func 67) #[] #[]] 98)).alloc (.cells #[.int .u8 h, .int .u64 i] 39)).alloc (.cells hashZ.cells.toArray 73)
theorem begun_own (w : World) (bl h i : Nat) : Own (begun w bl h i) w.heap.size bl h i hashZ ∧ Below w.heap.size w (begun w bl h i) ∧ (begun w bl h i).heap.size = w.heap.size + 1 + 1 + 1 := by
  refine ⟨⟨?_, ?_, heap_new2 _ _ (by simp)⟩, below_alloc (below_alloc (bl_new w _) _) _, by simp [begun]⟩
  · exact (Below.heap_alloc _ _ _ (by simp; omega)).trans ((Below.heap_alloc _ _ _ (by simp)).trans (heap_new w _))
  · exact (Below.heap_alloc _ _ _ (by simp)).trans (heap_new2 _ _ (by simp))

/-- How far the telling has come: since w the row in block bl is xs. -/
structure St (bl base : Nat) (v : Value) (w w' : World) (v' : Value) (xs : List Int) : Prop where
  cell : w'.heap[bl]? = some (.cells #[v'] 23 (0, 0))
  row : Kd.R (Kd.int .u64) 22 w' base (fun _ => True) v' xs
  frm : Frm (fun k => k = bl ∨ some k = v.ownBlock) w w'
  own : v'.ownBlock = v.ownBlock ∨ ∃ b, v'.ownBlock = some b ∧ w.heap.size ≤ b
theorem St.start {bl base : Nat} {v : Value} {w : World} {xs : List Int} (h1 : w.heap[bl]? = some (.cells #[v] 23 (0, 0))) (h2 : Kd.R (Kd.int .u64) 22 w base (fun _ => True) v xs) : St bl base v w w v xs := ⟨h1, h2, Frm.refl _ _, .inl rfl⟩
theorem St.below {bl base : Nat} {v v' : Value} {w w' w'' : World} {xs : List Int} (s : St bl base v w w' v' xs) (hb : Below w'.heap.size w' w'') : St bl base v w w'' v' xs :=
  ⟨(hb.block bl (blk_lt s.cell)).trans s.cell, Kd.R_below s.row hb, s.frm.trans (Frm.of_below hb (fun k => k = bl ∨ some k = v.ownBlock)) (fun _ _ hk => hk), s.own⟩
theorem St.told {bl base : Nat} {v v' : Value} {w w' w'' : World} {xs ps : List Int} {e : Ending} (s : St bl base v w w' v' xs) (h : Told bl base v' xs ps w' e w'') : ∃ v'', St bl base v w w'' v'' (xs ++ ps) := by
  obtain ⟨_, v'', h1, h2, h3, h4⟩ := Told.more (ps0 := ps) (xs0 := xs) s.frm s.own h rfl
  exact ⟨v'', h1, h2, h3, h4⟩
theorem St.store {bl base g : Nat} {v v' : Value} {w w' w'' : World} {xs : List Int} (s : St bl base v w w' v' xs) {c : Array Value} {t : TypeId} (hg : w'.heap[g]? = some (.cells c t (0, 0))) (ht : t ≠ 22) (ht2 : t ≠ 23) (hw : w.heap.size ≤ g) (hf : Frm (fun k => k = g) w' w'') : St bl base v w w'' v' xs := by
  have hne : some g ≠ v'.ownBlock := Kd.R_ne s.row hg (by simpa using ht.symm)
  have hbl : bl ≠ g := by
    rintro rfl
    rw [s.cell] at hg
    injection hg with hg
    injection hg with _ h2
    exact ht2 h2.symm
  exact ⟨(hf.block bl (blk_lt s.cell) hbl).trans s.cell, R_frm (flat_int .u64) s.row hf (fun k hk he => hne (by rw [hk, he])), s.frm.trans hf (fun k hk he => by omega), s.own⟩
theorem St.done {bl base : Nat} {v v' : Value} {w w' : World} {xs0 ps : List Int} (s : St bl base v w w' v' (xs0 ++ ps)) : Tell bl base v xs0 ps w w' := ⟨rfl, v', s.cell, s.row, s.frm, s.own⟩
theorem Own.told {n bl base h i : Nat} {r : Hsh} {v v' : Value} {w w' w'' : World} {xs ps : List Int} {e : Ending} (o : Own w' n bl h i r) (s : St bl base v w w' v' xs) (ht : Told bl base v' xs ps w' e w'') : Own w'' n bl h i r := by
  obtain ⟨_, v'', _, _, h3, _⟩ := ht
  obtain ⟨o1, o2, o3⟩ := o
  have key : ∀ (g : Nat) (c : Array Value) (t : TypeId), w'.heap[g]? = some (.cells c t (0, 0)) → t ≠ 22 → t ≠ 23 → w''.heap[g]? = some (.cells c t (0, 0)) := by
    intro g c t hg ht ht2
    have hne : some g ≠ v'.ownBlock := Kd.R_ne s.row hg (by simpa using ht.symm)
    refine (h3.block g (blk_lt hg) (fun hk => ?_)).trans hg
    rcases hk with hk | hk
    · subst hk
      rw [s.cell] at hg
      injection hg with hg
      injection hg with _ h2
      exact ht2 h2.symm
    · exact hne hk
  exact ⟨key _ _ _ o1 (by decide) (by decide), key _ _ _ o2 (by decide) (by decide), key _ _ _ o3 (by decide) (by decide)⟩
set_option maxHeartbeats 2000000 in
set_option maxRecDepth 100000 in
theorem down_none (w0 : World) (bl h i : Nat) (A : Option Addr) (c : Nat) (hbl : w0.heap.size ≤ bl) (hi : (i + 1) * 2 ^ h ≤ 4611686018427387904) (u : List Nat) (hu : u = []) : DownC w0 bl h i u A c := by
  subst hu
  intro w v xs hw hb hr hl
  have hm : mneed h i [] = [(h, i)] := by cases h <;> simp [mneed, undL]
  rw [hm]
  have hp := place_val h i hi
  have e1 : placesOf [(h, i)] = [((placeN h i : Nat) : Int)] := rfl
  rw [e1]
  rw [hm] at hl
  generalize placeN h i = p at *
  have HP := Aside0.mk hp
  have HR := Aside0.mk hr
  have HB := Aside0.mk hb
  have HW := Aside0.mk hw
  have HL := Aside0.mk hl
  have hlt := blk_lt hb
  have hws := hw.size
  have HV := Aside0.mk (Kd.R_lt hr)
  clear hp hr hb hw hl hm e1
  obtain ⟨W3, hW3⟩ : ∃ W3, W3 = begun w bl h i := ⟨_, rfl⟩
  obtain ⟨ho3, hb3, hs3⟩ := begun_own w bl h i
  rw [← hW3] at ho3 hb3 hs3
  obtain ⟨k0, k1, k2, k3, k4⟩ := ho3.cells
  have HO3 := Aside0.mk ho3
  have HB3 := Aside0.mk hb3
  have HE3 := Aside0.mk hW3
  clear ho3 hb3 hW3
  unfold walkV
  go_enter Try.func83, Try.ntmps83
  go_upto_region 1 with (fail)
  change Code.wp _ _ _ _ (begun w bl h i)
  rw [← HE3.out]
  go_wp2_with fail
  refine (pos_Place.calls h i _ _ _ HP.out).mono ?_
  rintro e w1 ⟨rfl, hb1⟩
  have ho1 := HO3.out.below hb1
  obtain ⟨q0, q1, q2, q3, q4⟩ := ho1.cells
  have hb13 := blt HB3.out hb1
  have HO1 := Aside0.mk ho1
  have HB1 := Aside0.mk hb13
  have hlt1 := hb1.size
  clear ho1 hb1 hb13 k0 k1 k2 k3 k4
  go_wp2_with fail
  refine (many_need p bl v xs w0.heap.size w1 ((HB1.out.block bl hlt).trans HB.out) (Kd.R_below HR.out HB1.out) (by omega) (by have := HL.out; simp at this; omega)).mono ?_
  rintro e w2 ⟨rfl, ht2⟩
  have hst1 := (St.start HB.out HR.out).below HB1.out
  have ho2 := Aside0.mk (HO1.out.told hst1 ht2)
  obtain ⟨v2, hst2⟩ := hst1.told ht2
  have HS2 := Aside0.mk hst2
  clear hst1 hst2 ht2 q0 q1 q2 q3 q4
  go_wp2_with ((with_reducible refine gate_store (t := 73) (p := 6) (v := .tmp 26) rfl ?_); go_loud (refine store_hash_g rfl rfl (.tmp 6) (.tmp 26) rfl _ rfl _ (w.heap.size + 1 + 1) ho2.out.2.2 hashZ rfl rfl ?_; intro w4 hz4 hf4; have HZ4 := Aside0.mk hz4; have HF4 := Aside0.mk hf4; clear hz4 hf4))
  (try simp only [Exit.inBlock, Exit.then])
  refine bodyPost_ret (results_cell_row rfl _ _ (w.heap.size + 1 + 1) 73 hashZ.cells.toArray (0, 0) _ rfl HZ4.out Try.underlying73 rfl (by rw [sizeH]; rfl)) rfl ?_
  exact ⟨rfl, (HS2.out.store ho2.out.2.2 (by decide) (by decide) (by omega) HF4.out).done⟩
set_option maxHeartbeats 2000000 in
set_option maxRecDepth 100000 in
theorem down_leaf (w0 : World) (bl i : Nat) (A : Option Addr) (c : Nat) (u : List Nat) (hu : u ≠ []) (hm : ∀ x ∈ u, x / 2 ^ 0 = i) : DownC w0 bl 0 i u A c := by
  intro w v xs hw hb hr hl
  have e1 : mneed 0 i u = [] := by simp only [mneed]; rw [und_all hm, if_neg hu]
  rw [e1]
  have hp : ¬ (u.length = 0) := fun h => hu (List.length_eq_zero_iff.1 h)
  have HR := Aside0.mk hr
  have HB := Aside0.mk hb
  have hlt := blk_lt hb
  clear hr hb hw hl e1 hm hu
  obtain ⟨W3, hW3⟩ : ∃ W3, W3 = begun w bl 0 i := ⟨_, rfl⟩
  obtain ⟨ho3, hb3, hs3⟩ := begun_own w bl 0 i
  rw [← hW3] at ho3 hb3 hs3
  obtain ⟨k0, k1, k2, k3, k4⟩ := ho3.cells
  have k3' : W3.cell? ⟨w.heap.size + 1, 0, none⟩ = some (.int .u8 0) := k3
  have HO3 := Aside0.mk ho3
  have HB3 := Aside0.mk hb3
  have HE3 := Aside0.mk hW3
  clear ho3 hb3 hW3 k3
  unfold walkV
  go_enter Try.func83, Try.ntmps83
  go_upto_region 1 with (fail)
  change Code.wp _ _ _ _ (begun w bl 0 i)
  rw [← HE3.out]
  go_wp2_with (first | (go_at_call 66; go_loud (refine (many_leaf _ _).mono ?_; rintro e w2 ⟨rfl, hb2⟩; have HB2 := Aside0.mk (blt HB3.out hb2); have ho2 := Aside0.mk (HO3.out.below hb2); clear hb2)) | ((with_reducible refine gate_store (t := 73) (p := 6) (v := .tmp 35) rfl ?_); go_loud (refine store_hash_g rfl rfl (.tmp 6) (.tmp 35) rfl _ rfl _ (w.heap.size + 1 + 1) ho2.out.2.2 hashZ rfl rfl ?_; intro w4 hz4 hf4; have HZ4 := Aside0.mk hz4; have HF4 := Aside0.mk hf4; clear hz4 hf4)))
  (try simp only [Exit.inBlock, Exit.then])
  refine bodyPost_ret (results_cell_row rfl _ _ (w.heap.size + 1 + 1) 73 hashZ.cells.toArray (0, 0) _ rfl HZ4.out Try.underlying73 rfl (by rw [sizeH]; rfl)) rfl ?_
  have hst := ((St.start HB.out HR.out).below HB2.out).store ho2.out.2.2 (by decide) (by decide) (by omega) HF4.out
  rw [← List.append_nil xs] at hst
  exact ⟨rfl, hst.done⟩
end Go.Proofs.Ytagcabmccpekaaa.M

namespace Go.Proofs.Ytagcabmccpekaaa.M
open Go.RowKit Go.Proofs.YtagcabmccpekaaaW.PrintWords Go.Proofs.YtagcabmccpekaaaW.PrintLast Go.Proofs.YtagcabmccpekaaaW.PrintMore Go.Proofs.Ytagcabmccpekaaa.Leaf

theorem set_hash {W : World} {g : Nat} {z : Array Value} {t : TypeId} (hg : W.heap[g]? = some (.cells z t (0, 0))) (hz : z.size = 32) (h : Hsh) : (W.setCells g 0 h.cells).heap[g]? = some (.cells h.cells.toArray t (0, 0)) ∧ Frm (fun k => k = g) W (W.setCells g 0 h.cells) := by
  obtain ⟨c, hc, hs, hl⟩ := setCells_row (g := g) h.cells 0 W z hg (by rw [Hsh.cells_len]; omega)
  have e : c = h.cells.toArray := by
    apply Array.toList_inj.1
    rw [hl, Hsh.cells_len, List.drop_of_length_le (by rw [Array.length_toList]; omega)]
    simp
  rw [e] at hc
  exact ⟨hc, ⟨(setCells_same g _ _ _).1, (setCells_same g _ _ _).2.1, (setCells_same g _ _ _).2.2.1, Nat.le_of_eq (setCells_same g _ _ _).2.2.2.symm, fun k hk hn => setCells_far _ _ k hn⟩⟩
theorem there_of {W : World} {g : Nat} {z : Array Value} {t : TypeId} (hg : W.heap[g]? = some (.cells z t (0, 0))) (hz : z.size = 32) : W.there g 0 hashZ.cells.toArray.size := by
  intro j hj
  have hj32 : j < 32 := by rwa [List.size_toArray, Hsh.cells_len] at hj
  rw [Nat.zero_add, cell_of_row _ _ j z t (0, 0) hg, frozen_of_row _ _ j z t hg]
  simp
  omega
theorem Own.set {W : World} {n bl h i g : Nat} {r : Hsh} (o : Own W n bl h i r) (hg : n + 1 + 1 < g) (vs : List Value) (off : Nat) : Own (W.setCells g off vs) n bl h i r :=
  ⟨(setCells_far vs off n (by omega)).trans o.1, (setCells_far vs off (n + 1) (by omega)).trans o.2.1, (setCells_far vs off (n + 1 + 1) (by omega)).trans o.2.2⟩
/-- Behind the store of a kid's hash. -/
theorem kid_done {w0 w W : World} {bl n hh ii g : Nat} {v v2 : Value} {xs : List Int} {r : Hsh} {z : Array Value} (hs : St bl w0.heap.size v w W v2 xs) (ho : Own W n bl hh ii r) (hw : Below w0.heap.size w0 W) (hn : n = w.heap.size) (hww : w0.heap.size ≤ w.heap.size) (hg : W.heap[g]? = some (.cells z 73 (0, 0))) (hz : z.size = 32) (hgn : n + 1 + 1 + 1 ≤ g) :
    St bl w0.heap.size v w (W.setCells g 0 hashZ.cells) v2 xs ∧ Own (W.setCells g 0 hashZ.cells) n bl hh ii r ∧ Below w0.heap.size w0 (W.setCells g 0 hashZ.cells) ∧ n + 1 + 1 + 1 ≤ (W.setCells g 0 hashZ.cells).heap.size ∧ (W.setCells g 0 hashZ.cells).heap[g]? = some (.cells hashZ.cells.toArray 73 (0, 0)) ∧ n + 1 + 1 + 1 ≤ g := by
  obtain ⟨s1, s2⟩ := set_hash hg hz hashZ
  have hlt := blk_lt hg
  have hsz := s2.size
  refine ⟨hs.store hg (by decide) (by decide) (by omega) s2, ho.set (by omega) _ _, hw.trans (s2.below hw.size (fun k hk => by omega)), by omega, s1, hgn⟩
/-- One kid: what a call of down on it leaves. -/
theorem down_step {w0 w W1 Wc : World} {bl h i c n hh ii : Nat} {u : List Nat} {A : Option Addr} {v v1 : Value} {xs : List Int} {r : Hsh} (hD : DownC w0 bl h i u A c) (hs : St bl w0.heap.size v w W1 v1 xs) (hw : Below w0.heap.size w0 W1) (ho : Own W1 n bl hh ii r) (hbl : w0.heap.size ≤ bl) (hl : xs.length + (mneed h i u).length < 17592186044415) (hq : Below W1.heap.size W1 Wc) :
    Calls Try.prog 83 #[walkV bl, .agg #[.int .u8 h, .int .u64 i], .slice A u.length c] Wc fun e w2 => e = .returned hashZ.val ∧ ∃ v2, St bl w0.heap.size v w w2 v2 (xs ++ placesOf (mneed h i u)) ∧ Own w2 n bl hh ii r ∧ Below w0.heap.size w0 w2 ∧ W1.heap.size ≤ w2.heap.size ∧
      ∀ (g : Nat) (z : Array Value) (t : TypeId), Wc.heap[g]? = some (.cells z t (0, 0)) → t ≠ 22 → t ≠ 23 → w2.heap[g]? = some (.cells z t (0, 0)) := by
  have hsc := hs.below hq
  have hwc := below_on hw hw.size hq
  refine (hD Wc v1 xs hwc hsc.cell hsc.row hl).mono ?_
  rintro e w2 ⟨he, ht⟩
  have hoc := (ho.below hq).told hsc ht
  have hbw : Below w0.heap.size w0 w2 := hwc.trans (Told.below ht hbl (Kd.R_base hsc.row) hwc.size)
  have hsz : Wc.heap.size ≤ w2.heap.size := (Told.below ht hbl (Kd.R_base hsc.row) hwc.size).size
  have hkeep : ∀ (g : Nat) (z : Array Value) (t : TypeId), Wc.heap[g]? = some (.cells z t (0, 0)) → t ≠ 22 → t ≠ 23 → w2.heap[g]? = some (.cells z t (0, 0)) := by
    obtain ⟨_, v'', _, _, h3, _⟩ := ht
    intro g z t hg ht1 ht2
    have hne : some g ≠ v1.ownBlock := Kd.R_ne hsc.row hg (by simpa using ht1.symm)
    refine (h3.block g (blk_lt hg) (fun hk => ?_)).trans hg
    rcases hk with hk | hk
    · subst hk
      rw [hsc.cell] at hg
      injection hg with hg
      injection hg with _ h2
      exact ht2 h2.symm
    · exact hne hk
  obtain ⟨v2, hs2⟩ := hsc.told ht
  exact ⟨he, v2, hs2, hoc, hbw, Nat.le_trans hq.size hsz, hkeep⟩

set_option maxHeartbeats 4000000 in
set_option maxRecDepth 100000 in
theorem down_two (w0 : World) (bl h i : Nat) (ad : Addr) (c : Nat) (hbl : w0.heap.size ≤ bl) (hi : (i + 1) * 2 ^ (h + 1) ≤ 4611686018427387904) (u : List Nat) (hu : u ≠ []) (hup : Up u) (hm : ∀ x ∈ u, x / 2 ^ (h + 1) = i)
    (hul : u.length ≤ 4611686018427387904) (hc : u.length ≤ c) (hc2 : c ≤ 9223372036854775807) (hC : Kd.C (Kd.int .u64) w0 (some ad) u.length (intsOf u))
    (h1 : DownC w0 bl h (2 * i) (undL h (2 * i) u) (some ad) c)
    (h2 : DownC w0 bl h (2 * i + 1) (undL h (2 * i + 1) u) (if c = cutN u ((2 * i + 1) * 2 ^ h) then some ad else some (ad.add (cutN u ((2 * i + 1) * 2 ^ h)))) (c - cutN u ((2 * i + 1) * 2 ^ h))) :
    DownC w0 bl (h + 1) i u (some ad) c := by
  intro w v xs hw hb hr hl
  have hh := height_le (h + 1) i hi
  have hi1 : i + 1 ≤ 4611686018427387904 := Nat.le_trans (Nat.le_mul_of_pos_right _ (p2_pos (h + 1))) hi
  have em : mneed (h + 1) i u = mneed h (2 * i) (undL h (2 * i) u) ++ mneed h (2 * i + 1) (undL h (2 * i + 1) u) := by
    simp only [mneed]
    rw [und_all hm, if_neg hu, mneed_und, mneed_und]
  have hcut := kids_cut (h := h) (i := i) hup hm
  have hk1 : (undL h (2 * i) u).length = cutN u ((2 * i + 1) * 2 ^ h) := by rw [← hcut.1, List.length_take]; have := cut_le u ((2 * i + 1) * 2 ^ h); omega
  have hk2 : (undL h (2 * i + 1) u).length = u.length - cutN u ((2 * i + 1) * 2 ^ h) := by rw [← hcut.2, List.length_drop]
  have hcl := cut_le u ((2 * i + 1) * 2 ^ h)
  obtain ⟨b, hbs⟩ := bs_val u ((2 * i + 1) * 2 ^ h) hul hup
  obtain ⟨kb, hkb⟩ := hbs.rounds
  have hmid : (2 * i + 1) * 2 ^ h ≤ 4611686018427387904 := by
    have hr := kid_right h i
    have : (2 * i + 1) * 2 ^ h ≤ (2 * i + 1 + 1) * 2 ^ h := Nat.mul_le_mul_right _ (by omega)
    omega
  have e1 : IntKind.u64.wrap ((2 * (i : Int) + 1) * 2 ^ h) = (((2 * i + 1) * 2 ^ h : Nat) : Int) := by
    rw [show ((2 * (i : Int) + 1) * 2 ^ h) = (((2 * i + 1) * 2 ^ h : Nat) : Int) by push_cast; rfl]
    exact w64_nat _ (by omega)
  rw [em] at hl ⊢
  rw [List.length_append] at hl
  have hp : ¬ (u.length = 0) := fun h => hu (List.length_eq_zero_iff.1 h)
  generalize cutN u ((2 * i + 1) * 2 ^ h) = at_ at *
  generalize (2 * i + 1) * 2 ^ h = mid at *
  have hul2 : (intsOf u).length = u.length := ints_len u
  have H1 := Aside0.mk h1
  have H2 := Aside0.mk h2
  have HR := Aside0.mk hr
  have HB := Aside0.mk hb
  have HW := Aside0.mk hw
  have HL := Aside0.mk hl
  have HC := Aside0.mk hC
  have HK := Aside0.mk hkb
  have HK1 := Aside0.mk hk1
  have HK2 := Aside0.mk hk2
  have hlt := blk_lt hb
  have hws := hw.size
  clear hr hb hw hl em hm hu hup hcut hbs hkb h1 h2 hC hk1 hk2 hi
  obtain ⟨W3, hW3⟩ : ∃ W3, W3 = begun w bl (h + 1) i := ⟨_, rfl⟩
  obtain ⟨ho3, hb3, hs3⟩ := begun_own w bl (h + 1) i
  rw [← hW3] at ho3 hb3 hs3
  obtain ⟨k0, k1, k2, k3, k4⟩ := ho3.cells
  have HO3 := Aside0.mk ho3
  have HB3 := Aside0.mk hb3
  have HE3 := Aside0.mk hW3
  clear ho3 hb3 hW3
  unfold walkV
  go_enter Try.func83, Try.ntmps83
  go_upto_region 1 with (fail)
  change Code.wp _ _ _ _ (begun w bl (h + 1) i)
  rw [← HE3.out]
  go_wp2_with fail
  have hC3 : Kd.C (Kd.int .u64) W3 (some ad) u.length (intsOf u) := Kd.C_below HC.out (HW.out.trans (HB3.out.mono hws))
  have hBS := slices_BinarySearch_uint64_uint64.calls kb (some ad) c (intsOf u) mid _ _ W3 (by rw [ints_len]; exact hC3) (by rw [ints_len]; exact hc) HK.out
  rw [ints_len] at hBS
  refine hBS.mono ?_
  rintro e W1 ⟨rfl, hd1⟩
  have ho1 := HO3.out.below hd1.below
  obtain ⟨q0, q1, q2, q3, q4⟩ := ho1.cells
  have HO1 := Aside0.mk ho1
  have HB1 := Aside0.mk (blt HB3.out hd1.below)
  have hsz1 := HB1.out.size
  have HS1 := Aside0.mk ((St.start HB.out HR.out).below HB1.out)
  have HW1 := Aside0.mk (HW.out.trans (HB1.out.mono hws))
  have hs1 : w.heap.size + 1 + 1 + 1 ≤ W1.heap.size := by have := hd1.below.size; omega
  clear ho1 hd1 k0 k1 k2 k3 k4 hC3 hBS
  have hz1 := hashZ.one
  have eh : IntKind.u8.wrap (h : Int) = (h : Int) := by rw [IntKind.wrap_u8]; omega
  have ei : IntKind.u64.wrap (2 * (i : Int)) = 2 * (i : Int) := w64_of _ (by omega) (by omega)
  have ej : IntKind.u64.wrap (2 * (i : Int) + 1) = 2 * (i : Int) + 1 := w64_of _ (by omega) (by omega)
  have ha0 : (0 : Int) ≤ (at_ : Int) := by omega
  have hac : (at_ : Int) ≤ (c : Int) := by omega
  have hau : (at_ : Int) ≤ (u.length : Int) := by omega
  have sz := sizeH
  go_upto_region 8 with (fail)
  go_cut [12] (fun v12 wc => ∃ b12 v2, v12 = .pointer (some ⟨b12, 0, none⟩) ∧ Aside0 (St bl w0.heap.size v w wc v2 (xs ++ placesOf (mneed h (2 * i) (undL h (2 * i) u))) ∧ Own wc w.heap.size bl (h + 1) i hashZ ∧ Below w0.heap.size w0 wc ∧ w.heap.size + 1 + 1 + 1 ≤ wc.heap.size ∧ wc.heap[b12]? = some (.cells hashZ.cells.toArray 73 (0, 0)) ∧ w.heap.size + 1 + 1 + 1 ≤ b12))
  case first =>
    have hLen1 : xs.length + (mneed h (2 * i) (undL h (2 * i) u)).length < 17592186044415 := by have := HL.out; omega
    have D1 := Aside0.mk (fun Wc hq => down_step (Wc := Wc) H1.out HS1.out HW1.out HO1.out hbl hLen1 hq)
    rw [HK1.out, show ((2 * i : Nat) : Int) = 2 * (i : Int) by push_cast; rfl] at D1
    unfold walkV at D1
    clear hLen1
    go_region_held3 (fun w' => w'.cell? ⟨w.heap.size, 0, none⟩ = some (.func (.func 65) #[] #[.pointer (some ⟨bl, 0, none⟩)]) ∧ w'.cell? ⟨w.heap.size, 1, none⟩ = some (.func (.func 66) #[] #[]) ∧ w'.cell? ⟨w.heap.size, 2, none⟩ = some (.func (.func 67) #[] #[]) ∧
    w'.cell? ⟨w.heap.size + 1, 0, none⟩ = some (.int .u8 (h + 1 : Nat)) ∧ w'.cell? ⟨w.heap.size + 1, 1, none⟩ = some (.int .u64 i)) (first | (refine (ho2.out.below ?_).cells; (repeat (with_reducible first | exact Below.refl _ _ | refine below_alloc ?_ _ | refine below_drew ?_)); done) | (refine ((ho2.out.below ?_).set (by have := HZ2.out; omega) _ _).cells; (repeat (with_reducible first | exact Below.refl _ _ | refine below_alloc ?_ _ | refine below_drew ?_)); done) | (refine (HO1.out.below ?_).cells; (repeat (with_reducible first | exact Below.refl _ _ | refine below_alloc ?_ _ | refine below_drew ?_)); done)) ((go_at_call 83; (try rw [eh]); (try rw [ei]); refine (D1.out _ (by repeat (with_reducible first | exact Below.refl _ _ | refine below_alloc ?_ _ | refine below_drew ?_))).mono ?_; rintro e w2 ⟨rfl, v2, hs2, hoo2, hbw2, hsz2, hk2⟩; have ho2 := Aside0.mk hoo2; have HS2 := Aside0.mk hs2; have HW2 := Aside0.mk hbw2; have HZ2 := Aside0.mk hsz2; have HK2 := Aside0.mk hk2; clear hs2 hoo2 hbw2 hsz2 hk2; have hthA : (w2.alloc (.cells #[.int .u8 0, .int .u8 0, .int .u8 0, .int .u8 0, .int .u8 0, .int .u8 0, .int .u8 0, .int .u8 0, .int .u8 0, .int .u8 0, .int .u8 0, .int .u8 0, .int .u8 0, .int .u8 0, .int .u8 0, .int .u8 0, .int .u8 0, .int .u8 0, .int .u8 0, .int .u8 0, .int .u8 0, .int .u8 0, .int .u8 0, .int .u8 0, .int .u8 0, .int .u8 0, .int .u8 0, .int .u8 0, .int .u8 0, .int .u8 0, .int .u8 0, .int .u8 0] 73)).there w2.heap.size 0 hashZ.cells.length := there_of (heap_new w2 _) rfl; (try have hgB : w2.heap[W1.heap.size]? = some (.cells #[.int .u8 0, .int .u8 0, .int .u8 0, .int .u8 0, .int .u8 0, .int .u8 0, .int .u8 0, .int .u8 0, .int .u8 0, .int .u8 0, .int .u8 0, .int .u8 0, .int .u8 0, .int .u8 0, .int .u8 0, .int .u8 0, .int .u8 0, .int .u8 0, .int .u8 0, .int .u8 0, .int .u8 0, .int .u8 0, .int .u8 0, .int .u8 0, .int .u8 0, .int .u8 0, .int .u8 0, .int .u8 0, .int .u8 0, .int .u8 0, .int .u8 0, .int .u8 0] 73 (0, 0)) := HK2.out _ _ _ (heap_new2 _ _ rfl) (by decide) (by decide)); (try have hthB : w2.there W1.heap.size 0 hashZ.cells.length := there_of hgB rfl)))
    · go_wp2_with fail
      have hkd := kid_done (W := w2.alloc (.cells #[.int .u8 0, .int .u8 0, .int .u8 0, .int .u8 0, .int .u8 0, .int .u8 0, .int .u8 0, .int .u8 0, .int .u8 0, .int .u8 0, .int .u8 0, .int .u8 0, .int .u8 0, .int .u8 0, .int .u8 0, .int .u8 0, .int .u8 0, .int .u8 0, .int .u8 0, .int .u8 0, .int .u8 0, .int .u8 0, .int .u8 0, .int .u8 0, .int .u8 0, .int .u8 0, .int .u8 0, .int .u8 0, .int .u8 0, .int .u8 0, .int .u8 0, .int .u8 0] 73)) (HS2.out.below (bl_new w2 _)) (ho2.out.below (bl_new w2 _)) (below_on HW2.out HW2.out.size (bl_new w2 _)) rfl hws (heap_new w2 _) rfl (by have := HZ2.out; omega)
      go_meet
      case rel => exact ⟨_, v2, rfl, ⟨hkd⟩⟩
    · go_wp2_with fail
      have hkd := kid_done (W := w2) HS2.out ho2.out HW2.out rfl hws hgB rfl hs1
      go_meet
      case rel => exact ⟨_, v2, rfl, ⟨hkd⟩⟩
  case rest =>
    obtain ⟨b12, v2, rfl, hcc⟩ := hcut
    obtain ⟨g1, g2, g3, g4, g5, g6⟩ := hcc.out
    obtain ⟨q0, q1, q2, q3, q4⟩ := g2.cells
    have G1 := Aside0.mk g1
    have G2 := Aside0.mk g2
    have G3 := Aside0.mk g3
    have G5 := Aside0.mk g5
    have hs1 : w.heap.size + 1 + 1 + 1 ≤ wc.heap.size := g4
    clear g1 g2 g3 g4 g5 hcc
    obtain ⟨ad2, hA2⟩ : ∃ ad2 : Addr, (if c = at_ then some ad else some (ad.add at_)) = some ad2 := by split <;> exact ⟨_, rfl⟩
    go_upto_region 9 with (fail)
    go_cut [13] (fun v13 wd => ∃ b13 v3, v13 = .pointer (some ⟨b13, 0, none⟩) ∧ Aside0 ((St bl w0.heap.size v w wd v3 (xs ++ placesOf (mneed h (2 * i) (undL h (2 * i) u)) ++ placesOf (mneed h (2 * i + 1) (undL h (2 * i + 1) u))) ∧ Own wd w.heap.size bl (h + 1) i hashZ ∧ Below w0.heap.size w0 wd ∧ w.heap.size + 1 + 1 + 1 ≤ wd.heap.size ∧ wd.heap[b13]? = some (.cells hashZ.cells.toArray 73 (0, 0)) ∧ w.heap.size + 1 + 1 + 1 ≤ b13) ∧ wd.heap[b12]? = some (.cells hashZ.cells.toArray 73 (0, 0))))
    case first =>
      have hLen1 : (xs ++ placesOf (mneed h (2 * i) (undL h (2 * i) u))).length + (mneed h (2 * i + 1) (undL h (2 * i + 1) u)).length < 17592186044415 := by have := HL.out; simp only [List.length_append, placesOf, List.length_map]; omega
      have D1 := Aside0.mk (fun Wc hq => down_step (Wc := Wc) H2.out G1.out G3.out G2.out hbl hLen1 hq)
      rw [HK2.out, show ((2 * i + 1 : Nat) : Int) = 2 * (i : Int) + 1 by push_cast; rfl, hA2] at D1
      unfold walkV at D1
      clear hLen1
      go_region_held3 (fun w' => w'.cell? ⟨w.heap.size, 0, none⟩ = some (.func (.func 65) #[] #[.pointer (some ⟨bl, 0, none⟩)]) ∧ w'.cell? ⟨w.heap.size, 1, none⟩ = some (.func (.func 66) #[] #[]) ∧ w'.cell? ⟨w.heap.size, 2, none⟩ = some (.func (.func 67) #[] #[]) ∧
      w'.cell? ⟨w.heap.size + 1, 0, none⟩ = some (.int .u8 (h + 1 : Nat)) ∧ w'.cell? ⟨w.heap.size + 1, 1, none⟩ = some (.int .u64 i)) (first | (refine (ho2.out.below ?_).cells; (repeat (with_reducible first | exact Below.refl _ _ | refine below_alloc ?_ _ | refine below_drew ?_)); done) | (refine ((ho2.out.below ?_).set (by have := HZ2.out; omega) _ _).cells; (repeat (with_reducible first | exact Below.refl _ _ | refine below_alloc ?_ _ | refine below_drew ?_)); done) | (refine (G2.out.below ?_).cells; (repeat (with_reducible first | exact Below.refl _ _ | refine below_alloc ?_ _ | refine below_drew ?_)); done)) ((go_at_call 83; (try rw [eh]); (try rw [ei]); (try rw [ej]); refine (D1.out _ (by repeat (with_reducible first | exact Below.refl _ _ | refine below_alloc ?_ _ | refine below_drew ?_))).mono ?_; rintro e w2 ⟨rfl, v3, hs2, hoo2, hbw2, hsz2, hk2⟩; have ho2 := Aside0.mk hoo2; have HS2 := Aside0.mk hs2; have HW2 := Aside0.mk hbw2; have HZ2 := Aside0.mk hsz2; have HQ2 := Aside0.mk hk2; have hb12 := Aside0.mk (HQ2.out b12 hashZ.cells.toArray 73 (by first | exact (Below.heap_alloc _ _ _ (blk_lt G5.out)).trans G5.out | exact G5.out) (by decide) (by decide)); clear hs2 hoo2 hbw2 hsz2 hk2; have hthA : (w2.alloc (.cells #[.int .u8 0, .int .u8 0, .int .u8 0, .int .u8 0, .int .u8 0, .int .u8 0, .int .u8 0, .int .u8 0, .int .u8 0, .int .u8 0, .int .u8 0, .int .u8 0, .int .u8 0, .int .u8 0, .int .u8 0, .int .u8 0, .int .u8 0, .int .u8 0, .int .u8 0, .int .u8 0, .int .u8 0, .int .u8 0, .int .u8 0, .int .u8 0, .int .u8 0, .int .u8 0, .int .u8 0, .int .u8 0, .int .u8 0, .int .u8 0, .int .u8 0, .int .u8 0] 73)).there w2.heap.size 0 hashZ.cells.length := there_of (heap_new w2 _) rfl; (try have hgB : w2.heap[wc.heap.size]? = some (.cells #[.int .u8 0, .int .u8 0, .int .u8 0, .int .u8 0, .int .u8 0, .int .u8 0, .int .u8 0, .int .u8 0, .int .u8 0, .int .u8 0, .int .u8 0, .int .u8 0, .int .u8 0, .int .u8 0, .int .u8 0, .int .u8 0, .int .u8 0, .int .u8 0, .int .u8 0, .int .u8 0, .int .u8 0, .int .u8 0, .int .u8 0, .int .u8 0, .int .u8 0, .int .u8 0, .int .u8 0, .int .u8 0, .int .u8 0, .int .u8 0, .int .u8 0, .int .u8 0] 73 (0, 0)) := HQ2.out _ _ _ (heap_new2 _ _ rfl) (by decide) (by decide)); (try have hthB : w2.there wc.heap.size 0 hashZ.cells.length := there_of hgB rfl)))
      · go_wp2_with fail
        have hkd := kid_done (W := w2.alloc (.cells #[.int .u8 0, .int .u8 0, .int .u8 0, .int .u8 0, .int .u8 0, .int .u8 0, .int .u8 0, .int .u8 0, .int .u8 0, .int .u8 0, .int .u8 0, .int .u8 0, .int .u8 0, .int .u8 0, .int .u8 0, .int .u8 0, .int .u8 0, .int .u8 0, .int .u8 0, .int .u8 0, .int .u8 0, .int .u8 0, .int .u8 0, .int .u8 0, .int .u8 0, .int .u8 0, .int .u8 0, .int .u8 0, .int .u8 0, .int .u8 0, .int .u8 0, .int .u8 0] 73)) (HS2.out.below (bl_new w2 _)) (ho2.out.below (bl_new w2 _)) (below_on HW2.out HW2.out.size (bl_new w2 _)) rfl hws (heap_new w2 _) rfl (by have := HZ2.out; omega)
        have hbf := (setCells_far hashZ.cells 0 b12 (by have := blk_lt hb12.out; omega : b12 ≠ w2.heap.size)).trans ((Below.heap_alloc w2 (.cells #[.int .u8 0, .int .u8 0, .int .u8 0, .int .u8 0, .int .u8 0, .int .u8 0, .int .u8 0, .int .u8 0, .int .u8 0, .int .u8 0, .int .u8 0, .int .u8 0, .int .u8 0, .int .u8 0, .int .u8 0, .int .u8 0, .int .u8 0, .int .u8 0, .int .u8 0, .int .u8 0, .int .u8 0, .int .u8 0, .int .u8 0, .int .u8 0, .int .u8 0, .int .u8 0, .int .u8 0, .int .u8 0, .int .u8 0, .int .u8 0, .int .u8 0, .int .u8 0] 73) b12 (blk_lt hb12.out)).trans hb12.out)
        go_meet
        case rel => exact ⟨_, v3, rfl, ⟨⟨hkd, hbf⟩⟩⟩
      · go_wp2_with fail
        have hkd := kid_done (W := w2) HS2.out ho2.out HW2.out rfl hws hgB rfl hs1
        have hbf := (setCells_far hashZ.cells 0 b12 (by have := blk_lt G5.out; omega : b12 ≠ wc.heap.size)).trans hb12.out
        go_meet
        case rel => exact ⟨_, v3, rfl, ⟨⟨hkd, hbf⟩⟩⟩
    case rest =>
      obtain ⟨b13, v3, rfl, hcc⟩ := hcut
      obtain ⟨⟨g1, g2, g3, g4, g5, g6⟩, g7⟩ := hcc.out
      obtain ⟨q0, q1, q2, q3, q4⟩ := g2.cells
      have K1 := Aside0.mk g1
      have K2 := Aside0.mk g2
      have K5 := Aside0.mk (HashAt.block g5)
      have K7 := Aside0.mk (HashAt.block g7)
      clear g1 g2 g3 g4 g5 g6 g7 hcc
      go_wp2_with (first | ((with_reducible refine gate_dst (N := 77) rfl ?_); go_loud (refine load_hash rfl (.tmp 12) rfl _ hashZ rfl K7.out ?_)) | ((with_reducible refine gate_dst (N := 78) rfl ?_); go_loud (refine load_hash rfl (.tmp 13) rfl _ hashZ rfl K5.out ?_)) | (go_at_call 67; go_loud (refine (many_join _ _ _ rfl rfl).mono ?_; rintro e w9 ⟨rfl, hb9⟩; have HB9 := Aside0.mk hb9; have hO9 := Aside0.mk (K2.out.below hb9); clear hb9)) | ((with_reducible refine gate_store (t := 73) (p := 6) (v := .tmp 79) rfl ?_); go_loud (refine store_hash_g rfl rfl (.tmp 6) (.tmp 79) rfl _ rfl _ (w.heap.size + 1 + 1) hO9.out.2.2 hashZ rfl rfl ?_; intro w10 hz10 hf10; have HZ10 := Aside0.mk hz10; have HF10 := Aside0.mk hf10; clear hz10 hf10)))
      (try simp only [Exit.inBlock, Exit.then])
      refine bodyPost_ret (results_cell_row rfl _ _ (w.heap.size + 1 + 1) 73 hashZ.cells.toArray (0, 0) _ rfl HZ10.out Try.underlying73 rfl (by rw [sizeH]; rfl)) rfl ?_
      have hst := (K1.out.below HB9.out).store hO9.out.2.2 (by decide) (by decide) (by omega) HF10.out
      refine ⟨rfl, ?_⟩
      rw [List.append_assoc] at hst
      have e9 : placesOf (mneed h (2 * i) (undL h (2 * i) u) ++ mneed h (2 * i + 1) (undL h (2 * i + 1) u)) = placesOf (mneed h (2 * i) (undL h (2 * i) u)) ++ placesOf (mneed h (2 * i + 1) (undL h (2 * i + 1) u)) := by simp [placesOf]
      rw [e9]
      exact hst.done
end Go.Proofs.Ytagcabmccpekaaa.M

namespace Go.Proofs.Ytagcabmccpekaaa.M
open Go.RowKit Go.Proofs.YtagcabmccpekaaaW.PrintWords Go.Proofs.YtagcabmccpekaaaW.PrintLast Go.Proofs.YtagcabmccpekaaaW.PrintMore Go.Proofs.Ytagcabmccpekaaa.Leaf

theorem ints_take (l : List Nat) (k : Nat) : intsOf (l.take k) = (intsOf l).take k := by simp [intsOf, List.map_take]
theorem ints_drop (l : List Nat) (k : Nat) : intsOf (l.drop k) = (intsOf l).drop k := by simp [intsOf, List.map_drop]
theorem C_ints_take {w : World} {A : Option Addr} {u : List Nat} (h : Kd.C (Kd.int .u64) w A u.length (intsOf u)) (k : Nat) (hk : k ≤ u.length) : Kd.C (Kd.int .u64) w A (u.take k).length (intsOf (u.take k)) := by
  have h' : Kd.C (Kd.int .u64) w A (intsOf u).length (intsOf u) := by rw [ints_len]; exact h
  have := Kd.C_take h' (m := k) (by rw [ints_len]; exact hk)
  rw [← ints_take, ints_len] at this
  exact this
theorem C_ints_drop {w : World} {ad : Addr} {u : List Nat} {c : Nat} (h : Kd.C (Kd.int .u64) w (some ad) u.length (intsOf u)) (k : Nat) (hk : k ≤ u.length) (hc : u.length ≤ c) : Kd.C (Kd.int .u64) w (if c = k then some ad else some (ad.add k)) (u.drop k).length (intsOf (u.drop k)) := by
  have h' : Kd.C (Kd.int .u64) w (some ad) (intsOf u).length (intsOf u) := by rw [ints_len]; exact h
  have := Kd.C_drop h' (m := k) (c := c) (by rw [ints_len]; exact hk) (by rw [ints_len]; exact hc)
  rw [← ints_drop, ints_len] at this
  rw [show (Kd.int .u64).sz = 1 from rfl, Nat.mul_one] at this
  exact this
theorem many_down (w0 : World) (bl : Nat) (hbl : w0.heap.size ≤ bl) : ∀ (h i : Nat) (u : List Nat) (A : Option Addr) (c : Nat), (i + 1) * 2 ^ h ≤ 4611686018427387904 → Up u → (∀ x ∈ u, x / 2 ^ h = i) → u.length ≤ 4611686018427387904 → u.length ≤ c → c ≤ 9223372036854775807 →
    Kd.C (Kd.int .u64) w0 A u.length (intsOf u) → DownC w0 bl h i u A c
  | 0, i, u, A, c, hi, hu, hm, hul, hc, hc2, hC => by
    by_cases h0 : u = []
    · exact down_none w0 bl 0 i A c hbl hi u h0
    · exact down_leaf w0 bl i A c u h0 hm
  | h + 1, i, u, A, c, hi, hu, hm, hul, hc, hc2, hC => by
    by_cases h0 : u = []
    · exact down_none w0 bl (h + 1) i A c hbl hi u h0
    · have hp : 0 < u.length := List.length_pos_iff.2 h0
      obtain ⟨ad, ea, _⟩ := Kd.at_int hC 0 (by omega) (by omega)
      subst ea
      have hr := kid_right h i
      have hmm : (2 * i + 1) * 2 ^ h ≤ (2 * i + 1 + 1) * 2 ^ h := Nat.mul_le_mul_right _ (by omega)
      have hcut := kids_cut (h := h) (i := i) hu hm
      have hcl := cut_le u ((2 * i + 1) * 2 ^ h)
      have hC1 := C_ints_take hC _ hcl
      have hC2 := C_ints_drop hC _ hcl hc
      have hl2 : (u.drop (cutN u ((2 * i + 1) * 2 ^ h))).length = u.length - cutN u ((2 * i + 1) * 2 ^ h) := List.length_drop
      have hl1 : (u.take (cutN u ((2 * i + 1) * 2 ^ h))).length ≤ u.length := List.length_take_le' _ _
      rw [hcut.1] at hC1 hl1
      rw [hcut.2] at hC2 hl2
      refine down_two w0 bl h i ad c hbl hi u h0 hu hm hul hc hc2 hC ?_ ?_
      · exact many_down w0 bl hbl h (2 * i) _ (some ad) c (by omega) (up_filter hu _) und_mem (by omega) (by omega) hc2 hC1
      · exact many_down w0 bl hbl h (2 * i + 1) _ _ _ (by omega) (up_filter hu _) und_mem (by omega) (by omega) (by omega) hC2
end Go.Proofs.Ytagcabmccpekaaa.M

namespace Go.Proofs.Ytagcabmccpekaaa.M
open Go.RowKit Go.Proofs.YtagcabmccpekaaaW.PrintWords Go.Proofs.YtagcabmccpekaaaW.PrintLast Go.Proofs.YtagcabmccpekaaaW.PrintMore Go.Proofs.Ytagcabmccpekaaa.Leaf

theorem under_val (h i : Nat) (hi : (i + 1) * 2 ^ h ≤ 4611686018427387904) : Ev (fun k => pos_Under.f k ((placeN h i : Nat) : Int)) (((i * 2 ^ h : Nat) : Int), (((i + 1) * 2 ^ h : Nat) : Int), true) := by
  have hh := height_le h i hi
  have hp := p2_pos h
  have h1 : (i + 1) * 2 ^ h = i * 2 ^ h + 2 ^ h := by rw [Nat.add_mul, Nat.one_mul]
  have hi1 : i + 1 ≤ 4611686018427387904 := Nat.le_trans (Nat.le_mul_of_pos_right _ hp) hi
  unfold pos_Under.f
  refine Ev.bind (spot_val h i hi) ?_
  refine Ev.congr (fun k => if_pos rfl) ?_
  refine Ev.congr (fun k => if_pos (by show (0 : Int) ≤ (h : Int); omega)) ?_
  show Ev (fun _ => some (shl .u64 (i : Int) (h : Int), shl .u64 (IntKind.u64.wrap ((i : Int) + 1)) (h : Int), true)) _
  rw [w64_of ((i : Int) + 1) (by omega) (by omega), shl_nat i h (by omega) (by omega), show ((i : Int) + 1) = ((i + 1 : Nat) : Int) by omega, shl_nat (i + 1) h (by omega) (by omega)]
  exact Ev.now _
end Go.Proofs.Ytagcabmccpekaaa.M

namespace Go.Proofs.Ytagcabmccpekaaa.M
open Go.RowKit

theorem step_of_list {P : Program} {ops : Array Oper} {o : Oper} {a : Act} {w : World} {K : Act → World → Prop} {Q : Exit → Act → World → Prop} {E : Prop} (hg : o.guard = none)
    (h : wpList P ops (fun e a w => e = .normal ∧ K a w) [o] a w) : if Region.wanted o (yielded ops a.tmps) = true then Oper.wp P o a w K Q else E := by
  have hw : Region.wanted o (yielded ops a.tmps) = true := by simp [Region.wanted, hg]
  rw [if_pos hw]
  unfold wpList at h
  rw [if_pos hw] at h
  rcases h with h | h
  · have h2 := Oper.wp_mono (K' := K) (fun a w hk => hk.2) h
    unfold Oper.wp at h2 ⊢
    generalize (execOp a.eval o).run P w = r at *
    cases r with
    | ok n w' =>
      cases n <;> simp only [Oper.upon] at h2 ⊢ <;>
        first
          | exact h2
          | exact Calls.mono h2 (fun e w'' he => by cases e <;> first | exact he | exact absurd (show _ ∧ _ from he).1 (by simp) | (obtain ⟨_, _, h9, _⟩ := (show LetsOut _ from he); exact absurd h9 (by simp)))
          | exact Rows.mono h2 (fun _ _ he => he)
    | halt x w' => cases x <;> simp only [Oper.upon] at h2 ⊢ <;> first | exact h2 | exact absurd h2.1 (by simp)
  · obtain ⟨_, a', w', h3, _⟩ := h
    exact absurd h3 (by simp)
end Go.Proofs.Ytagcabmccpekaaa.M
