/- slices.Delete of one number of a row of the call's own. -/
import Derived.Test.YtagcabmccpekaaaBase
import Derived.Shelf.RegionOpenPlain
import Derived.Deep.RegionLaw
import Derived.Lib.SliceRun
namespace Go.Proofs.Ytagcabmccpekaaa.M
open Go.RowKit Go.Proofs.YtagcabmccpekaaaW.PrintWords Go.Proofs.YtagcabmccpekaaaW.PrintLast Go.Proofs.YtagcabmccpekaaaW.PrintMore Go.Proofs.Ytagcabmccpekaaa.Leaf

theorem reps_int (k : IntKind) {w : World} {base : Nat} {ok : Nat → Prop} {xs : List Int} {cs : List Value} (h : Reps ((Kd.int k).M w base ok) (Kd.int k).sz xs cs) : cs = xs.map (Value.int k) := by
  have hl : cs.length = xs.length := by have := h.1; rwa [show (Kd.int k).sz = 1 from rfl, Nat.mul_one] at this
  refine List.ext_getElem? (fun j => ?_)
  rw [List.getElem?_map]
  by_cases hj : j < xs.length
  · have h2 := h.2 j xs[j] (List.getElem?_eq_getElem hj)
    have h3 : (cs.drop (j * 1)).take 1 = [Value.int k xs[j]] := h2
    rw [Nat.mul_one] at h3
    have h4 : ((cs.drop j).take 1)[0]? = some (Value.int k xs[j]) := by rw [h3]; rfl
    rw [List.getElem?_take_of_lt (by omega), List.getElem?_drop, Nat.add_zero] at h4
    rw [h4, List.getElem?_eq_getElem hj]
    rfl
  · rw [List.getElem?_eq_none (by omega), List.getElem?_eq_none (by omega)]
    rfl
theorem int_reps (k : IntKind) (w : World) (base : Nat) (ok : Nat → Prop) (xs : List Int) : Reps ((Kd.int k).M w base ok) (Kd.int k).sz xs (xs.map (Value.int k)) := by
  refine ⟨by rw [List.length_map]; exact (Nat.mul_one _).symm, fun j p hj => ?_⟩
  show ((xs.map (Value.int k)).drop (j * 1)).take 1 = [Value.int k p]
  rw [Nat.mul_one]
  have hl := (List.getElem?_eq_some_iff.1 hj).1
  rw [List.drop_eq_getElem_cons (by rw [List.length_map]; exact hl)]
  simp [(List.getElem?_eq_some_iff.1 hj).2]
/-- A row of numbers of one's own, laid open. -/
structure Blk (k : IntKind) (e : Nat) (w : World) (base : Nat) (v : Value) (xs : List Int) (g cap : Nat) (cur : Array Value) : Prop where
  val : v = .slice (some ⟨g, 0, none⟩) xs.length cap
  base_le : base ≤ g
  heap : w.heap[g]? = some (.cells cur e (0, 0))
  len : xs.length ≤ cap
  max : cap ≤ maxLen
  size : cur.size = cap
  row : cur.toList.take xs.length = xs.map (Value.int k)
theorem R_open {k : IntKind} {e : Nat} {w : World} {base : Nat} {v : Value} {xs : List Int} (h : (Kd.int k).R e w base (fun _ => True) v xs) (h0 : 0 < xs.length) : ∃ g cap cur, Blk k e w base v xs g cap cur := by
  obtain ⟨_, inner, ho, hr⟩ := h
  have hi := reps_int k hr
  subst hi
  rcases ho.2 with ⟨_, hz⟩ | ⟨g, cap, cur, he, hb, hh, hnc, hcm, hcs, ht⟩
  · omega
  · have e1 : (Kd.int k).sz = 1 := rfl
    rw [e1, Nat.mul_one] at hcs ht
    exact ⟨g, cap, cur, he, hb, hh, hnc, hcm, hcs, ht⟩
theorem Blk.R {k : IntKind} {e : Nat} {w : World} {base : Nat} {v : Value} {xs : List Int} {g cap : Nat} {cur : Array Value} (h : Blk k e w base v xs g cap cur) : (Kd.int k).R e w base (fun _ => True) v xs := by
  refine ⟨fun _ _ => trivial, xs.map (Value.int k), ⟨?_, .inr ⟨g, cap, cur, h.val, h.base_le, h.heap, h.len, h.max, ?_, ?_⟩⟩, int_reps k _ _ _ xs⟩
  · rw [List.length_map]; exact (Nat.mul_one _).symm
  · rw [h.size]; exact (Nat.mul_one _).symm
  · rw [show (Kd.int k).sz = 1 from rfl, Nat.mul_one]; exact h.row
theorem cell_of {w : World} {g : Nat} {cur : Array Value} {e : TypeId} (h : w.heap[g]? = some (.cells cur e (0, 0))) (o : Nat) : w.cell? ⟨g, o, none⟩ = cur[o]? := by
  show (match w.heap[g]? with | some (.cells c _ _) => if (none : Option Nat).isSome then none else c[o]? | _ => none) = _
  rw [h]
  rfl
theorem frozen_of {w : World} {g : Nat} {cur : Array Value} {e : TypeId} (h : w.heap[g]? = some (.cells cur e (0, 0))) (o : Nat) (hf : o < cur.size) : w.frozen? ⟨g, o, none⟩ = false := by
  unfold World.frozen?
  simp [h]
set_option maxHeartbeats 2000000 in
set_option maxRecDepth 100000 in
theorem delete_one (i j : Nat) (hj : j = i + 1) (w : World) (base : Nat) (v : Value) (xs : List Int) (h : (Kd.int .u64).R 22 w base (fun _ => True) v xs) (hi : i < xs.length) :
    Calls Try.prog 48 #[v, .int .i64 i, .int .i64 j] w fun e w' => ∃ v', e = .returned v' ∧ (Kd.int .u64).R 22 w' base (fun _ => True) v' (xs.eraseIdx i) ∧ Frm (fun k => some k = v.ownBlock) w w' ∧ v'.ownBlock = v.ownBlock := by
  obtain ⟨g, cap, cur, B⟩ := R_open h (by omega)
  obtain ⟨rfl, hbase, hh, hlen, hmax, hsize, hrow⟩ := B
  have hmax' : cap ≤ 9223372036854775807 := hmax
  have hglt : g < w.heap.size := (Array.getElem?_eq_some_iff.1 hh).1
  generalize hn : xs.length = n at *
  have hjn : j ≤ n := by omega
  have hij : i < j := by omega
  -- the numbers that are moved to the left
  obtain ⟨news, hnews⟩ : ∃ news, news = (xs.drop j).map (Value.int .u64) := ⟨_, rfl⟩
  have hnl : news.length = n - j := by rw [hnews]; simp [hn]
  have hget : ∀ j, j < n → cur[j]? = (xs.map (Value.int .u64))[j]? := by
    intro j hj
    rw [← hrow, List.getElem?_take_of_lt hj, Array.getElem?_toList]
  obtain ⟨A, hA, hsrc⟩ : ∃ A : Addr, (if cap = j then some (⟨g, 0, none⟩ : Addr) else some ⟨g, j, none⟩) = some A ∧ Hid (∀ t u, news[t]? = some u → w.drew.cell? (A.add t) = some u) := by
    by_cases hc : cap = j
    · refine ⟨⟨g, 0, none⟩, by simp [hc], fun t u hu => ?_⟩
      have h0 : news.length = 0 := by omega
      rw [List.length_eq_zero_iff.1 h0] at hu
      simp at hu
    · refine ⟨⟨g, j, none⟩, by simp [hc], fun t u hu => ?_⟩
      have ht : t < n - j := by
        have := (List.getElem?_eq_some_iff.1 hu).1
        omega
      rw [hnews, List.map_drop, List.getElem?_drop] at hu
      rw [Addr.add_lit]
      show w.cell? ⟨g, j + t, none⟩ = some u
      rw [cell_of hh, hget _ (by omega)]
      exact hu
  obtain ⟨W1, hW1⟩ : ∃ W1, W1 = w.drew.setCells g (0 + i * 1) news := ⟨_, rfl⟩
  have hhd : w.drew.heap[g]? = some (.cells cur 22 (0, 0)) := hh
  obtain ⟨c1, hc1, hs1, ht1⟩ := setCells_row (g := g) news (0 + i * 1) w.drew cur hhd (by omega)
  rw [← hW1] at hc1
  have s1 : Hid (news.length = (n - j) * 1) := by show news.length = _; omega
  have s2 : Hid (∀ u ∈ news, u.oneCell' = true) := by
    intro u hu
    rw [hnews] at hu
    obtain ⟨x, _, rfl⟩ := List.mem_map.1 hu
    rfl
  have s3 : Hid (∀ t, t < news.length → (w.drew.cell? ⟨g, 0 + i * 1 + t, none⟩).isSome = true ∧ w.drew.frozen? ⟨g, 0 + i * 1 + t, none⟩ = false) := by
    intro t ht
    refine ⟨?_, frozen_of hhd _ (by omega)⟩
    rw [cell_of hhd, Array.getElem?_eq_getElem (by omega)]
    rfl
  have hcl : ∀ ty, (Builtin.clear_ #[23] ty #[.slice (some ⟨g, i + (n - j), none⟩) (n - (i + (n - j))) (cap - (i + (n - j)))]).run Try.prog W1 = .ok (.tuple #[]) (W1.setCells g (i + (n - j)) (List.replicate (n - (i + (n - j))) (.int .u64 0))) :=
    fun ty => Lib.run_clear_slice W1 _ _ ty _ Try.underlying23 (fun w => (by kernel_rfl)) rfl rfl g (i + (n - j)) _ _ (by omega) (fun t ht => by rw [cell_of hc1, Array.getElem?_eq_getElem (by omega)]; rfl) (fun t ht => frozen_of hc1 _ (by omega))
  have S1 := Aside0.mk hc1
  have S2 := Aside0.mk ht1
  have S3 := Aside0.mk hs1
  have hW : Hid (W1 = w.drew.setCells g (0 + i * 1) news) := hW1
  have S4 := Aside0.mk hrow
  have S5 := Aside0.mk hnews
  have hic : i ≤ cap := by omega
  have mixed : Try.prog.follows .mixedOrders = true := by kernel_rfl
  have HJ := Aside0.mk hj
  have hjc : j ≤ cap := by omega
  clear hj
  clear hW1 hc1 ht1 hs1 hrow hnews hget hh hhd h
  go_enter Try.func48, Try.ntmps48
  go_wp2_with fail
  go_region_law_o (refine step_append_room rfl (.tmp 22) (.tmp 25) 23 rfl 22 _ 1 Try.underlying23 rfl rfl g 0 i cap (by simp [Act.eval, Act.put]) A (n - j) (cap - j) news (by simp [Act.eval, Act.put]) s1.out hsrc.out s2.out (by omega) s3.out ?_; rw [← hW.out])
  go_wp2
  go_ret
  have hj := HJ.out
  rw [show n - (i + (n - j)) = 1 by omega]
  have hh2 := S1.out
  obtain ⟨c2, h2, hs2, ht2⟩ := setCells_row (g := g) (List.replicate 1 (Value.int .u64 0)) (i + (n - j)) W1 c1 hh2 (by rw [S3.out, hsize, List.length_replicate]; omega)
  have hxe : (xs.eraseIdx i).length = i + (n - j) := by rw [List.length_eraseIdx_of_lt (by omega)]; omega
  refine ⟨.slice (some ⟨g, 0, none⟩) (i + (n - j)) cap, rfl, Blk.R (g := g) (cap := cap) (cur := c2) ⟨by rw [hxe], hbase, h2, by omega, hmax, by rw [hs2, S3.out, hsize], ?_⟩, ?_, rfl⟩
  · have hc : cur.toList.length = cap := by rw [Array.length_toList]; exact hsize
    have hc1 : c1.toList.length = cap := by rw [Array.length_toList, S3.out]; exact hsize
    have e1 : (cur.toList.take (0 + i * 1)) = (xs.take i).map (Value.int .u64) := by
      rw [show 0 + i * 1 = i by omega, List.map_take, ← S4.out, List.take_take, show min i n = i by omega]
    have e2 : ((xs.take i).map (Value.int .u64) ++ news).length = i + (n - j) := by rw [List.length_append, List.length_map, List.length_take, hnl, hn]; omega
    rw [hxe, ht2, List.append_assoc, List.take_left' (by rw [List.length_take, hc1]; omega), S2.out, e1, List.take_left' e2, S5.out, List.eraseIdx_eq_take_drop_succ, List.map_append, hj]
  · refine ⟨?_, ?_, ?_, ?_, fun k hk hne => ?_⟩
    · exact (setCells_same g _ _ _).1.trans (by rw [hW.out]; exact (setCells_same g _ _ _).1)
    · exact (setCells_same g _ _ _).2.1.trans (by rw [hW.out]; exact (setCells_same g _ _ _).2.1)
    · exact (setCells_same g _ _ _).2.2.1.trans (by rw [hW.out]; exact (setCells_same g _ _ _).2.2.1)
    · exact Nat.le_of_eq ((setCells_same g _ _ _).2.2.2.trans (by rw [hW.out]; exact (setCells_same g _ _ _).2.2.2)).symm
    · have hkg : k ≠ g := fun e => hne (by rw [e]; rfl)
      rw [setCells_far _ _ k hkg, hW.out, setCells_far _ _ k hkg]
      rfl
end Go.Proofs.Ytagcabmccpekaaa.M
