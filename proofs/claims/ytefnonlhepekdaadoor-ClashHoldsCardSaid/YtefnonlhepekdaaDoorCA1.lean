/- hash.Compress: the walk. The hash's two tables are where the condition says; a world of the door's meets it. A parameter that is a slice of integers: what it reads as, and that it reads the same where the call has at most laid new blocks. A law on a list of operations serves a region that draws its order, too. A region that draws its order, of which the orders are walked one by one, each as a list. massifref2's xor, ch, maj, power, shr, rotr: what they compute. Four rows of bytes of one's own, each apart from the others; what is no row of bytes stays as it was. (*massiflaw7.Spy).Node: keeps what it is asked, and refuses from a question on. proof.fetch of a spy. massifref2's words: bytes as words. -/
import Derived.Test.YtefnonlhepekdaaDoorCA0
import Derived.Laws.CopyOwn
import Derived.Deep.QuietTactic
import Derived.BigQuiet
import Derived.Deep.RegionHeld3
import Derived.IntWalk
import Derived.Test.YtefnonlhepekdaaDoorTie
import Derived.Test.YtefnonlhepekdaaDoorCards
import Derived.LaidMore
import Derived.Stop.Joined
import Derived.SevenTiedAt
import Derived.ChangeSlices
import Derived.Deep.RegionLawGrows
import Derived.RegionTactic
set_option linter.unusedVariables false
set_option linter.unusedSimpArgs false
set_option linter.unusedVariables false
set_option linter.unusedSimpArgs false
namespace Go.Proofs.YtefnonlhepekdaaDoor.M
open Go.RowKit Go.Proofs.YtefnonlhepekdaaDoorW.PrintWords Go.Proofs.YtefnonlhepekdaaDoorW.PrintLast Go.Proofs.YtefnonlhepekdaaDoorW.PrintMore Go.Proofs.YtefnonlhepekdaaDoor.Leaf

/-- The table of the rounds' constants lies where the program lays it. -/
def HK (w : World) : Prop := ∀ i, i < 64 → w.cell? ⟨2, i, none⟩ = some (.int .u32 ((kTab.getD i 0 : Nat) : Int))
/-- The state ahead of all blocks lies where the program lays it. -/
def HF (w : World) : Prop := w.rangeAt 0 0 (begB.map (Value.int .u8))
/-- Words, as far as they are known, 0 behind them. -/
def wcells (M : List Nat) (n t : Nat) : List Value := (M.take t).map (fun x : Nat => Value.int .u32 (x : Int)) ++ List.replicate (n - t) (Value.int .u32 0)
theorem wcells_len (M : List Nat) (n t : Nat) (hn : M.length = n) (ht : t ≤ n) : (wcells M n t).length = n := by
  simp [wcells, hn]
  omega
theorem wcells_get (M : List Nat) (n t i : Nat) (hn : M.length = n) (hi : i < t) (ht : t ≤ n) : (wcells M n t)[i]? = some (.int .u32 ((M.getD i 0 : Nat) : Int)) := by
  unfold wcells
  rw [List.getElem?_append_left (by simp; omega), List.getElem?_map, List.getElem?_take_of_lt hi, List.getElem?_eq_getElem (by omega), List.getD_eq_getElem?_getD, List.getElem?_eq_getElem (by omega)]
  rfl
theorem wcells_set (M : List Nat) (n t : Nat) (hn : M.length = n) (ht : t < n) : (wcells M n t).set t (.int .u32 ((M.getD t 0 : Nat) : Int)) = wcells M n (t + 1) := by
  unfold wcells
  rw [List.set_append_right _ _ (by simp; omega), List.length_map, List.length_take, Nat.min_eq_left (by omega), Nat.sub_self, show n - t = (n - (t + 1)) + 1 by omega, List.replicate_succ, List.set_cons_zero, List.take_add_one, List.getElem?_eq_getElem (by omega), List.map_append, List.append_assoc, List.getD_eq_getElem?_getD, List.getElem?_eq_getElem (by omega)]
  rfl
theorem wcells_some (M : List Nat) (n t i : Nat) (hn : M.length = n) (hi : i < n) (ht : t ≤ n) : ∃ v : Int, (wcells M n t)[i]? = some (.int .u32 v) := by
  by_cases h : i < t
  · exact ⟨_, wcells_get M n t i hn h ht⟩
  · refine ⟨0, ?_⟩
    unfold wcells
    rw [List.getElem?_append_right (by simp; omega), List.getElem?_replicate, if_pos (by simp; omega)]
theorem wcells_one (M : List Nat) (n t : Nat) : ∀ v ∈ wcells M n t, v.oneCell' = true := by
  intro v hv
  unfold wcells at hv
  rcases List.mem_append.1 hv with h | h
  · obtain ⟨x, _, rfl⟩ := List.mem_map.1 h
    rfl
  · rw [List.eq_of_mem_replicate h]
    rfl
theorem Blk.bytes {w : World} {g : Nat} {t : TypeId} {l : List Int} (h : Blk w g t (l.map (Value.int .u8))) (hl : l.length ≤ 1000000) : (Kd.int .u8).C w (some ⟨g, 0, none⟩) l.length l :=
  C_int_block .u8 h (by omega) (fun j x hj => by rw [List.getElem?_toArray, List.getElem?_map, hj]; rfl)
theorem xor3_val (a b c : Nat) (ha : a < 4294967296) (hb : b < 4294967296) (hc : c < 4294967296) : Go.bits .xor .u32 (Go.bits .xor .u32 (a : Int) (b : Int)) (c : Int) = ((a ^^^ b ^^^ c : Nat) : Int) := by
  rw [u32_xor_nat _ _ ha hb, u32_xor_nat _ _ (Nat.xor_lt_two_pow (n := 32) ha hb) hc]
theorem sg0_val (x : Nat) (hx : x < 4294967296) : Go.bits .xor .u32 (Go.bits .xor .u32 ((rotN x 7 : Nat) : Int) ((rotN x 18 : Nat) : Int)) ((x : Int) / 8) = ((sg0 x : Nat) : Int) := by
  rw [show (x : Int) / 8 = ((x / 2 ^ 3 : Nat) : Int) by omega]
  exact xor3_val _ _ _ (rot_lt x 7 hx (by omega)) (rot_lt x 18 hx (by omega)) (by omega)
theorem sg1_val (x : Nat) (hx : x < 4294967296) : Go.bits .xor .u32 (Go.bits .xor .u32 ((rotN x 17 : Nat) : Int) ((rotN x 19 : Nat) : Int)) ((x : Int) / 1024) = ((sg1 x : Nat) : Int) := by
  rw [show (x : Int) / 1024 = ((x / 2 ^ 10 : Nat) : Int) by omega]
  exact xor3_val _ _ _ (rot_lt x 17 hx (by omega)) (rot_lt x 19 hx (by omega)) (by omega)
theorem compl_xor : ∀ (f x : Nat), x < 2 ^ f → (2 ^ f - 1) ^^^ x = 2 ^ f - 1 - x
  | 0, x, hx => by
    simp at hx
    subst hx
    rfl
  | f + 1, x, hx => by
    rw [Nat.pow_succ] at hx ⊢
    have ih := compl_xor f (x / 2) (by omega)
    have hp : 0 < 2 ^ f := Nat.pow_pos (by omega)
    refine nat_ext2 ?_ ?_
    · rw [xor_mod2]
      omega
    · rw [xor_div2, show (2 ^ f * 2 - 1) / 2 = 2 ^ f - 1 by omega, ih]
      omega
theorem bg1_val (x : Nat) (hx : x < 4294967296) : Go.bits .xor .u32 (Go.bits .xor .u32 ((rotN x 6 : Nat) : Int) ((rotN x 11 : Nat) : Int)) ((rotN x 25 : Nat) : Int) = ((bg1 x : Nat) : Int) :=
  xor3_val _ _ _ (rot_lt x 6 hx (by omega)) (rot_lt x 11 hx (by omega)) (rot_lt x 25 hx (by omega))
theorem bg0_val (x : Nat) (hx : x < 4294967296) : Go.bits .xor .u32 (Go.bits .xor .u32 ((rotN x 2 : Nat) : Int) ((rotN x 13 : Nat) : Int)) ((rotN x 22 : Nat) : Int) = ((bg0 x : Nat) : Int) :=
  xor3_val _ _ _ (rot_lt x 2 hx (by omega)) (rot_lt x 13 hx (by omega)) (rot_lt x 22 hx (by omega))
theorem ch_val (x y z : Nat) (hx : x < 4294967296) (hy : y < 4294967296) (hz : z < 4294967296) : Go.bits .xor .u32 (Go.bits .and .u32 (x : Int) (y : Int)) (Go.bits .and .u32 (Go.bits .xor .u32 IntKind.u32.max (x : Int)) (z : Int)) = ((chN x y z : Nat) : Int) := by
  have hm : IntKind.u32.max = ((4294967295 : Nat) : Int) := rfl
  have hc := compl_xor 32 x hx
  have hc : 4294967295 ^^^ x = 4294967295 - x := hc
  rw [hm, u32_xor_nat _ _ (by omega) hx, hc, u32_and_nat _ _ hx hy, u32_and_nat _ _ (by omega) hz, u32_xor_nat _ _ (Nat.and_lt_two_pow (n := 32) _ hy) (Nat.and_lt_two_pow (n := 32) _ hz)]
  rfl
theorem maj_val (x y z : Nat) (hx : x < 4294967296) (hy : y < 4294967296) (hz : z < 4294967296) : Go.bits .xor .u32 (Go.bits .xor .u32 (Go.bits .and .u32 (x : Int) (y : Int)) (Go.bits .and .u32 (x : Int) (z : Int))) (Go.bits .and .u32 (y : Int) (z : Int)) = ((majN x y z : Nat) : Int) := by
  rw [u32_and_nat _ _ hx hy, u32_and_nat _ _ hx hz, u32_and_nat _ _ hy hz]
  exact xor3_val _ _ _ (Nat.and_lt_two_pow (n := 32) _ hy) (Nat.and_lt_two_pow (n := 32) _ hz) (Nat.and_lt_two_pow (n := 32) _ hz)
theorem addS_len (s v : St) : (addS s v).length = 8 := rfl
/-- The bytes of the first i words, 0 behind them. -/
def outP (O : List Nat) (i : Nat) : List Int := (O.take i).flatMap bytesW ++ List.replicate (32 - 4 * i) 0
theorem flat_len : ∀ l : List Nat, (l.flatMap bytesW).length = 4 * l.length
  | [] => rfl
  | x :: l => by rw [List.flatMap_cons, List.length_append, flat_len l, bytesW_len, List.length_cons]; omega
theorem outP_len (O : List Nat) (hO : O.length = 8) (i : Nat) (hi : i ≤ 8) : (outP O i).length = 32 := by
  unfold outP
  rw [List.length_append, flat_len, List.length_take, List.length_replicate]
  omega
theorem outP_step (O : List Nat) (hO : O.length = 8) (i : Nat) (hi : i < 8) : (outP O i).take (4 * i) ++ bytesW (O.getD i 0) ++ (outP O i).drop (4 * i + 4) = outP O (i + 1) := by
  have hl : ((O.take i).flatMap bytesW).length = 4 * i := by rw [flat_len, List.length_take]; omega
  unfold outP
  rw [List.take_append_of_le_length (by omega), List.take_of_length_le (by omega), List.drop_append, List.drop_of_length_le (by omega), hl, List.nil_append, List.drop_replicate, show 32 - 4 * i - (4 * i + 4 - 4 * i) = 32 - 4 * (i + 1) by omega, List.take_add_one, List.getElem?_eq_getElem (by omega), List.getD_eq_getElem?_getD, List.getElem?_eq_getElem (by omega), List.flatMap_append]
  simp
theorem addS_get (s v : St) (i : Nat) (hi : i < 8) : (addS s v).getD i 0 = (s.list.getD i 0 + v.list.getD i 0) % 4294967296 := by
  match i, hi with
  | 0, _ => rfl
  | 1, _ => rfl
  | 2, _ => rfl
  | 3, _ => rfl
  | 4, _ => rfl
  | 5, _ => rfl
  | 6, _ => rfl
  | 7, _ => rfl
theorem list_lt {s : St} (h : s.ok) (i : Nat) : s.list.getD i 0 < 4294967296 := by
  refine getD_lt (fun x hx => ?_) i
  obtain ⟨h0, h1, h2, h3, h4, h5, h6, h7⟩ := h
  simp [St.list] at hx
  omega
/-- A state's eight words, as cells. -/
def sc (s : St) : List Value := [.int .u32 (s.a : Int), .int .u32 (s.b : Int), .int .u32 (s.c : Int), .int .u32 (s.d : Int), .int .u32 (s.e : Int), .int .u32 (s.f : Int), .int .u32 (s.g : Int), .int .u32 (s.h : Int)]
theorem outP_all (O : List Nat) (hO : O.length = 8) : outP O 8 = O.flatMap bytesW := by
  unfold outP
  rw [List.take_of_length_le (by omega)]
  simp
theorem src_bytes {w : World} {e base : Nat} {A : Option Addr} {c : Nat} {z : Nat} (h : Kd.R (Kd.int .u8) e w base (fun _ => True) (.slice A 4 c) (bytesW z)) : ∃ ad, A = some ad ∧ ∀ j v, ((bytesW z).map (Value.int .u8))[j]? = some v → w.cell? (ad.add j) = some v := by
  obtain ⟨ad, ea, _⟩ := C_at (R_C h) 0 (by omega)
  refine ⟨ad, ea, fun j v hj => ?_⟩
  have hj4 : j < 4 := by have := (List.getElem?_eq_some_iff.1 hj).1; simpa [bytesW] using this
  obtain ⟨ad', ea', hx⟩ := C_at (R_C h) j hj4
  rw [ea] at ea'
  injection ea' with ea'
  subst ea'
  rw [hx, ← hj, List.getElem?_map, List.getD_eq_getElem?_getD, List.getElem?_eq_getElem (by rw [bytesW_len]; exact hj4)]
  rfl
theorem out_next {w : World} {g t : Nat} {P Q : List Int} {i z : Nat} (hst : P.take (4 * i) ++ bytesW z ++ P.drop (4 * i + 4) = Q) (h : w.heap[g]? = some (.cells (splice (P.map (Value.int .u8)) (4 * i) ((bytesW z).map (Value.int .u8))).toArray t (0, 0))) : Blk w g t (Q.map (Value.int .u8)) := by
  unfold Blk
  rw [h, ← hst]
  simp [splice, bytesW_len]
theorem sc_get (s : St) (i : Nat) (hi : i < 8) : (sc s)[i]? = some (.int .u32 ((s.list.getD i 0 : Nat) : Int)) := by
  match i, hi with
  | 0, _ => rfl
  | 1, _ => rfl
  | 2, _ => rfl
  | 3, _ => rfl
  | 4, _ => rfl
  | 5, _ => rfl
  | 6, _ => rfl
  | 7, _ => rfl
theorem sc_one (s : St) : ∀ v ∈ sc s, v.oneCell' = true := by
  intro v hv
  simp [sc] at hv
  rcases hv with h | h | h | h | h | h | h | h <;> rw [h] <;> rfl
theorem stOf_ok (l : List Int) (h : Bytes l) : (stOf l).ok := ⟨wordB_lt l h 0, wordB_lt l h 1, wordB_lt l h 2, wordB_lt l h 3, wordB_lt l h 4, wordB_lt l h 5, wordB_lt l h 6, wordB_lt l h 7⟩
theorem HK.below {w w' : World} (h : HK w) (hb : Below w.heap.size w w') : HK w' := fun i hi => pw_cell_below hb (h i hi)
set_option maxHeartbeats 40000000 in
set_option maxRecDepth 100000 in
theorem compress_calls (wd : Int) (st : Hsh) (blk : List Int) (w : World) (hblk : blk.length = 64) (hb : Bytes blk) (hs : Bytes st.b) (hK : HK w) :
    Calls Tryd.prog 120 #[.int .i64 wd, .agg st.cells.toArray, .agg (blk.map (Value.int .u8)).toArray] w fun e w' => e = .returned (.agg (compH wd st blk).cells.toArray) ∧ Below w.heap.size w w' := by
  obtain ⟨M, hM⟩ : ∃ M, M = schedN (wordsB blk 16) 48 := ⟨_, rfl⟩
  have hMl : M.length = 64 := by rw [hM, sched_len]; rfl
  have HM := Aside0.mk hM
  have HMl := Aside0.mk hMl
  have HMb := Aside0.mk (show ∀ x ∈ M, x < 4294967296 from hM ▸ sched_lt _ (fun x hx => by unfold wordsB at hx; obtain ⟨i, _, rfl⟩ := List.mem_map.1 hx; exact wordB_lt blk hb i) 48)
  have HBb := Aside0.mk hb
  have HSb := Aside0.mk hs
  have HK0 := Aside0.mk hK
  have b0 := blk_newL w st.cells 63 (g := w.heap.size) rfl
  have b1 := blk_newL (w.alloc (.cells st.cells.toArray 63)) (blk.map (Value.int .u8)) 154 (g := w.heap.size + 1) (by simp)
  have b2 := blk_newL ((w.alloc (.cells st.cells.toArray 63)).alloc (.cells (blk.map (Value.int .u8)).toArray 154)) [Value.int .u8 0, Value.int .u8 0, Value.int .u8 0, Value.int .u8 0, Value.int .u8 0, Value.int .u8 0, Value.int .u8 0, Value.int .u8 0, Value.int .u8 0, Value.int .u8 0, Value.int .u8 0, Value.int .u8 0, Value.int .u8 0, Value.int .u8 0, Value.int .u8 0, Value.int .u8 0, Value.int .u8 0, Value.int .u8 0, Value.int .u8 0, Value.int .u8 0, Value.int .u8 0, Value.int .u8 0, Value.int .u8 0, Value.int .u8 0, Value.int .u8 0, Value.int .u8 0, Value.int .u8 0, Value.int .u8 0, Value.int .u8 0, Value.int .u8 0, Value.int .u8 0, Value.int .u8 0] 63 (g := w.heap.size + 1 + 1) (by simp)
  have b3 := blk_newL (((w.alloc (.cells st.cells.toArray 63)).alloc (.cells (blk.map (Value.int .u8)).toArray 154)).alloc (.cells ([Value.int .u8 0, Value.int .u8 0, Value.int .u8 0, Value.int .u8 0, Value.int .u8 0, Value.int .u8 0, Value.int .u8 0, Value.int .u8 0, Value.int .u8 0, Value.int .u8 0, Value.int .u8 0, Value.int .u8 0, Value.int .u8 0, Value.int .u8 0, Value.int .u8 0, Value.int .u8 0, Value.int .u8 0, Value.int .u8 0, Value.int .u8 0, Value.int .u8 0, Value.int .u8 0, Value.int .u8 0, Value.int .u8 0, Value.int .u8 0, Value.int .u8 0, Value.int .u8 0, Value.int .u8 0, Value.int .u8 0, Value.int .u8 0, Value.int .u8 0, Value.int .u8 0, Value.int .u8 0]).toArray 63)) [Value.int .u32 0, Value.int .u32 0, Value.int .u32 0, Value.int .u32 0, Value.int .u32 0, Value.int .u32 0, Value.int .u32 0, Value.int .u32 0, Value.int .u32 0, Value.int .u32 0, Value.int .u32 0, Value.int .u32 0, Value.int .u32 0, Value.int .u32 0, Value.int .u32 0, Value.int .u32 0, Value.int .u32 0, Value.int .u32 0, Value.int .u32 0, Value.int .u32 0, Value.int .u32 0, Value.int .u32 0, Value.int .u32 0, Value.int .u32 0, Value.int .u32 0, Value.int .u32 0, Value.int .u32 0, Value.int .u32 0, Value.int .u32 0, Value.int .u32 0, Value.int .u32 0, Value.int .u32 0, Value.int .u32 0, Value.int .u32 0, Value.int .u32 0, Value.int .u32 0, Value.int .u32 0, Value.int .u32 0, Value.int .u32 0, Value.int .u32 0, Value.int .u32 0, Value.int .u32 0, Value.int .u32 0, Value.int .u32 0, Value.int .u32 0, Value.int .u32 0, Value.int .u32 0, Value.int .u32 0, Value.int .u32 0, Value.int .u32 0, Value.int .u32 0, Value.int .u32 0, Value.int .u32 0, Value.int .u32 0, Value.int .u32 0, Value.int .u32 0, Value.int .u32 0, Value.int .u32 0, Value.int .u32 0, Value.int .u32 0, Value.int .u32 0, Value.int .u32 0, Value.int .u32 0, Value.int .u32 0] 165 (g := w.heap.size + 1 + 1 + 1) (by simp)
  have hb3 := bl_new (((w.alloc (.cells st.cells.toArray 63)).alloc (.cells (blk.map (Value.int .u8)).toArray 154)).alloc (.cells ([Value.int .u8 0, Value.int .u8 0, Value.int .u8 0, Value.int .u8 0, Value.int .u8 0, Value.int .u8 0, Value.int .u8 0, Value.int .u8 0, Value.int .u8 0, Value.int .u8 0, Value.int .u8 0, Value.int .u8 0, Value.int .u8 0, Value.int .u8 0, Value.int .u8 0, Value.int .u8 0, Value.int .u8 0, Value.int .u8 0, Value.int .u8 0, Value.int .u8 0, Value.int .u8 0, Value.int .u8 0, Value.int .u8 0, Value.int .u8 0, Value.int .u8 0, Value.int .u8 0, Value.int .u8 0, Value.int .u8 0, Value.int .u8 0, Value.int .u8 0, Value.int .u8 0, Value.int .u8 0]).toArray 63)) (.cells ([Value.int .u32 0, Value.int .u32 0, Value.int .u32 0, Value.int .u32 0, Value.int .u32 0, Value.int .u32 0, Value.int .u32 0, Value.int .u32 0, Value.int .u32 0, Value.int .u32 0, Value.int .u32 0, Value.int .u32 0, Value.int .u32 0, Value.int .u32 0, Value.int .u32 0, Value.int .u32 0, Value.int .u32 0, Value.int .u32 0, Value.int .u32 0, Value.int .u32 0, Value.int .u32 0, Value.int .u32 0, Value.int .u32 0, Value.int .u32 0, Value.int .u32 0, Value.int .u32 0, Value.int .u32 0, Value.int .u32 0, Value.int .u32 0, Value.int .u32 0, Value.int .u32 0, Value.int .u32 0, Value.int .u32 0, Value.int .u32 0, Value.int .u32 0, Value.int .u32 0, Value.int .u32 0, Value.int .u32 0, Value.int .u32 0, Value.int .u32 0, Value.int .u32 0, Value.int .u32 0, Value.int .u32 0, Value.int .u32 0, Value.int .u32 0, Value.int .u32 0, Value.int .u32 0, Value.int .u32 0, Value.int .u32 0, Value.int .u32 0, Value.int .u32 0, Value.int .u32 0, Value.int .u32 0, Value.int .u32 0, Value.int .u32 0, Value.int .u32 0, Value.int .u32 0, Value.int .u32 0, Value.int .u32 0, Value.int .u32 0, Value.int .u32 0, Value.int .u32 0, Value.int .u32 0, Value.int .u32 0]).toArray 165)
  have c0 := Blk.below (Blk.below (Blk.below b0 (bl_new _ (.cells (blk.map (Value.int .u8)).toArray 154))) (bl_new _ (.cells ([Value.int .u8 0, Value.int .u8 0, Value.int .u8 0, Value.int .u8 0, Value.int .u8 0, Value.int .u8 0, Value.int .u8 0, Value.int .u8 0, Value.int .u8 0, Value.int .u8 0, Value.int .u8 0, Value.int .u8 0, Value.int .u8 0, Value.int .u8 0, Value.int .u8 0, Value.int .u8 0, Value.int .u8 0, Value.int .u8 0, Value.int .u8 0, Value.int .u8 0, Value.int .u8 0, Value.int .u8 0, Value.int .u8 0, Value.int .u8 0, Value.int .u8 0, Value.int .u8 0, Value.int .u8 0, Value.int .u8 0, Value.int .u8 0, Value.int .u8 0, Value.int .u8 0, Value.int .u8 0]).toArray 63))) hb3
  have c1 := Blk.below (Blk.below b1 (bl_new _ (.cells ([Value.int .u8 0, Value.int .u8 0, Value.int .u8 0, Value.int .u8 0, Value.int .u8 0, Value.int .u8 0, Value.int .u8 0, Value.int .u8 0, Value.int .u8 0, Value.int .u8 0, Value.int .u8 0, Value.int .u8 0, Value.int .u8 0, Value.int .u8 0, Value.int .u8 0, Value.int .u8 0, Value.int .u8 0, Value.int .u8 0, Value.int .u8 0, Value.int .u8 0, Value.int .u8 0, Value.int .u8 0, Value.int .u8 0, Value.int .u8 0, Value.int .u8 0, Value.int .u8 0, Value.int .u8 0, Value.int .u8 0, Value.int .u8 0, Value.int .u8 0, Value.int .u8 0, Value.int .u8 0]).toArray 63))) hb3
  have c2 := Blk.below b2 hb3
  have hbe : Below w.heap.size w ((((w.alloc (.cells st.cells.toArray 63)).alloc (.cells (blk.map (Value.int .u8)).toArray 154)).alloc (.cells ([Value.int .u8 0, Value.int .u8 0, Value.int .u8 0, Value.int .u8 0, Value.int .u8 0, Value.int .u8 0, Value.int .u8 0, Value.int .u8 0, Value.int .u8 0, Value.int .u8 0, Value.int .u8 0, Value.int .u8 0, Value.int .u8 0, Value.int .u8 0, Value.int .u8 0, Value.int .u8 0, Value.int .u8 0, Value.int .u8 0, Value.int .u8 0, Value.int .u8 0, Value.int .u8 0, Value.int .u8 0, Value.int .u8 0, Value.int .u8 0, Value.int .u8 0, Value.int .u8 0, Value.int .u8 0, Value.int .u8 0, Value.int .u8 0, Value.int .u8 0, Value.int .u8 0, Value.int .u8 0]).toArray 63)).alloc (.cells ([Value.int .u32 0, Value.int .u32 0, Value.int .u32 0, Value.int .u32 0, Value.int .u32 0, Value.int .u32 0, Value.int .u32 0, Value.int .u32 0, Value.int .u32 0, Value.int .u32 0, Value.int .u32 0, Value.int .u32 0, Value.int .u32 0, Value.int .u32 0, Value.int .u32 0, Value.int .u32 0, Value.int .u32 0, Value.int .u32 0, Value.int .u32 0, Value.int .u32 0, Value.int .u32 0, Value.int .u32 0, Value.int .u32 0, Value.int .u32 0, Value.int .u32 0, Value.int .u32 0, Value.int .u32 0, Value.int .u32 0, Value.int .u32 0, Value.int .u32 0, Value.int .u32 0, Value.int .u32 0, Value.int .u32 0, Value.int .u32 0, Value.int .u32 0, Value.int .u32 0, Value.int .u32 0, Value.int .u32 0, Value.int .u32 0, Value.int .u32 0, Value.int .u32 0, Value.int .u32 0, Value.int .u32 0, Value.int .u32 0, Value.int .u32 0, Value.int .u32 0, Value.int .u32 0, Value.int .u32 0, Value.int .u32 0, Value.int .u32 0, Value.int .u32 0, Value.int .u32 0, Value.int .u32 0, Value.int .u32 0, Value.int .u32 0, Value.int .u32 0, Value.int .u32 0, Value.int .u32 0, Value.int .u32 0, Value.int .u32 0, Value.int .u32 0, Value.int .u32 0, Value.int .u32 0, Value.int .u32 0]).toArray 165)) := (by repeat (with_reducible first | exact Below.refl _ _ | refine below_alloc ?_ _ | refine below_drew ?_))
  clear hM hMl hb hs hK b0 b1 b2 hb3
  go_enter Tryd.func120, Tryd.ntmps120
  go_wp2_with fail
  generalize ((((w.alloc (.cells st.cells.toArray 63)).alloc (.cells (blk.map (Value.int .u8)).toArray 154)).alloc (.cells ([Value.int .u8 0, Value.int .u8 0, Value.int .u8 0, Value.int .u8 0, Value.int .u8 0, Value.int .u8 0, Value.int .u8 0, Value.int .u8 0, Value.int .u8 0, Value.int .u8 0, Value.int .u8 0, Value.int .u8 0, Value.int .u8 0, Value.int .u8 0, Value.int .u8 0, Value.int .u8 0, Value.int .u8 0, Value.int .u8 0, Value.int .u8 0, Value.int .u8 0, Value.int .u8 0, Value.int .u8 0, Value.int .u8 0, Value.int .u8 0, Value.int .u8 0, Value.int .u8 0, Value.int .u8 0, Value.int .u8 0, Value.int .u8 0, Value.int .u8 0, Value.int .u8 0, Value.int .u8 0]).toArray 63)).alloc (.cells ([Value.int .u32 0, Value.int .u32 0, Value.int .u32 0, Value.int .u32 0, Value.int .u32 0, Value.int .u32 0, Value.int .u32 0, Value.int .u32 0, Value.int .u32 0, Value.int .u32 0, Value.int .u32 0, Value.int .u32 0, Value.int .u32 0, Value.int .u32 0, Value.int .u32 0, Value.int .u32 0, Value.int .u32 0, Value.int .u32 0, Value.int .u32 0, Value.int .u32 0, Value.int .u32 0, Value.int .u32 0, Value.int .u32 0, Value.int .u32 0, Value.int .u32 0, Value.int .u32 0, Value.int .u32 0, Value.int .u32 0, Value.int .u32 0, Value.int .u32 0, Value.int .u32 0, Value.int .u32 0, Value.int .u32 0, Value.int .u32 0, Value.int .u32 0, Value.int .u32 0, Value.int .u32 0, Value.int .u32 0, Value.int .u32 0, Value.int .u32 0, Value.int .u32 0, Value.int .u32 0, Value.int .u32 0, Value.int .u32 0, Value.int .u32 0, Value.int .u32 0, Value.int .u32 0, Value.int .u32 0, Value.int .u32 0, Value.int .u32 0, Value.int .u32 0, Value.int .u32 0, Value.int .u32 0, Value.int .u32 0, Value.int .u32 0, Value.int .u32 0, Value.int .u32 0, Value.int .u32 0, Value.int .u32 0, Value.int .u32 0, Value.int .u32 0, Value.int .u32 0, Value.int .u32 0, Value.int .u32 0]).toArray 165)) = W1 at *
  have C0 := Aside0.mk c0
  have C1 := Aside0.mk c1
  have C2 := Aside0.mk c2
  have b3 : Blk W1 (w.heap.size + 1 + 1 + 1) 165 (wcells M 64 0) := b3
  have C3 := Aside0.mk b3
  have HBe := Aside0.mk hbe
  clear c0 c1 c2 b3 hbe
  go_loopw [29] (fun s wr => ∃ t : Nat, t ≤ 64 ∧ s = .int .i64 t ∧ Aside0 (Blk wr (w.heap.size + 1 + 1 + 1) 165 (wcells M 64 t)) ∧ Aside0 (Frm (fun k => k = w.heap.size + 1 + 1 + 1) W1 wr)) (fun s _ => 64 - (intOf s).toNat)
  case atStart => exact ⟨0, Nat.zero_le _, rfl, C3, ⟨Frm.refl _ _⟩⟩
  case round =>
    obtain ⟨t, ht, rfl, HX, HFr⟩ := hrel
    clear C3
    by_cases hlt : t < 64
    · by_cases h16 : t < 16
      · have hc := Blk.bytes (C1.out.frm HFr.out (by omega)) (by omega)
        rw [hblk] at hc
        have hcl := word_calls blk (some ⟨w.heap.size + 1, 0, none⟩) 64 64 t wr HBb.out (by omega) (by omega) (by omega) hc
        have HMt := Aside0.mk (show wordB blk t = M.getD t 0 by rw [HM.out, sched_lo _ _ _ (by simp [wordsB]; omega)]; simp [wordsB, List.getD_eq_getElem?_getD, List.getElem?_map, List.getElem?_range h16])
        have HCl := Aside0.mk hcl
        clear hc hcl
        go_wp2_with fail
        refine HCl.out.mono ?_
        rintro e w3 ⟨rfl, hd3⟩
        have hx3 := HX.out.below hd3.below
        obtain ⟨y, hy⟩ := wcells_some M 64 t t HMl.out (by omega) ht
        have y1 := hx3.at hy
        have y2 : w3.frozen? ⟨w.heap.size + 1 + 1 + 1, t, none⟩ = false := hx3.frozen t
        have HX3 := Aside0.mk (hx3.set t (.int .u32 (wordB blk t : Nat)))
        have HF3 := Aside0.mk ((HFr.out.trans (Frm.of_below hd3.below (fun _ => False)) (fun i _ h => h.elim)).trans (Frm.of_set w3 ⟨w.heap.size + 1 + 1 + 1, t, none⟩ (.int .u32 (wordB blk t : Nat))) (fun i _ h => h))
        clear hd3 hx3 hy HCl
        go_wp2_with fail
        go_roundw
        case rel => exact ⟨t + 1, by omega, by go_num, ⟨by have h := HX3.out; rw [HMt.out, wcells_set M 64 t HMl.out (by omega)] at h; rw [HMt.out]; exact h⟩, HF3⟩
        case measure => simp [intOf]; omega
      · have hcell : ∀ d, 2 ≤ d → d ≤ 16 → wr.cell? ⟨w.heap.size + 1 + 1 + 1, t - d, none⟩ = some (.int .u32 ((M.getD (t - d) 0 : Nat) : Int)) := fun d h2 h3 => HX.out.at (wcells_get M 64 t (t - d) HMl.out (by omega) (by omega))
        have k2 := hcell 2 (by omega) (by omega)
        have k7 := hcell 7 (by omega) (by omega)
        have k15 := hcell 15 (by omega) (by omega)
        have k16 := hcell 16 (by omega) (by omega)
        have m7 := fun (n : Nat) (v : Value) => ((Blk.set (HX.out.below (pw_below_drewN (Below.refl _ _) n)) t v).cell (t - 7)).trans ((List.getElem?_set_ne (by omega)).trans (wcells_get M 64 t (t - 7) HMl.out (by omega) (by omega)))
        have m16 := fun (n : Nat) (v : Value) => ((Blk.set (HX.out.below (pw_below_drewN (Below.refl _ _) n)) t v).cell (t - 16)).trans ((List.getElem?_set_ne (by omega)).trans (wcells_get M 64 t (t - 16) HMl.out (by omega) (by omega)))
        have hbd := HMb.out
        have b2 := getD_lt hbd (t - 2)
        have b7 := getD_lt hbd (t - 7)
        have b15 := getD_lt hbd (t - 15)
        have b16 := getD_lt hbd (t - 16)
        have hMt := sched_hi (wordsB blk 16) (by simp [wordsB]) 48 t (by omega) (by omega)
        rw [← HM.out] at hMt
        have hset := wcells_set M 64 t HMl.out hlt
        obtain ⟨y, hy⟩ := wcells_some M 64 t t HMl.out (by omega) ht
        have y1 := HX.out.at hy
        have y2 : wr.frozen? ⟨w.heap.size + 1 + 1 + 1, t, none⟩ = false := HX.out.frozen t
        have hsetc := HX.out.set t (.int .u32 ((M.getD t 0 : Nat) : Int))
        rw [hset] at hsetc
        generalize M.getD (t - 2) 0 = x2 at *
        generalize M.getD (t - 7) 0 = x7 at *
        generalize M.getD (t - 15) 0 = x15 at *
        generalize M.getD (t - 16) 0 = x16 at *
        generalize M.getD t 0 = xt at *
        have e0 : Go.bits .xor .u32 (Go.bits .xor .u32 ((rotN x15 7 : Nat) : Int) ((rotN x15 18 : Nat) : Int)) ((x15 : Int) / 8) = ((sg0 x15 : Nat) : Int) := sg0_val x15 b15
        have e1 : Go.bits .xor .u32 (Go.bits .xor .u32 ((rotN x2 17 : Nat) : Int) ((rotN x2 19 : Nat) : Int)) ((x2 : Int) / 1024) = ((sg1 x2 : Nat) : Int) := sg1_val x2 b2
        have l0 := sg0_lt b15
        have l1 := sg1_lt b2
        generalize sg0 x15 = s0 at *
        generalize sg1 x2 = s1 at *
        obtain ⟨z1, hz1⟩ : ∃ z : Nat, IntKind.u32.wrap ((s1 : Int) + (x7 : Int)) = (z : Int) ∧ z < 4294967296 ∧ z = (s1 + x7) % 4294967296 := ⟨(s1 + x7) % 4294967296, by rw [IntKind.wrap_u32]; omega, Nat.mod_lt _ (by omega), rfl⟩
        obtain ⟨z2, hz2⟩ : ∃ z : Nat, IntKind.u32.wrap ((z1 : Int) + (s0 : Int)) = (z : Int) ∧ z < 4294967296 ∧ z = (z1 + s0) % 4294967296 := ⟨(z1 + s0) % 4294967296, by rw [IntKind.wrap_u32]; omega, Nat.mod_lt _ (by omega), rfl⟩
        have hz3 : IntKind.u32.wrap ((z2 : Int) + (x16 : Int)) = (xt : Int) := by rw [IntKind.wrap_u32]; omega
        have w1 := hz1.1
        have w2 := hz2.1
        have bz1 := hz1.2.1
        have bz2 := hz2.2.1
        have HSet := Aside0.mk hsetc
        have R1 := Aside0.mk (fun W => rotr_calls x15 7 b15 (by omega) (by omega) W)
        have R2 := Aside0.mk (fun W => rotr_calls x15 18 b15 (by omega) (by omega) W)
        have R3 := Aside0.mk (fun W => rotr_calls x2 17 b2 (by omega) (by omega) W)
        have R4 := Aside0.mk (fun W => rotr_calls x2 19 b2 (by omega) (by omega) W)
        generalize rotN x15 7 = r1 at *
        generalize rotN x15 18 = r2 at *
        generalize rotN x2 17 = r3 at *
        generalize rotN x2 19 = r4 at *
        have M7 := Aside0.mk m7
        have M16 := Aside0.mk m16
        clear hcell hbd hMt hset hy hz1 hz2 hsetc m7 m16
        have hlt2 : 16 ≤ t := by omega
        go_wp2_with fail
        go_quiet (fail)
        go_wp2_with fail
        refine (R1.out _).mono ?_
        rintro e w3 ⟨rfl, rfl⟩
        go_wp2_with fail
        refine (R2.out _).mono ?_
        rintro e w4 ⟨rfl, rfl⟩
        go_wp2_with fail
        refine (R3.out _).mono ?_
        rintro e w5 ⟨rfl, rfl⟩
        go_wp2_with fail
        refine (R4.out _).mono ?_
        rintro e w6 ⟨rfl, rfl⟩
        go_wp2_with fail
        have q7 : IntKind.i64.wrap ((t : Int) - 7) = ((t - 7 : Nat) : Int) := by rw [IntWalk.i64_in _ (by omega)]; omega
        have q16 : IntKind.i64.wrap ((t : Int) - 16) = ((t - 16 : Nat) : Int) := by rw [IntWalk.i64_in _ (by omega)]; omega
        have r7 : (0 : Int) ≤ ((t - 7 : Nat) : Int) := by omega
        have r16 : (0 : Int) ≤ ((t - 16 : Nat) : Int) := by omega
        have u7 : ((t - 7 : Nat) : Int) < 64 := by omega
        have u16 : ((t - 16 : Nat) : Int) < 64 := by omega
        have rt : (0 : Int) ≤ (t : Int) := by omega
        have ut : (t : Int) < 64 := by omega
        generalize t - 7 = p7 at *
        generalize t - 16 = p16 at *
        go_region_held3 (fun w' => w'.cell? ⟨w.heap.size + 1 + 1 + 1, p7, none⟩ = some (.int .u32 (x7 : Int)) ∧ w'.cell? ⟨w.heap.size + 1 + 1 + 1, p16, none⟩ = some (.int .u32 (x16 : Int))) (first | exact ⟨k7, k16⟩ | exact ⟨M7.out _ _, M16.out _ _⟩) (fail)
        go_wp2_with fail
        go_roundw
        case rel => exact ⟨t + 1, by omega, by go_num, ⟨HSet.out⟩, ⟨(HFr.out.trans (Frm.of_below (pw_below_drewN (Below.refl _ _) _) (fun _ => False)) (fun i _ h => h.elim)).trans (Frm.of_set _ ⟨w.heap.size + 1 + 1 + 1, t, none⟩ _) (fun i _ h => h)⟩⟩
        case measure => simp [intOf]; omega
    · have hx64 := HX.out
      rw [show t = 64 by omega] at hx64
      replace HX := Aside0.mk hx64
      obtain ⟨S, hS⟩ : ∃ S, S = wordsB st.b 8 := ⟨_, rfl⟩
      have hSl : S.length = 8 := by rw [hS]; simp [wordsB]
      have HS := Aside0.mk hS
      have HSl := Aside0.mk hSl
      have hbr := bl_new wr (.cells ([Value.int .u32 0, Value.int .u32 0, Value.int .u32 0, Value.int .u32 0, Value.int .u32 0, Value.int .u32 0, Value.int .u32 0, Value.int .u32 0]).toArray 168)
      replace C0 := Aside0.mk ((C0.out.frm HFr.out (by omega)).below hbr)
      replace C2 := Aside0.mk ((C2.out.frm HFr.out (by omega)).below hbr)
      replace C3 := Aside0.mk (HX.out.below hbr)
      have hbe1 := HBe.out.trans (HFr.out.below HBe.out.size (fun k hk => by omega))
      replace HBe := Aside0.mk (blt hbe1 hbr)
      have D4 := Aside0.mk (show Blk (wr.alloc (.cells ([Value.int .u32 0, Value.int .u32 0, Value.int .u32 0, Value.int .u32 0, Value.int .u32 0, Value.int .u32 0, Value.int .u32 0, Value.int .u32 0]).toArray 168)) wr.heap.size 168 (wcells S 8 0) from blk_newL wr [Value.int .u32 0, Value.int .u32 0, Value.int .u32 0, Value.int .u32 0, Value.int .u32 0, Value.int .u32 0, Value.int .u32 0, Value.int .u32 0] 168 rfl)
      have n0 : w.heap.size < wr.heap.size := by have := hbe1.size; have := C0.out.lt; have := C3.out.lt; simp at this; omega
      have n3 : w.heap.size + 1 + 1 + 1 < wr.heap.size := HX.out.lt
      clear hbr hS hSl HX HFr C1 hbe1 hx64
      go_wp2_with fail
      generalize hg4 : wr.heap.size = g4 at *
      generalize hW2 : wr.alloc (.cells ([Value.int .u32 0, Value.int .u32 0, Value.int .u32 0, Value.int .u32 0, Value.int .u32 0, Value.int .u32 0, Value.int .u32 0, Value.int .u32 0]).toArray 168) = W2 at *
      clear hg4 hW2 wr
      go_loopw [79] (fun s wr => ∃ t : Nat, t ≤ 8 ∧ s = .int .i64 t ∧ Aside0 (Blk wr g4 168 (wcells S 8 t)) ∧ Aside0 (Frm (fun k => k = g4) W2 wr)) (fun s _ => 8 - (intOf s).toNat)
      case atStart => exact ⟨0, Nat.zero_le _, rfl, D4, ⟨Frm.refl _ _⟩⟩
      case round =>
        obtain ⟨t, ht, rfl, HX, HFr⟩ := hrel
        clear D4
        by_cases hlt : t < 8
        · have hc := Blk.bytes (l := st.b) (C0.out.frm HFr.out (by omega)) (by rw [st.len]; omega)
          rw [st.len] at hc
          have hcl := word_calls st.b (some ⟨w.heap.size, 0, none⟩) 32 32 t wr HSb.out (by omega) (by omega) (by omega) hc
          have HMt := Aside0.mk (show wordB st.b t = S.getD t 0 by rw [HS.out]; simp [wordsB, List.getD_eq_getElem?_getD, List.getElem?_map, List.getElem?_range hlt])
          have HCl := Aside0.mk hcl
          clear hc hcl
          go_wp2_with fail
          refine HCl.out.mono ?_
          rintro e w3 ⟨rfl, hd3⟩
          have hx3 := HX.out.below hd3.below
          obtain ⟨y, hy⟩ := wcells_some S 8 t t HSl.out (by omega) ht
          have y1 := hx3.at hy
          have y2 : w3.frozen? ⟨g4, t, none⟩ = false := hx3.frozen t
          have HX3 := Aside0.mk (hx3.set t (.int .u32 (wordB st.b t : Nat)))
          have HF3 := Aside0.mk ((HFr.out.trans (Frm.of_below hd3.below (fun _ => False)) (fun i _ h => h.elim)).trans (Frm.of_set w3 ⟨g4, t, none⟩ (.int .u32 (wordB st.b t : Nat))) (fun i _ h => h))
          clear hd3 hx3 hy HCl
          go_wp2_with fail
          go_roundw
          case rel => exact ⟨t + 1, by omega, by go_num, ⟨by have h := HX3.out; rw [HMt.out, wcells_set S 8 t HSl.out (by omega)] at h; rw [HMt.out]; exact h⟩, HF3⟩
          case measure => simp [intOf]; omega
        · have hx8 := HX.out
          rw [show t = 8 by omega] at hx8
          replace HX := Aside0.mk hx8
          replace C2 := Aside0.mk (C2.out.frm HFr.out (by omega))
          replace C3 := Aside0.mk (C3.out.frm HFr.out (by omega))
          replace HBe := Aside0.mk (HBe.out.trans (HFr.out.below HBe.out.size (fun k hk => by omega)))
          clear C0 HFr hx8
          have hbr := bl_new wr (.cells ([Value.int .u32 0, Value.int .u32 0, Value.int .u32 0, Value.int .u32 0, Value.int .u32 0, Value.int .u32 0, Value.int .u32 0, Value.int .u32 0]).toArray 168)
          have D5 := Aside0.mk (blk_newL wr [Value.int .u32 0, Value.int .u32 0, Value.int .u32 0, Value.int .u32 0, Value.int .u32 0, Value.int .u32 0, Value.int .u32 0, Value.int .u32 0] 168 (g := wr.heap.size) rfl)
          replace C2 := Aside0.mk (C2.out.below hbr)
          replace C3 := Aside0.mk (C3.out.below hbr)
          replace HBe := Aside0.mk (blt HBe.out hbr)
          have n4 : g4 < wr.heap.size := HX.out.lt
          replace D4 := Aside0.mk (HX.out.below hbr)
          have hwl := wcells_len S 8 8 HSl.out (Nat.le_refl _)
          have hwo : ∀ v ∈ wcells S 8 8, v.oneCell' = true := wcells_one S 8 8
          have h150 : (Tryd.prog.info? 168).map (·.size) = some 8 := by kernel_rfl
          clear hbr
          go_wp2_with (first | ((with_reducible refine gate_dst (N := 88) rfl ?_); go_loud (refine load_var 168 _ rfl (.tmp 13) rfl g4 168 (wcells S 8 8) rfl HX.out Tryd.underlying168 rfl (by rw [hwl]; exact h150) ?_)) | ((with_reducible refine gate_store (t := 168) (p := 15) (v := .tmp 88) rfl ?_); go_loud (refine store_var 168 (wcells S 8 8) rfl rfl (.tmp 15) (.tmp 88) rfl (by rw [hwl]; exact h150) hwo wr.heap.size 168 [Value.int .u32 0, Value.int .u32 0, Value.int .u32 0, Value.int .u32 0, Value.int .u32 0, Value.int .u32 0, Value.int .u32 0, Value.int .u32 0] D5.out (by rw [hwl]; rfl) rfl rfl ?_; intro w4 hz4 hf4; have HZ4 := Aside0.mk hz4; have HF4 := Aside0.mk hf4; clear hz4 hf4)))
          replace C2 := Aside0.mk (C2.out.frm HF4.out (by have := C2.out.lt; have := HX.out.lt; omega))
          replace C3 := Aside0.mk (C3.out.frm HF4.out (by omega))
          replace D4 := Aside0.mk (D4.out.frm HF4.out (by omega))
          replace HBe := Aside0.mk (HBe.out.trans (HF4.out.below HBe.out.size (fun k hk => by omega)))
          have n35 : w.heap.size + 1 + 1 + 1 < wr.heap.size := by omega
          have D5' := HZ4.out
          have hsc : wcells S 8 8 = sc (stOf st.b) := by rw [HS.out]; rfl
          rw [hsc] at D5'
          replace D4 := D4.out
          rw [hsc] at D4
          have HD4 := Aside0.mk D4
          have HD5 := Aside0.mk D5'
          have Hok := Aside0.mk (stOf_ok st.b HSb.out)
          clear HZ4 HF4 HX D5 D5' D4 hsc hwl hwo HSl HS
          generalize hg5 : wr.heap.size = g5 at *
          clear hg5
          obtain ⟨s0, hs0⟩ : ∃ s0, s0 = stOf st.b := ⟨_, rfl⟩
          rw [← hs0] at HD4 HD5 Hok
          have HS0 := Aside0.mk hs0
          clear hs0
          go_loopw [89] (fun q wr => ∃ t : Nat, t ≤ 64 ∧ q = .int .i64 t ∧ Aside0 (Blk wr g5 168 (sc (roundsN M s0 t))) ∧ Aside0 (Frm (fun k => k = g5) w4 wr)) (fun q _ => 64 - (intOf q).toNat)
          case atStart => exact ⟨0, Nat.zero_le _, rfl, HD5, ⟨Frm.refl _ _⟩⟩
          case round =>
            obtain ⟨t, ht, rfl, HX, HFr⟩ := hrel
            clear HD5
            by_cases hlt : t < 64
            · have hok := roundsN_ok Hok.out M t
              have hkt := HK.below HK0.out (HBe.out.trans (HFr.out.below HBe.out.size (fun k hk => by omega))) t hlt
              have hmt := (C3.out.frm HFr.out (by omega)).at (wcells_get M 64 64 t HMl.out hlt (by omega))
              have hnx : roundsN M s0 (t + 1) = roundN (roundsN M s0 t) (kTab.getD t 0) (M.getD t 0) := rfl
              have hx := HX.out
              have bk := getD_lt kTab_lt t
              have bm := getD_lt HMb.out t
              generalize kTab.getD t 0 = kt at *
              generalize M.getD t 0 = mt at *
              obtain ⟨s, hs⟩ : ∃ s, s = roundsN M s0 t := ⟨_, rfl⟩
              rw [← hs] at hok hnx hx
              clear hs
              obtain ⟨a, b, c, d, e, f, g, hh⟩ := s
              obtain ⟨ba, bb, bc, bd, be, bf, bg, bh⟩ := hok
              simp only at ba bb bc bd be bf bg bh
              have k0 := hx.at (i := 0) rfl
              have k1 := hx.at (i := 1) rfl
              have k2 := hx.at (i := 2) rfl
              have k3 := hx.at (i := 3) rfl
              have k4 := hx.at (i := 4) rfl
              have k5 := hx.at (i := 5) rfl
              have k6 := hx.at (i := 6) rfl
              have k7 := hx.at (i := 7) rfl
              have HXs := Aside0.mk hx
              have HNx := Aside0.mk hnx
              clear hx hnx HX
              go_wp2_with fail
              go_quiet (fail)
              go_wp2_with fail
              have R6 : Aside0 (∀ W, Calls Tryd.prog 130 #[.int .u32 (e : Int), .int .i64 6] W fun e' w' => e' = .returned (.int .u32 ((rotN e 6 : Nat) : Int)) ∧ w' = W) := ⟨fun W => rotr_calls e 6 be (by omega) (by omega) W⟩
              have R11 : Aside0 (∀ W, Calls Tryd.prog 130 #[.int .u32 (e : Int), .int .i64 11] W fun e' w' => e' = .returned (.int .u32 ((rotN e 11 : Nat) : Int)) ∧ w' = W) := ⟨fun W => rotr_calls e 11 be (by omega) (by omega) W⟩
              have R25 : Aside0 (∀ W, Calls Tryd.prog 130 #[.int .u32 (e : Int), .int .i64 25] W fun e' w' => e' = .returned (.int .u32 ((rotN e 25 : Nat) : Int)) ∧ w' = W) := ⟨fun W => rotr_calls e 25 be (by omega) (by omega) W⟩
              have R2 : Aside0 (∀ W, Calls Tryd.prog 130 #[.int .u32 (a : Int), .int .i64 2] W fun e' w' => e' = .returned (.int .u32 ((rotN a 2 : Nat) : Int)) ∧ w' = W) := ⟨fun W => rotr_calls a 2 ba (by omega) (by omega) W⟩
              have R13 : Aside0 (∀ W, Calls Tryd.prog 130 #[.int .u32 (a : Int), .int .i64 13] W fun e' w' => e' = .returned (.int .u32 ((rotN a 13 : Nat) : Int)) ∧ w' = W) := ⟨fun W => rotr_calls a 13 ba (by omega) (by omega) W⟩
              have R22 : Aside0 (∀ W, Calls Tryd.prog 130 #[.int .u32 (a : Int), .int .i64 22] W fun e' w' => e' = .returned (.int .u32 ((rotN a 22 : Nat) : Int)) ∧ w' = W) := ⟨fun W => rotr_calls a 22 ba (by omega) (by omega) W⟩
              have v1 := bg1_val e be
              have v2 := ch_val e f g be bf bg
              have v3 := bg0_val a ba
              have v4 := maj_val a b c ba bb bc
              have l1 := bg1_lt be
              have l2 := chN_lt be bf bg
              have l3 := bg0_lt ba
              have l4 := majN_lt ba bb bc
              have ht1 : t1N ⟨a, b, c, d, e, f, g, hh⟩ kt mt = (hh + bg1 e + chN e f g + kt + mt) % 4294967296 := rfl
              have ht2 : t2N ⟨a, b, c, d, e, f, g, hh⟩ = (bg0 a + majN a b c) % 4294967296 := rfl
              have hrn : roundN ⟨a, b, c, d, e, f, g, hh⟩ kt mt = ⟨(t1N ⟨a, b, c, d, e, f, g, hh⟩ kt mt + t2N ⟨a, b, c, d, e, f, g, hh⟩) % 4294967296, a, b, c, (d + t1N ⟨a, b, c, d, e, f, g, hh⟩ kt mt) % 4294967296, e, f, g⟩ := rfl
              have hsz := HNx.out
              rw [hrn] at hsz
              generalize t1N ⟨a, b, c, d, e, f, g, hh⟩ kt mt = T1 at *
              generalize t2N ⟨a, b, c, d, e, f, g, hh⟩ = T2 at *
              generalize rotN e 6 = r6 at *
              generalize rotN e 11 = r11 at *
              generalize rotN e 25 = r25 at *
              generalize rotN a 2 = r2 at *
              generalize rotN a 13 = r13 at *
              generalize rotN a 22 = r22 at *
              generalize bg1 e = S1 at *
              generalize chN e f g = CH at *
              generalize bg0 a = S0 at *
              generalize majN a b c = MJ at *
              obtain ⟨z1, hz1⟩ : ∃ z : Nat, IntKind.u32.wrap ((hh : Int) + (S1 : Int)) = (z : Int) ∧ z < 4294967296 ∧ z = (hh + S1) % 4294967296 := ⟨(hh + S1) % 4294967296, by rw [IntKind.wrap_u32]; omega, Nat.mod_lt _ (by omega), rfl⟩
              obtain ⟨z2, hz2⟩ : ∃ z : Nat, IntKind.u32.wrap ((z1 : Int) + (CH : Int)) = (z : Int) ∧ z < 4294967296 ∧ z = (z1 + CH) % 4294967296 := ⟨(z1 + CH) % 4294967296, by rw [IntKind.wrap_u32]; omega, Nat.mod_lt _ (by omega), rfl⟩
              obtain ⟨z3, hz3⟩ : ∃ z : Nat, IntKind.u32.wrap ((z2 : Int) + (kt : Int)) = (z : Int) ∧ z < 4294967296 ∧ z = (z2 + kt) % 4294967296 := ⟨(z2 + kt) % 4294967296, by rw [IntKind.wrap_u32]; omega, Nat.mod_lt _ (by omega), rfl⟩
              have w4_ : IntKind.u32.wrap ((z3 : Int) + (mt : Int)) = (T1 : Int) := by rw [IntKind.wrap_u32]; omega
              have w5_ : IntKind.u32.wrap ((S0 : Int) + (MJ : Int)) = (T2 : Int) := by rw [IntKind.wrap_u32]; omega
              have bT1 : T1 < 4294967296 := by omega
              have bT2 : T2 < 4294967296 := by omega
              obtain ⟨na, hna⟩ : ∃ z : Nat, IntKind.u32.wrap ((T1 : Int) + (T2 : Int)) = (z : Int) ∧ z = (T1 + T2) % 4294967296 := ⟨(T1 + T2) % 4294967296, by rw [IntKind.wrap_u32]; omega, rfl⟩
              obtain ⟨ne, hne⟩ : ∃ z : Nat, IntKind.u32.wrap ((d : Int) + (T1 : Int)) = (z : Int) ∧ z = (d + T1) % 4294967296 := ⟨(d + T1) % 4294967296, by rw [IntKind.wrap_u32]; omega, rfl⟩
              rw [← hna.2, ← hne.2] at hsz
              have HSz := Aside0.mk hsz
              have w1_ := hz1.1
              have w2_ := hz2.1
              have w3_ := hz3.1
              have w6_ := hna.1
              have w7_ := hne.1
              have rt : (0 : Int) ≤ (t : Int) := by omega
              have ut : (t : Int) < 64 := by omega
              have h150 : (Tryd.prog.info? 168).map (·.size) = some 8 := by kernel_rfl
              clear hz1 hz2 hz3 hna hne ht1 ht2 hrn hsz HNx
              go_region_held3 (fun w' => w'.cell? ⟨g5, 7, none⟩ = some (.int .u32 (hh : Int)) ∧ w'.cell? ⟨2, t, none⟩ = some (.int .u32 (kt : Int)) ∧ w'.cell? ⟨w.heap.size + 1 + 1 + 1, t, none⟩ = some (.int .u32 (mt : Int))) (exact ⟨k7, hkt, hmt⟩) (first | (go_at_call 130; (with_reducible refine (R6.out _).mono ?_); rintro _ _ ⟨rfl, rfl⟩) | (go_at_call 130; (with_reducible refine (R11.out _).mono ?_); rintro _ _ ⟨rfl, rfl⟩) | (go_at_call 130; (with_reducible refine (R25.out _).mono ?_); rintro _ _ ⟨rfl, rfl⟩))
              go_wp2_with fail
              refine (R2.out _).mono ?_
              rintro _ _ ⟨rfl, rfl⟩
              go_wp2_with fail
              refine (R13.out _).mono ?_
              rintro _ _ ⟨rfl, rfl⟩
              go_wp2_with fail
              refine (R22.out _).mono ?_
              rintro _ _ ⟨rfl, rfl⟩
              have hso := sc_one ⟨na, a, b, c, ne, e, f, g⟩
              have hsg : IntKind.u32.signed = false := rfl
              go_wp2_with (((with_reducible refine gate_store (t := 168) (p := 15) (v := .tmp 165) rfl ?_); go_loud (refine store_var 168 (sc ⟨na, a, b, c, ne, e, f, g⟩) rfl rfl (.tmp 15) (.tmp 165) rfl h150 hso g5 168 (sc ⟨a, b, c, d, e, f, g, hh⟩) (HXs.out.below (pw_below_drewN (Below.refl _ _) _)) rfl rfl rfl ?_; intro w5 hz5 hf5; have HZ5 := Aside0.mk hz5; have HF5 := Aside0.mk hf5; clear hz5 hf5)))
              all_goals first | (exact absurd ‹IntKind.u32.signed = true› (by decide)) | skip
              go_roundw
              case rel => exact ⟨t + 1, by omega, by go_num, ⟨by rw [HSz.out]; exact HZ5.out⟩, ⟨(HFr.out.trans (Frm.of_below (pw_below_drewN (Below.refl _ _) _) (fun _ => False)) (fun i _ h => h.elim)).trans HF5.out (fun i _ h => h)⟩⟩
              case measure => simp [intOf]; omega
            · have hx64 := HX.out
              rw [show t = 64 by omega] at hx64
              replace HX := Aside0.mk hx64
              replace C2 := Aside0.mk (C2.out.frm HFr.out (by omega))
              replace HD4 := Aside0.mk (HD4.out.frm HFr.out (by omega))
              replace HBe := Aside0.mk (HBe.out.trans (HFr.out.below HBe.out.size (fun k hk => by omega)))
              clear hx64 HFr C3
              have hbr := bl_new wr (.cells ([Value.int .u8 0, Value.int .u8 0, Value.int .u8 0, Value.int .u8 0, Value.int .u8 0, Value.int .u8 0, Value.int .u8 0, Value.int .u8 0, Value.int .u8 0, Value.int .u8 0, Value.int .u8 0, Value.int .u8 0, Value.int .u8 0, Value.int .u8 0, Value.int .u8 0, Value.int .u8 0, Value.int .u8 0, Value.int .u8 0, Value.int .u8 0, Value.int .u8 0, Value.int .u8 0, Value.int .u8 0, Value.int .u8 0, Value.int .u8 0, Value.int .u8 0, Value.int .u8 0, Value.int .u8 0, Value.int .u8 0, Value.int .u8 0, Value.int .u8 0, Value.int .u8 0, Value.int .u8 0]).toArray 63)
              obtain ⟨v0, hv0⟩ : ∃ v0, v0 = roundsN M s0 64 := ⟨_, rfl⟩
              rw [← hv0] at HX
              have HV0 := Aside0.mk hv0
              have HVok := Aside0.mk (show v0.ok from hv0 ▸ roundsN_ok Hok.out M 64)
              clear hv0
              have n6a := HD4.out.lt
              have n6b := HX.out.lt
              have n6c := C2.out.lt
              have HZ6 := Aside0.mk (show Blk (wr.alloc (.cells ([Value.int .u8 0, Value.int .u8 0, Value.int .u8 0, Value.int .u8 0, Value.int .u8 0, Value.int .u8 0, Value.int .u8 0, Value.int .u8 0, Value.int .u8 0, Value.int .u8 0, Value.int .u8 0, Value.int .u8 0, Value.int .u8 0, Value.int .u8 0, Value.int .u8 0, Value.int .u8 0, Value.int .u8 0, Value.int .u8 0, Value.int .u8 0, Value.int .u8 0, Value.int .u8 0, Value.int .u8 0, Value.int .u8 0, Value.int .u8 0, Value.int .u8 0, Value.int .u8 0, Value.int .u8 0, Value.int .u8 0, Value.int .u8 0, Value.int .u8 0, Value.int .u8 0, Value.int .u8 0]).toArray 63)) wr.heap.size 63 ((outP (addS s0 v0) 0).map (Value.int .u8)) from blk_newL wr [Value.int .u8 0, Value.int .u8 0, Value.int .u8 0, Value.int .u8 0, Value.int .u8 0, Value.int .u8 0, Value.int .u8 0, Value.int .u8 0, Value.int .u8 0, Value.int .u8 0, Value.int .u8 0, Value.int .u8 0, Value.int .u8 0, Value.int .u8 0, Value.int .u8 0, Value.int .u8 0, Value.int .u8 0, Value.int .u8 0, Value.int .u8 0, Value.int .u8 0, Value.int .u8 0, Value.int .u8 0, Value.int .u8 0, Value.int .u8 0, Value.int .u8 0, Value.int .u8 0, Value.int .u8 0, Value.int .u8 0, Value.int .u8 0, Value.int .u8 0, Value.int .u8 0, Value.int .u8 0] 63 rfl)
              replace HD4 := Aside0.mk (HD4.out.below hbr)
              replace HX := Aside0.mk (HX.out.below hbr)
              replace C2 := Aside0.mk (C2.out.below hbr)
              replace HBe := Aside0.mk (blt HBe.out hbr)
              clear hbr
              go_wp2_with fail
              generalize hg6 : wr.heap.size = g6 at *
              generalize hW6 : wr.alloc (.cells ([Value.int .u8 0, Value.int .u8 0, Value.int .u8 0, Value.int .u8 0, Value.int .u8 0, Value.int .u8 0, Value.int .u8 0, Value.int .u8 0, Value.int .u8 0, Value.int .u8 0, Value.int .u8 0, Value.int .u8 0, Value.int .u8 0, Value.int .u8 0, Value.int .u8 0, Value.int .u8 0, Value.int .u8 0, Value.int .u8 0, Value.int .u8 0, Value.int .u8 0, Value.int .u8 0, Value.int .u8 0, Value.int .u8 0, Value.int .u8 0, Value.int .u8 0, Value.int .u8 0, Value.int .u8 0, Value.int .u8 0, Value.int .u8 0, Value.int .u8 0, Value.int .u8 0, Value.int .u8 0]).toArray 63) = w6 at *
              clear hg6 hW6
              have HOl := Aside0.mk (addS_len s0 v0)
              go_loopw [167] (fun q wr => ∃ i : Nat, i ≤ 8 ∧ q = .int .i64 i ∧ Aside0 (Blk wr g6 63 ((outP (addS s0 v0) i).map (Value.int .u8))) ∧ Aside0 (Below g6 w6 wr)) (fun q _ => 8 - (intOf q).toNat)
              case atStart => exact ⟨0, Nat.zero_le _, rfl, HZ6, ⟨Below.refl _ _⟩⟩
              case round =>
                obtain ⟨i, hi, rfl, HY, HL⟩ := hrel
                clear HZ6
                by_cases hlt : i < 8
                · have hd4 := HD4.out.at (sc_get s0 i hlt)
                  have hx5 := HX.out.at (sc_get v0 i hlt)
                  have k4 : wr.cell? ⟨g4, i, none⟩ = some (.int .u32 ((s0.list.getD i 0 : Nat) : Int)) := (World.cell?_of_block (HL.out.block g4 n6a)).trans hd4
                  have k5 : wr.cell? ⟨g5, i, none⟩ = some (.int .u32 ((v0.list.getD i 0 : Nat) : Int)) := (World.cell?_of_block (HL.out.block g5 n6b)).trans hx5
                  have hsum := addS_get s0 v0 i hlt
                  have bs4 := list_lt Hok.out i
                  have bs5 := list_lt HVok.out i
                  have hstep := outP_step (addS s0 v0) HOl.out i hlt
                  generalize s0.list.getD i 0 = x at *
                  generalize v0.list.getD i 0 = y at *
                  generalize (addS s0 v0).getD i 0 = z at *
                  have hz : IntKind.u32.wrap ((x : Int) + (y : Int)) = (z : Int) := by rw [IntKind.wrap_u32]; omega
                  have bz : z < 4294967296 := by omega
                  have bz0 : (0 : Int) ≤ (z : Int) := by omega
                  have hzw : IntKind.u64.wrap (z : Int) = (z : Int) := w64_nat z (by omega)
                  have HBig : Aside0 (∀ W, Calls Tryd.prog 128 #[.int .u64 (z : Int), .int .i64 4] W fun e w' => ∃ v, e = .returned (.tuple #[v, .int .i64 0]) ∧ Kd.R (Kd.int .u8) 5 w' W.heap.size (fun _ => True) v (bytesW z) ∧ Below W.heap.size W w') := ⟨fun W => by have := big_calls z 4 (by omega) (by omega) (by omega) W; rw [bigB_4] at this; exact this⟩
                  have rt : (0 : Int) ≤ (i : Int) := by omega
                  have ut : (i : Int) < 8 := by omega
                  have HSt := Aside0.mk hstep
                  clear hd4 hx5 hsum hstep
                  go_wp2_with fail
                  go_region_held3 (fun w' => w'.cell? ⟨g4, i, none⟩ = some (.int .u32 (x : Int)) ∧ w'.cell? ⟨g5, i, none⟩ = some (.int .u32 (y : Int))) (first | exact ⟨k4, k5⟩ | exact K9.out) ((go_at_call 128; (with_reducible refine (HBig.out _).mono ?_); rintro _ w7 ⟨v7, rfl, hr7, hb7⟩; obtain ⟨A7, m7, c7, e7⟩ : ∃ A m c, v7 = .slice A m c := (by obtain ⟨A, c, h⟩ := Kd.R_slice hr7; exact ⟨A, _, c, h⟩); subst e7; have HR7 := Aside0.mk hr7; have HB7 := Aside0.mk hb7; have K9 := Aside0.mk (And.intro (pw_cell_below hb7 k4) (pw_cell_below hb7 k5)); clear hr7 hb7))
                  obtain rfl : m7 = 4 := (Kd.R_reads' HR7.out).1
                  have hsl := slice_arr 63 5 32 (by kernel_rfl) (by kernel_rfl) (fun w => by kernel_rfl) g6 0 (4 * i) (by omega) .i64
                  rw [Nat.zero_add, show ((4 * i : Nat) : Int) = 4 * (i : Int) by omega] at hsl
                  have HYb := Aside0.mk ((Blk.below HY.out (bl_new wr (.cells #[] 0))))
                  have hpl := outP_len (addS s0 v0) HOl.out i (by omega)
                  have HPl := Aside0.mk hpl
                  have hle : g6 ≤ g6 := Nat.le_refl _
                  have hmn : 4 = Nat.min 4 (32 - 4 * i) := by show 4 = min 4 (32 - 4 * i); omega
                  have HMn := Aside0.mk hmn
                  have hst4 := Nat.mul_le_mul_left 4 (show i ≤ 7 by omega)
                  have HY7 := Aside0.mk (Blk.below (show Blk wr.drew g6 63 ((outP (addS s0 v0) i).map (Value.int .u8)) from HY.out) HB7.out)
                  have HL7 := Aside0.mk (HL.out.trans ((below_drew (Below.refl g6 wr)).trans (HB7.out.mono (by have := HY.out.lt; simp; omega))))
                  have HSrc := Aside0.mk (src_bytes HR7.out)
                  clear hmn hpl
                  go_wp2_with ((with_reducible refine gate_builtin (b := .copy) (xs := #[.tmp 184, .tmp 185]) rfl ?_); go_loud (refine wpList_copy_splice rfl (.tmp 184) (.tmp 185) 22 22 rfl 5 Tryd.underlying22 (by kernel_rfl) (some ⟨g6, 4 * i, none⟩) A7 (32 - 4 * i) (32 - 4 * i) 4 c7 rfl rfl g6 (4 * i) ((outP (addS s0 v0) i).map (Value.int .u8)) 63 HY7.out ((bytesW z).map (Value.int .u8)) HMn.out (fun _ => ⟨rfl, HSrc.out⟩) (by simp [HPl.out, bytesW]; omega) (by intro v hv; obtain ⟨q, _, rfl⟩ := List.mem_map.1 hv; rfl) g6 w6 HL7.out (Nat.le_refl _) ?_; intro w9 hz9 hb9; have HZ9 := Aside0.mk hz9.out; have HB9 := Aside0.mk hb9; clear hz9 hb9))
                  go_roundw
                  case rel => exact ⟨i + 1, by omega, by go_num, ⟨out_next HSt.out HZ9.out⟩, HB9⟩
                  case measure => simp [intOf]; omega
                · have hy8 := HY.out
                  have ho8 : outP (addS s0 v0) 8 = compB st.b blk := by rw [HV0.out, HS0.out, HM.out]; exact outP_all _ (addS_len _ _)
                  rw [show i = 8 by omega, ho8] at hy8
                  obtain ⟨hq, hhq⟩ : ∃ h : Hsh, h = ⟨compB st.b blk, compB_len _ _⟩ := ⟨_, rfl⟩
                  have hcut : cutH wd hq = compH wd st blk := by rw [hhq]; rfl
                  have HY8 := Aside0.mk (show Blk wr g6 63 hq.cells by rw [hhq]; exact hy8)
                  replace C2 := Aside0.mk (show Blk wr (w.heap.size + 1 + 1) 63 [Value.int .u8 0, Value.int .u8 0, Value.int .u8 0, Value.int .u8 0, Value.int .u8 0, Value.int .u8 0, Value.int .u8 0, Value.int .u8 0, Value.int .u8 0, Value.int .u8 0, Value.int .u8 0, Value.int .u8 0, Value.int .u8 0, Value.int .u8 0, Value.int .u8 0, Value.int .u8 0, Value.int .u8 0, Value.int .u8 0, Value.int .u8 0, Value.int .u8 0, Value.int .u8 0, Value.int .u8 0, Value.int .u8 0, Value.int .u8 0, Value.int .u8 0, Value.int .u8 0, Value.int .u8 0, Value.int .u8 0, Value.int .u8 0, Value.int .u8 0, Value.int .u8 0, Value.int .u8 0] from (HL.out.block _ n6c).trans C2.out)
                  replace HBe := Aside0.mk (HBe.out.trans (HL.out.mono (by omega)))
                  have hlen := (cutH wd hq).cells_len
                  have hone := (cutH wd hq).one
                  have hql := hq.cells_len
                  have HCut := Aside0.mk hcut
                  clear hy8 ho8 hhq hcut HY
                  go_wp2_with (((with_reducible refine gate_dst (N := 189) rfl ?_); go_loud (refine load_var 63 _ rfl (.tmp 25) rfl g6 63 hq.cells rfl HY8.out Tryd.underlying63 rfl (by rw [hql]; exact sizeH) ?_)))
                  refine (cut_calls wd hq _).mono ?_
                  rintro e w10 ⟨rfl, hb10⟩
                  replace C2 := Aside0.mk (C2.out.below hb10)
                  replace HBe := Aside0.mk (blt HBe.out hb10)
                  clear hb10
                  go_wp2_with (((with_reducible refine gate_store (t := 63) (p := 6) (v := .tmp 190) rfl ?_); go_loud (refine store_var 63 (cutH wd hq).cells rfl rfl (.tmp 6) (.tmp 190) rfl (by rw [hlen]; exact sizeH) hone (w.heap.size + 1 + 1) 63 [Value.int .u8 0, Value.int .u8 0, Value.int .u8 0, Value.int .u8 0, Value.int .u8 0, Value.int .u8 0, Value.int .u8 0, Value.int .u8 0, Value.int .u8 0, Value.int .u8 0, Value.int .u8 0, Value.int .u8 0, Value.int .u8 0, Value.int .u8 0, Value.int .u8 0, Value.int .u8 0, Value.int .u8 0, Value.int .u8 0, Value.int .u8 0, Value.int .u8 0, Value.int .u8 0, Value.int .u8 0, Value.int .u8 0, Value.int .u8 0, Value.int .u8 0, Value.int .u8 0, Value.int .u8 0, Value.int .u8 0, Value.int .u8 0, Value.int .u8 0, Value.int .u8 0, Value.int .u8 0] C2.out (by rw [hlen]; rfl) rfl rfl ?_; intro w11 hz11 hf11; have HZ11 := Aside0.mk hz11; have HF11 := Aside0.mk hf11; clear hz11 hf11)))
                  (try simp only [Exit.inBlock, Exit.then])
                  refine bodyPost_ret (results_blk (fn := Tryd.f120) (p := 6) (ty := 63) rfl _ _ (w.heap.size + 1 + 1) 63 (cutH wd hq).cells _ rfl HZ11.out Tryd.underlying63 rfl (by rw [hlen]; exact sizeH)) rfl ?_
                  refine ⟨by rw [HCut.out], HBe.out.trans (HF11.out.below HBe.out.size (fun k hk => by omega))⟩
end Go.Proofs.YtefnonlhepekdaaDoor.M

set_option linter.unusedVariables false
set_option linter.unusedSimpArgs false
namespace Go.Proofs.YtefnonlhepekdaaDoor.M
open Go.ChangeShapes Go.WideShapes Go.ChangeAt Go.RowKit

theorem ownKn9 : ownKnob Tryd.prog.godebug = none := by kernel_rfl
def laidHK : List (String × DataW Unit) := [("massif/hash.k", Rows.laid_massif_hash_k), ("massif/hash.first", Rows.laid_massif_hash_first)]
theorem gHK : Tryd.prog.globalNamed "massif/hash.k" = some 2 := by kernel_rfl
theorem gHF : Tryd.prog.globalNamed "massif/hash.first" = some 0 := by kernel_rfl
theorem tHK : (Tryd.prog.globals[2]?).map (·.type) = some 165 := by kernel_rfl
theorem tHF : (Tryd.prog.globals[0]?).map (·.type) = some 63 := by kernel_rfl
theorem datHK : (Rows.laid_massif_hash_k : DataW Unit) = .agg (kTab.map fun (k : Nat) => .lit (.int .u32 (k : Int))) := rfl
theorem datHF : (Rows.laid_massif_hash_first : DataW Unit) = .agg (begB.map fun k => .lit (.int .u8 k)) := rfl
theorem hk_of_laid {W : World} (h : laidMetH Tryd.prog laidHK W) : HK W := by
  rw [MakeChecks.laidMetH_plain _ _ _ (by kernel_rfl)] at h
  obtain ⟨ps, ⟨g0, t0, cs0, f0, p0, q0, hg0, ht0, hv0, hd0, _, _⟩, _, _⟩ := h
  obtain rfl := Option.some.inj (gHK.symm.trans hg0)
  obtain rfl := Option.some.inj (tHK.symm.trans ht0)
  obtain ⟨xs, m1, rfl, hx1, hlen, hn3, hel⟩ := DataW.trod_array Tryd.underlying165 hd0
  rw [datHK] at hx1
  simp only [Prod.mk.injEq, DataW.agg.injEq] at hx1
  have c5 : Tryd.prog.cellsOf 164 = 1 := by kernel_rfl
  rw [c5] at hel
  intro j hj64
  obtain ⟨k, hk⟩ : ∃ k, kTab[j]? = some k := ⟨_, List.getElem?_eq_getElem (by rw [kTab_len]; exact hj64)⟩
  have hgd : kTab.getD j 0 = k := by rw [List.getD_eq_getElem?_getD, hk]; rfl
  obtain ⟨x, hx⟩ : ∃ x, xs[j]? = some x := ⟨xs[j], List.getElem?_eq_getElem (by omega)⟩
  have hxk : x.1 = .lit (.int .u32 (k : Int)) := by
    have h1 := congrArg (fun l => l[j]?) hx1.1
    simp only [List.getElem?_map, hx, hk, Option.map_some] at h1
    exact (Option.some.inj h1).symm
  have h2 := hel j hj64
  rw [hx, Nat.mul_one] at h2
  obtain ⟨n, e1, e2, _⟩ := DataW.trod_int Tryd.underlying164 h2
  rw [e2] at hxk
  obtain rfl : n = (k : Int) := by simpa using hxk
  have hc := World.var?_cell hg0 hv0 j
  rw [hc, hgd]
  have h3 : (cs0.toList.drop j)[0]? = some (.int .u32 (k : Int)) := by
    have h4 : ((cs0.toList.drop j).take 1)[0]? = some (.int .u32 (k : Int)) := by rw [e1]; rfl
    rwa [List.getElem?_take_of_lt (by omega)] at h4
  rw [List.getElem?_drop, Nat.add_zero] at h3
  simpa using h3
theorem hf_of_laid {W : World} (h : laidMetH Tryd.prog laidHK W) : HF W := by
  rw [MakeChecks.laidMetH_plain _ _ _ (by kernel_rfl)] at h
  obtain ⟨ps, ⟨_, _, _, _, _, _, _, _, _, _, ⟨g0, t0, cs0, f0, p0, q0, hg0, ht0, hv0, hd0, _, _⟩, _⟩, _, _⟩ := h
  obtain rfl := Option.some.inj (gHF.symm.trans hg0)
  obtain rfl := Option.some.inj (tHF.symm.trans ht0)
  obtain ⟨xs, m1, rfl, hx1, hlen, hn3, hel⟩ := DataW.trod_array Tryd.underlying63 hd0
  rw [datHF] at hx1
  simp only [Prod.mk.injEq, DataW.agg.injEq] at hx1
  have c5 : Tryd.prog.cellsOf 5 = 1 := by kernel_rfl
  rw [c5] at hel
  intro j v hv
  rw [List.getElem?_map] at hv
  obtain ⟨k, hk, rfl⟩ := Option.map_eq_some_iff.1 hv
  have hj64 : j < 32 := (List.getElem?_eq_some_iff.1 hk).1
  obtain ⟨x, hx⟩ : ∃ x, xs[j]? = some x := ⟨xs[j], List.getElem?_eq_getElem (by omega)⟩
  have hxk : x.1 = .lit (.int .u8 k) := by
    have h1 := congrArg (fun l => l[j]?) hx1.1
    simp only [List.getElem?_map, hx, hk, Option.map_some] at h1
    exact (Option.some.inj h1).symm
  have h2 := hel j hj64
  rw [hx, Nat.mul_one] at h2
  obtain ⟨n, e1, e2, _⟩ := DataW.trod_int Tryd.underlying5 h2
  rw [e2] at hxk
  obtain rfl : n = k := by simpa using hxk
  have hc := World.var?_cell hg0 hv0 j
  rw [Nat.zero_add, hc]
  have h3 : (cs0.toList.drop j)[0]? = some (.int .u8 n) := by
    have h4 : ((cs0.toList.drop j).take 1)[0]? = some (.int .u8 n) := by rw [e1]; rfl
    rwa [List.getElem?_take_of_lt (by omega)] at h4
  rw [List.getElem?_drop, Nat.add_zero] at h3
  simpa using h3
theorem door_met9 (os : Os) (args : Array Value) : laidMetH Tryd.prog laidHK ((World.doorLaid Tryd.prog 24 os).forCall (fun _ _ => 0) ⟨#[], args, []⟩).memory :=
  laidMetH_of_parts3 (fuel := 8) (laidMet_of_run' 8 (by kernel_rfl) (by kernel_rfl)) (by kernel_rfl) (by kernel_rfl)
end Go.Proofs.YtefnonlhepekdaaDoor.M

set_option linter.unusedVariables false
set_option linter.unusedSimpArgs false
namespace Go.Proofs.YtefnonlhepekdaaDoor.M
open Go.ChangeShapes Go.WideShapes Go.ChangeAt Go.RowKit Go.Proofs.YtefnonlhepekdaaDoorW.PrintWords Go.Proofs.YtefnonlhepekdaaDoorW.PrintLast Go.Proofs.YtefnonlhepekdaaDoorW.PrintMore

theorem open_row {H : Type} {enc : TypeId × Value → H} {P : Program} {W : World} {t e : TypeId} {k : IntKind} {v : Value} {d : DataW H} {ps : List MemPlace} (ht : P.underlying t = some (.slice e)) (he : P.underlying e = some (.int k)) (hc : P.cellsOf e = 1)
    (hval : Value.okWide P W .any 0 t v) (hd : DataW.Trod enc P W 0 (fun _ => true) true t v d ps) :
    ∃ (A : Option Addr) (cap : Nat) (xs : List Int), v = .slice A xs.length cap ∧ xs.length ≤ cap ∧ cap ≤ 9223372036854775807 ∧ Kd.C (Kd.int k) W A xs.length xs ∧ (∀ x ∈ xs, (Lit.int k x).wf = true) ∧
      ∀ W', Below W.heap.size W W' → ∀ sp : Nat → Bool, (∀ p ∈ ps, sp p.block = true) → DataW.Trod enc P W' 0 sp true t v d ps := by
  obtain ⟨a0, len0, cap0, rfl⟩ := okWide_slice ht hval
  obtain ⟨fuel, hf⟩ := hd
  rcases open_ints ht he hc hf with ⟨hcs, hx⟩ | ⟨a, len, cap, zs, hcs, _, hle, hmax, hall, hx, hcell, hwf⟩
  · simp [Value.cells] at hcs
    obtain ⟨rfl, rfl, rfl⟩ := hcs
    simp only [Prod.mk.injEq] at hx
    obtain ⟨rfl, rfl⟩ := hx
    refine ⟨none, 0, [], rfl, Nat.le_refl _, by omega, ⟨rfl, by simp, fun h => absurd h (by simp)⟩, fun x hx => by simp at hx, fun W' _ sp _ => ⟨1, ?_⟩⟩
    simp [DataW.trod, ht, Value.cells]
  · simp [Value.cells] at hcs
    obtain ⟨rfl, rfl, rfl⟩ := hcs
    simp only [Prod.mk.injEq] at hx
    obtain ⟨rfl, rfl⟩ := hx
    simp only [if_true] at hall
    have hmax2 : cap0 ≤ 9223372036854775807 := hmax
    have hlen : (zs.take len0).length = len0 := by rw [List.length_take]; omega
    refine ⟨some a, cap0, zs.take len0, by rw [hlen], by omega, hmax2, ⟨rfl, by omega, fun _ => ⟨a, rfl, fun j x hj => ⟨[.int k x], rfl, rfl, fun i u hi => ?_⟩⟩⟩, fun x hx => hwf x (List.mem_of_mem_take hx), fun W' hb sp hsp => ?_⟩
    · cases i with
      | succ i => simp at hi
      | zero =>
        simp at hi
        subst hi
        rw [Nat.add_zero]
        rw [List.getElem?_take] at hj
        split at hj
        · next hjl =>
          have hjz : j < zs.length := by omega
          have := hcell j hjz
          rw [show (Kd.int k).sz = 1 from rfl, Nat.mul_one, this]
          rw [List.getD_eq_getElem?_getD, hj]
          rfl
        · simp at hj
    · refine ⟨2, shut_ints 0 ht he hc (Nat.zero_le _) hle hmax ?_ (fun i hi => ?_) hwf⟩
      · by_cases h0 : zs.length = 0
        · split <;> omega
        · rw [if_pos, hall]
          have := hsp (.cell a.block (a.off + 0)) (List.mem_map.2 ⟨0, List.mem_range.2 (by omega), rfl⟩)
          exact this
      · have h1 := hcell i hi
        have hlt : (a.add i).block < W.heap.size := by
          refine Decidable.by_contra (fun hn => ?_)
          have hnone : W.heap[(a.add i).block]? = none := Array.getElem?_eq_none (by omega)
          simp [World.cell?, hnone] at h1
        rw [World.cell?_of_block (hb.block _ hlt)]
        exact h1
end Go.Proofs.YtefnonlhepekdaaDoor.M

set_option linter.unusedVariables false
set_option linter.unusedSimpArgs false
namespace Go.Proofs.YtefnonlhepekdaaDoor.M
open Go.RowKit

theorem step_of_list {P : Program} {ops : Array Oper} {o : Oper} {a : Act} {w : World} {K : Act → World → Prop} {Q : Exit → Act → World → Prop} {E : Prop} (hg : o.guard = none)
    (h : wpList P ops (fun e a w => e = .normal ∧ K a w) [o] a w) : if Region.wanted o (yielded ops a.tmps) = true then Oper.wp P o a w K Q else E := by
  have hw : Region.wanted o (yielded ops a.tmps) = true := by simp [Region.wanted, hg]
  rw [if_pos hw]
  unfold wpList at h
  rw [if_pos hw] at h
  rcases h with h | h
  · have h2 := Oper.wp_mono (K' := K) (fun a w hk => hk.2) h
    unfold Oper.wp at h2 ⊢
    generalize (execOp a.eval o).run P w = r at *
    cases r with
    | ok n w' =>
      cases n <;> simp only [Oper.upon] at h2 ⊢ <;>
        first
          | exact h2
          | exact Calls.mono h2 (fun e w'' he => by cases e <;> first | exact he | exact absurd (show _ ∧ _ from he).1 (by simp) | (obtain ⟨_, _, h9, _⟩ := (show LetsOut _ from he); exact absurd h9 (by simp)))
          | exact Rows.mono h2 (fun _ _ he => he)
    | halt x w' => cases x <;> simp only [Oper.upon] at h2 ⊢ <;> first | exact h2 | exact absurd h2.1 (by simp)
  · obtain ⟨_, a', w', h3, _⟩ := h
    exact absurd h3 (by simp)
end Go.Proofs.YtefnonlhepekdaaDoor.M

set_option linter.unusedVariables false
set_option linter.unusedSimpArgs false
namespace Go.Proofs.YtefnonlhepekdaaDoor.M
open Go.RowKit

/-- From here on one operation alone may come up, each time. -/
def seqK (md : Region.Mode) (ops : Array Oper) : List Nat → Array Bool → Bool
  | [], listed => (Region.ready md ops listed).isEmpty
  | k :: ks, listed => decide (Region.ready md ops listed = [k]) && seqK md ops ks (listed.setIfInBounds k true)
theorem wpAny_seqK {P : Program} {md : Region.Mode} {ops : Array Oper} {Q : Exit → Act → World → Prop} : ∀ (ks : List Nat) (l : List Oper) (listed : Array Bool) (a : Act) (w : World), seqK md ops ks listed = true → l = ks.filterMap (fun k => ops[k]?) → wpList P ops Q l a w → wpAny P md ops Q ks.length listed a w
  | [], l, listed, a, w, hB, hl, h => by subst hl; exact ⟨by simpa [seqK] using hB, h⟩
  | k :: ks, l, listed, a, w, hB, hl, h => by
    simp only [seqK, Bool.and_eq_true, decide_eq_true_eq] at hB
    refine ⟨fun h1 => (by rw [hB.1] at h1; cases h1), fun i hi => ?_⟩
    rw [hB.1] at hi
    have hik : i = k := by simpa using hi
    subst hik
    cases ho : ops[i]? with
    | none =>
      unfold wpOp
      simp only [ho]
      refine wpAny_seqK ks l _ a w hB.2 ?_ h
      rw [hl, List.filterMap_cons, ho]
    | some o =>
      rw [List.filterMap_cons, ho] at hl
      subst hl
      have hw : wpOp P ops Q i (wpList P ops Q (ks.filterMap (fun k => ops[k]?))) a w := by unfold wpOp; simp only [ho]; exact h
      exact wpOp_mono (fun a' w' h' => wpAny_seqK ks _ _ a' w' hB.2 rfl h') hw
theorem wpList_one {P : Program} {ops : Array Oper} {K : Act → World → Prop} {a : Act} {w : World} (h : K a w) : wpList P ops (fun e a w => e = .normal ∧ K a w) [] a w := ⟨rfl, h⟩
def noOper : Oper := { dst := none, op := .move (.tmp 0), type := 0, pos := "", after := #[], guard := none }
/-- The same, the list to be written out. -/
theorem wpAny_seqL {P : Program} {md : Region.Mode} {ops : Array Oper} {Q : Exit → Act → World → Prop} (ks : List Nat) (listed : Array Bool) (a : Act) (w : World) (hB : (seqK md ops ks listed && ks.all fun k => decide (k < ops.size)) = true) (h : wpList P ops Q (ks.map (fun k => (ops[k]?).getD noOper)) a w) : wpAny P md ops Q ks.length listed a w := by
  rw [Bool.and_eq_true, List.all_eq_true] at hB
  refine wpAny_seqK ks _ listed a w hB.1 ?_ h
  have hk := hB.2
  clear hB h
  induction ks with
  | nil => rfl
  | cons k ks ih =>
    have h1 : k < ops.size := by simpa using hk k List.mem_cons_self
    rw [List.map_cons, List.filterMap_cons, ih (fun x hx => hk x (List.mem_cons_of_mem _ hx)), Array.getElem?_eq_getElem h1]
    rfl
/-- A region that is shown to come to its end. -/
theorem wp_region_normal {P : Program} {id : Nat} {ops : Array Oper} {b : Bool} {Q : Exit → Act → World → Prop} {a : Act} {w : World} (h : ∀ K : Act → World → Prop, (∀ a w, Q .normal a w → K a w) → (Code.region id ops b).wp P (fun e a w => e = .normal ∧ K a w) a w) : (Code.region id ops b).wp P Q a w :=
  Code.wp_mono (fun e a w he => by obtain ⟨rfl, hk⟩ := he; exact hk) (h (fun a w => Q .normal a w) (fun _ _ hq => hq))
end Go.Proofs.YtefnonlhepekdaaDoor.M

set_option linter.unusedVariables false
set_option linter.unusedSimpArgs false
namespace Go.Proofs.YtefnonlhepekdaaDoor.M
open Go.RowKit Go.Proofs.YtefnonlhepekdaaDoorW.PrintWords Go.Proofs.YtefnonlhepekdaaDoorW.PrintLast Go.Proofs.YtefnonlhepekdaaDoorW.PrintMore Go.Proofs.YtefnonlhepekdaaDoor.Leaf

theorem tdiv2 (x : Nat) (h : x < 4294967296) : IntKind.u64.wrap (Int.tdiv (x : Int) 2) = ((x / 2 : Nat) : Int) := by
  rw [Int.tdiv_eq_ediv_of_nonneg (by omega), w64_of _ (by omega) (by omega)]
  omega
theorem tmod2 (x : Nat) : Int.tmod (x : Int) 2 = ((x % 2 : Nat) : Int) := by
  rw [Int.tmod_eq_emod_of_nonneg (by omega)]
  omega
theorem sum3 (x y z : Nat) : IntKind.u64.wrap ((IntKind.u64.wrap ((Int.tmod (x : Int) 2) + (Int.tmod (y : Int) 2))) + (Int.tmod (z : Int) 2)) = ((x % 2 + y % 2 + z % 2 : Nat) : Int) := by
  rw [tmod2, tmod2, tmod2, w64_of (((x % 2 : Nat) : Int) + _) (by omega) (by omega), w64_of _ (by omega) (by omega)]
  omega
theorem bits_add (p b out : Nat) (hp : p ≤ 2147483648) (ho : out < p) (hb : b ≤ 1) : IntKind.u64.wrap ((out : Int) + IntKind.u64.wrap ((p : Int) * (b : Int))) = ((out + p * b : Nat) : Int) := by
  have hm : p * b ≤ p := Nat.le_trans (Nat.mul_le_mul_left p hb) (Nat.le_of_eq (Nat.mul_one p))
  rw [← Int.natCast_mul]
  generalize p * b = q at *
  rw [w64_of (q : Int) (by omega) (by omega), w64_of _ (by omega) (by omega)]
  omega
theorem out_step (p b out F : Nat) : out + p * b + 2 * p * F = out + p * (b + 2 * F) := by
  rw [Nat.mul_add, Nat.mul_comm 2 p, Nat.mul_assoc, Nat.add_assoc]
theorem out_lt (p b out : Nat) (hb : b ≤ 1) (ho : out < p) : out + p * b < 2 * p := by
  have hm : p * b ≤ p := Nat.le_trans (Nat.mul_le_mul_left p hb) (Nat.le_of_eq (Nat.mul_one p))
  omega
theorem twice (p : Nat) (hp : p ≤ 2147483648) : IntKind.u64.wrap (2 * (p : Int)) = ((2 * p : Nat) : Int) := by
  rw [w64_of _ (by omega) (by omega)]
  omega
theorem next32 (i : Nat) (h : i < 64) : wrap64 ((i : Int) + 1) = ((i + 1 : Nat) : Int) := by rw [i64_of _ (by omega) (by omega)]; omega
theorem pow31 (d p : Nat) (h : p * 2 ^ (d + 1) = 4294967296) : p ≤ 2147483648 := by
  have h1 : 0 < 2 ^ d := Nat.pow_pos (by omega)
  rw [Nat.pow_succ, ← Nat.mul_assoc] at h
  have h2 : p ≤ p * 2 ^ d := Nat.le_mul_of_pos_right p h1
  omega
theorem pow_next (d p : Nat) (h : p * 2 ^ (d + 1) = 4294967296) : 2 * p * 2 ^ d = 4294967296 := by
  rw [Nat.pow_succ] at h
  rw [Nat.mul_comm 2 p, Nat.mul_assoc, Nat.mul_comm 2]
  exact h
theorem rxor_loop : ∀ (d i p x y z out : Nat), i + d = 32 → p * 2 ^ d = 4294967296 → x < 4294967296 → y < 4294967296 → z < 4294967296 → out < p → Ev (fun k => massifref2_xor.l0 k (x : Int) (y : Int) (z : Int) (out : Int) (p : Int) (i : Int)) ((out + p * xorF d x y z : Nat) : Int)
  | 0, i, p, x, y, z, out, hi, _, _, _, _, _ => Ev.step (f := fun _ => some ((out + p * xorF 0 x y z : Nat) : Int)) (fun k => by simp only [massifref2_xor.l0]; rw [if_neg (by omega)]; simp [xorF]) (Ev.now _)
  | d + 1, i, p, x, y, z, out, hi, hp, hx, hy, hz, ho => by
    have hp1 := pow31 d p hp
    have ih := rxor_loop d (i + 1) (2 * p) (x / 2) (y / 2) (z / 2) (out + p * ((x % 2 + y % 2 + z % 2) % 2)) (by omega) (pow_next d p hp) (by omega) (by omega) (by omega) (out_lt p _ out (by omega) ho)
    clear hp
    rw [out_step] at ih
    refine Ev.step (fun k => ?_) ih
    simp only [massifref2_xor.l0]
    rw [if_pos (by omega), tdiv2 x hx, tdiv2 y hy, tdiv2 z hz, sum3, tmod2, bits_add p _ out hp1 ho (by omega), twice p hp1, next32 i (by omega)]
theorem rxor_val (x y z : Nat) (hx : x < 4294967296) (hy : y < 4294967296) (hz : z < 4294967296) : Ev (fun k => massifref2_xor.f k (x : Int) (y : Int) (z : Int)) ((x ^^^ y ^^^ z : Nat) : Int) := by
  have := rxor_loop 32 0 1 x y z 0 rfl (by decide) hx hy hz (by decide)
  rw [xorF_eq 32 x y z hx hy hz, Nat.one_mul, Nat.zero_add] at this
  exact this
theorem rmaj_loop : ∀ (d i p x y z out : Nat), i + d = 32 → p * 2 ^ d = 4294967296 → x < 4294967296 → y < 4294967296 → z < 4294967296 → out < p → Ev (fun k => massifref2_maj.l0 k (x : Int) (y : Int) (z : Int) (out : Int) (p : Int) (i : Int)) ((out + p * majF d x y z : Nat) : Int)
  | 0, i, p, x, y, z, out, hi, _, _, _, _, _ => Ev.step (f := fun _ => some ((out + p * majF 0 x y z : Nat) : Int)) (fun k => by simp only [massifref2_maj.l0]; rw [if_neg (by omega)]; simp [majF]) (Ev.now _)
  | d + 1, i, p, x, y, z, out, hi, hp, hx, hy, hz, ho => by
    have hp1 := pow31 d p hp
    have ih := rmaj_loop d (i + 1) (2 * p) (x / 2) (y / 2) (z / 2) (out + p * ((x % 2 + y % 2 + z % 2) / 2)) (by omega) (pow_next d p hp) (by omega) (by omega) (by omega) (out_lt p _ out (by omega) ho)
    clear hp
    rw [out_step] at ih
    refine Ev.step (fun k => ?_) ih
    simp only [massifref2_maj.l0]
    rw [if_pos (by omega), tdiv2 x hx, tdiv2 y hy, tdiv2 z hz, sum3, tdiv2 _ (by omega), bits_add p _ out hp1 ho (by omega), twice p hp1, next32 i (by omega)]
theorem rmaj_val (x y z : Nat) (hx : x < 4294967296) (hy : y < 4294967296) (hz : z < 4294967296) : Ev (fun k => massifref2_maj.f k (x : Int) (y : Int) (z : Int)) ((majN x y z : Nat) : Int) := by
  have := rmaj_loop 32 0 1 x y z 0 rfl (by decide) hx hy hz (by decide)
  rw [majF_eq 32 x y z hx hy hz, Nat.one_mul, Nat.zero_add] at this
  exact this
theorem rch_loop : ∀ (d i p x y z out : Nat), i + d = 32 → p * 2 ^ d = 4294967296 → x < 4294967296 → y < 4294967296 → z < 4294967296 → out < p → Ev (fun k => massifref2_ch.l0 k (x : Int) (y : Int) (z : Int) (out : Int) (p : Int) (i : Int)) ((out + p * chF d x y z : Nat) : Int)
  | 0, i, p, x, y, z, out, hi, _, _, _, _, _ => Ev.step (f := fun _ => some ((out + p * chF 0 x y z : Nat) : Int)) (fun k => by simp only [massifref2_ch.l0]; rw [if_neg (by omega)]; simp [chF]) (Ev.now _)
  | d + 1, i, p, x, y, z, out, hi, hp, hx, hy, hz, ho => by
    have hp1 := pow31 d p hp
    have hb : (if x % 2 = 1 then y % 2 else z % 2) ≤ 1 := by split <;> omega
    have ih := rch_loop d (i + 1) (2 * p) (x / 2) (y / 2) (z / 2) (out + p * (if x % 2 = 1 then y % 2 else z % 2)) (by omega) (pow_next d p hp) (by omega) (by omega) (by omega) (out_lt p _ out hb ho)
    clear hp
    rw [out_step] at ih
    refine Ev.step (fun k => ?_) ih
    simp only [massifref2_ch.l0]
    by_cases c : x % 2 = 1
    · rw [if_pos (by omega), tmod2 x, if_pos (by omega), tdiv2 x hx, tdiv2 y hy, tdiv2 z hz, tmod2 y, bits_add p _ out hp1 ho (by omega), twice p hp1, next32 i (by omega), if_pos c]
    · rw [if_pos (by omega), tmod2 x, if_neg (by omega), tdiv2 x hx, tdiv2 y hy, tdiv2 z hz, tmod2 z, bits_add p _ out hp1 ho (by omega), twice p hp1, next32 i (by omega), if_neg c]
theorem rch_val (x y z : Nat) (hx : x < 4294967296) (hy : y < 4294967296) (hz : z < 4294967296) : Ev (fun k => massifref2_ch.f k (x : Int) (y : Int) (z : Int)) ((chN x y z : Nat) : Int) := by
  have := rch_loop 32 0 1 x y z 0 rfl (by decide) hx hy hz (by decide)
  rw [chF_eq 32 x y z hx hy hz, Nat.one_mul, Nat.zero_add] at this
  exact this
theorem rpow_loop (n : Nat) (hn : n ≤ 32) : ∀ (d i p : Nat), i + d = n → p * 2 ^ d = 2 ^ n → p * 2 ^ d ≤ 4294967296 → Ev (fun k => massifref2_power.l0 k (n : Int) (p : Int) (i : Int)) ((2 ^ n : Nat) : Int)
  | 0, i, p, hi, hp, _ => by
    rw [Nat.pow_zero, Nat.mul_one] at hp
    subst hp
    exact Ev.step (f := fun _ => some ((2 ^ n : Nat) : Int)) (fun k => by simp only [massifref2_power.l0]; rw [if_neg (by omega)]) (Ev.now _)
  | d + 1, i, p, hi, hp, hl => by
    have he : 2 * p * 2 ^ d = p * 2 ^ (d + 1) := by rw [Nat.pow_succ, Nat.mul_comm 2 p, Nat.mul_assoc, Nat.mul_comm 2]
    have ih := rpow_loop n hn d (i + 1) (2 * p) (by omega) (by rw [he]; exact hp) (by rw [he]; exact hl)
    have h1 : 2 * p ≤ 2 * p * 2 ^ d := Nat.le_mul_of_pos_right _ (Nat.pow_pos (by omega))
    rw [he] at h1
    generalize p * 2 ^ (d + 1) = q at *
    clear hp he
    refine Ev.step (fun k => ?_) ih
    simp only [massifref2_power.l0]
    rw [if_pos (by omega), twice p (by omega), next32 i (by omega)]
theorem rpow_val (n : Nat) (hn : n ≤ 32) : Ev (fun k => massifref2_power.f k (n : Int)) ((2 ^ n : Nat) : Int) := by
  have h : 2 ^ n ≤ 2 ^ 32 := Nat.pow_le_pow_right (by omega) hn
  exact rpow_loop n hn n 0 1 (Nat.zero_add n) (Nat.one_mul _) (by rw [Nat.one_mul]; exact h)
theorem rshr_val (x n : Nat) (hx : x < 4294967296) (hn : n ≤ 32) : Ev (fun k => massifref2_shr.f k (x : Int) (n : Int)) ((x / 2 ^ n : Nat) : Int) := by
  have hp : 0 < 2 ^ n := Nat.pow_pos (by omega)
  have hd : x / 2 ^ n ≤ x := Nat.div_le_self _ _
  have hc : Int.tdiv (x : Int) ((2 ^ n : Nat) : Int) = ((x / 2 ^ n : Nat) : Int) := by rw [Int.tdiv_eq_ediv_of_nonneg (by omega)]; rfl
  refine Ev.bind (f := fun _ t => if t = 0 then none else some (IntKind.u64.wrap (Int.tdiv (x : Int) t))) (rpow_val n hn) (Ev.congr (f := fun _ => some ((x / 2 ^ n : Nat) : Int)) (fun k => ?_) (Ev.now _))
  rw [hc]
  generalize x / 2 ^ n = q at *
  generalize 2 ^ n = p at *
  rw [if_neg (by omega), w64_of _ (by omega) (by omega)]
/-! The contracts. -/
theorem rxor_calls (x y z : Nat) (hx : x < 4294967296) (hy : y < 4294967296) (hz : z < 4294967296) (w : World) : Calls Tryd.prog 134 #[.int .u64 x, .int .u64 y, .int .u64 z] w fun e w' => e = .returned (.int .u64 ((x ^^^ y ^^^ z : Nat) : Int)) ∧ Drawn0 w w' := by
  obtain ⟨k, hk⟩ := (rxor_val x y z hx hy hz).rounds
  exact massifref2_xor.calls k _ _ _ _ w hk
theorem rch_calls (x y z : Nat) (hx : x < 4294967296) (hy : y < 4294967296) (hz : z < 4294967296) (w : World) : Calls Tryd.prog 137 #[.int .u64 x, .int .u64 y, .int .u64 z] w fun e w' => e = .returned (.int .u64 ((chN x y z : Nat) : Int)) ∧ Drawn0 w w' := by
  obtain ⟨k, hk⟩ := (rch_val x y z hx hy hz).rounds
  exact massifref2_ch.calls k _ _ _ _ w hk
theorem rmaj_calls (x y z : Nat) (hx : x < 4294967296) (hy : y < 4294967296) (hz : z < 4294967296) (w : World) : Calls Tryd.prog 138 #[.int .u64 x, .int .u64 y, .int .u64 z] w fun e w' => e = .returned (.int .u64 ((majN x y z : Nat) : Int)) ∧ Drawn0 w w' := by
  obtain ⟨k, hk⟩ := (rmaj_val x y z hx hy hz).rounds
  exact massifref2_maj.calls k _ _ _ _ w hk
theorem rpow_calls (n : Nat) (hn : n ≤ 32) (w : World) : Calls Tryd.prog 143 #[.int .i64 n] w fun e w' => e = .returned (.int .u64 ((2 ^ n : Nat) : Int)) ∧ Drawn0 w w' := by
  obtain ⟨k, hk⟩ := (rpow_val n hn).rounds
  exact massifref2_power.calls k _ _ w hk
theorem rshr_calls (x n : Nat) (hx : x < 4294967296) (hn : n ≤ 32) (w : World) : Calls Tryd.prog 136 #[.int .u64 x, .int .i64 n] w fun e w' => e = .returned (.int .u64 ((x / 2 ^ n : Nat) : Int)) ∧ Drawn0 w w' := by
  obtain ⟨k, hk⟩ := (rshr_val x n hx hn).rounds
  exact massifref2_shr.calls k _ _ _ w hk
end Go.Proofs.YtefnonlhepekdaaDoor.M

set_option linter.unusedVariables false
set_option linter.unusedSimpArgs false
namespace Go.Proofs.YtefnonlhepekdaaDoor.M
open Go.RowKit Go.Proofs.YtefnonlhepekdaaDoorW.PrintWords Go.Proofs.YtefnonlhepekdaaDoorW.PrintLast Go.Proofs.YtefnonlhepekdaaDoorW.PrintMore Go.Proofs.YtefnonlhepekdaaDoor.Leaf

def upd {α : Type} (f : Nat → α) (m : Nat) (x : α) : Nat → α := fun i => if i = m then x else f i
theorem upd_same {α : Type} (f : Nat → α) (m : Nat) (x : α) : upd f m x m = x := if_pos rfl
theorem upd_other {α : Type} (f : Nat → α) {m i : Nat} (x : α) (h : i ≠ m) : upd f m x i = f i := if_neg h
/-- What is no block of bytes is as it was. -/
def KeepT (w1 w : World) : Prop := ∀ (g : Nat) (cs : Array Value) (t : TypeId) (fz : Nat × Nat), w1.heap[g]? = some (.cells cs t fz) → t ≠ 5 → w.heap[g]? = some (.cells cs t fz)
theorem KeepT.refl (w : World) : KeepT w w := fun _ _ _ _ h _ => h
theorem KeepT.below {w1 w w2 : World} (h : KeepT w1 w) (hb : Below w.heap.size w w2) : KeepT w1 w2 := fun g cs t fz hg ht => by
  have := h g cs t fz hg ht
  exact (hb.block _ (blk_lt this)).trans this
theorem KeepT.frm {w1 w w2 : World} {base : Nat} {v : Value} {xs : List Int} (h : KeepT w1 w) (hr : (Kd.int .u8).R 5 w base (fun _ => True) v xs) (hf : Frm (fun k => some k = v.ownBlock) w w2) : KeepT w1 w2 := fun g cs t fz hg ht => by
  have h1 := h g cs t fz hg ht
  refine (hf.block _ (blk_lt h1) (fun he => ?_)).trans h1
  obtain ⟨c1, e1⟩ := Kd.R_typed hr g he.symm
  rw [e1] at h1
  injection h1 with h1
  injection h1 with _ h1
  exact ht h1.symm
structure Fam (w0 w : World) (As : Nat → Option Addr) (ns cs : Nat → Nat) (D : Nat → List Int) : Prop where
  R : ∀ j, j < 4 → (Kd.int .u8).R 5 w w0.heap.size (fun _ => True) (.slice (As j) (ns j) (cs j)) (D j)
  ap : ∀ i j, i < 4 → j < 4 → i ≠ j → Apart (.slice (As i) (ns i) (cs i)) (.slice (As j) (ns j) (cs j))
theorem Fam.below {w0 w w1 : World} {As : Nat → Option Addr} {ns cs : Nat → Nat} {D : Nat → List Int} (h : Fam w0 w As ns cs D) (hb : Below w.heap.size w w1) : Fam w0 w1 As ns cs D := ⟨fun j hj => Kd.R_below (h.R j hj) hb, h.ap⟩
theorem Fam.congr {w0 w : World} {As : Nat → Option Addr} {ns cs : Nat → Nat} {D D' : Nat → List Int} (h : Fam w0 w As ns cs D) (e : ∀ j, j < 4 → D j = D' j) : Fam w0 w As ns cs D' := ⟨fun j hj => e j hj ▸ h.R j hj, h.ap⟩
theorem Fam.set {w0 w : World} {As : Nat → Option Addr} {ns cs : Nat → Nat} {D : Nat → List Int} (h : Fam w0 w As ns cs D) {m g : Nat} (hm : m < 4) (hg : As m = some ⟨g, 0, none⟩) (j : Nat) (hj : j < ns m) (x : Int) :
    Fam w0 (w.setCell ⟨g, j, none⟩ (.int .u8 x)) As ns cs (upd D m ((D m).set j x)) := by
  refine ⟨fun i hi => ?_, h.ap⟩
  by_cases e : i = m
  · subst e
    rw [upd_same]
    have hr := h.R i hi
    rw [hg] at hr ⊢
    exact (row_round hr j hj).2.2 x
  · rw [upd_other D _ e]
    refine R_frm (flat_int .u8) (h.R i hi) (Frm.of_set w ⟨g, j, none⟩ (.int .u8 x)) (fun k hk hs => ?_)
    have hs : k = g := hs
    subst hs
    exact h.ap i m hi hm e k hk (by rw [hg]; simp [Value.ownBlock])
/-- The array of the long rows: its first m cells. -/
def Lng (w : World) (g m : Nat) (As : Nat → Option Addr) (ns cs : Nat → Nat) (lr : Array Value) : Prop :=
  w.heap[g]? = some (.cells lr 49 (0, 0)) ∧ lr.size = 4 ∧ ∀ j, j < m → lr[j]? = some (.slice (As j) (ns j) (cs j))
theorem Lng.next {w : World} {g m : Nat} {As : Nat → Option Addr} {ns cs : Nat → Nat} {lr : Array Value} (h : Lng w g m As ns cs lr) (hm : m < 4) (A : Option Addr) (n c : Nat) :
    Lng (w.setCell ⟨g, m, none⟩ (.slice A n c)) g (m + 1) (upd As m A) (upd ns m n) (upd cs m c) (lr.setIfInBounds m (.slice A n c)) := by
  obtain ⟨h1, h2, h3⟩ := h
  refine ⟨blk_set h1 m (.slice A n c), by simp [h2], fun j hj => ?_⟩
  by_cases e : j = m
  · subst e
    rw [upd_same, upd_same, upd_same]
    simp [h2, hm]
  · rw [upd_other _ _ e, upd_other _ _ e, upd_other _ _ e, Array.getElem?_setIfInBounds_ne (fun h => e h.symm)]
    exact h3 j (by omega)
theorem Lng.zero {w : World} {g : Nat} {As : Nat → Option Addr} {ns cs : Nat → Nat} {lr : Array Value} (h : w.heap[g]? = some (.cells lr 49 (0, 0))) (hs : lr.size = 4) : Lng w g 0 As ns cs lr := ⟨h, hs, fun j hj => absurd hj (Nat.not_lt_zero _)⟩
theorem Lng.move {w w1 : World} {g m : Nat} {As : Nat → Option Addr} {ns cs : Nat → Nat} {lr : Array Value} (h : Lng w g m As ns cs lr) {base : Nat} {v : Value} {xs : List Int} (hr : (Kd.int .u8).R 5 w base (fun _ => True) v xs) (hf : Frm (fun k => some k = v.ownBlock) w w1) : Lng w1 g m As ns cs lr :=
  ⟨(hf.block _ (blk_lt h.1) (Kd.R_ne hr h.1 (by decide))).trans h.1, h.2⟩
end Go.Proofs.YtefnonlhepekdaaDoor.M

set_option linter.unusedVariables false
set_option linter.unusedSimpArgs false
namespace Go.Proofs.YtefnonlhepekdaaDoor.M
open Go.RowKit Go.Proofs.YtefnonlhepekdaaDoorW.PrintWords Go.Proofs.YtefnonlhepekdaaDoorW.PrintLast Go.Proofs.YtefnonlhepekdaaDoorW.PrintMore Go.Proofs.YtefnonlhepekdaaDoor.Leaf

/-- A spy in its box: what it has been asked; from which question on it refuses. -/
def Spy (w0 w : World) (b : Nat) (R : Int) (A : Option Addr) (n c : Nat) (l : List Int) : Prop :=
  w.heap[b]? = some (.cells #[.slice A n c, .int .i64 R] 55 (0, 0)) ∧ (Kd.int .u64).R 30 w w0.heap.size (fun _ => True) (.slice A n c) l
theorem Spy.below {w0 w w1 : World} {b : Nat} {R : Int} {A : Option Addr} {n c : Nat} {l : List Int} (h : Spy w0 w b R A n c l) (hb : Below w.heap.size w w1) : Spy w0 w1 b R A n c l := ⟨(hb.block _ (blk_lt h.1)).trans h.1, Kd.R_below h.2 hb⟩
end Go.Proofs.YtefnonlhepekdaaDoor.M

set_option linter.unusedVariables false
set_option linter.unusedSimpArgs false
namespace Go.Proofs.YtefnonlhepekdaaDoor.M
open Go.RowKit Go.Proofs.YtefnonlhepekdaaDoorW.PrintWords Go.Proofs.YtefnonlhepekdaaDoorW.PrintLast Go.Proofs.YtefnonlhepekdaaDoorW.PrintMore Go.Proofs.YtefnonlhepekdaaDoor.Leaf

def natsI (L : List Nat) : List Int := L.map fun (n : Nat) => (n : Int)
theorem natsI_len (L : List Nat) : (natsI L).length = L.length := by simp [natsI]
theorem natsI_at (L : List Nat) (j : Nat) (hj : j < L.length) : (natsI L).getD j 0 = ((L.getD j 0 : Nat) : Int) := by
  simp [natsI, List.getD_eq_getElem?_getD, List.getElem?_eq_getElem hj]
end Go.Proofs.YtefnonlhepekdaaDoor.M

set_option linter.unusedVariables false
set_option linter.unusedSimpArgs false
namespace Go.Proofs.YtefnonlhepekdaaDoor.M
open Go.RowKit Go.Proofs.YtefnonlhepekdaaDoorW.PrintWords Go.Proofs.YtefnonlhepekdaaDoorW.PrintLast Go.Proofs.YtefnonlhepekdaaDoorW.PrintMore Go.Proofs.YtefnonlhepekdaaDoor.Leaf

theorem rd_byte (b : List Int) (hb : Bytes b) (j : Nat) (hj : j < b.length) : rd b (j : Int) = ((b.getD j 0).toNat : Int) ∧ (b.getD j 0).toNat < 256 := by
  have h1 := hb _ (List.getElem_mem hj)
  have h2 : b.getD j 0 = b[j] := by simp [List.getD_eq_getElem?_getD, List.getElem?_eq_getElem hj]
  have h3 : rd b (j : Int) = b[j] := by simp [rd, List.getD_eq_getElem?_getD, List.getElem?_eq_getElem hj]
  rw [h2, h3]
  omega
theorem word_four (p q r s : Nat) (hp : p < 256) (hq : q < 256) (hr : r < 256) (hs : s < 256) : IntKind.u64.wrap ((IntKind.u64.wrap ((IntKind.u64.wrap ((IntKind.u64.wrap ((IntKind.u64.wrap ((IntKind.u64.wrap ((IntKind.u64.wrap (p : Int)) * 256)) + (IntKind.u64.wrap (q : Int)))) * 256)) + (IntKind.u64.wrap (r : Int)))) * 256)) + (IntKind.u64.wrap (s : Int))) = (((((p * 256 + q) * 256 + r) * 256 + s : Nat)) : Int) := by
  simp only [IntKind.wrap_u64]
  omega
theorem wordsB_snoc (b : List Int) (i : Nat) : wordsB b (i + 1) = wordsB b i ++ [wordB b i] := by
  simp [wordsB, List.range_succ]
theorem natsI_app (L M : List Nat) : natsI (L ++ M) = natsI L ++ natsI M := List.map_append
theorem words_loop (b : List Int) (hb : Bytes b) (n : Nat) (hl : b.length = 4 * n) (hn : n ≤ 16) : ∀ (d i : Nat), i + d = n → Ev (fun k => massifref2_words.l0 k b (natsI (wordsB b i)) ((4 * i : Nat) : Int)) (natsI (wordsB b n))
  | 0, i, hi => by
    have : i = n := by omega
    subst this
    exact Ev.step (f := fun _ => some (natsI (wordsB b i))) (fun k => by simp only [massifref2_words.l0]; rw [i64_of _ (by omega) (by omega), if_neg (by omega)]) (Ev.now _)
  | d + 1, i, hi => by
    have ih := words_loop b hb n hl hn d (i + 1) (by omega)
    obtain ⟨r0, b0⟩ := rd_byte b hb (4 * i) (by omega)
    obtain ⟨r1, b1⟩ := rd_byte b hb (4 * i + 1) (by omega)
    obtain ⟨r2, b2⟩ := rd_byte b hb (4 * i + 2) (by omega)
    obtain ⟨r3, b3⟩ := rd_byte b hb (4 * i + 3) (by omega)
    have e1 : wrap64 (((4 * i : Nat) : Int) + 1) = ((4 * i + 1 : Nat) : Int) := by rw [i64_of _ (by omega) (by omega)]; omega
    have e2 : wrap64 (((4 * i : Nat) : Int) + 2) = ((4 * i + 2 : Nat) : Int) := by rw [i64_of _ (by omega) (by omega)]; omega
    have e3 : wrap64 (((4 * i : Nat) : Int) + 3) = ((4 * i + 3 : Nat) : Int) := by rw [i64_of _ (by omega) (by omega)]; omega
    have e4 : wrap64 (((4 * i : Nat) : Int) + 4) = ((4 * (i + 1) : Nat) : Int) := by rw [i64_of _ (by omega) (by omega)]; omega
    have hlen : (natsI (wordsB b i)).length = i := by simp [natsI, wordsB]
    refine Ev.step (fun k => ?_) ih
    simp only [massifref2_words.l0]
    rw [e1, e2, e3, e4, r0, r1, r2, r3, word_four _ _ _ _ b0 b1 b2 b3, if_pos (by omega), if_pos (by omega), if_pos (by omega), if_pos (by omega), if_pos (by omega), if_pos (by omega), if_pos (by omega), if_pos (by omega), if_pos (by omega), wordsB_snoc, natsI_app]
    rfl
theorem words_val (b : List Int) (hb : Bytes b) (n : Nat) (hl : b.length = 4 * n) (hn : n ≤ 16) : Ev (fun k => massifref2_words.f k b) (natsI (wordsB b n)) := words_loop b hb n hl hn n 0 (Nat.zero_add n)
/-! The contracts. -/
theorem words_calls (b : List Int) (hb : Bytes b) (n : Nat) (hl : b.length = 4 * n) (hn : n ≤ 16) (A : Option Addr) (m c : Nat) (w : World) (hC : Kd.C (Kd.int .u8) w A m b) (hc : m ≤ c) :
    Calls Tryd.prog 133 #[.slice A m c] w fun e w' => ∃ v, e = .returned v ∧ Kd.R (Kd.int .u64) 30 w' w.heap.size (fun _ => True) v (natsI (wordsB b n)) ∧ Below w.heap.size w w' := by
  obtain ⟨k, hk⟩ := (words_val b hb n hl hn).rounds
  have hm : m = b.length := (Kd.C_len hC).symm
  subst hm
  exact massifref2_words.calls k A c b _ w hC hc hk
end Go.Proofs.YtefnonlhepekdaaDoor.M
