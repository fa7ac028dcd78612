/- massifref20.Decode. span.Decode, whole; massifref20.Same of what is the same; bytes that are the same; what a span's proof is written as are bytes. massiflaw20.SpanRound returns true: the walk. Laws for rows of hashes: an element is written, two hashes are compared. Two rows of numbers that are marked side by side, and grown. massiflaw20.mark, all: hashes are marked, and looked at. massiflaw20.still, kept: bytes, hashes are as they were, and the mark behind them. -/
import Derived.Test.YtagcabmccpekaaaQX2
import Derived.Test.YtagcabmccpekaaaQX3
set_option linter.unusedVariables false
set_option linter.unusedSimpArgs false
set_option linter.unusedVariables false
set_option linter.unusedSimpArgs false
namespace Go.Proofs.Ytagcabmccpekaaa.M
open Go.RowKit Go.Proofs.YtagcabmccpekaaaW.PrintWords Go.Proofs.YtagcabmccpekaaaW.PrintLast Go.Proofs.YtagcabmccpekaaaW.PrintMore Go.Proofs.Ytagcabmccpekaaa.Leaf

theorem cut_at {w : World} {ad : Addr} {c : Nat} {bs : List Int} (h : Kd.C (Kd.int .u8) w (some ad) bs.length bs) (hc : bs.length ≤ c) (m : Nat) (hm : m ≤ bs.length) : ∃ ad2 : Addr, (if c = m then some ad else some (ad.add m)) = some ad2 ∧ Kd.C (Kd.int .u8) w (some ad2) (bs.drop m).length (bs.drop m) := by
  obtain ⟨ad2, hif⟩ : ∃ ad2 : Addr, (if c = m then some ad else some (ad.add m)) = some ad2 := by split <;> exact ⟨_, rfl⟩
  refine ⟨ad2, hif, ?_⟩
  have h1 := Kd.C_drop (m := m) (c := c) h hm hc
  have h2 : (if c = m then some ad else Option.map (fun x => x.add (m * (Kd.int IntKind.u8).sz)) (some ad)) = some ad2 := by
    rw [← hif]
    simp only [Option.map_some]
    rw [show m * (Kd.int IntKind.u8).sz = m from Nat.mul_one m]
  rw [h2] at h1
  exact h1
theorem span_length {f t n : Nat} (hft : f ≤ t) (htn : t ≤ n) (hn : n ≤ 4611686018427387904) : spanAns f t n = (intsOf (spanPlaces f t n), 0) ∧ (intsOf (spanPlaces f t n)).length = (spanSpots f t n).length := by
  refine ⟨?_, by simp [intsOf, spanPlaces]⟩
  unfold spanAns
  rw [if_neg (by omega), if_neg (by omega)]
theorem dec3_take (n f m : Nat) (r : List Int) : dec3 n f m r = if (takeAns r (spanSpots f (f + m) n).length).2 = 0 then ((n, f, f + m, (takeAns r (spanSpots f (f + m) n).length).1), 0) else (noReach, (takeAns r (spanSpots f (f + m) n).length).2) := by
  unfold dec3 takeAns
  by_cases c1 : r.length < 32 * (spanSpots f (f + m) n).length
  · rw [if_pos c1, if_pos c1, if_neg (by simp)]
  · rw [if_neg c1, if_neg c1]
    by_cases c2 : 32 * (spanSpots f (f + m) n).length < r.length
    · rw [if_pos c2, if_pos c2, if_neg (by simp)]
    · rw [if_neg c2, if_neg c2, if_pos rfl]
set_option maxHeartbeats 40000000 in
set_option maxRecDepth 100000 in
theorem ref20_decode_head (bs : List Int) (A : Option Addr) (c : Nat) (w : World) (hb : Bytes bs) (hc : bs.length ≤ c) (hC : Kd.C (Kd.int .u8) w A bs.length bs) (h : ∀ r, bs ≠ 83 :: r) :
    Calls Try.prog 28 #[.slice A bs.length c] w (Decd bs w) := by
  cases bs with
  | nil =>
    have hd : decN [] = (noReach, 11) := rfl
    have HDc := Aside0.mk hd
    clear hC h hb hd
    go_enter Try.func28, Try.ntmps28
    have HW7 := Aside0.mk (Below.refl w.heap.size w |>.alloc (Nat.le_refl _) (.cells #[.int .u64 0, .int .u64 0, .int .u64 0, .slice none 0 0] 45 (0, 0)))
    have HR7 := Aside0.mk (heap_new w (.cells #[.int .u64 0, .int .u64 0, .int .u64 0, .slice none 0 0] 45 (0, 0)))
    go_wp2_with ((with_reducible refine gate_store (t := 45) (p := 2) (v := .tmp 16) rfl ?_); go_loud (refine store_agg 45 #[.int .u64 0, .int .u64 0, .int .u64 0, .slice none 0 0] rfl rfl (.tmp 2) (.tmp 16) rfl (by rw [sizeR]; rfl) (by simp [Value.oneCell']) _ rfl _ _ HR7.out rfl rfl ?_; intro w8 hz8 hf8; have HZ8 := Aside0.mk hz8; have HF8 := Aside0.mk hf8; clear hz8 hf8))
    (try simp only [Exit.inBlock, Exit.then])
    refine bodyPost_ret (results_ct rfl _ _ w.heap.size 45 (reachC noReach (.slice none 0 0)) (0, 0) _ rfl HZ8.out Try.underlying45 rfl (by rw [sizeR]; rfl)) rfl ?_
    unfold Decd
    rw [HDc.out]
    exact ⟨_, rfl, Kd.R_nil _ _ _ _ _, HW7.out.trans (HF8.out.below HW7.out.size (fun k hk => by omega))⟩
  | cons b r =>
    have hb83 : b ≠ 83 := fun h9 => h r (by rw [h9])
    have hd : decN (b :: r) = (noReach, 14) := by simp only [decN]; rw [if_pos hb83]
    have HDc := Aside0.mk hd
    obtain ⟨ad, ea, hx⟩ := Kd.at_int hC 0 (by omega) (by simp)
    subst ea
    have hx : w.cell? ad = some (.int .u8 b) := by have := hx; simpa [Addr.add, rd] using this
    have hx1 : (w.alloc (.cells #[.int .u64 0, .int .u64 0, .int .u64 0, .slice none 0 0] 45)).cell? ad = some (.int .u8 b) := by
      have hlt : ad.block < w.heap.size := by
        refine Decidable.by_contra (fun hn => ?_)
        have hnone : w.heap[ad.block]? = none := Array.getElem?_eq_none (by omega)
        simp [World.cell?, hnone] at hx
      exact (World.cell?_of_block ((bl_new w _).block _ hlt)).trans hx
    have g1 : (b != 83) = true := by rw [bne_iff_ne]; exact hb83
    have hbl : (b :: r).length = r.length + 1 := rfl
    rw [hbl]
    clear hC h hb hx hc hbl hd hb83
    go_enter Try.func28, Try.ntmps28
    have HW7 := Aside0.mk (Below.refl w.heap.size w |>.alloc (Nat.le_refl _) (.cells #[.int .u64 0, .int .u64 0, .int .u64 0, .slice none 0 0] 45 (0, 0)))
    have HR7 := Aside0.mk (heap_new w (.cells #[.int .u64 0, .int .u64 0, .int .u64 0, .slice none 0 0] 45 (0, 0)))
    go_wp2_with ((with_reducible refine gate_store (t := 45) (p := 2) (v := .tmp 21) rfl ?_); go_loud (refine store_agg 45 #[.int .u64 0, .int .u64 0, .int .u64 0, .slice none 0 0] rfl rfl (.tmp 2) (.tmp 21) rfl (by rw [sizeR]; rfl) (by simp [Value.oneCell']) _ rfl _ _ HR7.out rfl rfl ?_; intro w8 hz8 hf8; have HZ8 := Aside0.mk hz8; have HF8 := Aside0.mk hf8; clear hz8 hf8))
    (try simp only [Exit.inBlock, Exit.then])
    refine bodyPost_ret (results_ct rfl _ _ w.heap.size 45 (reachC noReach (.slice none 0 0)) (0, 0) _ rfl HZ8.out Try.underlying45 rfl (by rw [sizeR]; rfl)) rfl ?_
    unfold Decd
    rw [HDc.out]
    exact ⟨_, rfl, Kd.R_nil _ _ _ _ _, HW7.out.trans (HF8.out.below HW7.out.size (fun k hk => by omega))⟩
set_option maxHeartbeats 40000000 in
set_option maxRecDepth 100000 in
theorem ref20_decode_some (r : List Int) (A : Option Addr) (c : Nat) (w : World) (hb : Bytes (83 :: r)) (hc : r.length + 1 ≤ c) (hc2 : r.length + 1 ≤ 1000000000) (hC : Kd.C (Kd.int .u8) w A (r.length + 1) (83 :: r)) :
    Calls Try.prog 28 #[.slice A (r.length + 1 : Nat) c] w (Decd (83 :: r) w) := by
  obtain ⟨ad, ea, hx⟩ := Kd.at_int hC 0 (by omega) (by omega)
  subst ea
  have hx : w.cell? ad = some (.int .u8 83) := by have := hx; simpa [Addr.add, rd] using this
  have hx1 : (w.alloc (.cells #[.int .u64 0, .int .u64 0, .int .u64 0, .slice none 0 0] 45)).cell? ad = some (.int .u8 83) := by
    have hlt : ad.block < w.heap.size := by
      refine Decidable.by_contra (fun hn => ?_)
      have hnone : w.heap[ad.block]? = none := Array.getElem?_eq_none (by omega)
      simp [World.cell?, hnone] at hx
    exact (World.cell?_of_block ((bl_new w _).block _ hlt)).trans hx
  have HC := Aside0.mk hC
  obtain ⟨ad1, hif1, hC1⟩ := cut_at (bs := 83 :: r) hC hc 1 (by simp)
  rw [show ad.add 1 = ⟨ad.block, ad.off + 1, none⟩ from rfl] at hif1
  have hd1 : (83 :: r).drop 1 = r := rfl
  rw [hd1] at hC1
  have HBy := Aside0.mk hb
  have hb1 : Bytes r := fun y hy => hb y (List.mem_cons_of_mem _ hy)
  have HB1 := Aside0.mk hb1
  have HDec := Aside0.mk (show decN (83 :: r) = decG 3 [] r by
    show (if (83 : Int) ≠ 83 then (noReach, (14 : Int)) else decG 3 [] r) = _
    rw [if_neg (by simp)])
  have hl1 := fun W (hW : Below w.heap.size w W) => long1_calls r (some ad1) (c - 1) W hb1 (by omega) (by omega) (Kd.C_below hC1 hW)
  have HW1 := Aside0.mk (Below.refl w.heap.size w |>.alloc (Nat.le_refl _) (.cells #[.int .u64 0, .int .u64 0, .int .u64 0, .slice none 0 0] 45 (0, 0)))
  have HR1 := Aside0.mk (heap_new w (.cells #[.int .u64 0, .int .u64 0, .int .u64 0, .slice none 0 0] 45 (0, 0)))
  have HL1 := Aside0.mk hl1
  clear hC hC1 hx hb hb1 hd1 hl1
  go_enter Try.func28, Try.ntmps28
  go_wp2_with fail
  clear hif1 hx1
  by_cases he1 : (longN r).2.2 = 0
  case neg =>
    have HDc := Aside0.mk (show decN (83 :: r) = (noReach, (longN r).2.2) by
      rw [HDec.out]
      show decG (2 + 1) [] r = _
      rw [decG, if_pos he1])
    have g1 : ((longN r).2.2 != 0) = true := by rw [bne_iff_ne]; exact he1
    clear he1
    generalize (longN r).1 = v at *
    generalize (longN r).2.1 = kk at *
    generalize (longN r).2.2 = er at *
    refine (HL1.out _ HW1.out).mono ?_
    rintro e w7 ⟨rfl, hd7⟩
    have HW7 := Aside0.mk (blt HW1.out hd7.below)
    have HR7 := Aside0.mk ((hd7.below.block _ (blk_lt HR1.out)).trans HR1.out)
    clear hd7
    go_wp2_with ((with_reducible refine gate_store (t := 45) (p := 2) (v := .tmp 32) rfl ?_); go_loud (refine store_agg 45 #[.int .u64 0, .int .u64 0, .int .u64 0, .slice none 0 0] rfl rfl (.tmp 2) (.tmp 32) rfl (by rw [sizeR]; rfl) (by simp [Value.oneCell']) _ rfl _ _ HR7.out rfl rfl ?_; intro w8 hz8 hf8; have HZ8 := Aside0.mk hz8; have HF8 := Aside0.mk hf8; clear hz8 hf8))
    (try simp only [Exit.inBlock, Exit.then])
    refine bodyPost_ret (results_ct rfl _ _ w.heap.size 45 (reachC noReach (.slice none 0 0)) (0, 0) _ rfl HZ8.out Try.underlying45 rfl (by rw [sizeR]; rfl)) rfl ?_
    unfold Decd
    rw [HDc.out]
    exact ⟨_, rfl, Kd.R_nil _ _ _ _ _, HW7.out.trans (HF8.out.below HW7.out.size (fun k hk => by omega))⟩
  obtain ⟨x1, r1, q1, f1, k1, e1⟩ := longN_back HB1.out (v := (longN r).1) (k := (longN r).2.1) (by rw [← he1])
  have hl1 := HL1.out
  rw [f1, k1, he1] at hl1
  have HLa := Aside0.mk hl1
  have HQ1 := Aside0.mk q1
  have HE1 := Aside0.mk e1
  clear hl1 f1 he1 HL1
  by_cases hg1 : 4611686018427387904 < x1
  · clear q1 e1
    have HDc := Aside0.mk (show decN (83 :: r) = (noReach, 30) by
      rw [HDec.out]
      show decG (2 + 1) [] r = _
      rw [decG, HE1.out, longN_short x1 r1 HQ1.out, if_neg (by simp), if_pos (by show (x1 : Int) > ((4611686018427387904 : Nat) : Int); omega)]
      rfl)
    refine (HLa.out _ HW1.out).mono ?_
    rintro e w7 ⟨rfl, hd7⟩
    have HW7 := Aside0.mk (blt HW1.out hd7.below)
    have HR7 := Aside0.mk ((hd7.below.block _ (blk_lt HR1.out)).trans HR1.out)
    clear hd7
    go_wp2_with ((with_reducible refine gate_store (t := 45) (p := 2) (v := .tmp 36) rfl ?_); go_loud (refine store_agg 45 #[.int .u64 0, .int .u64 0, .int .u64 0, .slice none 0 0] rfl rfl (.tmp 2) (.tmp 36) rfl (by rw [sizeR]; rfl) (by simp [Value.oneCell']) _ rfl _ _ HR7.out rfl rfl ?_; intro w8 hz8 hf8; have HZ8 := Aside0.mk hz8; have HF8 := Aside0.mk hf8; clear hz8 hf8))
    (try simp only [Exit.inBlock, Exit.then])
    refine bodyPost_ret (results_ct rfl _ _ w.heap.size 45 (reachC noReach (.slice none 0 0)) (0, 0) _ rfl HZ8.out Try.underlying45 rfl (by rw [sizeR]; rfl)) rfl ?_
    unfold Decd
    rw [HDc.out]
    exact ⟨_, rfl, Kd.R_nil _ _ _ _ _, HW7.out.trans (HF8.out.below HW7.out.size (fun k hk => by omega))⟩
  have HDec1 := Aside0.mk (show decN (83 :: r) = decG 2 [x1] r1 from HDec.out.trans (decG_step HQ1.out HE1.out (by show x1 ≤ 4611686018427387904; omega)))
  obtain ⟨l1, hl1⟩ : ∃ l, l = (shortI x1).length := ⟨_, rfl⟩
  rw [← hl1] at HLa
  have hr1 : r.length = l1 + r1.length := by rw [HE1.out, List.length_append, hl1]
  obtain ⟨at2, hat2⟩ : ∃ at2 : Nat, (1 : Int) + (l1 : Int) = (at2 : Int) := ⟨1 + l1, by omega⟩
  have hle2 : at2 ≤ r.length + 1 := by omega
  obtain ⟨ad2, hif2, hC2⟩ := cut_at (bs := 83 :: r) HC.out hc at2 (by simp; omega)
  have hdr2 : (83 :: r).drop at2 = r1 := by rw [show at2 = l1 + 1 by omega, List.drop_succ_cons, HE1.out, hl1, List.drop_left]
  rw [hdr2] at hC2
  have hsub2 : r.length + 1 - at2 = r1.length := by omega
  have hb2 : Bytes r1 := fun y hy => HB1.out y (by rw [HE1.out]; exact List.mem_append_right _ hy)
  have HB2 := Aside0.mk hb2
  have HL2 := Aside0.mk (fun W (hW : Below w.heap.size w W) => long1_calls r1 (some ad2) (c - at2) W hb2 (by omega) (by omega) (Kd.C_below hC2 hW))
  have HDr2 := Aside0.mk hdr2
  have HAt2 := Aside0.mk hat2
  have HRl1 := Aside0.mk hr1
  clear hl1 hdr2 hC2 hb2 e1 q1 hr1
  refine (HLa.out _ HW1.out).mono ?_
  rintro e w1 ⟨rfl, hd1⟩
  have HW2 := Aside0.mk (blt HW1.out hd1.below)
  have HR2 := Aside0.mk ((hd1.below.block _ (blk_lt HR1.out)).trans HR1.out)
  clear hd1 HLa HW1 HR1
  go_wp2_with fail
  clear hif2 hat2
  by_cases he2 : (longN r1).2.2 = 0
  case neg =>
    have HDec := HDec1
    have HDc := Aside0.mk (show decN (83 :: r) = (noReach, (longN r1).2.2) by
      rw [HDec.out]
      show decG (1 + 1) [x1] r1 = _
      rw [decG, if_pos he2])
    have g1 : ((longN r1).2.2 != 0) = true := by rw [bne_iff_ne]; exact he2
    clear he2
    generalize (longN r1).1 = v at *
    generalize (longN r1).2.1 = kk at *
    generalize (longN r1).2.2 = er at *
    refine (HL2.out _ HW2.out).mono ?_
    rintro e w7 ⟨rfl, hd7⟩
    have HW7 := Aside0.mk (blt HW2.out hd7.below)
    have HR7 := Aside0.mk ((hd7.below.block _ (blk_lt HR2.out)).trans HR2.out)
    clear hd7
    go_wp2_with ((with_reducible refine gate_store (t := 45) (p := 2) (v := .tmp 50) rfl ?_); go_loud (refine store_agg 45 #[.int .u64 0, .int .u64 0, .int .u64 0, .slice none 0 0] rfl rfl (.tmp 2) (.tmp 50) rfl (by rw [sizeR]; rfl) (by simp [Value.oneCell']) _ rfl _ _ HR7.out rfl rfl ?_; intro w8 hz8 hf8; have HZ8 := Aside0.mk hz8; have HF8 := Aside0.mk hf8; clear hz8 hf8))
    (try simp only [Exit.inBlock, Exit.then])
    refine bodyPost_ret (results_ct rfl _ _ w.heap.size 45 (reachC noReach (.slice none 0 0)) (0, 0) _ rfl HZ8.out Try.underlying45 rfl (by rw [sizeR]; rfl)) rfl ?_
    unfold Decd
    rw [HDc.out]
    exact ⟨_, rfl, Kd.R_nil _ _ _ _ _, HW7.out.trans (HF8.out.below HW7.out.size (fun k hk => by omega))⟩
  obtain ⟨x2, r2, q2, f2, k2, e2⟩ := longN_back HB2.out (v := (longN r1).1) (k := (longN r1).2.1) (by rw [← he2])
  have hl2 := HL2.out
  rw [f2, k2, he2] at hl2
  have HLb := Aside0.mk hl2
  have HQ2 := Aside0.mk q2
  have HE2 := Aside0.mk e2
  clear hl2 f2 he2 HL2
  by_cases hg2 : x1 < x2
  · have HDec := HDec1
    clear q2 e2
    have HDc := Aside0.mk (show decN (83 :: r) = (noReach, 32) by
      rw [HDec.out]
      show decG (1 + 1) [x1] r1 = _
      rw [decG, HE2.out, longN_short x2 r2 HQ2.out, if_neg (by simp), if_pos (by show (x2 : Int) > ((x1 : Nat) : Int); omega)]
      rfl)
    refine (HLb.out _ HW2.out).mono ?_
    rintro e w7 ⟨rfl, hd7⟩
    have HW7 := Aside0.mk (blt HW2.out hd7.below)
    have HR7 := Aside0.mk ((hd7.below.block _ (blk_lt HR2.out)).trans HR2.out)
    clear hd7
    go_wp2_with ((with_reducible refine gate_store (t := 45) (p := 2) (v := .tmp 55) rfl ?_); go_loud (refine store_agg 45 #[.int .u64 0, .int .u64 0, .int .u64 0, .slice none 0 0] rfl rfl (.tmp 2) (.tmp 55) rfl (by rw [sizeR]; rfl) (by simp [Value.oneCell']) _ rfl _ _ HR7.out rfl rfl ?_; intro w8 hz8 hf8; have HZ8 := Aside0.mk hz8; have HF8 := Aside0.mk hf8; clear hz8 hf8))
    (try simp only [Exit.inBlock, Exit.then])
    refine bodyPost_ret (results_ct rfl _ _ w.heap.size 45 (reachC noReach (.slice none 0 0)) (0, 0) _ rfl HZ8.out Try.underlying45 rfl (by rw [sizeR]; rfl)) rfl ?_
    unfold Decd
    rw [HDc.out]
    exact ⟨_, rfl, Kd.R_nil _ _ _ _ _, HW7.out.trans (HF8.out.below HW7.out.size (fun k hk => by omega))⟩
  have HDec2 := Aside0.mk (show decN (83 :: r) = decG 1 [x1, x2] r2 from HDec1.out.trans (decG_step HQ2.out HE2.out (by show x2 ≤ x1; omega)))
  obtain ⟨l2, hl2⟩ : ∃ l, l = (shortI x2).length := ⟨_, rfl⟩
  rw [← hl2] at HLb
  have hr2 : r1.length = l2 + r2.length := by rw [HE2.out, List.length_append, hl2]
  obtain ⟨at3, hat3⟩ : ∃ at3 : Nat, (at2 : Int) + (l2 : Int) = (at3 : Int) := ⟨at2 + l2, by omega⟩
  have hr1 := HRl1.out
  have hle3 : at3 ≤ r.length + 1 := by omega
  obtain ⟨ad3, hif3, hC3⟩ := cut_at (bs := 83 :: r) HC.out hc at3 (by simp; omega)
  have hdr3 : (83 :: r).drop at3 = r2 := by rw [show at3 = at2 + l2 by omega, ← List.drop_drop, HDr2.out, HE2.out, hl2, List.drop_left]
  rw [hdr3] at hC3
  have hsub3 : r.length + 1 - at3 = r2.length := by omega
  have hb3 : Bytes r2 := fun y hy => HB2.out y (by rw [HE2.out]; exact List.mem_append_right _ hy)
  have HB3 := Aside0.mk hb3
  have HL3 := Aside0.mk (fun W (hW : Below w.heap.size w W) => long1_calls r2 (some ad3) (c - at3) W hb3 (by omega) (by omega) (Kd.C_below hC3 hW))
  have HDr3 := Aside0.mk hdr3
  have HAt3 := Aside0.mk hat3
  have HRl2 := Aside0.mk hr2
  clear hl2 hdr3 hC3 hb3 e2 q2 hr1 hr2
  refine (HLb.out _ HW2.out).mono ?_
  rintro e w2 ⟨rfl, hd2⟩
  have HW3 := Aside0.mk (blt HW2.out hd2.below)
  have HR3 := Aside0.mk ((hd2.below.block _ (blk_lt HR2.out)).trans HR2.out)
  clear hd2 HLb HW2 HR2
  go_wp2_with fail
  clear hif3 hat3
  by_cases he3 : (longN r2).2.2 = 0
  case neg =>
    have HDec := HDec2
    have HDc := Aside0.mk (show decN (83 :: r) = (noReach, (longN r2).2.2) by
      rw [HDec.out]
      show decG (0 + 1) [x1, x2] r2 = _
      rw [decG, if_pos he3])
    have g1 : ((longN r2).2.2 != 0) = true := by rw [bne_iff_ne]; exact he3
    clear he3
    generalize (longN r2).1 = v at *
    generalize (longN r2).2.1 = kk at *
    generalize (longN r2).2.2 = er at *
    refine (HL3.out _ HW3.out).mono ?_
    rintro e w7 ⟨rfl, hd7⟩
    have HW7 := Aside0.mk (blt HW3.out hd7.below)
    have HR7 := Aside0.mk ((hd7.below.block _ (blk_lt HR3.out)).trans HR3.out)
    clear hd7
    go_wp2_with ((with_reducible refine gate_store (t := 45) (p := 2) (v := .tmp 69) rfl ?_); go_loud (refine store_agg 45 #[.int .u64 0, .int .u64 0, .int .u64 0, .slice none 0 0] rfl rfl (.tmp 2) (.tmp 69) rfl (by rw [sizeR]; rfl) (by simp [Value.oneCell']) _ rfl _ _ HR7.out rfl rfl ?_; intro w8 hz8 hf8; have HZ8 := Aside0.mk hz8; have HF8 := Aside0.mk hf8; clear hz8 hf8))
    (try simp only [Exit.inBlock, Exit.then])
    refine bodyPost_ret (results_ct rfl _ _ w.heap.size 45 (reachC noReach (.slice none 0 0)) (0, 0) _ rfl HZ8.out Try.underlying45 rfl (by rw [sizeR]; rfl)) rfl ?_
    unfold Decd
    rw [HDc.out]
    exact ⟨_, rfl, Kd.R_nil _ _ _ _ _, HW7.out.trans (HF8.out.below HW7.out.size (fun k hk => by omega))⟩
  obtain ⟨x3, r3, q3, f3, k3, e3⟩ := longN_back HB3.out (v := (longN r2).1) (k := (longN r2).2.1) (by rw [← he3])
  have hl3 := HL3.out
  rw [f3, k3, he3] at hl3
  have HLc := Aside0.mk hl3
  have HQ3 := Aside0.mk q3
  have HE3 := Aside0.mk e3
  clear hl3 f3 he3 HL3
  have hsb : (x1 : Int) - (x2 : Int) = ((x1 - x2 : Nat) : Int) := by omega
  obtain ⟨sb, hsb2⟩ : ∃ sb, sb = x1 - x2 := ⟨_, rfl⟩
  rw [← hsb2] at hsb
  by_cases hg3 : sb < x3
  · have HDec := HDec2
    clear q3 e3
    have HDc := Aside0.mk (show decN (83 :: r) = (noReach, 32) by
      rw [HDec.out]
      show decG (0 + 1) [x1, x2] r2 = _
      rw [decG, HE3.out, longN_short x3 r3 HQ3.out, if_neg (by simp), if_pos (by show (x3 : Int) > ((x1 - x2 : Nat) : Int); omega)]
      rfl)
    refine (HLc.out _ HW3.out).mono ?_
    rintro e w7 ⟨rfl, hd7⟩
    have HW7 := Aside0.mk (blt HW3.out hd7.below)
    have HR7 := Aside0.mk ((hd7.below.block _ (blk_lt HR3.out)).trans HR3.out)
    clear hd7
    go_wp2_with ((with_reducible refine gate_store (t := 45) (p := 2) (v := .tmp 76) rfl ?_); go_loud (refine store_agg 45 #[.int .u64 0, .int .u64 0, .int .u64 0, .slice none 0 0] rfl rfl (.tmp 2) (.tmp 76) rfl (by rw [sizeR]; rfl) (by simp [Value.oneCell']) _ rfl _ _ HR7.out rfl rfl ?_; intro w8 hz8 hf8; have HZ8 := Aside0.mk hz8; have HF8 := Aside0.mk hf8; clear hz8 hf8))
    (try simp only [Exit.inBlock, Exit.then])
    refine bodyPost_ret (results_ct rfl _ _ w.heap.size 45 (reachC noReach (.slice none 0 0)) (0, 0) _ rfl HZ8.out Try.underlying45 rfl (by rw [sizeR]; rfl)) rfl ?_
    unfold Decd
    rw [HDc.out]
    exact ⟨_, rfl, Kd.R_nil _ _ _ _ _, HW7.out.trans (HF8.out.below HW7.out.size (fun k hk => by omega))⟩
  have HDec3 := Aside0.mk (show decN (83 :: r) = dec3 x1 x2 x3 r3 from HDec2.out.trans (decG_step HQ3.out HE3.out (by show x3 ≤ x1 - x2; omega)))
  obtain ⟨l3, hl3⟩ : ∃ l, l = (shortI x3).length := ⟨_, rfl⟩
  rw [← hl3] at HLc
  have hr3 : r2.length = l3 + r3.length := by rw [HE3.out, List.length_append, hl3]
  obtain ⟨at4, hat4⟩ : ∃ at4 : Nat, (at3 : Int) + (l3 : Int) = (at4 : Int) := ⟨at3 + l3, by omega⟩
  have hr1 := HRl1.out
  have hr2 := HRl2.out
  have hat2 := HAt2.out
  have hat3 := HAt3.out
  have hle4 : at4 ≤ r.length + 1 := by omega
  obtain ⟨ad4, hif4, hC4⟩ := cut_at (bs := 83 :: r) HC.out hc at4 (by simp; omega)
  have hdr4 : (83 :: r).drop at4 = r3 := by rw [show at4 = at3 + l3 by omega, ← List.drop_drop, HDr3.out, HE3.out, hl3, List.drop_left]
  rw [hdr4] at hC4
  have hsub4 : r.length + 1 - at4 = r3.length := by omega
  have h3r : r3.length ≤ 1000000000 := by omega
  have h3c : r3.length ≤ c - at4 := by omega
  obtain ⟨tt, htt⟩ : ∃ tt : Nat, (x2 : Int) + (x3 : Int) = (tt : Int) := ⟨x2 + x3, by omega⟩
  obtain ⟨ha1, ha2⟩ := span_length (f := x2) (t := tt) (n := x1) (by omega) (by omega) (by omega)
  have hll := spanAns_len x2 tt x1
  have hPl := ref20_calls x2 tt x1
  rw [ha1] at hPl hll
  simp only at hPl hll
  have hdt := dec3_take x1 x2 x3 r3
  rw [show x2 + x3 = tt by omega, ← ha2] at hdt
  have htk := fun (W : World) (hW : Below w.heap.size w W) (nn : Nat) (hnn : nn ≤ 1000000) => take_calls r3 nn (some ad4) (c - at4) W hnn h3r h3c (Kd.C_below hC4 hW)
  have hx1 : x1 ≤ 4611686018427387904 := by omega
  have hx2 : x2 ≤ 4611686018427387904 := by omega
  have hx3 : x3 ≤ 4611686018427387904 := by omega
  generalize intsOf (spanPlaces x2 tt x1) = Lp at *
  have htk2 := fun W hW => htk W hW Lp.length (by omega)
  generalize takeAns r3 Lp.length = ta at *
  obtain ⟨hs, er⟩ := ta
  simp only at hdt htk2
  have HDec4 := Aside0.mk (HDec3.out.trans hdt)
  have HTk := Aside0.mk htk2
  have HPl := Aside0.mk hPl
  clear hl3 hdr4 hC4 e3 q3 hr1 hr2 hr3 hat2 hat3 ha1 ha2 hPl hdt htk htk2 hsb2
  refine (HLc.out _ HW3.out).mono ?_
  rintro e w3 ⟨rfl, hd3⟩
  have HW4 := Aside0.mk (blt HW3.out hd3.below)
  have HR4 := Aside0.mk ((hd3.below.block _ (blk_lt HR3.out)).trans HR3.out)
  clear hd3 HLc HW3 HR3
  go_wp2_with fail
  refine (HPl.out _).mono ?_
  rintro e w4 ⟨v4, rfl, hr4, hb4⟩
  obtain ⟨A4, m4, c4, e4⟩ : ∃ A m c, v4 = .slice A m c := by obtain ⟨A, c, h⟩ := Kd.R_slice hr4; exact ⟨A, _, c, h⟩
  subst e4
  obtain rfl : m4 = Lp.length := (Kd.R_reads' hr4).1
  have HW5 := Aside0.mk (blt HW4.out hb4)
  have HR5 := Aside0.mk ((hb4.block _ (blk_lt HR4.out)).trans HR4.out)
  clear hr4 hb4 HPl HW4 HR4
  go_wp2_with fail
  clear hif4 hat4
  refine (HTk.out _ HW5.out).mono ?_
  rintro e w5 ⟨v5, rfl, hr5, hb5⟩
  obtain ⟨A5, m5, c5, e5⟩ : ∃ A m c, v5 = .slice A m c := by obtain ⟨A, c, h⟩ := Kd.R_slice hr5; exact ⟨A, _, c, h⟩
  subst e5
  have HRr := Aside0.mk hr5
  have HW6 := Aside0.mk (blt HW5.out hb5)
  have HR6 := Aside0.mk ((hb5.block _ (blk_lt HR5.out)).trans HR5.out)
  have hsz5 := HW5.out.size
  clear hr5 hb5 HTk HR5
  by_cases her : er = 0
  · subst her
    have hfin := HDec4.out
    rw [if_pos rfl] at hfin
    have HFin := Aside0.mk hfin
    clear hfin
    go_wp2_with ((with_reducible refine gate_store (t := 45) (p := 2) (v := .tmp 108) rfl ?_); go_loud (refine store_agg 45 #[.int .u64 x1, .int .u64 x2, .int .u64 tt, .slice A5 m5 c5] rfl rfl (.tmp 2) (.tmp 108) rfl (by rw [sizeR]; rfl) (by simp [Value.oneCell']) #[.int .u64 0, .int .u64 0, .int .u64 0, .slice none 0 0] rfl _ _ HR6.out rfl rfl ?_; intro w8 hz8 hf8; have HZ8 := Aside0.mk hz8; have HF8 := Aside0.mk hf8; clear hz8 hf8))
    (try simp only [Exit.inBlock, Exit.then])
    refine bodyPost_ret (results_ct rfl _ _ w.heap.size 45 (reachC (x1, x2, tt, hs) (.slice A5 m5 c5)) (0, 0) _ rfl HZ8.out Try.underlying45 rfl (by rw [sizeR]; rfl)) rfl ?_
    unfold Decd
    rw [HFin.out]
    refine ⟨_, rfl, ?_, HW6.out.trans (HF8.out.below HW6.out.size (fun k hk => by omega))⟩
    exact R_frm flat_kH (Kd.R_lower HRr.out HW5.out.size) HF8.out (fun k hk he => by subst he; exact absurd hk.symm (Kd.R_ne HRr.out HR6.out (by decide)))
  · have HDc := Aside0.mk (HDec4.out.trans (if_neg her))
    have g1 : (er != 0) = true := by rw [bne_iff_ne]; exact her
    clear her
    go_wp2_with ((with_reducible refine gate_store (t := 45) (p := 2) (v := .tmp 100) rfl ?_); go_loud (refine store_agg 45 #[.int .u64 0, .int .u64 0, .int .u64 0, .slice none 0 0] rfl rfl (.tmp 2) (.tmp 100) rfl (by rw [sizeR]; rfl) (by simp [Value.oneCell']) _ rfl _ _ HR6.out rfl rfl ?_; intro w8 hz8 hf8; have HZ8 := Aside0.mk hz8; have HF8 := Aside0.mk hf8; clear hz8 hf8))
    (try simp only [Exit.inBlock, Exit.then])
    refine bodyPost_ret (results_ct rfl _ _ w.heap.size 45 (reachC noReach (.slice none 0 0)) (0, 0) _ rfl HZ8.out Try.underlying45 rfl (by rw [sizeR]; rfl)) rfl ?_
    unfold Decd
    rw [HDc.out]
    exact ⟨_, rfl, Kd.R_nil _ _ _ _ _, HW6.out.trans (HF8.out.below HW6.out.size (fun k hk => by omega))⟩
/-- massifref20.Decode. -/
theorem ref20_decode (bs : List Int) (A : Option Addr) (c : Nat) (w : World) (hb : Bytes bs) (hl : bs.length ≤ 1000000000) (hc : bs.length ≤ c) (hC : Kd.C (Kd.int .u8) w A bs.length bs) :
    Calls Try.prog 28 #[.slice A bs.length c] w (Decd bs w) := by
  by_cases h : ∃ r, bs = 83 :: r
  · obtain ⟨r, rfl⟩ := h
    exact ref20_decode_some r A c w hb hc (by simp at hl; omega) hC
  · exact ref20_decode_head bs A c w hb hc hC (fun r hr => h ⟨r, hr⟩)
end Go.Proofs.Ytagcabmccpekaaa.M

set_option linter.unusedVariables false
set_option linter.unusedSimpArgs false
namespace Go.Proofs.Ytagcabmccpekaaa.M
open Go.RowKit Go.Proofs.YtagcabmccpekaaaW.PrintWords Go.Proofs.YtagcabmccpekaaaW.PrintLast Go.Proofs.YtagcabmccpekaaaW.PrintMore Go.Proofs.Ytagcabmccpekaaa.Leaf

theorem sameB_loop (xs ys : List Int) (hl : xs.length = ys.length) (hb : xs.length < 9223372036854775807) : ∀ (d i : Nat), i + d = xs.length → Ev (fun k => massifref2_SameBytes.l0 k xs ys (i : Int)) (decide (xs.drop i = ys.drop i))
  | 0, i, hi => by
    rw [List.drop_of_length_le (by omega), List.drop_of_length_le (by omega)]
    exact Ev.step (f := fun _ => some (decide (([] : List Int) = []))) (fun k => by simp only [massifref2_SameBytes.l0]; rw [if_neg (by omega)]; rfl) (Ev.now _)
  | d + 1, i, hi => by
    have h1 : i < xs.length := by omega
    have h2 : i < ys.length := by omega
    have ih := sameB_loop xs ys hl hb d (i + 1) (by omega)
    have e1 : wrap64 ((i : Int) + 1) = ((i + 1 : Nat) : Int) := by rw [i64_of _ (by omega) (by omega)]; omega
    have r1 : rd xs (i : Int) = xs[i] := by simp [rd, List.getD_eq_getElem?_getD, List.getElem?_eq_getElem h1]
    have r2 : rd ys (i : Int) = ys[i] := by simp [rd, List.getD_eq_getElem?_getD, List.getElem?_eq_getElem h2]
    rw [List.drop_eq_getElem_cons h1, List.drop_eq_getElem_cons h2]
    refine Ev.step (fun k => by simp only [massifref2_SameBytes.l0]; rw [if_pos (by omega), if_pos (by omega), if_pos (by omega), r1, r2, e1]) ?_
    by_cases c : xs[i] = ys[i]
    · refine Ev.congr (fun k => if_pos c) ?_
      rw [show decide (xs[i] :: xs.drop (i + 1) = ys[i] :: ys.drop (i + 1)) = decide (xs.drop (i + 1) = ys.drop (i + 1)) by apply decide_eq_decide.2; rw [List.cons.injEq]; exact ⟨fun h => h.2, fun h => ⟨c, h⟩⟩]
      exact ih
    · refine Ev.congr (fun k => if_neg c) ?_
      rw [decide_eq_false (fun h => c (List.cons.inj h).1)]
      exact Ev.now _
theorem sameB_val (xs ys : List Int) (hb : xs.length < 9223372036854775807) : Ev (fun k => massifref2_SameBytes.f k xs ys) (decide (xs = ys)) := by
  unfold massifref2_SameBytes.f
  by_cases c : xs.length = ys.length
  · exact Ev.congr (fun k => if_pos (by omega)) (sameB_loop xs ys c hb _ 0 (Nat.zero_add _))
  · refine Ev.congr (fun k => if_neg (by omega)) ?_
    rw [decide_eq_false (fun e => c (by rw [e]))]
    exact Ev.now _
theorem sameB_true {A0 A1 : Option Addr} {n0 n1 c0 c1 : Nat} {xs : List Int} {w : World} (h0 : Rd .u8 w (.slice A0 n0 c0) xs) (h1 : Rd .u8 w (.slice A1 n1 c1) xs) (hl : xs.length < 9223372036854775807) :
    Calls Try.prog 25 #[.slice A0 n0 c0, .slice A1 n1 c1] w fun e w' => e = .returned (.bool true) ∧ Drawn0 w w' := by
  obtain ⟨_, _, e0, hl0, hc0⟩ := h0
  obtain ⟨_, _, e1, hl1, hc1⟩ := h1
  injection e0 with a0 b0 d0
  injection e1 with a1 b1 d1
  subst a0 b0 d0 a1 b1 d1
  obtain ⟨k, hk⟩ := (sameB_val xs xs hl).rounds
  rw [decide_eq_true rfl] at hk
  exact massifref2_SameBytes.calls k _ _ _ _ _ _ _ w hc0 hl0 hc1 hl1 hk

/-! Bytes. -/
theorem span_len (f t n : Nat) (ns : List Hsh) : (spanBytes f t n ns).length ≤ 31 + 32 * ns.length := by
  unfold spanBytes
  have h1 := shortI_len n
  have h2 := shortI_len f
  have h3 := shortI_len (t - f)
  have h4 := nodes_len ns
  simp only [List.length_append, List.length_singleton]
  omega

/-! span.Decode. -/
theorem span_decode (bs : List Int) (A : Option Addr) (c : Nat) (w : World) (hb : Bytes bs) (hl : bs.length ≤ 1000000000) (hc : bs.length ≤ c) (hC : Kd.C (Kd.int .u8) w A bs.length bs) :
    Calls Try.prog 29 #[.slice A bs.length c] w (Decd bs w) := by
  by_cases h : ∃ r, bs = 83 :: r
  · obtain ⟨r, rfl⟩ := h
    exact span_decode_some r A c w hb hc (by simp at hl; omega) hC
  · exact span_decode_head bs A c w hb hc hC (fun r hr => h ⟨r, hr⟩)
set_option maxHeartbeats 2000000 in
set_option maxRecDepth 100000 in
theorem same20 (n f t : Nat) (ns : List Hsh) (A B : Option Addr) (c d : Nat) (w : World) (hl : ns.length ≤ 1000000000) (hA : kH.C w A ns.length ns) (hB : kH.C w B ns.length ns) :
    Calls Try.prog 30 #[.agg #[.int .u64 n, .int .u64 f, .int .u64 t, .slice A ns.length c], .agg #[.int .u64 n, .int .u64 f, .int .u64 t, .slice B ns.length d]] w fun e w' => e = .returned (.bool true) ∧ Below w.heap.size w w' := by
  have HA := Aside0.mk hA
  have HB := Aside0.mk hB
  clear hA hB
  go_enter Try.func30, Try.ntmps30
  go_wp2_with fail
  refine (sameH_true ns A B c d _ hl (Kd.C_below HA.out (by repeat (with_reducible first | exact Below.refl _ _ | refine below_alloc ?_ _ | refine below_drew ?_))) (Kd.C_below HB.out (by repeat (with_reducible first | exact Below.refl _ _ | refine below_alloc ?_ _ | refine below_drew ?_)))).mono ?_
  rintro e w1 ⟨rfl, hb⟩
  have HB1 := Aside0.mk (blt (w := w) (by repeat (with_reducible first | exact Below.refl _ _ | refine below_alloc ?_ _ | refine below_drew ?_)) hb)
  clear hb
  go_wp2_with fail
  go_ret
  exact ⟨rfl, HB1.out⟩
end Go.Proofs.Ytagcabmccpekaaa.M

set_option linter.unusedVariables false
set_option linter.unusedSimpArgs false
namespace Go.Proofs.Ytagcabmccpekaaa.M
open Go.RowKit Go.Proofs.YtagcabmccpekaaaW.PrintWords Go.Proofs.YtagcabmccpekaaaW.PrintLast Go.Proofs.YtagcabmccpekaaaW.PrintMore Go.Proofs.Ytagcabmccpekaaa.Leaf

/-- A list that goes on behind what is looked at. -/
theorem row_cut {w : World} {e base : Nat} {A : Option Addr} {c : Nat} {xs : List Int} {y : Int} (h : (Kd.int .u8).R e w base (fun _ => True) (.slice A (xs.length + 1) c) (xs ++ [y])) : xs.length ≤ c ∧ Kd.C (Kd.int .u8) w A xs.length xs := by
  obtain ⟨A', c', ev, hl, hC⟩ := Rd.of_R h
  injection ev with e1 e2 e3
  subst e1 e3
  have h2 := Kd.C_take hC (m := xs.length) (by simp)
  rw [List.take_left] at h2
  exact ⟨by simp at hl; omega, h2⟩
theorem rowH_cut {w : World} {e base : Nat} {A : Option Addr} {c : Nat} {xs : List Hsh} {y : Hsh} (h : kH.R e w base (fun _ => True) (.slice A (xs.length + 1) c) (xs ++ [y])) : kH.C w A xs.length xs := by
  obtain ⟨A', c', ev, hC⟩ := Hd.of_R h
  injection ev with e1 e2 e3
  subst e1 e3
  have h2 := Kd.C_take hC (m := xs.length) (by simp)
  rw [List.take_left] at h2
  exact h2
end Go.Proofs.Ytagcabmccpekaaa.M

set_option linter.unusedVariables false
set_option linter.unusedSimpArgs false
namespace Go.Proofs.Ytagcabmccpekaaa.M
open Go.RowKit Go.Proofs.YtagcabmccpekaaaW.PrintWords Go.Proofs.YtagcabmccpekaaaW.PrintLast Go.Proofs.YtagcabmccpekaaaW.PrintMore Go.Proofs.Ytagcabmccpekaaa.Leaf

/-- A list, the first j of which have been marked. -/
def mkA {α : Type} (x : α) (L : List α) (j : Nat) : List α := List.replicate j x ++ L.drop j
theorem mkA_len {α : Type} (x : α) (L : List α) (j : Nat) (hj : j ≤ L.length) : (mkA x L j).length = L.length := by simp [mkA]; omega
theorem mkA_set {α : Type} (x : α) (L : List α) (j : Nat) (hj : j < L.length) : (mkA x L j).set j x = mkA x L (j + 1) := by
  unfold mkA
  rw [List.drop_eq_getElem_cons hj, List.set_append_right _ _ (by simp), List.length_replicate, Nat.sub_self, List.set_cons_zero, List.replicate_succ', List.append_assoc]
  rfl
theorem mkA_all {α : Type} (x : α) (L : List α) : mkA x L L.length = List.replicate L.length x := by simp [mkA]
theorem mkA_zero {α : Type} (x : α) (L : List α) : mkA x L 0 = L := by simp [mkA]
section
variable {ops : Array Oper} {rest : List Oper} {o : Oper} {a : Act} {Q : Exit → Act → World → Prop} {W : World}
theorem neq_hash (hgd : o.guard = none) (x y : Operand) (ty : TypeId) (ho : o.op = .binOp .neq 73 x y ty) (h g : Hsh) (hx : a.eval x = h.val) (hy : a.eval y = g.val) (b : Bool) (hb : (!decide (h = g)) = b)
    (k : wpList Try.prog ops Q rest (a.put o.dst (.bool b)) W) : wpList Try.prog ops Q (o :: rest) a W := by
  refine wpList_plain hgd fun K hK => ?_
  unfold Oper.wp execOp
  simp only [ho, hx, hy, Sem.run_bind, hash_guard, hash_neq, Result.andThen_ok, Sem.run_pure, hb]
  exact hK _ _ k
theorem eql_hash (hgd : o.guard = none) (x y : Operand) (ty : TypeId) (ho : o.op = .binOp .eql 73 x y ty) (h g : Hsh) (hx : a.eval x = h.val) (hy : a.eval y = g.val) (b : Bool) (hb : (decide (h = g)) = b)
    (k : wpList Try.prog ops Q rest (a.put o.dst (.bool b)) W) : wpList Try.prog ops Q (o :: rest) a W := by
  refine wpList_plain hgd fun K hK => ?_
  unfold Oper.wp execOp
  simp only [ho, hx, hy, Sem.run_bind, hash_guard, hash_eql, Result.andThen_ok, Sem.run_pure, hb]
  exact hK _ _ k
theorem put_hash (base : Nat) (hN : o.dst = none) (hgd : o.guard = none) (p x : Operand) (ho : o.op = .store 73 p x) {g n cap o' : Nat} (j : Nat) (xs : List Hsh) (h : Hsh)
    (haddr : a.eval p = .pointer (some ⟨g, o', none⟩)) (hoff : o' = j * 32) (hx : a.eval x = h.val) (HO : kH.R 73 W base (fun _ => True) (.slice (some ⟨g, 0, none⟩) n cap) xs) (hj : j < n)
    (k : ∀ w1, kH.R 73 w1 base (fun _ => True) (.slice (some ⟨g, 0, none⟩) n cap) (xs.set j h) → W.grownBy w1 (some g) → wpList Try.prog ops Q rest a w1) : wpList Try.prog ops Q (o :: rest) a W := by
  obtain ⟨c, hc1, _, hc2, _⟩ := Kd.R_elem HO hashZ (j : Int) (by omega) (by omega)
  refine Kd.R_store kH (w0 := W) base hN hgd 73 p x ho 73 (j : Int) 0 xs h h.val h.cells c (fun _ => True) (fun _ => False) haddr (by rw [hoff, Int.toNat_natCast]; rfl) hx (by simp [Hsh.val, Value.cells]) (by rw [Hsh.cells_len]; exact sizeH) h.one HO (by omega) (by omega) hc1 hc2 (by rw [Hsh.cells_len]; exact Nat.le_refl _) ?_ (fun _ hk => hk.elim) (Below.refl _ _) ?_
  · show c.take 0 ++ h.cells ++ c.drop (0 + h.cells.length) = h.cells
    have h32 : c.length = 32 := hc1
    rw [List.take_zero, List.nil_append, Nat.zero_add, Hsh.cells_len, List.drop_of_length_le (by omega), List.append_nil]
  · intro w1 hr _ hg
    rw [Int.toNat_natCast] at hr
    exact k w1 hr hg
end
end Go.Proofs.Ytagcabmccpekaaa.M

set_option linter.unusedVariables false
set_option linter.unusedSimpArgs false
namespace Go.Proofs.Ytagcabmccpekaaa.M
open Go.RowKit Go.Proofs.YtagcabmccpekaaaW.PrintWords Go.Proofs.YtagcabmccpekaaaW.PrintLast Go.Proofs.YtagcabmccpekaaaW.PrintMore Go.Proofs.Ytagcabmccpekaaa.Leaf

def ML1 (k : IntKind) (e : Nat) (x y : Int) (w : World) (va vb : Value) (L : List Int) (j : Nat) (wr : World) : Prop :=
  Kd.R (Kd.int k) e wr w.heap.size (fun _ => True) va (mkA x L j) ∧ Kd.R (Kd.int k) e wr w.heap.size (fun _ => True) vb (mkA y L j) ∧ Below w.heap.size w wr
theorem ML1.next {k : IntKind} {e : Nat} {x y : Int} {w : World} {ga gb na nb ca cb : Nat} {L : List Int} {j : Nat} {wr : World} (h : ML1 k e x y w (.slice (some ⟨ga, 0, none⟩) na ca) (.slice (some ⟨gb, 0, none⟩) nb cb) L j wr) (hj : j < L.length)
    (hab : Apart (.slice (some ⟨ga, 0, none⟩) na ca) (.slice (some ⟨gb, 0, none⟩) nb cb)) :
    ML1 k e x y w (.slice (some ⟨ga, 0, none⟩) na ca) (.slice (some ⟨gb, 0, none⟩) nb cb) L (j + 1) ((wr.setCell ⟨ga, j, none⟩ (.int k x)).setCell ⟨gb, j, none⟩ (.int k y)) := by
  obtain ⟨h1, h2, h4⟩ := h
  have oa : ∀ n c, (Value.slice (some ⟨ga, 0, none⟩) n c).ownBlock = some ga := fun _ _ => by simp [Value.ownBlock]
  have ob : ∀ n c, (Value.slice (some ⟨gb, 0, none⟩) n c).ownBlock = some gb := fun _ _ => by simp [Value.ownBlock]
  have hne : ga ≠ gb := fun he => hab ga (oa _ _) (by rw [ob, he])
  have s1 := Kd.R_putn h1 (j : Int) x
  rw [Int.toNat_natCast, mkA_set x L j hj] at s1
  have f1 := Frm.of_set wr ⟨ga, j, none⟩ (.int k x)
  have f2 := Frm.of_set (wr.setCell ⟨ga, j, none⟩ (.int k x)) ⟨gb, j, none⟩ (.int k y)
  have h2' := R_frm (flat_int k) h2 f1 (fun q hq he => by rw [ob] at hq; injection hq with hq; exact hne (by rw [hq]; exact he.symm))
  have s2 := Kd.R_putn h2' (j : Int) y
  rw [Int.toNat_natCast, mkA_set y L j hj] at s2
  refine ⟨R_frm (flat_int k) s1 f2 (fun q hq he => by rw [oa] at hq; injection hq with hq; exact hne (by rw [hq]; exact he)), s2, ?_⟩
  have hba := Kd.R_base h1 ga (oa _ _)
  have hbb := Kd.R_base h2 gb (ob _ _)
  exact (h4.setCell hba _).setCell hbb _
theorem ML1.form {k : IntKind} {e : Nat} {x y : Int} {w : World} {Aa Ab : Option Addr} {na nb ca cb : Nat} {L : List Int} {j : Nat} {wr : World} (h : ML1 k e x y w (.slice Aa na ca) (.slice Ab nb cb) L j wr) (hj : j < L.length)
    (hab : Apart (.slice Aa na ca) (.slice Ab nb cb)) : ∃ ga gb, Aa = some ⟨ga, 0, none⟩ ∧ Ab = some ⟨gb, 0, none⟩ ∧ ga ≠ gb ∧ (∃ z : Int, wr.cell? ⟨ga, j, none⟩ = some (.int k z)) ∧ wr.frozen? ⟨ga, j, none⟩ = false ∧
      (∀ u, ∃ z : Int, (wr.setCell ⟨ga, j, none⟩ u).cell? ⟨gb, j, none⟩ = some (.int k z)) ∧ (∀ u, (wr.setCell ⟨ga, j, none⟩ u).frozen? ⟨gb, j, none⟩ = false) := by
  obtain ⟨h1, h2, h4⟩ := h
  have l1 := mkA_len x L j (by omega)
  have l2 := mkA_len y L j (by omega)
  obtain ⟨ga, cap, ea, _, _, _⟩ := Kd.R_form h1 (by omega)
  obtain ⟨gb, capb, eb, _, _, _⟩ := Kd.R_form h2 (by omega)
  injection ea with ea1 ea2 ea3
  injection eb with eb1 eb2 eb3
  subst ea1 ea2 ea3 eb1 eb2 eb3
  have hne : ga ≠ gb := fun he => hab ga (by simp [Value.ownBlock]) (by simp [Value.ownBlock, he])
  obtain ⟨k1, k2⟩ := Kd.R_celln 0 h1 (j : Int) (by omega) (by omega)
  obtain ⟨k3, k4⟩ := Kd.R_celln 0 h2 (j : Int) (by omega) (by omega)
  rw [Int.toNat_natCast] at k1 k2 k3 k4
  have hb : ∀ u, (wr.setCell ⟨ga, j, none⟩ u).heap[gb]? = wr.heap[gb]? := fun u => Below.heap_setCell wr ⟨ga, j, none⟩ u gb (fun he => hne he.symm)
  exact ⟨ga, gb, rfl, rfl, hne, ⟨_, k1⟩, k2, fun u => ⟨_, (World.cell?_of_block (a := ⟨gb, j, none⟩) (hb u)).trans k3⟩, fun u => (World.frozen?_of_block (a := ⟨gb, j, none⟩) (hb u)).trans k4⟩
/-- Behind the two appends. -/
def ML2 (k : IntKind) (e : Nat) (x y : Int) (w : World) (va vb : Value) (n : Nat) (wr : World) : Prop :=
  Kd.R (Kd.int k) e wr w.heap.size (fun _ => True) va (List.replicate (n + 1) x) ∧ Kd.R (Kd.int k) e wr w.heap.size (fun _ => True) vb (List.replicate (n + 1) y) ∧ Below w.heap.size w wr
theorem ML2.make {k : IntKind} {e : Nat} {x y : Int} {w wr w5 w6 : World} {va vb va' vb' : Value} {L : List Int} (h : ML1 k e x y w va vb L L.length wr) (hab : Apart va vb)
    (h1 : Kd.R (Kd.int k) e w5 w.heap.size (fun _ => True) va' (List.replicate L.length x ++ [x])) (f1 : Frm (fun k => some k = va.ownBlock) wr w5) (a1 : va'.ownBlock = va.ownBlock ∨ ∃ b, va'.ownBlock = some b ∧ wr.heap.size ≤ b)
    (h2 : Kd.R (Kd.int k) e w6 w.heap.size (fun _ => True) vb' (List.replicate L.length y ++ [y])) (f2 : Frm (fun k => some k = vb.ownBlock) w5 w6) : ML2 k e x y w va' vb' L.length w6 := by
  have hvw : Apart va' vb := Apart.symm (apart_step hab.symm (Kd.R_lt h.2.1) a1)
  refine ⟨?_, ?_, ?_⟩
  · rw [List.replicate_succ']
    exact R_frm (flat_int k) h1 f2 (fun q hq he => hvw q hq he.symm)
  · rw [List.replicate_succ']
    exact h2
  · have hs := h.2.2.size
    exact (h.2.2.trans (f1.below hs (fun q hq => Kd.R_base h.1 q hq.symm))).trans (f2.below (Nat.le_trans hs f1.size) (fun q hq => Kd.R_base h.2.1 q hq.symm))
theorem rep_cellk {k : IntKind} {e : Nat} {w : World} {base : Nat} {A : Option Addr} {m c n : Nat} {x : Int} (h : Kd.R (Kd.int k) e w base (fun _ => True) (.slice A m c) (List.replicate n x)) (j : Nat) (hj : j < n) : ∃ ad, A = some ad ∧ w.cell? (ad.add j) = some (.int k x) := by
  obtain ⟨_, _, hC⟩ := Kd.R_reads' h
  obtain ⟨ad, ea, hx⟩ := Kd.at_int hC (j : Int) (by omega) (by rw [List.length_replicate]; omega)
  rw [Int.toNat_natCast] at hx
  refine ⟨ad, ea, ?_⟩
  rw [show rd (List.replicate n x) (j : Int) = x by simp [rd, List.getD_eq_getElem?_getD, List.getElem?_replicate, hj]] at hx
  exact hx
theorem row_round {k : IntKind} {e base g n c : Nat} {W : World} {M : List Int} (h : (Kd.int k).R e W base (fun _ => True) (.slice (some ⟨g, 0, none⟩) n c) M) (j : Nat) (hj : j < n) :
    (∃ z : Int, W.cell? ⟨g, j, none⟩ = some (.int k z)) ∧ W.frozen? ⟨g, j, none⟩ = false ∧ ∀ x : Int, (Kd.int k).R e (W.setCell ⟨g, j, none⟩ (.int k x)) base (fun _ => True) (.slice (some ⟨g, 0, none⟩) n c) (M.set j x) := by
  obtain ⟨k1, k2⟩ := Kd.R_celln 0 h (j : Int) (by omega) (by omega)
  rw [Int.toNat_natCast] at k1 k2
  refine ⟨⟨_, k1⟩, k2, fun x => ?_⟩
  have s1 := Kd.R_putn h (j : Int) x
  rw [Int.toNat_natCast] at s1
  exact s1
end Go.Proofs.Ytagcabmccpekaaa.M

set_option linter.unusedVariables false
set_option linter.unusedSimpArgs false
namespace Go.Proofs.Ytagcabmccpekaaa.M
open Go.RowKit Go.Proofs.YtagcabmccpekaaaW.PrintWords Go.Proofs.YtagcabmccpekaaaW.PrintLast Go.Proofs.YtagcabmccpekaaaW.PrintMore Go.Proofs.Ytagcabmccpekaaa.Leaf

set_option maxHeartbeats 4000000 in
set_option maxRecDepth 100000 in
theorem mark_calls20 (m : Int) (xs : List Hsh) (A : Option Addr) (n c base : Nat) (w : World) (hR : kH.R 73 w base (fun _ => True) (.slice A n c) xs) (hbase : base ≤ w.heap.size) (hl : xs.length ≤ 1000000) :
    Calls Try.prog 32 #[.slice A n c, .int .u8 m] w fun e w' => ∃ A1 c1, e = .returned (.slice A1 (xs.length + 2) c1) ∧ kH.R 73 w' base (fun _ => True) (.slice A1 (xs.length + 2) c1) (List.replicate (xs.length + 2) (hash1 m)) ∧ Frm (fun k => some k = (Value.slice A n c).ownBlock) w w' ∧
      ((Value.slice A1 (xs.length + 2) c1).ownBlock = (Value.slice A n c).ownBlock ∨ ∃ b, (Value.slice A1 (xs.length + 2) c1).ownBlock = some b ∧ w.heap.size ≤ b) := by
  obtain rfl : n = xs.length := (Kd.R_reads' hR).1
  have HR0 := Aside0.mk hR
  have hone := (hash1 m).one
  clear hR
  go_enter Try.func32, Try.ntmps32
  go_wp2_with fail
  go_loopw [5] (fun s wr => ∃ j : Nat, j ≤ xs.length ∧ s = .int .i64 j ∧ Aside0 (kH.R 73 wr base (fun _ => True) (.slice A xs.length c) (mkA (hash1 m) xs j)) ∧ Aside0 (Frm (fun k => some k = (Value.slice A xs.length c).ownBlock) w wr)) (fun s _ => xs.length - (intOf s).toNat)
  case atStart => exact ⟨0, Nat.zero_le _, rfl, ⟨by rw [mkA_zero]; exact HR0.out⟩, ⟨Frm.refl _ _⟩⟩
  case round =>
    obtain ⟨j, hj, rfl, HS, HF⟩ := hrel
    clear HR0
    have hml := mkA_len (hash1 m) xs j hj
    by_cases hlt : j < xs.length
    · obtain ⟨g, cap, ea, _, _, _⟩ := Kd.R_form HS.out (by rw [hml]; omega)
      injection ea with ea1 ea2 ea3
      subst ea1 ea3
      have HSt := Aside0.mk (mkA_set (hash1 m) xs j hlt)
      clear hml ea2
      go_wp2_with ((with_reducible refine gate_store (t := 73) (p := 16) (v := .tmp 15) rfl ?_); go_loud (refine put_hash base rfl rfl (.tmp 16) (.tmp 15) rfl j _ (hash1 m) rfl (by simp) rfl HS.out hlt ?_; intro w1 hr1 hg1; have HR1 := Aside0.mk hr1; have HG1 := Aside0.mk hg1; clear hr1 hg1))
      go_roundw
      case rel => exact ⟨j + 1, by omega, by go_num, ⟨by rw [← HSt.out]; exact HR1.out⟩, ⟨HF.out.trans (Frm.of_grown HG1.out) (fun i _ h => by simp [Value.ownBlock] at h ⊢; exact h)⟩⟩
      case measure => simp [intOf]; omega
    · have hjl : j = xs.length := by omega
      subst hjl
      have hs := HF.out.size
      have HS2 := Aside0.mk (show kH.R 73 wr base (fun _ => True) (.slice A xs.length c) (List.replicate xs.length (hash1 m)) from mkA_all (hash1 m) xs ▸ HS.out)
      have hrl : (List.replicate xs.length (hash1 m)).length = xs.length := List.length_replicate
      have hrl2 : (List.replicate xs.length (hash1 m) ++ [hash1 m]).length = xs.length + 1 := by simp
      have HRep := Aside0.mk (show List.replicate xs.length (hash1 m) ++ [hash1 m] ++ [hash1 m] = List.replicate (xs.length + 2) (hash1 m) by rw [← List.replicate_succ', ← List.replicate_succ'])
      obtain ⟨P, hP⟩ : ∃ P, P = List.replicate xs.length (hash1 m) := ⟨_, rfl⟩
      rw [← hP] at HS2 hrl hrl2 HRep
      clear hP hml HS
      have hb1 : base ≤ wr.heap.size := by omega
      go_wp2_with (first | ((with_reducible refine gate_builtin (b := .append) (xs := #[.tmp 17, .tmp 20]) rfl ?_); at_builtin; go_loud (refine app_one kH base rfl (.tmp 17) (.tmp 20) 43 73 _ 32 rfl Try.underlying43 infoH rfl (by decide) (by decide) (.slice A xs.length c) P (hash1 m) ((hash1 m)).cells rfl rfl rfl HS2.out hb1 (by omega) ?_; intro A6 c6 w6 hr6 hf6 ha6; rw [hrl] at hr6 ha6 ⊢; have HR6 := Aside0.mk hr6; have HF6 := Aside0.mk hf6; have HA6 := Aside0.mk ha6; clear hr6 hf6 ha6)) | ((with_reducible refine gate_builtin (b := .append) (xs := #[.tmp 21, .tmp 24]) rfl ?_); at_builtin; go_loud (refine app_one kH base rfl (.tmp 21) (.tmp 24) 43 73 _ 32 rfl Try.underlying43 infoH rfl (by decide) (by decide) (.slice A6 (xs.length + 1) c6) (P ++ [hash1 m]) (hash1 m) ((hash1 m)).cells rfl rfl rfl HR6.out (Nat.le_trans hb1 HF6.out.size) (by omega) ?_; intro A7 c7 w7 hr7 hf7 ha7; rw [hrl2] at hr7 ha7 ⊢; have HR7 := Aside0.mk hr7; have HF7 := Aside0.mk hf7; have HA7 := Aside0.mk ha7; clear hr7 hf7 ha7)))
      go_ret
      have hr := HR7.out
      rw [HRep.out] at hr
      have ha := HA7.out
      refine ⟨A7, c7, rfl, hr, ?_, ?_⟩
      · refine (HF.out.trans HF6.out (fun i hi h => h)).trans HF7.out (fun i hi h => ?_)
        rcases HA6.out with h6 | ⟨b, h6, h7⟩
        · rw [h6] at h
          exact h
        · rw [h6] at h
          injection h with h
          have := HF.out.size
          omega
      · rcases ha with h7 | ⟨b, h7, h8⟩
        · rcases HA6.out with h6 | ⟨b, h6, h8⟩
          · exact .inl (h7.trans h6)
          · exact .inr ⟨b, h7.trans h6, by omega⟩
        · exact .inr ⟨b, h7, by have := HF6.out.size; omega⟩
theorem all_calls20 (m : Int) (n : Nat) (A : Option Addr) (c : Nat) (w : World) (hl : n ≤ 1000000) (hC : kH.C w A n (List.replicate n (hash1 m))) :
    Calls Try.prog 33 #[.slice A n c, .int .u8 m] w fun e w' => e = .returned (.bool true) ∧ Below w.heap.size w w' := by
  have HC := Aside0.mk hC
  have hone := (hash1 m).one
  clear hC
  go_enter Try.func33, Try.ntmps33
  go_wp2_with fail
  go_loop [5] (fun s => ∃ j : Nat, j ≤ n ∧ s = .int .i64 j) (fun s => n - (intOf s).toNat)
  case atStart => exact ⟨0, Nat.zero_le _, rfl⟩
  case round =>
    obtain ⟨j, hj, rfl⟩ := hrel
    by_cases hlt : j < n
    · obtain ⟨ad, ea, hh⟩ := C_hash HC.out j (by rw [List.length_replicate]; exact hlt)
      rw [List.getElem_replicate] at hh
      subst ea
      have HH := Aside0.mk hh
      clear hh
      go_wp2_with (first | ((with_reducible refine gate_dst (N := 15) rfl ?_); go_loud (refine load_hash rfl (.tmp 14) rfl _ _ rfl HH.out ?_)) | ((with_reducible refine gate_dst (N := 18) rfl ?_); go_loud (refine neq_hash rfl (.tmp 15) (.tmp 17) _ rfl (hash1 m) (hash1 m) rfl rfl false (by simp) ?_)))
      go_round
      case rel => exact ⟨j + 1, by omega, by go_num⟩
      case measure => simp [intOf]; omega
    · have hjl : j = n := by omega
      subst hjl
      go_wp2_with fail
      go_ret
      exact ⟨rfl, Below.refl _ _⟩
end Go.Proofs.Ytagcabmccpekaaa.M

set_option linter.unusedVariables false
set_option linter.unusedSimpArgs false
namespace Go.Proofs.Ytagcabmccpekaaa.M
open Go.RowKit Go.Proofs.YtagcabmccpekaaaW.PrintWords Go.Proofs.YtagcabmccpekaaaW.PrintLast Go.Proofs.YtagcabmccpekaaaW.PrintMore Go.Proofs.Ytagcabmccpekaaa.Leaf

set_option maxHeartbeats 4000000 in
set_option maxRecDepth 100000 in
theorem still_calls20 (bs : List Int) (A B : Option Addr) (c d : Nat) (w : World) (hl : bs.length ≤ 1000000) (hc : bs.length + 1 ≤ c) (hc2 : c ≤ 9223372036854775807) (hd : bs.length ≤ d) (hA : Kd.C (Kd.int .u8) w A (bs.length + 1) (bs ++ [171])) (hB : Kd.C (Kd.int .u8) w B bs.length bs) :
    Calls Try.prog 31 #[.slice A bs.length c, .slice B bs.length d] w fun e w' => e = .returned (.bool true) ∧ Below w.heap.size w w' := by
  have hA1 : Kd.C (Kd.int .u8) w A bs.length bs := by
    have h2 := Kd.C_take (m := bs.length) (xs := bs ++ [171]) (by simpa using hA) (by simp)
    rw [List.take_left] at h2
    exact h2
  obtain ⟨ad, ea, hx⟩ := Kd.at_int hA (bs.length : Int) (by omega) (by omega)
  rw [Int.toNat_natCast, show rd (bs ++ [171]) (bs.length : Int) = 171 by simp [rd]] at hx
  subst ea
  have HA := Aside0.mk hA1
  have HB := Aside0.mk hB
  clear hA hA1 hB
  go_enter Try.func31, Try.ntmps31
  go_wp2_with fail
  refine (sameB_true (xs := bs) (w := w) ⟨_, _, rfl, by omega, HA.out⟩ ⟨_, _, rfl, hd, HB.out⟩ (by omega)).mono ?_
  rintro e w1 ⟨rfl, ⟨nd, rfl⟩⟩
  go_wp2_with fail
  go_ret
  exact ⟨rfl, pw_below_drewN (Below.refl _ _) _⟩
set_option maxHeartbeats 4000000 in
set_option maxRecDepth 100000 in
theorem kept_calls20 (xs : List Hsh) (A B : Option Addr) (c d : Nat) (w : World) (hl : xs.length ≤ 1000000) (hc : xs.length + 1 ≤ c) (hc2 : c ≤ 9223372036854775807) (hA : kH.C w A (xs.length + 1) (xs ++ [hash1 171])) (hB : kH.C w B xs.length xs) :
    Calls Try.prog 26 #[.slice A xs.length c, .slice B xs.length d] w fun e w' => e = .returned (.bool true) ∧ Below w.heap.size w w' := by
  have hA1 : kH.C w A xs.length xs := by
    have h2 := Kd.C_take (m := xs.length) (xs := xs ++ [hash1 171]) (by simpa using hA) (by simp)
    rw [List.take_left] at h2
    exact h2
  obtain ⟨ad, ea, hx⟩ := C_hash hA xs.length (by simp)
  have e1 : (xs ++ [hash1 171])[xs.length]'(by simp) = hash1 171 := by simp
  rw [e1] at hx
  subst ea
  have HX := Aside0.mk hx
  have HA := Aside0.mk hA1
  have HB := Aside0.mk hB
  clear hA hA1 hB hx e1
  go_enter Try.func26, Try.ntmps26
  go_wp2_with fail
  refine (sameH_true xs (some ad) B c d w (by omega) HA.out HB.out).mono ?_
  rintro e w1 ⟨rfl, hb1⟩
  have HX1 := Aside0.mk (HX.out.below hb1)
  have HB1 := Aside0.mk hb1
  clear hb1 HX
  go_wp2_with (first | ((with_reducible refine gate_dst (N := 17) rfl ?_); go_loud (refine wp_unguard (by rfl) (load_hash rfl (.tmp 16) rfl _ _ rfl HX1.out ?_))) | ((with_reducible refine gate_dst (N := 19) rfl ?_); go_loud (refine wp_unguard (by rfl) (eql_hash rfl (.tmp 17) (.tmp 18) _ rfl (hash1 171) (hash1 171) rfl rfl true (by simp) ?_))))
  go_ret
  exact ⟨rfl, HB1.out⟩
end Go.Proofs.Ytagcabmccpekaaa.M
