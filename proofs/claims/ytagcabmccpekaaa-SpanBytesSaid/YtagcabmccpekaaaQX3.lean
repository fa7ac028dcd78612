/- span.Decode. massifref7.Put: hashes behind bytes. append's laws once more, the new row's length under a name of its own. massifref20.Encode. massifref1.Long reads as num.Long does. -/
import Derived.Test.YtagcabmccpekaaaQX2
import Derived.Test.YtagcabmccpekaaaQX1
import Derived.Laws.Cover3
import Derived.StillTailTactics
import Derived.Test.YtagcabmccpekaaaQX0
set_option linter.unusedVariables false
set_option linter.unusedSimpArgs false
set_option linter.unusedVariables false
set_option linter.unusedSimpArgs false
namespace Go.Proofs.Ytagcabmccpekaaa.M
open Go.RowKit Go.Proofs.YtagcabmccpekaaaW.PrintWords Go.Proofs.YtagcabmccpekaaaW.PrintLast Go.Proofs.YtagcabmccpekaaaW.PrintMore Go.Proofs.Ytagcabmccpekaaa.Leaf

section
variable {ops : Array Oper} {rest : List Oper} {o : Oper} {a : Act} {Q : Exit → Act → World → Prop}
/-- A struct goes into a variable that holds one. -/
theorem store_agg {W : World} (T : TypeId) (cs : Array Value) (hgd : o.guard = none) (hd : o.dst = none) (x y : Operand) (ho : o.op = .store T x y) (hT : (Try.prog.info? T).map (·.size) = some cs.size) (hone : ∀ v ∈ cs.toList, v.oneCell' = true) (z : Array Value) (hz : z.size = cs.size) (t : TypeId) (g : Nat) (hg : W.heap[g]? = some (.cells z t (0, 0))) (hx : a.eval x = .pointer (some ⟨g, 0, none⟩)) (hy : a.eval y = .agg cs)
    (k : ∀ W1, W1.heap[g]? = some (.cells cs t (0, 0)) → Frm (fun k => k = g) W W1 → wpList Try.prog ops Q rest a W1) : wpList Try.prog ops Q (o :: rest) a W := by
  refine wpList_store_mid hgd _ x y ho g 0 cs hx hy (fun j hj => ?_) hT (by have := all_oneCell_toArray hone; simpa using this) ?_
  · rw [Nat.zero_add, cell_of_row _ _ j z t (0, 0) hg, frozen_of_row _ _ j z t hg]
    simp
    omega
  · rw [hd]
    show wpList _ _ _ _ a _
    obtain ⟨c, hc, hs, hl⟩ := setCells_row (g := g) cs.toList 0 W z hg (by rw [Array.length_toList]; omega)
    have e : c = cs := by
      apply Array.toList_inj.1
      rw [hl, Array.length_toList, List.drop_of_length_le (by rw [Array.length_toList]; omega)]
      simp
    rw [e] at hc
    exact k _ hc ⟨(setCells_same g _ _ _).1, (setCells_same g _ _ _).2.1, (setCells_same g _ _ _).2.2.1, Nat.le_of_eq (setCells_same g _ _ _).2.2.2.symm, fun k hk hn => setCells_far _ _ k hn⟩
end
/-- The three numbers, as far as they have been read. -/
def xsC (xs : List Nat) : Array Value := #[.int .u64 ((xs.getD 0 0 : Nat) : Int), .int .u64 ((xs.getD 1 0 : Nat) : Int), .int .u64 ((xs.getD 2 0 : Nat) : Int)]
def okN : List Nat → Prop
  | [] => True
  | [n] => n ≤ 4611686018427387904
  | [n, f] => n ≤ 4611686018427387904 ∧ f ≤ n
  | [n, f, m] => n ≤ 4611686018427387904 ∧ f ≤ n ∧ m ≤ n - f
  | _ => False
/-- In span.Decode: the result's variable is untouched, the numbers stand in theirs. -/
structure Dst (w wr : World) (xs : List Nat) : Prop where
  be : Below w.heap.size w wr
  res : wr.heap[w.heap.size]? = some (.cells #[.int .u64 0, .int .u64 0, .int .u64 0, .slice none 0 0] 45 (0, 0))
  arr : wr.heap[w.heap.size + 1]? = some (.cells (xsC xs) 92 (0, 0))
theorem Dst.below {w wr w1 : World} {xs : List Nat} (h : Dst w wr xs) (hb : Below wr.heap.size wr w1) : Dst w w1 xs := ⟨blt h.be hb, (hb.block _ (blk_lt h.res)).trans h.res, (hb.block _ (blk_lt h.arr)).trans h.arr⟩
theorem Dst.set {w wr : World} {xs : List Nat} (h : Dst w wr xs) (x : Nat) (hl : xs.length < 3) : Dst w (wr.setCell ⟨w.heap.size + 1, xs.length, none⟩ (.int .u64 x)) (xs ++ [x]) := by
  refine ⟨h.be.setCell (by simp) _, (Below.heap_setCell _ ⟨w.heap.size + 1, xs.length, none⟩ _ _ (by simp)).trans h.res, ?_⟩
  have := blk_set h.arr xs.length (.int .u64 x)
  rw [this]
  match xs, hl with
  | [], _ => rfl
  | [_], _ => rfl
  | [_, _], _ => rfl
theorem bytes_hash {w : World} {ad : Addr} {n : Nat} {l : List Int} (h : Kd.C (Kd.int .u8) w (some ad) n l) (hl : 32 ≤ l.length) : HashAt w ad (mkH (l.take 32)) := by
  obtain ⟨h1, h2, h3⟩ := h
  obtain ⟨ad', ea, hc⟩ := h3 (by omega)
  injection ea with ea
  subst ea
  have hcell : ∀ j (hj : j < l.length), w.cell? (ad.add j) = some (.int .u8 l[j]) := by
    intro j hj
    obtain ⟨c, k1, k2, k3⟩ := hc j _ (List.getElem?_eq_getElem hj)
    have k2 : c = [.int .u8 l[j]] := k2
    subst k2
    have := k3 0 (.int .u8 l[j]) rfl
    rwa [show j * (Kd.int IntKind.u8).sz + 0 = j from Nat.mul_one j] at this
  have hs : ad.spot = none := by
    have h0 := hcell 0 (by omega)
    have h5 : ad.add 0 = ad := by simp [Addr.add]
    rw [h5] at h0
    cases hsp : ad.spot with
    | none => rfl
    | some x =>
      exfalso
      simp only [World.cell?, hsp, Option.isSome_some, if_true] at h0
      split at h0 <;> simp at h0
  refine ⟨ad.block, ad.off, by cases ad; simp at hs; subst hs; rfl, fun j v hv => ?_⟩
  have hb : (mkH (l.take 32)).b = l.take 32 := mkH_b (by rw [List.length_take]; omega)
  unfold Hsh.cells at hv
  rw [hb, List.getElem?_map] at hv
  have hj : j < 32 := by
    refine Nat.lt_of_not_le (fun hn => ?_)
    rw [List.getElem?_eq_none (by rw [List.length_take]; omega)] at hv
    simp at hv
  rw [List.getElem?_take_of_lt hj, List.getElem?_eq_getElem (by omega)] at hv
  injection hv with hv
  subst hv
  have := hcell j (by omega)
  rw [show ad.add j = ⟨ad.block, ad.off + j, none⟩ by cases ad; simp at hs; subst hs; exact Go.WideShapes.add_plain _ _ _] at this
  exact this
theorem range_keep {w w1 : World} {b o : Nat} {cs : List Value} (h : w.rangeAt b o cs) (hb : Below w.heap.size w w1) : w1.rangeAt b o cs := fun j v hv => pw_cell_below hb (h j v hv)
/-- In span.Decode's last loop: the proof that is being made, in block g. -/
structure RdSt (w : World) (g : Nat) (n f t : Nat) (wr : World) (ns : List Hsh) (v : Value) : Prop where
  be : Below w.heap.size w wr
  res : wr.heap[w.heap.size]? = some (.cells #[.int .u64 0, .int .u64 0, .int .u64 0, .slice none 0 0] 45 (0, 0))
  box : wr.heap[g]? = some (.cells #[.int .u64 n, .int .u64 f, .int .u64 t, v] 45 (0, 0))
  row : kH.R 73 wr w.heap.size (fun _ => True) v ns
theorem RdSt.keep {w wr wc w1 : World} {g n f t : Nat} {ns : List Hsh} {v : Value} (h : RdSt w g n f t wr ns v) (hb : Below wr.heap.size wr wc) (hf : Frm (fun k => some k = v.ownBlock) wc w1) :
    w1.heap[g]? = some (.cells #[.int .u64 n, .int .u64 f, .int .u64 t, v] 45 (0, 0)) ∧ w1.heap[w.heap.size]? = some (.cells #[.int .u64 0, .int .u64 0, .int .u64 0, .slice none 0 0] 45 (0, 0)) ∧ Below w.heap.size w w1 := by
  have hrow := Kd.R_below h.row hb
  have hbox := (hb.block _ (blk_lt h.box)).trans h.box
  have hres := (hb.block _ (blk_lt h.res)).trans h.res
  have hbe := blt h.be hb
  exact ⟨(hf.block _ (blk_lt hbox) (Kd.R_ne hrow hbox (by decide))).trans hbox, (hf.block _ (blk_lt hres) (Kd.R_ne hrow hres (by decide))).trans hres, hbe.trans (hf.below hbe.size (fun k hk => Kd.R_base hrow k hk.symm))⟩
theorem RdSt.store {w w7 : World} {g n f t : Nat} {ns7 : List Hsh} {v v7 : Value} (hbox : w7.heap[g]? = some (.cells #[.int .u64 n, .int .u64 f, .int .u64 t, v] 45 (0, 0))) (hres : w7.heap[w.heap.size]? = some (.cells #[.int .u64 0, .int .u64 0, .int .u64 0, .slice none 0 0] 45 (0, 0))) (hbe : Below w.heap.size w w7)
    (hrow : kH.R 73 w7 w.heap.size (fun _ => True) v7 ns7) (hg : w.heap.size < g) : RdSt w g n f t (w7.setCell ⟨g, 3, none⟩ v7) ns7 v7 := by
  refine ⟨hbe.setCell (by show w.heap.size ≤ g; omega) _, (Below.heap_setCell w7 ⟨g, 3, none⟩ v7 w.heap.size (by simp; omega)).trans hres, ?_, Kd.R_set hrow hbox (by decide) 3 v7⟩
  have := blk_set hbox 3 v7
  rw [this]
  rfl
def lenOf : Value → Nat
  | .slice _ l _ => l
  | _ => 0
theorem sizeR : (Try.prog.info? 45).map (·.size) = some 4 := by kernel_rfl
def reachC (p : Nat × Nat × Nat × List Hsh) (v : Value) : Array Value := #[.int .u64 p.1, .int .u64 p.2.1, .int .u64 p.2.2.1, v]
/-- What a call of span.Decode leaves. -/
def Decd (bs : List Int) (w : World) (e : Ending) (w' : World) : Prop := ∃ v, e = .returned (.tuple #[.agg (reachC (decN bs).1 v), .int .i64 (decN bs).2]) ∧ kH.R 73 w' w.heap.size (fun _ => True) v (decN bs).1.2.2.2 ∧ Below w.heap.size w w'
set_option maxHeartbeats 2000000 in
set_option maxRecDepth 100000 in
theorem span_decode_head (bs : List Int) (A : Option Addr) (c : Nat) (w : World) (hb : Bytes bs) (hc : bs.length ≤ c) (hC : Kd.C (Kd.int .u8) w A bs.length bs) (h : ∀ r, bs ≠ 83 :: r) :
    Calls Try.prog 29 #[.slice A bs.length c] w (Decd bs w) := by
  cases bs with
  | nil =>
    have hd : decN [] = (noReach, 11) := rfl
    unfold Decd
    rw [hd]
    clear hC h hb
    go_enter Try.func29, Try.ntmps29
    go_wp2_with fail
    (try simp only [Exit.inBlock, Exit.then])
    refine bodyPost_ret (results_ct rfl _ _ w.heap.size 45 (reachC noReach (.slice none 0 0)) (0, 0) _ rfl (heap_new w _) Try.underlying45 rfl (by rw [sizeR]; rfl)) rfl ?_
    exact ⟨_, rfl, Kd.R_nil _ _ _ _ _, bl_new w _⟩
  | cons b r =>
    have hb83 : b ≠ 83 := fun h9 => h r (by rw [h9])
    have hd : decN (b :: r) = (noReach, 14) := by simp only [decN]; rw [if_pos hb83]
    obtain ⟨ad, ea, hx⟩ := Kd.at_int hC 0 (by omega) (by simp)
    subst ea
    have hx : w.cell? ad = some (.int .u8 b) := by have := hx; simpa [Addr.add, rd] using this
    have hx1 : (w.alloc (.cells #[.int .u64 0, .int .u64 0, .int .u64 0, .slice none 0 0] 45)).cell? ad = some (.int .u8 b) := by
      have hlt : ad.block < w.heap.size := by
        refine Decidable.by_contra (fun hn => ?_)
        have hnone : w.heap[ad.block]? = none := Array.getElem?_eq_none (by omega)
        simp [World.cell?, hnone] at hx
      exact (World.cell?_of_block ((bl_new w _).block _ hlt)).trans hx
    have g1 : (b != 83) = true := by rw [bne_iff_ne]; exact hb83
    have hbl : (b :: r).length = r.length + 1 := rfl
    unfold Decd
    rw [hd]
    rw [hbl]
    clear hC h hb hx hc hbl
    go_enter Try.func29, Try.ntmps29
    go_wp2_with fail
    (try simp only [Exit.inBlock, Exit.then])
    refine bodyPost_ret (results_ct rfl _ _ w.heap.size 45 (reachC noReach (.slice none 0 0)) (0, 0) _ rfl (heap_new w _) Try.underlying45 rfl (by rw [sizeR]; rfl)) rfl ?_
    exact ⟨_, rfl, Kd.R_nil _ _ _ _ _, bl_new w _⟩
set_option maxHeartbeats 40000000 in
set_option linter.unusedSimpArgs false in
set_option maxRecDepth 100000 in
theorem span_decode_some (r : List Int) (A : Option Addr) (c : Nat) (w : World) (hb : Bytes (83 :: r)) (hc : r.length + 1 ≤ c) (hc2 : r.length + 1 ≤ 9223372036854775807) (hC : Kd.C (Kd.int .u8) w A (r.length + 1) (83 :: r)) :
    Calls Try.prog 29 #[.slice A (r.length + 1 : Nat) c] w (Decd (83 :: r) w) := by
  obtain ⟨ad, ea, hx⟩ := Kd.at_int hC 0 (by omega) (by omega)
  subst ea
  have hx : w.cell? ad = some (.int .u8 83) := by have := hx; simpa [Addr.add, rd] using this
  have hx1 : (w.alloc (.cells #[.int .u64 0, .int .u64 0, .int .u64 0, .slice none 0 0] 45)).cell? ad = some (.int .u8 83) := by
    have hlt : ad.block < w.heap.size := by
      refine Decidable.by_contra (fun hn => ?_)
      have hnone : w.heap[ad.block]? = none := Array.getElem?_eq_none (by omega)
      simp [World.cell?, hnone] at hx
    exact (World.cell?_of_block ((bl_new w _).block _ hlt)).trans hx
  have HC := Aside0.mk hC
  clear hC hx
  obtain ⟨ad1, hif⟩ : ∃ ad1 : Addr, (if c = 1 then some ad else some ⟨ad.block, ad.off + 1, none⟩) = some ad1 := by split <;> exact ⟨_, rfl⟩
  go_enter Try.func29, Try.ntmps29
  go_wp2_with fail
  have HB := Aside0.mk hb
  have HIf := Aside0.mk hif
  clear hif hx hx1 hb
  go_loopw [0, 5, 27] (fun b q k wr => ∃ (xs : List Nat) (r' : List Int) (ad' : Addr) (c' : Nat), k = .int .i64 (xs.length : Nat) ∧ b = .slice (some ad') r'.length c' ∧ q = .int .u64 (mostN xs : Nat) ∧ r'.length ≤ c' ∧ r'.length ≤ 9223372036854775806 ∧ r'.length ≤ r.length ∧ Aside0 (Kd.C (Kd.int .u8) w (some ad') r'.length r' ∧ decN (83 :: r) = decG (3 - xs.length) xs r' ∧ Bytes r' ∧ okN xs) ∧ Aside0 (Dst w wr xs)) (fun _ _ k _ => 3 - (intOf k).toNat)
  case atStart =>
    refine ⟨[], r, ad1, c - 1, rfl, rfl, rfl, by omega, by omega, Nat.le_refl _, ⟨?_, ?_, fun x hx => HB.out x (List.mem_cons_of_mem _ hx), trivial⟩, ⟨⟨below_alloc (bl_new w _) _, (Below.heap_alloc _ _ _ (by simp)).trans (heap_new w _), heap_new2 _ _ (by simp)⟩⟩⟩
    · have h1 := Kd.C_drop (m := 1) (c := c) HC.out (by simp) (by simpa using hc)
      have h2 : (if c = 1 then some ad else Option.map (fun x => x.add (1 * (Kd.int IntKind.u8).sz)) (some ad)) = some ad1 := by
        rw [← HIf.out]
        simp only [Option.map_some]
        rw [show ad.add (1 * (Kd.int IntKind.u8).sz) = ⟨ad.block, ad.off + 1, none⟩ from rfl]
      rw [h2] at h1
      exact h1
    · show (if (83 : Int) ≠ 83 then (noReach, (14 : Int)) else decG 3 [] r) = _
      rw [if_neg (by simp)]
      rfl
  case round =>
    obtain ⟨xs, r', ad', c', rfl, rfl, rfl, hrc, hcc, hrr, HF, HD⟩ := hrel
    clear HIf
    match xs, HF, HD with
    | [], HF, HD =>
        have hmo : mostN ([] : List Nat) = 4611686018427387904 := rfl
        have hok := HF.out.2.2.2
        rw [hmo]
        obtain ⟨kl, hkl⟩ := (long_val r' HF.out.2.2.1 (by omega)).rounds
        have hcl := num_Long.calls kl (some ad') c' r' (longN r').1 (longN r').2.1 (longN r').2.2 wr (Kd.C_below HF.out.1 HD.out.be) hrc hkl
        by_cases he : (longN r').2.2 = 0
        · obtain ⟨x, rest, x1, x2, x3, x4⟩ := longN_back HF.out.2.2.1 (v := (longN r').1) (k := (longN r').2.1) (by rw [← he])
          rw [x2, x3, he] at hcl
          have HCl := Aside0.mk hcl
          have HX4 := Aside0.mk x4
          have HX1 := Aside0.mk x1
          have hx2 := x2
          clear hcl hkl x2 x3 x4 he
          obtain ⟨kk, hkk⟩ : ∃ kk, kk = (shortI x).length := ⟨_, rfl⟩
          rw [← hkk] at HCl
          have hrl : r'.length = kk + rest.length := by rw [HX4.out, List.length_append, hkk]
          have HKK := Aside0.mk hkk
          clear hkk
          by_cases hgt : 4611686018427387904 < x
          · have HDc := Aside0.mk (show decN (83 :: r) = (noReach, 30) by
              have h := HF.out.2.1
              rw [h]
              show decG (2 + 1) [] r' = _
              rw [decG, HX4.out, longN_short x rest HX1.out, if_neg (by simp), if_pos (by show (x : Int) > ((mostN ([] : List Nat) : Nat) : Int); rw [hmo]; omega)]
              rfl)
            clear hmo x1 hrl hx2 hok
            go_wp2_with fail
            refine HCl.out.mono ?_
            rintro e w3 ⟨rfl, hd3⟩
            have HD3 := Aside0.mk (HD.out.below hd3.below)
            clear hd3 HCl HD
            go_wp2_with ((with_reducible refine gate_store (t := 45) (p := 2) (v := .tmp 49) rfl ?_); go_loud (refine store_agg 45 #[.int .u64 0, .int .u64 0, .int .u64 0, .slice none 0 0] rfl rfl (.tmp 2) (.tmp 49) rfl (by rw [sizeR]; rfl) (by simp [Value.oneCell']) _ rfl _ _ HD3.out.res rfl rfl ?_; intro w4 hz4 hf4; have HZ4 := Aside0.mk hz4; have HF4 := Aside0.mk hf4; clear hz4 hf4))
            (try simp only [Exit.inBlock, Exit.then])
            refine bodyPost_ret (results_ct rfl _ _ w.heap.size 45 (reachC noReach (.slice none 0 0)) (0, 0) _ rfl HZ4.out Try.underlying45 rfl (by rw [sizeR]; rfl)) rfl ?_
            unfold Decd
            rw [HDc.out]
            exact ⟨_, rfl, Kd.R_nil _ _ _ _ _, HD3.out.be.trans (HF4.out.below HD3.out.be.size (fun k hk => by omega))⟩
          · obtain ⟨ad2, hif⟩ : ∃ ad2 : Addr, (if c' = kk then some ad' else some (ad'.add kk)) = some ad2 := by split <;> exact ⟨_, rfl⟩
            have hrest : rest = r'.drop kk := by rw [HX4.out, HKK.out, List.drop_left]
            have hCr : Kd.C (Kd.int .u8) w (some ad2) rest.length rest := by
              have h1 := Kd.C_drop (m := kk) (c := c') HF.out.1 (by omega) hrc
              have h2 : (if c' = kk then some ad' else Option.map (fun x => x.add (kk * (Kd.int IntKind.u8).sz)) (some ad')) = some ad2 := by
                rw [← hif]
                simp only [Option.map_some]
                rw [show kk * (Kd.int IntKind.u8).sz = kk from Nat.mul_one kk]
              rw [h2, ← hrest] at h1
              exact h1
            have hbr : Bytes rest := fun y hy => HF.out.2.2.1 y (by rw [HX4.out]; exact List.mem_append_right _ hy)
            have hdec : decN (83 :: r) = decG (3 - (([] : List Nat) ++ [x]).length) ([] ++ [x]) rest := by rw [show 3 - (([] : List Nat) ++ [x]).length = 2 from rfl]; exact HF.out.2.1.trans (decG_step HX1.out HX4.out (by rw [hmo]; omega))
            have hok2 : okN ([] ++ [x]) := by simp [okN] at hok ⊢; omega
            have HNext := Aside0.mk (And.intro hCr (And.intro hdec (And.intro hbr hok2)))
            have hlr : rest.length ≤ r.length := by omega
            have hrc2 : rest.length ≤ c' - kk := by omega
            have hcc2 : rest.length ≤ 9223372036854775806 := by omega
            have hkr : kk ≤ r'.length := by omega
            have hsub : r'.length - kk = rest.length := by omega
            have hsb : True := trivial
            have HMo := Aside0.mk hmo
            clear hmo x1 hrl hx2 hok hok2 hrest hCr hbr hdec
            go_wp2_with fail
            refine HCl.out.mono ?_
            rintro e w3 ⟨rfl, hd3⟩
            have HD3 := Aside0.mk (HD.out.below hd3.below)
            have HS := Aside0.mk (Dst.set HD3.out x (by simp))
            clear hd3 HCl HD
            have y1 : ∃ y, w3.cell? ⟨w.heap.size + 1, 0, none⟩ = some y := ⟨_, (blk_cell HD3.out.arr 0).trans rfl⟩
            obtain ⟨y, y1⟩ := y1
            have y2 : w3.frozen? ⟨w.heap.size + 1, 0, none⟩ = false := blk_frozen HD3.out.arr 0
            have z0 : (w3.setCell ⟨w.heap.size + 1, 0, none⟩ (.int .u64 x)).cell? ⟨w.heap.size + 1, 0, none⟩ = some (.int .u64 (x : Nat)) := (blk_cell HS.out.arr 0).trans rfl
            have z1 : (w3.setCell ⟨w.heap.size + 1, 0, none⟩ (.int .u64 x)).cell? ⟨w.heap.size + 1, 1, none⟩ = some (.int .u64 (0 : Nat)) := (blk_cell HS.out.arr 1).trans rfl
            go_wp2_with fail
            go_roundw
            case rel =>
              repeat (apply Exists.intro)
              apply And.intro
              case right => repeat (first | exact rfl | refine And.intro rfl ?_)
              first | exact ⟨[] ++ [x], rfl, rest, ad2, c' - kk, rfl, rfl, hrc2, hcc2, hlr, HNext, HS⟩ | exact ⟨[] ++ [x], rest, ad2, c' - kk, rfl, rfl, rfl, hrc2, hcc2, hlr, HNext, HS⟩
            case measure => simp [intOf]
        · have HDc := Aside0.mk (show decN (83 :: r) = (noReach, (longN r').2.2) by
            have h := HF.out.2.1
            rw [h]
            show decG (2 + 1) [] r' = _
            rw [decG, if_pos he])
          have g1 : ((longN r').2.2 != 0) = true := by rw [bne_iff_ne]; exact he
          have HCl := Aside0.mk hcl
          clear hcl hkl he hmo hok
          generalize (longN r').1 = v at *
          generalize (longN r').2.1 = kk at *
          generalize (longN r').2.2 = er at *
          go_wp2_with fail
          refine HCl.out.mono ?_
          rintro e w3 ⟨rfl, hd3⟩
          have HD3 := Aside0.mk (HD.out.below hd3.below)
          clear hd3 HCl HD
          go_wp2_with ((with_reducible refine gate_store (t := 45) (p := 2) (v := .tmp 39) rfl ?_); go_loud (refine store_agg 45 #[.int .u64 0, .int .u64 0, .int .u64 0, .slice none 0 0] rfl rfl (.tmp 2) (.tmp 39) rfl (by rw [sizeR]; rfl) (by simp [Value.oneCell']) _ rfl _ _ HD3.out.res rfl rfl ?_; intro w4 hz4 hf4; have HZ4 := Aside0.mk hz4; have HF4 := Aside0.mk hf4; clear hz4 hf4))
          (try simp only [Exit.inBlock, Exit.then])
          refine bodyPost_ret (results_ct rfl _ _ w.heap.size 45 (reachC noReach (.slice none 0 0)) (0, 0) _ rfl HZ4.out Try.underlying45 rfl (by rw [sizeR]; rfl)) rfl ?_
          unfold Decd
          rw [HDc.out]
          exact ⟨_, rfl, Kd.R_nil _ _ _ _ _, HD3.out.be.trans (HF4.out.below HD3.out.be.size (fun k hk => by omega))⟩
    | [n], HF, HD =>
        have hmo : mostN ([n] : List Nat) = n := rfl
        have hok := HF.out.2.2.2
        rw [hmo]
        obtain ⟨kl, hkl⟩ := (long_val r' HF.out.2.2.1 (by omega)).rounds
        have hcl := num_Long.calls kl (some ad') c' r' (longN r').1 (longN r').2.1 (longN r').2.2 wr (Kd.C_below HF.out.1 HD.out.be) hrc hkl
        by_cases he : (longN r').2.2 = 0
        · obtain ⟨x, rest, x1, x2, x3, x4⟩ := longN_back HF.out.2.2.1 (v := (longN r').1) (k := (longN r').2.1) (by rw [← he])
          rw [x2, x3, he] at hcl
          have HCl := Aside0.mk hcl
          have HX4 := Aside0.mk x4
          have HX1 := Aside0.mk x1
          have hx2 := x2
          clear hcl hkl x2 x3 x4 he
          obtain ⟨kk, hkk⟩ : ∃ kk, kk = (shortI x).length := ⟨_, rfl⟩
          rw [← hkk] at HCl
          have hrl : r'.length = kk + rest.length := by rw [HX4.out, List.length_append, hkk]
          have HKK := Aside0.mk hkk
          clear hkk
          by_cases hgt : n < x
          · have HDc := Aside0.mk (show decN (83 :: r) = (noReach, 32) by
              have h := HF.out.2.1
              rw [h]
              show decG (1 + 1) [n] r' = _
              rw [decG, HX4.out, longN_short x rest HX1.out, if_neg (by simp), if_pos (by show (x : Int) > ((mostN ([n] : List Nat) : Nat) : Int); rw [hmo]; omega)]
              rfl)
            clear hmo x1 hrl hx2 hok
            go_wp2_with fail
            refine HCl.out.mono ?_
            rintro e w3 ⟨rfl, hd3⟩
            have HD3 := Aside0.mk (HD.out.below hd3.below)
            clear hd3 HCl HD
            go_wp2_with ((with_reducible refine gate_store (t := 45) (p := 2) (v := .tmp 54) rfl ?_); go_loud (refine store_agg 45 #[.int .u64 0, .int .u64 0, .int .u64 0, .slice none 0 0] rfl rfl (.tmp 2) (.tmp 54) rfl (by rw [sizeR]; rfl) (by simp [Value.oneCell']) _ rfl _ _ HD3.out.res rfl rfl ?_; intro w4 hz4 hf4; have HZ4 := Aside0.mk hz4; have HF4 := Aside0.mk hf4; clear hz4 hf4))
            (try simp only [Exit.inBlock, Exit.then])
            refine bodyPost_ret (results_ct rfl _ _ w.heap.size 45 (reachC noReach (.slice none 0 0)) (0, 0) _ rfl HZ4.out Try.underlying45 rfl (by rw [sizeR]; rfl)) rfl ?_
            unfold Decd
            rw [HDc.out]
            exact ⟨_, rfl, Kd.R_nil _ _ _ _ _, HD3.out.be.trans (HF4.out.below HD3.out.be.size (fun k hk => by omega))⟩
          · obtain ⟨ad2, hif⟩ : ∃ ad2 : Addr, (if c' = kk then some ad' else some (ad'.add kk)) = some ad2 := by split <;> exact ⟨_, rfl⟩
            have hrest : rest = r'.drop kk := by rw [HX4.out, HKK.out, List.drop_left]
            have hCr : Kd.C (Kd.int .u8) w (some ad2) rest.length rest := by
              have h1 := Kd.C_drop (m := kk) (c := c') HF.out.1 (by omega) hrc
              have h2 : (if c' = kk then some ad' else Option.map (fun x => x.add (kk * (Kd.int IntKind.u8).sz)) (some ad')) = some ad2 := by
                rw [← hif]
                simp only [Option.map_some]
                rw [show kk * (Kd.int IntKind.u8).sz = kk from Nat.mul_one kk]
              rw [h2, ← hrest] at h1
              exact h1
            have hbr : Bytes rest := fun y hy => HF.out.2.2.1 y (by rw [HX4.out]; exact List.mem_append_right _ hy)
            have hdec : decN (83 :: r) = decG (3 - ([n] ++ [x]).length) ([n] ++ [x]) rest := by rw [show 3 - ([n] ++ [x]).length = 1 from rfl]; exact HF.out.2.1.trans (decG_step HX1.out HX4.out (by rw [hmo]; omega))
            have hok2 : okN ([n] ++ [x]) := by simp [okN] at hok ⊢; omega
            have HNext := Aside0.mk (And.intro hCr (And.intro hdec (And.intro hbr hok2)))
            have hlr : rest.length ≤ r.length := by omega
            have hrc2 : rest.length ≤ c' - kk := by omega
            have hcc2 : rest.length ≤ 9223372036854775806 := by omega
            have hkr : kk ≤ r'.length := by omega
            have hsub : r'.length - kk = rest.length := by omega
            have hsb : IntKind.u64.wrap ((n : Int) - (x : Int)) = ((n - x : Nat) : Int) := by rw [w64_of _ (by omega) (by simp [okN] at hok; omega)]; omega
            have HMo := Aside0.mk hmo
            clear hmo x1 hrl hx2 hok hok2 hrest hCr hbr hdec
            go_wp2_with fail
            refine HCl.out.mono ?_
            rintro e w3 ⟨rfl, hd3⟩
            have HD3 := Aside0.mk (HD.out.below hd3.below)
            have HS := Aside0.mk (Dst.set HD3.out x (by simp))
            clear hd3 HCl HD
            have y1 : ∃ y, w3.cell? ⟨w.heap.size + 1, 1, none⟩ = some y := ⟨_, (blk_cell HD3.out.arr 1).trans rfl⟩
            obtain ⟨y, y1⟩ := y1
            have y2 : w3.frozen? ⟨w.heap.size + 1, 1, none⟩ = false := blk_frozen HD3.out.arr 1
            have z0 : (w3.setCell ⟨w.heap.size + 1, 1, none⟩ (.int .u64 x)).cell? ⟨w.heap.size + 1, 0, none⟩ = some (.int .u64 (n : Nat)) := (blk_cell HS.out.arr 0).trans rfl
            have z1 : (w3.setCell ⟨w.heap.size + 1, 1, none⟩ (.int .u64 x)).cell? ⟨w.heap.size + 1, 1, none⟩ = some (.int .u64 (x : Nat)) := (blk_cell HS.out.arr 1).trans rfl
            go_wp2_with fail
            go_roundw
            case rel =>
              repeat (apply Exists.intro)
              apply And.intro
              case right => repeat (first | exact rfl | refine And.intro rfl ?_)
              first | exact ⟨[n] ++ [x], rfl, rest, ad2, c' - kk, rfl, rfl, hrc2, hcc2, hlr, HNext, HS⟩ | exact ⟨[n] ++ [x], rest, ad2, c' - kk, rfl, rfl, rfl, hrc2, hcc2, hlr, HNext, HS⟩
            case measure => simp [intOf]
        · have HDc := Aside0.mk (show decN (83 :: r) = (noReach, (longN r').2.2) by
            have h := HF.out.2.1
            rw [h]
            show decG (1 + 1) [n] r' = _
            rw [decG, if_pos he])
          have g1 : ((longN r').2.2 != 0) = true := by rw [bne_iff_ne]; exact he
          have HCl := Aside0.mk hcl
          clear hcl hkl he hmo hok
          generalize (longN r').1 = v at *
          generalize (longN r').2.1 = kk at *
          generalize (longN r').2.2 = er at *
          go_wp2_with fail
          refine HCl.out.mono ?_
          rintro e w3 ⟨rfl, hd3⟩
          have HD3 := Aside0.mk (HD.out.below hd3.below)
          clear hd3 HCl HD
          go_wp2_with ((with_reducible refine gate_store (t := 45) (p := 2) (v := .tmp 39) rfl ?_); go_loud (refine store_agg 45 #[.int .u64 0, .int .u64 0, .int .u64 0, .slice none 0 0] rfl rfl (.tmp 2) (.tmp 39) rfl (by rw [sizeR]; rfl) (by simp [Value.oneCell']) _ rfl _ _ HD3.out.res rfl rfl ?_; intro w4 hz4 hf4; have HZ4 := Aside0.mk hz4; have HF4 := Aside0.mk hf4; clear hz4 hf4))
          (try simp only [Exit.inBlock, Exit.then])
          refine bodyPost_ret (results_ct rfl _ _ w.heap.size 45 (reachC noReach (.slice none 0 0)) (0, 0) _ rfl HZ4.out Try.underlying45 rfl (by rw [sizeR]; rfl)) rfl ?_
          unfold Decd
          rw [HDc.out]
          exact ⟨_, rfl, Kd.R_nil _ _ _ _ _, HD3.out.be.trans (HF4.out.below HD3.out.be.size (fun k hk => by omega))⟩
    | [n, f], HF, HD =>
        have hmo : mostN ([n, f] : List Nat) = (n - f) := rfl
        have hok := HF.out.2.2.2
        rw [hmo]
        obtain ⟨kl, hkl⟩ := (long_val r' HF.out.2.2.1 (by omega)).rounds
        have hcl := num_Long.calls kl (some ad') c' r' (longN r').1 (longN r').2.1 (longN r').2.2 wr (Kd.C_below HF.out.1 HD.out.be) hrc hkl
        by_cases he : (longN r').2.2 = 0
        · obtain ⟨x, rest, x1, x2, x3, x4⟩ := longN_back HF.out.2.2.1 (v := (longN r').1) (k := (longN r').2.1) (by rw [← he])
          rw [x2, x3, he] at hcl
          have HCl := Aside0.mk hcl
          have HX4 := Aside0.mk x4
          have HX1 := Aside0.mk x1
          have hx2 := x2
          clear hcl hkl x2 x3 x4 he
          obtain ⟨kk, hkk⟩ : ∃ kk, kk = (shortI x).length := ⟨_, rfl⟩
          rw [← hkk] at HCl
          have hrl : r'.length = kk + rest.length := by rw [HX4.out, List.length_append, hkk]
          have HKK := Aside0.mk hkk
          clear hkk
          by_cases hgt : (n - f) < x
          · have HDc := Aside0.mk (show decN (83 :: r) = (noReach, 32) by
              have h := HF.out.2.1
              rw [h]
              show decG (0 + 1) [n, f] r' = _
              rw [decG, HX4.out, longN_short x rest HX1.out, if_neg (by simp), if_pos (by show (x : Int) > ((mostN ([n, f] : List Nat) : Nat) : Int); rw [hmo]; omega)]
              rfl)
            clear hmo x1 hrl hx2 hok
            go_wp2_with fail
            refine HCl.out.mono ?_
            rintro e w3 ⟨rfl, hd3⟩
            have HD3 := Aside0.mk (HD.out.below hd3.below)
            clear hd3 HCl HD
            go_wp2_with ((with_reducible refine gate_store (t := 45) (p := 2) (v := .tmp 54) rfl ?_); go_loud (refine store_agg 45 #[.int .u64 0, .int .u64 0, .int .u64 0, .slice none 0 0] rfl rfl (.tmp 2) (.tmp 54) rfl (by rw [sizeR]; rfl) (by simp [Value.oneCell']) _ rfl _ _ HD3.out.res rfl rfl ?_; intro w4 hz4 hf4; have HZ4 := Aside0.mk hz4; have HF4 := Aside0.mk hf4; clear hz4 hf4))
            (try simp only [Exit.inBlock, Exit.then])
            refine bodyPost_ret (results_ct rfl _ _ w.heap.size 45 (reachC noReach (.slice none 0 0)) (0, 0) _ rfl HZ4.out Try.underlying45 rfl (by rw [sizeR]; rfl)) rfl ?_
            unfold Decd
            rw [HDc.out]
            exact ⟨_, rfl, Kd.R_nil _ _ _ _ _, HD3.out.be.trans (HF4.out.below HD3.out.be.size (fun k hk => by omega))⟩
          · obtain ⟨ad2, hif⟩ : ∃ ad2 : Addr, (if c' = kk then some ad' else some (ad'.add kk)) = some ad2 := by split <;> exact ⟨_, rfl⟩
            have hrest : rest = r'.drop kk := by rw [HX4.out, HKK.out, List.drop_left]
            have hCr : Kd.C (Kd.int .u8) w (some ad2) rest.length rest := by
              have h1 := Kd.C_drop (m := kk) (c := c') HF.out.1 (by omega) hrc
              have h2 : (if c' = kk then some ad' else Option.map (fun x => x.add (kk * (Kd.int IntKind.u8).sz)) (some ad')) = some ad2 := by
                rw [← hif]
                simp only [Option.map_some]
                rw [show kk * (Kd.int IntKind.u8).sz = kk from Nat.mul_one kk]
              rw [h2, ← hrest] at h1
              exact h1
            have hbr : Bytes rest := fun y hy => HF.out.2.2.1 y (by rw [HX4.out]; exact List.mem_append_right _ hy)
            have hdec : decN (83 :: r) = decG (3 - ([n, f] ++ [x]).length) ([n, f] ++ [x]) rest := by rw [show 3 - ([n, f] ++ [x]).length = 0 from rfl]; exact HF.out.2.1.trans (decG_step HX1.out HX4.out (by rw [hmo]; omega))
            have hok2 : okN ([n, f] ++ [x]) := by simp [okN] at hok ⊢; omega
            have HNext := Aside0.mk (And.intro hCr (And.intro hdec (And.intro hbr hok2)))
            have hlr : rest.length ≤ r.length := by omega
            have hrc2 : rest.length ≤ c' - kk := by omega
            have hcc2 : rest.length ≤ 9223372036854775806 := by omega
            have hkr : kk ≤ r'.length := by omega
            have hsub : r'.length - kk = rest.length := by omega
            have hsb : True := trivial
            have HMo := Aside0.mk hmo
            clear hmo x1 hrl hx2 hok hok2 hrest hCr hbr hdec
            go_wp2_with fail
            refine HCl.out.mono ?_
            rintro e w3 ⟨rfl, hd3⟩
            have HD3 := Aside0.mk (HD.out.below hd3.below)
            have HS := Aside0.mk (Dst.set HD3.out x (by simp))
            clear hd3 HCl HD
            have y1 : ∃ y, w3.cell? ⟨w.heap.size + 1, 2, none⟩ = some y := ⟨_, (blk_cell HD3.out.arr 2).trans rfl⟩
            obtain ⟨y, y1⟩ := y1
            have y2 : w3.frozen? ⟨w.heap.size + 1, 2, none⟩ = false := blk_frozen HD3.out.arr 2
            have z0 : (w3.setCell ⟨w.heap.size + 1, 2, none⟩ (.int .u64 x)).cell? ⟨w.heap.size + 1, 0, none⟩ = some (.int .u64 (n : Nat)) := (blk_cell HS.out.arr 0).trans rfl
            have z1 : (w3.setCell ⟨w.heap.size + 1, 2, none⟩ (.int .u64 x)).cell? ⟨w.heap.size + 1, 1, none⟩ = some (.int .u64 (f : Nat)) := (blk_cell HS.out.arr 1).trans rfl
            go_wp2_with fail
            go_roundw
            case rel =>
              repeat (apply Exists.intro)
              apply And.intro
              case right => repeat (first | exact rfl | refine And.intro rfl ?_)
              first | exact ⟨[n, f] ++ [x], rfl, rest, ad2, c' - kk, rfl, rfl, hrc2, hcc2, hlr, HNext, HS⟩ | exact ⟨[n, f] ++ [x], rest, ad2, c' - kk, rfl, rfl, rfl, hrc2, hcc2, hlr, HNext, HS⟩
            case measure => simp [intOf]
        · have HDc := Aside0.mk (show decN (83 :: r) = (noReach, (longN r').2.2) by
            have h := HF.out.2.1
            rw [h]
            show decG (0 + 1) [n, f] r' = _
            rw [decG, if_pos he])
          have g1 : ((longN r').2.2 != 0) = true := by rw [bne_iff_ne]; exact he
          have HCl := Aside0.mk hcl
          clear hcl hkl he hmo hok
          generalize (longN r').1 = v at *
          generalize (longN r').2.1 = kk at *
          generalize (longN r').2.2 = er at *
          go_wp2_with fail
          refine HCl.out.mono ?_
          rintro e w3 ⟨rfl, hd3⟩
          have HD3 := Aside0.mk (HD.out.below hd3.below)
          clear hd3 HCl HD
          go_wp2_with ((with_reducible refine gate_store (t := 45) (p := 2) (v := .tmp 39) rfl ?_); go_loud (refine store_agg 45 #[.int .u64 0, .int .u64 0, .int .u64 0, .slice none 0 0] rfl rfl (.tmp 2) (.tmp 39) rfl (by rw [sizeR]; rfl) (by simp [Value.oneCell']) _ rfl _ _ HD3.out.res rfl rfl ?_; intro w4 hz4 hf4; have HZ4 := Aside0.mk hz4; have HF4 := Aside0.mk hf4; clear hz4 hf4))
          (try simp only [Exit.inBlock, Exit.then])
          refine bodyPost_ret (results_ct rfl _ _ w.heap.size 45 (reachC noReach (.slice none 0 0)) (0, 0) _ rfl HZ4.out Try.underlying45 rfl (by rw [sizeR]; rfl)) rfl ?_
          unfold Decd
          rw [HDc.out]
          exact ⟨_, rfl, Kd.R_nil _ _ _ _ _, HD3.out.be.trans (HF4.out.below HD3.out.be.size (fun k hk => by omega))⟩
    | [n, f, m], HF, HD =>
        have hok : n ≤ 4611686018427387904 ∧ f ≤ n ∧ m ≤ n - f := HF.out.2.2.2
        have hdec : decN (83 :: r) = dec3 n f m r' := HF.out.2.1
        have HGw := Aside0.mk (blk_lt HD.out.arr)
        have z0 : wr.cell? ⟨w.heap.size + 1, 0, none⟩ = some (.int .u64 n) := (blk_cell HD.out.arr 0).trans rfl
        have z1 : wr.cell? ⟨w.heap.size + 1, 1, none⟩ = some (.int .u64 f) := (blk_cell HD.out.arr 1).trans rfl
        have z2 : wr.cell? ⟨w.heap.size + 1, 2, none⟩ = some (.int .u64 m) := (blk_cell HD.out.arr 2).trans rfl
        have e1 : IntKind.u64.wrap ((f : Int) + (m : Int)) = ((f + m : Nat) : Int) := by rw [w64_of _ (by omega) (by omega)]; omega
        obtain ⟨t, ht⟩ : ∃ t, t = f + m := ⟨_, rfl⟩
        rw [← ht] at e1
        have hsp := span_places f t n
        have hans : spanAns f t n = (intsOf (spanPlaces f t n), 0) := by unfold spanAns; rw [if_neg (by omega), if_neg (by omega)]
        rw [hans] at hsp
        have hl : (intsOf (spanPlaces f t n)).length = (spanSpots f t n).length := by simp [intsOf, spanPlaces]
        have hsh := span_short f t n
        have hdec3 : decN (83 :: r) = if r'.length < 32 * (spanSpots f t n).length then (noReach, 11) else if 32 * (spanSpots f t n).length < r'.length then (noReach, 13) else ((n, f, t, takeH (spanSpots f t n).length r'), 0) := by rw [hdec, ht]; rfl
        generalize intsOf (spanPlaces f t n) = L at *
        generalize (spanSpots f t n).length = q at *
        subst hl
        have e2 : wrap64 (32 * (L.length : Int)) = ((32 * L.length : Nat) : Int) := by rw [i64_of _ (by omega) (by omega)]; omega
        have HSp := Aside0.mk hsp
        have HDec := Aside0.mk hdec3
        have HOk := Aside0.mk hok
        clear hsp hdec3 hdec hans hok ht
        go_wp2_with fail
        refine (HSp.out _).mono ?_
        rintro e w3 ⟨v3, rfl, hr3, hb3⟩
        obtain ⟨A3, c3, e3⟩ := Kd.R_slice hr3
        subst e3
        have HX3 := Aside0.mk ((hb3.block _ (by simp)).trans (heap_new wr _))
        have HD4 := Aside0.mk (HD.out.below ((bl_new wr _).trans (hb3.mono (by simp))))
        clear hr3 hb3 HSp HD z0 z1 z2
        by_cases hlt : r'.length < 32 * L.length
        · have HDc := Aside0.mk (show decN (83 :: r) = (noReach, 11) by rw [HDec.out, if_pos hlt])
          go_wp2_with ((with_reducible refine gate_store (t := 45) (p := 2) (v := .tmp 99) rfl ?_); go_loud (refine store_agg 45 #[.int .u64 0, .int .u64 0, .int .u64 0, .slice none 0 0] rfl rfl (.tmp 2) (.tmp 99) rfl (by rw [sizeR]; rfl) (by simp [Value.oneCell']) _ rfl _ _ HD4.out.res rfl rfl ?_; intro w4 hz4 hf4; have HZ4 := Aside0.mk hz4; have HF4 := Aside0.mk hf4; clear hz4 hf4))
          (try simp only [Exit.inBlock, Exit.then])
          refine bodyPost_ret (results_ct rfl _ _ w.heap.size 45 (reachC noReach (.slice none 0 0)) (0, 0) _ rfl HZ4.out Try.underlying45 rfl (by rw [sizeR]; rfl)) rfl ?_
          unfold Decd
          rw [HDc.out]
          exact ⟨_, rfl, Kd.R_nil _ _ _ _ _, HD4.out.be.trans (HF4.out.below HD4.out.be.size (fun k hk => by omega))⟩
        · by_cases hgt : 32 * L.length < r'.length
          · have HDc := Aside0.mk (show decN (83 :: r) = (noReach, 13) by rw [HDec.out, if_neg hlt, if_pos hgt])
            go_wp2_with ((with_reducible refine gate_store (t := 45) (p := 2) (v := .tmp 105) rfl ?_); go_loud (refine store_agg 45 #[.int .u64 0, .int .u64 0, .int .u64 0, .slice none 0 0] rfl rfl (.tmp 2) (.tmp 105) rfl (by rw [sizeR]; rfl) (by simp [Value.oneCell']) _ rfl _ _ HD4.out.res rfl rfl ?_; intro w4 hz4 hf4; have HZ4 := Aside0.mk hz4; have HF4 := Aside0.mk hf4; clear hz4 hf4))
            (try simp only [Exit.inBlock, Exit.then])
            refine bodyPost_ret (results_ct rfl _ _ w.heap.size 45 (reachC noReach (.slice none 0 0)) (0, 0) _ rfl HZ4.out Try.underlying45 rfl (by rw [sizeR]; rfl)) rfl ?_
            unfold Decd
            rw [HDc.out]
            exact ⟨_, rfl, Kd.R_nil _ _ _ _ _, HD4.out.be.trans (HF4.out.below HD4.out.be.size (fun k hk => by omega))⟩
          · have hrl : r'.length = 32 * L.length := by omega
            have HR0 := Aside0.mk (show RdSt w wr.heap.size n f t w3 (takeH 0 r') (.slice none 0 0) from ⟨HD4.out.be, HD4.out.res, HX3.out, Kd.R_nil _ _ _ _ _⟩)
            have hgw := HGw.out
            generalize wr.heap.size = g at *
            have HDr := Aside0.mk (show decN (83 :: r) = ((n, f, t, takeH L.length r'), 0) by rw [HDec.out, if_neg hlt, if_neg hgt])
            have hL : L.length ≤ 187 := hsh
            clear HX3 HD4 HDec hlt hgt e2
            go_wp2_with fail
            go_loopw [0] (fun b wr => ∃ (k len5 : Nat) (ad5 : Addr) (c5 : Nat), b = .slice (some ad5) len5 c5 ∧ len5 ≤ c5 ∧ len5 ≤ 9223372036854775806 ∧ Aside0 (len5 + 32 * k = 32 * L.length) ∧ Aside0 (Kd.C (Kd.int .u8) w (some ad5) len5 (r'.drop (32 * k))) ∧ Aside0 (∃ v, RdSt w g n f t wr (takeH k r') v)) (fun b _ => lenOf b)
            case atStart => exact ⟨0, _, ad', c', rfl, by omega, by omega, ⟨by omega⟩, ⟨by rw [Nat.mul_zero, List.drop_zero, ← hrl]; exact HF.out.1⟩, ⟨_, HR0.out⟩⟩
            case round =>
              obtain ⟨k, len5, ad5, c5, rfl, hl5, hc5, HK, HC5, HS⟩ := hrel
              clear HR0
              obtain ⟨v, hst⟩ := HS.out
              have x3 : wr.cell? ⟨g, 3, none⟩ = some v := (blk_cell hst.box 3).trans rfl
              by_cases h0 : 0 < len5
              · have hk32 : 32 ≤ len5 := by have := HK.out; omega
                have hcl := Kd.C_len HC5.out
                obtain ⟨b5, o5, e5, hrg⟩ := bytes_hash HC5.out (by omega)
                subst e5
                have hsn := takeH_snoc k r'
                obtain ⟨ad6, hif6⟩ : ∃ ad6 : Addr, (if c5 = 32 then some (⟨b5, o5, none⟩ : Addr) else some ⟨b5, o5 + 32, none⟩) = some ad6 := by split <;> exact ⟨_, rfl⟩
                have HGg := Aside0.mk (show w.heap.size < g by omega)
                have HC6 := Aside0.mk (show Kd.C (Kd.int .u8) w (some ad6) (len5 - 32) (r'.drop (32 * (k + 1))) by
                  have h1 := HC5.out
                  rw [← hcl] at h1
                  have h2 := Kd.C_drop (m := 32) (c := c5) h1 (by omega) (by omega)
                  rw [List.drop_drop, show 32 * k + 32 = 32 * (k + 1) by omega] at h2
                  have h3 : (r'.drop (32 * (k + 1))).length = len5 - 32 := by rw [List.length_drop]; have := HK.out; rw [hrl]; omega
                  rw [h3] at h2
                  have h4 : (if c5 = 32 then (some (⟨b5, o5, none⟩ : Addr)) else Option.map (fun (x : Addr) => x.add (32 * (Kd.int IntKind.u8).sz)) (some (⟨b5, o5, none⟩ : Addr))) = some ad6 := by
                    rw [← hif6]
                    simp only [Option.map_some]
                    rw [Go.WideShapes.add_plain]
                    rfl
                  rw [h4] at h2
                  exact h2)
                generalize hhd : mkH ((r'.drop (32 * k)).take 32) = h at *
                have HHg := Aside0.mk (show HashAt wr.drew ⟨b5, o5, none⟩ h from ⟨b5, o5, rfl, fun j v hv => range_keep hrg hst.be j v hv⟩)
                have hu0 := hst.be.size
                have hat : ∀ w, (Instr.arrayAt 73 (.slice (some ⟨b5, o5, none⟩) len5 c5)).run Try.prog w = .ok (.pointer (some ⟨b5, o5, none⟩)) w := fun w => run_arrayAt w _ _ 32 _ _ _ Try.underlying73 hk32
                have hns : (takeH k r').length ≤ 187 := by rw [takeH_len]; have := HK.out; omega
                have hw0 := hst.be.size
                have HSt := Aside0.mk hst
                have HSn := Aside0.mk hsn
                have HRG := Aside0.mk hrg
                have x3 : wr.drew.cell? ⟨g, 3, none⟩ = some v := x3
                have x4 : ∀ o : Obj, (wr.alloc o).cell? ⟨g, 3, none⟩ = some v := fun o => (pw_cell_below (below_alloc (Below.refl _ _) o) x3)
                have hbl : ∀ W : World, (Instr.buildSlice 43 1 #[(0, .agg h.cells.toArray)]).run Try.prog W = .ok (.slice (some ⟨W.heap.size, 0, none⟩) 1 1) (W.alloc (.cells h.cells.toArray 73)) := run_build_hash h
                have hu := Try.underlying73
                have hi : (Try.prog.info? 73).map (·.size) = some h.cells.length := by rw [h.cells_len]; exact sizeH
                clear hcl hsn hhd hst hrg
                go_wp2_with fail
                have hrd : wr.drew.rangeAt b5 o5 h.cells := range_keep HRG.out (below_drew HSt.out.be)
                refine wp_region_normal (fun KQ hKQ => ?_)
                refine wp_region_any (by kernel_rfl) ?_
                change wpAny _ _ _ _ _ _ _ wr.drew
                refine wpAny_take (i := 0) (v := .pointer (some ⟨g, 3, none⟩)) rfl (by kernel_rfl) (by kernel_rfl) (by kernel_rfl) (fun _ _ _ h => absurd h.1 (by simp)) (Or.inl ⟨by rfl, fun W => by go_simp⟩) ?_
                refine wpAny_take (i := 2) (v := .slice (some ⟨b5, o5, none⟩) len5 c5) rfl (by kernel_rfl) (by kernel_rfl) (by kernel_rfl) (fun _ _ _ h => absurd h.1 (by simp)) (Or.inl ⟨by rfl, fun W => by go_simp⟩) ?_
                refine wpAny_take (i := 3) (v := .pointer (some ⟨b5, o5, none⟩)) rfl (by kernel_rfl) (by kernel_rfl) (by kernel_rfl) (fun _ _ _ h => absurd h.1 (by simp)) (Or.inl ⟨by rfl, fun W => by go_simp⟩) ?_
                simp only [Act.put, List.setIfInBounds_toArray, List.set_cons_zero, List.set_cons_succ]
                refine wpAny_ready (rs := [1, 4]) (by kernel_rfl) (by simp) ?_
                refine AllReady.cons rfl (fun K hK => ?_) (AllReady.cons rfl (fun K hK => ?_) AllReady.nil)
                · go_simp
                  refine hK _ _ ?_
                  clear hK K
                  refine wpAny_seqL [4, 5, 6, 7, 8] _ _ _ (by kernel_rfl) ?_
                  simp only [List.map_cons, List.map_nil, List.getElem?_toArray, List.getElem?_cons_succ, List.getElem?_cons_zero, Option.getD_some]
                  refine wpList_load_mid rfl 73 (.tmp 114) rfl b5 o5 rfl h.cells _ hrd hu rfl hi ?_
                  refine build_hash rfl (.tmp 115) rfl h rfl ?_
                  refine app_one kH w.heap.size rfl (.tmp 112) (.tmp 116) 43 73 _ 32 rfl Try.underlying43 infoH rfl (by decide) (by decide) v (takeH k r') h h.cells rfl rfl rfl (Kd.R_below HSt.out.row (by repeat (with_reducible first | exact Below.refl _ _ | refine below_alloc ?_ _ | refine below_drew ?_))) (Nat.le_trans hw0 (Below.size (B := wr.heap.size) (w := wr) (by repeat (with_reducible first | exact Below.refl _ _ | refine below_alloc ?_ _ | refine below_drew ?_)))) (by omega) ?_
                  intro A7 c7 w7 hr7 hf7 ha7
                  have HR7 := Aside0.mk hr7
                  have HX7 := Aside0.mk (RdSt.keep HSt.out (by repeat (with_reducible first | exact Below.refl _ _ | refine below_alloc ?_ _ | refine below_drew ?_)) hf7)
                  have x7 : w7.cell? ⟨g, 3, none⟩ = some v := (blk_cell HX7.out.1 3).trans rfl
                  have f7 : w7.frozen? ⟨g, 3, none⟩ = false := blk_frozen HX7.out.1 3
                  clear hr7 hf7 ha7
                  have HN := Aside0.mk (RdSt.store HX7.out.1 HX7.out.2.1 HX7.out.2.2 HR7.out HGg.out)
                  rw [← HSn.out] at HN
                  go_wp2_with fail
                  go_roundw
                  case rel => exact ⟨k + 1, len5 - 32, ad6, c5 - 32, rfl, by omega, by omega, ⟨by have := HK.out; omega⟩, HC6, ⟨_, HN.out⟩⟩
                  case measure => simp [lenOf]; omega
                · refine step_of_list rfl ?_
                  refine wpList_load_mid rfl 73 (.tmp 114) rfl b5 o5 rfl h.cells _ hrd hu rfl hi ?_
                  refine wpList_one ?_
                  refine hK _ _ ?_
                  clear hK K
                  simp only [Act.put, List.setIfInBounds_toArray, List.set_cons_zero, List.set_cons_succ]
                  refine wpAny_ready (rs := [1, 5]) (by kernel_rfl) (by simp) ?_
                  refine AllReady.cons rfl (fun K hK => ?_) (AllReady.cons rfl (fun K hK => ?_) AllReady.nil)
                  · go_simp
                    refine hK _ _ ?_
                    clear hK K
                    refine wpAny_seqL [5, 6, 7, 8] _ _ _ (by kernel_rfl) ?_
                    simp only [List.map_cons, List.map_nil, List.getElem?_toArray, List.getElem?_cons_succ, List.getElem?_cons_zero, Option.getD_some]
                    refine build_hash rfl (.tmp 115) rfl h rfl ?_
                    refine app_one kH w.heap.size rfl (.tmp 112) (.tmp 116) 43 73 _ 32 rfl Try.underlying43 infoH rfl (by decide) (by decide) v (takeH k r') h h.cells rfl rfl rfl (Kd.R_below HSt.out.row (by repeat (with_reducible first | exact Below.refl _ _ | refine below_alloc ?_ _ | refine below_drew ?_))) (Nat.le_trans hw0 (Below.size (B := wr.heap.size) (w := wr) (by repeat (with_reducible first | exact Below.refl _ _ | refine below_alloc ?_ _ | refine below_drew ?_)))) (by omega) ?_
                    intro A7 c7 w7 hr7 hf7 ha7
                    have HR7 := Aside0.mk hr7
                    have HX7 := Aside0.mk (RdSt.keep HSt.out (by repeat (with_reducible first | exact Below.refl _ _ | refine below_alloc ?_ _ | refine below_drew ?_)) hf7)
                    have x7 : w7.cell? ⟨g, 3, none⟩ = some v := (blk_cell HX7.out.1 3).trans rfl
                    have f7 : w7.frozen? ⟨g, 3, none⟩ = false := blk_frozen HX7.out.1 3
                    clear hr7 hf7 ha7
                    have HN := Aside0.mk (RdSt.store HX7.out.1 HX7.out.2.1 HX7.out.2.2 HR7.out HGg.out)
                    rw [← HSn.out] at HN
                    go_wp2_with fail
                    go_roundw
                    case rel => exact ⟨k + 1, len5 - 32, ad6, c5 - 32, rfl, by omega, by omega, ⟨by have := HK.out; omega⟩, HC6, ⟨_, HN.out⟩⟩
                    case measure => simp [lenOf]; omega
                  · refine step_of_list rfl ?_
                    refine build_hash rfl (.tmp 115) rfl h rfl ?_
                    refine wpList_one ?_
                    refine hK _ _ ?_
                    clear hK K
                    simp only [Act.put, List.setIfInBounds_toArray, List.set_cons_zero, List.set_cons_succ]
                    refine wpAny_ready (rs := [1]) (by kernel_rfl) (by simp) ?_
                    refine AllReady.cons rfl (fun K hK => ?_) AllReady.nil
                    go_simp
                    refine hK _ _ ?_
                    clear hK K
                    refine wpAny_seqL [6, 7, 8] _ _ _ (by kernel_rfl) ?_
                    simp only [List.map_cons, List.map_nil, List.getElem?_toArray, List.getElem?_cons_succ, List.getElem?_cons_zero, Option.getD_some]
                    change wpList _ _ _ _ _ (wr.drew.alloc (.cells h.cells.toArray 73))
                    refine app_one kH w.heap.size rfl (.tmp 112) (.tmp 116) 43 73 _ 32 rfl Try.underlying43 infoH rfl (by decide) (by decide) v (takeH k r') h h.cells rfl rfl rfl (Kd.R_below HSt.out.row (by repeat (with_reducible first | exact Below.refl _ _ | refine below_alloc ?_ _ | refine below_drew ?_))) (Nat.le_trans hw0 (Below.size (B := wr.heap.size) (w := wr) (by repeat (with_reducible first | exact Below.refl _ _ | refine below_alloc ?_ _ | refine below_drew ?_)))) (by omega) ?_
                    intro A7 c7 w7 hr7 hf7 ha7
                    have HR7 := Aside0.mk hr7
                    have HX7 := Aside0.mk (RdSt.keep HSt.out (by repeat (with_reducible first | exact Below.refl _ _ | refine below_alloc ?_ _ | refine below_drew ?_)) hf7)
                    have x7 : w7.cell? ⟨g, 3, none⟩ = some v := (blk_cell HX7.out.1 3).trans rfl
                    have f7 : w7.frozen? ⟨g, 3, none⟩ = false := blk_frozen HX7.out.1 3
                    clear hr7 hf7 ha7
                    have HN := Aside0.mk (RdSt.store HX7.out.1 HX7.out.2.1 HX7.out.2.2 HR7.out HGg.out)
                    rw [← HSn.out] at HN
                    go_wp2_with fail
                    go_roundw
                    case rel => exact ⟨k + 1, len5 - 32, ad6, c5 - 32, rfl, by omega, by omega, ⟨by have := HK.out; omega⟩, HC6, ⟨_, HN.out⟩⟩
                    case measure => simp [lenOf]; omega
              · have hl0 : len5 = 0 := by omega
                have hkl : k = L.length := by have := HK.out; omega
                subst hl0
                subst hkl
                have x0 : wr.cell? ⟨g, 0, none⟩ = some (.int .u64 n) := (blk_cell hst.box 0).trans rfl
                have x1 : wr.cell? ⟨g, 1, none⟩ = some (.int .u64 f) := (blk_cell hst.box 1).trans rfl
                have x2 : wr.cell? ⟨g, 2, none⟩ = some (.int .u64 t) := (blk_cell hst.box 2).trans rfl
                have HSt := Aside0.mk hst
                clear hst
                go_wp2_with ((with_reducible refine gate_store (t := 45) (p := 2) (v := .tmp 119) rfl ?_); go_loud (refine store_agg 45 #[.int .u64 n, .int .u64 f, .int .u64 t, v] rfl rfl (.tmp 2) (.tmp 119) rfl (by rw [sizeR]; rfl) (by obtain ⟨A9, c9, e9⟩ := Kd.R_slice HSt.out.row; rw [e9]; simp [Value.oneCell']) #[.int .u64 0, .int .u64 0, .int .u64 0, .slice none 0 0] rfl _ _ HSt.out.res rfl rfl ?_; intro w4 hz4 hf4; have HZ4 := Aside0.mk hz4; have HF4 := Aside0.mk hf4; clear hz4 hf4))
                (try simp only [Exit.inBlock, Exit.then])
                refine bodyPost_ret (results_ct rfl _ _ w.heap.size 45 #[.int .u64 n, .int .u64 f, .int .u64 t, v] (0, 0) _ rfl HZ4.out Try.underlying45 rfl (by rw [sizeR]; rfl)) rfl ?_
                unfold Decd
                rw [HDr.out]
                refine ⟨v, rfl, R_frm flat_kH HSt.out.row HF4.out (fun k hk he => ?_), HSt.out.be.trans (HF4.out.below HSt.out.be.size (fun k hk => by omega))⟩
                exact Kd.R_ne HSt.out.row HSt.out.res (by decide) (by rw [hk, he])
    | _ :: _ :: _ :: _ :: _, HF, _ => exact absurd HF.out.2.2.2 (by simp [okN])
end Go.Proofs.Ytagcabmccpekaaa.M

set_option linter.unusedVariables false
set_option linter.unusedSimpArgs false
namespace Go.Proofs.Ytagcabmccpekaaa.M
open Go.RowKit Go.Proofs.YtagcabmccpekaaaW.PrintWords Go.Proofs.YtagcabmccpekaaaW.PrintLast Go.Proofs.YtagcabmccpekaaaW.PrintMore Go.Proofs.Ytagcabmccpekaaa.Leaf

theorem nodes_snoc (ns : List Hsh) (j : Nat) (h : j < ns.length) : nodesI (ns.take (j + 1)) = nodesI (ns.take j) ++ ns[j].b := by
  rw [List.take_add_one, List.getElem?_eq_getElem h]
  show nodesI (ns.take j ++ [ns[j]]) = _
  unfold nodesI
  rw [List.flatMap_append]
  simp only [List.flatMap_cons, List.flatMap_nil, List.append_nil]
theorem nodes_size : ∀ l : List Hsh, (nodesI l).length = 32 * l.length
  | [] => rfl
  | x :: l => by
    rw [show nodesI (x :: l) = x.b ++ nodesI l from rfl, List.length_append, nodes_size l, x.len, List.length_cons]
    omega
theorem hash_byte {w : World} {ad : Addr} {h : Hsh} (hh : HashAt w ad h) (j : Nat) (hj : j < 32) : w.cell? (ad.add j) = some (.int .u8 (h.b.getD j 0)) := by
  obtain ⟨b, o, rfl, hr⟩ := hh
  have hl := h.len
  rw [show (⟨b, o, none⟩ : Addr).add j = ⟨b, o + j, none⟩ from Go.WideShapes.add_plain _ _ _]
  refine hr j _ ?_
  unfold Hsh.cells
  rw [List.getElem?_map, List.getElem?_eq_getElem (by omega), List.getD_eq_getElem?_getD, List.getElem?_eq_getElem (by omega)]
  rfl
set_option maxHeartbeats 4000000 in
set_option maxRecDepth 100000 in
theorem put_calls (ns : List Hsh) (A : Option Addr) (c : Nat) (w W : World) (v : Value) (bs : List Int) (hb : Below w.heap.size w W) (hR : Kd.R (Kd.int .u8) 5 W w.heap.size (fun _ => True) v bs) (hA : kH.C w A ns.length ns) (hns : ns.length ≤ 100000) (hbs : bs.length ≤ 1000000) :
    Calls Try.prog 55 #[v, .slice A ns.length c] W fun e w' => ∃ v', e = .returned v' ∧ Kd.R (Kd.int .u8) 5 w' w.heap.size (fun _ => True) v' (bs ++ nodesI ns) ∧ Below w.heap.size w w' := by
  obtain ⟨A0, c0, e0⟩ := Kd.R_slice hR
  subst e0
  have HA := Aside0.mk hA
  have HR0 := Aside0.mk hR
  have HB0 := Aside0.mk hb
  clear hA hR hb
  go_enter Try.func55, Try.ntmps55
  go_wp2_with fail
  go_loopw [0, 5] (fun s k wr => ∃ (i l : Nat) (A1 : Option Addr) (c1 : Nat), i ≤ ns.length ∧ s = .slice A1 l c1 ∧ k = .int .i64 i ∧ Aside0 (Kd.R (Kd.int .u8) 5 wr w.heap.size (fun _ => True) (.slice A1 l c1) (bs ++ nodesI (ns.take i))) ∧ Aside0 (Below w.heap.size w wr)) (fun _ k _ => ns.length - (intOf k).toNat)
  case atStart => exact ⟨0, _, A0, c0, Nat.zero_le _, rfl, rfl, ⟨by rw [List.take_zero]; simp only [nodesI, List.flatMap_nil, List.append_nil]; exact HR0.out⟩, HB0⟩
  case round =>
    obtain ⟨i, l, A1, c1, hi, rfl, rfl, HR, HW⟩ := hrel
    clear HR0 HB0
    by_cases hlt : i < ns.length
    · have HSn := Aside0.mk (nodes_snoc ns i hlt)
      have HLen := Aside0.mk (nodes_size (ns.take i))
      obtain ⟨hv, hhv⟩ : ∃ h, h = ns[i] := ⟨_, rfl⟩
      rw [← hhv] at HSn
      go_wp2_with fail
      go_loopw [0, 6] (fun s k wr => ∃ (j l : Nat) (A1 : Option Addr) (c1 : Nat), j ≤ 32 ∧ s = .slice A1 l c1 ∧ k = .int .i64 j ∧ Aside0 (Kd.R (Kd.int .u8) 5 wr w.heap.size (fun _ => True) (.slice A1 l c1) (bs ++ nodesI (ns.take i) ++ hv.b.take j)) ∧ Aside0 (Below w.heap.size w wr)) (fun _ k _ => 32 - (intOf k).toNat)
      case atStart => exact ⟨0, _, A1, c1, Nat.zero_le _, rfl, rfl, ⟨by rw [List.take_zero, List.append_nil]; exact HR.out⟩, HW⟩
      case round =>
        obtain ⟨j, l2, A2, c2, hj, rfl, rfl, HR2, HW2⟩ := hrel
        by_cases hjt : j < 32
        · obtain ⟨ad, ea, hh⟩ := C_hash (Kd.C_below HA.out HW2.out) i hlt
          subst ea
          rw [← hhv] at hh
          have hx := hash_byte hh j hjt
          obtain ⟨x, hxv⟩ : ∃ x, x = hv.b.getD j 0 := ⟨_, rfl⟩
          rw [← hxv] at hx
          obtain ⟨P, hP⟩ : ∃ P, P = bs ++ nodesI (ns.take i) ++ hv.b.take j := ⟨_, rfl⟩
          have hl32 := hv.len
          have hPl : P.length ≤ 5000000 := by rw [hP]; simp only [List.length_append, List.length_take]; have := HLen.out; rw [List.length_take] at this; omega
          have HP := Aside0.mk hP
          rw [← hP] at HR2
          have hnext : bs ++ nodesI (ns.take i) ++ hv.b.take (j + 1) = P ++ [x] := by
            rw [hP, hxv, List.take_add_one, List.getElem?_eq_getElem (by omega), List.append_assoc (bs ++ nodesI (ns.take i)), List.getD_eq_getElem?_getD, List.getElem?_eq_getElem (by omega)]
            rfl
          have HNx := Aside0.mk hnext
          have hbase := HW2.out.size
          clear hh hxv hP hnext hl32
          go_wp2_with ((with_reducible refine gate_builtin (b := .append) (xs := #[.tmp 17, .tmp 24]) rfl ?_); at_builtin; go_loud (refine app_one (Kd.int .u8) w.heap.size rfl (.tmp 17) (.tmp 24) 46 5 (.int .u8 0) 1 rfl Try.underlying46 info5 rfl (by decide) (by omega) _ P x [.int .u8 x] rfl rfl rfl HR2.out hbase (by omega) ?_; intro A9 c9 w9 hr9 hf9 ha9; have HR9 := Aside0.mk hr9; have HF9 := Aside0.mk hf9; clear hr9 hf9 ha9))
          go_roundw
          case rel => exact ⟨j + 1, _, A9, c9, by omega, rfl, by go_num, ⟨by rw [HNx.out]; exact HR9.out⟩, ⟨HW2.out.trans (HF9.out.below hbase (fun k hk => Kd.R_base HR2.out k hk.symm))⟩⟩
          case measure => simp [intOf]; omega
        · have hj32 : j = 32 := by omega
          subst hj32
          have hend : bs ++ nodesI (ns.take i) ++ hv.b.take 32 = bs ++ nodesI (ns.take (i + 1)) := by
            rw [show hv.b.take 32 = hv.b from List.take_of_length_le (by rw [hv.len]; exact Nat.le_refl _), HSn.out, List.append_assoc]
          rw [hend] at HR2
          clear hend
          go_wp2_with fail
          go_roundw
          case rel => exact ⟨i + 1, l2, A2, c2, by omega, rfl, by go_num, HR2, HW2⟩
          case measure => simp [intOf]; omega
    · have hin : i = ns.length := by omega
      subst hin
      go_wp2_with fail
      go_ret
      exact ⟨_, rfl, by have := HR.out; rwa [List.take_length] at this, HW.out⟩
end Go.Proofs.Ytagcabmccpekaaa.M

set_option linter.unusedVariables false
set_option linter.unusedSimpArgs false
namespace Go.Proofs.Ytagcabmccpekaaa.M
open Go.RowKit Go.Proofs.YtagcabmccpekaaaW.PrintWords Go.Proofs.YtagcabmccpekaaaW.PrintLast Go.Proofs.YtagcabmccpekaaaW.PrintMore

section
variable {P : Program} {ops : Array Oper} {rest : List Oper} {o : Oper} {a : Act} {Q : Exit → Act → World → Prop} {α : Type}
theorem app_oneN (d : Kd α) {W : World} (base : Nat) (hgd : o.guard = none) (s x : Operand) (t e : TypeId) (z : Value) (bytes : Nat)
    (ho : o.op = .call { callee := .builtin .append, args := #[s, x], argTypes := #[t, t] })
    (ht : P.underlying t = some (.slice e)) (hinfo : (P.info? e).map (fun i => (i.zero, i.size, i.bytes)) = some (some z, d.sz, bytes)) (hz : z.cells.size = d.sz) (hs0 : 0 < d.sz) (hb0 : 0 < bytes)
    (v : Value) (xs : List α) (p : α) (cs : List Value) (hs : a.eval s = v) (hx : a.eval x = .slice (some ⟨W.heap.size, 0, none⟩) 1 1) (hp : d.M W base (fun _ => False) p cs)
    (HO : d.R e W base (fun _ => True) v xs) (hbase : base ≤ W.heap.size) (hl : (xs.length + 1) * bytes ≤ 140737488355328)
    (h : ∀ A1 n1 c1 w1, d.R e w1 base (fun _ => True) (.slice A1 n1 c1) (xs ++ [p]) → Frm (fun k => some k = v.ownBlock) W w1 →
      ((Value.slice A1 n1 c1).ownBlock = v.ownBlock ∨ ∃ b, (Value.slice A1 n1 c1).ownBlock = some b ∧ W.heap.size ≤ b) → wpList P ops Q rest (a.put o.dst (.slice A1 n1 c1)) w1) :
    wpList P ops Q (o :: rest) a (W.alloc (.cells cs.toArray e)) :=
  app_one d base hgd s x t e z bytes ho ht hinfo hz hs0 hb0 v xs p cs hs hx hp HO hbase hl (fun A1 c1 w1 h1 h2 h3 => h A1 _ c1 w1 h1 h2 h3)
theorem app_rowN (k : IntKind) {W : World} (base : Nat) (hgd : o.guard = none) (s x : Operand) (t e : TypeId) (z : Value) (bytes : Nat)
    (ho : o.op = .call { callee := .builtin .append, args := #[s, x], argTypes := #[t, t] })
    (ht : P.underlying t = some (.slice e)) (hinfo : (P.info? e).map (fun i => (i.zero, i.size, i.bytes)) = some (some z, 1, bytes)) (hz : z.cells.size = 1) (hb0 : 0 < bytes)
    (v : Value) (xs ys : List Int) (A : Option Addr) (m c : Nat) (hs : a.eval s = v) (hx : a.eval x = .slice A m c)
    (HO : (Kd.int k).R e W base (fun _ => True) v xs) (HR : (Kd.int k).C W A m ys) (hbase : base ≤ W.heap.size) (hl : (xs.length + m) * bytes ≤ 140737488355328)
    (h : ∀ A1 n1 c1 w1, (Kd.int k).R e w1 base (fun _ => True) (.slice A1 n1 c1) (xs ++ ys) → Frm (fun k => some k = v.ownBlock) W w1 →
      ((Value.slice A1 n1 c1).ownBlock = v.ownBlock ∨ ∃ b, (Value.slice A1 n1 c1).ownBlock = some b ∧ W.heap.size ≤ b) → wpList P ops Q rest (a.put o.dst (.slice A1 n1 c1)) w1) :
    wpList P ops Q (o :: rest) a W :=
  app_row k base hgd s x t e z bytes ho ht hinfo hz hb0 v xs ys A m c hs hx HO HR hbase hl (fun A1 c1 w1 h1 h2 h3 => h A1 _ c1 w1 h1 h2 h3)
end
end Go.Proofs.Ytagcabmccpekaaa.M

set_option linter.unusedVariables false
set_option linter.unusedSimpArgs false
namespace Go.Proofs.Ytagcabmccpekaaa.M
open Go.RowKit Go.Proofs.YtagcabmccpekaaaW.PrintWords Go.Proofs.YtagcabmccpekaaaW.PrintLast Go.Proofs.YtagcabmccpekaaaW.PrintMore Go.Proofs.Ytagcabmccpekaaa.Leaf

theorem Rd.row {k : IntKind} {w : World} {A : Option Addr} {m c : Nat} {xs : List Int} (h : Rd k w (.slice A m c) xs) : Kd.C (Kd.int k) w A m xs := by
  obtain ⟨A', c', ev, _, hC⟩ := h
  injection ev with e1 e2 e3
  subst e1 e2
  exact hC
theorem short1_calls (x : Nat) (hx : x < 18446744073709551616) (w : World) :
    Calls Try.prog 54 #[.int .u64 x] w fun e w' => ∃ v, e = .returned v ∧ Kd.R (Kd.int .u8) 5 w' w.heap.size (fun _ => True) v (shortI x) ∧ Below w.heap.size w w' := by
  obtain ⟨k, hk⟩ := (short1_val x hx).rounds
  exact massifref1_Short.calls k x _ w hk
theorem R_oneK (k : IntKind) (W : World) (x : Int) (e : Nat) {base b : Nat} (hb : b = W.heap.size) (hbase : base ≤ W.heap.size) : (Kd.int k).R e (W.alloc (.cells #[.int k x] e)) base (fun _ => True) (.slice (some ⟨b, 0, none⟩) 1 1) [x] := by
  subst hb
  have h2 := World.ownsRow_lit (base := base) (e := e) (size := 1) W #[.int k x] 1 hbase (by simp [maxLen]) (by simp)
  exact ⟨fun _ _ => trivial, [.int k x], h2, Reps.snoc (Reps.none _ _) rfl rfl⟩
/-- One's own list has grown: a box of another kind is as it was. -/
theorem grown_box {w W w1 : World} {e : Nat} {v : Value} {xs : List Int} {cs : Array Value} {t : Nat} (hr : (Kd.int .u8).R e W w.heap.size (fun _ => True) v xs) (hx : W.heap[w.heap.size]? = some (.cells cs t (0, 0))) (ht : e ≠ t) (hb : Below w.heap.size w W) (hf : Frm (fun k => some k = v.ownBlock) W w1) :
    w1.heap[w.heap.size]? = some (.cells cs t (0, 0)) ∧ Below w.heap.size w w1 :=
  ⟨(hf.block _ (blk_lt hx) (Kd.R_ne hr hx ht)).trans hx, hb.trans (hf.below hb.size (fun k hk => Kd.R_base hr k hk.symm))⟩
set_option maxHeartbeats 4000000 in
set_option maxRecDepth 100000 in
theorem ref20_encode (f t n c : Nat) (ns : List Hsh) (A : Option Addr) (w : World) (hf : f < 18446744073709551616) (ht : t < 18446744073709551616) (hn : n < 18446744073709551616) (hle : ns.length ≤ 100000) (hA : kH.C w A ns.length ns) :
    Calls Try.prog 23 #[.agg #[.int .u64 n, .int .u64 f, .int .u64 t, .slice A ns.length c]] w fun e w' => ∃ v, e = .returned (.tuple #[v, .int .i64 (encAns f t n ns).2]) ∧ Kd.R (Kd.int .u8) 5 w' w.heap.size (fun _ => True) v (encAns f t n ns).1 ∧ Below w.heap.size w w' := by
  have HA := Aside0.mk hA
  have hc0 : chkN f t n ns.length = if (spanAns f t n).2 = 0 ∧ (spanAns f t n).1.length ≠ ns.length then 70 else (spanAns f t n).2 := rfl
  have hen : encAns f t n ns = if chkN f t n ns.length = 0 then (spanBytes f t n ns, 0) else ([], chkN f t n ns.length) := rfl
  have hp := ref20_calls f t n
  have hzf : chkN f t n ns.length = 0 → f ≤ t := fun h => by
    unfold chkN at h
    by_cases c1 : t < f ∨ n < t ∨ 4611686018427387904 < n
    · unfold spanAns at h
      by_cases c2 : 4611686018427387904 < n
      · rw [if_pos c2] at h
        simp at h
      · have hcc : t < f ∨ n < t := by omega
        simp only [if_neg c2, if_pos hcc] at h
        simp at h
    · omega
  have HEn := Aside0.mk hen
  have HCk := Aside0.mk hc0
  have HZf := Aside0.mk hzf
  generalize hsa : spanAns f t n = sa at *
  obtain ⟨L, er⟩ := sa
  have HP := Aside0.mk hp
  clear hA hp hc0 hen hzf hsa
  go_enter Try.func23, Try.ntmps23
  go_wp2_with fail
  refine (HP.out _).mono ?_
  rintro e w1 ⟨v1, rfl, hr1, hb1⟩
  obtain ⟨A1, c1, e1⟩ := Kd.R_slice hr1
  subst e1
  have hx := (hb1.block _ (by simp)).trans (heap_new w _)
  have x0 : w1.cell? ⟨w.heap.size, 0, none⟩ = some (.int .u64 n) := (blk_cell hx 0).trans rfl
  have x1 : w1.cell? ⟨w.heap.size, 1, none⟩ = some (.int .u64 f) := (blk_cell hx 1).trans rfl
  have x2 : w1.cell? ⟨w.heap.size, 2, none⟩ = some (.int .u64 t) := (blk_cell hx 2).trans rfl
  have x3 : w1.cell? ⟨w.heap.size, 3, none⟩ = some (.slice A ns.length c) := (blk_cell hx 3).trans rfl
  have HX1 := Aside0.mk hx
  have HB1 := Aside0.mk (blt (bl_new w _) hb1)
  clear hr1 hb1 hx
  by_cases h0 : er = 0
  · subst h0
    by_cases hlen : L.length = ns.length
    · have hck : chkN f t n ns.length = 0 := by rw [HCk.out, if_neg (fun h => h.2 hlen)]
      have hft := HZf.out hck
      have hans : encAns f t n ns = (spanBytes f t n ns, 0) := by rw [HEn.out, if_pos hck]
      have HAns := Aside0.mk hans
      have e1 : IntKind.u64.wrap ((t : Int) - (f : Int)) = ((t - f : Nat) : Int) := by rw [w64_of _ (by omega) (by omega)]; omega
      obtain ⟨m, hm⟩ : ∃ m, m = t - f := ⟨_, rfl⟩
      rw [← hm] at e1
      have hm64 : m < 18446744073709551616 := by omega
      have HM := Aside0.mk hm
      have hlen2 : (L.length : Int) = (ns.length : Int) := by omega
      clear hck hans hm HEn HCk HZf
      have xa : ∀ o : Obj, (w1.alloc o).cell? ⟨w.heap.size, 0, none⟩ = some (.int .u64 n) := fun o => pw_cell_below (bl_new w1 o) x0
      go_wp2_with fail
      refine (short1_calls n hn _).mono ?_
      rintro e w2 ⟨v2, rfl, hr2, hb2⟩
      obtain ⟨A2, m2, c2, e2⟩ : ∃ A m c, v2 = .slice A m c := by obtain ⟨A, c, h⟩ := Kd.R_slice hr2; exact ⟨A, _, c, h⟩
      subst e2
      have hs1 := HB1.out.size
      have hm2 : m2 ≤ 10 := by rw [(Kd.R_reads' hr2).1]; exact shortI_len n
      have HR1 := Aside0.mk (Kd.R_below (R_oneK .u8 w1 83 5 (base := w.heap.size) rfl hs1) hb2)
      have HD2 := Aside0.mk (Rd.of_R hr2).row
      have HX2 := Aside0.mk ((hb2.block _ (Nat.lt_of_lt_of_le (blk_lt HX1.out) (by simp))).trans ((Below.heap_alloc _ _ _ (blk_lt HX1.out)).trans HX1.out))
      have HB2 := Aside0.mk (blt HB1.out ((bl_new w1 _).trans (hb2.mono (by simp))))
      have hs2 := HB2.out.size
      obtain ⟨P1, hP1⟩ : ∃ P, P = [(83 : Int)] := ⟨_, rfl⟩
      have hl1 : P1.length ≤ 1 := by rw [hP1]; exact Nat.le_refl _
      rw [← hP1] at HR1
      have HP1 := Aside0.mk hP1
      obtain ⟨S1, hS1⟩ : ∃ S, S = shortI n := ⟨_, rfl⟩
      have hls1 : S1.length ≤ 10 := by rw [hS1]; exact shortI_len n
      rw [← hS1] at HD2
      have HS1 := Aside0.mk hS1
      clear hr2 hb2 xa x0 x1 x2 x3 hP1 hS1
      go_wp2_with ((with_reducible refine gate_builtin (b := .append) (xs := #[.tmp 26, .tmp 29]) rfl ?_); at_builtin; go_loud (refine app_rowN .u8 w.heap.size rfl (.tmp 26) (.tmp 29) 46 5 (.int .u8 0) 1 rfl Try.underlying46 info5 rfl (by omega) (.slice (some ⟨w1.heap.size, 0, none⟩) 1 1) P1 S1 A2 m2 c2 rfl rfl HR1.out HD2.out hs2 (by omega) ?_; intro A3 n3 c3 w3 hr3 hf3 ha3; have HG3 := Aside0.mk (grown_box HR1.out HX2.out (by decide) HB2.out hf3); have y1 : w3.cell? ⟨w.heap.size, 1, none⟩ = some (.int .u64 f) := (blk_cell HG3.out.1 1).trans rfl; have y2 : w3.cell? ⟨w.heap.size, 2, none⟩ = some (.int .u64 t) := (blk_cell HG3.out.1 2).trans rfl; have HR3 := Aside0.mk hr3; have HF3 := Aside0.mk hf3; have HA3 := Aside0.mk ha3; clear hr3 hf3 ha3))
      refine (short1_calls f hf _).mono ?_
      rintro e w4 ⟨v4, rfl, hr4, hb4⟩
      obtain ⟨A4, m4, c4, e4⟩ : ∃ A m c, v4 = .slice A m c := by obtain ⟨A, c, h⟩ := Kd.R_slice hr4; exact ⟨A, _, c, h⟩
      subst e4
      have hm4 : m4 ≤ 10 := by rw [(Kd.R_reads' hr4).1]; exact shortI_len f
      obtain ⟨P2, hP2⟩ : ∃ P, P = P1 ++ S1 := ⟨_, rfl⟩
      have hl2 : P2.length ≤ 11 := by rw [hP2, List.length_append]; omega
      have hR4 := Kd.R_below HR3.out hb4
      rw [← hP2] at hR4
      have HR4 := Aside0.mk hR4
      have HP2 := Aside0.mk hP2
      have HD4 := Aside0.mk (Rd.of_R hr4).row
      have HX4 := Aside0.mk ((hb4.block _ (blk_lt HG3.out.1)).trans HG3.out.1)
      have HB4 := Aside0.mk (blt HG3.out.2 hb4)
      have hs4 := HB4.out.size
      obtain ⟨S2, hS2⟩ : ∃ S, S = shortI f := ⟨_, rfl⟩
      have hls2 : S2.length ≤ 10 := by rw [hS2]; exact shortI_len f
      rw [← hS2] at HD4
      have HS2 := Aside0.mk hS2
      clear hr4 hb4 y1 y2 hP2 hS2 hR4 HR3
      go_wp2_with ((with_reducible refine gate_builtin (b := .append) (xs := #[.tmp 31, .tmp 34]) rfl ?_); at_builtin; go_loud (refine app_rowN .u8 w.heap.size rfl (.tmp 31) (.tmp 34) 46 5 (.int .u8 0) 1 rfl Try.underlying46 info5 rfl (by omega) (.slice A3 n3 c3) P2 S2 A4 m4 c4 rfl rfl HR4.out HD4.out hs4 (by omega) ?_; intro A5 n5 c5 w5 hr5 hf5 ha5; have HG5 := Aside0.mk (grown_box HR4.out HX4.out (by decide) HB4.out hf5); have y1 : w5.cell? ⟨w.heap.size, 1, none⟩ = some (.int .u64 f) := (blk_cell HG5.out.1 1).trans rfl; have y2 : w5.cell? ⟨w.heap.size, 2, none⟩ = some (.int .u64 t) := (blk_cell HG5.out.1 2).trans rfl; have HR5 := Aside0.mk hr5; have HF5 := Aside0.mk hf5; have HA5 := Aside0.mk ha5; clear hr5 hf5 ha5))
      refine (short1_calls m hm64 _).mono ?_
      rintro e w6 ⟨v6, rfl, hr6, hb6⟩
      obtain ⟨A6, m6, c6, e6⟩ : ∃ A m c, v6 = .slice A m c := by obtain ⟨A, c, h⟩ := Kd.R_slice hr6; exact ⟨A, _, c, h⟩
      subst e6
      have hm6 : m6 ≤ 10 := by rw [(Kd.R_reads' hr6).1]; exact shortI_len m
      obtain ⟨P3, hP3⟩ : ∃ P, P = P2 ++ S2 := ⟨_, rfl⟩
      have hl3 : P3.length ≤ 21 := by rw [hP3, List.length_append]; omega
      have hR6 := Kd.R_below HR5.out hb6
      rw [← hP3] at hR6
      have HR6 := Aside0.mk hR6
      have HP3 := Aside0.mk hP3
      have HD6 := Aside0.mk (Rd.of_R hr6).row
      have HX6 := Aside0.mk ((hb6.block _ (blk_lt HG5.out.1)).trans HG5.out.1)
      have HB6 := Aside0.mk (blt HG5.out.2 hb6)
      have hs6 := HB6.out.size
      obtain ⟨S3, hS3⟩ : ∃ S, S = shortI m := ⟨_, rfl⟩
      have hls3 : S3.length ≤ 10 := by rw [hS3]; exact shortI_len m
      rw [← hS3] at HD6
      have HS3 := Aside0.mk hS3
      clear hr6 hb6 y1 y2 hP3 hS3 hR6 HR5
      go_wp2_with ((with_reducible refine gate_builtin (b := .append) (xs := #[.tmp 36, .tmp 42]) rfl ?_); at_builtin; go_loud (refine app_rowN .u8 w.heap.size rfl (.tmp 36) (.tmp 42) 46 5 (.int .u8 0) 1 rfl Try.underlying46 info5 rfl (by omega) (.slice A5 n5 c5) P3 S3 A6 m6 c6 rfl rfl HR6.out HD6.out hs6 (by omega) ?_; intro A7 n7 c7 w7 hr7 hf7 ha7; have HG7 := Aside0.mk (grown_box HR6.out HX6.out (by decide) HB6.out hf7); have y3 : w7.cell? ⟨w.heap.size, 3, none⟩ = some (.slice A ns.length c) := (blk_cell HG7.out.1 3).trans rfl; have HR7 := Aside0.mk hr7; have HF7 := Aside0.mk hf7; have HA7 := Aside0.mk ha7; clear hr7 hf7 ha7))
      refine (put_calls ns A c w w7 _ (P3 ++ S3) HG7.out.2 HR7.out HA.out hle (by rw [List.length_append]; omega)).mono ?_
      rintro e w8 ⟨v8, rfl, hr8, hb8⟩
      obtain ⟨A8, m8, c8, e8⟩ : ∃ A m c, v8 = .slice A m c := by obtain ⟨A, c, h⟩ := Kd.R_slice hr8; exact ⟨A, _, c, h⟩
      subst e8
      have HR8 := Aside0.mk hr8
      have HB8 := Aside0.mk hb8
      clear hr8 hb8 y3
      go_wp2_with fail
      go_ret2
      rw [HAns.out]
      refine ⟨_, rfl, ?_, HB8.out⟩
      have h9 := HR8.out
      rw [HP3.out, HP2.out, HP1.out, HS1.out, HS2.out, HS3.out, HM.out] at h9
      exact h9
    · have hck : chkN f t n ns.length = 70 := by rw [HCk.out, if_pos ⟨rfl, hlen⟩]
      have hans : encAns f t n ns = ([], 70) := by rw [HEn.out, hck, if_neg (by simp)]
      have HAns := Aside0.mk hans
      clear hck hans HEn HCk HZf
      go_wp2_with fail
      go_ret2
      rw [HAns.out]
      exact ⟨_, rfl, Kd.R_nil _ _ _ _ _, HB1.out⟩
  · have hd : (er != 0) = true := by rw [bne_iff_ne]; exact h0
    have hck : chkN f t n ns.length = er := by rw [HCk.out, if_neg (fun h => h0 h.1)]
    have hans : encAns f t n ns = ([], er) := by rw [HEn.out, hck, if_neg h0]
    have HAns := Aside0.mk hans
    clear hck hans HEn HCk HZf h0
    go_wp2_with fail
    go_ret2
    rw [HAns.out]
    exact ⟨_, rfl, Kd.R_nil _ _ _ _ _, HB1.out⟩
end Go.Proofs.Ytagcabmccpekaaa.M

set_option linter.unusedVariables false
set_option linter.unusedSimpArgs false
namespace Go.Proofs.Ytagcabmccpekaaa.M
open Go.RowKit Go.Proofs.YtagcabmccpekaaaW.PrintWords Go.Proofs.YtagcabmccpekaaaW.PrintLast Go.Proofs.YtagcabmccpekaaaW.PrintMore Go.Proofs.Ytagcabmccpekaaa.Leaf

/-- Bytes of a number, the lowest first. -/
def valB : List Int → Nat
  | [] => 0
  | b :: r => b.toNat % 128 + 128 * valB r
theorem valB_snoc : ∀ (l : List Int) (b : Int), valB (l ++ [b]) = valB l + b.toNat % 128 * 2 ^ (7 * l.length)
  | [], b => by simp [valB]
  | c :: r, b => by
    have ih := valB_snoc r b
    rw [List.cons_append, valB, ih, valB, List.length_cons, show 7 * (r.length + 1) = 7 * r.length + 7 by omega, Nat.pow_add, Nat.mul_add, show b.toNat % 128 * (2 ^ (7 * r.length) * 2 ^ 7) = 128 * (b.toNat % 128 * 2 ^ (7 * r.length)) by rw [← Nat.mul_assoc, Nat.mul_comm _ (2 ^ 7)]]
    omega
theorem valB_lt : ∀ l : List Int, valB l < 2 ^ (7 * l.length)
  | [] => by simp [valB]
  | b :: r => by
    have ih := valB_lt r
    rw [valB, List.length_cons, show 7 * (r.length + 1) = 7 * r.length + 7 by omega, Nat.pow_add]
    omega
theorem valB_take (bs : List Int) (i : Nat) (hi : i < bs.length) : valB (bs.take (i + 1)) = valB (bs.take i) + (bs[i]).toNat % 128 * 2 ^ (7 * i) := by
  rw [List.take_add_one, List.getElem?_eq_getElem hi]
  show valB (bs.take i ++ [bs[i]]) = _
  rw [valB_snoc, List.length_take, Nat.min_eq_left (by omega)]
theorem long1_down (bs : List Int) (hb : Bytes bs) (i : Nat) (hi : i ≤ 10) : ∀ (m x : Nat), m ≤ bs.length → x * 2 ^ (7 * m) + valB (bs.take m) < 18446744073709551616 → m ≤ 10 →
    Ev (fun k => massifref1_Long.l1 k bs (i : Int) (x : Int) ((m : Int) - 1)) (((x * 2 ^ (7 * m) + valB (bs.take m) : Nat) : Int), ((i + 1 : Nat) : Int), 0)
  | 0, x, _, hx, _ => by
    have e1 : wrap64 ((i : Int) + 1) = ((i + 1 : Nat) : Int) := by rw [i64_of _ (by omega) (by omega)]; omega
    refine Ev.step (f := fun _ => some (((x * 2 ^ (7 * 0) + valB (bs.take 0) : Nat) : Int), ((i + 1 : Nat) : Int), 0)) (fun k => ?_) (Ev.now _)
    simp only [massifref1_Long.l1]
    rw [if_neg (by omega), e1]
    simp [valB]
  | m + 1, x, hm, hx, h10 => by
    have hml : m < bs.length := by omega
    have hv := valB_take bs m hml
    have hbm := hb _ (List.getElem_mem hml)
    obtain ⟨b, hbb⟩ : ∃ b : Nat, bs[m] = (b : Int) := ⟨(bs[m]).toNat, by omega⟩
    have hp : 2 ^ (7 * (m + 1)) = 128 * 2 ^ (7 * m) := by rw [show 7 * (m + 1) = 7 * m + 7 by omega, Nat.pow_add]; omega
    have hp0 : 0 < 2 ^ (7 * m) := Nat.pow_pos (by omega)
    have hex : (128 * x + b % 128) * 2 ^ (7 * m) + valB (bs.take m) = x * 2 ^ (7 * (m + 1)) + valB (bs.take (m + 1)) := by
      rw [hv, hbb, Int.toNat_natCast, hp, Nat.add_mul, ← Nat.mul_assoc, Nat.mul_comm x 128]
      omega
    have hle : 128 * x ≤ x * 2 ^ (7 * (m + 1)) := by
      rw [hp, ← Nat.mul_assoc, Nat.mul_comm x 128]
      exact Nat.le_mul_of_pos_right _ hp0
    have ih := long1_down bs hb i hi m (128 * x + b % 128) (by omega) (by rw [hex]; exact hx) (by omega)
    rw [hex] at ih
    have hx64 : 128 * x + 127 < 18446744073709551616 := by omega
    generalize x * 2 ^ (7 * (m + 1)) + valB (bs.take (m + 1)) = T at *
    clear hex hle hp hv hp0
    have r1 : rd bs (m : Int) = (b : Int) := by simp [rd, List.getD_eq_getElem?_getD, List.getElem?_eq_getElem hml, hbb]
    have e2 : Int.tmod (b : Int) 128 = ((b % 128 : Nat) : Int) := by
      rw [Int.tmod_eq_emod_of_nonneg (by omega)]
      omega
    have e3 : IntKind.u64.wrap ((IntKind.u64.wrap (128 * (x : Int))) + IntKind.u64.wrap ((b % 128 : Nat) : Int)) = ((128 * x + b % 128 : Nat) : Int) := by
      have h1 : IntKind.u64.wrap (128 * (x : Int)) = 128 * (x : Int) := w64_of _ (by omega) (by omega)
      have h2 : IntKind.u64.wrap ((b % 128 : Nat) : Int) = ((b % 128 : Nat) : Int) := w64_of _ (by omega) (by omega)
      rw [h1, h2, w64_of _ (by omega) (by omega)]
      omega
    have e4 : wrap64 ((m : Int) - 1) = (m : Int) - 1 := i64_of _ (by omega) (by omega)
    refine Ev.step (fun k => ?_) ih
    simp only [massifref1_Long.l1]
    rw [show ((m + 1 : Nat) : Int) - 1 = (m : Int) by omega, if_pos (by omega), if_pos (by omega), if_pos (by omega), r1, e2, e3, e4]
theorem long1_loop (bs : List Int) (hb : Bytes bs) (hl : bs.length < 9223372036854775807) : ∀ (d i : Nat), i + d = 10 → i ≤ bs.length → Ev (fun k => massifref1_Long.l0 k bs (i : Int)) (longF d i (valB (bs.take i)) (bs.drop i))
  | 0, i, hi, hil => by
    have h10 : i = 10 := by omega
    have j : Ev (fun k => massifref1_Long.j1 k bs (i : Int)) (0, 0, 10) := Ev.step (f := fun _ => some (0, 0, 10)) (fun k => by simp only [massifref1_Long.j1]; rw [if_pos (by omega)]) (Ev.now _)
    rw [show longF 0 i (valB (bs.take i)) (bs.drop i) = (0, 0, 10) from rfl]
    by_cases c : i < bs.length
    · exact Ev.step (fun k => by simp only [massifref1_Long.l0]; rw [if_pos (by omega), if_neg (by omega)]) j
    · exact Ev.step (fun k => by simp only [massifref1_Long.l0]; rw [if_neg (by omega)]) j
  | d + 1, i, hi, hil => by
    by_cases c : i < bs.length
    · have ih := long1_loop bs hb hl d (i + 1) (by omega) (by omega)
      have hbi := hb _ (List.getElem_mem c)
      have r1 : rd bs (i : Int) = bs[i] := by simp [rd, List.getD_eq_getElem?_getD, List.getElem?_eq_getElem c]
      have e1 : wrap64 ((i : Int) + 1) = ((i + 1 : Nat) : Int) := by rw [i64_of _ (by omega) (by omega)]; omega
      have hv := valB_take bs i c
      rw [List.drop_eq_getElem_cons c]
      by_cases c8 : bs[i] ≥ 128
      · have e : longF (d + 1) i (valB (bs.take i)) (bs[i] :: bs.drop (i + 1)) = longF d (i + 1) (valB (bs.take (i + 1))) (bs.drop (i + 1)) := by
          rw [longF]
          by_cases c9 : i = 9
          · have hd : d = 0 := by omega
            subst hd
            rw [if_pos ⟨c9, by omega⟩]
            rfl
          · rw [if_neg (by omega), if_neg (by omega), hv]
        rw [e]
        exact Ev.step (fun k => by simp only [massifref1_Long.l0]; rw [if_pos (by omega), if_pos (by omega), if_pos (by omega), r1, if_pos c8, e1]) ih
      · have hto : ∀ r, Ev (fun k => massifref1_Long.j1 k bs (i : Int)) r → Ev (fun k => massifref1_Long.l0 k bs (i : Int)) r := fun r hr =>
          Ev.step (fun k => by simp only [massifref1_Long.l0]; rw [if_pos (by omega), if_pos (by omega), if_pos (by omega), r1, if_neg c8]) hr
        refine hto _ ?_
        have hdown : ¬ (i = 9 ∧ bs[i] > 1) → Ev (fun k => massifref1_Long.l1 k bs (i : Int) 0 (i : Int)) (((valB (bs.take (i + 1)) : Nat) : Int), ((i + 1 : Nat) : Int), 0) := by
          intro h9
          have hlt := valB_lt (bs.take i)
          rw [List.length_take, Nat.min_eq_left (by omega)] at hlt
          have hm : valB (bs.take (i + 1)) < 18446744073709551616 := by
            by_cases c9 : i = 9
            · have : (bs[i]).toNat % 128 ≤ 1 := by omega
              have h2 : (bs[i]).toNat % 128 * 2 ^ (7 * i) ≤ 1 * 2 ^ (7 * i) := Nat.mul_le_mul_right _ this
              rw [hv]
              subst c9
              omega
            · have h3 := valB_lt (bs.take (i + 1))
              rw [List.length_take, Nat.min_eq_left (by omega)] at h3
              have h4 : 2 ^ (7 * (i + 1)) ≤ 2 ^ 63 := Nat.pow_le_pow_right (by omega) (by omega)
              omega
          have := long1_down bs hb i (by omega) (i + 1) 0 (by omega) (by rw [Nat.zero_mul, Nat.zero_add]; exact hm) (by omega)
          rw [Nat.zero_mul, Nat.zero_add, show ((i + 1 : Nat) : Int) - 1 = (i : Int) by omega] at this
          exact this
        have tail : ∀ bb : Bool, (bb = true ↔ i = 9 ∧ bs[i] > 1) → Ev (fun k => massifref1_Long.j2 k bs (i : Int) bb) (longF (d + 1) i (valB (bs.take i)) (bs[i] :: bs.drop (i + 1))) := by
          intro bb hbb
          rw [longF]
          cases bb with
          | true =>
            rw [if_pos (hbb.1 rfl)]
            exact Ev.step (f := fun _ => some (0, 0, 10)) (fun k => by simp only [massifref1_Long.j2]; rw [if_pos trivial]) (Ev.now _)
          | false =>
            have h9 : ¬ (i = 9 ∧ bs[i] > 1) := fun h => absurd (hbb.2 h) (by simp)
            rw [if_neg h9, if_pos (by omega)]
            have hd := hdown h9
            by_cases c0 : 0 < i
            · by_cases cz : bs[i] = 0
              · rw [if_pos ⟨c0, cz⟩]
                refine Ev.step (f := fun k => massifref1_Long.j3 k bs (i : Int) true) (fun k => by simp only [massifref1_Long.j2]; rw [if_neg (by simp), if_pos (by omega), if_pos (by omega), if_pos (by omega), r1, cz]; rfl) ?_
                exact Ev.step (f := fun _ => some (0, 0, 12)) (fun k => by simp only [massifref1_Long.j3]; rw [if_pos trivial]) (Ev.now _)
              · rw [if_neg (fun h => cz h.2), ← hv]
                refine Ev.step (f := fun k => massifref1_Long.j3 k bs (i : Int) false) (fun k => by simp only [massifref1_Long.j2]; rw [if_neg (by simp), if_pos (by omega), if_pos (by omega), if_pos (by omega), r1, show (bs[i] == 0) = false from beq_eq_false_iff_ne.2 cz]) ?_
                exact Ev.step (fun k => by simp only [massifref1_Long.j3]; rw [if_neg (by simp)]) hd
            · rw [if_neg (fun h => c0 h.1), ← hv]
              refine Ev.step (f := fun k => massifref1_Long.j3 k bs (i : Int) false) (fun k => by simp only [massifref1_Long.j2]; rw [if_neg (by simp), if_neg (by omega)]) ?_
              exact Ev.step (fun k => by simp only [massifref1_Long.j3]; rw [if_neg (by simp)]) hd
        by_cases c9 : i = 9
        · have t := tail (decide (bs[i] > 1)) (by simp [c9])
          have r9 : rd bs 9 = bs[i] := by rw [show (9 : Int) = (i : Int) by omega]; exact r1
          exact Ev.step (fun k => by simp only [massifref1_Long.j1]; rw [if_neg (by omega), if_neg (by omega), if_pos (by omega), if_pos (by omega), r9]) t
        · have t := tail false (by simp [c9])
          exact Ev.step (fun k => by simp only [massifref1_Long.j1]; rw [if_neg (by omega), if_neg (by omega), if_neg (by omega)]) t
    · rw [List.drop_of_length_le (by omega), longF]
      have j : Ev (fun k => massifref1_Long.j1 k bs (i : Int)) (0, 0, 11) := Ev.step (f := fun _ => some (0, 0, 11)) (fun k => by simp only [massifref1_Long.j1]; rw [if_neg (by omega), if_pos (by omega)]) (Ev.now _)
      exact Ev.step (fun k => by simp only [massifref1_Long.l0]; rw [if_neg (by omega)]) j
theorem long1_val (bs : List Int) (hb : Bytes bs) (hl : bs.length < 9223372036854775807) : Ev (fun k => massifref1_Long.f k bs) (longN bs) := by
  have := long1_loop bs hb hl 10 0 rfl (Nat.zero_le _)
  rw [List.drop_zero] at this
  exact this
theorem long1_calls (bs : List Int) (A : Option Addr) (c : Nat) (w : World) (hb : Bytes bs) (hl : bs.length < 9223372036854775807) (hc : bs.length ≤ c) (hC : Kd.C (Kd.int .u8) w A bs.length bs) :
    Calls Try.prog 60 #[.slice A bs.length c] w fun e w' => e = .returned (.tuple #[.int .u64 (longN bs).1, .int .i64 (longN bs).2.1, .int .i64 (longN bs).2.2]) ∧ Drawn0 w w' := by
  obtain ⟨k, hk⟩ := (long1_val bs hb hl).rounds
  exact massifref1_Long.calls k _ _ _ _ _ _ w hC hc hk
end Go.Proofs.Ytagcabmccpekaaa.M
