/- What the bytes of a span's proof read as: plain facts, there and back. A parameter that is a proof of a span (three numbers and a slice of hashes): what it reads as, and that it reads the same where the call has at most laid new blocks. Plain laws of what many leaves need: they and the leaves are all leaves; of one, of none, of all; with no program in sight. massiflaw20.awake. massiflaw20.SpanPlaces returns true. slices.Delete of one number of a row of the call's own. proof.Places. proof.write and proof.Encode. massiflaw7.awake. What massiflaw7.ProofSets asks of a proof's places, as plain facts; the law's walk. What massiflaw20.SpanSets asks of a span's places, as plain facts. Two hashes, compared. massiflaw20.row and .text, massifref7.SameHashes and massifref20.Same of what is the same. massifref7.Take: so many hashes, and nothing behind them. A region that draws its order, of which the orders are walked one by one, each as a list. massiflaw10.awake. What massiflaw10.ManyOne asks, as plain facts; the law's walk. massiflaw10.numbers; pos.Parent of a node that has a parent. What massiflaw10.ManySets asks, as plain facts; the law's walk. massiflaw10.stays and massiflaw10.apart (of places). -/
import Derived.Test.YtagcabmccpekaaaQX0
import Derived.Test.YtagcabmccpekaaaQX1
import Derived.OpenShut
import Derived.ChangeArms
import Derived.WideKeyArgs
import Derived.DataReads
import Derived.Shelf.RegionOpenPlain
import Derived.Deep.RegionLaw
import Derived.Lib.SliceRun
import Derived.ChangeKeysEq
import Derived.Laws.StructEq
import Derived.Great.BuildSlice
import Derived.Deep.MidRow
import Derived.BigQuiet
import Derived.StillTailTactics
import Derived.RegionTactic
import Derived.Deep.RegionHeld3
import Derived.ChangeSlices
set_option linter.unusedVariables false
set_option linter.unusedSimpArgs false
set_option linter.unusedVariables false
set_option linter.unusedSimpArgs false
namespace Go.Proofs.Ytagcabmccpekaaa.M
open Go.RowKit Go.Proofs.YtagcabmccpekaaaW.PrintWords Go.Proofs.YtagcabmccpekaaaW.PrintLast Go.Proofs.YtagcabmccpekaaaW.PrintMore Go.Proofs.Ytagcabmccpekaaa.Leaf

/-- Bytes as hashes. -/
def mkH (l : List Int) : Hsh := if h : l.length = 32 then ⟨l, h⟩ else hash1 0
theorem mkH_b {l : List Int} (h : l.length = 32) : (mkH l).b = l := by unfold mkH; rw [dif_pos h]
def takeH : Nat → List Int → List Hsh
  | 0, _ => []
  | k + 1, bs => mkH (bs.take 32) :: takeH k (bs.drop 32)
theorem takeH_len : ∀ k bs, (takeH k bs).length = k
  | 0, _ => rfl
  | k + 1, bs => by simp [takeH, takeH_len k]
theorem takeH_snoc : ∀ (k : Nat) (bs : List Int), takeH (k + 1) bs = takeH k bs ++ [mkH ((bs.drop (32 * k)).take 32)]
  | 0, bs => by simp [takeH]
  | k + 1, bs => by
    have ih := takeH_snoc k (bs.drop 32)
    rw [show takeH (k + 1 + 1) bs = mkH (bs.take 32) :: takeH (k + 1) (bs.drop 32) from rfl, ih, show takeH (k + 1) bs = mkH (bs.take 32) :: takeH k (bs.drop 32) from rfl, List.drop_drop, show 32 + 32 * k = 32 * (k + 1) by omega]
    rfl

/-! A span's proof, read. -/
def noReach : Nat × Nat × Nat × List Hsh := (0, 0, 0, [])
def dec3 (n f m : Nat) (r : List Int) : (Nat × Nat × Nat × List Hsh) × Int :=
  if r.length < 32 * (spanSpots f (f + m) n).length then (noReach, 11) else if 32 * (spanSpots f (f + m) n).length < r.length then (noReach, 13) else ((n, f, f + m, takeH (spanSpots f (f + m) n).length r), 0)
def mostN : List Nat → Nat
  | [] => 4611686018427387904
  | [n] => n
  | [n, f] => n - f
  | n :: _ => n
def decG : Nat → List Nat → List Int → (Nat × Nat × Nat × List Hsh) × Int
  | 0, xs, r => dec3 (xs.getD 0 0) (xs.getD 1 0) (xs.getD 2 0) r
  | d + 1, xs, r => if (longN r).2.2 ≠ 0 then (noReach, (longN r).2.2) else if (longN r).1 > (mostN xs : Nat) then (noReach, if xs = [] then 30 else 32) else decG d (xs ++ [(longN r).1.toNat]) (r.drop (longN r).2.1.toNat)
def decN : List Int → (Nat × Nat × Nat × List Hsh) × Int
  | [] => (noReach, 11)
  | b :: r => if b ≠ 83 then (noReach, 14) else decG 3 [] r
theorem decG_step {d : Nat} {xs : List Nat} {r : List Int} {x : Nat} {rest : List Int} (hx : x < 18446744073709551616) (hr : r = shortI x ++ rest) (hm : x ≤ mostN xs) : decG (d + 1) xs r = decG d (xs ++ [x]) rest := by
  subst hr
  rw [decG, longN_short x rest hx, if_neg (by simp), if_neg (by simp; omega), Int.toNat_natCast, Int.toNat_natCast, List.drop_left]
end Go.Proofs.Ytagcabmccpekaaa.M

set_option linter.unusedVariables false
set_option linter.unusedSimpArgs false
namespace Go.Proofs.Ytagcabmccpekaaa.M
open Go.ChangeShapes Go.WideShapes Go.ChangeAt Go.RowKit Go.Proofs.YtagcabmccpekaaaW.PrintWords Go.Proofs.YtagcabmccpekaaaW.PrintLast Go.Proofs.YtagcabmccpekaaaW.PrintMore

section
variable {H : Type} {enc : TypeId × Value → H} {W : World} {sp : Nat → Bool} {held : Bool} {fuel : Nat}
theorem add_add (a : Addr) (x y : Nat) : (a.add x).add y = a.add (x + y) := by
  by_cases hx : x = 0
  · subst hx
    simp [Addr.add]
  · by_cases hy : y = 0
    · subst hy
      simp [Addr.add]
    · simp [Addr.add, hx, hy]
      omega
def byteOfV : Value → Int
  | .int _ k => k
  | _ => 0
/-- 32 cells that read as a hash are one's. -/
theorem trod_hash {cs : List Value} {x : DataW H × List MemPlace} (h : DataW.trod enc Try.prog W 0 sp held fuel 73 cs = some x) : ∃ g : Hsh, cs = g.cells ∧ Bytes g.b := by
  obtain ⟨xs, m, rfl, _, hl, hn, hi⟩ := DataW.trod_array Try.underlying73 h
  have hc1 : Try.prog.cellsOf 5 = 1 := by kernel_rfl
  have hc32 : Try.prog.cellsOf 73 = 32 := by kernel_rfl
  rw [hc32] at hl
  have key : ∀ j (hj : j < cs.length), ∃ k : Int, cs[j] = .int .u8 k ∧ 0 ≤ k ∧ k < 256 := by
    intro j hj
    have h1 := hi j (by omega)
    rw [hc1, List.getElem?_eq_getElem (by omega)] at h1
    obtain ⟨k, e1, _, e3⟩ := DataW.trod_int Try.underlying5 h1
    rw [Nat.mul_one, List.drop_eq_getElem_cons hj, List.take_succ_cons, List.take_zero] at e1
    injection e1 with e1 _
    have hb := bounds_u8 e3
    exact ⟨k, e1, by omega, by omega⟩
  have hlen : (cs.map byteOfV).length = 32 := by rw [List.length_map, hl]
  refine ⟨⟨cs.map byteOfV, hlen⟩, ?_, ?_⟩
  · unfold Hsh.cells
    rw [List.map_map]
    refine List.ext_getElem (by simp) (fun j h1 h2 => ?_)
    obtain ⟨k, e, _⟩ := key j h1
    rw [List.getElem_map, Function.comp_apply, e]
    rfl
  · intro b hb
    obtain ⟨v, hv, rfl⟩ := List.mem_map.1 hb
    obtain ⟨j, hj, rfl⟩ := List.getElem_of_mem hv
    obtain ⟨k, e, k0, k1⟩ := key j hj
    rw [e]
    exact ⟨k0, k1⟩
/-- A slice of hashes. -/
theorem trod_hashes {cs : List Value} {x : DataW H × List MemPlace} (h : DataW.trod enc Try.prog W 0 sp held fuel 43 cs = some x) :
    ∃ (A : Option Addr) (cap : Nat) (ns : List Hsh), cs = [.slice A ns.length cap] ∧ ns.length ≤ cap ∧ cap ≤ 9223372036854775807 ∧ kH.C W A ns.length ns ∧ ∀ g ∈ ns, Bytes g.b := by
  rcases DataW.trod_slice Try.underlying43 h with ⟨rfl, _⟩ | ⟨a, len, cap, elems, rest, m, rfl, rfl, _, _, hle, hmax, hel, hi, _, _⟩
  · exact ⟨none, 0, [], rfl, Nat.le_refl _, by omega, ⟨rfl, by simp, fun h => absurd h (by simp)⟩, fun g hg => by simp at hg⟩
  · have hc32 : Try.prog.cellsOf 73 = 32 := by kernel_rfl
    rw [hc32] at hi
    have key : ∀ i, i < len → ∃ g : Hsh, Bytes g.b ∧ ∀ j u, g.cells[j]? = some u → W.cell? (a.add (i * 32 + j)) = some u := by
      intro i hl
      have h1 := hi i hl
      rw [List.getElem?_eq_getElem (by omega)] at h1
      cases hc : W.cells? 0 (a.add (i * 32)) 32 with
      | none => rw [hc] at h1; simp at h1
      | some cs =>
        rw [hc] at h1
        obtain ⟨g, e, hb⟩ := trod_hash h1
        subst e
        obtain ⟨_, hlen, hcell⟩ := World.cells?_some hc
        refine ⟨g, hb, fun j u hu => ?_⟩
        have hj : j < 32 := by have := (List.getElem?_eq_some_iff.1 hu).1; rw [Hsh.cells_len] at this; exact this
        have := hcell j hj
        rw [hu] at this
        rw [← this, add_add]
    have key2 : ∃ f : Nat → Hsh, ∀ i, i < len → Bytes (f i).b ∧ ∀ j u, (f i).cells[j]? = some u → W.cell? (a.add (i * 32 + j)) = some u :=
      ⟨fun i => if h : i < len then (key i h).choose else hash1 0, fun i hl => by have := (key i hl).choose_spec; simpa only [dif_pos hl] using this⟩
    obtain ⟨f, hf⟩ := key2
    have hlen : ((List.range len).map f).length = len := by simp
    have hmax : cap ≤ 9223372036854775807 := hmax
    refine ⟨some a, cap, (List.range len).map f, by rw [hlen], by omega, hmax, ⟨rfl, by omega, fun _ => ⟨a, rfl, fun j p hj => ⟨p.cells, p.cells_len, rfl, fun i u hi => ?_⟩⟩⟩, fun g hg => ?_⟩
    · rw [List.getElem?_map] at hj
      have hj2 : j < len := by
        refine Nat.lt_of_not_le (fun hn => ?_)
        rw [List.getElem?_eq_none (by simpa using hn)] at hj
        simp at hj
      rw [List.getElem?_eq_getElem (by simpa using hj2)] at hj
      simp at hj
      subst hj
      exact (hf j hj2).2 i u hi
    · obtain ⟨i, hi, rfl⟩ := List.mem_map.1 hg
      exact (hf i (List.mem_range.1 hi)).1
theorem nat_u64 {a : Int} (h : (Lit.int .u64 a).wf = true) : ∃ n : Nat, a = (n : Int) ∧ n < 18446744073709551616 := by
  have h0 := bounds_u64 h
  exact ⟨a.toNat, by omega, by omega⟩
set_option maxRecDepth 100000 in
theorem open_reach {base : Nat} {v : Value} {d : DataW H} {ps : List MemPlace} (hval : Value.okWide Try.prog W .any base 45 v) (hd : DataW.Trod enc Try.prog W 0 sp held 45 v d ps) :
    ∃ (n f t : Nat) (A : Option Addr) (cap : Nat) (ns : List Hsh), v = .agg #[.int .u64 n, .int .u64 f, .int .u64 t, .slice A ns.length cap] ∧ n < 18446744073709551616 ∧ f < 18446744073709551616 ∧ t < 18446744073709551616 ∧ ns.length ≤ cap ∧ kH.C W A ns.length ns ∧ ∀ g ∈ ns, Bytes g.b := by
  obtain ⟨cs, rfl, hs⟩ := okWide_struct Try.underlying45 hval
  obtain ⟨fuel, hf⟩ := hd
  have hc4 : Try.prog.cellsOf 45 = 4 := by kernel_rfl
  have hc1 : Try.prog.cellsOf 22 = 1 := by kernel_rfl
  have hcs : Try.prog.cellsOf 43 = 1 := by kernel_rfl
  rw [hc4] at hs
  obtain ⟨xs, m, rfl, _, _, hn, hi⟩ := DataW.trod_struct Try.underlying45 hf
  have hcl : (Value.agg cs).cells.toList = cs.toList := rfl
  rw [hcl] at hi
  obtain ⟨l⟩ := cs
  have hs : l.length = 4 := hs
  match l, hs with
  | [c0, c1, c2, c3], _ =>
    have i0 : DataW.trod enc Try.prog W 0 sp held m 22 (([c0, c1, c2, c3].drop 0).take (Try.prog.cellsOf 22)) = xs[0]? := hi 0 _ rfl
    have i1 : DataW.trod enc Try.prog W 0 sp held m 22 (([c0, c1, c2, c3].drop 1).take (Try.prog.cellsOf 22)) = xs[1]? := hi 1 _ rfl
    have i2 : DataW.trod enc Try.prog W 0 sp held m 22 (([c0, c1, c2, c3].drop 2).take (Try.prog.cellsOf 22)) = xs[2]? := hi 2 _ rfl
    have i3 : DataW.trod enc Try.prog W 0 sp held m 43 (([c0, c1, c2, c3].drop 3).take (Try.prog.cellsOf 43)) = xs[3]? := hi 3 _ rfl
    have hn : xs.length = 4 := hn
    rw [List.getElem?_eq_getElem (by omega)] at i0 i1 i2 i3
    rw [hc1] at i0 i1 i2
    rw [hcs] at i3
    obtain ⟨z0, e0, _, w0⟩ := DataW.trod_int Try.underlying22 i0
    obtain ⟨z1, e1, _, w1⟩ := DataW.trod_int Try.underlying22 i1
    obtain ⟨z2, e2, _, w2⟩ := DataW.trod_int Try.underlying22 i2
    obtain ⟨A, cap, ns, e3, k1, _, k3, k4⟩ := trod_hashes i3
    obtain ⟨n, rfl, hn2⟩ := nat_u64 w0
    obtain ⟨f, rfl, hf2⟩ := nat_u64 w1
    obtain ⟨t, rfl, ht⟩ := nat_u64 w2
    have q0 : c0 = .int .u64 (n : Int) := (List.cons.inj (show [c0] = [.int .u64 (n : Int)] from e0)).1
    have q1 : c1 = .int .u64 (f : Int) := (List.cons.inj (show [c1] = [.int .u64 (f : Int)] from e1)).1
    have q2 : c2 = .int .u64 (t : Int) := (List.cons.inj (show [c2] = [.int .u64 (t : Int)] from e2)).1
    have q3 : c3 = .slice A ns.length cap := (List.cons.inj (show [c3] = [.slice A ns.length cap] from e3)).1
    clear i0 i1 i2 i3 e0 e1 e2 e3 hi hval
    subst q0 q1 q2 q3
    exact ⟨n, f, t, A, cap, ns, rfl, hn2, hf2, ht, k1, k3, k4⟩
end
end Go.Proofs.Ytagcabmccpekaaa.M

set_option linter.unusedVariables false
set_option linter.unusedSimpArgs false
namespace Go.Proofs.Ytagcabmccpekaaa.M

/-! Of one leaf. -/
end Go.Proofs.Ytagcabmccpekaaa.M

set_option linter.unusedVariables false
set_option linter.unusedSimpArgs false
namespace Go.Proofs.Ytagcabmccpekaaa.M
open Go.RowKit Go.Proofs.YtagcabmccpekaaaW.PrintWords Go.Proofs.YtagcabmccpekaaaW.PrintLast Go.Proofs.YtagcabmccpekaaaW.PrintMore Go.Proofs.Ytagcabmccpekaaa.Leaf

theorem awake20_places : spanAns 1 3 7 = ([0, 4, 9, 10], 0) := by decide +kernel
theorem awake20_bytes : encAns 0 2 3 [hash1 7] = ([83, 3, 0, 2, 7, 0, 0, 0, 0, 0, 0, 0, 0, 0, 0, 0, 0, 0, 0, 0, 0, 0, 0, 0, 0, 0, 0, 0, 0, 0, 0, 0, 0, 0, 0, 0], 0) := by decide +kernel

set_option maxHeartbeats 1000000 in
set_option maxRecDepth 100000 in
theorem awake20 (w : World) : Calls Try.prog 14 #[] w fun e w' => e = .returned (.bool true) ∧ Below w.heap.size w w' := by
  have hp := span_places 1 3 7
  rw [awake20_places] at hp
  have HP := Aside0.mk hp
  clear hp
  go_enter Try.func14, Try.ntmps14
  go_wp2_with fail
  refine (HP.out _).mono ?_
  rintro e w1 ⟨v1, rfl, hr, hb⟩
  obtain ⟨A1, c1, e1, _, hC⟩ := Kd.R_reads hr
  obtain ⟨ad, ea, _⟩ := Kd.at_int hC 0 (by omega) (by simp)
  subst ea
  rw [e1]
  have HC := Aside0.mk hC
  have HB := Aside0.mk hb
  clear hr hb hC e1
  have he := span_encode 0 2 3 1 [hash1 7] (some ⟨w1.heap.size, 0, none⟩) (w1.alloc (.cells (hash1 7).cells.toArray 73)) (by omega) (by omega) (by omega) (C_hash_one (heap_new w1 _))
  rw [awake20_bytes] at he
  have HEn := Aside0.mk he
  clear he
  go_wp2_with fail
  refine HEn.out.mono ?_
  rintro e w2 ⟨v2, rfl, hr2, hb2⟩
  have hb3 : Below w1.heap.size w1 w2 := (bl_new w1 _).trans (hb2.mono (by simp))
  obtain ⟨A2, c2, e2, _, hC2⟩ := Kd.R_reads hr2
  obtain ⟨ad2, ea2, k5⟩ := Kd.at_int hC2 0 (by omega) (by simp)
  subst ea2
  rw [e2]
  have at1 : ∀ i : Nat, i < 4 → w2.cell? (ad.add i) = some (.int .u64 (rd [0, 4, 9, 10] i)) := fun i hi => by
    obtain ⟨ad', ea', hx⟩ := Kd.at_int (Kd.C_below HC.out hb3) (i : Int) (by omega) (by simp; omega)
    injection ea' with ea'
    subst ea'
    exact hx
  have at2 : ∀ i : Nat, i < 36 → w2.cell? (ad2.add i) = some (.int .u8 (rd [83, 3, 0, 2, 7, 0, 0, 0, 0, 0, 0, 0, 0, 0, 0, 0, 0, 0, 0, 0, 0, 0, 0, 0, 0, 0, 0, 0, 0, 0, 0, 0, 0, 0, 0, 0] i)) := fun i hi => by
    obtain ⟨ad', ea', hx⟩ := Kd.at_int hC2 (i : Int) (by omega) (by simp; omega)
    injection ea' with ea'
    subst ea'
    exact hx
  have a0 : w2.cell? (ad.add 0) = some (.int .u64 0) := at1 0 (by omega)
  have a1 : w2.cell? ⟨ad.block, ad.off + 1, none⟩ = some (.int .u64 4) := at1 1 (by omega)
  have a2 : w2.cell? ⟨ad.block, ad.off + 2, none⟩ = some (.int .u64 9) := at1 2 (by omega)
  have b0 : w2.cell? (ad2.add 0) = some (.int .u8 83) := at2 0 (by omega)
  have b3 : w2.cell? ⟨ad2.block, ad2.off + 3, none⟩ = some (.int .u8 2) := at2 3 (by omega)
  have b4 : w2.cell? ⟨ad2.block, ad2.off + 4, none⟩ = some (.int .u8 7) := at2 4 (by omega)
  have a0' : w2.cell? ad = some (.int .u64 0) := by have := a0; rwa [show ad.add 0 = ad by simp [Addr.add]] at this
  have b0' : w2.cell? ad2 = some (.int .u8 83) := by have := b0; rwa [show ad2.add 0 = ad2 by simp [Addr.add]] at this
  have HB3 := Aside0.mk hb3
  clear hr2 hb2 hb3 hC2 e2 at1 at2 HC HEn
  go_wp2
  go_ret
  exact ⟨rfl, HB.out.trans (HB3.out.mono HB.out.size)⟩
end Go.Proofs.Ytagcabmccpekaaa.M

set_option linter.unusedVariables false
set_option linter.unusedSimpArgs false
namespace Go.Proofs.Ytagcabmccpekaaa.M
open Go.RowKit Go.Proofs.YtagcabmccpekaaaW.PrintWords Go.Proofs.YtagcabmccpekaaaW.PrintLast Go.Proofs.YtagcabmccpekaaaW.PrintMore Go.Proofs.Ytagcabmccpekaaa.Leaf

theorem ref20_calls (f t n : Nat) (w : World) :
    Calls Try.prog 11 #[.int .u64 f, .int .u64 t, .int .u64 n] w fun e w' => ∃ v, e = .returned (.tuple #[v, .int .i64 (spanAns f t n).2]) ∧ Kd.R (Kd.int .u64) 22 w' w.heap.size (fun _ => True) v (spanAns f t n).1 ∧ Below w.heap.size w w' := by
  obtain ⟨k, hk⟩ := (ref20_places f t n).rounds
  exact massifref20_Places.calls k _ _ _ _ _ w hk
/-- Numbers, the first j of which have been marked. -/
def mk (x : Int) (L : List Int) (j : Nat) : List Int := List.replicate j x ++ L.drop j
theorem mk_len (x : Int) (L : List Int) (j : Nat) (hj : j ≤ L.length) : (mk x L j).length = L.length := by simp [mk]; omega
theorem mk_set (x : Int) (L : List Int) (j : Nat) (hj : j < L.length) : (mk x L j).set j x = mk x L (j + 1) := by
  unfold mk
  rw [List.drop_eq_getElem_cons hj, List.set_append_right _ _ (by simp), List.length_replicate, Nat.sub_self, List.set_cons_zero, List.replicate_succ', List.append_assoc]
  rfl
/-- Two values that own no block together. -/
def Apart (u v : Value) : Prop := ∀ k, u.ownBlock = some k → v.ownBlock ≠ some k
theorem Apart.symm {u v : Value} (h : Apart u v) : Apart v u := fun k h1 h2 => h k h2 h1
theorem apart_new {α β : Type} {d : Kd α} {d' : Kd β} {e e' base : Nat} {w w1 : World} {u v : Value} {xs : List α} {ys : List β} {ok ok' : Nat → Prop} (h : d.R e w base ok u xs) (h' : d'.R e' w1 w.heap.size ok' v ys) : Apart u v :=
  fun k h1 h2 => by have := Kd.R_lt h k h1; have := Kd.R_base h' k h2; omega
/-- The world in the first loop of SpanPlaces: j numbers of a and b have been marked. -/
def SpL1 (w : World) (va vb vw : Value) (L : List Int) (j : Nat) (wr : World) : Prop :=
  Kd.R (Kd.int .u64) 22 wr w.heap.size (fun _ => True) va (mk 201 L j) ∧ Kd.R (Kd.int .u64) 22 wr w.heap.size (fun _ => True) vb (mk 202 L j) ∧
    Kd.R (Kd.int .u64) 22 wr w.heap.size (fun _ => True) vw L ∧ Below w.heap.size w wr
theorem SpL1.next {w : World} {ga gb na nb ca cb : Nat} {vw : Value} {L : List Int} {j : Nat} {wr : World} (h : SpL1 w (.slice (some ⟨ga, 0, none⟩) na ca) (.slice (some ⟨gb, 0, none⟩) nb cb) vw L j wr) (hj : j < L.length)
    (hab : Apart (.slice (some ⟨ga, 0, none⟩) na ca) (.slice (some ⟨gb, 0, none⟩) nb cb)) (haw : Apart vw (.slice (some ⟨ga, 0, none⟩) na ca)) (hbw : Apart vw (.slice (some ⟨gb, 0, none⟩) nb cb)) :
    SpL1 w (.slice (some ⟨ga, 0, none⟩) na ca) (.slice (some ⟨gb, 0, none⟩) nb cb) vw L (j + 1) ((wr.setCell ⟨ga, j, none⟩ (.int .u64 201)).setCell ⟨gb, j, none⟩ (.int .u64 202)) := by
  obtain ⟨h1, h2, h3, h4⟩ := h
  have oa : ∀ n c, (Value.slice (some ⟨ga, 0, none⟩) n c).ownBlock = some ga := fun _ _ => by simp [Value.ownBlock]
  have ob : ∀ n c, (Value.slice (some ⟨gb, 0, none⟩) n c).ownBlock = some gb := fun _ _ => by simp [Value.ownBlock]
  have hne : ga ≠ gb := fun he => hab ga (oa _ _) (by rw [ob, he])
  have s1 := Kd.R_putn h1 (j : Int) (201 : Int)
  rw [Int.toNat_natCast, mk_set 201 L j hj] at s1
  have f1 := Frm.of_set wr ⟨ga, j, none⟩ (.int .u64 201)
  have f2 := Frm.of_set (wr.setCell ⟨ga, j, none⟩ (.int .u64 201)) ⟨gb, j, none⟩ (.int .u64 202)
  have h2' := R_frm (flat_int .u64) h2 f1 (fun k hk he => by rw [ob] at hk; injection hk with hk; exact hne (by rw [hk]; exact he.symm))
  have s2 := Kd.R_putn h2' (j : Int) (202 : Int)
  rw [Int.toNat_natCast, mk_set 202 L j hj] at s2
  refine ⟨R_frm (flat_int .u64) s1 f2 (fun k hk he => by rw [oa] at hk; injection hk with hk; exact hne (by rw [hk]; exact he)), s2,
    R_frm (flat_int .u64) (R_frm (flat_int .u64) h3 f1 (fun k hk he => haw k hk (by rw [oa, he]))) f2 (fun k hk he => hbw k hk (by rw [ob, he])), ?_⟩
  have hba := Kd.R_base h1 ga (oa _ _)
  have hbb := Kd.R_base h2 gb (ob _ _)
  exact (h4.setCell hba _).setCell hbb _
theorem SpL1.drewN {w : World} {va vb vw : Value} {L : List Int} {j : Nat} {wr : World} (h : SpL1 w va vb vw L j wr) (n : Nat) : SpL1 w va vb vw L j (wr.drewN n) :=
  ⟨Kd.R_drewN h.1 n, Kd.R_drewN h.2.1 n, Kd.R_drewN h.2.2.1 n, pw_below_drewN h.2.2.2 n⟩
/-- The cells that a round of the first loop writes. -/
theorem SpL1.form {w : World} {Aa Ab : Option Addr} {na nb ca cb : Nat} {vw : Value} {L : List Int} {j : Nat} {wr : World} (h : SpL1 w (.slice Aa na ca) (.slice Ab nb cb) vw L j wr) (hj : j < L.length)
    (hab : Apart (.slice Aa na ca) (.slice Ab nb cb)) : ∃ ga gb, Aa = some ⟨ga, 0, none⟩ ∧ Ab = some ⟨gb, 0, none⟩ ∧ ga ≠ gb ∧ (∃ x : Int, wr.cell? ⟨ga, j, none⟩ = some (.int .u64 x)) ∧ wr.frozen? ⟨ga, j, none⟩ = false ∧
      (∀ u, ∃ x : Int, (wr.setCell ⟨ga, j, none⟩ u).cell? ⟨gb, j, none⟩ = some (.int .u64 x)) ∧ (∀ u, (wr.setCell ⟨ga, j, none⟩ u).frozen? ⟨gb, j, none⟩ = false) := by
  obtain ⟨h1, h2, h3, h4⟩ := h
  have l1 := mk_len 201 L j (by omega)
  have l2 := mk_len 202 L j (by omega)
  obtain ⟨ga, cap, ea, _, _, _⟩ := Kd.R_form h1 (by omega)
  obtain ⟨gb, capb, eb, _, _, _⟩ := Kd.R_form h2 (by omega)
  injection ea with ea1 ea2 ea3
  injection eb with eb1 eb2 eb3
  subst ea1 ea2 ea3 eb1 eb2 eb3
  have hne : ga ≠ gb := fun he => hab ga (by simp [Value.ownBlock]) (by simp [Value.ownBlock, he])
  obtain ⟨k1, k2⟩ := Kd.R_celln 0 h1 (j : Int) (by omega) (by omega)
  obtain ⟨k3, k4⟩ := Kd.R_celln 0 h2 (j : Int) (by omega) (by omega)
  rw [Int.toNat_natCast] at k1 k2 k3 k4
  have hb : ∀ u, (wr.setCell ⟨ga, j, none⟩ u).heap[gb]? = wr.heap[gb]? := fun u => Below.heap_setCell wr ⟨ga, j, none⟩ u gb (fun he => hne he.symm)
  exact ⟨ga, gb, rfl, rfl, hne, ⟨_, k1⟩, k2, fun u => ⟨_, (World.cell?_of_block (a := ⟨gb, j, none⟩) (hb u)).trans k3⟩, fun u => (World.frozen?_of_block (a := ⟨gb, j, none⟩) (hb u)).trans k4⟩
/-- Behind the two appends. -/
def SpL2 (w : World) (va vb vw : Value) (L : List Int) (wr : World) : Prop :=
  Kd.R (Kd.int .u64) 22 wr w.heap.size (fun _ => True) va (List.replicate (L.length + 1) 201) ∧ Kd.R (Kd.int .u64) 22 wr w.heap.size (fun _ => True) vb (List.replicate (L.length + 1) 202) ∧
    Kd.R (Kd.int .u64) 22 wr w.heap.size (fun _ => True) vw L ∧ Below w.heap.size w wr
theorem apart_step {u v v' : Value} {n : Nat} (h : Apart u v) (hu : ∀ k, u.ownBlock = some k → k < n) (ha : v'.ownBlock = v.ownBlock ∨ ∃ b, v'.ownBlock = some b ∧ n ≤ b) : Apart u v' := fun k h1 h2 => by
  rcases ha with ha | ⟨b, ha, hb⟩
  · exact h k h1 (ha ▸ h2)
  · rw [ha] at h2
    injection h2 with h2
    have := hu k h1
    omega
theorem SpL2.make {w wr w5 w6 : World} {va vb vw va' vb' : Value} {L : List Int} (h : SpL1 w va vb vw L L.length wr) (hab : Apart va vb) (hwa : Apart vw va) (hwb : Apart vw vb)
    (h1 : Kd.R (Kd.int .u64) 22 w5 w.heap.size (fun _ => True) va' (List.replicate L.length 201 ++ [201])) (f1 : Frm (fun k => some k = va.ownBlock) wr w5) (a1 : va'.ownBlock = va.ownBlock ∨ ∃ b, va'.ownBlock = some b ∧ wr.heap.size ≤ b)
    (h2 : Kd.R (Kd.int .u64) 22 w6 w.heap.size (fun _ => True) vb' (List.replicate L.length 202 ++ [202])) (f2 : Frm (fun k => some k = vb.ownBlock) w5 w6) (a2 : vb'.ownBlock = vb.ownBlock ∨ ∃ b, vb'.ownBlock = some b ∧ w5.heap.size ≤ b) :
    SpL2 w va' vb' vw L w6 ∧ Apart va' vb' := by
  have hvw : Apart va' vb := Apart.symm (apart_step hab.symm (Kd.R_lt h.2.1) a1)
  refine ⟨⟨?_, ?_, ?_, ?_⟩, apart_step hvw (Kd.R_lt h1) a2⟩
  · rw [List.replicate_succ']
    exact R_frm (flat_int .u64) h1 f2 (fun k hk he => hvw k hk he.symm)
  · rw [List.replicate_succ']
    exact h2
  · exact R_frm (flat_int .u64) (R_frm (flat_int .u64) h.2.2.1 f1 (fun k hk he => hwa k hk he.symm)) f2 (fun k hk he => hwb k hk he.symm)
  · have hs := h.2.2.2.size
    exact (h.2.2.2.trans (f1.below hs (fun k hk => Kd.R_base h.1 k hk.symm))).trans (f2.below (Nat.le_trans hs f1.size) (fun k hk => Kd.R_base h.2.1 k hk.symm))
end Go.Proofs.Ytagcabmccpekaaa.M

set_option linter.unusedVariables false
set_option linter.unusedSimpArgs false
namespace Go.Proofs.Ytagcabmccpekaaa.M
open Go.RowKit Go.Proofs.YtagcabmccpekaaaW.PrintWords Go.Proofs.YtagcabmccpekaaaW.PrintLast Go.Proofs.YtagcabmccpekaaaW.PrintMore Go.Proofs.Ytagcabmccpekaaa.Leaf

theorem int_reps (k : IntKind) (w : World) (base : Nat) (ok : Nat → Prop) (xs : List Int) : Reps ((Kd.int k).M w base ok) (Kd.int k).sz xs (xs.map (Value.int k)) := by
  refine ⟨by rw [List.length_map]; exact (Nat.mul_one _).symm, fun j p hj => ?_⟩
  show ((xs.map (Value.int k)).drop (j * 1)).take 1 = [Value.int k p]
  rw [Nat.mul_one]
  have hl := (List.getElem?_eq_some_iff.1 hj).1
  rw [List.drop_eq_getElem_cons (by rw [List.length_map]; exact hl)]
  simp [(List.getElem?_eq_some_iff.1 hj).2]
/-- A row of numbers of one's own, laid open. -/
structure Blk (k : IntKind) (e : Nat) (w : World) (base : Nat) (v : Value) (xs : List Int) (g cap : Nat) (cur : Array Value) : Prop where
  val : v = .slice (some ⟨g, 0, none⟩) xs.length cap
  base_le : base ≤ g
  heap : w.heap[g]? = some (.cells cur e (0, 0))
  len : xs.length ≤ cap
  max : cap ≤ maxLen
  size : cur.size = cap
  row : cur.toList.take xs.length = xs.map (Value.int k)
theorem Blk.R {k : IntKind} {e : Nat} {w : World} {base : Nat} {v : Value} {xs : List Int} {g cap : Nat} {cur : Array Value} (h : Blk k e w base v xs g cap cur) : (Kd.int k).R e w base (fun _ => True) v xs := by
  refine ⟨fun _ _ => trivial, xs.map (Value.int k), ⟨?_, .inr ⟨g, cap, cur, h.val, h.base_le, h.heap, h.len, h.max, ?_, ?_⟩⟩, int_reps k _ _ _ xs⟩
  · rw [List.length_map]; exact (Nat.mul_one _).symm
  · rw [h.size]; exact (Nat.mul_one _).symm
  · rw [show (Kd.int k).sz = 1 from rfl, Nat.mul_one]; exact h.row
end Go.Proofs.Ytagcabmccpekaaa.M

set_option linter.unusedVariables false
set_option linter.unusedSimpArgs false
namespace Go.Proofs.Ytagcabmccpekaaa.M
open Go.RowKit Go.Proofs.YtagcabmccpekaaaW.PrintWords Go.Proofs.YtagcabmccpekaaaW.PrintLast Go.Proofs.YtagcabmccpekaaaW.PrintMore Go.Proofs.Ytagcabmccpekaaa.Leaf

end Go.Proofs.Ytagcabmccpekaaa.M

set_option linter.unusedVariables false
set_option linter.unusedSimpArgs false
namespace Go.Proofs.Ytagcabmccpekaaa.M
open Go.RowKit Go.Proofs.YtagcabmccpekaaaW.PrintWords Go.Proofs.YtagcabmccpekaaaW.PrintLast Go.Proofs.YtagcabmccpekaaaW.PrintMore Go.Proofs.Ytagcabmccpekaaa.Leaf

end Go.Proofs.Ytagcabmccpekaaa.M

set_option linter.unusedVariables false
set_option linter.unusedSimpArgs false
namespace Go.Proofs.Ytagcabmccpekaaa.M
open Go.RowKit Go.Proofs.YtagcabmccpekaaaW.PrintWords Go.Proofs.YtagcabmccpekaaaW.PrintLast Go.Proofs.YtagcabmccpekaaaW.PrintMore Go.Proofs.Ytagcabmccpekaaa.Leaf

end Go.Proofs.Ytagcabmccpekaaa.M

set_option linter.unusedVariables false
set_option linter.unusedSimpArgs false
namespace Go.Proofs.Ytagcabmccpekaaa.M
open Go.RowKit Go.Proofs.YtagcabmccpekaaaW.PrintWords Go.Proofs.YtagcabmccpekaaaW.PrintLast Go.Proofs.YtagcabmccpekaaaW.PrintMore Go.Proofs.Ytagcabmccpekaaa.Leaf

end Go.Proofs.Ytagcabmccpekaaa.M

set_option linter.unusedVariables false
set_option linter.unusedSimpArgs false
namespace Go.Proofs.Ytagcabmccpekaaa.M
open Go.RowKit Go.Proofs.YtagcabmccpekaaaW.PrintWords Go.Proofs.YtagcabmccpekaaaW.PrintLast Go.Proofs.YtagcabmccpekaaaW.PrintMore Go.Proofs.Ytagcabmccpekaaa.Leaf

theorem R_cap {α : Type} {d : Kd α} {e base : Nat} {ok : Nat → Prop} {w : World} {A : Option Addr} {n c : Nat} {xs : List α} (h : d.R e w base ok (.slice A n c) xs) : c ≤ 9223372036854775807 := by
  obtain ⟨inner, ho⟩ := Kd.R_own h
  rcases ho.2 with ⟨h1, _⟩ | ⟨g, cap, cur, h1, _, _, _, h2, _⟩
  · injection h1 with _ _ h3
    omega
  · injection h1 with _ _ h3
    subst h3
    exact h2
end Go.Proofs.Ytagcabmccpekaaa.M

set_option linter.unusedVariables false
set_option linter.unusedSimpArgs false
namespace Go.Proofs.Ytagcabmccpekaaa.M
open Go.RowKit Go.Proofs.YtagcabmccpekaaaW.PrintWords Go.Proofs.YtagcabmccpekaaaW.PrintLast Go.Proofs.YtagcabmccpekaaaW.PrintMore

theorem items_eq (d : Nat) (h g : Hsh) (w : World) : ∀ (is : List Nat), (∀ i ∈ is, i < 32) → (Op.eqItems (d + 1) 5 1 h.cells.toArray g.cells.toArray is).run Try.prog w = .ok (is.all fun i => h.b.getD i 0 == g.b.getD i 0) w
  | [], _ => by simp [Op.eqItems]
  | i :: is, hi => by
    have ih := items_eq d h g w is (fun j hj => hi j (List.mem_cons_of_mem _ hj))
    have h32 := hi i List.mem_cons_self
    have key : ∀ x : Hsh, x.cells.toArray[i * 1]? = some (.int .u8 (x.b.getD i 0)) := by
      intro x
      have hl := x.len
      rw [Nat.mul_one, List.getElem?_toArray]
      unfold Hsh.cells
      rw [List.getElem?_map, List.getElem?_eq_getElem (by omega)]
      simp [List.getD_eq_getElem?_getD, List.getElem?_eq_getElem (show i < x.b.length by omega)]
    have hp : Try.prog.plainKey 5 = true := by kernel_rfl
    rw [Op.eqItems]
    simp only [Sem.run_bind, run_part_plain w hp (key h), run_part_plain w hp (key g), Result.andThen_ok, run_equalIn_int w d 5 .u8 .u8 _ _ Try.underlying5]
    rw [List.all_cons]
    cases hq : (h.b.getD i 0 == g.b.getD i 0) with
    | false => simp
    | true => simp only [Bool.not_true, Bool.false_eq_true, if_false, Bool.true_and]; exact ih
theorem hash_dec (h g : Hsh) : ((List.range 32).all fun i => h.b.getD i 0 == g.b.getD i 0) = decide (h = g) := by
  rw [Bool.eq_iff_iff]
  simp only [List.all_eq_true, List.mem_range, beq_iff_eq, decide_eq_true_eq]
  constructor
  · intro hk
    have hb : h.b = g.b := by
      refine List.ext_getElem (by rw [h.len, g.len]) (fun i h1 h2 => ?_)
      have := hk i (by rw [← h.len]; exact h1)
      simpa [List.getD_eq_getElem?_getD, List.getElem?_eq_getElem h1, List.getElem?_eq_getElem h2] using this
    cases h; cases g; simp at hb; subst hb; rfl
  · rintro rfl i _; rfl
theorem hash_equalIn (d : Nat) (h g : Hsh) (w : World) : (Op.equalIn (d + 2) 73 h.val g.val).run Try.prog w = .ok (decide (h = g)) w := by
  obtain ⟨i, hi⟩ : ∃ i, Try.prog.info? 5 = some i := by
    have hs : (Try.prog.info? 5).isSome = true := by kernel_rfl
    exact Option.isSome_iff_exists.1 hs
  have hc : Try.prog.cellsOf 5 = 1 := by kernel_rfl
  unfold Hsh.val
  rw [show d + 2 = (d + 1) + 1 from rfl, run_equalIn_array w (d + 1) _ _ Try.underlying73 hi, hc, items_eq d h g w _ (fun j hj => List.mem_range.1 hj), hash_dec]
theorem hash_guard (op : BinOp) (x y : Operand) (h g : Hsh) (w : World) : (eqGuard op 73 x y h.val g.val).run Try.prog w = .ok () w := by
  have hm : Try.prog.eqGuardType Try.prog.depth 73 = false := by kernel_rfl
  exact run_eqGuard_agg w op _ x y _ _ hm
theorem hash_neq (h g : Hsh) (w : World) : (binOp .neq 73 h.val g.val).run Try.prog w = .ok (.bool (!decide (h = g))) w := by
  have := run_neq_struct (P := Try.prog) w 73 h.cells.toArray g.cells.toArray
  have e := hash_equalIn 9998 h g w
  unfold Hsh.val at e ⊢
  rw [this, e]
  rfl
theorem hash_eql (h g : Hsh) (w : World) : (binOp .eql 73 h.val g.val).run Try.prog w = .ok (.bool (decide (h = g))) w := by
  have := run_eql_struct (P := Try.prog) w 73 h.cells.toArray g.cells.toArray
  have e := hash_equalIn 9998 h g w
  unfold Hsh.val at e ⊢
  rw [this, e]
  rfl
/-- A slice of one hash is made. -/
theorem run_build_hash (h : Hsh) (W : World) : (Instr.buildSlice 43 1 #[(0, .agg h.cells.toArray)]).run Try.prog W = .ok (.slice (some ⟨W.heap.size, 0, none⟩) 1 1) (W.alloc (.cells h.cells.toArray 73)) := by
  have hin := infoH
  obtain ⟨ie, hie⟩ : ∃ ie, Try.prog.info? 73 = some ie := by
    cases hc : Try.prog.info? 73 with
    | none => rw [hc] at hin; simp at hin
    | some ie => exact ⟨ie, rfl⟩
  rw [hie] at hin
  simp only [Option.map_some, Option.some.injEq, Prod.mk.injEq] at hin
  obtain ⟨hz, hsz, _⟩ := hin
  obtain ⟨z, hz⟩ : ∃ z, ie.zero = some z := ⟨_, hz⟩
  refine run_buildSlice W _ _ 1 _ h.cells.toArray ie z Try.underlying43 hie hz (by rw [hsz]; omega) (by rw [hsz]; omega) ?_
  rw [hsz]
  have hcl := h.cells_len
  obtain ⟨r, hr, hs, hk⟩ := Go.Great.fill_dense (s := 32) (by omega) [h.val] 0 ((Array.range (1 * 32)).map (z.cells[· % z.cells.size]!)) (fun v hv => by simp at hv; subst hv; show h.cells.toArray.size = 32; simpa using hcl) (by simp)
  have e : r = h.cells.toArray := by
    refine Array.ext_getElem? (fun j => ?_)
    rw [hk j]
    by_cases hj : j < 32
    · rw [if_pos (by simp; omega)]
      rw [show j / 32 - 0 = 0 by omega]
      simp only [List.getElem?_cons_zero, Option.bind_some]
      rw [show h.val.cells = h.cells.toArray from rfl, Nat.mod_eq_of_lt hj]
    · rw [if_neg (by simp; omega), Array.getElem?_eq_none (by simp; omega), Array.getElem?_eq_none (by simp; omega)]
  rw [e] at hr
  exact hr
theorem build_hash {ops : Array Oper} {rest : List Oper} {o : Oper} {a : Act} {Q : Exit → Act → World → Prop} {W : World} (hgd : o.guard = none) (x : Operand) (ho : o.op = .buildSlice 43 1 #[(0, x)]) (h : Hsh) (hx : a.eval x = h.val)
    (k : wpList Try.prog ops Q rest (a.put o.dst (.slice (some ⟨W.heap.size, 0, none⟩) 1 1)) (W.alloc (.cells h.cells.toArray 73))) : wpList Try.prog ops Q (o :: rest) a W := by
  refine wpList_plain hgd fun K hK => ?_
  have hr := run_build_hash h W
  have hx2 : a.eval x = .agg h.cells.toArray := hx
  unfold Oper.wp execOp
  simp only [ho, List.map_toArray, List.map_cons, List.map_nil, hx2, Sem.run_bind, hr, Result.andThen_ok]
  exact hK _ _ k
/-- In a region that draws its order and only reads: a hash is loaded; two hashes are compared. -/
theorem quiet_hash {ops : Array Oper} {rest : List Oper} {o : Oper} {a : Act} {w : World} {Q : Act → Prop} (hgd : o.guard = none) (x : Operand) (ho : o.op = .load 73 x) {ad : Addr} (hx : a.eval x = .pointer (some ad)) (h : Hsh) (hh : HashAt w ad h) (k : wpQuiet Try.prog ops (fun w' => ∃ n, w' = w.drewN n) Q rest (a.put o.dst h.val)) : wpQuiet Try.prog ops (fun w' => ∃ n, w' = w.drewN n) Q (o :: rest) a := by
  obtain ⟨b, off, rfl, hrg⟩ := hh
  unfold wpQuiet
  rw [if_pos (by simp [Region.wanted, hgd])]
  refine ⟨h.val, fun w' hw' => ?_, k⟩
  obtain ⟨n, rfl⟩ := hw'
  unfold Oper.quietAt execOp
  have hr := run_loadVar_mid (w.drewN n) b off 73 h.cells _ hrg Try.underlying73 rfl (by rw [Hsh.cells_len]; exact sizeH)
  simp only [ho, hx, Instr.loadAt, Instr.sureAddr, Sem.run_bind, Sem.run_pure, Result.andThen_ok, hr]
  exact ⟨rfl, rfl⟩
theorem quiet_neq {ops : Array Oper} {rest : List Oper} {o : Oper} {a : Act} {w : World} {Q : Act → Prop} (hgd : o.guard = none) (x y : Operand) (ty : TypeId) (ho : o.op = .binOp .neq 73 x y ty) (h g : Hsh) (hx : a.eval x = h.val) (hy : a.eval y = g.val) (k : wpQuiet Try.prog ops (fun w' => ∃ n, w' = w.drewN n) Q rest (a.put o.dst (.bool (!decide (h = g))))) : wpQuiet Try.prog ops (fun w' => ∃ n, w' = w.drewN n) Q (o :: rest) a := by
  unfold wpQuiet
  rw [if_pos (by simp [Region.wanted, hgd])]
  refine ⟨_, fun w' _ => ?_, k⟩
  unfold Oper.quietAt execOp
  simp only [ho, hx, hy, Sem.run_bind, hash_guard, hash_neq, Result.andThen_ok, Sem.run_pure]
  exact ⟨rfl, rfl⟩
/-- A guarded operation that is wanted goes as one without a guard. -/
theorem wp_unguard {P : Program} {ops : Array Oper} {rest : List Oper} {o : Oper} {a : Act} {Q : Exit → Act → World → Prop} {W : World} (hw : Region.wanted o (yielded ops a.tmps) = true) (h : wpList P ops Q ({o with guard := none} :: rest) a W) : wpList P ops Q (o :: rest) a W := by
  unfold wpList at h ⊢
  rw [if_pos hw]
  rw [if_pos (by simp [Region.wanted])] at h
  exact h
end Go.Proofs.Ytagcabmccpekaaa.M

set_option linter.unusedVariables false
set_option linter.unusedSimpArgs false
namespace Go.Proofs.Ytagcabmccpekaaa.M
open Go.RowKit Go.Proofs.YtagcabmccpekaaaW.PrintWords Go.Proofs.YtagcabmccpekaaaW.PrintLast Go.Proofs.YtagcabmccpekaaaW.PrintMore Go.Proofs.Ytagcabmccpekaaa.Leaf

theorem R_emptyK {α : Type} (d : Kd α) {e : Nat} {w : World} {g : Nat} {t : Nat} (ht : t = e) (hg : w.heap[g]? = some (.cells #[] t (0, 0))) {base : Nat} (hb : base ≤ g) : d.R e w base (fun _ => True) (.slice (some ⟨g, 0, none⟩) 0 0) [] := by
  subst ht
  exact ⟨fun _ _ => trivial, [], ⟨by simp, .inr ⟨g, 0, #[], rfl, hb, hg, Nat.le_refl _, Nat.zero_le _, by simp, by simp⟩⟩, Reps.none _ _⟩
set_option maxHeartbeats 1000000 in
set_option maxRecDepth 100000 in
/-- The same bytes in a list of their own that goes on behind them. -/
theorem text_calls (l : List Int) (A : Option Addr) (c : Nat) (w : World) (hl : l.length ≤ 1000000) (hC : Kd.C (Kd.int .u8) w A l.length l) :
    Calls Try.prog 27 #[.slice A l.length c] w fun e w' => ∃ A' c', e = .returned (.slice A' l.length c') ∧ Kd.R (Kd.int .u8) 5 w' w.heap.size (fun _ => True) (.slice A' (l.length + 1) c') (l ++ [171]) ∧ Below w.heap.size w w' := by
  have HC := Aside0.mk hC
  clear hC
  go_enter Try.func27, Try.ntmps27
  have HE := Aside0.mk (R_emptyK (Kd.int .u8) (e := 5) (base := w.heap.size) rfl (heap_new w (.cells #[] 5)) (Nat.le_refl _))
  go_wp2_with (first | ((with_reducible refine gate_builtin (b := .append) (xs := #[.tmp 3, .tmp 4]) rfl ?_); at_builtin; go_loud (refine app_row .u8 w.heap.size rfl (.tmp 3) (.tmp 4) 46 5 (.int .u8 0) 1 rfl Try.underlying46 info5 rfl (by omega) (.slice (some ⟨w.heap.size, 0, none⟩) 0 0) [] l A l.length c rfl rfl HE.out (Kd.C_below HC.out (bl_new w _)) (by simp) (by simp; omega) ?_; intro A2 c2 w2 hr2 hf2 hat2; simp only [List.length_nil, Nat.zero_add, List.nil_append] at hr2 ⊢; have HR2 := Aside0.mk hr2; have hb2 := Aside0.mk ((bl_new w _).trans (hf2.below (by simp) (fun k hk => Kd.R_base HE.out k hk.symm))); clear hr2 hf2 hat2)) | ((with_reducible refine gate_builtin (b := .append) (xs := #[.tmp 5, .tmp 6]) rfl ?_); at_builtin; go_loud (refine app_one (Kd.int .u8) w.heap.size rfl (.tmp 5) (.tmp 6) 46 5 (.int .u8 0) 1 rfl Try.underlying46 info5 rfl (by decide) (by omega) _ l 171 [.int .u8 171] rfl rfl rfl HR2.out hb2.out.size (by omega) ?_; intro A3 c3 w3 hr3 hf3 hat3; have hle := (Kd.R_reads' hr3).2.1; have hle2 : l.length ≤ c3 := Nat.le_trans (Nat.le_succ _) hle; have HR3 := Aside0.mk hr3; have hb3 := Aside0.mk (hb2.out.trans (hf3.below hb2.out.size (fun k hk => Kd.R_base HR2.out k hk.symm))); clear hr3 hf3 hat3)))
  go_ret
  exact ⟨A3, c3, rfl, HR3.out, hb3.out⟩
set_option maxHeartbeats 1000000 in
set_option maxRecDepth 100000 in
/-- The same hashes in a list of their own that goes on behind them. -/
theorem row_calls (l : List Hsh) (A : Option Addr) (c : Nat) (w : World) (hl : l.length ≤ 1000000) (hC : kH.C w A l.length l) :
    Calls Try.prog 22 #[.slice A l.length c] w fun e w' => ∃ A' c', e = .returned (.slice A' l.length c') ∧ kH.R 73 w' w.heap.size (fun _ => True) (.slice A' (l.length + 1) c') (l ++ [hash1 171]) ∧ Below w.heap.size w w' := by
  have HC := Aside0.mk hC
  clear hC
  go_enter Try.func22, Try.ntmps22
  have HE := Aside0.mk (R_emptyK kH (e := 73) (base := w.heap.size) rfl (heap_new w (.cells #[] 73)) (Nat.le_refl _))
  have hz1 := (hash1 171).one
  have sz := sizeH
  go_wp2_with (first | ((with_reducible refine gate_builtin (b := .append) (xs := #[.tmp 3, .tmp 4]) rfl ?_); at_builtin; go_loud (refine app_rows kH (fun _ _ _ _ _ h => h) w.heap.size rfl (.tmp 3) (.tmp 4) 43 73 _ 32 rfl Try.underlying43 infoH rfl (by decide) (by decide) (.slice (some ⟨w.heap.size, 0, none⟩) 0 0) [] l A l.length c rfl rfl HE.out (Kd.C_below HC.out (bl_new w _)) (by simp) (by simp; omega) ?_; intro A2 c2 w2 hr2 hf2 hat2; simp only [List.length_nil, Nat.zero_add, List.nil_append] at hr2 ⊢; have HR2 := Aside0.mk hr2; have hb2 := Aside0.mk ((bl_new w _).trans (hf2.below (by simp) (fun k hk => Kd.R_base HE.out k hk.symm))); clear hr2 hf2 hat2)) | ((with_reducible refine gate_builtin (b := .append) (xs := #[.tmp 5, .tmp 7]) rfl ?_); at_builtin; go_loud (refine app_one kH w.heap.size rfl (.tmp 5) (.tmp 7) 43 73 _ 32 rfl Try.underlying43 infoH rfl (by decide) (by decide) _ l (hash1 171) (hash1 171).cells rfl rfl rfl HR2.out hb2.out.size (by omega) ?_; intro A3 c3 w3 hr3 hf3 hat3; have hle := (Kd.R_reads' hr3).2.1; have hle2 : l.length ≤ c3 := Nat.le_trans (Nat.le_succ _) hle; have HR3 := Aside0.mk hr3; have hb3 := Aside0.mk (hb2.out.trans (hf3.below hb2.out.size (fun k hk => Kd.R_base HR2.out k hk.symm))); clear hr3 hf3 hat3)))
  go_ret
  exact ⟨A3, c3, rfl, HR3.out, hb3.out⟩
/-- Hashes, read. -/
def Hd (w : World) (v : Value) (xs : List Hsh) : Prop := ∃ A c, v = .slice A xs.length c ∧ kH.C w A xs.length xs
theorem Hd.below {w w1 : World} {v : Value} {xs : List Hsh} (h : Hd w v xs) (hb : Below w.heap.size w w1) : Hd w1 v xs := by
  obtain ⟨A, c, e, hc⟩ := h
  exact ⟨A, c, e, Kd.C_below hc hb⟩
theorem Hd.of_R {e base : Nat} {w : World} {v : Value} {xs : List Hsh} (h : kH.R e w base (fun _ => True) v xs) : Hd w v xs := by
  obtain ⟨A, c, e1, hl, hc⟩ := Kd.R_reads h
  exact ⟨A, c, e1, hc⟩
set_option maxHeartbeats 2000000 in
set_option maxRecDepth 100000 in
theorem sameH_true (xs : List Hsh) (A B : Option Addr) (c d : Nat) (w : World) (hl : xs.length ≤ 1000000000) (hA : kH.C w A xs.length xs) (hB : kH.C w B xs.length xs) :
    Calls Try.prog 59 #[.slice A xs.length c, .slice B xs.length d] w fun e w' => e = .returned (.bool true) ∧ Below w.heap.size w w' := by
  have HA := Aside0.mk hA
  have HB := Aside0.mk hB
  clear hA hB
  go_enter Try.func59, Try.ntmps59
  go_wp2_with fail
  go_loopw [5] (fun k wr => ∃ j : Nat, j ≤ xs.length ∧ k = .int .i64 j ∧ Aside0 (Below w.heap.size w wr)) (fun k _ => xs.length - (intOf k).toNat)
  case atStart => exact ⟨0, Nat.zero_le _, rfl, ⟨Below.refl _ _⟩⟩
  case round =>
    obtain ⟨j, hj, rfl, HW⟩ := hrel
    by_cases hlt : j < xs.length
    · obtain ⟨ad, ea, hh⟩ := C_hash (Kd.C_below HA.out HW.out) j hlt
      obtain ⟨bd, eb, hg⟩ := C_hash (Kd.C_below HB.out HW.out) j hlt
      subst ea eb
      generalize xs[j] = h at *
      have HH := Aside0.mk hh
      have HG := Aside0.mk hg
      clear hh hg
      go_wp2_with fail
      refine wp_region_quiet_lit (by kernel_rfl) (by kernel_rfl) ?_
      go_big_quiet_step (fail)
      go_big_quiet_step (fail)
      go_big_quiet_step (fail)
      refine quiet_hash rfl (.tmp 19) rfl rfl h HH.out ?_
      simp only [Act.put, List.setIfInBounds_toArray, List.set_cons_zero, List.set_cons_succ]
      go_big_quiet_step (fail)
      go_big_quiet_step (fail)
      go_big_quiet_step (fail)
      refine quiet_hash rfl (.tmp 23) rfl rfl h HG.out ?_
      refine quiet_neq rfl (.tmp 20) (.tmp 24) _ rfl h h rfl rfl ?_
      rw [decide_eq_true rfl]
      refine wpQuiet_nil ?_
      intro _ hw'
      obtain ⟨nq, hw''⟩ := hw'
      subst hw''
      go_wp2_with fail
      go_roundw
      case rel => exact ⟨j + 1, by omega, by go_num, ⟨pw_below_drewN HW.out _⟩⟩
      case measure => simp [intOf]; omega
    · have hjl : j = xs.length := by omega
      subst hjl
      go_wp2_with fail
      go_ret
      exact ⟨rfl, HW.out⟩
end Go.Proofs.Ytagcabmccpekaaa.M

set_option linter.unusedVariables false
set_option linter.unusedSimpArgs false
namespace Go.Proofs.Ytagcabmccpekaaa.M
open Go.RowKit Go.Proofs.YtagcabmccpekaaaW.PrintWords Go.Proofs.YtagcabmccpekaaaW.PrintLast Go.Proofs.YtagcabmccpekaaaW.PrintMore Go.Proofs.Ytagcabmccpekaaa.Leaf

def takeAns (bs : List Int) (n : Nat) : List Hsh × Int := if bs.length < 32 * n then ([], 11) else if 32 * n < bs.length then ([], 13) else (takeH n bs, 0)
/-- Some of a hash's bytes, 0 behind them. -/
def hpre (l : List Int) (k : Nat) : List Int := l.take k ++ List.replicate (32 - k) 0
theorem hpre_len (l : List Int) (k : Nat) (hl : l.length = 32) (hk : k ≤ 32) : (hpre l k).length = 32 := by
  unfold hpre
  rw [List.length_append, List.length_take, List.length_replicate]
  omega
theorem hpre_set (l : List Int) (k : Nat) (hl : l.length = 32) (hk : k < 32) (x : Int) (hx : l[k]? = some x) : (hpre l k).set k x = hpre l (k + 1) := by
  unfold hpre
  rw [List.set_append_right _ _ (by rw [List.length_take]; omega), List.length_take, Nat.min_eq_left (by omega), Nat.sub_self, show 32 - k = (32 - (k + 1)) + 1 by omega, List.replicate_succ, List.set_cons_zero, List.take_add_one, hx, List.append_assoc]
  rfl
theorem hpre_all (l : List Int) (hl : l.length = 32) : hpre l 32 = l := by
  unfold hpre
  rw [List.take_of_length_le (by omega)]
  simp
def cellsB (l : List Int) : Array Value := (l.map (Value.int .u8)).toArray
theorem cellsB_get (l : List Int) (j : Nat) (hj : j < l.length) : ∃ x : Int, (cellsB l)[j]? = some (.int .u8 x) := by
  refine ⟨l[j], ?_⟩
  unfold cellsB
  rw [List.getElem?_toArray, List.getElem?_map, List.getElem?_eq_getElem hj]
  rfl
theorem cellsB_set (l : List Int) (j : Nat) (x : Int) : (cellsB l).setIfInBounds j (.int .u8 x) = cellsB (l.set j x) := by
  unfold cellsB
  rw [List.setIfInBounds_toArray, List.map_set]
theorem cellsB_hash (l : List Int) (hl : l.length = 32) : cellsB l = (mkH l).cells.toArray := by
  unfold cellsB Hsh.cells
  rw [mkH_b hl]
set_option maxHeartbeats 4000000 in
set_option maxRecDepth 100000 in
theorem take_calls (bs : List Int) (n : Nat) (A : Option Addr) (c : Nat) (w : World) (hn : n ≤ 1000000) (hl : bs.length ≤ 1000000000) (hc : bs.length ≤ c) (hC : Kd.C (Kd.int .u8) w A bs.length bs) :
    Calls Try.prog 61 #[.slice A bs.length c, .int .i64 n] w fun e w' => ∃ v, e = .returned (.tuple #[v, .int .i64 (takeAns bs n).2]) ∧ kH.R 73 w' w.heap.size (fun _ => True) v (takeAns bs n).1 ∧ Below w.heap.size w w' := by
  have HC := Aside0.mk hC
  clear hC
  have hta : takeAns bs n = if bs.length < 32 * n then ([], 11) else if 32 * n < bs.length then ([], 13) else (takeH n bs, 0) := rfl
  by_cases c1 : bs.length < 32 * n
  · rw [if_pos c1] at hta
    rw [hta]
    have g1 : (bs.length : Int) / 32 < (n : Int) := by omega
    clear hta c1
    go_enter Try.func61, Try.ntmps61
    go_wp2_with fail
    go_ret2
    exact ⟨_, rfl, Kd.R_nil _ _ _ _ _, Below.refl _ _⟩
  · rw [if_neg c1] at hta
    have g1 : ¬ ((bs.length : Int) / 32 < (n : Int)) := by omega
    by_cases c2 : 32 * n < bs.length
    · rw [if_pos c2] at hta
      rw [hta]
      have g2 : 32 * (n : Int) < (bs.length : Int) := by omega
      clear hta c1 c2
      go_enter Try.func61, Try.ntmps61
      go_wp2_with fail
      go_ret2
      exact ⟨_, rfl, Kd.R_nil _ _ _ _ _, Below.refl _ _⟩
    · rw [if_neg c2] at hta
      rw [hta]
      have g2 : ¬ (32 * (n : Int) < (bs.length : Int)) := by omega
      have HLen := Aside0.mk (show bs.length = 32 * n by omega)
      clear hta c1 c2
      go_enter Try.func61, Try.ntmps61
      go_wp2_with fail
      go_loopw [6, 7] (fun s k wr => ∃ (i l : Nat) (A1 : Option Addr) (c1 : Nat), i ≤ n ∧ s = .slice A1 l c1 ∧ k = .int .i64 i ∧ Aside0 (kH.R 73 wr w.heap.size (fun _ => True) (.slice A1 l c1) (takeH i bs)) ∧ Aside0 (Below w.heap.size w wr)) (fun _ k _ => n - (intOf k).toNat)
      case atStart => exact ⟨0, 0, none, 0, Nat.zero_le _, rfl, rfl, ⟨Kd.R_nil _ _ _ _ _⟩, ⟨Below.refl _ _⟩⟩
      case round =>
        obtain ⟨i, l, A1, c1, hi, rfl, rfl, HR, HW⟩ := hrel
        by_cases hlt : i < n
        · have hb32 : 32 * i + 32 ≤ bs.length := by have := HLen.out; omega
          obtain ⟨ch, hch⟩ : ∃ ch, ch = (bs.drop (32 * i)).take 32 := ⟨_, rfl⟩
          have hcl : ch.length = 32 := by rw [hch, List.length_take, List.length_drop]; omega
          have hget : ∀ k : Nat, k < 32 → ch[k]? = some (bs.getD (32 * i + k) 0) := by
            intro k hk
            rw [hch, List.getElem?_take_of_lt hk, List.getElem?_drop, List.getD_eq_getElem?_getD, List.getElem?_eq_getElem (by omega)]
            rfl
          have HSn := Aside0.mk (show takeH (i + 1) bs = takeH i bs ++ [mkH ch] by rw [takeH_snoc, hch])
          have HGet := Aside0.mk hget
          have HCl := Aside0.mk hcl
          clear hch hget hcl
          obtain ⟨wo, rfl⟩ : ∃ wo : World, wo = wr := ⟨_, rfl⟩
          have hs := HW.out.size
          go_wp2_with fail
          go_loopw [9] (fun s wq => ∃ k : Nat, k ≤ 32 ∧ s = .int .i64 k ∧ Aside0 (wq.heap[wo.heap.size]? = some (.cells (cellsB (hpre ch k)) 73 (0, 0)) ∧ Below wo.heap.size wo wq)) (fun s _ => 32 - (intOf s).toNat)
          case atStart => exact ⟨0, Nat.zero_le _, rfl, ⟨heap_new wo _, bl_new wo _⟩⟩
          case round =>
            obtain ⟨k, hk, rfl, HQ⟩ := hrel
            by_cases hkt : k < 32
            · obtain ⟨ad, ea, hx⟩ := Kd.at_int (Kd.C_below HC.out (HW.out.trans (HQ.out.2.mono hs))) ((32 * i + k : Nat) : Int) (by omega) (by omega)
              rw [Int.toNat_natCast, show rd bs ((32 * i + k : Nat) : Int) = bs.getD (32 * i + k) 0 by simp only [rd, Int.toNat_natCast]] at hx
              subst ea
              obtain ⟨y, hy⟩ := cellsB_get (hpre ch k) k (by rw [hpre_len ch k HCl.out (by omega)]; omega)
              have y1 := (blk_cell HQ.out.1 k).trans hy
              have y2 : _ = false := blk_frozen HQ.out.1 k
              have HN := Aside0.mk (hpre_set ch k HCl.out hkt _ (HGet.out k hkt))
              clear hy
              generalize bs.getD (32 * i + k) 0 = x at *
              go_wp2_with fail
              go_roundw
              case rel => exact ⟨k + 1, by omega, by go_num, ⟨by rw [blk_set HQ.out.1 k (.int .u8 x), cellsB_set, HN.out], HQ.out.2.setCell (Nat.le_refl _) _⟩⟩
              case measure => simp [intOf]; omega
            · have hk32 : k = 32 := by omega
              subst hk32
              have HH := Aside0.mk (HashAt.block (h := mkH ch) (by have := HQ.out.1; rwa [hpre_all ch HCl.out, cellsB_hash ch HCl.out] at this))
              have HR2 := Aside0.mk (Kd.R_below HR.out HQ.out.2)
              have HW2 := Aside0.mk (HW.out.trans (HQ.out.2.mono hs))
              have hs2 := HW2.out.size
              have hll := takeH_len i bs
              obtain ⟨hv, hhv⟩ : ∃ hv, hv = mkH ch := ⟨_, rfl⟩
              obtain ⟨P, hP⟩ : ∃ P, P = takeH i bs := ⟨_, rfl⟩
              rw [← hhv] at HH HSn
              rw [← hP] at HR2 HSn hll
              have hone := hv.one
              clear hhv hP
              go_wp2_with (first | ((with_reducible refine gate_dst (N := 39) rfl ?_); go_loud (refine load_hash rfl (.tmp 8) rfl _ _ rfl HH.out ?_)) | ((with_reducible refine gate_dst (N := 40) rfl ?_); go_loud (refine build_hash rfl (.tmp 39) rfl hv rfl ?_)) | ((with_reducible refine gate_builtin (b := .append) (xs := #[.tmp 38, .tmp 40]) rfl ?_); at_builtin; go_loud (refine app_one kH w.heap.size rfl (.tmp 38) (.tmp 40) 43 73 _ 32 rfl Try.underlying43 infoH rfl (by decide) (by decide) (.slice A1 l c1) P hv (hv).cells rfl rfl rfl HR2.out hs2 (by omega) ?_; intro A9 c9 w9 hr9 hf9 ha9; have HR9 := Aside0.mk hr9; have HF9 := Aside0.mk hf9; have HA9 := Aside0.mk ha9; clear hr9 hf9 ha9)))
              go_roundw
              case rel => exact ⟨i + 1, _, A9, c9, by omega, rfl, by go_num, ⟨by rw [HSn.out, ← hll]; exact HR9.out⟩, ⟨HW2.out.trans (HF9.out.below hs2 (fun k hk => Kd.R_base HR2.out k hk.symm))⟩⟩
              case measure => simp [intOf]; omega
        · have hin : i = n := by omega
          subst hin
          go_wp2_with fail
          go_ret2
          exact ⟨_, rfl, HR.out, HW.out⟩
end Go.Proofs.Ytagcabmccpekaaa.M

set_option linter.unusedVariables false
set_option linter.unusedSimpArgs false
namespace Go.Proofs.Ytagcabmccpekaaa.M
open Go.RowKit

/-- From here on one operation alone may come up, each time. -/
def seqK (md : Region.Mode) (ops : Array Oper) : List Nat → Array Bool → Bool
  | [], listed => (Region.ready md ops listed).isEmpty
  | k :: ks, listed => decide (Region.ready md ops listed = [k]) && seqK md ops ks (listed.setIfInBounds k true)
theorem wpAny_seqK {P : Program} {md : Region.Mode} {ops : Array Oper} {Q : Exit → Act → World → Prop} : ∀ (ks : List Nat) (l : List Oper) (listed : Array Bool) (a : Act) (w : World), seqK md ops ks listed = true → l = ks.filterMap (fun k => ops[k]?) → wpList P ops Q l a w → wpAny P md ops Q ks.length listed a w
  | [], l, listed, a, w, hB, hl, h => by subst hl; exact ⟨by simpa [seqK] using hB, h⟩
  | k :: ks, l, listed, a, w, hB, hl, h => by
    simp only [seqK, Bool.and_eq_true, decide_eq_true_eq] at hB
    refine ⟨fun h1 => (by rw [hB.1] at h1; cases h1), fun i hi => ?_⟩
    rw [hB.1] at hi
    have hik : i = k := by simpa using hi
    subst hik
    cases ho : ops[i]? with
    | none =>
      unfold wpOp
      simp only [ho]
      refine wpAny_seqK ks l _ a w hB.2 ?_ h
      rw [hl, List.filterMap_cons, ho]
    | some o =>
      rw [List.filterMap_cons, ho] at hl
      subst hl
      have hw : wpOp P ops Q i (wpList P ops Q (ks.filterMap (fun k => ops[k]?))) a w := by unfold wpOp; simp only [ho]; exact h
      exact wpOp_mono (fun a' w' h' => wpAny_seqK ks _ _ a' w' hB.2 rfl h') hw
theorem wpList_one {P : Program} {ops : Array Oper} {K : Act → World → Prop} {a : Act} {w : World} (h : K a w) : wpList P ops (fun e a w => e = .normal ∧ K a w) [] a w := ⟨rfl, h⟩
def noOper : Oper := { dst := none, op := .move (.tmp 0), type := 0, pos := "", after := #[], guard := none }
/-- The same, the list to be written out. -/
theorem wpAny_seqL {P : Program} {md : Region.Mode} {ops : Array Oper} {Q : Exit → Act → World → Prop} (ks : List Nat) (listed : Array Bool) (a : Act) (w : World) (hB : (seqK md ops ks listed && ks.all fun k => decide (k < ops.size)) = true) (h : wpList P ops Q (ks.map (fun k => (ops[k]?).getD noOper)) a w) : wpAny P md ops Q ks.length listed a w := by
  rw [Bool.and_eq_true, List.all_eq_true] at hB
  refine wpAny_seqK ks _ listed a w hB.1 ?_ h
  have hk := hB.2
  clear hB h
  induction ks with
  | nil => rfl
  | cons k ks ih =>
    have h1 : k < ops.size := by simpa using hk k List.mem_cons_self
    rw [List.map_cons, List.filterMap_cons, ih (fun x hx => hk x (List.mem_cons_of_mem _ hx)), Array.getElem?_eq_getElem h1]
    rfl
/-- A region that is shown to come to its end. -/
theorem wp_region_normal {P : Program} {id : Nat} {ops : Array Oper} {b : Bool} {Q : Exit → Act → World → Prop} {a : Act} {w : World} (h : ∀ K : Act → World → Prop, (∀ a w, Q .normal a w → K a w) → (Code.region id ops b).wp P (fun e a w => e = .normal ∧ K a w) a w) : (Code.region id ops b).wp P Q a w :=
  Code.wp_mono (fun e a w he => by obtain ⟨rfl, hk⟩ := he; exact hk) (h (fun a w => Q .normal a w) (fun _ _ hq => hq))
end Go.Proofs.Ytagcabmccpekaaa.M

set_option linter.unusedVariables false
set_option linter.unusedSimpArgs false
namespace Go.Proofs.Ytagcabmccpekaaa.M
open Go.RowKit Go.Proofs.YtagcabmccpekaaaW.PrintWords Go.Proofs.YtagcabmccpekaaaW.PrintLast Go.Proofs.YtagcabmccpekaaaW.PrintMore Go.Proofs.Ytagcabmccpekaaa.Leaf

end Go.Proofs.Ytagcabmccpekaaa.M

set_option linter.unusedVariables false
set_option linter.unusedSimpArgs false
namespace Go.Proofs.Ytagcabmccpekaaa.M
open Go.RowKit Go.Proofs.YtagcabmccpekaaaW.PrintWords Go.Proofs.YtagcabmccpekaaaW.PrintLast Go.Proofs.YtagcabmccpekaaaW.PrintMore Go.Proofs.Ytagcabmccpekaaa.Leaf

end Go.Proofs.Ytagcabmccpekaaa.M

set_option linter.unusedVariables false
set_option linter.unusedSimpArgs false
namespace Go.Proofs.Ytagcabmccpekaaa.M
open Go.RowKit Go.Proofs.YtagcabmccpekaaaW.PrintWords Go.Proofs.YtagcabmccpekaaaW.PrintLast Go.Proofs.YtagcabmccpekaaaW.PrintMore Go.Proofs.Ytagcabmccpekaaa.Leaf

end Go.Proofs.Ytagcabmccpekaaa.M

set_option linter.unusedVariables false
set_option linter.unusedSimpArgs false
namespace Go.Proofs.Ytagcabmccpekaaa.M
open Go.RowKit Go.Proofs.YtagcabmccpekaaaW.PrintWords Go.Proofs.YtagcabmccpekaaaW.PrintLast Go.Proofs.YtagcabmccpekaaaW.PrintMore Go.Proofs.Ytagcabmccpekaaa.Leaf

end Go.Proofs.Ytagcabmccpekaaa.M

set_option linter.unusedVariables false
set_option linter.unusedSimpArgs false
namespace Go.Proofs.Ytagcabmccpekaaa.M
open Go.RowKit Go.Proofs.YtagcabmccpekaaaW.PrintWords Go.Proofs.YtagcabmccpekaaaW.PrintLast Go.Proofs.YtagcabmccpekaaaW.PrintMore Go.Proofs.Ytagcabmccpekaaa.Leaf

/-- In massiflaw10.apart: the two rows, j numbers of which have been marked, and the two variables that hold them. -/
structure ApL (B n0 : Nat) (va vb : Value) (xs ys : List Int) (w wr : World) : Prop where
  ra : Kd.R (Kd.int .u64) 22 wr B (fun _ => True) va xs
  rb : Kd.R (Kd.int .u64) 22 wr B (fun _ => True) vb ys
  ba : wr.heap[n0]? = some (.cells #[.int .u64 0, va, .slice none 0 0] 63 (0, 0))
  bb : wr.heap[n0 + 1]? = some (.cells #[.int .u64 0, vb, .slice none 0 0] 63 (0, 0))
  be : Below B w wr
theorem ApL.below {B n0 : Nat} {va vb : Value} {xs ys : List Int} {w wr w1 : World} (h : ApL B n0 va vb xs ys w wr) (hb : Below wr.heap.size wr w1) (hB : B ≤ wr.heap.size) : ApL B n0 va vb xs ys w w1 :=
  ⟨Kd.R_below h.ra hb, Kd.R_below h.rb hb, (hb.block _ (blk_lt h.ba)).trans h.ba, (hb.block _ (blk_lt h.bb)).trans h.bb, below_on h.be hB hb⟩
theorem ApL.next {B n0 ga gb na nb ca cb : Nat} {xs ys : List Int} {w wr : World} (h : ApL B n0 (.slice (some ⟨ga, 0, none⟩) na ca) (.slice (some ⟨gb, 0, none⟩) nb cb) xs ys w wr) (j : Nat) (x y : Int) (hne : ga ≠ gb) :
    ApL B n0 (.slice (some ⟨ga, 0, none⟩) na ca) (.slice (some ⟨gb, 0, none⟩) nb cb) (xs.set j x) (ys.set j y) w ((wr.setCell ⟨ga, j, none⟩ (.int .u64 x)).setCell ⟨gb, j, none⟩ (.int .u64 y)) ∧
    ApL B n0 (.slice (some ⟨ga, 0, none⟩) na ca) (.slice (some ⟨gb, 0, none⟩) nb cb) (xs.set j x) (ys.set j y) w ((wr.setCell ⟨gb, j, none⟩ (.int .u64 y)).setCell ⟨ga, j, none⟩ (.int .u64 x)) := by
  have oa : (Value.slice (some ⟨ga, 0, none⟩) na ca).ownBlock = some ga := by simp [Value.ownBlock]
  have ob : (Value.slice (some ⟨gb, 0, none⟩) nb cb).ownBlock = some gb := by simp [Value.ownBlock]
  have na0 : n0 ≠ ga := fun he => Kd.R_ne h.ra h.ba (by decide) (by rw [oa, he])
  have na1 : n0 + 1 ≠ ga := fun he => Kd.R_ne h.ra h.bb (by decide) (by rw [oa, he])
  have nb0 : n0 ≠ gb := fun he => Kd.R_ne h.rb h.ba (by decide) (by rw [ob, he])
  have nb1 : n0 + 1 ≠ gb := fun he => Kd.R_ne h.rb h.bb (by decide) (by rw [ob, he])
  have hba := Kd.R_base h.ra ga oa
  have hbb := Kd.R_base h.rb gb ob
  constructor
  · have s1 := Kd.R_putn h.ra (j : Int) x
    rw [Int.toNat_natCast] at s1
    have f1 := Frm.of_set wr ⟨ga, j, none⟩ (.int .u64 x)
    have f2 := Frm.of_set (wr.setCell ⟨ga, j, none⟩ (.int .u64 x)) ⟨gb, j, none⟩ (.int .u64 y)
    have r2 := R_frm (flat_int .u64) h.rb f1 (fun k hk he => by rw [ob] at hk; injection hk with hk; exact hne (by rw [hk]; exact he.symm))
    have s2 := Kd.R_putn r2 (j : Int) y
    rw [Int.toNat_natCast] at s2
    refine ⟨R_frm (flat_int .u64) s1 f2 (fun k hk he => by rw [oa] at hk; injection hk with hk; exact hne (by rw [hk]; exact he)), s2, ?_, ?_, (h.be.setCell hba _).setCell hbb _⟩
    · exact (Below.heap_setCell _ ⟨gb, j, none⟩ _ n0 nb0).trans ((Below.heap_setCell _ ⟨ga, j, none⟩ _ n0 na0).trans h.ba)
    · exact (Below.heap_setCell _ ⟨gb, j, none⟩ _ _ nb1).trans ((Below.heap_setCell _ ⟨ga, j, none⟩ _ _ na1).trans h.bb)
  · have s1 := Kd.R_putn h.rb (j : Int) y
    rw [Int.toNat_natCast] at s1
    have f1 := Frm.of_set wr ⟨gb, j, none⟩ (.int .u64 y)
    have f2 := Frm.of_set (wr.setCell ⟨gb, j, none⟩ (.int .u64 y)) ⟨ga, j, none⟩ (.int .u64 x)
    have r2 := R_frm (flat_int .u64) h.ra f1 (fun k hk he => by rw [oa] at hk; injection hk with hk; exact hne (by rw [hk]; exact he))
    have s2 := Kd.R_putn r2 (j : Int) x
    rw [Int.toNat_natCast] at s2
    refine ⟨s2, R_frm (flat_int .u64) s1 f2 (fun k hk he => by rw [ob] at hk; injection hk with hk; exact hne (by rw [hk]; exact he.symm)), ?_, ?_, (h.be.setCell hbb _).setCell hba _⟩
    · exact (Below.heap_setCell _ ⟨ga, j, none⟩ _ n0 na0).trans ((Below.heap_setCell _ ⟨gb, j, none⟩ _ n0 nb0).trans h.ba)
    · exact (Below.heap_setCell _ ⟨ga, j, none⟩ _ _ na1).trans ((Below.heap_setCell _ ⟨gb, j, none⟩ _ _ nb1).trans h.bb)
/-- What the writing of one place of each reads and needs, in either order. -/
theorem ApL.form {B n0 : Nat} {Aa Ab : Option Addr} {na nb ca cb : Nat} {xs ys : List Int} {w wr : World} (h : ApL B n0 (.slice Aa na ca) (.slice Ab nb cb) xs ys w wr) {j : Nat} (hj : j < xs.length) (hj2 : j < ys.length) (hab : Apart (.slice Aa na ca) (.slice Ab nb cb)) :
    ∃ ga gb, Aa = some ⟨ga, 0, none⟩ ∧ Ab = some ⟨gb, 0, none⟩ ∧ ga ≠ gb ∧ (∃ x : Int, wr.cell? ⟨ga, j, none⟩ = some (.int .u64 x) ∧ ∀ u, (wr.setCell ⟨gb, j, none⟩ u).cell? ⟨ga, j, none⟩ = some (.int .u64 x)) ∧ (∃ x : Int, wr.cell? ⟨gb, j, none⟩ = some (.int .u64 x) ∧ ∀ u, (wr.setCell ⟨ga, j, none⟩ u).cell? ⟨gb, j, none⟩ = some (.int .u64 x)) ∧
      wr.frozen? ⟨ga, j, none⟩ = false ∧ wr.frozen? ⟨gb, j, none⟩ = false ∧ (∀ u, (wr.setCell ⟨ga, j, none⟩ u).frozen? ⟨gb, j, none⟩ = false) ∧ (∀ u, (wr.setCell ⟨gb, j, none⟩ u).frozen? ⟨ga, j, none⟩ = false) ∧
      (∀ u, (wr.setCell ⟨ga, j, none⟩ u).cell? ⟨n0, 1, none⟩ = some (.slice Aa na ca) ∧ (wr.setCell ⟨ga, j, none⟩ u).cell? ⟨n0 + 1, 1, none⟩ = some (.slice Ab nb cb)) ∧ (∀ u, (wr.setCell ⟨gb, j, none⟩ u).cell? ⟨n0, 1, none⟩ = some (.slice Aa na ca) ∧ (wr.setCell ⟨gb, j, none⟩ u).cell? ⟨n0 + 1, 1, none⟩ = some (.slice Ab nb cb)) := by
  obtain ⟨h1, h2, h3, h4, h5⟩ := h
  obtain ⟨ga, cap, ea, _, _, _⟩ := Kd.R_form h1 (by omega)
  obtain ⟨gb, capb, eb, _, _, _⟩ := Kd.R_form h2 (by omega)
  injection ea with ea1 ea2 ea3
  injection eb with eb1 eb2 eb3
  subst ea1 ea2 ea3 eb1 eb2 eb3
  have hne : ga ≠ gb := fun he => hab ga (by simp [Value.ownBlock]) (by simp [Value.ownBlock, he])
  obtain ⟨k1, k2⟩ := Kd.R_celln 0 h1 (j : Int) (by omega) (by omega)
  obtain ⟨k3, k4⟩ := Kd.R_celln 0 h2 (j : Int) (by omega) (by omega)
  rw [Int.toNat_natCast] at k1 k2 k3 k4
  have hb : ∀ u, (wr.setCell ⟨ga, j, none⟩ u).heap[gb]? = wr.heap[gb]? := fun u => Below.heap_setCell wr ⟨ga, j, none⟩ u gb (fun he => hne he.symm)
  have ha : ∀ u, (wr.setCell ⟨gb, j, none⟩ u).heap[ga]? = wr.heap[ga]? := fun u => Below.heap_setCell wr ⟨gb, j, none⟩ u ga (fun he => hne he)
  have oa : ∀ n c, (Value.slice (some ⟨ga, 0, none⟩) n c).ownBlock = some ga := fun _ _ => by simp [Value.ownBlock]
  have ob : ∀ n c, (Value.slice (some ⟨gb, 0, none⟩) n c).ownBlock = some gb := fun _ _ => by simp [Value.ownBlock]
  have na0 : n0 ≠ ga := fun he => Kd.R_ne h1 h3 (by decide) (by rw [oa, he])
  have na1 : n0 + 1 ≠ ga := fun he => Kd.R_ne h1 h4 (by decide) (by rw [oa, he])
  have nb0 : n0 ≠ gb := fun he => Kd.R_ne h2 h3 (by decide) (by rw [ob, he])
  have nb1 : n0 + 1 ≠ gb := fun he => Kd.R_ne h2 h4 (by decide) (by rw [ob, he])
  refine ⟨ga, gb, rfl, rfl, hne, ⟨_, k1, fun u => (World.cell?_of_block (a := ⟨ga, j, none⟩) (ha u)).trans k1⟩, ⟨_, k3, fun u => (World.cell?_of_block (a := ⟨gb, j, none⟩) (hb u)).trans k3⟩, k2, k4, fun u => (World.frozen?_of_block (a := ⟨gb, j, none⟩) (hb u)).trans k4, fun u => (World.frozen?_of_block (a := ⟨ga, j, none⟩) (ha u)).trans k2, fun u => ⟨?_, ?_⟩, fun u => ⟨?_, ?_⟩⟩
  · exact (blk_cell ((Below.heap_setCell wr ⟨ga, j, none⟩ u n0 na0).trans h3) 1).trans rfl
  · exact (blk_cell ((Below.heap_setCell wr ⟨ga, j, none⟩ u _ na1).trans h4) 1).trans rfl
  · exact (blk_cell ((Below.heap_setCell wr ⟨gb, j, none⟩ u n0 nb0).trans h3) 1).trans rfl
  · exact (blk_cell ((Below.heap_setCell wr ⟨gb, j, none⟩ u _ nb1).trans h4) 1).trans rfl
/-- In massiflaw10.apart, behind the loops: rows that grow, and the two variables that still hold what they held. -/
structure Ap2 (B n0 : Nat) (oa ob va vb : Value) (xs ys : List Int) (w wr : World) : Prop where
  ra : Kd.R (Kd.int .u64) 22 wr B (fun _ => True) va xs
  rb : Kd.R (Kd.int .u64) 22 wr B (fun _ => True) vb ys
  ba : wr.heap[n0]? = some (.cells #[.int .u64 0, oa, .slice none 0 0] 63 (0, 0))
  bb : wr.heap[n0 + 1]? = some (.cells #[.int .u64 0, ob, .slice none 0 0] 63 (0, 0))
  be : Below B w wr
  sz : B ≤ wr.heap.size
  ap : Apart va vb
theorem Ap2.below {B n0 : Nat} {oa ob va vb : Value} {xs ys : List Int} {w wr w1 : World} (h : Ap2 B n0 oa ob va vb xs ys w wr) (hb : Below wr.heap.size wr w1) : Ap2 B n0 oa ob va vb xs ys w w1 :=
  ⟨Kd.R_below h.ra hb, Kd.R_below h.rb hb, (hb.block _ (blk_lt h.ba)).trans h.ba, (hb.block _ (blk_lt h.bb)).trans h.bb, below_on h.be h.sz hb, Nat.le_trans h.sz hb.size, h.ap⟩
theorem Ap2.cells {B n0 : Nat} {oa ob va vb : Value} {xs ys : List Int} {w wr wc : World} (h : Ap2 B n0 oa ob va vb xs ys w wr) (hb : Below wr.heap.size wr wc) : wc.cell? ⟨n0, 1, none⟩ = some oa ∧ wc.cell? ⟨n0 + 1, 1, none⟩ = some ob :=
  ⟨(blk_cell (h.below hb).ba 1).trans rfl, (blk_cell (h.below hb).bb 1).trans rfl⟩
/-- The two rows of hashes. -/
structure Ap3 (B : Nat) (ve vf : Value) (hs gs : List Hsh) (wr : World) : Prop where
  re : kH.R 73 wr B (fun _ => True) ve hs
  rf : kH.R 73 wr B (fun _ => True) vf gs
  ap : Apart ve vf
  sz : B ≤ wr.heap.size
theorem Ap3.below {B : Nat} {ve vf : Value} {hs gs : List Hsh} {wr w1 : World} (h : Ap3 B ve vf hs gs wr) (hb : Below wr.heap.size wr w1) : Ap3 B ve vf hs gs w1 := ⟨Kd.R_below h.re hb, Kd.R_below h.rf hb, h.ap, Nat.le_trans h.sz hb.size⟩
end Go.Proofs.Ytagcabmccpekaaa.M
