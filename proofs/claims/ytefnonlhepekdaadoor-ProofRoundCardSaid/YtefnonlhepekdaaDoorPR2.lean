/- cut.Span. massifref4.Span. proof.PrefixPlaces, massifref7.PrefixPlaces. massifref7.PrefixPlaces. proof.EncodePrefix. massifref7.Put: hashes behind bytes. massifref7.Encode. massifref7.EncodePrefix. massiflaw7.awake. Rows of numbers: SameNumbers; massiflaw7.numbers, all; a row of one's own within a range of blocks. massiflaw7.row, text, marked, still, bytes; massifref7.SameHashes and massifref2.SameBytes of what is the same. Four rows of bytes of one's own, each apart from the others; what is no row of bytes stays as it was. massiflaw7.ProofWrites returns true: the walk. What bytes read as a proof, or as a prefix proof: plain facts, there and back. proof.reader: number. proof.reader: nodes. proof.Decode. -/
import Derived.Test.YtefnonlhepekdaaDoorPR1
import Derived.Test.YtefnonlhepekdaaDoorPR0
import Derived.Deep.RegionHeld3
import Derived.BigQuiet
import Derived.Laws.Cover3
import Derived.StillTailTactics
set_option linter.unusedVariables false
set_option linter.unusedSimpArgs false
set_option linter.unusedVariables false
set_option linter.unusedSimpArgs false
namespace Go.Proofs.YtefnonlhepekdaaDoor.M
open Go.RowKit Go.Proofs.YtefnonlhepekdaaDoorW.PrintWords Go.Proofs.YtefnonlhepekdaaDoorW.PrintLast Go.Proofs.YtefnonlhepekdaaDoorW.PrintMore Go.Proofs.YtefnonlhepekdaaDoor.Leaf

set_option maxHeartbeats 1000000 in
set_option maxRecDepth 100000 in
theorem span_calls (a b : Nat) (w : World) (ha : a < 18446744073709551616) (hb : b ≤ 4611686018427387904) (hT : DB w) :
    Calls Tryd.prog 43 #[.int .u64 a, .int .u64 b] w fun e w' => ∃ v, e = .returned v ∧ kS.R 74 w' w.heap.size (fun _ => True) v (spanN a b) ∧ Below w.heap.size w w' := by
  have HT := Aside0.mk hT
  have hlen := span_len a b hb
  have HL := Aside0.mk hlen
  clear hT hlen
  have hd : ¬ ((b : Int) > 4611686018427387904) := by omega
  go_enter Tryd.func43, Tryd.ntmps43
  go_wp2_with fail
  go_loopw [0, 5] (fun q s wr => ∃ (c : Nat) (P : List (Nat × Nat)), c < 18446744073709551616 ∧ q = .int .u64 c ∧ Aside0 (P ++ spanN c b = spanN a b) ∧ Aside0 (kS.R 74 wr w.heap.size (fun _ => True) s P) ∧ Aside0 (Below w.heap.size w wr)) (fun q _ _ => b - (intOf q).toNat)
  case atStart => exact ⟨a, [], ha, rfl, ⟨rfl⟩, ⟨Kd.R_nil _ _ _ _ _⟩, ⟨Below.refl _ _⟩⟩
  case round =>
    obtain ⟨c, P, hc, rfl, HP, HS, HB⟩ := hrel
    by_cases hlt : c < b
    · obtain ⟨k1, k2, k3⟩ := h_facts hlt hb
      have hstep := span_step hlt hb
      have hPl : P.length ≤ 127 := by have := HL.out; rw [← HP.out, List.length_append] at this; omega
      have hsub : IntKind.u64.wrap ((b : Int) - (c : Int)) = ((b - c : Nat) : Int) := by rw [IntKind.wrap_u64]; omega
      have hp := p2_pos (hN c b)
      have hmin : min (loN c : Int) ((Lib.bitLen (b - c) - 1 : Nat) : Int) = (hN c b : Int) := by unfold hN; omega
      have hu8 : IntKind.u8.wrap (hN c b : Int) = (hN c b : Int) := by rw [IntKind.wrap_u8]; omega
      have hshr := shr_nat c (hN c b) (by omega)
      have hshl : shl .u64 1 (hN c b : Int) = ((2 ^ hN c b : Nat) : Int) := by have := shl_nat 1 (hN c b) (by omega) (by omega); rwa [Nat.one_mul] at this
      have hadd : IntKind.u64.wrap ((c : Int) + ((2 ^ hN c b : Nat) : Int)) = ((c + 2 ^ hN c b : Nat) : Int) := by rw [IntKind.wrap_u64]; omega
      have hne : b - c ≠ 0 := by omega
      have hble : b - c ≤ 4611686018427387904 := by omega
      obtain ⟨dd, hdd⟩ : ∃ d, d = b - c := ⟨_, rfl⟩
      rw [← hdd] at hsub hne hble hmin
      have HHI := Aside0.mk (high_calls dd hne hble)
      have HLO := Aside0.mk (low_calls c hc)
      have HST := Aside0.mk hstep
      have HK := Aside0.mk (show c + 2 ^ hN c b ≤ b by omega)
      have hs5 := HB.out.size
      have HHC := Aside0.mk (show ((hN c b : Nat) : Int) = (hN c b : Int) from rfl)
      clear hstep hne hble hdd k2 k3
      generalize Lib.bitLen dd - 1 = uu at *
      generalize hN c b = hh at *
      generalize loN c = lo at *
      obtain ⟨qq, hqq⟩ : ∃ q, q = c / 2 ^ hh := ⟨_, rfl⟩
      obtain ⟨pp, hpp⟩ : ∃ p, p = 2 ^ hh := ⟨_, rfl⟩
      obtain ⟨c2, hc2⟩ : ∃ z, z = c + pp := ⟨_, rfl⟩
      have hq2 : (c : Int) / 2 ^ hh = (qq : Int) := by rw [hqq]; push_cast; rfl
      have hp2 : IntKind.u64.wrap ((2 : Int) ^ hh) = (pp : Int) := by
        have h2 : ((2 : Int) ^ hh) = (pp : Int) := by rw [hpp]; push_cast; rfl
        have hk := HK.out
        rw [← hpp] at hk
        rw [h2, IntKind.wrap_u64]
        omega
      rw [← hqq] at hshr HST
      rw [← hpp] at hshl hadd HK hp HST
      rw [← hc2] at hadd HK HST
      have HC2 := Aside0.mk hc2
      clear hqq hpp hc2
      obtain ⟨As, ms, cs, e9⟩ : ∃ A m c, u5 = .slice A m c := by obtain ⟨A, c, h⟩ := Kd.R_slice HS.out; exact ⟨A, _, c, h⟩
      subst e9
      go_wp2_with fail
      refine (HLO.out _ (HT.out.below HB.out)).mono ?_
      rintro e w1 ⟨rfl, rfl⟩
      go_wp2_with fail
      refine (HHI.out _).mono ?_
      rintro e w2 ⟨rfl, hd2⟩
      have hs7 := hd2.below.size
      have HR2 := Aside0.mk (Kd.R_below HS.out hd2.below)
      have HB2 := Aside0.mk (blt HB.out hd2.below)
      have hbase : w.heap.size ≤ w2.heap.size := by omega
      clear hd2 HS HB hs5 hs7
      go_wp2_with ((with_reducible refine gate_builtin (b := .append) (xs := #[.tmp 19, .tmp 26]) rfl ?_); at_builtin; go_loud (refine app_oneN kS w.heap.size rfl (.tmp 19) (.tmp 26) 70 74 (.agg #[.int .u8 0, .int .u64 0]) 16 rfl Tryd.underlying70 infoS rfl (by decide) (by decide) (.slice As ms cs) P (hh, qq) (spCells (hh, qq)) rfl rfl rfl HR2.out hbase (by omega) ?_; intro A9 n9 c9 w9 hr9 hf9 ha9; have HR9 := Aside0.mk hr9; have HF9 := Aside0.mk hf9; have HA9 := Aside0.mk ha9; clear hr9 hf9 ha9))
      go_roundw
      case rel => exact ⟨c2, P ++ [(hh, qq)], by have := HK.out; omega, by go_num, ⟨by rw [List.append_assoc, List.singleton_append, ← HST.out]; exact HP.out⟩, HR9, ⟨HB2.out.trans (HF9.out.below hbase (fun k hk => Kd.R_base HR2.out k hk.symm))⟩⟩
      case measure => have := HC2.out; have := HK.out; simp [intOf]; omega
    · have hcb : b ≤ c := by omega
      have hPf := HP.out
      rw [span_stop hcb, List.append_nil] at hPf
      have HPf := Aside0.mk hPf
      clear hPf hcb
      obtain ⟨As, ms, cs, e9⟩ : ∃ A m c, u5 = .slice A m c := by obtain ⟨A, c, h⟩ := Kd.R_slice HS.out; exact ⟨A, _, c, h⟩
      subst e9
      go_wp2_with fail
      go_ret
      exact ⟨_, rfl, HPf.out ▸ HS.out, HB.out⟩
end Go.Proofs.YtefnonlhepekdaaDoor.M

set_option linter.unusedVariables false
set_option linter.unusedSimpArgs false
namespace Go.Proofs.YtefnonlhepekdaaDoor.M
open Go.RowKit Go.Proofs.YtefnonlhepekdaaDoorW.PrintWords Go.Proofs.YtefnonlhepekdaaDoorW.PrintLast Go.Proofs.YtefnonlhepekdaaDoorW.PrintMore Go.Proofs.YtefnonlhepekdaaDoor.Leaf

end Go.Proofs.YtefnonlhepekdaaDoor.M

set_option linter.unusedVariables false
set_option linter.unusedSimpArgs false
namespace Go.Proofs.YtefnonlhepekdaaDoor.M
open Go.RowKit Go.Proofs.YtefnonlhepekdaaDoorW.PrintWords Go.Proofs.YtefnonlhepekdaaDoorW.PrintLast Go.Proofs.YtefnonlhepekdaaDoorW.PrintMore Go.Proofs.YtefnonlhepekdaaDoor.Leaf

theorem at_spot {w : World} {A : Option Addr} {n : Nat} {xs : List (Nat × Nat)} (h : kS.C w A n xs) (j : Nat) (hj : j < n) : ∃ ad : Addr, A = some ad ∧ w.cell? (ad.add (j * 2)) = some (.int .u8 ((xs.getD j (0, 0)).1 : Int)) ∧ w.cell? ⟨(ad.add (j * 2)).block, (ad.add (j * 2)).off + 1, none⟩ = some (.int .u64 ((xs.getD j (0, 0)).2 : Int)) := by
  obtain ⟨ad, c, e, _, hK, hc0⟩ := Kd.C_get h (0, 0) (j : Int) (by omega) (by omega)
  have hc : ∀ k u, c[k]? = some u → w.cell? (ad.add (j * 2 + k)) = some u := hc0
  have hK : c = spCells (xs.getD j (0, 0)) := hK
  subst hK
  exact ⟨ad, e, hc 0 _ rfl, by rw [← add_field _ _ 1 (by omega)]; exact hc 1 _ rfl⟩
theorem place_calls (h i : Nat) (w : World) (hi : (i + 1) * 2 ^ h ≤ 4611686018427387904) :
    Calls Tryd.prog 67 #[.agg #[.int .u8 h, .int .u64 i]] w fun e w' => e = .returned (.tuple #[.int .u64 ((placeN h i : Nat) : Int), .bool true]) ∧ Below w.heap.size w w' :=
  pos_Place.calls _ _ _ _ w (place_val h i hi)
theorem peaks_calls (n : Nat) (w : World) (hn : n ≤ 4611686018427387904) :
    Calls Tryd.prog 66 #[.int .u64 n] w fun e w' => ∃ v, e = .returned v ∧ Kd.R (Kd.int .u64) 30 w' w.heap.size (fun _ => True) v (placesOf (topsN n)) ∧ Below w.heap.size w w' := by
  obtain ⟨k, hk⟩ := (peaks_val n hn).rounds
  exact pos_Peaks.calls k n _ w hk
theorem pref_none (m n : Nat) (w : World) (h : 4611686018427387904 < n ∨ n < m) :
    Calls Tryd.prog 19 #[.int .u64 m, .int .u64 n] w fun e w' => e = .returned (.tuple #[.slice none 0 0, .int .i64 30]) ∧ Below w.heap.size w w' := by
  by_cases hn : 4611686018427387904 < n
  · have hd : ((n : Int) > 4611686018427387904) := by omega
    clear h
    go_enter Tryd.func19, Tryd.ntmps19
    go_wp2
    go_ret2
    exact ⟨rfl, Below.refl _ _⟩
  · have hd : ¬ ((n : Int) > 4611686018427387904) := by omega
    have hm : (m : Int) > (n : Int) := by omega
    clear h
    go_enter Tryd.func19, Tryd.ntmps19
    go_wp2
    go_ret2
    exact ⟨rfl, Below.refl _ _⟩
set_option maxHeartbeats 1000000 in
set_option maxRecDepth 100000 in
theorem pref_some (m n : Nat) (w : World) (hmn : m ≤ n) (hn : n ≤ 4611686018427387904) (hT : DB w) :
    Calls Tryd.prog 19 #[.int .u64 m, .int .u64 n] w fun e w' => ∃ v, e = .returned (.tuple #[v, .int .i64 0]) ∧ Kd.R (Kd.int .u64) 30 w' w.heap.size (fun _ => True) v (placesOf (prefN m n)) ∧ Below w.heap.size w w' := by
  have hd : ¬ ((n : Int) > 4611686018427387904) := by omega
  have hd2 : ¬ ((m : Int) > (n : Int)) := by omega
  have HT := Aside0.mk hT
  have HPK := Aside0.mk (fun W => peaks_calls m W (Nat.le_trans hmn hn))
  have HSP := Aside0.mk (fun W => span_calls m n W (by omega) hn)
  have hL1 : (placesOf (topsN m)).length ≤ 63 := by simp only [placesOf, List.length_map]; exact topsF_len 63 m
  have HL := Aside0.mk hL1
  have HS1 := Aside0.mk (span_len m n hn)
  have HF := Aside0.mk (fun s hs => Nat.le_trans (span_fit n hn (n - m) m (Nat.le_refl _) s hs).1 hn)
  have HN := Aside0.mk (show placesOf (prefN m n) = placesOf (topsN m) ++ placesOf (spanN m n) by unfold prefN placesOf; rw [List.map_append])
  clear hT hmn hn hL1
  generalize spanN m n = L at *
  generalize placesOf (topsN m) = P0 at *
  go_enter Tryd.func19, Tryd.ntmps19
  go_wp2_with fail
  refine (HPK.out _).mono ?_
  rintro e w1 ⟨v1, rfl, hr1, hb1⟩
  have HR1 := Aside0.mk hr1
  have HB1 := Aside0.mk hb1
  clear hr1 hb1
  obtain ⟨A1, n1, c1, e9⟩ : ∃ A m c, v1 = .slice A m c := by obtain ⟨A, c, h⟩ := Kd.R_slice HR1.out; exact ⟨A, _, c, h⟩
  subst e9
  go_wp2_with fail
  refine (HSP.out _ (HT.out.below HB1.out)).mono ?_
  rintro e w2 ⟨v2, rfl, hr2, hb2⟩
  obtain ⟨A2, c2, e2⟩ := Kd.R_slice hr2
  subst e2
  have hbA := HB1.out.size
  have HC2 := Aside0.mk (Kd.R_lower hr2 hbA)
  have HR2 := Aside0.mk (Kd.R_below HR1.out hb2)
  have HB2 := Aside0.mk (blt HB1.out hb2)
  clear hr2 hb2 HR1 HSP HPK HT HB1 hbA
  go_wp2_with fail
  go_loopw [6, 24] (fun s q wr => ∃ j : Nat, j ≤ L.length ∧ q = .int .i64 j ∧ Aside0 (Kd.R (Kd.int .u64) 30 wr w.heap.size (fun _ => True) s (P0 ++ placesOf (L.take j))) ∧ Aside0 (kS.R 74 wr w.heap.size (fun _ => True) (.slice A2 L.length c2) L) ∧ Aside0 (Below w.heap.size w wr)) (fun _ q _ => L.length - (intOf q).toNat)
  case atStart => exact ⟨0, Nat.zero_le _, rfl, ⟨by rw [List.take_zero, show placesOf [] = [] from rfl, List.append_nil]; exact HR2.out⟩, HC2, HB2⟩
  case round =>
    obtain ⟨j, hj, rfl, HS, HC, HB⟩ := hrel
    have hL127 := HS1.out
    clear HC2 HB2 HR2
    obtain ⟨As, ms, cs, e9⟩ : ∃ A m c, u6 = .slice A m c := by obtain ⟨A, c, h⟩ := Kd.R_slice HS.out; exact ⟨A, _, c, h⟩
    subst e9
    by_cases hlt : j < L.length
    · obtain ⟨ad, ea, hx, hy⟩ := at_spot (R_C HC.out) j hlt
      subst ea
      have hfit := HF.out (L[j]) (List.getElem_mem hlt)
      have hcat : placesOf (L.take (j + 1)) = placesOf (L.take j) ++ [((placeN (L[j]).1 (L[j]).2 : Nat) : Int)] := by
        unfold placesOf
        rw [List.take_add_one, List.getElem?_eq_getElem hlt, List.map_append]
        rfl
      rw [List.getD_eq_getElem?_getD, List.getElem?_eq_getElem hlt] at hx hy
      simp only [Option.getD_some] at hx hy
      obtain ⟨sp, hsp⟩ : ∃ s, s = L[j] := ⟨_, rfl⟩
      rw [← hsp] at hfit hcat hx hy
      clear hsp
      obtain ⟨hh, ii⟩ := sp
      simp only at hfit hcat hx hy
      have HPL := Aside0.mk (fun W => place_calls hh ii W hfit)
      have HCat := Aside0.mk hcat
      have hlen : (placesOf (L.take j)).length ≤ 127 := by
        have := HS1.out
        simp only [placesOf, List.length_map, List.length_take]
        omega
      have hl0 := HL.out
      clear hfit hcat
      generalize placeN hh ii = pl at *
      obtain ⟨P1, hP1⟩ : ∃ P, P = P0 ++ placesOf (L.take j) := ⟨_, rfl⟩
      have hP1l : P1.length ≤ 190 := by rw [hP1, List.length_append]; omega
      rw [← hP1] at HS
      have HP1 := Aside0.mk hP1
      clear hP1 hlen hl0
      go_wp2_with fail
      refine (HPL.out _).mono ?_
      rintro e w4 ⟨rfl, hb4⟩
      have HB4 := Aside0.mk ((bl_new wr _).trans (hb4.mono (by simp)))
      have HR4 := Aside0.mk (Kd.R_below HS.out HB4.out)
      have HBW := Aside0.mk (blt HB.out HB4.out)
      have HC4 := Aside0.mk (Kd.R_below HC.out HB4.out)
      have HAP := Aside0.mk (show ∀ k, (Value.slice As ms cs).ownBlock = some k → (Value.slice (some ad) L.length c2).ownBlock = some k → False from fun k h1 h2 => own_types HR4.out HC4.out (by decide) h1 h2)
      have hbase : w.heap.size ≤ w4.heap.size := HBW.out.size
      clear hb4 HS HC
      go_wp2_with ((with_reducible refine gate_builtin (b := .append) (xs := #[.tmp 33, .tmp 35]) rfl ?_); at_builtin; go_loud (refine app_oneN (Kd.int .u64) w.heap.size rfl (.tmp 33) (.tmp 35) 31 30 (.int .u64 0) 8 rfl Tryd.underlying31 info30 rfl (by decide) (by omega) (.slice As ms cs) P1 (pl : Int) [.int .u64 (pl : Int)] rfl rfl rfl HR4.out hbase (by omega) ?_; intro A9 n9 c9 w9 hr9 hf9 ha9; have HR9 := Aside0.mk hr9; have HF9 := Aside0.mk hf9; have HA9 := Aside0.mk ha9; clear hr9 hf9 ha9))
      go_roundw
      case rel => exact ⟨j + 1, by omega, by go_num, ⟨by rw [HCat.out, ← List.append_assoc, ← HP1.out]; exact HR9.out⟩, ⟨R_frm flat_kS HC4.out HF9.out (fun k hk hs => HAP.out k hs.symm hk)⟩, ⟨HBW.out.trans (HF9.out.below hbase (fun k hk => Kd.R_base HR4.out k hk.symm))⟩⟩
      case measure => simp [intOf]; omega
    · have hjl : j = L.length := by omega
      subst hjl
      have hS := HS.out
      rw [List.take_length, ← HN.out] at hS
      have HS2 := Aside0.mk hS
      clear hS HS
      go_wp2_with fail
      go_ret2
      exact ⟨_, rfl, HS2.out, HB.out⟩
end Go.Proofs.YtefnonlhepekdaaDoor.M

set_option linter.unusedVariables false
set_option linter.unusedSimpArgs false
namespace Go.Proofs.YtefnonlhepekdaaDoor.M
open Go.RowKit Go.Proofs.YtefnonlhepekdaaDoorW.PrintWords Go.Proofs.YtefnonlhepekdaaDoorW.PrintLast Go.Proofs.YtefnonlhepekdaaDoorW.PrintMore Go.Proofs.YtefnonlhepekdaaDoor.Leaf

theorem pref_calls (m n : Nat) (w : World) (hT : DB w) :
    Calls Tryd.prog 19 #[.int .u64 m, .int .u64 n] w fun e w' => ∃ v, e = .returned (.tuple #[v, .int .i64 (prefAns m n).2]) ∧ Kd.R (Kd.int .u64) 30 w' w.heap.size (fun _ => True) v (prefAns m n).1 ∧ Below w.heap.size w w' := by
  by_cases h : 4611686018427387904 < n ∨ n < m
  · refine (pref_none m n w h).mono ?_
    rintro e w' ⟨he, hb⟩
    have e1 : prefAns m n = ([], 30) := if_pos h
    rw [e1]
    exact ⟨_, he, Kd.R_nil _ _ _ _ _, hb⟩
  · have e1 : prefAns m n = (placesOf (prefN m n), 0) := if_neg h
    rw [e1]
    exact pref_some m n w (by omega) (by omega) hT
end Go.Proofs.YtefnonlhepekdaaDoor.M

set_option linter.unusedVariables false
set_option linter.unusedSimpArgs false
namespace Go.Proofs.YtefnonlhepekdaaDoor.M
open Go.RowKit Go.Proofs.YtefnonlhepekdaaDoorW.PrintWords Go.Proofs.YtefnonlhepekdaaDoorW.PrintLast Go.Proofs.YtefnonlhepekdaaDoorW.PrintMore Go.Proofs.YtefnonlhepekdaaDoor.Leaf

/-- What proof.EncodePrefix answers. -/
def xencAns (m n : Nat) (ns : List Hsh) : List Int × Int := if (prefAns m n).2 ≠ 0 then ([], (prefAns m n).2) else if (prefAns m n).1.length ≠ ns.length then ([], 70) else (writeB 80 m n ns, 0)
set_option maxHeartbeats 2000000 in
set_option maxRecDepth 100000 in
theorem pref_encode (m n c : Nat) (ns : List Hsh) (A : Option Addr) (w : World) (hm : m < 18446744073709551616) (hn : n < 18446744073709551616) (hA : kH.C w A ns.length ns) (hT : DB w) :
    Calls Tryd.prog 28 #[.agg #[.int .u64 m, .int .u64 n, .slice A ns.length c]] w fun e w' => ∃ v, e = .returned (.tuple #[v, .int .i64 (xencAns m n ns).2]) ∧ Kd.R (Kd.int .u8) 5 w' w.heap.size (fun _ => True) v (xencAns m n ns).1 ∧ Below w.heap.size w w' := by
  have hp := fun W (hW : Below w.heap.size w W) => pref_calls m n W (hT.below hW)
  have hlen := prefAns_len m n
  have hdef : xencAns m n ns = if (prefAns m n).2 ≠ 0 then ([], (prefAns m n).2) else if (prefAns m n).1.length ≠ ns.length then ([], 70) else (writeB 80 m n ns, 0) := rfl
  generalize xencAns m n ns = E at *
  generalize (prefAns m n).1 = L at *
  generalize (prefAns m n).2 = er at *
  have HP := Aside0.mk hp
  have HE := Aside0.mk hdef
  have HN := Aside0.mk hA
  clear hp hdef hA hT
  go_enter Tryd.func28, Tryd.ntmps28
  go_wp2_with fail
  refine (HP.out _ (bl_new w _)).mono ?_
  rintro e w1 ⟨v1, rfl, hr, hb⟩
  obtain ⟨A1, cap1, e1⟩ := Kd.R_slice hr
  rw [e1]
  have hb0 : Below w.heap.size w w1 := (bl_new w _).trans (hb.mono (by simp))
  have hbx : w1.heap[w.heap.size]? = some (.cells #[.int .u64 m, .int .u64 n, .slice A ns.length c] 43 (0, 0)) := (hb.block _ (by simp)).trans (heap_new w _)
  have hx0 : w1.cell? ⟨w.heap.size, 0, none⟩ = some (.int .u64 m) := (blk_cell hbx 0).trans rfl
  have hx1 : w1.cell? ⟨w.heap.size, 1, none⟩ = some (.int .u64 n) := (blk_cell hbx 1).trans rfl
  have hx2 : w1.cell? ⟨w.heap.size, 2, none⟩ = some (.slice A ns.length c) := (blk_cell hbx 2).trans rfl
  have HB := Aside0.mk hb0
  clear hr hb hb0 hbx e1
  by_cases h0 : er = 0
  · subst h0
    by_cases hk2 : L.length = ns.length
    · have hd : ((L.length : Int) != (ns.length : Int)) = false := by rw [bne_eq_false_iff_eq]; omega
      have HK := Aside0.mk hk2
      have hle : ns.length ≤ 100000 := by omega
      clear hk2
      go_wp2_with fail
      refine (proof_write 80 m n c ns A w1 hm hn (Kd.C_below HN.out HB.out) hle).mono ?_
      rintro e w2 ⟨v2, rfl, hr2, hb2⟩
      obtain ⟨A2, l2, c2, e2⟩ : ∃ A l c, v2 = .slice A l c := (by obtain ⟨A, c, h⟩ := Kd.R_slice hr2; exact ⟨A, _, c, h⟩)
      have HR2 := Aside0.mk hr2
      have HE2 := Aside0.mk e2
      have HB2 := Aside0.mk hb2
      clear hr2 hb2 e2
      go_wp2_with fail
      go_ret2
      have he := HE.out
      rw [if_neg (by simp), if_neg (fun h => h HK.out)] at he
      rw [he]
      exact ⟨_, rfl, Kd.R_lower HR2.out HB.out.size, HB.out.trans (HB2.out.mono HB.out.size)⟩
    · have hd : ((L.length : Int) != (ns.length : Int)) = true := by rw [bne_iff_ne]; omega
      have HK := Aside0.mk hk2
      clear hk2
      go_wp2
      go_ret2
      have he := HE.out
      rw [if_neg (by simp), if_pos HK.out] at he
      rw [he]
      exact ⟨_, rfl, Kd.R_nil _ _ _ _ _, HB.out⟩
  · have hd : (er != 0) = true := by rw [bne_iff_ne]; exact h0
    have HK := Aside0.mk h0
    clear h0
    go_wp2
    go_ret2
    have he := HE.out
    rw [if_pos HK.out] at he
    rw [he]
    exact ⟨_, rfl, Kd.R_nil _ _ _ _ _, HB.out⟩
end Go.Proofs.YtefnonlhepekdaaDoor.M

set_option linter.unusedVariables false
set_option linter.unusedSimpArgs false
namespace Go.Proofs.YtefnonlhepekdaaDoor.M
open Go.RowKit Go.Proofs.YtefnonlhepekdaaDoorW.PrintWords Go.Proofs.YtefnonlhepekdaaDoorW.PrintLast Go.Proofs.YtefnonlhepekdaaDoorW.PrintMore Go.Proofs.YtefnonlhepekdaaDoor.Leaf

theorem nodes_size : ∀ l : List Hsh, (nodesI l).length = 32 * l.length
  | [] => rfl
  | x :: l => by
    rw [show nodesI (x :: l) = x.b ++ nodesI l from rfl, List.length_append, nodes_size l, x.len, List.length_cons]
    omega
end Go.Proofs.YtefnonlhepekdaaDoor.M

set_option linter.unusedVariables false
set_option linter.unusedSimpArgs false
namespace Go.Proofs.YtefnonlhepekdaaDoor.M
open Go.RowKit Go.Proofs.YtefnonlhepekdaaDoorW.PrintWords Go.Proofs.YtefnonlhepekdaaDoorW.PrintLast Go.Proofs.YtefnonlhepekdaaDoorW.PrintMore Go.Proofs.YtefnonlhepekdaaDoor.Leaf

end Go.Proofs.YtefnonlhepekdaaDoor.M

set_option linter.unusedVariables false
set_option linter.unusedSimpArgs false
namespace Go.Proofs.YtefnonlhepekdaaDoor.M
open Go.RowKit Go.Proofs.YtefnonlhepekdaaDoorW.PrintWords Go.Proofs.YtefnonlhepekdaaDoorW.PrintLast Go.Proofs.YtefnonlhepekdaaDoorW.PrintMore Go.Proofs.YtefnonlhepekdaaDoor.Leaf

end Go.Proofs.YtefnonlhepekdaaDoor.M

set_option linter.unusedVariables false
set_option linter.unusedSimpArgs false
namespace Go.Proofs.YtefnonlhepekdaaDoor.M
open Go.RowKit Go.Proofs.YtefnonlhepekdaaDoorW.PrintWords Go.Proofs.YtefnonlhepekdaaDoorW.PrintLast Go.Proofs.YtefnonlhepekdaaDoorW.PrintMore Go.Proofs.YtefnonlhepekdaaDoor.Leaf

theorem awake7_places : proofAns 1 7 = ([0, 5, 9, 10], 0) := by decide +kernel
theorem awake7_bytes : pencAns 0 1 [] = ([77, 1, 0], 0) := by decide +kernel

set_option maxHeartbeats 1000000 in
set_option maxRecDepth 100000 in
theorem awake7 (w : World) : Calls Tryd.prog 23 #[] w fun e w' => e = .returned (.bool true) ∧ Below w.heap.size w w' := by
  have hp := proof_places 1 7
  rw [awake7_places] at hp
  have HP := Aside0.mk hp
  clear hp
  go_enter Tryd.func23, Tryd.ntmps23
  go_wp2_with fail
  refine (HP.out _).mono ?_
  rintro e w1 ⟨v1, rfl, hr, hb⟩
  obtain ⟨A1, c1, e1, _, hC⟩ := Kd.R_reads hr
  obtain ⟨ad, ea, _⟩ := Kd.at_int hC 0 (by omega) (by simp)
  subst ea
  rw [e1]
  have HC := Aside0.mk hC
  have HB := Aside0.mk hb
  clear hr hb hC e1
  have he := proof_encode 0 1 0 [] none w1 (by omega) (by omega) ⟨rfl, by simp, fun h => absurd h (by simp)⟩
  rw [awake7_bytes] at he
  have HEn := Aside0.mk he
  clear he
  go_wp2_with fail
  refine HEn.out.mono ?_
  rintro e w2 ⟨v2, rfl, hr2, hb2⟩
  have hb3 : Below w1.heap.size w1 w2 := hb2
  obtain ⟨A2, c2, e2, _, hC2⟩ := Kd.R_reads hr2
  obtain ⟨ad2, ea2, k5⟩ := Kd.at_int hC2 0 (by omega) (by simp)
  subst ea2
  rw [e2]
  have at1 : ∀ i : Nat, i < 4 → w2.cell? (ad.add i) = some (.int .u64 (rd [0, 5, 9, 10] i)) := fun i hi => by
    obtain ⟨ad', ea', hx⟩ := Kd.at_int (Kd.C_below HC.out hb3) (i : Int) (by omega) (by simp; omega)
    injection ea' with ea'
    subst ea'
    exact hx
  have at2 : ∀ i : Nat, i < 3 → w2.cell? (ad2.add i) = some (.int .u8 (rd [77, 1, 0] i)) := fun i hi => by
    obtain ⟨ad', ea', hx⟩ := Kd.at_int hC2 (i : Int) (by omega) (by simp; omega)
    injection ea' with ea'
    subst ea'
    exact hx
  have a0 : w2.cell? (ad.add 0) = some (.int .u64 0) := at1 0 (by omega)
  have a1 : w2.cell? ⟨ad.block, ad.off + 1, none⟩ = some (.int .u64 5) := at1 1 (by omega)
  have a2 : w2.cell? ⟨ad.block, ad.off + 2, none⟩ = some (.int .u64 9) := at1 2 (by omega)
  have b0 : w2.cell? (ad2.add 0) = some (.int .u8 77) := at2 0 (by omega)
  have b1 : w2.cell? ⟨ad2.block, ad2.off + 1, none⟩ = some (.int .u8 1) := at2 1 (by omega)
  have a0' : w2.cell? ad = some (.int .u64 0) := by have := a0; rwa [show ad.add 0 = ad by simp [Addr.add]] at this
  have b0' : w2.cell? ad2 = some (.int .u8 77) := by have := b0; rwa [show ad2.add 0 = ad2 by simp [Addr.add]] at this
  have HB3 := Aside0.mk hb3
  clear hr2 hb2 hb3 hC2 e2 at1 at2 HC HEn
  go_wp2
  go_ret
  exact ⟨rfl, HB.out.trans (HB3.out.mono HB.out.size)⟩
end Go.Proofs.YtefnonlhepekdaaDoor.M

set_option linter.unusedVariables false
set_option linter.unusedSimpArgs false
namespace Go.Proofs.YtefnonlhepekdaaDoor.M
open Go.RowKit Go.Proofs.YtefnonlhepekdaaDoorW.PrintWords Go.Proofs.YtefnonlhepekdaaDoorW.PrintLast Go.Proofs.YtefnonlhepekdaaDoorW.PrintMore Go.Proofs.YtefnonlhepekdaaDoor.Leaf

/-- A row of numbers of the call's own, whose block is one of S. -/
def RwS {α : Type} (d : Kd α) (e : Nat) (w0 w : World) (S : Nat → Prop) (v : Value) (L : List α) : Prop :=
  d.R e w w0.heap.size (fun _ => True) v L ∧ ∀ k, v.ownBlock = some k → S k
theorem RwS.below {α : Type} {d : Kd α} {e : Nat} {w0 w w1 : World} {S : Nat → Prop} {v : Value} {L : List α} (h : RwS d e w0 w S v L) (hb : Below w.heap.size w w1) : RwS d e w0 w1 S v L := ⟨Kd.R_below h.1 hb, h.2⟩
theorem RwS.frm {α : Type} {d : Kd α} (hd : Flat d) {e : Nat} {w0 w w1 : World} {S T : Nat → Prop} {v : Value} {L : List α} (h : RwS d e w0 w S v L) (hf : Frm T w w1) (hs : ∀ k, S k → ¬ T k) : RwS d e w0 w1 S v L := ⟨R_frm hd h.1 hf (fun k hk => hs k (h.2 k hk)), h.2⟩
theorem RwS.mono {α : Type} {d : Kd α} {e : Nat} {w0 w : World} {S T : Nat → Prop} {v : Value} {L : List α} (h : RwS d e w0 w S v L) (hs : ∀ k, S k → T k) : RwS d e w0 w T v L := ⟨h.1, fun k hk => hs k (h.2 k hk)⟩
/-- What a call has made lies between the heap's ends. -/
theorem RwS.new {α : Type} {d : Kd α} {e : Nat} {w0 w w1 : World} {v : Value} {L : List α} (h : d.R e w1 w.heap.size (fun _ => True) v L) (hs : w0.heap.size ≤ w.heap.size) : RwS d e w0 w1 (fun k => w.heap.size ≤ k ∧ k < w1.heap.size) v L :=
  ⟨Kd.R_lower h hs, fun k hk => ⟨Kd.R_base h k hk, Kd.R_lt h k hk⟩⟩
theorem RwS.rd {k : IntKind} {e : Nat} {w0 w : World} {S : Nat → Prop} {v : Value} {L : List Int} (h : RwS (Kd.int k) e w0 w S v L) : Rd k w v L := Rd.of_R h.1

end Go.Proofs.YtefnonlhepekdaaDoor.M

set_option linter.unusedVariables false
set_option linter.unusedSimpArgs false
namespace Go.Proofs.YtefnonlhepekdaaDoor.M
open Go.RowKit Go.Proofs.YtefnonlhepekdaaDoorW.PrintWords Go.Proofs.YtefnonlhepekdaaDoorW.PrintLast Go.Proofs.YtefnonlhepekdaaDoorW.PrintMore Go.Proofs.YtefnonlhepekdaaDoor.Leaf

set_option maxHeartbeats 1000000 in
set_option maxRecDepth 100000 in
/-- The same bytes in a list of their own that goes on behind them. -/
theorem text_calls (l : List Int) (A : Option Addr) (c : Nat) (w : World) (hl : l.length ≤ 1000000) (hC : Kd.C (Kd.int .u8) w A l.length l) :
    Calls Tryd.prog 44 #[.slice A l.length c] w fun e w' => ∃ A' c', e = .returned (.slice A' l.length c') ∧ Kd.R (Kd.int .u8) 5 w' w.heap.size (fun _ => True) (.slice A' (l.length + 1) c') (l ++ [171]) ∧ Below w.heap.size w w' := by
  have HC := Aside0.mk hC
  clear hC
  go_enter Tryd.func44, Tryd.ntmps44
  have HE := Aside0.mk (R_emptyK (Kd.int .u8) (e := 5) (base := w.heap.size) rfl (heap_new w (.cells #[] 5)) (Nat.le_refl _))
  go_wp2_with (first | ((with_reducible refine gate_builtin (b := .append) (xs := #[.tmp 3, .tmp 4]) rfl ?_); at_builtin; go_loud (refine app_row .u8 w.heap.size rfl (.tmp 3) (.tmp 4) 22 5 (.int .u8 0) 1 rfl Tryd.underlying22 info5 rfl (by omega) (.slice (some ⟨w.heap.size, 0, none⟩) 0 0) [] l A l.length c rfl rfl HE.out (Kd.C_below HC.out (bl_new w _)) (by simp) (by simp; omega) ?_; intro A2 c2 w2 hr2 hf2 hat2; simp only [List.length_nil, Nat.zero_add, List.nil_append] at hr2 ⊢; have HR2 := Aside0.mk hr2; have hb2 := Aside0.mk ((bl_new w _).trans (hf2.below (by simp) (fun k hk => Kd.R_base HE.out k hk.symm))); clear hr2 hf2 hat2)) | ((with_reducible refine gate_builtin (b := .append) (xs := #[.tmp 5, .tmp 6]) rfl ?_); at_builtin; go_loud (refine app_one (Kd.int .u8) w.heap.size rfl (.tmp 5) (.tmp 6) 22 5 (.int .u8 0) 1 rfl Tryd.underlying22 info5 rfl (by decide) (by omega) _ l 171 [.int .u8 171] rfl rfl rfl HR2.out hb2.out.size (by omega) ?_; intro A3 c3 w3 hr3 hf3 hat3; have hle := (Kd.R_reads' hr3).2.1; have hle2 : l.length ≤ c3 := Nat.le_trans (Nat.le_succ _) hle; have HR3 := Aside0.mk hr3; have hb3 := Aside0.mk (hb2.out.trans (hf3.below hb2.out.size (fun k hk => Kd.R_base HR2.out k hk.symm))); clear hr3 hf3 hat3)))
  go_ret
  exact ⟨A3, c3, rfl, HR3.out, hb3.out⟩
set_option maxHeartbeats 1000000 in
set_option maxRecDepth 100000 in
/-- The same hashes in a list of their own that goes on behind them. -/
theorem row_calls (l : List Hsh) (A : Option Addr) (c : Nat) (w : World) (hl : l.length ≤ 1000000) (hC : kH.C w A l.length l) :
    Calls Tryd.prog 24 #[.slice A l.length c] w fun e w' => ∃ A' c', e = .returned (.slice A' l.length c') ∧ kH.R 63 w' w.heap.size (fun _ => True) (.slice A' (l.length + 1) c') (l ++ [hash1 171]) ∧ Below w.heap.size w w' := by
  have HC := Aside0.mk hC
  clear hC
  go_enter Tryd.func24, Tryd.ntmps24
  have HE := Aside0.mk (R_emptyK kH (e := 63) (base := w.heap.size) rfl (heap_new w (.cells #[] 63)) (Nat.le_refl _))
  have hz1 := (hash1 171).one
  have sz := sizeH
  go_wp2_with (first | ((with_reducible refine gate_builtin (b := .append) (xs := #[.tmp 3, .tmp 4]) rfl ?_); at_builtin; go_loud (refine app_rows kH (fun _ _ _ _ _ h => h) w.heap.size rfl (.tmp 3) (.tmp 4) 39 63 _ 32 rfl Tryd.underlying39 infoH rfl (by decide) (by decide) (.slice (some ⟨w.heap.size, 0, none⟩) 0 0) [] l A l.length c rfl rfl HE.out (Kd.C_below HC.out (bl_new w _)) (by simp) (by simp; omega) ?_; intro A2 c2 w2 hr2 hf2 hat2; simp only [List.length_nil, Nat.zero_add, List.nil_append] at hr2 ⊢; have HR2 := Aside0.mk hr2; have hb2 := Aside0.mk ((bl_new w _).trans (hf2.below (by simp) (fun k hk => Kd.R_base HE.out k hk.symm))); clear hr2 hf2 hat2)) | ((with_reducible refine gate_builtin (b := .append) (xs := #[.tmp 5, .tmp 7]) rfl ?_); at_builtin; go_loud (refine app_one kH w.heap.size rfl (.tmp 5) (.tmp 7) 39 63 _ 32 rfl Tryd.underlying39 infoH rfl (by decide) (by decide) _ l (hash1 171) (hash1 171).cells rfl rfl rfl HR2.out hb2.out.size (by omega) ?_; intro A3 c3 w3 hr3 hf3 hat3; have hle := (Kd.R_reads' hr3).2.1; have hle2 : l.length ≤ c3 := Nat.le_trans (Nat.le_succ _) hle; have HR3 := Aside0.mk hr3; have hb3 := Aside0.mk (hb2.out.trans (hf3.below hb2.out.size (fun k hk => Kd.R_base HR2.out k hk.symm))); clear hr3 hf3 hat3)))
  go_ret
  exact ⟨A3, c3, rfl, HR3.out, hb3.out⟩
theorem Hd.of_R {e base : Nat} {w : World} {v : Value} {xs : List Hsh} (h : kH.R e w base (fun _ => True) v xs) : Hd w v xs := by
  obtain ⟨A, c, e1, hl, hc⟩ := Kd.R_reads h
  exact ⟨A, c, e1, hc⟩
set_option maxHeartbeats 2000000 in
set_option maxRecDepth 100000 in
theorem sameH_true (xs : List Hsh) (A B : Option Addr) (c d : Nat) (w : World) (hl : xs.length ≤ 1000000000) (hA : kH.C w A xs.length xs) (hB : kH.C w B xs.length xs) :
    Calls Tryd.prog 30 #[.slice A xs.length c, .slice B xs.length d] w fun e w' => e = .returned (.bool true) ∧ Below w.heap.size w w' := by
  have HA := Aside0.mk hA
  have HB := Aside0.mk hB
  clear hA hB
  go_enter Tryd.func30, Tryd.ntmps30
  go_wp2_with fail
  go_loopw [5] (fun k wr => ∃ j : Nat, j ≤ xs.length ∧ k = .int .i64 j ∧ Aside0 (Below w.heap.size w wr)) (fun k _ => xs.length - (intOf k).toNat)
  case atStart => exact ⟨0, Nat.zero_le _, rfl, ⟨Below.refl _ _⟩⟩
  case round =>
    obtain ⟨j, hj, rfl, HW⟩ := hrel
    by_cases hlt : j < xs.length
    · obtain ⟨ad, ea, hh⟩ := C_hash (Kd.C_below HA.out HW.out) j hlt
      obtain ⟨bd, eb, hg⟩ := C_hash (Kd.C_below HB.out HW.out) j hlt
      subst ea eb
      generalize xs[j] = h at *
      have HH := Aside0.mk hh
      have HG := Aside0.mk hg
      clear hh hg
      go_wp2_with fail
      refine wp_region_quiet_lit (by kernel_rfl) (by kernel_rfl) ?_
      go_big_quiet_step (fail)
      go_big_quiet_step (fail)
      go_big_quiet_step (fail)
      refine quiet_hash rfl (.tmp 19) rfl rfl h HH.out ?_
      simp only [Act.put, List.setIfInBounds_toArray, List.set_cons_zero, List.set_cons_succ]
      go_big_quiet_step (fail)
      go_big_quiet_step (fail)
      go_big_quiet_step (fail)
      refine quiet_hash rfl (.tmp 23) rfl rfl h HG.out ?_
      refine quiet_neq rfl (.tmp 20) (.tmp 24) _ rfl h h rfl rfl ?_
      rw [decide_eq_true rfl]
      refine wpQuiet_nil ?_
      intro _ hw'
      obtain ⟨nq, hw''⟩ := hw'
      subst hw''
      go_wp2_with fail
      go_roundw
      case rel => exact ⟨j + 1, by omega, by go_num, ⟨pw_below_drewN HW.out _⟩⟩
      case measure => simp [intOf]; omega
    · have hjl : j = xs.length := by omega
      subst hjl
      go_wp2_with fail
      go_ret
      exact ⟨rfl, HW.out⟩
theorem sameB_loop (xs ys : List Int) (hl : xs.length = ys.length) (hb : xs.length < 9223372036854775807) : ∀ (d i : Nat), i + d = xs.length → Ev (fun k => massifref2_SameBytes.l0 k xs ys (i : Int)) (decide (xs.drop i = ys.drop i))
  | 0, i, hi => by
    rw [List.drop_of_length_le (by omega), List.drop_of_length_le (by omega)]
    exact Ev.step (f := fun _ => some (decide (([] : List Int) = []))) (fun k => by simp only [massifref2_SameBytes.l0]; rw [if_neg (by omega)]; rfl) (Ev.now _)
  | d + 1, i, hi => by
    have h1 : i < xs.length := by omega
    have h2 : i < ys.length := by omega
    have ih := sameB_loop xs ys hl hb d (i + 1) (by omega)
    have e1 : wrap64 ((i : Int) + 1) = ((i + 1 : Nat) : Int) := by rw [i64_of _ (by omega) (by omega)]; omega
    have r1 : rd xs (i : Int) = xs[i] := by simp [rd, List.getD_eq_getElem?_getD, List.getElem?_eq_getElem h1]
    have r2 : rd ys (i : Int) = ys[i] := by simp [rd, List.getD_eq_getElem?_getD, List.getElem?_eq_getElem h2]
    rw [List.drop_eq_getElem_cons h1, List.drop_eq_getElem_cons h2]
    refine Ev.step (fun k => by simp only [massifref2_SameBytes.l0]; rw [if_pos (by omega), if_pos (by omega), if_pos (by omega), r1, r2, e1]) ?_
    by_cases c : xs[i] = ys[i]
    · refine Ev.congr (fun k => if_pos c) ?_
      rw [show decide (xs[i] :: xs.drop (i + 1) = ys[i] :: ys.drop (i + 1)) = decide (xs.drop (i + 1) = ys.drop (i + 1)) by apply decide_eq_decide.2; rw [List.cons.injEq]; exact ⟨fun h => h.2, fun h => ⟨c, h⟩⟩]
      exact ih
    · refine Ev.congr (fun k => if_neg c) ?_
      rw [decide_eq_false (fun h => c (List.cons.inj h).1)]
      exact Ev.now _
theorem sameB_val (xs ys : List Int) (hb : xs.length < 9223372036854775807) : Ev (fun k => massifref2_SameBytes.f k xs ys) (decide (xs = ys)) := by
  unfold massifref2_SameBytes.f
  by_cases c : xs.length = ys.length
  · exact Ev.congr (fun k => if_pos (by omega)) (sameB_loop xs ys c hb _ 0 (Nat.zero_add _))
  · refine Ev.congr (fun k => if_neg (by omega)) ?_
    rw [decide_eq_false (fun e => c (by rw [e]))]
    exact Ev.now _
theorem bytes7_true {A0 A1 : Option Addr} {n0 n1 c0 c1 : Nat} {xs : List Int} {w : World} (h0 : Rd .u8 w (.slice A0 n0 c0) xs) (h1 : Rd .u8 w (.slice A1 n1 c1) xs) (hl : xs.length < 9223372036854775807) :
    Calls Tryd.prog 29 #[.slice A0 n0 c0, .slice A1 n1 c1] w fun e w' => e = .returned (.bool true) ∧ Drawn0 w w' := by
  obtain ⟨_, _, e0, hl0, hc0⟩ := h0
  obtain ⟨_, _, e1, hl1, hc1⟩ := h1
  injection e0 with a0 b0 d0
  injection e1 with a1 b1 d1
  subst a0 b0 d0 a1 b1 d1
  have hv : Ev (fun k => massiflaw7_bytes.f k xs xs) true := by
    unfold massiflaw7_bytes.f
    have := sameB_val xs xs hl
    rw [decide_eq_true rfl] at this
    exact Ev.bind this (Ev.now _)
  obtain ⟨k, hk⟩ := hv.rounds
  exact massiflaw7_bytes.calls k _ _ _ _ _ _ _ w hc0 hl0 hc1 hl1 hk
end Go.Proofs.YtefnonlhepekdaaDoor.M

set_option linter.unusedVariables false
set_option linter.unusedSimpArgs false
namespace Go.Proofs.YtefnonlhepekdaaDoor.M
open Go.RowKit Go.Proofs.YtefnonlhepekdaaDoorW.PrintWords Go.Proofs.YtefnonlhepekdaaDoorW.PrintLast Go.Proofs.YtefnonlhepekdaaDoorW.PrintMore Go.Proofs.YtefnonlhepekdaaDoor.Leaf

def upd {α : Type} (f : Nat → α) (m : Nat) (x : α) : Nat → α := fun i => if i = m then x else f i
theorem upd_same {α : Type} (f : Nat → α) (m : Nat) (x : α) : upd f m x m = x := if_pos rfl
theorem upd_other {α : Type} (f : Nat → α) {m i : Nat} (x : α) (h : i ≠ m) : upd f m x i = f i := if_neg h
/-- What is no block of bytes is as it was. -/
def KeepT (w1 w : World) : Prop := ∀ (g : Nat) (cs : Array Value) (t : TypeId) (fz : Nat × Nat), w1.heap[g]? = some (.cells cs t fz) → t ≠ 5 → w.heap[g]? = some (.cells cs t fz)
theorem KeepT.refl (w : World) : KeepT w w := fun _ _ _ _ h _ => h
theorem KeepT.below {w1 w w2 : World} (h : KeepT w1 w) (hb : Below w.heap.size w w2) : KeepT w1 w2 := fun g cs t fz hg ht => by
  have := h g cs t fz hg ht
  exact (hb.block _ (blk_lt this)).trans this
theorem KeepT.frm {w1 w w2 : World} {base : Nat} {v : Value} {xs : List Int} (h : KeepT w1 w) (hr : (Kd.int .u8).R 5 w base (fun _ => True) v xs) (hf : Frm (fun k => some k = v.ownBlock) w w2) : KeepT w1 w2 := fun g cs t fz hg ht => by
  have h1 := h g cs t fz hg ht
  refine (hf.block _ (blk_lt h1) (fun he => ?_)).trans h1
  obtain ⟨c1, e1⟩ := Kd.R_typed hr g he.symm
  rw [e1] at h1
  injection h1 with h1
  injection h1 with _ h1
  exact ht h1.symm
structure Fam (w0 w : World) (As : Nat → Option Addr) (ns cs : Nat → Nat) (D : Nat → List Int) : Prop where
  R : ∀ j, j < 4 → (Kd.int .u8).R 5 w w0.heap.size (fun _ => True) (.slice (As j) (ns j) (cs j)) (D j)
  ap : ∀ i j, i < 4 → j < 4 → i ≠ j → Apart (.slice (As i) (ns i) (cs i)) (.slice (As j) (ns j) (cs j))
theorem Fam.below {w0 w w1 : World} {As : Nat → Option Addr} {ns cs : Nat → Nat} {D : Nat → List Int} (h : Fam w0 w As ns cs D) (hb : Below w.heap.size w w1) : Fam w0 w1 As ns cs D := ⟨fun j hj => Kd.R_below (h.R j hj) hb, h.ap⟩
theorem Fam.congr {w0 w : World} {As : Nat → Option Addr} {ns cs : Nat → Nat} {D D' : Nat → List Int} (h : Fam w0 w As ns cs D) (e : ∀ j, j < 4 → D j = D' j) : Fam w0 w As ns cs D' := ⟨fun j hj => e j hj ▸ h.R j hj, h.ap⟩
theorem Fam.set {w0 w : World} {As : Nat → Option Addr} {ns cs : Nat → Nat} {D : Nat → List Int} (h : Fam w0 w As ns cs D) {m g : Nat} (hm : m < 4) (hg : As m = some ⟨g, 0, none⟩) (j : Nat) (hj : j < ns m) (x : Int) :
    Fam w0 (w.setCell ⟨g, j, none⟩ (.int .u8 x)) As ns cs (upd D m ((D m).set j x)) := by
  refine ⟨fun i hi => ?_, h.ap⟩
  by_cases e : i = m
  · subst e
    rw [upd_same]
    have hr := h.R i hi
    rw [hg] at hr ⊢
    exact (row_round hr j hj).2.2 x
  · rw [upd_other D _ e]
    refine R_frm (flat_int .u8) (h.R i hi) (Frm.of_set w ⟨g, j, none⟩ (.int .u8 x)) (fun k hk hs => ?_)
    have hs : k = g := hs
    subst hs
    exact h.ap i m hi hm e k hk (by rw [hg]; simp [Value.ownBlock])
/-- The array of the long rows: its first m cells. -/
def Lng (w : World) (g m : Nat) (As : Nat → Option Addr) (ns cs : Nat → Nat) (lr : Array Value) : Prop :=
  w.heap[g]? = some (.cells lr 49 (0, 0)) ∧ lr.size = 4 ∧ ∀ j, j < m → lr[j]? = some (.slice (As j) (ns j) (cs j))
theorem Lng.next {w : World} {g m : Nat} {As : Nat → Option Addr} {ns cs : Nat → Nat} {lr : Array Value} (h : Lng w g m As ns cs lr) (hm : m < 4) (A : Option Addr) (n c : Nat) :
    Lng (w.setCell ⟨g, m, none⟩ (.slice A n c)) g (m + 1) (upd As m A) (upd ns m n) (upd cs m c) (lr.setIfInBounds m (.slice A n c)) := by
  obtain ⟨h1, h2, h3⟩ := h
  refine ⟨blk_set h1 m (.slice A n c), by simp [h2], fun j hj => ?_⟩
  by_cases e : j = m
  · subst e
    rw [upd_same, upd_same, upd_same]
    simp [h2, hm]
  · rw [upd_other _ _ e, upd_other _ _ e, upd_other _ _ e, Array.getElem?_setIfInBounds_ne (fun h => e h.symm)]
    exact h3 j (by omega)
theorem Lng.zero {w : World} {g : Nat} {As : Nat → Option Addr} {ns cs : Nat → Nat} {lr : Array Value} (h : w.heap[g]? = some (.cells lr 49 (0, 0))) (hs : lr.size = 4) : Lng w g 0 As ns cs lr := ⟨h, hs, fun j hj => absurd hj (Nat.not_lt_zero _)⟩
end Go.Proofs.YtefnonlhepekdaaDoor.M

set_option linter.unusedVariables false
set_option linter.unusedSimpArgs false
namespace Go.Proofs.YtefnonlhepekdaaDoor.M
open Go.RowKit Go.Proofs.YtefnonlhepekdaaDoorW.PrintWords Go.Proofs.YtefnonlhepekdaaDoorW.PrintLast Go.Proofs.YtefnonlhepekdaaDoorW.PrintMore Go.Proofs.YtefnonlhepekdaaDoor.Leaf

theorem writeB_len (kd a b : Nat) (ns : List Hsh) : (writeB kd a b ns).length ≤ 21 + 32 * ns.length := by
  unfold writeB
  have h1 := shortI_len a
  have h2 := shortI_len b
  simp only [List.length_append, nodes_len, List.length_singleton]
  omega
theorem penc_len (i n : Nat) (ns : List Hsh) (h : ns.length ≤ 300) : (pencAns i n ns).1.length ≤ 10000 := by
  unfold pencAns
  have := writeB_len 77 n i ns
  split
  · simp
  · split
    · simp
    · simp only; omega
theorem xenc_len (m n : Nat) (ns : List Hsh) (h : ns.length ≤ 300) : (xencAns m n ns).1.length ≤ 10000 := by
  unfold xencAns
  have := writeB_len 80 m n ns
  split
  · simp
  · split
    · simp
    · simp only; omega
theorem four_new (w : World) (o1 o2 o3 o4 : Obj) : ((((w.alloc o1).alloc o2).alloc o3).alloc o4).drew.heap[w.heap.size]? = some o1 ∧ ((((w.alloc o1).alloc o2).alloc o3).alloc o4).drew.heap[w.heap.size + 1]? = some o2 ∧
    ((((w.alloc o1).alloc o2).alloc o3).alloc o4).drew.heap[w.heap.size + 1 + 1]? = some o3 ∧ ((((w.alloc o1).alloc o2).alloc o3).alloc o4).drew.heap[w.heap.size + 1 + 1 + 1]? = some o4 ∧ Below w.heap.size w ((((w.alloc o1).alloc o2).alloc o3).alloc o4).drew := by
  have a1 := heap_new w o1
  have a2 := heap_new2 (w.alloc o1) o2 (b := w.heap.size + 1) (by simp)
  have a3 := heap_new2 ((w.alloc o1).alloc o2) o3 (b := w.heap.size + 1 + 1) (by simp)
  have a4 := heap_new2 (((w.alloc o1).alloc o2).alloc o3) o4 (b := w.heap.size + 1 + 1 + 1) (by simp)
  have l1 : ∀ k, k < w.heap.size + 1 → ((w.alloc o1).alloc o2).heap[k]? = (w.alloc o1).heap[k]? := fun k hk => Below.heap_alloc _ _ _ (by simpa using hk)
  have l2 : ∀ k, k < w.heap.size + 1 + 1 → (((w.alloc o1).alloc o2).alloc o3).heap[k]? = ((w.alloc o1).alloc o2).heap[k]? := fun k hk => Below.heap_alloc _ _ _ (by simpa using hk)
  have l3 : ∀ k, k < w.heap.size + 1 + 1 + 1 → ((((w.alloc o1).alloc o2).alloc o3).alloc o4).heap[k]? = (((w.alloc o1).alloc o2).alloc o3).heap[k]? := fun k hk => Below.heap_alloc _ _ _ (by simpa using hk)
  have hd : ((((w.alloc o1).alloc o2).alloc o3).alloc o4).drew.heap = ((((w.alloc o1).alloc o2).alloc o3).alloc o4).heap := rfl
  rw [hd]
  exact ⟨((l3 _ (by omega)).trans ((l2 _ (by omega)).trans (l1 _ (by omega)))).trans a1, ((l3 _ (by omega)).trans (l2 _ (by omega))).trans a2, (l3 _ (by omega)).trans a3, a4, (by repeat (with_reducible first | exact Below.refl _ _ | refine below_alloc ?_ _ | refine below_drew ?_))⟩
end Go.Proofs.YtefnonlhepekdaaDoor.M

set_option linter.unusedVariables false
set_option linter.unusedSimpArgs false
namespace Go.Proofs.YtefnonlhepekdaaDoor.M
open Go.RowKit Go.Proofs.YtefnonlhepekdaaDoorW.PrintWords Go.Proofs.YtefnonlhepekdaaDoorW.PrintLast Go.Proofs.YtefnonlhepekdaaDoorW.PrintMore Go.Proofs.YtefnonlhepekdaaDoor.Leaf

theorem longF_err : ∀ (d i x : Nat) (bs : List Int), (longF d i x bs).2.2 ≠ 0 → longF d i x bs = (0, 0, (longF d i x bs).2.2)
  | 0, _, _, _, _ => rfl
  | _ + 1, _, _, [], _ => rfl
  | d + 1, i, x, b :: r, h => by
    rw [longF] at h ⊢
    split
    · rfl
    · next c1 =>
      rw [if_neg c1] at h
      split
      · next c2 =>
        rw [if_pos c2] at h
        split
        · rfl
        · next c3 => rw [if_neg c3] at h; exact absurd rfl h
      · next c2 =>
        rw [if_neg c2] at h
        exact longF_err d (i + 1) _ r h
theorem longN_err {bs : List Int} (h : (longN bs).2.2 ≠ 0) : longN bs = (0, 0, (longN bs).2.2) := longF_err _ _ _ _ h
/-- A number is read, and how many bytes it takes. -/
theorem longN_ok {bs : List Int} (hb : Bytes bs) (h : (longN bs).2.2 = 0) : ∃ (x : Nat) (rest : List Int), x < 18446744073709551616 ∧ longN bs = ((x : Int), ((shortI x).length : Int), 0) ∧ bs = shortI x ++ rest := by
  obtain ⟨x, rest, x1, x2, x3, x4⟩ := longN_back hb (v := (longN bs).1) (k := (longN bs).2.1) (by rw [← h])
  refine ⟨x, rest, x1, ?_, x4⟩
  rw [← x2, ← x3, ← h]
/-- What the number in front is, which bytes are left, and the error. -/
def numR (bs : List Int) : Nat × List Int × Int := ((longN bs).1.toNat, bs.drop (longN bs).2.1.toNat, (longN bs).2.2)
theorem numR_short (x : Nat) (rest : List Int) (hx : x < 18446744073709551616) : numR (shortI x ++ rest) = (x, rest, 0) := by
  unfold numR
  rw [longN_short x rest hx, Int.toNat_natCast, Int.toNat_natCast, List.drop_left]
theorem numR_ok {bs : List Int} (hb : Bytes bs) (h : (numR bs).2.2 = 0) : ∃ (x : Nat) (rest : List Int), x < 18446744073709551616 ∧ numR bs = (x, rest, 0) ∧ bs = shortI x ++ rest ∧ Bytes rest := by
  obtain ⟨x, rest, x1, x2, x3⟩ := longN_ok hb h
  refine ⟨x, rest, x1, ?_, x3, fun y hy => hb y (by rw [x3]; exact List.mem_append_right _ hy)⟩
  rw [x3]
  exact numR_short x rest x1
def noPr : Nat × Nat × List Hsh := (0, 0, [])
def tailP (a b q : Nat) (r : List Int) : (Nat × Nat × List Hsh) × Int := if (takeAns r q).2 ≠ 0 then (noPr, (takeAns r q).2) else ((a, b, (takeAns r q).1), 0)
def decP2 (n i : Nat) (r : List Int) : (Nat × Nat × List Hsh) × Int := if n ≤ i then (noPr, 32) else tailP n i (proofAns i n).1.length r
def decP : List Int → (Nat × Nat × List Hsh) × Int
  | [] => (noPr, 11)
  | b :: r => if b ≠ 77 then (noPr, 14) else if (numR r).2.2 ≠ 0 then (noPr, (numR r).2.2) else if 4611686018427387904 < (numR r).1 then (noPr, 30) else
    if (numR (numR r).2.1).2.2 ≠ 0 then (noPr, (numR (numR r).2.1).2.2) else decP2 (numR r).1 (numR (numR r).2.1).1 (numR (numR r).2.1).2.1
def decX2 (m n : Nat) (r : List Int) : (Nat × Nat × List Hsh) × Int := if (prefAns m n).2 ≠ 0 then (noPr, (prefAns m n).2) else tailP m n (prefAns m n).1.length r
def decX : List Int → (Nat × Nat × List Hsh) × Int
  | [] => (noPr, 11)
  | b :: r => if b ≠ 80 then (noPr, 14) else if (numR r).2.2 ≠ 0 then (noPr, (numR r).2.2) else
    if (numR (numR r).2.1).2.2 ≠ 0 then (noPr, (numR (numR r).2.1).2.2) else decX2 (numR r).1 (numR (numR r).2.1).1 (numR (numR r).2.1).2.1
theorem take_there (ns : List Hsh) : takeAns (nodesI ns) ns.length = (ns, 0) := by
  unfold takeAns
  rw [nodes_size, if_neg (by omega), if_neg (by omega), takeH_nodes]
theorem take_zero {r : List Int} {q : Nat} (h : (takeAns r q).2 = 0) : r.length = 32 * q ∧ (takeAns r q).1 = takeH q r := by
  unfold takeAns at h ⊢
  split at h
  · simp at h
  · next c1 =>
    split at h
    · simp at h
    · next c2 =>
      refine ⟨by omega, ?_⟩
      rw [if_neg c1, if_neg c2]
theorem pref_ok {m n : Nat} (h : (prefAns m n).2 = 0) : m ≤ n ∧ n ≤ 4611686018427387904 := by
  unfold prefAns at h
  split at h
  · simp at h
  · omega
theorem proof_ok {i n : Nat} (h : (proofAns i n).2 = 0) : i < n ∧ n ≤ 4611686018427387904 := by
  unfold proofAns at h
  split at h
  · simp at h
  · split at h
    · simp at h
    · omega
theorem proof_ok_iff {i n : Nat} (h1 : i < n) (h2 : n ≤ 4611686018427387904) : (proofAns i n).2 = 0 := by
  unfold proofAns
  rw [if_neg (by omega), if_neg (by omega)]
theorem penc_zero {i n : Nat} {ns : List Hsh} (h : (pencAns i n ns).2 = 0) : i < n ∧ n ≤ 4611686018427387904 ∧ (proofAns i n).1.length = ns.length ∧ (pencAns i n ns).1 = writeB 77 n i ns := by
  unfold pencAns at h ⊢
  split at h
  · next c => exact absurd h c
  · next c =>
    have c' : (proofAns i n).2 = 0 := Decidable.by_contra c
    split at h
    · simp at h
    · next c2 =>
      refine ⟨(proof_ok c').1, (proof_ok c').2, Decidable.by_contra c2, ?_⟩
      rw [if_neg c, if_neg c2]
theorem xenc_zero {m n : Nat} {ns : List Hsh} (h : (xencAns m n ns).2 = 0) : (prefAns m n).2 = 0 ∧ (prefAns m n).1.length = ns.length ∧ (xencAns m n ns).1 = writeB 80 m n ns := by
  unfold xencAns at h ⊢
  split at h
  · next c => exact absurd h c
  · next c =>
    split at h
    · simp at h
    · next c2 =>
      refine ⟨Decidable.by_contra c, Decidable.by_contra c2, ?_⟩
      rw [if_neg c, if_neg c2]
theorem penc_of {i n : Nat} {ns : List Hsh} (h1 : i < n) (h2 : n ≤ 4611686018427387904) (h3 : (proofAns i n).1.length = ns.length) : pencAns i n ns = (writeB 77 n i ns, 0) := by
  unfold pencAns
  rw [if_neg (fun h => h (proof_ok_iff h1 h2)), if_neg (fun h => h h3)]
theorem xenc_of {m n : Nat} {ns : List Hsh} (h1 : (prefAns m n).2 = 0) (h3 : (prefAns m n).1.length = ns.length) : xencAns m n ns = (writeB 80 m n ns, 0) := by
  unfold xencAns
  rw [if_neg (fun h => h h1), if_neg (fun h => h h3)]
/-- The bytes of a proof, and anything behind them. -/
theorem decP_tail {i n : Nat} (h1 : i < n) (h2 : n ≤ 4611686018427387904) (r : List Int) : decP ([77] ++ shortI n ++ shortI i ++ r) = tailP n i (proofAns i n).1.length r := by
  rw [List.append_assoc, List.append_assoc]
  show decP ((77 : Int) :: (shortI n ++ (shortI i ++ r))) = _
  rw [decP, if_neg (by simp), numR_short n _ (by omega)]
  simp only
  rw [if_neg (by simp), if_neg (by omega), numR_short i _ (by omega)]
  simp only
  rw [if_neg (by simp), decP2, if_neg (by omega)]
theorem decX_tail {m n : Nat} (h : (prefAns m n).2 = 0) (r : List Int) : decX ([80] ++ shortI m ++ shortI n ++ r) = tailP m n (prefAns m n).1.length r := by
  have hk := pref_ok h
  rw [List.append_assoc, List.append_assoc]
  show decX ((80 : Int) :: (shortI m ++ (shortI n ++ r))) = _
  rw [decX, if_neg (by simp), numR_short m _ (by omega)]
  simp only
  rw [if_neg (by simp), numR_short n _ (by omega)]
  simp only
  rw [if_neg (by simp), decX2, if_neg (fun hc => hc h)]
theorem decP_there {i n : Nat} {ns : List Hsh} (h : (pencAns i n ns).2 = 0) : decP (pencAns i n ns).1 = ((n, i, ns), 0) := by
  obtain ⟨h1, h2, h3, h4⟩ := penc_zero h
  rw [h4]
  unfold writeB
  rw [show ((77 : Nat) : Int) = 77 from rfl, decP_tail h1 h2, h3]
  unfold tailP
  rw [take_there]
  rfl
theorem decX_there {m n : Nat} {ns : List Hsh} (h : (xencAns m n ns).2 = 0) : decX (xencAns m n ns).1 = ((m, n, ns), 0) := by
  obtain ⟨h1, h3, h4⟩ := xenc_zero h
  rw [h4]
  unfold writeB
  rw [show ((80 : Nat) : Int) = 80 from rfl, decX_tail h1, h3]
  unfold tailP
  rw [take_there]
  rfl
/-- One byte more is too much. -/
theorem decP_more {i n : Nat} {ns : List Hsh} (h : (pencAns i n ns).2 = 0) (x : Int) : decP ((pencAns i n ns).1 ++ [x]) = (noPr, 13) := by
  obtain ⟨h1, h2, h3, h4⟩ := penc_zero h
  rw [h4]
  unfold writeB
  rw [show ((77 : Nat) : Int) = 77 from rfl, List.append_assoc _ (nodesI ns), decP_tail h1 h2, h3]
  have ht : takeAns (nodesI ns ++ [x]) ns.length = ([], 13) := by
    unfold takeAns
    rw [List.length_append, nodes_size, List.length_singleton, if_neg (by omega), if_pos (by omega)]
  unfold tailP
  rw [ht]
  rfl
theorem tailP_zero {a b q : Nat} {r : List Int} (h : (tailP a b q r).2 = 0) : r.length = 32 * q ∧ tailP a b q r = ((a, b, takeH q r), 0) := by
  unfold tailP at h ⊢
  split at h
  · next c => exact absurd h c
  · next c =>
    obtain ⟨h1, h2⟩ := take_zero (Decidable.by_contra c)
    rw [if_neg c, h2]
    exact ⟨h1, rfl⟩
/-- What is read is what was written. -/
theorem decP_back {bs : List Int} (hb : Bytes bs) (h : (decP bs).2 = 0) : ∃ n i ns, decP bs = ((n, i, ns), 0) ∧ i < n ∧ n ≤ 4611686018427387904 ∧ pencAns i n ns = (bs, 0) ∧ bs = writeB 77 n i ns ∧ (proofAns i n).1.length = ns.length := by
  cases bs with
  | nil => simp [decP] at h
  | cons b r =>
    rw [decP] at h ⊢
    split at h
    · simp at h
    · next c1 =>
      have hbr : Bytes r := fun x hx => hb x (List.mem_cons_of_mem _ hx)
      rw [if_neg c1]
      split at h
      · next c2 => exact absurd h c2
      · next c2 =>
        obtain ⟨n, r1, x1, x2, x3, x4⟩ := numR_ok hbr (Decidable.by_contra c2)
        rw [x2] at h ⊢
        simp only at h ⊢
        rw [if_neg (by simp)]
        split at h
        · simp at h
        · next c3 =>
          rw [if_neg c3]
          split at h
          · next c4 => exact absurd h c4
          · next c4 =>
            obtain ⟨i, r2, y1, y2, y3, y4⟩ := numR_ok x4 (Decidable.by_contra c4)
            rw [y2] at h ⊢
            simp only at h ⊢
            rw [if_neg (by simp)]
            unfold decP2 at h ⊢
            split at h
            · simp at h
            · next c5 =>
              rw [if_neg c5]
              obtain ⟨z1, z2⟩ := tailP_zero h
              have hw : b :: r = writeB 77 n i (takeH (proofAns i n).1.length r2) := by
                unfold writeB
                rw [nodes_takeH _ _ z1, x3, y3, show ((77 : Nat) : Int) = b from (Decidable.by_contra c1).symm, List.append_assoc, List.append_assoc]
                rfl
              refine ⟨n, i, _, z2, by omega, by omega, ?_, hw, by rw [takeH_len]⟩
              rw [penc_of (by omega) (by omega) (by rw [takeH_len]), ← hw]
theorem decX_back {bs : List Int} (hb : Bytes bs) (h : (decX bs).2 = 0) : ∃ m n ns, decX bs = ((m, n, ns), 0) ∧ (prefAns m n).2 = 0 ∧ xencAns m n ns = (bs, 0) ∧ bs = writeB 80 m n ns ∧ (prefAns m n).1.length = ns.length := by
  cases bs with
  | nil => simp [decX] at h
  | cons b r =>
    rw [decX] at h ⊢
    split at h
    · simp at h
    · next c1 =>
      have hbr : Bytes r := fun x hx => hb x (List.mem_cons_of_mem _ hx)
      rw [if_neg c1]
      split at h
      · next c2 => exact absurd h c2
      · next c2 =>
        obtain ⟨m, r1, x1, x2, x3, x4⟩ := numR_ok hbr (Decidable.by_contra c2)
        rw [x2] at h ⊢
        simp only at h ⊢
        rw [if_neg (by simp)]
        split at h
        · next c4 => exact absurd h c4
        · next c4 =>
          obtain ⟨n, r2, y1, y2, y3, y4⟩ := numR_ok x4 (Decidable.by_contra c4)
          rw [y2] at h ⊢
          simp only at h ⊢
          rw [if_neg (by simp)]
          unfold decX2 at h ⊢
          split at h
          · next c5 => exact absurd h c5
          · next c5 =>
            rw [if_neg c5]
            obtain ⟨z1, z2⟩ := tailP_zero h
            have hw : b :: r = writeB 80 m n (takeH (prefAns m n).1.length r2) := by
              unfold writeB
              rw [nodes_takeH _ _ z1, x3, y3, show ((80 : Nat) : Int) = b from (Decidable.by_contra c1).symm, List.append_assoc, List.append_assoc]
              rfl
            refine ⟨m, n, _, z2, Decidable.by_contra c5, ?_, hw, by rw [takeH_len]⟩
            rw [xenc_of (Decidable.by_contra c5) (by rw [takeH_len]), ← hw]
/-- One byte less is too little. -/
theorem decP_less {i n : Nat} {ns : List Hsh} (h : (pencAns i n ns).2 = 0) {bs : List Int} {x : Int} (hb : Bytes bs) (he : (pencAns i n ns).1 = bs ++ [x]) : (decP bs).2 ≠ 0 := by
  intro h0
  obtain ⟨n1, i1, ns1, d1, d2, d3, d4, d5, d6⟩ := decP_back hb h0
  obtain ⟨h1, h2, h3, h4⟩ := penc_zero h
  have hd := decP_there h
  rw [he, d5] at hd
  unfold writeB at hd
  rw [show ((77 : Nat) : Int) = 77 from rfl, List.append_assoc _ (nodesI ns1), decP_tail d2 d3, d6] at hd
  have ht : takeAns (nodesI ns1 ++ [x]) ns1.length = ([], 13) := by
    unfold takeAns
    rw [List.length_append, nodes_size, List.length_singleton, if_neg (by omega), if_pos (by omega)]
  unfold tailP at hd
  rw [ht] at hd
  simp [noPr] at hd
/-- A membership proof's bytes are no prefix proof's. -/
theorem decX_kind {bs : List Int} (hb : Bytes bs) (h : (decP bs).2 = 0) : decX bs = (noPr, 14) := by
  obtain ⟨n1, i1, ns1, d1, d2, d3, d4, d5, d6⟩ := decP_back hb h
  rw [d5]
  unfold writeB
  rw [List.append_assoc, List.append_assoc]
  show decX (((77 : Nat) : Int) :: _) = _
  rw [decX, if_pos (by decide)]
end Go.Proofs.YtefnonlhepekdaaDoor.M

set_option linter.unusedVariables false
set_option linter.unusedSimpArgs false
namespace Go.Proofs.YtefnonlhepekdaaDoor.M
open Go.RowKit Go.Proofs.YtefnonlhepekdaaDoorW.PrintWords Go.Proofs.YtefnonlhepekdaaDoorW.PrintLast Go.Proofs.YtefnonlhepekdaaDoorW.PrintMore Go.Proofs.YtefnonlhepekdaaDoor.Leaf Go.Proofs.YtefnonlhepekdaaDoor.Lng

theorem long_calls (bs : List Int) (A : Option Addr) (n c : Nat) (w : World) (hb : Bytes bs) (hl : bs.length = n) (hn : n ≤ 1000000000) (hc : n ≤ c) (hC : Kd.C (Kd.int .u8) w A n bs) :
    Calls Tryd.prog 118 #[.slice A n c] w fun e w' => e = .returned (.tuple #[.int .u64 (longN bs).1, .int .i64 (longN bs).2.1, .int .i64 (longN bs).2.2]) ∧ Drawn0 w w' := by
  subst hl
  obtain ⟨k, hk⟩ := (long_val bs hb (by omega)).rounds
  exact num_Long.calls k _ _ _ _ _ _ w hC hc hk
theorem longN_nil : (longN []).2.2 = 11 := rfl
/-- What number answers, which bytes are left, and the error. -/
def numS (er : Int) (bs : List Int) : Nat × List Int × Int := if er ≠ 0 then (0, bs, er) else numR bs
theorem numS_ok {bs : List Int} {x : Nat} {rest : List Int} (x2 : longN bs = ((x : Int), ((shortI x).length : Int), 0)) (x3 : bs = shortI x ++ rest) : numS 0 bs = (x, rest, 0) := by
  unfold numS numR
  rw [if_neg (by simp), x2, Int.toNat_natCast, Int.toNat_natCast]
  simp only
  rw [show bs.drop (shortI x).length = rest by rw [x3, List.drop_left]]
theorem numS_bad {bs : List Int} (h : (longN bs).2.2 ≠ 0) : numS 0 bs = (0, bs, (longN bs).2.2) := by
  unfold numS numR
  rw [if_neg (by simp), longN_err h]
  rfl
set_option maxHeartbeats 1000000 in
set_option maxRecDepth 100000 in
theorem number_calls (er : Int) (br n c : Nat) (g : Option Nat) (A : Option Addr) (bs : List Int) (w : World) (hn : n ≤ 1000000000) (hb : Bytes bs) (h : Rdr w br g A n c er bs) :
    Calls Tryd.prog 90 #[.pointer (some ⟨br, 0, none⟩)] w fun o w' => o = .returned (.int .u64 ((numS er bs).1 : Nat)) ∧ RdrE w' br g n (numS er bs).2.2 (numS er bs).2.1 ∧ Frm (fun k => k = br) w w' := by
  have k0 := (blk_cell h.box 0).trans (rfl : _ = some (Value.slice A n c))
  have k1 := (blk_cell h.box 1).trans (rfl : _ = some (Value.int .i64 er))
  by_cases he : er = 0
  · subst he
    have hcl := long_calls bs A n c w hb h.len hn h.cap h.all.here
    by_cases hk : (longN bs).2.2 = 0
    · obtain ⟨x, rest, x1, x2, x3⟩ := longN_ok hb hk
      rw [numS_ok x2 x3]
      rw [x2] at hcl
      have hA : ∃ ad, A = some ad := by
        cases bs with
        | nil => rw [longN_nil] at hk; simp at hk
        | cons b r => obtain ⟨ad, e, _⟩ := CG.cell0 h.all; exact ⟨ad, e⟩
      obtain ⟨ad, rfl⟩ := hA
      have hlen : n = (shortI x).length + rest.length := by rw [← h.len, x3, List.length_append]
      have hdrop : bs.drop (shortI x).length = rest := by rw [x3, List.drop_left]
      generalize (shortI x).length = kk at *
      have HL := Aside0.mk hlen
      have HD := Aside0.mk hdrop
      have H := Aside0.mk h
      have hkn : kk ≤ n := by omega
      have hnc := h.cap
      have HCl := Aside0.mk hcl
      clear h hcl x2 x3 hk hb hlen hdrop
      go_enter Tryd.func90, Tryd.ntmps90
      go_wp2_with fail
      refine HCl.out.mono ?_
      rintro o w1 ⟨rfl, hd⟩
      have HR := Aside0.mk (H.out.below hd.below)
      have HF := Aside0.mk (Frm.of_below hd.below (fun k => k = br))
      clear hd k0 k1
      go_wp2_with fail
      refine (fail_calls _ 0 0 br n c g (some ad) bs _ HR.out).mono ?_
      rintro o w2 ⟨rfl, hr, hf⟩
      rw [show (if (0 : Int) = 0 ∧ _ then (0 : Int) else 0) = 0 from ite_self _] at hr
      have k0 := (blk_cell hr.box 0).trans (rfl : _ = some (Value.slice (some ad) n c))
      have f0 := blk_frozen hr.box 0
      have HR2 := Aside0.mk hr
      have HF2 := Aside0.mk (HF.out.trans hf (fun _ _ h => h))
      clear hr hf HR HF
      have hC := CG.drop (m := kk) HR2.out.all HR2.out.len hkn HR2.out.cap
      rw [HD.out] at hC
      obtain ⟨ad1, hif⟩ : ∃ ad1 : Addr, (if c = kk then some ad else some (ad.add kk)) = some ad1 := by split <;> exact ⟨_, rfl⟩
      rw [hif] at hC
      have HC := Aside0.mk hC
      clear hC
      go_wp2_with fail
      go_ret
      exact ⟨rfl, ⟨_, n - kk, c - kk, by omega, Rdr.setb HR2.out (bs1 := rest) (by have := HL.out; omega) (by omega) HC.out⟩, HF2.out.trans (Frm.of_set _ ⟨br, 0, none⟩ _) (fun _ _ h => h)⟩
    · rw [numS_bad hk]
      rw [longN_err hk] at hcl
      generalize (longN bs).2.2 = el at *
      have H := Aside0.mk h
      have hnc := h.cap
      have HCl := Aside0.mk hcl
      clear h hcl hb
      go_enter Tryd.func90, Tryd.ntmps90
      go_wp2_with fail
      refine HCl.out.mono ?_
      rintro o w1 ⟨rfl, hd⟩
      have HR := Aside0.mk (H.out.below hd.below)
      have HF := Aside0.mk (Frm.of_below hd.below (fun k => k = br))
      clear hd k0 k1
      go_wp2_with fail
      refine (fail_calls _ el 0 br n c g A bs _ HR.out).mono ?_
      rintro o w2 ⟨rfl, hr, hf⟩
      rw [if_pos ⟨rfl, by simp [hk]⟩] at hr
      have k0 := (blk_cell hr.box 0).trans (rfl : _ = some (Value.slice A n c))
      have f0 := blk_frozen hr.box 0
      have HR2 := Aside0.mk hr
      have HF2 := Aside0.mk (HF.out.trans hf (fun _ _ h => h))
      clear hr hf HR HF
      cases A with
      | none =>
        go_wp2_with fail
        go_ret
        exact ⟨rfl, ⟨_, n, c, Nat.le_refl _, Rdr.setb HR2.out (bs1 := bs) HR2.out.len HR2.out.cap HR2.out.all⟩, HF2.out.trans (Frm.of_set _ ⟨br, 0, none⟩ _) (fun _ _ h => h)⟩
      | some ad =>
        go_wp2_with fail
        go_ret
        exact ⟨rfl, ⟨_, n, c, Nat.le_refl _, Rdr.setb HR2.out (bs1 := bs) HR2.out.len HR2.out.cap HR2.out.all⟩, HF2.out.trans (Frm.of_set _ ⟨br, 0, none⟩ _) (fun _ _ h => h)⟩
  · rw [show numS er bs = (0, bs, er) from if_pos he]
    have H := Aside0.mk h
    clear h hb k0
    go_enter Tryd.func90, Tryd.ntmps90
    go_wp2_with fail
    go_ret
    exact ⟨rfl, ⟨A, n, c, Nat.le_refl _, H.out⟩, Frm.refl _ _⟩
end Go.Proofs.YtefnonlhepekdaaDoor.M

set_option linter.unusedVariables false
set_option linter.unusedSimpArgs false
namespace Go.Proofs.YtefnonlhepekdaaDoor.M
open Go.RowKit Go.Proofs.YtefnonlhepekdaaDoorW.PrintWords Go.Proofs.YtefnonlhepekdaaDoorW.PrintLast Go.Proofs.YtefnonlhepekdaaDoorW.PrintMore Go.Proofs.YtefnonlhepekdaaDoor.Leaf

theorem bytes_hash {w : World} {ad : Addr} {n : Nat} {l : List Int} (h : Kd.C (Kd.int .u8) w (some ad) n l) (hl : 32 ≤ l.length) : HashAt w ad (mkH (l.take 32)) := by
  obtain ⟨h1, h2, h3⟩ := h
  obtain ⟨ad', ea, hc⟩ := h3 (by omega)
  injection ea with ea
  subst ea
  have hcell : ∀ j (hj : j < l.length), w.cell? (ad.add j) = some (.int .u8 l[j]) := by
    intro j hj
    obtain ⟨c, k1, k2, k3⟩ := hc j _ (List.getElem?_eq_getElem hj)
    have k2 : c = [.int .u8 l[j]] := k2
    subst k2
    have := k3 0 (.int .u8 l[j]) rfl
    rwa [show j * (Kd.int IntKind.u8).sz + 0 = j from Nat.mul_one j] at this
  have hs : ad.spot = none := by
    have h0 := hcell 0 (by omega)
    have h5 : ad.add 0 = ad := by simp [Addr.add]
    rw [h5] at h0
    cases hsp : ad.spot with
    | none => rfl
    | some x =>
      exfalso
      simp only [World.cell?, hsp, Option.isSome_some, if_true] at h0
      split at h0 <;> simp at h0
  refine ⟨ad.block, ad.off, by cases ad; simp at hs; subst hs; rfl, fun j v hv => ?_⟩
  have hb : (mkH (l.take 32)).b = l.take 32 := mkH_b (by rw [List.length_take]; omega)
  unfold Hsh.cells at hv
  rw [hb, List.getElem?_map] at hv
  have hj : j < 32 := by
    refine Nat.lt_of_not_le (fun hn => ?_)
    rw [List.getElem?_eq_none (by rw [List.length_take]; omega)] at hv
    simp at hv
  rw [List.getElem?_take_of_lt hj, List.getElem?_eq_getElem (by omega)] at hv
  injection hv with hv
  subst hv
  have := hcell j (by omega)
  rw [show ad.add j = ⟨ad.block, ad.off + j, none⟩ by cases ad; simp at hs; subst hs; exact Go.WideShapes.add_plain _ _ _] at this
  exact this
theorem Rdr.keep {w w1 : World} {br : Nat} {g : Option Nat} {A : Option Addr} {n c : Nat} {er : Int} {bs : List Int} {S : Nat → Prop} (h : Rdr w br g A n c er bs) (hf : Frm S w w1) (hb : ¬ S br) (hg : ∀ k, g = some k → ¬ S k) : Rdr w1 br g A n c er bs :=
  ⟨(hf.block _ (blk_lt h.box) hb).trans h.box, h.len, h.cap, h.all.frm hf (fun k hk => ⟨(h.far k hk).1, hg k hk⟩), fun k hk => ⟨Nat.lt_of_lt_of_le (h.far k hk).1 hf.size, (h.far k hk).2⟩⟩
/-- What nodes answers, and the error. -/
def nodS (er : Int) (q : Nat) (bs : List Int) : List Hsh × Int := if er ≠ 0 then ([], er) else takeAns bs q
def lenOf : Value → Nat
  | .slice _ l _ => l
  | _ => 0
set_option maxHeartbeats 4000000 in
set_option maxRecDepth 100000 in
theorem nodes_loop (br n c q : Nat) (g : Option Nat) (A : Option Addr) (bs : List Int) (w : World) (hq : q ≤ 1000000) (h : Rdr w br g A n c 0 bs) (hn : n = 32 * q) :
    Calls Tryd.prog 93 #[.pointer (some ⟨br, 0, none⟩), .int .i64 q] w fun o w' => ∃ v, o = .returned v ∧ kH.R 63 w' w.heap.size (fun _ => True) v (takeH q bs) ∧ (∃ A1 n1 c1 bs1, Rdr w' br g A1 n1 c1 0 bs1) ∧ Frm (fun k => k = br) w w' := by
  have k0 := (blk_cell h.box 0).trans (rfl : _ = some (Value.slice A n c))
  have k1 := (blk_cell h.box 1).trans (rfl : _ = some (Value.int .i64 0))
  have HLen := Aside0.mk (h.len.trans hn)
  have H := Aside0.mk h
  have hn2 : (n : Int) = 32 * (q : Int) := by omega
  have hw : wrap64 (32 * (q : Int)) = (n : Int) := by rw [i64_of _ (by omega) (by omega)]; omega
  clear h
  go_enter Tryd.func93, Tryd.ntmps93
  go_wp2_with fail
  refine (fail_calls _ 11 0 br n c g A bs _ H.out).mono ?_
  rintro o w1 ⟨rfl, hr, hf⟩
  rw [if_neg (by simp; try omega)] at hr
  have k0 := (blk_cell hr.box 0).trans (rfl : _ = some (Value.slice A n c))
  have HR := Aside0.mk hr
  have HF := Aside0.mk hf
  clear hr hf k1
  go_wp2_with fail
  refine (fail_calls _ 13 0 br n c g A bs _ HR.out).mono ?_
  rintro o w2 ⟨rfl, hr, hf⟩
  rw [if_neg (by simp; try omega)] at hr
  have k1 := (blk_cell hr.box 1).trans (rfl : _ = some (Value.int .i64 0))
  have HR2 := Aside0.mk hr
  have HF2 := Aside0.mk (HF.out.trans hf (fun _ _ h => h))
  clear hr hf k0 HR HF hn2 hw
  go_wp2_with fail
  go_loopw [5] (fun v wr => ∃ (k n5 : Nat) (A5 : Option Addr) (c5 : Nat) (A6 : Option Addr) (c6 : Nat), v = .slice A6 k c6 ∧ n5 ≤ n ∧ Aside0 (n5 + 32 * k = 32 * q) ∧ Aside0 (Rdr wr br g A5 n5 c5 0 (bs.drop (32 * k))) ∧ Aside0 (kH.R 63 wr w.heap.size (fun _ => True) (.slice A6 k c6) (takeH k bs)) ∧ Aside0 (Frm (fun k => k = br) w wr)) (fun v _ => q - lenOf v)
  case atStart => exact ⟨0, n, A, c, none, 0, rfl, Nat.le_refl _, ⟨by omega⟩, ⟨by rw [Nat.mul_zero, List.drop_zero]; exact HR2.out⟩, ⟨Kd.R_nil _ _ _ _ _⟩, ⟨HF2.out⟩⟩
  case round =>
    obtain ⟨k, n5, A5, c5, A6, c6, rfl, hn5, HK, HB, HL, HW⟩ := hrel
    have k0 := (blk_cell HB.out.box 0).trans (rfl : _ = some (Value.slice A5 n5 c5))
    clear k1 HR2 HF2
    by_cases h0 : 0 < n5
    · have hk32 : 32 ≤ n5 := by have := HK.out; omega
      have hc32 := HB.out.cap
      have hlen := HB.out.len
      have hA : ∃ ad, A5 = some ad := by
        obtain ⟨ad, e, _⟩ := Kd.at_int HB.out.all.here 0 (by omega) (by omega)
        exact ⟨ad, e⟩
      obtain ⟨ad, rfl⟩ := hA
      have hh := bytes_hash HB.out.all.here (by omega)
      have hsn := takeH_snoc k bs
      obtain ⟨hv, hhv⟩ : ∃ hv, hv = mkH ((bs.drop (32 * k)).take 32) := ⟨_, rfl⟩
      obtain ⟨P, hP⟩ : ∃ P, P = takeH k bs := ⟨_, rfl⟩
      rw [← hhv] at hh hsn
      rw [← hP] at hsn
      have hPl : P.length = k := by rw [hP, takeH_len]
      have HR6 := Aside0.mk (show kH.R 63 wr w.heap.size (fun _ => True) (.slice A6 k c6) P by rw [hP]; exact HL.out)
      have hs := HW.out.size
      have hat : ∀ w, (Instr.arrayAt 63 (.slice (some ad) n5 c5)).run Tryd.prog w = .ok (.pointer (some ad)) w := fun w => run_arrayAt w _ _ 32 _ _ _ Tryd.underlying63 hk32
      have HH := Aside0.mk hh
      have HSn := Aside0.mk hsn
      have hP9 : P.length ≤ 1000000 := by have := HK.out; omega
      have HPl := Aside0.mk hPl
      have hone := hv.one
      clear hh hsn hhv hP hlen HL hPl
      have hbr := Aside0.mk (blk_lt H.out.box)
      have hfar := Aside0.mk (fun k (hk : g = some k) => (H.out.far k hk).1)
      obtain ⟨ad1, hif⟩ : ∃ ad1 : Addr, (if c5 = 32 then some ad else some ⟨ad.block, ad.off + 32, none⟩) = some ad1 := by split <;> exact ⟨_, rfl⟩
      have hC : CG g wr (if c5 = 32 then some ad else some ⟨ad.block, ad.off + 32, none⟩) (n5 - 32) ((bs.drop (32 * k)).drop 32) := CG.drop (m := 32) HB.out.all HB.out.len hk32 hc32
      rw [hif, List.drop_drop, show 32 * k + 32 = 32 * (k + 1) by omega] at hC
      have HC := Aside0.mk hC
      clear hC
      go_wp2_with (first | ((with_reducible refine gate_dst (N := 51) rfl ?_); go_loud (refine load_hash rfl (.tmp 50) rfl _ _ rfl HH.out ?_)) | ((with_reducible refine gate_dst (N := 52) rfl ?_); go_loud (refine build_hash rfl (.tmp 51) rfl hv rfl ?_)) | ((with_reducible refine gate_builtin (b := .append) (xs := #[.tmp 45, .tmp 52]) rfl ?_); at_builtin; go_loud (refine app_oneN kH w.heap.size rfl (.tmp 45) (.tmp 52) 39 63 _ 32 rfl Tryd.underlying39 infoH rfl (by decide) (by decide) (.slice A6 k c6) P hv (hv).cells rfl rfl rfl HR6.out hs (by omega) ?_; intro A9 n9 c9 w9 hr9 hf9 ha9; have hk9 := HB.out.keep hf9 (fun h => Nat.not_lt.2 (Kd.R_base HR6.out _ h.symm) hbr.out) (fun k hk h => Nat.not_lt.2 (Kd.R_base HR6.out _ h.symm) (hfar.out k hk)); have k0 := (blk_cell hk9.box 0).trans (rfl : _ = some (Value.slice (some ad) n5 c5)); have f0 := blk_frozen hk9.box 0; have HK9 := Aside0.mk hk9; clear hk9; have HR9 := Aside0.mk hr9; have HF9 := Aside0.mk hf9; have HA9 := Aside0.mk ha9; clear hr9 hf9 ha9)))
      go_roundw
      case rel =>
        have hn9 := (Kd.R_reads' HR9.out).1
        rw [List.length_append, List.length_singleton, HPl.out] at hn9
        subst hn9
        have hfr := HW.out.trans HF9.out (fun i hi h => absurd hi (Nat.not_lt.2 (Kd.R_base HR6.out _ h.symm)))
        exact ⟨k + 1, n5 - 32, some ad1, c5 - 32, A9, c9, rfl, by omega, ⟨by have := HK.out; omega⟩, ⟨HK9.out.setb (by have := HK9.out.len; have := HK.out; have := HLen.out; rw [List.length_drop]; omega) (by omega) (HC.out.frm HF9.out (fun k hk => ⟨(HB.out.far k hk).1, fun h => Nat.not_lt.2 (Kd.R_base HR6.out _ h.symm) (hfar.out k hk)⟩))⟩, ⟨by rw [HSn.out]; exact Kd.R_set HR9.out HK9.out.box (by decide) 0 _⟩, ⟨hfr.trans (Frm.of_set _ ⟨br, 0, none⟩ _) (fun _ _ h => h)⟩⟩
      case measure => have := HPl.out; have := (Kd.R_reads' HR9.out).1; rw [List.length_append, List.length_singleton] at this; simp [lenOf]; have := HK.out; omega
    · have hn0 : n5 = 0 := by omega
      subst hn0
      obtain rfl : k = q := by have := HK.out; omega
      go_wp2_with fail
      go_ret
      exact ⟨_, rfl, HL.out, ⟨A5, 0, c5, _, HB.out⟩, HW.out⟩
set_option maxHeartbeats 1000000 in
set_option maxRecDepth 100000 in
theorem nodes_stop (er : Int) (br n c q : Nat) (g : Option Nat) (A : Option Addr) (bs : List Int) (w : World) (hq : q ≤ 1000000) (h : Rdr w br g A n c er bs) (hs : (nodS er q bs).2 ≠ 0) :
    Calls Tryd.prog 93 #[.pointer (some ⟨br, 0, none⟩), .int .i64 q] w fun o w' => o = .returned (.slice none 0 0) ∧ Rdr w' br g A n c (nodS er q bs).2 bs ∧ Frm (fun k => k = br) w w' := by
  have k0 := (blk_cell h.box 0).trans (rfl : _ = some (Value.slice A n c))
  have H := Aside0.mk h
  have HS := Aside0.mk hs
  have HL := Aside0.mk h.len
  have hw : wrap64 (32 * (q : Int)) = 32 * (q : Int) := i64_of _ (by omega) (by omega)
  clear h hs
  go_enter Tryd.func93, Tryd.ntmps93
  go_wp2_with fail
  refine (fail_calls _ 11 er br n c g A bs _ H.out).mono ?_
  rintro o w1 ⟨rfl, hr, hf⟩
  have k0 := (blk_cell hr.box 0).trans (rfl : _ = some (Value.slice A n c))
  have HR := Aside0.mk hr
  have HF := Aside0.mk hf
  clear hr hf
  go_wp2_with fail
  refine (fail_calls _ 13 _ br n c g A bs _ HR.out).mono ?_
  rintro o w2 ⟨rfl, hr, hf⟩
  have he : (if (if er = 0 ∧ decide ((n : Int) < 32 * (q : Int)) = true then (11 : Int) else er) = 0 ∧ decide ((n : Int) > 32 * (q : Int)) = true then (13 : Int) else (if er = 0 ∧ decide ((n : Int) < 32 * (q : Int)) = true then (11 : Int) else er)) = (nodS er q bs).2 := by
    unfold nodS takeAns
    rw [HL.out]
    by_cases c1 : er = 0
    · by_cases c2 : n < 32 * q
      · have c3 : (n : Int) < 32 * (q : Int) := by omega
        simp [c1, c2, c3]
      · have c3 : ¬ ((n : Int) < 32 * (q : Int)) := by omega
        by_cases c4 : 32 * q < n
        · have c5 : 32 * (q : Int) < (n : Int) := by omega
          simp [c1, c2, c3, c4, c5]
        · have c5 : ¬ (32 * (q : Int) < (n : Int)) := by omega
          simp [c1, c2, c3, c4, c5]
    · simp [c1]
  rw [he] at hr
  have hs := HS.out
  generalize hee : (nodS er q bs).2 = ee at *
  have k1 := (blk_cell hr.box 1).trans (rfl : _ = some (Value.int .i64 ee))
  have HR2 := Aside0.mk hr
  have HF2 := Aside0.mk (HF.out.trans hf (fun _ _ h => h))
  have HE := Aside0.mk hee
  clear hr hf HR HF he hee HS k0
  go_wp2_with fail
  go_ret
  exact ⟨rfl, by rw [HE.out]; exact HR2.out, HF2.out⟩
theorem nodes_calls (er : Int) (br n c q : Nat) (g : Option Nat) (A : Option Addr) (bs : List Int) (w : World) (hq : q ≤ 1000000) (h : Rdr w br g A n c er bs) :
    Calls Tryd.prog 93 #[.pointer (some ⟨br, 0, none⟩), .int .i64 q] w fun o w' => ∃ v, o = .returned v ∧ kH.R 63 w' w.heap.size (fun _ => True) v (nodS er q bs).1 ∧ (∃ A1 n1 c1 bs1, Rdr w' br g A1 n1 c1 (nodS er q bs).2 bs1) ∧ Frm (fun k => k = br) w w' := by
  by_cases hs : (nodS er q bs).2 = 0
  · have he : er = 0 := by
      refine Decidable.by_contra (fun hc => ?_)
      unfold nodS at hs
      rw [if_pos hc] at hs
      exact hc hs
    subst he
    have hn : nodS 0 q bs = takeAns bs q := by unfold nodS; rw [if_neg (by simp)]
    rw [hn] at hs ⊢
    obtain ⟨h1, h2⟩ := take_zero hs
    rw [h2, hs]
    exact nodes_loop br n c q g A bs w hq h (by rw [← h.len, h1])
  · refine (nodes_stop er br n c q g A bs w hq h hs).mono ?_
    rintro o w' ⟨rfl, hr, hf⟩
    have hnil : (nodS er q bs).1 = [] := by
      unfold nodS takeAns at hs ⊢
      by_cases c1 : er ≠ 0
      · rw [if_pos c1]
      · rw [if_neg c1] at hs ⊢
        split
        · rfl
        · next c2 =>
          rw [if_neg c2] at hs
          split
          · rfl
          · next c3 =>
            rw [if_neg c3] at hs
            exact absurd rfl hs
    exact ⟨_, rfl, by rw [hnil]; exact Kd.R_nil _ _ _ _ _, ⟨_, _, _, _, hr⟩, hf⟩
end Go.Proofs.YtefnonlhepekdaaDoor.M

set_option linter.unusedVariables false
set_option linter.unusedSimpArgs false
namespace Go.Proofs.YtefnonlhepekdaaDoor.M
open Go.RowKit Go.Proofs.YtefnonlhepekdaaDoorW.PrintWords Go.Proofs.YtefnonlhepekdaaDoorW.PrintLast Go.Proofs.YtefnonlhepekdaaDoorW.PrintMore Go.Proofs.YtefnonlhepekdaaDoor.Leaf

theorem CG.of_C {w : World} {A : Option Addr} {n : Nat} {xs : List Int} (h : Kd.C (Kd.int .u8) w A n xs) : CG (A.map (fun a => a.block)) w A n xs := by
  intro w' hw
  obtain ⟨h1, h2, h3⟩ := h
  refine ⟨h1, h2, fun hn => ?_⟩
  obtain ⟨ad, rfl, hc⟩ := h3 hn
  refine ⟨ad, rfl, fun j x hx => ?_⟩
  obtain ⟨c, k1, k2, k3⟩ := hc j x hx
  refine ⟨c, k1, k2, fun i v hv => ?_⟩
  exact (World.cell?_of_block (a := ad.add (j * (Kd.int IntKind.u8).sz + i)) (by have := hw ad.block rfl; simp only [Addr.add]; split <;> exact this)).trans (k3 i v hv)
theorem CG.ex {w : World} {A : Option Addr} {n : Nat} {xs : List Int} (h : Kd.C (Kd.int .u8) w A n xs) : ∃ g, CG g w A n xs ∧ ∀ k, g = some k → k < w.heap.size := by
  by_cases hn : 0 < n
  · refine ⟨_, CG.of_C h, fun k hk => ?_⟩
    have hl := Kd.C_len h
    obtain ⟨ad, ea, hx⟩ := Kd.at_int h 0 (by omega) (by omega)
    subst ea
    obtain rfl : ad.block = k := Option.some.inj hk
    refine Decidable.by_contra (fun hc => ?_)
    have hnone : w.heap[ad.block]? = none := Array.getElem?_eq_none (by omega)
    simp [World.cell?, Addr.add, hnone] at hx
  · refine ⟨none, fun w' _ => ?_, fun k hk => by cases hk⟩
    obtain ⟨h1, h2, h3⟩ := h
    exact ⟨h1, h2, fun hn' => absurd hn' hn⟩
theorem CG.below {g : Option Nat} {w w1 : World} {A : Option Addr} {n : Nat} {xs : List Int} (h : CG g w A n xs) (hg : ∀ k, g = some k → k < w.heap.size) (hb : Below w.heap.size w w1) : CG g w1 A n xs :=
  h.frm (S := fun _ => False) (Frm.of_below hb _) (fun k hk => ⟨hg k hk, fun h => h⟩)
/-- A reader in a new box. -/
theorem Rdr.new {g : Option Nat} {w W : World} {A : Option Addr} {n c : Nat} {bs : List Int} (h : CG g w A n bs) (hg : ∀ k, g = some k → k < w.heap.size) (hl : bs.length = n) (hc : n ≤ c) (hb : Below w.heap.size w W) {b : Nat} (hB : b = W.heap.size) : Rdr (W.alloc (.cells #[.slice A n c, .int .i64 0] 126)) b g A n c 0 bs := by
  subst hB
  have h1 := (h.below hg hb).below (fun k hk => Nat.lt_of_lt_of_le (hg k hk) hb.size) (bl_new W (.cells #[.slice A n c, .int .i64 0] 126))
  exact ⟨heap_new W _, hl, hc, h1, fun k hk => ⟨by have := hg k hk; have := hb.size; simp; omega, by have := hg k hk; have := hb.size; omega⟩⟩
theorem kind_bytes {k : Int} {bs : List Int} (h : Bytes bs) : Bytes (kindR k bs).1 := by
  cases bs with
  | nil => exact h
  | cons b r => exact fun x hx => h x (List.mem_cons_of_mem _ hx)
theorem numS_bytes {er : Int} {bs : List Int} (h : Bytes bs) : Bytes (numS er bs).2.1 := by
  unfold numS numR
  split
  · exact h
  · exact fun x hx => h x (List.mem_of_mem_drop hx)
theorem numS_lt {er : Int} {bs : List Int} (h : Bytes bs) : (numS er bs).1 < 18446744073709551616 := by
  by_cases h0 : er = 0
  · subst h0
    by_cases hk : (longN bs).2.2 = 0
    · obtain ⟨x, rest, x1, x2, x3⟩ := longN_ok h hk
      rw [numS_ok x2 x3]
      exact x1
    · rw [numS_bad hk]
      simp
  · rw [show numS er bs = (0, bs, er) from if_pos h0]
    simp
def orE (e : Int) (p : Prop) [Decidable p] (f : Int) : Int := if e = 0 ∧ p then f else e
/-- As the reader goes. -/
def endP (a b : Nat) (e : Int) (r : List Int) (L : List Int) : (Nat × Nat × List Hsh) × Int := if e ≠ 0 then (noPr, e) else if (nodS 0 L.length r).2 ≠ 0 then (noPr, (nodS 0 L.length r).2) else ((a, b, (nodS 0 L.length r).1), 0)
theorem runP (bs : List Int) {s1 s2 a1 a2 a3 b1 b2 b3} (hs : kindR 77 bs = (s1, s2)) (ha : numS s2 s1 = (a1, a2, a3)) (hb : numS (orE a3 (4611686018427387904 < a1) 30) a2 = (b1, b2, b3)) :
    decP bs = endP a1 b1 (orE b3 (a1 ≤ b1) 32) b2 (proofAns b1 a1).1 := by
  cases bs with
  | nil =>
    cases hs
    cases ha
    cases hb
    rfl
  | cons b r =>
    simp only [kindR] at hs
    injection hs with h1 h2
    subst h1
    rw [decP]
    by_cases c1 : b ≠ 77
    · rw [if_pos c1] at h2 ⊢
      subst h2
      cases ha
      cases hb
      rfl
    · rw [if_neg c1] at h2 ⊢
      subst h2
      rw [show numS 0 r = numR r from if_neg (by simp)] at ha
      rw [ha]
      simp only
      by_cases c2 : a3 = 0
      · subst c2
        rw [if_neg (by simp)]
        by_cases c3 : 4611686018427387904 < a1
        · rw [if_pos c3]
          rw [show orE 0 (4611686018427387904 < a1) 30 = 30 from if_pos ⟨rfl, c3⟩] at hb
          cases hb
          rfl
        · rw [if_neg c3]
          rw [show orE 0 (4611686018427387904 < a1) 30 = 0 from if_neg (fun h => c3 h.2), show numS 0 a2 = numR a2 from if_neg (by simp)] at hb
          rw [hb]
          simp only
          by_cases c4 : b3 = 0
          · subst c4
            rw [if_neg (by simp)]
            unfold decP2 endP
            by_cases c5 : a1 ≤ b1
            · rw [if_pos c5, show orE 0 (a1 ≤ b1) 32 = 32 from if_pos ⟨rfl, c5⟩, if_pos (by decide)]
            · rw [if_neg c5, show orE 0 (a1 ≤ b1) 32 = 0 from if_neg (fun h => c5 h.2), if_neg (by simp)]
              rfl
          · rw [if_pos c4]
            unfold endP
            rw [show orE b3 (a1 ≤ b1) 32 = b3 from if_neg (fun h => c4 h.1), if_pos c4]
      · rw [if_pos c2]
        rw [show orE a3 (4611686018427387904 < a1) 30 = a3 from if_neg (fun h => c2 h.1), show numS a3 a2 = (0, a2, a3) from if_pos c2] at hb
        cases hb
        unfold endP
        rw [show orE a3 (a1 ≤ 0) 32 = a3 from if_neg (fun h => c2 h.1), if_pos c2]
theorem sizePf : (Tryd.prog.info? 41).map (·.size) = some 3 := by kernel_rfl
theorem sizePx : (Tryd.prog.info? 43).map (·.size) = some 3 := by kernel_rfl
/-- In Decode: what stays, and the result's variable. -/
structure Dp (t : TypeId) (w w1 : World) : Prop where
  be : Below w.heap.size w w1
  res : w1.heap[w.heap.size]? = some (.cells #[.int .u64 0, .int .u64 0, .slice none 0 0] t (0, 0))
theorem Dp.frm {t : TypeId} {w w1 w2 : World} (h : Dp t w w1) (hf : Frm (fun k => k = w.heap.size + 1) w1 w2) : Dp t w w2 :=
  ⟨h.be.trans (hf.below h.be.size (fun k hk => by omega)), (hf.block _ (blk_lt h.res) (by omega)).trans h.res⟩
theorem Dp.below {t : TypeId} {w w1 w2 : World} (h : Dp t w w1) (hb : Below w1.heap.size w1 w2) : Dp t w w2 := ⟨blt h.be hb, (hb.block _ (blk_lt h.res)).trans h.res⟩
theorem Frm.set3 (w : World) (g : Nat) (a b c : Value) : Frm (fun k => k = g) w (((w.setCell ⟨g, 0, none⟩ a).setCell ⟨g, 1, none⟩ b).setCell ⟨g, 2, none⟩ c) :=
  ((Frm.of_set w ⟨g, 0, none⟩ a).trans (Frm.of_set _ ⟨g, 1, none⟩ b) (fun _ _ h => h)).trans (Frm.of_set _ ⟨g, 2, none⟩ c) (fun _ _ h => h)
theorem Frm.drewR {S : Nat → Prop} {w w1 : World} (h : Frm S w w1) : Frm S w w1.drew := h.trans (Frm.of_below (below_drew (Below.refl _ _)) S) (fun _ _ h => h)
theorem blk_set3 {w : World} {g : Nat} {cs : Array Value} {t : TypeId} (h : w.heap[g]? = some (.cells cs t (0, 0))) (hs : cs.size = 3) (a b c : Value) : (((w.setCell ⟨g, 0, none⟩ a).setCell ⟨g, 1, none⟩ b).setCell ⟨g, 2, none⟩ c).heap[g]? = some (.cells #[a, b, c] t (0, 0)) := by
  have h1 := blk_set (blk_set (blk_set h 0 a) 1 b) 2 c
  rw [h1]
  obtain ⟨l⟩ := cs
  match l, hs with
  | [x, y, z], _ => rfl
theorem Dp.end3 {t : TypeId} {w w1 w2 : World} (h : Dp t w w1) (hf : Frm (fun k => k = w.heap.size) w1 w2) : Below w.heap.size w w2 := h.be.trans (hf.below h.be.size (fun k hk => by omega))
def DecA (t : TypeId) (D : (Nat × Nat × List Hsh) × Int) (w : World) (e : Ending) (w' : World) : Prop := ∃ v, e = .returned (.tuple #[.agg #[.int .u64 (D.1.1 : Nat), .int .u64 (D.1.2.1 : Nat), v], .int .i64 D.2]) ∧ kH.R 63 w' w.heap.size (fun _ => True) v D.1.2.2 ∧ Below w.heap.size w w'
set_option maxHeartbeats 4000000 in
set_option maxRecDepth 100000 in
theorem proof_decode (bs : List Int) (A : Option Addr) (n c : Nat) (w : World) (hb : Bytes bs) (hl : bs.length = n) (hn : n ≤ 1000000000) (hc : n ≤ c) (hC : Kd.C (Kd.int .u8) w A n bs) :
    Calls Tryd.prog 47 #[.slice A n c] w (DecA 41 (decP bs) w) := by
  obtain ⟨g, hg, hgl⟩ := CG.ex hC
  obtain ⟨⟨s1, s2⟩, hs⟩ : ∃ x, kindR 77 bs = x := ⟨_, rfl⟩
  obtain ⟨⟨a1, a2, a3⟩, ha⟩ : ∃ x, numS s2 s1 = x := ⟨_, rfl⟩
  obtain ⟨⟨b1, b2, b3⟩, hb3⟩ : ∃ x, numS (orE a3 (4611686018427387904 < a1) 30) a2 = x := ⟨_, rfl⟩
  have hrun := runP bs hs ha hb3
  have hby1 : Bytes s1 := by have := kind_bytes (k := 77) hb; rw [hs] at this; exact this
  have hby2 : Bytes a2 := by have := numS_bytes (er := s2) hby1; rw [ha] at this; exact this
  have ha1 : a1 < 18446744073709551616 := by have := numS_lt (er := s2) hby1; rw [ha] at this; exact this
  have hb1 : b1 < 18446744073709551616 := by have := numS_lt (er := orE a3 (4611686018427387904 < a1) 30) hby2; rw [hb3] at this; exact this
  have HG := Aside0.mk hg
  have HGL := Aside0.mk hgl
  have HS := Aside0.mk hs
  have HA := Aside0.mk ha
  have HB := Aside0.mk hb3
  have HRun := Aside0.mk hrun
  have HY1 := Aside0.mk hby1
  have HY2 := Aside0.mk hby2
  have hmf : ∀ (fn : Fn) (first cap : Array Value) (w : World), (Instr.makeFunc fn first cap).run Tryd.prog w = .ok (.func fn first cap) w := fun _ _ _ _ => rfl
  clear hC hg hgl hs ha hb3 hrun hby1 hby2 hb
  go_enter Tryd.func47, Tryd.ntmps47
  go_wp2_with fail
  refine (kind_calls 77 (w.heap.size + 1) n c g A bs _ hn (Rdr.new HG.out HGL.out hl hc (bl_new w _) (by simp))).mono ?_
  rintro o w1 ⟨rfl, hr, hf⟩
  rw [HS.out] at hr
  have HR := Aside0.mk hr
  have HD := Aside0.mk (Dp.frm (t := 41) ⟨below_alloc (bl_new w _) _, (Below.heap_alloc _ _ _ (by simp)).trans (heap_new w _)⟩ hf)
  clear hr hf
  go_wp2_with fail
  obtain ⟨A1, n1, c1, hn1, hr1⟩ := HR.out
  refine (number_calls s2 (w.heap.size + 1) n1 c1 g A1 s1 _ (Nat.le_trans hn1 hn) HY1.out hr1).mono ?_
  rintro o w2 ⟨rfl, hr, hf⟩
  rw [HA.out] at hr ⊢
  have HR2 := Aside0.mk hr
  have HD2 := Aside0.mk (HD.out.frm hf)
  clear hr hf HR HD hr1
  go_wp2_with fail
  obtain ⟨A2, n2, c2, hn2, hr2⟩ := HR2.out
  refine (fail_calls _ 30 a3 (w.heap.size + 1) n2 c2 g A2 a2 _ hr2).mono ?_
  rintro o w3 ⟨rfl, hr, hf⟩
  have he : (if a3 = 0 ∧ decide ((a1 : Int) > 4611686018427387904) = true then (30 : Int) else a3) = orE a3 (4611686018427387904 < a1) 30 := by
    unfold orE
    by_cases c1 : a3 = 0
    · by_cases c2 : 4611686018427387904 < a1
      · have : (4611686018427387904 : Int) < (a1 : Int) := by omega
        simp [c1, c2, this]
      · have : ¬ ((4611686018427387904 : Int) < (a1 : Int)) := by omega
        simp [c1, c2, this]
    · simp [c1]
  rw [he] at hr
  have HR3 := Aside0.mk hr
  have HD3 := Aside0.mk (HD2.out.frm hf)
  have hn3 : n2 ≤ 1000000000 := by omega
  clear hr hf HR2 HD2 hr2 he
  go_wp2_with fail
  refine (number_calls (orE a3 (4611686018427387904 < a1) 30) (w.heap.size + 1) n2 c2 g A2 a2 _ hn3 HY2.out HR3.out).mono ?_
  rintro o w4 ⟨rfl, hr, hf⟩
  rw [HB.out] at hr ⊢
  have HR4 := Aside0.mk hr
  have HD4 := Aside0.mk (HD3.out.frm hf)
  clear hr hf HR3 HD3
  go_wp2_with fail
  obtain ⟨A4, n4, c4, hn4, hr4⟩ := HR4.out
  refine (fail_calls _ 32 b3 (w.heap.size + 1) n4 c4 g A4 b2 _ hr4).mono ?_
  rintro o w5 ⟨rfl, hr, hf⟩
  have he : (if b3 = 0 ∧ decide (a1 ≤ b1) = true then (32 : Int) else b3) = orE b3 (a1 ≤ b1) 32 := by
    unfold orE
    by_cases c2 : a1 ≤ b1 <;> simp [c2]
  rw [he] at hr
  generalize orE b3 (a1 ≤ b1) 32 = e5 at *
  have k1 := (blk_cell hr.box 1).trans (rfl : _ = some (Value.int .i64 e5))
  have HR5 := Aside0.mk hr
  have HD5 := Aside0.mk (HD4.out.frm hf)
  clear hr hf HR4 HD4 hr4 he HA HB HS
  by_cases h5 : e5 = 0
  · subst h5
    go_wp2_with fail
    refine (proof_places b1 a1 w5).mono ?_
    rintro e w6 ⟨v, rfl, hr6, hb6⟩
    obtain ⟨A6, q, c6, e9⟩ : ∃ A m c, v = .slice A m c := by obtain ⟨A, c, h⟩ := Kd.R_slice hr6; exact ⟨A, _, c, h⟩
    subst e9
    have hq := (Kd.R_reads' hr6).1
    have hq2 := proofAns_len b1 a1
    rw [← hq] at hq2
    have HQ := Aside0.mk hq.symm
    have HR6 := Aside0.mk (HR5.out.below hb6)
    have HD6 := Aside0.mk (HD5.out.below hb6)
    have HW6 := Aside0.mk (Nat.le_trans HD5.out.be.size hb6.size)
    clear hr6 hb6 HR5 HD5 hq k1
    go_wp2_with fail
    refine (nodes_calls 0 (w.heap.size + 1) n4 c4 q g A4 b2 _ (by omega) HR6.out).mono ?_
    rintro o w7 ⟨v, rfl, hr7, hrd, hf7⟩
    obtain ⟨A7, n7, c7, e9⟩ : ∃ A m c, v = .slice A m c := by obtain ⟨A, c, h⟩ := Kd.R_slice hr7; exact ⟨A, _, c, h⟩
    subst e9
    obtain ⟨A8, n8, c8, bs8, hr8⟩ := hrd
    have hend : decP bs = (if (nodS 0 q b2).2 ≠ 0 then (noPr, (nodS 0 q b2).2) else ((a1, b1, (nodS 0 q b2).1), 0)) := by
      rw [HRun.out]
      unfold endP
      rw [if_neg (by simp), HQ.out]
    generalize (nodS 0 q b2).1 = hs at *
    generalize (nodS 0 q b2).2 = e7 at *
    have k1 := (blk_cell hr8.box 1).trans (rfl : _ = some (Value.int .i64 e7))
    have HD7 := Aside0.mk (HD6.out.frm hf7)
    have HH7 := Aside0.mk (Kd.R_lower hr7 HW6.out)
    have HO7 := Aside0.mk (show ∀ k, (Value.slice A7 n7 c7).ownBlock = some k → k ≠ w.heap.size from fun k hk h => by
      have := Kd.R_base hr7 k hk
      have := HD6.out.be.size
      have := blk_lt HD6.out.res
      omega)
    have r0 := (blk_cell HD7.out.res 0).trans (rfl : _ = some (Value.int .u64 0))
    have r1 := (blk_cell HD7.out.res 1).trans (rfl : _ = some (Value.int .u64 0))
    have r2 := (blk_cell HD7.out.res 2).trans (rfl : _ = some (Value.slice none 0 0))
    have q0 := blk_frozen HD7.out.res 0
    have q1 := blk_frozen HD7.out.res 1
    have q2 := blk_frozen HD7.out.res 2
    clear hr7 hr8 hf7 HR6 HD6 HRun HQ
    by_cases h7 : e7 = 0
    · rw [if_neg (fun h => h h7)] at hend
      subst h7
      have HEnd := Aside0.mk hend
      clear hend
      go_wp2_with fail
      (try simp only [Exit.inBlock, Exit.then])
      refine bodyPost_ret (results_ct rfl _ _ w.heap.size 41 #[.int .u64 a1, .int .u64 b1, .slice A7 n7 c7] (0, 0) _ rfl (blk_set3 HD7.out.res rfl (.int .u64 a1) (.int .u64 b1) (.slice A7 n7 c7)) Tryd.underlying41 rfl sizePf) rfl ?_
      rw [HEnd.out]
      exact ⟨.slice A7 n7 c7, rfl, R_frm flat_kH HH7.out (Frm.set3 _ _ _ _ _) (fun k hk h => HO7.out k hk h), HD7.out.end3 (Frm.set3 _ _ _ _ _)⟩
    · rw [if_pos h7] at hend
      have HEnd := Aside0.mk hend
      clear hend
      go_wp2_with fail
      go_region
      go_wp2_with fail
      (try simp only [Exit.inBlock, Exit.then])
      refine bodyPost_ret (results_ct rfl _ _ w.heap.size 41 #[.int .u64 0, .int .u64 0, .slice none 0 0] (0, 0) _ rfl (blk_set3 HD7.out.res rfl (.int .u64 0) (.int .u64 0) (.slice none 0 0)) Tryd.underlying41 rfl sizePf) rfl ?_
      rw [HEnd.out]
      exact ⟨.slice none 0 0, rfl, Kd.R_nil _ _ _ _ _, HD7.out.end3 (Frm.set3 _ _ _ _ _).drewR⟩
  · have hd : decP bs = (noPr, e5) := by rw [HRun.out]; exact if_pos h5
    have HEnd := Aside0.mk hd
    clear hd
    have r0 := (blk_cell HD5.out.res 0).trans (rfl : _ = some (Value.int .u64 0))
    have r1 := (blk_cell HD5.out.res 1).trans (rfl : _ = some (Value.int .u64 0))
    have r2 := (blk_cell HD5.out.res 2).trans (rfl : _ = some (Value.slice none 0 0))
    have q0 := blk_frozen HD5.out.res 0
    have q1 := blk_frozen HD5.out.res 1
    have q2 := blk_frozen HD5.out.res 2
    go_wp2_with fail
    go_region
    go_wp2_with fail
    (try simp only [Exit.inBlock, Exit.then])
    refine bodyPost_ret (results_ct rfl _ _ w.heap.size 41 #[.int .u64 0, .int .u64 0, .slice none 0 0] (0, 0) _ rfl (blk_set3 HD5.out.res rfl (.int .u64 0) (.int .u64 0) (.slice none 0 0)) Tryd.underlying41 rfl sizePf) rfl ?_
    rw [HEnd.out]
    exact ⟨.slice none 0 0, rfl, Kd.R_nil _ _ _ _ _, HD5.out.end3 (Frm.set3 _ _ _ _ _).drewR⟩
end Go.Proofs.YtefnonlhepekdaaDoor.M
