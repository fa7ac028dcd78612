/- (many.walk).peaks with the closures of many.Places. many.Places. span.needed tells the spots that a span needs; span.Places. span.Places in one contract; span.checked. slices.Grow of nil, slices.Concat of byte rows. num.Short and massifref1.Short make the same bytes. span.Encode. many.checked and many.Encode. massiflaw20.awake. massiflaw20.SpanPlaces returns true. slices.Delete of one number of a row of the call's own. proof.Places. proof.write and proof.Encode. massiflaw7.awake. What massiflaw7.ProofSets asks of a proof's places, as plain facts; the law's walk. What massiflaw20.SpanSets asks of a span's places, as plain facts. massiflaw10.awake. What massiflaw10.ManyOne asks, as plain facts; the law's walk. massiflaw10.numbers; pos.Parent of a node that has a parent. What massiflaw10.ManySets asks, as plain facts; the law's walk. Two hashes, compared. -/
import Derived.Test.YtagcabmccpekaaaQV1
import Derived.Test.YtagcabmccpekaaaQV0
import Derived.Shelf.RegionOpenPlain
import Derived.Deep.RegionLaw
import Derived.Lib.SliceRun
import Derived.ChangeKeysEq
import Derived.Laws.StructEq
set_option linter.unusedVariables false
set_option linter.unusedSimpArgs false
namespace Go.Proofs.Ytagcabmccpekaaa.M
open Go.RowKit Go.Proofs.YtagcabmccpekaaaW.PrintWords Go.Proofs.YtagcabmccpekaaaW.PrintLast Go.Proofs.YtagcabmccpekaaaW.PrintMore Go.Proofs.Ytagcabmccpekaaa.Leaf

theorem C_ints_drop' {w : World} {A : Option Addr} {u : List Nat} {c : Nat} (h : Kd.C (Kd.int .u64) w A u.length (intsOf u)) (k : Nat) (hk : k ≤ u.length) (hc : u.length ≤ c) : Kd.C (Kd.int .u64) w (if c = k then A else Option.map (fun x => x.add k) A) (u.drop k).length (intsOf (u.drop k)) := by
  have h' : Kd.C (Kd.int .u64) w A (intsOf u).length (intsOf u) := by rw [ints_len]; exact h
  have := Kd.C_drop h' (m := k) (c := c) (by rw [ints_len]; exact hk) (by rw [ints_len]; exact hc)
  rw [← ints_drop, ints_len] at this
  rw [show (Kd.int .u64).sz = 1 from rfl, Nat.mul_one] at this
  exact this
/-- The three closures, in block n. -/
def Clo (W : World) (n bl : Nat) : Prop :=
  W.heap[n]? = some (.cells #[.func (.func 65) #[] #[.pointer (some ⟨bl, 0, none⟩)], .func (.func 66) #[] #[], .func (.func 67) #[] #[]] 98 (0, 0))

theorem Clo.told {n bl base : Nat} {v v' : Value} {w w' w'' : World} {xs ps : List Int} {e : Ending} (o : Clo w' n bl) (s : St bl base v w w' v' xs) (ht : Told bl base v' xs ps w' e w'') : Clo w'' n bl := by
  obtain ⟨_, v'', _, _, h3, _⟩ := ht
  have hne : some n ≠ v'.ownBlock := Kd.R_ne s.row o (by decide)
  refine (h3.block n (blk_lt o) (fun hk => ?_)).trans o
  rcases hk with hk | hk
  · subst hk
    have h1 := s.cell
    rw [show w'.heap[n]? = _ from o] at h1
    injection h1 with h1
    injection h1 with _ h2
    exact absurd h2 (by decide)
  · exact hne hk
theorem Clo.below {n bl : Nat} {w w' : World} (o : Clo w n bl) (hb : Below w.heap.size w w') : Clo w' n bl := (hb.block n (blk_lt o)).trans o
theorem hash_typed {e : Nat} {w : World} {base : Nat} {v : Value} {hs : List Hsh} (h : kH.R e w base (fun _ => True) v hs) : ∀ k, v.ownBlock = some k → ∃ c, w.heap[k]? = some (.cells c e (0, 0)) := by
  intro k hk
  obtain ⟨inner, ho⟩ := Kd.R_own h
  exact own_typed ho k hk
theorem St.told2 {bl base : Nat} {v v' v'' : Value} {w w' w'' : World} {xs ys : List Int} (s : St bl base v w w' v' xs) (h1 : w''.heap[bl]? = some (.cells #[v''] 23 (0, 0))) (h2 : Kd.R (Kd.int .u64) 22 w'' base (fun _ => True) v'' ys) (h3 : Frm (fun k => k = bl ∨ some k = v'.ownBlock) w' w'') (h4 : v''.ownBlock = v'.ownBlock ∨ ∃ b, v''.ownBlock = some b ∧ w'.heap.size ≤ b) : St bl base v w w'' v'' ys := by
  refine ⟨h1, h2, s.frm.trans h3 (fun i hi hk => ?_), ?_⟩
  · rcases hk with hk | hk
    · exact .inl hk
    · rcases s.own with ha | ⟨b, ha, hb⟩
      · exact .inr (by rw [hk, ha])
      · rw [ha] at hk
        injection hk with hk
        omega
  · rcases h4 with h4 | ⟨b, h4, hb⟩
    · rcases s.own with ha | ⟨b, ha, hb⟩
      · exact .inl (h4.trans ha)
      · exact .inr ⟨b, h4.trans ha, hb⟩
    · exact .inr ⟨b, h4, Nat.le_trans s.frm.size hb⟩
/-- A row that is not told. -/
def Off (W : World) (B bl : Nat) (v' vX : Value) (ys : List Int) : Prop := Kd.R (Kd.int .u64) 22 W B (fun _ => True) vX ys ∧ ∀ k, vX.ownBlock = some k → some k ≠ v'.ownBlock ∧ k ≠ bl
theorem Off.below {W W' : World} {B bl : Nat} {v' vX : Value} {ys : List Int} (o : Off W B bl v' vX ys) (hb : Below W.heap.size W W') : Off W' B bl v' vX ys := ⟨Kd.R_below o.1 hb, o.2⟩
theorem Off.rowed {W W' : World} {B B' bl : Nat} {v' vX v7 : Value} {ys : List Int} {hs : List Hsh} (o : Off W B bl v' vX ys) (h7 : kH.R 73 W B' (fun _ => True) v7 hs) (hf : Frm (fun k => some k = v7.ownBlock) W W') : Off W' B bl v' vX ys := by
  refine ⟨R_frm (flat_int .u64) o.1 hf (fun k hk hs' => ?_), o.2⟩
  obtain ⟨cc, hcc⟩ := hash_typed h7 k hs'.symm
  exact Kd.R_ne o.1 hcc (by decide) hk.symm
/-- One peak: what a call of down leaves. -/
theorem peak_step {w0 w W1 Wc : World} {bl h i c n B : Nat} {u : List Nat} {A : Option Addr} {v v1 v7 : Value} {xs : List Int} {hs : List Hsh} (hD : DownC w0 bl h i u A c) (hst : St bl w0.heap.size v w W1 v1 xs) (hw : Below w0.heap.size w0 W1) (ho : Clo W1 n bl) (hbl : w0.heap.size ≤ bl) (hl : xs.length + (mneed h i u).length < 17592186044415) (h7 : kH.R 73 W1 B (fun _ => True) v7 hs) {vX : Value} {ys : List Int} (hX : Off W1 B bl v1 vX ys) (hq : Below W1.heap.size W1 Wc) :
    Calls Try.prog 83 #[walkV bl, .agg #[.int .u8 h, .int .u64 i], .slice A u.length c] Wc fun e w2 => e = .returned hashZ.val ∧ ∃ v2, St bl w0.heap.size v w w2 v2 (xs ++ placesOf (mneed h i u)) ∧ Clo w2 n bl ∧ Below w0.heap.size w0 w2 ∧ W1.heap.size ≤ w2.heap.size ∧ kH.R 73 w2 B (fun _ => True) v7 hs ∧
      (∀ (g : Nat) (z : Array Value) (t : TypeId), W1.heap[g]? = some (.cells z t (0, 0)) → t ≠ 22 → t ≠ 23 → w2.heap[g]? = some (.cells z t (0, 0))) ∧ Off w2 B bl v2 vX ys := by
  have hsc := hst.below hq
  have hwc := below_on hw hw.size hq
  have h7c := Kd.R_below h7 hq
  refine (hD Wc v1 xs hwc hsc.cell hsc.row hl).mono ?_
  rintro e w2 ⟨he, ht⟩
  have hoc := (ho.below hq).told hsc ht
  have hbw := Told.below ht hbl (Kd.R_base hsc.row) hwc.size
  obtain ⟨_, v'', h1, h2, h3, h4⟩ := ht
  have h72 : kH.R 73 w2 B (fun _ => True) v7 hs := by
    refine R_frm flat_kH h7c h3 (fun k hk hs' => ?_)
    obtain ⟨cc, hcc⟩ := hash_typed h7c k hk
    rcases hs' with hs' | hs'
    · subst hs'
      have h9 := hsc.cell
      rw [hcc] at h9
      injection h9 with h9
      injection h9 with _ h10
      exact absurd h10 (by decide)
    · exact Kd.R_ne hsc.row hcc (by decide) hs'
  have hkeep : ∀ (g : Nat) (z : Array Value) (t : TypeId), W1.heap[g]? = some (.cells z t (0, 0)) → t ≠ 22 → t ≠ 23 → w2.heap[g]? = some (.cells z t (0, 0)) := by
    intro g z t hg0 ht1 ht2
    have hg := (hq.block g (blk_lt hg0)).trans hg0
    have hne : some g ≠ v1.ownBlock := Kd.R_ne hsc.row hg (by simpa using ht1.symm)
    refine (h3.block g (blk_lt hg) (fun hk => ?_)).trans hg
    rcases hk with hk | hk
    · subst hk
      have h9 := hsc.cell
      rw [hg] at h9
      injection h9 with h9
      injection h9 with _ h10
      exact ht2 h10
    · exact hne hk
  have hlX := Kd.R_lt hX.1
  have hoff : Off w2 B bl v'' vX ys := by
    refine ⟨R_frm (flat_int .u64) (Kd.R_below hX.1 hq) h3 (fun k hk hs' => ?_), fun k hk => ⟨fun hs' => ?_, (hX.2 k hk).2⟩⟩
    · rcases hs' with hs' | hs'
      · exact (hX.2 k hk).2 hs'
      · exact (hX.2 k hk).1 hs'
    · rcases h4 with h4 | ⟨b, h4, hb⟩
      · exact (hX.2 k hk).1 (hs'.trans h4)
      · rw [h4] at hs'
        injection hs' with hs'
        have := hlX k hk
        have := hq.size
        omega
  exact ⟨he, v'', hsc.told2 h1 h2 h3 h4, hoc, hwc.trans hbw, Nat.le_trans hq.size hbw.size, h72, hkeep, hoff⟩
theorem row_keeps {B : Nat} {v7 : Value} {w' w'' : World} {hs : List Hsh} (h7 : kH.R 73 w' B (fun _ => True) v7 hs) (hf : Frm (fun k => some k = v7.ownBlock) w' w'') {g : Nat} {z : Array Value} {t : TypeId} (hg : w'.heap[g]? = some (.cells z t (0, 0))) (ht : t ≠ 73) : w''.heap[g]? = some (.cells z t (0, 0)) := by
  refine (hf.block g (blk_lt hg) (fun hk => ?_)).trans hg
  obtain ⟨cc, hcc⟩ := hash_typed h7 g hk.symm
  rw [hg] at hcc
  injection hcc with hcc
  injection hcc with _ h10
  exact ht h10
theorem five_cells {W : World} {n m bl : Nat} {h i : Int} (hc : Clo W n bl) (hp : W.heap[m]? = some (.cells #[.int .u8 h, .int .u64 i] 39 (0, 0))) :
    W.cell? ⟨n, 0, none⟩ = some (.func (.func 65) #[] #[.pointer (some ⟨bl, 0, none⟩)]) ∧ W.cell? ⟨n, 1, none⟩ = some (.func (.func 66) #[] #[]) ∧ W.cell? ⟨n, 2, none⟩ = some (.func (.func 67) #[] #[]) ∧ W.cell? ⟨m, 0, none⟩ = some (.int .u8 h) ∧ W.cell? ⟨m, 1, none⟩ = some (.int .u64 i) :=
  ⟨(blk_cell hc 0).trans rfl, (blk_cell hc 1).trans rfl, (blk_cell hc 2).trans rfl, (blk_cell hp 0).trans rfl, (blk_cell hp 1).trans rfl⟩
theorem St.rowed {bl base B : Nat} {v v' v7 : Value} {w w' w'' : World} {xs : List Int} {hs : List Hsh} (s : St bl base v w w' v' xs) (h7 : kH.R 73 w' B (fun _ => True) v7 hs) (hB : w.heap.size ≤ B) (hf : Frm (fun k => some k = v7.ownBlock) w' w'') : St bl base v w w'' v' xs := by
  cases hk : v7.ownBlock with
  | none =>
    have hb : Below w'.heap.size w' w'' := hf.below (Nat.le_refl _) (fun k hk' => by rw [hk] at hk'; simp at hk')
    exact s.below hb
  | some g =>
    obtain ⟨cc, hcc⟩ := hash_typed h7 g hk
    have := Kd.R_base h7 g hk
    exact s.store hcc (by decide) (by decide) (by omega) (hf.mono (fun k _ hk' => by rw [hk] at hk'; injection hk'))

set_option maxHeartbeats 4000000 in
set_option maxRecDepth 100000 in
theorem many_peaks (w0 : World) (bl n : Nat) (hbl : w0.heap.size ≤ bl) (hn : n ≤ 4611686018427387904) (idx : List Nat) (A : Option Addr) (c : Nat) (hup : Up idx) (hlt : ∀ x ∈ idx, x < n) (hil : idx.length ≤ 100000) (hc : idx.length ≤ c) (hc2 : c ≤ 9223372036854775807)
    (hC : Kd.C (Kd.int .u64) w0 A idx.length (intsOf idx)) (w : World) (v : Value) (hw : Below w0.heap.size w0 w) (hb : w.heap[bl]? = some (.cells #[v] 23 (0, 0))) (hr : Kd.R (Kd.int .u64) 22 w w0.heap.size (fun _ => True) v []) :
    Calls Try.prog 68 #[walkV bl, .slice A idx.length c, .int .u64 n] w fun e w' => (∃ r, e = .returned r) ∧ Tell bl w0.heap.size v [] (placesOf (manySpots idx n)) w w' := by
  obtain ⟨kt, hkt⟩ := (peaks_val n hn).rounds
  have hrun := run_tops n 63 idx hup (fun x hx => ⟨hlt x hx, by rw [Nat.div_eq_of_lt (by have := hlt x hx; omega), Nat.div_eq_of_lt (by omega)]⟩)
  have hfits := tops_fits n hn
  have htl : (topsN n).length ≤ 63 := topsF_len 63 n
  have hspots : manySpots idx n = runN (topsN n) idx := hrun.2.symm
  have hok : RunOK (topsN n) idx := hrun.1
  rw [hspots]
  generalize topsN n = T at *
  have HKt := Aside0.mk hkt
  have HR := Aside0.mk hr
  have HB := Aside0.mk hb
  have HW := Aside0.mk hw
  have HC := Aside0.mk hC
  have HF := Aside0.mk hfits
  have hlt := blk_lt hb
  have hws := hw.size
  clear hkt hr hb hw hC hfits hspots hrun
  unfold walkV
  go_enter Try.func68, Try.ntmps68
  go_wp2_with fail
  refine (pos_Peaks.calls kt n _ _ HKt.out).mono ?_
  rintro e w1 ⟨v1, rfl, hr1, hb1⟩
  obtain ⟨A1, c1, e1⟩ := Kd.R_slice hr1
  subst e1
  have HC1 := Aside0.mk (Kd.R_reads' hr1).2.2
  have HB1 := Aside0.mk (blt (bl_new w _) hb1)
  have HCl := Aside0.mk (show Clo w1 w.heap.size bl from (hb1.block _ (by simp)).trans (heap_new w _))
  have hl1 := hb1.size
  simp at hl1
  have hvl := Kd.R_lt HR.out
  have HX1 := Aside0.mk (show Off w1 w.heap.size bl v (.slice A1 (placesOf T).length c1) (placesOf T) from ⟨Kd.R_lower hr1 (by simp), fun k hk => ⟨fun h9 => by have := Kd.R_base hr1 k hk; have := hvl k h9.symm; simp at *; omega, fun h9 => by have := Kd.R_base hr1 k hk; simp at this; omega⟩⟩)
  clear hr1 hb1 hl1 hvl
  have hpl : (placesOf T).length = T.length := by simp [placesOf]
  go_wp2_with fail
  go_loopw [1, 7, 20] (fun s1 s7 s20 wr => ∃ (j : Nat) (l : List Nat) (A' : Option Addr) (c' : Nat) (told : List (Nat × Nat)) (v' : Value) (hs : List Hsh), j ≤ T.length ∧ s20 = .int .i64 j ∧ s1 = .slice A' l.length c' ∧ l.length ≤ c' ∧ c' ≤ 9223372036854775807 ∧ Aside0 (Kd.C (Kd.int .u64) w0 A' l.length (intsOf l) ∧ Up l ∧ RunOK (T.drop j) l ∧ runN T idx = told ++ runN (T.drop j) l ∧ told.length ≤ 6200001 * j ∧ l.length ≤ 100000) ∧
      Aside0 (St bl w0.heap.size v w wr v' (placesOf told) ∧ Below w0.heap.size w0 wr ∧ Clo wr w.heap.size bl ∧ Off wr w.heap.size bl v' (.slice A1 T.length c1) (placesOf T)) ∧ Aside0 (kH.R 73 wr w.heap.size (fun _ => True) s7 hs ∧ hs.length = j)) (fun _ _ k _ => T.length - (intOf k).toNat)
  case atStart => exact ⟨0, idx, A, c, [], v, [], Nat.zero_le _, rfl, rfl, hc, hc2, ⟨HC.out, hup, hok, rfl, Nat.zero_le _, hil⟩, ⟨(St.start HB.out HR.out).below HB1.out, HW.out.trans (HB1.out.mono hws), HCl.out, by rw [← hpl]; exact HX1.out⟩, ⟨Kd.R_nil _ _ _ _ _, rfl⟩⟩
  case round =>
    obtain ⟨j, l, A', c', told, v', hs, hj, rfl, rfl, hlc, hcc, HL, HS, HH⟩ := hrel
    by_cases hjl : j < T.length
    · obtain ⟨hh, ii, hs'⟩ : ∃ hh ii, T[j] = (hh, ii) := ⟨T[j].1, T[j].2, rfl⟩
      have hfit := HF.out _ (List.getElem_mem hjl)
      rw [hs'] at hfit
      obtain ⟨hCl, hul, hrok, hrun, htold, hl5⟩ := HL.out
      rw [List.drop_eq_getElem_cons hjl, hs'] at hrok hrun
      have hd : RunOK (T.drop (j + 1)) (l.drop (cutN l ((ii + 1) * 2 ^ hh))) := hrok.2
      have hu : ∀ x ∈ l.take (cutN l ((ii + 1) * 2 ^ hh)), x / 2 ^ hh = ii := hrok.1
      have hrun' : runN T idx = told ++ mneed hh ii (l.take (cutN l ((ii + 1) * 2 ^ hh))) ++ runN (T.drop (j + 1)) (l.drop (cutN l ((ii + 1) * 2 ^ hh))) := by rw [hrun, List.append_assoc]; rfl
      obtain ⟨ks, hks⟩ := (spot_val hh ii hfit).rounds
      obtain ⟨ku, hku⟩ := (under_val hh ii hfit).rounds
      obtain ⟨b, hbs⟩ := bs_val l ((ii + 1) * 2 ^ hh) (by omega) hul
      obtain ⟨kb, hkb⟩ := hbs.rounds
      have hcl := cut_le l ((ii + 1) * 2 ^ hh)
      have hmd := many_down w0 bl hbl hh ii (l.take (cutN l ((ii + 1) * 2 ^ hh))) A' c' hfit (hul.sublist (List.take_sublist _ _)) hu (by have := List.length_take_le' (cutN l ((ii + 1) * 2 ^ hh)) l; omega) (by have := List.length_take_le' (cutN l ((ii + 1) * 2 ^ hh)) l; omega) hcc (C_ints_take hCl _ hcl)
      have htk : (l.take (cutN l ((ii + 1) * 2 ^ hh))).length = cutN l ((ii + 1) * 2 ^ hh) := by rw [List.length_take]; omega
      have hml : (mneed hh ii (l.take (cutN l ((ii + 1) * 2 ^ hh)))).length ≤ 6200001 := by
        have h1 := mneed_len hh ii (l.take (cutN l ((ii + 1) * 2 ^ hh)))
        have h2 : hh * (undL hh ii (l.take (cutN l ((ii + 1) * 2 ^ hh)))).length ≤ 62 * 100000 := Nat.mul_le_mul (height_le _ _ hfit) (Nat.le_trans (und_len _ _ _) (by omega))
        omega
      obtain ⟨adT, eT, hxT⟩ := Kd.at_int (Kd.R_reads' HS.out.2.2.2.1).2.2 (j : Int) (by omega) (by omega)
      have hrdT : rd (placesOf T) (j : Int) = ((placeN hh ii : Nat) : Int) := by simp [rd, placesOf, List.getD_eq_getElem?_getD, List.getElem?_map, List.getElem?_eq_getElem hjl, hs']
      rw [Int.toNat_natCast, hrdT] at hxT
      subst eT
      have hhl := height_le _ _ hfit
      generalize placeN hh ii = pl at *
      generalize hat : cutN l ((ii + 1) * 2 ^ hh) = at_ at *
      generalize (ii + 1) * 2 ^ hh = to_ at *
      have HKs := Aside0.mk hks
      have HKu := Aside0.mk hku
      have HKb := Aside0.mk hkb
      have HMd := Aside0.mk hmd
      have HTk := Aside0.mk htk
      have HMl := Aside0.mk hml
      have HRun := Aside0.mk hrun'
      have HUp := Aside0.mk hul
      have HTold := Aside0.mk htold
      have HCl' := Aside0.mk hCl
      have HDok := Aside0.mk hd
      clear hks hku hkb hmd htk hml hrun' hul hrok hrun htold hCl hd hu hbs hs' hrdT hfit hat
      go_wp2_with fail
      refine (pos_Spot.calls ks pl _ _ _ _ HKs.out).mono ?_
      rintro e w3 ⟨rfl, hb3⟩
      have HB3 := Aside0.mk hb3
      clear hb3 hxT
      go_wp2_with fail
      refine (pos_Under.calls ku pl _ _ _ _ HKu.out).mono ?_
      rintro e w4 ⟨rfl, hb4⟩
      have HB4 := Aside0.mk (blt (below_alloc HB3.out _) hb4)
      have hsp := Aside0.mk ((hb4.block _ (by simp)).trans (heap_new w3 _))
      clear hb4
      go_wp2_with fail
      have hC4 : Kd.C (Kd.int .u64) w4 A' l.length (intsOf l) := Kd.C_below HCl'.out (below_on HS.out.2.1 HS.out.2.1.size HB4.out)
      have hBS := slices_BinarySearch_uint64_uint64.calls kb A' c' (intsOf l) to_ _ _ w4 (by rw [ints_len]; exact hC4) (by rw [ints_len]; exact hlc) HKb.out
      rw [ints_len] at hBS
      refine hBS.mono ?_
      rintro e w5 ⟨rfl, hd5⟩
      have hbl5 := Aside0.mk (blt HB4.out hd5.below)
      have hsp5 := (hd5.below.block _ (blk_lt hsp.out)).trans hsp.out
      have p0 : w5.cell? ⟨w3.heap.size, 0, none⟩ = some (.int .u8 hh) := (blk_cell hsp5 0).trans rfl
      have p1 : w5.cell? ⟨w3.heap.size, 1, none⟩ = some (.int .u64 ii) := (blk_cell hsp5 1).trans rfl
      have S5 := Aside0.mk (HS.out.1.below hbl5.out)
      have W5 := Aside0.mk (below_on HS.out.2.1 HS.out.2.1.size hbl5.out)
      have C5 := Aside0.mk (HS.out.2.2.1.below hbl5.out)
      have R5 := Aside0.mk (Kd.R_below HH.out.1 hbl5.out)
      have T5 := Aside0.mk (HS.out.2.2.2.below hbl5.out)
      have k0 : w5.cell? ⟨w.heap.size, 0, none⟩ = some (.func (.func 65) #[] #[.pointer (some ⟨bl, 0, none⟩)]) := (blk_cell C5.out 0).trans rfl
      have k1 : w5.cell? ⟨w.heap.size, 1, none⟩ = some (.func (.func 66) #[] #[]) := (blk_cell C5.out 1).trans rfl
      have k2 : w5.cell? ⟨w.heap.size, 2, none⟩ = some (.func (.func 67) #[] #[]) := (blk_cell C5.out 2).trans rfl
      have ha0 : (0 : Int) ≤ (at_ : Int) := by omega
      have hac : (at_ : Int) ≤ (c' : Int) := by omega
      have hau : (at_ : Int) ≤ (l.length : Int) := by omega
      have hzv : hashZ.val = .agg #[.int .u8 0, .int .u8 0, .int .u8 0, .int .u8 0, .int .u8 0, .int .u8 0, .int .u8 0, .int .u8 0, .int .u8 0, .int .u8 0, .int .u8 0, .int .u8 0, .int .u8 0, .int .u8 0, .int .u8 0, .int .u8 0, .int .u8 0, .int .u8 0, .int .u8 0, .int .u8 0, .int .u8 0, .int .u8 0, .int .u8 0, .int .u8 0, .int .u8 0, .int .u8 0, .int .u8 0, .int .u8 0, .int .u8 0, .int .u8 0, .int .u8 0, .int .u8 0] := rfl
      have hsz57 : w.heap.size ≤ w5.heap.size := Nat.le_trans HS.out.1.frm.size hbl5.out.size
      have hj63 : hs.length ≤ 63 := by have := HH.out.2; omega
      have hz1 := hashZ.one
      have sz := sizeH
      have hLen1 : (placesOf told).length + (mneed hh ii (l.take at_)).length < 17592186044415 := by have := HTold.out; have := HMl.out; simp only [placesOf, List.length_map]; omega
      have D1 := Aside0.mk (fun Wc hq => peak_step (Wc := Wc) HMd.out S5.out W5.out C5.out hbl hLen1 R5.out T5.out hq)
      rw [HTk.out] at D1
      unfold walkV at D1
      have P5 := Aside0.mk hsp5
      clear hLen1 hC4 hBS hd5 hsp5
      go_upto_region 8 with (fail)
      go_cut [7] (fun v7 wc => ∃ (v2 : Value) (hs2 : List Hsh), Aside0 (St bl w0.heap.size v w wc v2 (placesOf told ++ placesOf (mneed hh ii (l.take at_))) ∧ Below w0.heap.size w0 wc ∧ Clo wc w.heap.size bl ∧ Off wc w.heap.size bl v2 (.slice (some adT) T.length c1) (placesOf T)) ∧ Aside0 (kH.R 73 wc w.heap.size (fun _ => True) v7 hs2 ∧ hs2.length = j + 1))
      case first =>
        go_region_held3 (fun w' => w'.cell? ⟨w.heap.size, 0, none⟩ = some (.func (.func 65) #[] #[.pointer (some ⟨bl, 0, none⟩)]) ∧ w'.cell? ⟨w.heap.size, 1, none⟩ = some (.func (.func 66) #[] #[]) ∧ w'.cell? ⟨w.heap.size, 2, none⟩ = some (.func (.func 67) #[] #[]) ∧
          w'.cell? ⟨w3.heap.size, 0, none⟩ = some (.int .u8 hh) ∧ w'.cell? ⟨w3.heap.size, 1, none⟩ = some (.int .u64 ii)) (first | exact five_cells C9.out P9.out | exact five_cells (C6.out.below (bl_new w6 _)) ((Below.heap_alloc _ _ _ (blk_lt P6.out)).trans P6.out) | exact five_cells C6.out P6.out | exact ⟨k0, k1, k2, p0, p1⟩) (first | (go_at_call 83; refine (D1.out _ (by repeat (with_reducible first | exact Below.refl _ _ | refine below_alloc ?_ _ | refine below_drew ?_))).mono ?_; rintro e w6 ⟨he6, v6, hs6, hc6, hw6, hsz6, hr6, hk6, hx6⟩; have X6 := Aside0.mk hx6; rw [hzv] at he6; subst he6; have hsz7 : w.heap.size ≤ w6.heap.size := Nat.le_trans hsz57 hsz6; have S6 := Aside0.mk hs6; have C6 := Aside0.mk hc6; have W6 := Aside0.mk hw6; have R6 := Aside0.mk hr6; have P6 := Aside0.mk (hk6 _ _ _ P5.out (by decide) (by decide)); clear hs6 hc6 hw6 hr6 hk6 hx6) | (refine step_of_list rfl (app_one kH (W := w6) w.heap.size rfl (.tmp 41) (.tmp 48) 43 73 _ 32 rfl Try.underlying43 infoH rfl (by decide) (by decide) u7 hs hashZ hashZ.cells rfl rfl rfl R6.out hsz7 (by omega) ?_); intro A9 c9 w9 hr9 hf9 hat9; have R9 := Aside0.mk hr9; have F9 := Aside0.mk hf9; have C9 := Aside0.mk (show Clo w9 w.heap.size bl from row_keeps R6.out hf9 C6.out (by decide)); have P9 := Aside0.mk (row_keeps R6.out hf9 P6.out (by decide)); have S9 := Aside0.mk (S6.out.rowed R6.out (Nat.le_refl _) hf9); have X9 := Aside0.mk (X6.out.rowed R6.out hf9); clear hr9 hf9 hat9; refine ⟨rfl, ?_⟩))
        go_wp2_with fail
        have hb9 : Below w0.heap.size w0 w9 := W6.out.trans (F9.out.below W6.out.size (fun k hk => by have := Kd.R_base R6.out k hk.symm; omega))
        have hl9 : (hs ++ [hashZ]).length = j + 1 := by have := HH.out.2; simp; omega
        go_meet
        case rel => exact ⟨v6, hs ++ [hashZ], ⟨S9.out, hb9, C9.out, X9.out⟩, ⟨R9.out, hl9⟩⟩
      case rest =>
        obtain ⟨v2, hs2, hcc1, hcc2⟩ := hcut
        have HC1' := hcc1
        clear hcc1
        go_wp2_with fail
        go_roundw
        case rel =>
          have hpo : placesOf (told ++ mneed hh ii (l.take at_)) = placesOf told ++ placesOf (mneed hh ii (l.take at_)) := by simp [placesOf]
          exact ⟨j + 1, l.drop at_, _, c' - at_, told ++ mneed hh ii (l.take at_), v2, hs2, by omega, by go_num, by rw [List.length_drop], by rw [List.length_drop]; omega, by omega, ⟨C_ints_drop' HCl'.out at_ hcl hlc, HUp.out.sublist (List.drop_sublist _ _), HDok.out, HRun.out, by have := HTold.out; have := HMl.out; rw [List.length_append]; omega, by rw [List.length_drop]; omega⟩, ⟨by rw [hpo]; exact HC1'.out.1, HC1'.out.2⟩, hcc2⟩
        case measure => simp [intOf]; omega
    · have hje : j = T.length := by omega
      subst hje
      obtain ⟨A7, l7, c7, e7⟩ : ∃ A l c, u7 = .slice A l c := (by obtain ⟨A, c, h⟩ := Kd.R_slice HH.out.1; exact ⟨A, _, c, h⟩)
      have HE7 := Aside0.mk e7
      clear e7
      go_wp2_with fail
      go_ret
      refine ⟨⟨_, rfl⟩, ?_⟩
      have h1 := HL.out.2.2.2.1
      rw [List.drop_of_length_le (Nat.le_refl _)] at h1
      rw [h1, show told ++ runN [] l = told by simp [runN]]
      exact St.done (xs0 := []) HS.out.1
end Go.Proofs.Ytagcabmccpekaaa.M

namespace Go.Proofs.Ytagcabmccpekaaa.M
open Go.RowKit Go.Proofs.YtagcabmccpekaaaW.PrintWords Go.Proofs.YtagcabmccpekaaaW.PrintLast Go.Proofs.YtagcabmccpekaaaW.PrintMore Go.Proofs.Ytagcabmccpekaaa.Leaf

set_option maxHeartbeats 2000000 in
set_option maxRecDepth 100000 in
theorem many_places (idx : List Nat) (n : Nat) (A : Option Addr) (c : Nat) (w : World) (hil : idx.length ≤ 100000) (hc : idx.length ≤ c) (hc2 : c ≤ 9223372036854775807) (hC : Kd.C (Kd.int .u64) w A idx.length (intsOf idx)) :
    Calls Try.prog 36 #[.slice A idx.length c, .int .u64 n] w fun e w' => ∃ v, e = .returned (.tuple #[v, .int .i64 (manyAns idx n).2]) ∧ Kd.R (Kd.int .u64) 22 w' w.heap.size (fun _ => True) v (manyAns idx n).1 ∧ Below w.heap.size w w' := by
  obtain ⟨kl, hkl⟩ := (looked_val idx n (by omega)).rounds
  have hlk := many_looked.calls kl A c (intsOf idx) n _ w (by rw [ints_len]; exact hC) (by rw [ints_len]; exact hc) hkl
  rw [ints_len] at hlk
  have hans : manyAns idx n = if lookN idx n = 0 then (placesOf (manySpots idx n), 0) else ([], lookN idx n) := rfl
  have hgood : lookN idx n = 0 → n ≤ 4611686018427387904 ∧ (∀ x ∈ idx, x < n) ∧ Up idx := by
    intro h
    unfold lookN at h
    split at h
    · simp at h
    · obtain ⟨h1, h2, _⟩ := look_up n idx none h
      exact ⟨by omega, h1, h2⟩
  generalize manyAns idx n = E at *
  generalize lookN idx n = r at *
  have HL := Aside0.mk hlk
  have HE := Aside0.mk hans
  have HC := Aside0.mk hC
  have HG := Aside0.mk hgood
  clear hlk hans hC hgood hkl
  go_enter Try.func36, Try.ntmps36
  go_wp2_with fail
  refine HL.out.mono ?_
  rintro e w1 ⟨rfl, hd1⟩
  have HB1 := Aside0.mk hd1.below
  clear hd1 HL
  by_cases h0 : r = 0
  · subst h0
    obtain ⟨hn, hlt, hup⟩ := HG.out rfl
    have hpk := many_peaks w1 w1.heap.size n (Nat.le_refl _) hn idx A c hup hlt hil hc hc2 (Kd.C_below HC.out HB1.out) (w1.alloc (.cells #[.slice none 0 0] 23)) (.slice none 0 0) (bl_new w1 _) (heap_new w1 _) (Kd.R_nil _ _ _ _ _)
    have HP := Aside0.mk hpk
    clear hpk hn hlt hup
    go_wp2_with fail
    refine HP.out.mono ?_
    rintro e w2 ⟨⟨rv, rfl⟩, ht⟩
    have hbt := Told.below ht (Nat.le_refl _) (fun k hk => by simp [Value.ownBlock] at hk) (by simp)
    obtain ⟨_, v2, h1, h2, h3, h4⟩ := ht
    have hx : w2.cell? ⟨w1.heap.size, 0, none⟩ = some v2 := (blk_cell h1 0).trans rfl
    have R2 := Aside0.mk h2
    have B2 := Aside0.mk ((bl_new w1 _).trans hbt)
    clear h1 h2 h3 h4 hbt
    go_wp2_with fail
    go_ret2
    have he := HE.out
    rw [if_pos (by first | rfl | trivial)] at he
    rw [he]
    exact ⟨_, rfl, Kd.R_lower R2.out HB1.out.size, blt HB1.out B2.out⟩
  · have hd : (r != 0) = true := by rw [bne_iff_ne]; exact h0
    have HK := Aside0.mk h0
    clear h0
    go_wp2
    go_ret2
    have he := HE.out
    rw [if_neg HK.out] at he
    rw [he]
    exact ⟨_, rfl, Kd.R_nil _ _ _ _ _, HB1.out⟩
end Go.Proofs.Ytagcabmccpekaaa.M

namespace Go.Proofs.Ytagcabmccpekaaa.M
open Go.RowKit Go.Proofs.YtagcabmccpekaaaW.PrintWords Go.Proofs.YtagcabmccpekaaaW.PrintLast Go.Proofs.YtagcabmccpekaaaW.PrintMore Go.Proofs.Ytagcabmccpekaaa.Leaf

/-- The loop of span.Places after j peaks. -/
def SpSt (f t n : Nat) (w : World) (v1 : Value) (L : List Int) (j : Nat) (wr : World) : Prop :=
  ∃ v, wr.heap[w.heap.size]? = some (.cells #[v] 23 (0, 0)) ∧ Kd.R (Kd.int .u64) 22 wr w.heap.size (fun _ => True) v (placesOf (((topsN n).take j).flatMap fun s => spots f t s.1 s.2)) ∧
    Kd.R (Kd.int .u64) 22 wr w.heap.size (fun _ => True) v1 L ∧ (∀ k, v1.ownBlock = some k → v.ownBlock ≠ some k) ∧ Below w.heap.size w wr ∧ w.heap.size < wr.heap.size

theorem SpSt.next {f t n : Nat} {w : World} {v1 v : Value} {L : List Int} {j : Nat} {wr W w' : World} {e : Ending} {s : Nat × Nat} {ys : List Int} (hj : j < (topsN n).length) (hs : s = (topsN n)[j])
    (g1 : wr.heap[w.heap.size]? = some (.cells #[v] 23 (0, 0))) (g2 : Kd.R (Kd.int .u64) 22 wr w.heap.size (fun _ => True) v ys) (g3 : Kd.R (Kd.int .u64) 22 wr w.heap.size (fun _ => True) v1 L) (g4 : ∀ k, v1.ownBlock = some k → v.ownBlock ≠ some k) (g5 : Below w.heap.size w wr) (g6 : w.heap.size < wr.heap.size)
    (hW : Below wr.heap.size wr W) (h : Told w.heap.size w.heap.size v (placesOf (((topsN n).take j).flatMap fun s => spots f t s.1 s.2)) (placesOf (spots f t s.1 s.2)) W e w') : SpSt f t n w v1 L (j + 1) w' := by
  obtain ⟨_, v2, h1, h2, h3, h4⟩ := h
  have hv : ∀ k, v.ownBlock = some k → v1.ownBlock ≠ some k := fun k hk h => g4 k h hk
  have hlt := Kd.R_lt g3
  refine ⟨v2, h1, ?_, ?_, ?_, ?_, ?_⟩
  · rw [List.take_add_one, List.getElem?_eq_getElem hj, ← hs]
    rw [show placesOf (((topsN n).take j ++ (some s).toList).flatMap fun s => spots f t s.1 s.2) = placesOf (((topsN n).take j).flatMap fun s => spots f t s.1 s.2) ++ placesOf (spots f t s.1 s.2) by simp [placesOf]]
    exact h2
  · refine Kd.R_mono (Kd.R_step (w := W) (ok := fun k => some k = v1.ownBlock) ?_ (fun k hk hkl => h3.block k hkl ?_)) (fun _ _ => trivial)
    · obtain ⟨_, q⟩ := Kd.R_below g3 hW
      exact ⟨fun k hk => hk.symm, q.imp_ (fun _ _ hp => hp)⟩
    · rintro (hk1 | hk1)
      · subst hk1
        exact Kd.R_ne g3 g1 (by decide) hk
      · exact hv k hk1.symm hk.symm
  · intro k hk
    rcases h4 with h4 | ⟨b, h4, hb⟩
    · rw [h4]
      exact g4 k hk
    · rw [h4]
      have := hlt k hk
      have := hW.size
      intro he
      injection he with he
      omega
  · refine g5.trans ⟨h3.os.trans hW.os, h3.tape.trans hW.tape, h3.output.trans hW.output, Nat.le_trans hW.size h3.size, fun k hk => ?_⟩
    have hs1 := hW.size
    rw [h3.block k (by omega) ?_, hW.block k (by omega)]
    rintro (hk1 | hk1)
    · omega
    · have := Kd.R_base g2 k hk1.symm
      omega
  · have := hW.size
    have := h3.size
    omega

end Go.Proofs.Ytagcabmccpekaaa.M

namespace Go.Proofs.Ytagcabmccpekaaa.M
open Go.RowKit Go.Proofs.YtagcabmccpekaaaW.PrintWords Go.Proofs.YtagcabmccpekaaaW.PrintLast Go.Proofs.YtagcabmccpekaaaW.PrintMore Go.Proofs.Ytagcabmccpekaaa.Leaf

end Go.Proofs.Ytagcabmccpekaaa.M

namespace Go.Proofs.Ytagcabmccpekaaa.M
open Go.RowKit Go.Proofs.YtagcabmccpekaaaW.PrintWords Go.Proofs.YtagcabmccpekaaaW.PrintLast Go.Proofs.YtagcabmccpekaaaW.PrintMore Go.Proofs.Ytagcabmccpekaaa.Leaf

set_option maxHeartbeats 1000000 in
set_option maxRecDepth 100000 in
theorem grow_nil (n : Nat) (w : World) (hn : n ≤ 140737488355328) :
    Calls Try.prog 80 #[.slice none 0 0, .int .i64 n] w fun e w' => ∃ v, e = .returned v ∧ Kd.R (Kd.int .u8) 5 w' w.heap.size (fun _ => True) v [] ∧ Below w.heap.size w w' := by
  by_cases h0 : n = 0
  · subst h0
    go_enter Try.func80, Try.ntmps80
    go_wp2
    go_ret
    exact ⟨_, rfl, Kd.R_nil _ _ _ _ _, Below.refl _ _⟩
  · have hp : 0 < n := by omega
    go_enter Try.func80, Try.ntmps80
    go_wp2_with (at_builtin; go_loud (refine Kd.R_append_zeros (Kd.int .u8) (w0 := w) w.heap.size rfl (.tmp 20) (.tmp 21) 46 3 5 (.int .u8 0) 1 rfl Try.underlying46 Try.underlying3 info5 rfl (by decide) (by omega) (.slice none 0 0) [] (0 : Int) (kx := .i64) (n : Int) (fun _ => True) rfl rfl rfl (fun _ _ => trivial) (Kd.R_nil _ _ _ _ _) (by omega) (Below.refl _ _) (Nat.le_refl _) (by simp; omega) ?_; intro v1 w1 hr hb hg hat; obtain ⟨A1, c1, e1⟩ := Kd.R_slice hr; have HR := Aside0.mk hr; have HB := Aside0.mk hb; have HE := Aside0.mk e1; clear hr hb hg hat e1; rw [HE.out]))
    go_ret
    have hr := HR.out
    rw [HE.out] at hr
    exact ⟨_, rfl, by have := Kd.R_take hr (Nat.zero_le _); rwa [List.take_zero] at this, HB.out⟩

theorem rd_rows {w : World} {A : Option Addr} {n : Nat} {LL : List (List Int)} (h : Kd.C (Kd.slice 5 (Kd.int .u8)) w A n LL) (j : Nat) (hj : j < LL.length) : ∃ ad A0 c0, A = some ad ∧ w.cell? (ad.add j) = some (.slice A0 (LL[j]).length c0) ∧ (LL[j]).length ≤ c0 ∧ (Kd.int .u8).C w A0 (LL[j]).length (LL[j]) := by
  have hl := Kd.C_len h
  obtain ⟨ad, c, e, _, hK, hc0⟩ := Kd.C_get h ([] : List Int) (j : Int) (by omega) (by omega)
  have hc : ∀ i u, c[i]? = some u → w.cell? (ad.add (j * 1 + i)) = some u := hc0
  rw [Int.toNat_natCast, List.getD_eq_getElem?_getD, List.getElem?_eq_getElem hj] at hK
  obtain ⟨A0, c0, rfl, l0, g0⟩ := hK
  exact ⟨ad, A0, c0, e, by have hq := hc 0 _ rfl; rwa [Nat.mul_one, Nat.add_zero] at hq, l0, g0⟩
theorem flat_take_le (LL : List (List Int)) (j : Nat) : (LL.take j).flatten.length ≤ LL.flatten.length := by
  conv => rhs; rw [← List.take_append_drop j LL]
  rw [List.flatten_append, List.length_append]
  omega
theorem flat_take_succ (LL : List (List Int)) (j : Nat) (hj : j < LL.length) : (LL.take (j + 1)).flatten = (LL.take j).flatten ++ LL[j] := by
  rw [List.take_add_one, List.getElem?_eq_getElem hj, List.flatten_append]
  simp

/-- The first j rows, one behind the other. -/
def fcat (LL : List (List Int)) (j : Nat) : List Int := (LL.take j).flatten
theorem fcat_zero (LL : List (List Int)) : fcat LL 0 = [] := by simp [fcat]
theorem fcat_all (LL : List (List Int)) : fcat LL LL.length = LL.flatten := by simp [fcat]
theorem fcat_le (LL : List (List Int)) (j : Nat) : (fcat LL j).length ≤ LL.flatten.length := flat_take_le LL j
theorem fcat_succ (LL : List (List Int)) (j : Nat) (hj : j < LL.length) : fcat LL (j + 1) = fcat LL j ++ LL[j] := flat_take_succ LL j hj
/-- How long the first j rows are together. -/
def flen (LL : List (List Int)) (j : Nat) : Nat := (LL.take j).flatten.length
theorem flen_zero (LL : List (List Int)) : flen LL 0 = 0 := by simp [flen]
theorem flen_le (LL : List (List Int)) (j : Nat) : flen LL j ≤ LL.flatten.length := flat_take_le LL j
theorem flen_succ (LL : List (List Int)) (j : Nat) (hj : j < LL.length) : flen LL (j + 1) = flen LL j + (LL[j]).length := by
  unfold flen
  rw [flat_take_succ LL j hj, List.length_append]
set_option maxHeartbeats 1000000 in
set_option maxRecDepth 100000 in
theorem concat_rows (A : Option Addr) (c : Nat) (LL : List (List Int)) (w : World) (hC : Kd.C (Kd.slice 5 (Kd.int .u8)) w A LL.length LL) (hl : LL.length ≤ 1000000) (hn : LL.flatten.length ≤ 140737488355328) :
    Calls Try.prog 57 #[.slice A LL.length c] w fun e w' => ∃ v, e = .returned v ∧ Kd.R (Kd.int .u8) 5 w' w.heap.size (fun _ => True) v LL.flatten ∧ Below w.heap.size w w' := by
  have HC := Aside0.mk hC
  clear hC
  go_enter Try.func57, Try.ntmps57
  go_wp2_with fail
  go_loop [3, 11] (fun s i => ∃ j : Nat, j ≤ LL.length ∧ i = .int .i64 j ∧ s = .int .i64 ((flen LL j : Nat) : Int)) (fun _ i => LL.length - (intOf i).toNat)
  case atStart => exact ⟨0, Nat.zero_le _, rfl, by rw [flen_zero]; rfl⟩
  case round =>
    obtain ⟨j, hj, rfl, rfl⟩ := hrel
    by_cases hlt : j < LL.length
    · obtain ⟨ad, A0, c0, ea, hx, hc0, hC0⟩ := rd_rows HC.out j hlt
      subst ea
      have hb1 := flen_le LL (j + 1)
      have hs := flen_succ LL j hlt
      have HS := Aside0.mk hs
      have hb2 : flen LL j + (LL[j]).length ≤ 140737488355328 := by omega
      clear hs hC0
      go_wp2_with fail
      go_round
      case rel => exact ⟨j + 1, by omega, by go_num, by rw [HS.out]; go_num⟩
      case measure => simp [intOf]; omega
    · have hjl : j = LL.length := by omega
      subst hjl
      have hn' : flen LL LL.length ≤ 140737488355328 := Nat.le_trans (flen_le _ _) hn
      go_wp2_with fail
      refine (grow_nil _ w hn').mono ?_
      rintro e w1 ⟨v1, rfl, hr, hb⟩
      obtain ⟨A1, cap1, e1⟩ := Kd.R_slice hr
      rw [e1] at hr ⊢
      have HR := Aside0.mk hr
      have HB := Aside0.mk hb
      clear hr hb e1
      go_wp2_with fail
      go_loopw [6, 27] (fun s i wr => ∃ j : Nat, j ≤ LL.length ∧ i = .int .i64 j ∧ Aside0 (Kd.R (Kd.int .u8) 5 wr w.heap.size (fun _ => True) s (fcat LL j)) ∧ Aside0 (Below w.heap.size w wr)) (fun _ i _ => LL.length - (intOf i).toNat)
      case atStart => exact ⟨0, Nat.zero_le _, rfl, by rw [fcat_zero]; exact HR, HB⟩
      case round =>
        obtain ⟨j, hj, rfl, HR2, HB2⟩ := hrel
        clear HR HB
        by_cases hlt : j < LL.length
        · obtain ⟨ad, A0, c0, ea, hx, hc0, hC0⟩ := rd_rows (Kd.C_below HC.out HB2.out) j hlt
          subst ea
          have hb1 := fcat_le LL (j + 1)
          have hs := fcat_succ LL j hlt
          rw [hs, List.length_append] at hb1
          have HS := Aside0.mk hs
          have HC0 := Aside0.mk hC0
          clear hs hC0
          have hbs := HB2.out.size
          go_wp2_with (at_builtin; go_loud (refine app_row .u8 w.heap.size rfl (.tmp 31) (.tmp 32) 46 5 (.int .u8 0) 1 rfl Try.underlying46 info5 rfl (by omega) _ _ _ _ _ _ rfl rfl HR2.out HC0.out hbs (by omega) ?_; intro A2 c2 w2 hr2 hf2 hat2; have HR3 := Aside0.mk hr2; have HF := Aside0.mk hf2; clear hr2 hf2 hat2))
          go_roundw
          case rel => exact ⟨j + 1, by omega, by go_num, ⟨by rw [HS.out]; exact HR3.out⟩, ⟨HB2.out.trans (HF.out.below hbs (fun k hk => Kd.R_base HR2.out k hk.symm))⟩⟩
          case measure => simp [intOf]; omega
        · have hjl : j = LL.length := by omega
          subst hjl
          obtain ⟨A2, cap2, e2⟩ := Kd.R_slice HR2.out
          have HE := Aside0.mk e2
          clear e2
          go_wp2_with fail
          go_ret
          exact ⟨_, rfl, by have := HR2.out; rwa [fcat_all] at this, HB2.out⟩
end Go.Proofs.Ytagcabmccpekaaa.M

namespace Go.Proofs.Ytagcabmccpekaaa.M
open Go.RowKit Go.Proofs.YtagcabmccpekaaaW.PrintWords Go.Proofs.YtagcabmccpekaaaW.PrintLast Go.Proofs.YtagcabmccpekaaaW.PrintMore Go.Proofs.Ytagcabmccpekaaa.Leaf

/-- A number in as few bytes as it needs, by at most f + 1 of them. -/
def shortF : Nat → Nat → List Nat
  | 0, x => [x]
  | f + 1, x => if x < 128 then [x] else (128 + x % 128) :: shortF f (x / 128)
def shortI (x : Nat) : List Int := (shortF 9 x).map fun (b : Nat) => (b : Int)
theorem shortF_len : ∀ f x, (shortF f x).length ≤ f + 1
  | 0, x => by simp [shortF]
  | f + 1, x => by
    have := shortF_len f (x / 128)
    simp only [shortF]
    split <;> simp <;> omega
theorem or128 (x : Nat) : Go.bits .or .u8 ((x : Int) % 256) 128 = ((128 + x % 128 : Nat) : Int) := by
  have h := u8_or_nat (x % 256) 128 (by omega) (by omega)
  have h2 : x % 256 ||| 128 = 128 + x % 128 := by
    have : ∀ y : Fin 256, y.val ||| 128 = 128 + y.val % 128 := by decide +kernel
    have h3 := this ⟨x % 256, by omega⟩
    simp only at h3
    omega
  rw [h2] at h
  exact h
theorem short_loop (f : Nat) : ∀ (x : Nat) (xs : List Int), x < 2 ^ (7 * f + 1) → f ≤ 9 → xs.length + f ≤ 9 → Ev (fun k => num_Short.l0 k (x : Int) xs) (xs ++ (shortF f x).map fun (b : Nat) => (b : Int)) := by
  induction f with
  | zero =>
    intro x xs hx hf hl
    simp at hx
    exact Ev.step (f := fun _ => some (xs ++ [(x : Int)])) (fun k => by simp only [num_Short.l0]; rw [if_neg (by omega), if_pos (by omega), show (x : Int) % 256 = x by omega]) (Ev.now _)
  | succ f ih =>
    intro x xs hx hf hl
    by_cases c : x < 128
    · rw [show shortF (f + 1) x = [x] by simp only [shortF]; rw [if_pos c]]
      exact Ev.step (f := fun _ => some (xs ++ [(x : Int)])) (fun k => by simp only [num_Short.l0]; rw [if_neg (by omega), if_pos (by omega), show (x : Int) % 256 = x by omega]) (Ev.now _)
    · rw [show shortF (f + 1) x = (128 + x % 128) :: shortF f (x / 128) by simp only [shortF]; rw [if_neg c]]
      have ih := ih (x / 128) (xs ++ [((128 + x % 128 : Nat) : Int)]) (by rw [show 7 * (f + 1) + 1 = (7 * f + 1) + 7 by omega, Nat.pow_add] at hx; omega) (by omega) (by simp; omega)
      rw [List.map_cons, show xs ++ ((128 + x % 128 : Nat) : Int) :: (shortF f (x / 128)).map (fun (b : Nat) => (b : Int)) = xs ++ [((128 + x % 128 : Nat) : Int)] ++ (shortF f (x / 128)).map (fun (b : Nat) => (b : Int)) by simp]
      refine Ev.step (fun k => by simp only [num_Short.l0]; rw [if_pos (by omega), if_pos (by omega), or128, show (x : Int) / 128 = ((x / 128 : Nat) : Int) by omega]) ih
theorem short_val (x : Nat) (hx : x < 18446744073709551616) : Ev (fun k => num_Short.f k (x : Int)) (shortI x) := by
  have h := short_loop 9 x [] (by omega) (by omega) (by simp)
  exact h
theorem shortI_len (x : Nat) : (shortI x).length ≤ 10 := by
  have := shortF_len 9 x
  simpa [shortI] using this
end Go.Proofs.Ytagcabmccpekaaa.M

namespace Go.Proofs.Ytagcabmccpekaaa.M
open Go.RowKit Go.Proofs.YtagcabmccpekaaaW.PrintWords Go.Proofs.YtagcabmccpekaaaW.PrintLast Go.Proofs.YtagcabmccpekaaaW.PrintMore Go.Proofs.Ytagcabmccpekaaa.Leaf

/-- The bytes of hashes, one behind the other. -/
def nodesI (ns : List Hsh) : List Int := ns.flatMap Hsh.b
theorem short_calls (x : Nat) (hx : x < 18446744073709551616) (w : World) :
    Calls Try.prog 58 #[.int .u64 x] w fun e w' => ∃ v, e = .returned v ∧ Kd.R (Kd.int .u8) 5 w' w.heap.size (fun _ => True) v (shortI x) ∧ Below w.heap.size w w' := by
  obtain ⟨k, hk⟩ := (short_val x hx).rounds
  exact num_Short.calls k x _ w hk

end Go.Proofs.Ytagcabmccpekaaa.M

namespace Go.Proofs.Ytagcabmccpekaaa.M
open Go.RowKit Go.Proofs.YtagcabmccpekaaaW.PrintWords Go.Proofs.YtagcabmccpekaaaW.PrintLast Go.Proofs.YtagcabmccpekaaaW.PrintMore Go.Proofs.Ytagcabmccpekaaa.Leaf

/-- What many.checked answers. -/
def mckN (idx : List Nat) (n k : Nat) : Int := if (manyAns idx n).2 ≠ 0 then (manyAns idx n).2 else if (manyAns idx n).1.length ≠ k then 70 else 0
theorem many_checked (idx : List Nat) (n k c d : Nat) (A B : Option Addr) (w : World) (hil : idx.length ≤ 100000) (hc : idx.length ≤ c) (hc2 : c ≤ 9223372036854775807) (hC : Kd.C (Kd.int .u64) w A idx.length (intsOf idx)) :
    Calls Try.prog 84 #[.agg #[.int .u64 n, .slice A idx.length c, .slice B k d]] w fun e w' => e = .returned (.int .i64 (mckN idx n k)) ∧ Below w.heap.size w w' := by
  have hp := many_places idx n A c (w.alloc (.cells #[.int .u64 n, .slice A idx.length c, .slice B k d] 63)) hil hc hc2 (Kd.C_below hC (bl_new w _))
  have hdef : mckN idx n k = if (manyAns idx n).2 ≠ 0 then (manyAns idx n).2 else if (manyAns idx n).1.length ≠ k then 70 else 0 := rfl
  generalize mckN idx n k = r at *
  generalize (manyAns idx n).1 = L at *
  generalize (manyAns idx n).2 = er at *
  have HP := Aside0.mk hp
  have HE := Aside0.mk hdef
  clear hp hdef hC
  go_enter Try.func84, Try.ntmps84
  go_wp2_with fail
  refine HP.out.mono ?_
  rintro e w1 ⟨v1, rfl, hr, hb⟩
  obtain ⟨A1, cap1, e1⟩ := Kd.R_slice hr
  rw [e1]
  have hb0 : Below w.heap.size w w1 := (bl_new w _).trans (hb.mono (by simp))
  have hbx : w1.heap[w.heap.size]? = some (.cells #[.int .u64 n, .slice A idx.length c, .slice B k d] 63 (0, 0)) := (hb.block _ (by simp)).trans (heap_new w _)
  have hx2 : w1.cell? ⟨w.heap.size, 2, none⟩ = some (.slice B k d) := (blk_cell hbx 2).trans rfl
  have HB := Aside0.mk hb0
  clear hr hb hb0 hbx e1
  have he := HE.out
  by_cases h0 : er = 0
  · subst h0
    by_cases hk2 : L.length = k
    · have hd : ((L.length : Int) != (k : Int)) = false := by rw [bne_eq_false_iff_eq]; omega
      rw [if_neg (by simp), if_neg (fun h => h hk2)] at he
      clear hk2
      go_wp2
      go_ret
      exact ⟨by rw [he]; rfl, HB.out⟩
    · have hd : ((L.length : Int) != (k : Int)) = true := by rw [bne_iff_ne]; omega
      rw [if_neg (by simp), if_pos hk2] at he
      clear hk2
      go_wp2
      go_ret
      exact ⟨by rw [he]; rfl, HB.out⟩
  · have hd : (er == 0) = false := by rw [beq_eq_false_iff_ne]; exact h0
    rw [if_pos h0] at he
    clear h0
    go_wp2
    go_ret
    exact ⟨by rw [he]; rfl, HB.out⟩

/-- The bytes of leaves: each behind the one ahead of it. -/
def gapsI : Nat → List Nat → List Int
  | _, [] => []
  | p, x :: r => shortI (x - p) ++ gapsI (x + 1) r
def endN : Nat → List Nat → Nat
  | p, [] => p
  | _, x :: r => endN (x + 1) r
theorem gaps_snoc : ∀ (l : List Nat) (p x : Nat), gapsI p (l ++ [x]) = gapsI p l ++ shortI (x - endN p l) ∧ endN p (l ++ [x]) = x + 1
  | [], p, x => by simp [gapsI, endN]
  | y :: r, p, x => by
    have ih := gaps_snoc r (y + 1) x
    simp only [List.cons_append, gapsI, endN]
    exact ⟨by rw [ih.1, List.append_assoc], ih.2⟩
theorem end_le : ∀ (l : List Nat) (p x : Nat), p ≤ x → (∀ y ∈ l, y < x) → endN p l ≤ x
  | [], _, _, h, _ => h
  | y :: r, p, x, _, hl => end_le r (y + 1) x (hl y List.mem_cons_self) (fun z hz => hl z (List.mem_cons_of_mem _ hz))
theorem gaps_len : ∀ (l : List Nat) (p : Nat), (gapsI p l).length ≤ 10 * l.length
  | [], _ => by simp [gapsI]
  | x :: r, p => by
    have ih := gaps_len r (x + 1)
    have := shortI_len (x - p)
    simp only [gapsI, List.length_append, List.length_cons]
    omega
theorem nodes_len : ∀ l : List Hsh, (nodesI l).length = 32 * l.length
  | [] => rfl
  | x :: l => by
    rw [show nodesI (x :: l) = x.b ++ nodesI l from rfl, List.length_append, nodes_len l, x.len, List.length_cons]
    omega
def manyBytes (idx : List Nat) (n : Nat) (ns : List Hsh) : List Int := [78] ++ shortI n ++ shortI idx.length ++ gapsI 0 idx ++ nodesI ns
def mencAns (idx : List Nat) (n : Nat) (ns : List Hsh) : List Int × Int := if mckN idx n ns.length = 0 then (manyBytes idx n ns, 0) else ([], mckN idx n ns.length)
theorem up_take {l : List Nat} (h : Up l) (j : Nat) (hj : j < l.length) : ∀ y ∈ l.take j, y < l[j] := by
  intro y hy
  obtain ⟨i, hi, rfl⟩ := List.mem_take_iff_getElem.1 hy
  exact List.pairwise_iff_getElem.1 h i j (by omega) hj (by omega)
theorem keep2 {W w' : World} {b : Nat} {v0 v1 : Value} (h0 : W.cell? ⟨b, 0, none⟩ = some v0) (h1 : W.cell? ⟨b, 1, none⟩ = some v1) (hz : b < W.heap.size) (hb : Below W.heap.size W w') :
    w'.cell? ⟨b, 0, none⟩ = some v0 ∧ w'.cell? ⟨b, 1, none⟩ = some v1 :=
  ⟨((bcell hb).1 b 0 hz).trans h0, ((bcell hb).1 b 1 hz).trans h1⟩

set_option maxHeartbeats 2000000 in
set_option maxRecDepth 100000 in
theorem many_encode (idx : List Nat) (n c d : Nat) (ns : List Hsh) (A B : Option Addr) (w : World) (hn : n < 18446744073709551616) (hil : idx.length ≤ 100000) (hc : idx.length ≤ c) (hc2 : c ≤ 9223372036854775807) (hC : Kd.C (Kd.int .u64) w A idx.length (intsOf idx)) (hB : kH.C w B ns.length ns) :
    Calls Try.prog 69 #[.agg #[.int .u64 n, .slice A idx.length c, .slice B ns.length d]] w fun e w' => ∃ v, e = .returned (.tuple #[v, .int .i64 (mencAns idx n ns).2]) ∧ Kd.R (Kd.int .u8) 5 w' w.heap.size (fun _ => True) v (mencAns idx n ns).1 ∧ Below w.heap.size w w' := by
  have hck := many_checked idx n ns.length c d A B (w.alloc (.cells #[.int .u64 n, .slice A idx.length c, .slice B ns.length d] 63)) hil hc hc2 (Kd.C_below hC (bl_new w _))
  have hea : mencAns idx n ns = if mckN idx n ns.length = 0 then (manyBytes idx n ns, 0) else ([], mckN idx n ns.length) := rfl
  have hgood : mckN idx n ns.length = 0 → (∀ x ∈ idx, x < 4611686018427387904) ∧ Up idx ∧ ns.length ≤ 700000000 := by
    intro h
    have hl0 : (manyAns idx n).2 = 0 ∧ (manyAns idx n).1.length = ns.length := by
      unfold mckN at h
      split at h
      · omega
      · split at h
        · simp at h
        · omega
    have hla : manyAns idx n = if lookN idx n = 0 then (placesOf (manySpots idx n), 0) else ([], lookN idx n) := rfl
    have h3 : lookN idx n = 0 := by
      rw [hla] at hl0
      split at hl0
      · assumption
      · exact hl0.1
    rw [hla, if_pos h3] at hl0
    have h4 := h3
    unfold lookN at h4
    split at h4
    · simp at h4
    · obtain ⟨i1, i2, _⟩ := look_up n idx none h4
      refine ⟨fun x hx => by have := i1 x hx; omega, i2, ?_⟩
      have e2 : (manySpots idx n).length = ns.length := by simpa [placesOf] using hl0.2
      rw [← e2]
      have key : ∀ T : List (Nat × Nat), (∀ s ∈ T, s.1 ≤ 62) → (T.flatMap fun s => mneed s.1 s.2 idx).length ≤ 6200001 * T.length := by
        intro T
        induction T with
        | nil => intro _; simp
        | cons s r ih =>
          intro hs
          have ih := ih (fun x hx => hs x (List.mem_cons_of_mem _ hx))
          have h1 := mneed_len s.1 s.2 idx
          have h2 : s.1 * (undL s.1 s.2 idx).length ≤ 62 * 100000 := Nat.mul_le_mul (hs s List.mem_cons_self) (Nat.le_trans (und_len _ _ _) hil)
          rw [List.flatMap_cons, List.length_append, List.length_cons]
          omega
      have h5 := key (topsN n) (fun s hs => by have := (tops_fit 63 n s hs).1; omega)
      have h6 : (topsN n).length ≤ 63 := topsF_len 63 n
      unfold manySpots
      omega
  generalize mencAns idx n ns = E at *
  generalize mckN idx n ns.length = r at *
  have HC := Aside0.mk hck
  have HE := Aside0.mk hea
  have HN := Aside0.mk hB
  have HI := Aside0.mk hC
  have HG := Aside0.mk hgood
  clear hck hea hB hC hgood
  go_enter Try.func69, Try.ntmps69
  go_wp2_with fail
  refine HC.out.mono ?_
  rintro e w1 ⟨rfl, hb⟩
  have hb0 : Below w.heap.size w w1 := (bl_new w _).trans (hb.mono (by simp))
  have hbx : w1.heap[w.heap.size]? = some (.cells #[.int .u64 n, .slice A idx.length c, .slice B ns.length d] 63 (0, 0)) := (hb.block _ (by simp)).trans (heap_new w _)
  have hz1 := hb.size
  simp at hz1
  have HB := Aside0.mk hb0
  have HX := Aside0.mk hbx
  clear hb hb0 hbx HC
  by_cases h0 : r = 0
  · subst h0
    obtain ⟨hlt, hup, hns⟩ := HG.out rfl
    have HLt := Aside0.mk hlt
    have HUp := Aside0.mk hup
    clear HG hlt hup
    go_wp2_with fail
    go_upto_region 4 with (fail)
    go_cut [5] (fun v5 wc => ∃ A5 l5 c5, v5 = .slice A5 l5 c5 ∧ Aside0 (Kd.R (Kd.int .u8) 5 wc w.heap.size (fun _ => True) v5 ([78] ++ shortI n ++ shortI idx.length) ∧ Below w.heap.size w wc ∧ wc.heap[w.heap.size]? = some (.cells #[.int .u64 n, .slice A idx.length c, .slice B ns.length d] 63 (0, 0)) ∧ w.heap.size < wc.heap.size))
    case first =>
      have hx0 : w1.cell? ⟨w.heap.size, 0, none⟩ = some (.int .u64 n) := (blk_cell HX.out 0).trans rfl
      have hx1 : w1.cell? ⟨w.heap.size, 1, none⟩ = some (.slice A idx.length c) := (blk_cell HX.out 1).trans rfl
      have e1 : IntKind.u64.wrap ((idx.length : Nat) : Int) = ((idx.length : Nat) : Int) := w64_nat _ (by omega)
      have hz2 : w.heap.size < w1.heap.size := by omega
      have hln : idx.length < 18446744073709551616 := by omega
      go_region_held3 (fun w' => w'.cell? ⟨w.heap.size, 0, none⟩ = some (.int .u64 n) ∧ w'.cell? ⟨w.heap.size, 1, none⟩ = some (.slice A idx.length c)) ((exact keep2 hx0 hx1 hz2 (by repeat (with_reducible first | exact Below.refl _ _ | refine blt ?_ bd.out | refine blt ?_ ba.out | refine blt ?_ bb.out | refine below_alloc ?_ _ | refine below_drew ?_)))) (first | (go_at_call_of 58 (Value.int .u64 (n : Int)); refine (short_calls n hn _).mono ?_; rintro e wa ⟨va, rfl, hra, hba⟩; obtain ⟨Aa, ca, ea⟩ := Kd.R_slice hra; rw [ea] at hra ⊢; have ra := Aside0.mk (Rd.of_R hra); have ba := Aside0.mk hba; clear hra hba ea) | (go_at_call_of 58 (Value.int .u64 ((idx.length : Nat) : Int)); refine (short_calls idx.length hln _).mono ?_; rintro e wb ⟨vb, rfl, hrb, hbb⟩; obtain ⟨Ab, cb, eb⟩ := Kd.R_slice hrb; rw [eb] at hrb ⊢; have rb := Aside0.mk (Rd.of_R hrb); have bb := Aside0.mk hbb; clear hrb hbb eb) | (go_at_call 57; refine (concat_rows (some ⟨_, 0, none⟩) 3 [[78], shortI n, shortI idx.length] _ (C_rows3 .u8 5 _ _ _ _ 46 _ _ _ (by repeat (with_reducible first | exact ra.out | exact rb.out | exact Rd.one _ _ _ _ (by simp [World.drew]) | refine Rd.below ?_ ba.out | refine Rd.below ?_ bb.out | refine Rd.alloc ?_ _ | refine Rd.drew ?_)) (by repeat (with_reducible first | exact ra.out | exact rb.out | exact Rd.one _ _ _ _ (by simp [World.drew]) | refine Rd.below ?_ ba.out | refine Rd.below ?_ bb.out | refine Rd.alloc ?_ _ | refine Rd.drew ?_)) (by repeat (with_reducible first | exact ra.out | exact rb.out | exact Rd.one _ _ _ _ (by simp [World.drew]) | refine Rd.below ?_ ba.out | refine Rd.below ?_ bb.out | refine Rd.alloc ?_ _ | refine Rd.drew ?_)) (by simp [World.drew])) (by simp) (by have := shortI_len n; have := shortI_len idx.length; simp; omega)).mono ?_; rintro e wd ⟨vd, rfl, hrd, hbd⟩; obtain ⟨Ad, ld, cd, ed⟩ : ∃ A l c, vd = .slice A l c := (by obtain ⟨A, c, h⟩ := Kd.R_slice hrd; exact ⟨A, _, c, h⟩); rw [ed] at hrd ⊢; have rd := Aside0.mk hrd; have bd := Aside0.mk hbd; clear hrd hbd ed))
      all_goals
        have hq : Below w1.heap.size w1 wd := (by repeat (with_reducible first | exact Below.refl _ _ | refine blt ?_ bd.out | refine blt ?_ ba.out | refine blt ?_ bb.out | refine below_alloc ?_ _ | refine below_drew ?_))
        go_wp2_with fail
        go_meet
        case rel => exact ⟨_, _, _, rfl, ⟨⟨Kd.R_lower (by have := rd.out; rw [show [[78], shortI n, shortI idx.length].flatten = [78] ++ shortI n ++ shortI idx.length by simp] at this; exact this) (Nat.le_trans HB.out.size (Below.size (B := w1.heap.size) (w := w1) (by repeat (with_reducible first | exact Below.refl _ _ | refine blt ?_ ba.out | refine blt ?_ bb.out | refine below_alloc ?_ _ | refine below_drew ?_)))), HB.out.trans (hq.mono HB.out.size), (hq.block _ hz2).trans HX.out, by have := hq.size; omega⟩⟩⟩
    case rest =>
      obtain ⟨A5, l5, c5, rfl, hcc⟩ := hcut
      obtain ⟨g1, g2, g3, g4⟩ := hcc.out
      obtain ⟨P0, hP⟩ : ∃ P, P = [78] ++ shortI n ++ shortI idx.length := ⟨_, rfl⟩
      rw [← hP] at g1
      have hPl : P0.length ≤ 31 := by have := shortI_len n; have := shortI_len idx.length; rw [hP]; simp only [List.length_append, List.length_singleton]; omega
      have HP := Aside0.mk hP
      have hx1 : wc.cell? ⟨w.heap.size, 1, none⟩ = some (.slice A idx.length c) := (blk_cell g3 1).trans rfl
      have G1 := Aside0.mk g1
      have G2 := Aside0.mk g2
      have G3 := Aside0.mk g3
      clear g1 g2 g3 hcc hP
      go_wp2_with fail
      go_loopw [5, 6, 30] (fun s q i wr => ∃ j : Nat, j ≤ idx.length ∧ i = .int .i64 j ∧ q = .int .u64 (endN 0 (idx.take j) : Nat) ∧ Aside0 (Kd.R (Kd.int .u8) 5 wr w.heap.size (fun _ => True) s (P0 ++ gapsI 0 (idx.take j))) ∧ Aside0 (Below w.heap.size w wr ∧ wr.heap[w.heap.size]? = some (.cells #[.int .u64 n, .slice A idx.length c, .slice B ns.length d] 63 (0, 0)))) (fun _ _ i _ => idx.length - (intOf i).toNat)
      case atStart => exact ⟨0, Nat.zero_le _, rfl, rfl, by rw [List.take_zero]; simp only [gapsI, List.append_nil]; exact G1, ⟨G2.out, G3.out⟩⟩
      case round =>
        obtain ⟨j, hj, rfl, rfl, HR, HW⟩ := hrel
        clear G1 G2 G3
        by_cases hlt : j < idx.length
        · obtain ⟨ad, ea, hh⟩ := Kd.at_int (Kd.C_below HI.out HW.out.1) (j : Int) (by omega) (by omega)
          rw [Int.toNat_natCast, rd_ints idx j hlt] at hh
          subst ea
          have hxm := HLt.out _ (List.getElem_mem hlt)
          have hen := end_le (idx.take j) 0 idx[j] (Nat.zero_le _) (up_take HUp.out j hlt)
          have hsn := gaps_snoc (idx.take j) 0 idx[j]
          have htk : idx.take j ++ [idx[j]] = idx.take (j + 1) := by rw [List.take_add_one, List.getElem?_eq_getElem hlt]; rfl
          rw [htk] at hsn
          have hgl := gaps_len (idx.take j) 0
          have htl := List.length_take_le j idx
          generalize idx[j] = x at *
          generalize hen0 : endN 0 (idx.take j) = en at *
          have esub : IntKind.u64.wrap ((x : Int) - (en : Int)) = ((x - en : Nat) : Int) := by rw [w64_of _ (by omega) (by omega)]; omega
          have eadd : IntKind.u64.wrap ((x : Int) + 1) = ((x + 1 : Nat) : Int) := by rw [w64_of _ (by omega) (by omega)]; omega
          obtain ⟨P1, hP1⟩ : ∃ P, P = P0 ++ gapsI 0 (idx.take j) := ⟨_, rfl⟩
          have hP1l : P1.length ≤ 1000031 := by rw [hP1, List.length_append]; omega
          rw [← hP1] at HR
          have HP1 := Aside0.mk hP1
          have HSn := Aside0.mk hsn
          have hsz := HW.out.1.size
          clear hP1 hsn htk hen0 hgl htl
          go_wp2_with fail
          refine (short_calls (x - en) (by omega) _).mono ?_
          rintro e wb ⟨vb, rfl, hrb, hbb⟩
          have hvl := shortI_len (x - en)
          obtain ⟨Ab, cb, eb⟩ := Kd.R_slice hrb
          rw [eb] at hrb ⊢
          have hcb := Aside0.mk (Kd.R_reads' hrb).2.2
          have bb := Aside0.mk hbb
          have HRb := Aside0.mk (Kd.R_below HR.out hbb)
          have hszb := Nat.le_trans hsz hbb.size
          clear hrb hbb eb
          generalize shortI (x - en) = sh at *
          go_wp2_with (first | ((with_reducible refine gate_builtin (b := .append) (xs := #[.tmp 34, .tmp 38]) rfl ?_); at_builtin; go_loud (refine app_row .u8 w.heap.size rfl (.tmp 34) (.tmp 38) 46 5 (.int .u8 0) 1 rfl Try.underlying46 info5 rfl (by omega) _ P1 sh Ab sh.length cb rfl rfl HRb.out hcb.out hszb (by omega) ?_; intro A2 c2 w2 hr2 hf2 hat2; have HR2 := Aside0.mk hr2; have HF2 := Aside0.mk hf2; clear hr2 hf2 hat2)))
          have hbw : Below w.heap.size wb w2 := HF2.out.below hszb (fun k hk => Kd.R_base HRb.out k hk.symm)
          have hbw2 : Below w.heap.size w w2 := (below_on HW.out.1 hsz bb.out).trans hbw
          have hblk : w2.heap[w.heap.size]? = some (.cells #[.int .u64 n, .slice (some ad) idx.length c, .slice B ns.length d] 63 (0, 0)) := by
            have h1 := (bb.out.block _ (blk_lt HW.out.2)).trans HW.out.2
            refine (HF2.out.block _ (blk_lt h1) (fun hk => ?_)).trans h1
            exact Kd.R_ne HRb.out h1 (by decide) hk
          have HBW := Aside0.mk (And.intro hbw2 hblk)
          clear hbw hbw2 hblk
          go_roundw
          case rel => exact ⟨j + 1, by omega, by go_num, by rw [HSn.out.2]; first | rfl | go_num, ⟨by rw [HSn.out.1, ← List.append_assoc, ← HP1.out]; exact HR2.out⟩, HBW⟩
          case measure => simp [intOf]; omega
        · have hjl : j = idx.length := by omega
          subst hjl
          generalize endN 0 (List.take idx.length idx) = en0
          rw [List.take_length] at HR
          have hgl := gaps_len idx 0
          obtain ⟨P2, hP2⟩ : ∃ P, P = P0 ++ gapsI 0 idx := ⟨_, rfl⟩
          have hP2l : P2.length ≤ 1000031 := by rw [hP2, List.length_append]; omega
          rw [← hP2] at HR
          have HP2 := Aside0.mk hP2
          have hx2 : wr.cell? ⟨w.heap.size, 2, none⟩ = some (.slice B ns.length d) := (blk_cell HW.out.2 2).trans rfl
          clear hP2 hgl
          go_wp2_with fail
          go_loopw [5, 46] (fun s i wr => ∃ j : Nat, j ≤ ns.length ∧ i = .int .i64 j ∧ Aside0 (Kd.R (Kd.int .u8) 5 wr w.heap.size (fun _ => True) s (P2 ++ nodesI (ns.take j))) ∧ Aside0 (Below w.heap.size w wr)) (fun _ i _ => ns.length - (intOf i).toNat)
          case atStart => exact ⟨0, Nat.zero_le _, rfl, by rw [List.take_zero]; simp only [nodesI, List.flatMap_nil, List.append_nil]; exact HR, ⟨HW.out.1⟩⟩
          case round =>
            clear HR HW
            obtain ⟨j, hj, rfl, HR, HW⟩ := hrel
            by_cases hlt : j < ns.length
            · obtain ⟨ad, ea, hh⟩ := C_hash (Kd.C_below HN.out HW.out) j hlt
              subst ea
              have HH := Aside0.mk hh
              clear hh
              obtain ⟨hv, hhv⟩ : ∃ h, h = ns[j] := ⟨_, rfl⟩
              rw [← hhv] at HH
              have hcat : nodesI (ns.take (j + 1)) = nodesI (ns.take j) ++ hv.b := by
                rw [List.take_add_one, List.getElem?_eq_getElem hlt, ← hhv]
                show nodesI (ns.take j ++ [hv]) = _
                unfold nodesI
                rw [List.flatMap_append]
                simp only [List.flatMap_cons, List.flatMap_nil, List.append_nil]
              have hlen : (nodesI (ns.take (j + 1))).length ≤ 32 * 700000000 := by
                rw [nodes_len]
                have := List.length_take_le (j + 1) ns
                omega
              rw [hcat, List.length_append, hv.len] at hlen
              have HCat := Aside0.mk hcat
              clear hcat hhv
              have hsz := HW.out.size
              obtain ⟨P1, hP1⟩ : ∃ P, P = P2 ++ nodesI (ns.take j) := ⟨_, rfl⟩
              have hP1l : P1.length ≤ 22401000031 := by rw [hP1, List.length_append]; omega
              rw [← hP1] at HR
              have HP1 := Aside0.mk hP1
              clear hP1
              go_wp2_with (first | ((with_reducible refine gate_dst (N := 49) rfl ?_); go_loud (refine load_hash rfl (.tmp 48) rfl _ _ rfl HH.out ?_)) | ((with_reducible refine gate_store (t := 73) (p := 10) (v := .tmp 49) rfl ?_); go_loud (refine store_hash rfl rfl (.tmp 10) (.tmp 49) rfl _ rfl _ _ rfl hv rfl rfl ?_)) | ((with_reducible refine gate_builtin (b := .append) (xs := #[.tmp 50, .tmp 51]) rfl ?_); at_builtin; go_loud (refine app_row .u8 w.heap.size rfl (.tmp 50) (.tmp 51) 46 5 (.int .u8 0) 1 rfl Try.underlying46 info5 rfl (by omega) _ P1 hv.b _ 32 32 rfl rfl (Kd.R_alloc HR.out _) (C_hash_row wr hv _ rfl) (by simp; omega) (by omega) ?_; intro A2 c2 w2 hr2 hf2 hat2; have HR2 := Aside0.mk hr2; have HF2 := Aside0.mk hf2; clear hr2 hf2 hat2)))
              go_roundw
              case rel => exact ⟨j + 1, by omega, by go_num, ⟨by rw [HCat.out, ← List.append_assoc, ← HP1.out]; exact HR2.out⟩, ⟨(below_alloc HW.out _).trans (HF2.out.below (by simp; omega) (fun k hk => Kd.R_base HR.out k hk.symm))⟩⟩
              case measure => simp [intOf]; omega
            · have hjl : j = ns.length := by omega
              subst hjl
              obtain ⟨A6, l6, c6, e6⟩ : ∃ A l c, u5 = .slice A l c := (by obtain ⟨A, c, h⟩ := Kd.R_slice HR.out; exact ⟨A, _, c, h⟩)
              have HE6 := Aside0.mk e6
              clear e6
              go_wp2_with fail
              go_ret2
              have he := HE.out
              rw [if_pos (by first | rfl | trivial)] at he
              rw [he]
              refine ⟨_, rfl, ?_, HW.out⟩
              have hq := HR.out
              rw [List.take_length, HP2.out, HP.out] at hq
              exact hq
  · have hd : (r != 0) = true := by rw [bne_iff_ne]; exact h0
    have HK := Aside0.mk h0
    clear h0 HG
    go_wp2
    go_ret2
    have he := HE.out
    rw [if_neg HK.out] at he
    rw [he]
    exact ⟨_, rfl, Kd.R_nil _ _ _ _ _, HB.out⟩
end Go.Proofs.Ytagcabmccpekaaa.M

namespace Go.Proofs.Ytagcabmccpekaaa.M
open Go.RowKit Go.Proofs.YtagcabmccpekaaaW.PrintWords Go.Proofs.YtagcabmccpekaaaW.PrintLast Go.Proofs.YtagcabmccpekaaaW.PrintMore Go.Proofs.Ytagcabmccpekaaa.Leaf

end Go.Proofs.Ytagcabmccpekaaa.M

namespace Go.Proofs.Ytagcabmccpekaaa.M
open Go.RowKit Go.Proofs.YtagcabmccpekaaaW.PrintWords Go.Proofs.YtagcabmccpekaaaW.PrintLast Go.Proofs.YtagcabmccpekaaaW.PrintMore Go.Proofs.Ytagcabmccpekaaa.Leaf

theorem same_calls {A0 A1 : Option Addr} {n0 n1 c0 c1 : Nat} {xs ys : List Int} {w : World} (h0 : Rd .u64 w (.slice A0 n0 c0) xs) (h1 : Rd .u64 w (.slice A1 n1 c1) ys) (hl : xs.length ≤ 1000000000) :
    Calls Try.prog 13 #[.slice A0 n0 c0, .slice A1 n1 c1] w fun e w' => e = .returned (.bool (decide (xs = ys))) ∧ Drawn0 w w' := by
  obtain ⟨_, _, e0, hl0, hc0⟩ := h0
  obtain ⟨_, _, e1, hl1, hc1⟩ := h1
  injection e0 with a0 b0 d0
  injection e1 with a1 b1 d1
  subst a0 b0 d0 a1 b1 d1
  obtain ⟨k, hk⟩ := (same_val xs ys (by omega)).rounds
  exact massifref7_SameNumbers.calls k _ _ _ _ _ _ _ w hc0 hl0 hc1 hl1 hk
theorem same_true {A0 A1 : Option Addr} {n0 n1 c0 c1 : Nat} {xs : List Int} {w : World} (h0 : Rd .u64 w (.slice A0 n0 c0) xs) (h1 : Rd .u64 w (.slice A1 n1 c1) xs) (hl : xs.length ≤ 1000000000) :
    Calls Try.prog 13 #[.slice A0 n0 c0, .slice A1 n1 c1] w fun e w' => e = .returned (.bool true) ∧ Drawn0 w w' := by
  refine (same_calls h0 h1 hl).mono ?_
  rintro e w' ⟨he, hd⟩
  rw [decide_eq_true rfl] at he
  exact ⟨he, hd⟩

/-- Numbers, the first j of which have been marked. -/
def mk (x : Int) (L : List Int) (j : Nat) : List Int := List.replicate j x ++ L.drop j
theorem mk_len (x : Int) (L : List Int) (j : Nat) (hj : j ≤ L.length) : (mk x L j).length = L.length := by simp [mk]; omega
theorem mk_set (x : Int) (L : List Int) (j : Nat) (hj : j < L.length) : (mk x L j).set j x = mk x L (j + 1) := by
  unfold mk
  rw [List.drop_eq_getElem_cons hj, List.set_append_right _ _ (by simp), List.length_replicate, Nat.sub_self, List.set_cons_zero, List.replicate_succ', List.append_assoc]
  rfl
theorem mk_all (x : Int) (L : List Int) : mk x L L.length = List.replicate L.length x := by simp [mk]
theorem mk_zero (x : Int) (L : List Int) : mk x L 0 = L := by simp [mk]
/-- Two values that own no block together. -/
def Apart (u v : Value) : Prop := ∀ k, u.ownBlock = some k → v.ownBlock ≠ some k
theorem Apart.symm {u v : Value} (h : Apart u v) : Apart v u := fun k h1 h2 => h k h2 h1
theorem apart_new {α β : Type} {d : Kd α} {d' : Kd β} {e e' base : Nat} {w w1 : World} {u v : Value} {xs : List α} {ys : List β} {ok ok' : Nat → Prop} (h : d.R e w base ok u xs) (h' : d'.R e' w1 w.heap.size ok' v ys) : Apart u v :=
  fun k h1 h2 => by have := Kd.R_lt h k h1; have := Kd.R_base h' k h2; omega
/-- The world in the first loop of SpanPlaces: j numbers of a and b have been marked. -/
def SpL1 (w : World) (va vb vw : Value) (L : List Int) (j : Nat) (wr : World) : Prop :=
  Kd.R (Kd.int .u64) 22 wr w.heap.size (fun _ => True) va (mk 201 L j) ∧ Kd.R (Kd.int .u64) 22 wr w.heap.size (fun _ => True) vb (mk 202 L j) ∧
    Kd.R (Kd.int .u64) 22 wr w.heap.size (fun _ => True) vw L ∧ Below w.heap.size w wr
theorem SpL1.next {w : World} {ga gb na nb ca cb : Nat} {vw : Value} {L : List Int} {j : Nat} {wr : World} (h : SpL1 w (.slice (some ⟨ga, 0, none⟩) na ca) (.slice (some ⟨gb, 0, none⟩) nb cb) vw L j wr) (hj : j < L.length)
    (hab : Apart (.slice (some ⟨ga, 0, none⟩) na ca) (.slice (some ⟨gb, 0, none⟩) nb cb)) (haw : Apart vw (.slice (some ⟨ga, 0, none⟩) na ca)) (hbw : Apart vw (.slice (some ⟨gb, 0, none⟩) nb cb)) :
    SpL1 w (.slice (some ⟨ga, 0, none⟩) na ca) (.slice (some ⟨gb, 0, none⟩) nb cb) vw L (j + 1) ((wr.setCell ⟨ga, j, none⟩ (.int .u64 201)).setCell ⟨gb, j, none⟩ (.int .u64 202)) := by
  obtain ⟨h1, h2, h3, h4⟩ := h
  have oa : ∀ n c, (Value.slice (some ⟨ga, 0, none⟩) n c).ownBlock = some ga := fun _ _ => by simp [Value.ownBlock]
  have ob : ∀ n c, (Value.slice (some ⟨gb, 0, none⟩) n c).ownBlock = some gb := fun _ _ => by simp [Value.ownBlock]
  have hne : ga ≠ gb := fun he => hab ga (oa _ _) (by rw [ob, he])
  have s1 := Kd.R_putn h1 (j : Int) (201 : Int)
  rw [Int.toNat_natCast, mk_set 201 L j hj] at s1
  have f1 := Frm.of_set wr ⟨ga, j, none⟩ (.int .u64 201)
  have f2 := Frm.of_set (wr.setCell ⟨ga, j, none⟩ (.int .u64 201)) ⟨gb, j, none⟩ (.int .u64 202)
  have h2' := R_frm (flat_int .u64) h2 f1 (fun k hk he => by rw [ob] at hk; injection hk with hk; exact hne (by rw [hk]; exact he.symm))
  have s2 := Kd.R_putn h2' (j : Int) (202 : Int)
  rw [Int.toNat_natCast, mk_set 202 L j hj] at s2
  refine ⟨R_frm (flat_int .u64) s1 f2 (fun k hk he => by rw [oa] at hk; injection hk with hk; exact hne (by rw [hk]; exact he)), s2,
    R_frm (flat_int .u64) (R_frm (flat_int .u64) h3 f1 (fun k hk he => haw k hk (by rw [oa, he]))) f2 (fun k hk he => hbw k hk (by rw [ob, he])), ?_⟩
  have hba := Kd.R_base h1 ga (oa _ _)
  have hbb := Kd.R_base h2 gb (ob _ _)
  exact (h4.setCell hba _).setCell hbb _
theorem SpL1.drewN {w : World} {va vb vw : Value} {L : List Int} {j : Nat} {wr : World} (h : SpL1 w va vb vw L j wr) (n : Nat) : SpL1 w va vb vw L j (wr.drewN n) :=
  ⟨Kd.R_drewN h.1 n, Kd.R_drewN h.2.1 n, Kd.R_drewN h.2.2.1 n, pw_below_drewN h.2.2.2 n⟩
/-- The cells that a round of the first loop writes. -/
theorem SpL1.form {w : World} {Aa Ab : Option Addr} {na nb ca cb : Nat} {vw : Value} {L : List Int} {j : Nat} {wr : World} (h : SpL1 w (.slice Aa na ca) (.slice Ab nb cb) vw L j wr) (hj : j < L.length)
    (hab : Apart (.slice Aa na ca) (.slice Ab nb cb)) : ∃ ga gb, Aa = some ⟨ga, 0, none⟩ ∧ Ab = some ⟨gb, 0, none⟩ ∧ ga ≠ gb ∧ (∃ x : Int, wr.cell? ⟨ga, j, none⟩ = some (.int .u64 x)) ∧ wr.frozen? ⟨ga, j, none⟩ = false ∧
      (∀ u, ∃ x : Int, (wr.setCell ⟨ga, j, none⟩ u).cell? ⟨gb, j, none⟩ = some (.int .u64 x)) ∧ (∀ u, (wr.setCell ⟨ga, j, none⟩ u).frozen? ⟨gb, j, none⟩ = false) := by
  obtain ⟨h1, h2, h3, h4⟩ := h
  have l1 := mk_len 201 L j (by omega)
  have l2 := mk_len 202 L j (by omega)
  obtain ⟨ga, cap, ea, _, _, _⟩ := Kd.R_form h1 (by omega)
  obtain ⟨gb, capb, eb, _, _, _⟩ := Kd.R_form h2 (by omega)
  injection ea with ea1 ea2 ea3
  injection eb with eb1 eb2 eb3
  subst ea1 ea2 ea3 eb1 eb2 eb3
  have hne : ga ≠ gb := fun he => hab ga (by simp [Value.ownBlock]) (by simp [Value.ownBlock, he])
  obtain ⟨k1, k2⟩ := Kd.R_celln 0 h1 (j : Int) (by omega) (by omega)
  obtain ⟨k3, k4⟩ := Kd.R_celln 0 h2 (j : Int) (by omega) (by omega)
  rw [Int.toNat_natCast] at k1 k2 k3 k4
  have hb : ∀ u, (wr.setCell ⟨ga, j, none⟩ u).heap[gb]? = wr.heap[gb]? := fun u => Below.heap_setCell wr ⟨ga, j, none⟩ u gb (fun he => hne he.symm)
  exact ⟨ga, gb, rfl, rfl, hne, ⟨_, k1⟩, k2, fun u => ⟨_, (World.cell?_of_block (a := ⟨gb, j, none⟩) (hb u)).trans k3⟩, fun u => (World.frozen?_of_block (a := ⟨gb, j, none⟩) (hb u)).trans k4⟩
/-- Behind the two appends. -/
def SpL2 (w : World) (va vb vw : Value) (L : List Int) (wr : World) : Prop :=
  Kd.R (Kd.int .u64) 22 wr w.heap.size (fun _ => True) va (List.replicate (L.length + 1) 201) ∧ Kd.R (Kd.int .u64) 22 wr w.heap.size (fun _ => True) vb (List.replicate (L.length + 1) 202) ∧
    Kd.R (Kd.int .u64) 22 wr w.heap.size (fun _ => True) vw L ∧ Below w.heap.size w wr
theorem apart_step {u v v' : Value} {n : Nat} (h : Apart u v) (hu : ∀ k, u.ownBlock = some k → k < n) (ha : v'.ownBlock = v.ownBlock ∨ ∃ b, v'.ownBlock = some b ∧ n ≤ b) : Apart u v' := fun k h1 h2 => by
  rcases ha with ha | ⟨b, ha, hb⟩
  · exact h k h1 (ha ▸ h2)
  · rw [ha] at h2
    injection h2 with h2
    have := hu k h1
    omega
theorem SpL2.make {w wr w5 w6 : World} {va vb vw va' vb' : Value} {L : List Int} (h : SpL1 w va vb vw L L.length wr) (hab : Apart va vb) (hwa : Apart vw va) (hwb : Apart vw vb)
    (h1 : Kd.R (Kd.int .u64) 22 w5 w.heap.size (fun _ => True) va' (List.replicate L.length 201 ++ [201])) (f1 : Frm (fun k => some k = va.ownBlock) wr w5) (a1 : va'.ownBlock = va.ownBlock ∨ ∃ b, va'.ownBlock = some b ∧ wr.heap.size ≤ b)
    (h2 : Kd.R (Kd.int .u64) 22 w6 w.heap.size (fun _ => True) vb' (List.replicate L.length 202 ++ [202])) (f2 : Frm (fun k => some k = vb.ownBlock) w5 w6) (a2 : vb'.ownBlock = vb.ownBlock ∨ ∃ b, vb'.ownBlock = some b ∧ w5.heap.size ≤ b) :
    SpL2 w va' vb' vw L w6 ∧ Apart va' vb' := by
  have hvw : Apart va' vb := Apart.symm (apart_step hab.symm (Kd.R_lt h.2.1) a1)
  refine ⟨⟨?_, ?_, ?_, ?_⟩, apart_step hvw (Kd.R_lt h1) a2⟩
  · rw [List.replicate_succ']
    exact R_frm (flat_int .u64) h1 f2 (fun k hk he => hvw k hk he.symm)
  · rw [List.replicate_succ']
    exact h2
  · exact R_frm (flat_int .u64) (R_frm (flat_int .u64) h.2.2.1 f1 (fun k hk he => hwa k hk he.symm)) f2 (fun k hk he => hwb k hk he.symm)
  · have hs := h.2.2.2.size
    exact (h.2.2.2.trans (f1.below hs (fun k hk => Kd.R_base h.1 k hk.symm))).trans (f2.below (Nat.le_trans hs f1.size) (fun k hk => Kd.R_base h.2.1 k hk.symm))
theorem rep_cell {w : World} {base : Nat} {A : Option Addr} {m c n : Nat} {x : Int} (h : Kd.R (Kd.int .u64) 22 w base (fun _ => True) (.slice A m c) (List.replicate n x)) (j : Nat) (hj : j < n) : ∃ ad, A = some ad ∧ w.cell? (ad.add j) = some (.int .u64 x) := by
  obtain ⟨_, _, hC⟩ := Kd.R_reads' h
  obtain ⟨ad, ea, hx⟩ := Kd.at_int hC (j : Int) (by omega) (by rw [List.length_replicate]; omega)
  rw [Int.toNat_natCast] at hx
  refine ⟨ad, ea, ?_⟩
  rw [show rd (List.replicate n x) (j : Int) = x by simp [rd, List.getD_eq_getElem?_getD, List.getElem?_replicate, hj]] at hx
  exact hx
end Go.Proofs.Ytagcabmccpekaaa.M

namespace Go.Proofs.Ytagcabmccpekaaa.M
open Go.RowKit Go.Proofs.YtagcabmccpekaaaW.PrintWords Go.Proofs.YtagcabmccpekaaaW.PrintLast Go.Proofs.YtagcabmccpekaaaW.PrintMore Go.Proofs.Ytagcabmccpekaaa.Leaf

theorem int_reps (k : IntKind) (w : World) (base : Nat) (ok : Nat → Prop) (xs : List Int) : Reps ((Kd.int k).M w base ok) (Kd.int k).sz xs (xs.map (Value.int k)) := by
  refine ⟨by rw [List.length_map]; exact (Nat.mul_one _).symm, fun j p hj => ?_⟩
  show ((xs.map (Value.int k)).drop (j * 1)).take 1 = [Value.int k p]
  rw [Nat.mul_one]
  have hl := (List.getElem?_eq_some_iff.1 hj).1
  rw [List.drop_eq_getElem_cons (by rw [List.length_map]; exact hl)]
  simp [(List.getElem?_eq_some_iff.1 hj).2]
/-- A row of numbers of one's own, laid open. -/
structure Blk (k : IntKind) (e : Nat) (w : World) (base : Nat) (v : Value) (xs : List Int) (g cap : Nat) (cur : Array Value) : Prop where
  val : v = .slice (some ⟨g, 0, none⟩) xs.length cap
  base_le : base ≤ g
  heap : w.heap[g]? = some (.cells cur e (0, 0))
  len : xs.length ≤ cap
  max : cap ≤ maxLen
  size : cur.size = cap
  row : cur.toList.take xs.length = xs.map (Value.int k)
theorem Blk.R {k : IntKind} {e : Nat} {w : World} {base : Nat} {v : Value} {xs : List Int} {g cap : Nat} {cur : Array Value} (h : Blk k e w base v xs g cap cur) : (Kd.int k).R e w base (fun _ => True) v xs := by
  refine ⟨fun _ _ => trivial, xs.map (Value.int k), ⟨?_, .inr ⟨g, cap, cur, h.val, h.base_le, h.heap, h.len, h.max, ?_, ?_⟩⟩, int_reps k _ _ _ xs⟩
  · rw [List.length_map]; exact (Nat.mul_one _).symm
  · rw [h.size]; exact (Nat.mul_one _).symm
  · rw [show (Kd.int k).sz = 1 from rfl, Nat.mul_one]; exact h.row
end Go.Proofs.Ytagcabmccpekaaa.M

namespace Go.Proofs.Ytagcabmccpekaaa.M
open Go.RowKit Go.Proofs.YtagcabmccpekaaaW.PrintWords Go.Proofs.YtagcabmccpekaaaW.PrintLast Go.Proofs.YtagcabmccpekaaaW.PrintMore Go.Proofs.Ytagcabmccpekaaa.Leaf

end Go.Proofs.Ytagcabmccpekaaa.M

namespace Go.Proofs.Ytagcabmccpekaaa.M
open Go.RowKit Go.Proofs.YtagcabmccpekaaaW.PrintWords Go.Proofs.YtagcabmccpekaaaW.PrintLast Go.Proofs.YtagcabmccpekaaaW.PrintMore Go.Proofs.Ytagcabmccpekaaa.Leaf

end Go.Proofs.Ytagcabmccpekaaa.M

namespace Go.Proofs.Ytagcabmccpekaaa.M
open Go.RowKit Go.Proofs.YtagcabmccpekaaaW.PrintWords Go.Proofs.YtagcabmccpekaaaW.PrintLast Go.Proofs.YtagcabmccpekaaaW.PrintMore Go.Proofs.Ytagcabmccpekaaa.Leaf

end Go.Proofs.Ytagcabmccpekaaa.M

namespace Go.Proofs.Ytagcabmccpekaaa.M
open Go.RowKit Go.Proofs.YtagcabmccpekaaaW.PrintWords Go.Proofs.YtagcabmccpekaaaW.PrintLast Go.Proofs.YtagcabmccpekaaaW.PrintMore Go.Proofs.Ytagcabmccpekaaa.Leaf

end Go.Proofs.Ytagcabmccpekaaa.M

namespace Go.Proofs.Ytagcabmccpekaaa.M
open Go.RowKit Go.Proofs.YtagcabmccpekaaaW.PrintWords Go.Proofs.YtagcabmccpekaaaW.PrintLast Go.Proofs.YtagcabmccpekaaaW.PrintMore Go.Proofs.Ytagcabmccpekaaa.Leaf

theorem R_cap {α : Type} {d : Kd α} {e base : Nat} {ok : Nat → Prop} {w : World} {A : Option Addr} {n c : Nat} {xs : List α} (h : d.R e w base ok (.slice A n c) xs) : c ≤ 9223372036854775807 := by
  obtain ⟨inner, ho⟩ := Kd.R_own h
  rcases ho.2 with ⟨h1, _⟩ | ⟨g, cap, cur, h1, _, _, _, h2, _⟩
  · injection h1 with _ _ h3
    omega
  · injection h1 with _ _ h3
    subst h3
    exact h2
end Go.Proofs.Ytagcabmccpekaaa.M

namespace Go.Proofs.Ytagcabmccpekaaa.M
open Go.RowKit Go.Proofs.YtagcabmccpekaaaW.PrintWords Go.Proofs.YtagcabmccpekaaaW.PrintLast Go.Proofs.YtagcabmccpekaaaW.PrintMore Go.Proofs.Ytagcabmccpekaaa.Leaf

theorem awake10_places : manyAns [1, 2] 7 = ([0, 4, 9, 10], 0) := by decide +kernel
theorem awake10_bytes : mencAns [0, 2] 3 [hash1 7] = ([78, 3, 2, 0, 1, 7, 0, 0, 0, 0, 0, 0, 0, 0, 0, 0, 0, 0, 0, 0, 0, 0, 0, 0, 0, 0, 0, 0, 0, 0, 0, 0, 0, 0, 0, 0, 0], 0) := by decide +kernel
theorem C_two (w : World) (x y : Int) {b : Nat} (hb : b = w.heap.size) : Kd.C (Kd.int .u64) (w.alloc (.cells #[.int .u64 x, .int .u64 y] 22)) (some ⟨b, 0, none⟩) 2 [x, y] := by
  subst hb
  exact C_int_block .u64 (xs := [x, y]) (heap_new w _) (by simp) (fun j z hj => by
    match j, hj with
    | 0, hj => simp at hj; subst hj; rfl
    | 1, hj => simp at hj; subst hj; rfl)
set_option maxHeartbeats 1000000 in
set_option maxRecDepth 100000 in
theorem awake10 (w : World) : Calls Try.prog 39 #[] w fun e w' => e = .returned (.bool true) ∧ Below w.heap.size w w' := by
  have hp := many_places [1, 2] 7 (some ⟨w.heap.size, 0, none⟩) 2 (w.alloc (.cells #[.int .u64 1, .int .u64 2] 22)) (by simp) (by simp) (by omega) (C_two w 1 2 rfl)
  rw [awake10_places] at hp
  have HP := Aside0.mk hp
  clear hp
  go_enter Try.func39, Try.ntmps39
  go_wp2_with fail
  refine HP.out.mono ?_
  rintro e w1 ⟨v1, rfl, hr, hb⟩
  obtain ⟨A1, c1, e1, _, hC⟩ := Kd.R_reads hr
  obtain ⟨ad, ea, _⟩ := Kd.at_int hC 0 (by omega) (by simp)
  subst ea
  rw [e1]
  have HC := Aside0.mk hC
  have HB := Aside0.mk ((bl_new w _).trans (hb.mono (by simp)))
  clear hr hb hC e1
  have he := many_encode [0, 2] 3 2 1 [hash1 7] (some ⟨w1.heap.size, 0, none⟩) (some ⟨w1.heap.size + 1, 0, none⟩) ((w1.alloc (.cells #[.int .u64 0, .int .u64 2] 22)).alloc (.cells (hash1 7).cells.toArray 73)) (by omega) (by simp) (by simp) (by omega) (Kd.C_below (C_two w1 0 2 rfl) (bl_new _ _)) (by rw [show w1.heap.size + 1 = (w1.alloc (.cells #[.int .u64 0, .int .u64 2] 22)).heap.size by simp]; exact C_hash_one (heap_new _ _))
  rw [awake10_bytes] at he
  have HEn := Aside0.mk he
  clear he
  go_wp2_with fail
  refine HEn.out.mono ?_
  rintro e w2 ⟨v2, rfl, hr2, hb2⟩
  have hb3 : Below w1.heap.size w1 w2 := (blt (bl_new w1 _) (bl_new _ _)).trans (hb2.mono (by simp; omega))
  obtain ⟨A2, c2, e2, _, hC2⟩ := Kd.R_reads hr2
  obtain ⟨ad2, ea2, k5⟩ := Kd.at_int hC2 0 (by omega) (by simp)
  subst ea2
  rw [e2]
  have at1 : ∀ i : Nat, i < 4 → w2.cell? (ad.add i) = some (.int .u64 (rd [0, 4, 9, 10] i)) := fun i hi => by
    obtain ⟨ad', ea', hx⟩ := Kd.at_int (Kd.C_below HC.out hb3) (i : Int) (by omega) (by simp; omega)
    injection ea' with ea'
    subst ea'
    exact hx
  have at2 : ∀ i : Nat, i < 37 → w2.cell? (ad2.add i) = some (.int .u8 (rd [78, 3, 2, 0, 1, 7, 0, 0, 0, 0, 0, 0, 0, 0, 0, 0, 0, 0, 0, 0, 0, 0, 0, 0, 0, 0, 0, 0, 0, 0, 0, 0, 0, 0, 0, 0, 0] i)) := fun i hi => by
    obtain ⟨ad', ea', hx⟩ := Kd.at_int hC2 (i : Int) (by omega) (by simp; omega)
    injection ea' with ea'
    subst ea'
    exact hx
  have a0 : w2.cell? (ad.add 0) = some (.int .u64 0) := at1 0 (by omega)
  have a1 : w2.cell? ⟨ad.block, ad.off + 1, none⟩ = some (.int .u64 4) := at1 1 (by omega)
  have a2 : w2.cell? ⟨ad.block, ad.off + 2, none⟩ = some (.int .u64 9) := at1 2 (by omega)
  have b0 : w2.cell? (ad2.add 0) = some (.int .u8 78) := at2 0 (by omega)
  have b4 : w2.cell? ⟨ad2.block, ad2.off + 4, none⟩ = some (.int .u8 1) := at2 4 (by omega)
  have b5 : w2.cell? ⟨ad2.block, ad2.off + 5, none⟩ = some (.int .u8 7) := at2 5 (by omega)
  have a0' : w2.cell? ad = some (.int .u64 0) := by have := a0; rwa [show ad.add 0 = ad by simp [Addr.add]] at this
  have b0' : w2.cell? ad2 = some (.int .u8 78) := by have := b0; rwa [show ad2.add 0 = ad2 by simp [Addr.add]] at this
  have HB3 := Aside0.mk hb3
  clear hr2 hb2 hb3 hC2 e2 at1 at2 HC HEn
  go_wp2
  go_ret
  exact ⟨rfl, HB.out.trans (HB3.out.mono HB.out.size)⟩
end Go.Proofs.Ytagcabmccpekaaa.M

namespace Go.Proofs.Ytagcabmccpekaaa.M
open Go.RowKit Go.Proofs.YtagcabmccpekaaaW.PrintWords Go.Proofs.YtagcabmccpekaaaW.PrintLast Go.Proofs.YtagcabmccpekaaaW.PrintMore Go.Proofs.Ytagcabmccpekaaa.Leaf

theorem C_one (w : World) (x : Int) {b : Nat} (hb : b = w.heap.size) : Kd.C (Kd.int .u64) (w.alloc (.cells #[.int .u64 x] 22)) (some ⟨b, 0, none⟩) 1 [x] := by
  subst hb
  exact C_int_block .u64 (xs := [x]) (heap_new w _) (by simp) (fun j z hj => by
    match j, hj with
    | 0, hj => simp at hj; subst hj; rfl)
end Go.Proofs.Ytagcabmccpekaaa.M

namespace Go.Proofs.Ytagcabmccpekaaa.M
open Go.RowKit Go.Proofs.YtagcabmccpekaaaW.PrintWords Go.Proofs.YtagcabmccpekaaaW.PrintLast Go.Proofs.YtagcabmccpekaaaW.PrintMore Go.Proofs.Ytagcabmccpekaaa.Leaf

theorem R_empty {e : Nat} {w : World} {g : Nat} {t : Nat} (ht : t = e) (hg : w.heap[g]? = some (.cells #[] t (0, 0))) {base : Nat} (hb : base ≤ g) : Kd.R (Kd.int .u64) e w base (fun _ => True) (.slice (some ⟨g, 0, none⟩) 0 0) [] := by
  subst ht
  exact ⟨fun _ _ => trivial, [], ⟨by simp, .inr ⟨g, 0, #[], rfl, hb, hg, Nat.le_refl _, Nat.zero_le _, by simp, by simp⟩⟩, Reps.none _ _⟩
set_option maxHeartbeats 1000000 in
set_option maxRecDepth 100000 in
/-- The same numbers in a list of their own that goes on behind them. -/
theorem numbers_calls (l : List Int) (A : Option Addr) (c : Nat) (w : World) (hl : l.length ≤ 1000000) (hC : Kd.C (Kd.int .u64) w A l.length l) :
    Calls Try.prog 34 #[.slice A l.length c] w fun e w' => ∃ A' c', e = .returned (.slice A' l.length c') ∧ Kd.R (Kd.int .u64) 22 w' w.heap.size (fun _ => True) (.slice A' (l.length + 1) c') (l ++ [171]) ∧ Below w.heap.size w w' := by
  have HC := Aside0.mk hC
  clear hC
  go_enter Try.func34, Try.ntmps34
  have HE := Aside0.mk (R_empty (e := 22) (base := w.heap.size) rfl (heap_new w (.cells #[] 22)) (Nat.le_refl _))
  go_wp2_with (first | ((with_reducible refine gate_builtin (b := .append) (xs := #[.tmp 3, .tmp 4]) rfl ?_); at_builtin; go_loud (refine app_row .u64 w.heap.size rfl (.tmp 3) (.tmp 4) 23 22 (.int .u64 0) 8 rfl Try.underlying23 info22 rfl (by omega) (.slice (some ⟨w.heap.size, 0, none⟩) 0 0) [] l A l.length c rfl rfl HE.out (Kd.C_below HC.out (bl_new w _)) (by simp) (by simp; omega) ?_; intro A2 c2 w2 hr2 hf2 hat2; simp only [List.length_nil, Nat.zero_add, List.nil_append] at hr2 ⊢; have HR2 := Aside0.mk hr2; have hb2 := Aside0.mk ((bl_new w _).trans (hf2.below (by simp) (fun k hk => Kd.R_base HE.out k hk.symm))); clear hr2 hf2 hat2)) | ((with_reducible refine gate_builtin (b := .append) (xs := #[.tmp 5, .tmp 6]) rfl ?_); at_builtin; go_loud (refine app_one (Kd.int .u64) w.heap.size rfl (.tmp 5) (.tmp 6) 23 22 (.int .u64 0) 8 rfl Try.underlying23 info22 rfl (by decide) (by omega) _ l 171 [.int .u64 171] rfl rfl rfl HR2.out hb2.out.size (by omega) ?_; intro A3 c3 w3 hr3 hf3 hat3; have hle := (Kd.R_reads' hr3).2.1; have hle2 : l.length ≤ c3 := Nat.le_trans (Nat.le_succ _) hle; have HR3 := Aside0.mk hr3; have hb3 := Aside0.mk (hb2.out.trans (hf3.below hb2.out.size (fun k hk => Kd.R_base HR2.out k hk.symm))); clear hr3 hf3 hat3)))
  go_ret
  exact ⟨A3, c3, rfl, HR3.out, hb3.out⟩
end Go.Proofs.Ytagcabmccpekaaa.M

namespace Go.Proofs.Ytagcabmccpekaaa.M
open Go.RowKit Go.Proofs.YtagcabmccpekaaaW.PrintWords Go.Proofs.YtagcabmccpekaaaW.PrintLast Go.Proofs.YtagcabmccpekaaaW.PrintMore Go.Proofs.Ytagcabmccpekaaa.Leaf

theorem numbers_C {l : List Nat} {w : World} {A : Option Addr} {c base : Nat} (h : Kd.R (Kd.int .u64) 22 w base (fun _ => True) (.slice A (l.length + 1) c) (intsOf l ++ [171])) : Kd.C (Kd.int .u64) w A l.length (intsOf l) ∧ l.length ≤ c ∧ c ≤ 9223372036854775807 := by
  obtain ⟨_, h2, h3⟩ := Kd.R_reads' h
  have h5 := R_cap h
  have e : intsOf l ++ [171] = intsOf (l ++ [171]) := by simp [intsOf]
  rw [e] at h3
  have h3' : Kd.C (Kd.int .u64) w A (l ++ [171]).length (intsOf (l ++ [171])) := by rw [ints_len] at h3; exact h3
  have h4 := C_ints_take h3' l.length (by simp)
  rw [List.take_left] at h4
  exact ⟨h4, by omega, h5⟩
end Go.Proofs.Ytagcabmccpekaaa.M

namespace Go.Proofs.Ytagcabmccpekaaa.M
open Go.RowKit Go.Proofs.YtagcabmccpekaaaW.PrintWords Go.Proofs.YtagcabmccpekaaaW.PrintLast Go.Proofs.YtagcabmccpekaaaW.PrintMore

theorem items_eq (d : Nat) (h g : Hsh) (w : World) : ∀ (is : List Nat), (∀ i ∈ is, i < 32) → (Op.eqItems (d + 1) 5 1 h.cells.toArray g.cells.toArray is).run Try.prog w = .ok (is.all fun i => h.b.getD i 0 == g.b.getD i 0) w
  | [], _ => by simp [Op.eqItems]
  | i :: is, hi => by
    have ih := items_eq d h g w is (fun j hj => hi j (List.mem_cons_of_mem _ hj))
    have h32 := hi i List.mem_cons_self
    have key : ∀ x : Hsh, x.cells.toArray[i * 1]? = some (.int .u8 (x.b.getD i 0)) := by
      intro x
      have hl := x.len
      rw [Nat.mul_one, List.getElem?_toArray]
      unfold Hsh.cells
      rw [List.getElem?_map, List.getElem?_eq_getElem (by omega)]
      simp [List.getD_eq_getElem?_getD, List.getElem?_eq_getElem (show i < x.b.length by omega)]
    have hp : Try.prog.plainKey 5 = true := by kernel_rfl
    rw [Op.eqItems]
    simp only [Sem.run_bind, run_part_plain w hp (key h), run_part_plain w hp (key g), Result.andThen_ok, run_equalIn_int w d 5 .u8 .u8 _ _ Try.underlying5]
    rw [List.all_cons]
    cases hq : (h.b.getD i 0 == g.b.getD i 0) with
    | false => simp
    | true => simp only [Bool.not_true, Bool.false_eq_true, if_false, Bool.true_and]; exact ih
theorem hash_dec (h g : Hsh) : ((List.range 32).all fun i => h.b.getD i 0 == g.b.getD i 0) = decide (h = g) := by
  rw [Bool.eq_iff_iff]
  simp only [List.all_eq_true, List.mem_range, beq_iff_eq, decide_eq_true_eq]
  constructor
  · intro hk
    have hb : h.b = g.b := by
      refine List.ext_getElem (by rw [h.len, g.len]) (fun i h1 h2 => ?_)
      have := hk i (by rw [← h.len]; exact h1)
      simpa [List.getD_eq_getElem?_getD, List.getElem?_eq_getElem h1, List.getElem?_eq_getElem h2] using this
    cases h; cases g; simp at hb; subst hb; rfl
  · rintro rfl i _; rfl
theorem hash_equalIn (d : Nat) (h g : Hsh) (w : World) : (Op.equalIn (d + 2) 73 h.val g.val).run Try.prog w = .ok (decide (h = g)) w := by
  obtain ⟨i, hi⟩ : ∃ i, Try.prog.info? 5 = some i := by
    have hs : (Try.prog.info? 5).isSome = true := by kernel_rfl
    exact Option.isSome_iff_exists.1 hs
  have hc : Try.prog.cellsOf 5 = 1 := by kernel_rfl
  unfold Hsh.val
  rw [show d + 2 = (d + 1) + 1 from rfl, run_equalIn_array w (d + 1) _ _ Try.underlying73 hi, hc, items_eq d h g w _ (fun j hj => List.mem_range.1 hj), hash_dec]
theorem hash_guard (op : BinOp) (x y : Operand) (h g : Hsh) (w : World) : (eqGuard op 73 x y h.val g.val).run Try.prog w = .ok () w := by
  have hm : Try.prog.eqGuardType Try.prog.depth 73 = false := by kernel_rfl
  exact run_eqGuard_agg w op _ x y _ _ hm
theorem hash_neq (h g : Hsh) (w : World) : (binOp .neq 73 h.val g.val).run Try.prog w = .ok (.bool (!decide (h = g))) w := by
  have := run_neq_struct (P := Try.prog) w 73 h.cells.toArray g.cells.toArray
  have e := hash_equalIn 9998 h g w
  unfold Hsh.val at e ⊢
  rw [this, e]
  rfl
/-- A guarded operation that is wanted goes as one without a guard. -/
theorem wp_unguard {P : Program} {ops : Array Oper} {rest : List Oper} {o : Oper} {a : Act} {Q : Exit → Act → World → Prop} {W : World} (hw : Region.wanted o (yielded ops a.tmps) = true) (h : wpList P ops Q ({o with guard := none} :: rest) a W) : wpList P ops Q (o :: rest) a W := by
  unfold wpList at h ⊢
  rw [if_pos hw]
  rw [if_pos (by simp [Region.wanted])] at h
  exact h
end Go.Proofs.Ytagcabmccpekaaa.M
