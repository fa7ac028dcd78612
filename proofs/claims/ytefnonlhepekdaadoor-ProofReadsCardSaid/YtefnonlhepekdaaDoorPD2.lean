/- proof.write and proof.Encode. num.Long reads back what num.Short writes, and reads nothing else. massifref7.Take: so many hashes, and nothing behind them (on a seat without the spans' texts). proof.reader: fail, kind, number. cut.Span. massifref4.Span. proof.PrefixPlaces, massifref7.PrefixPlaces. massifref7.PrefixPlaces. proof.EncodePrefix. massifref7.Put: hashes behind bytes. massifref7.Encode. massifref7.EncodePrefix. massiflaw7.awake. Rows of numbers: SameNumbers; massiflaw7.numbers, all; a row of one's own within a range of blocks. massiflaw7.row, text, marked, still, bytes; massifref7.SameHashes and massifref2.SameBytes of what is the same. -/
import Derived.Test.YtefnonlhepekdaaDoorPD1
import Derived.Test.YtefnonlhepekdaaDoorLng1
import Derived.BigQuiet
import Derived.Deep.QuietTactic
import Derived.IntWalk
import Derived.Test.YtefnonlhepekdaaDoorPD0
set_option linter.unusedVariables false
set_option linter.unusedSimpArgs false
set_option linter.unusedVariables false
set_option linter.unusedSimpArgs false
namespace Go.Proofs.YtefnonlhepekdaaDoor.M
open Go.RowKit Go.Proofs.YtefnonlhepekdaaDoorW.PrintWords Go.Proofs.YtefnonlhepekdaaDoorW.PrintLast Go.Proofs.YtefnonlhepekdaaDoorW.PrintMore Go.Proofs.YtefnonlhepekdaaDoor.Leaf

theorem short_calls (x : Nat) (hx : x < 18446744073709551616) (w : World) :
    Calls Tryd.prog 105 #[.int .u64 x] w fun e w' => ∃ v, e = .returned v ∧ Kd.R (Kd.int .u8) 5 w' w.heap.size (fun _ => True) v (shortI x) ∧ Below w.heap.size w w' := by
  obtain ⟨k, hk⟩ := (short_val x hx).rounds
  exact num_Short.calls k x _ w hk

def writeB (kd a b : Nat) (ns : List Hsh) : List Int := [(kd : Int)] ++ shortI a ++ shortI b ++ nodesI ns

set_option maxHeartbeats 2000000 in
set_option maxRecDepth 100000 in
theorem proof_write (kd x y c : Nat) (ns : List Hsh) (A : Option Addr) (w : World) (hx : x < 18446744073709551616) (hy : y < 18446744073709551616) (hA : kH.C w A ns.length ns) (hle : ns.length ≤ 100000) :
    Calls Tryd.prog 72 #[.int .u8 kd, .int .u64 x, .int .u64 y, .slice A ns.length c] w fun e w' => ∃ v, e = .returned v ∧ Kd.R (Kd.int .u8) 5 w' w.heap.size (fun _ => True) v (writeB kd x y ns) ∧ Below w.heap.size w w' := by
  have HN := Aside0.mk hA
  have hns := hle
  clear hA hle
  go_enter Tryd.func72, Tryd.ntmps72
  go_wp2_with fail
  refine (short_calls x hx _).mono ?_
  rintro e wa ⟨va, rfl, hra, hba⟩
  obtain ⟨Aa, ca, ea⟩ := Kd.R_slice hra
  rw [ea] at hra ⊢
  have ra := Aside0.mk (Rd.of_R hra)
  have ba := Aside0.mk hba
  clear hra hba ea
  go_wp2_with fail
  refine (short_calls y hy _).mono ?_
  rintro e wb ⟨vb, rfl, hrb, hbb⟩
  obtain ⟨Ab, cb, eb⟩ := Kd.R_slice hrb
  rw [eb] at hrb ⊢
  have rb := Aside0.mk (Rd.of_R hrb)
  have bb := Aside0.mk hbb
  clear hrb hbb eb
  go_wp2_with fail
  refine (concat_rows (some ⟨_, 0, none⟩) 3 [[(kd : Int)], shortI x, shortI y] _ (C_rows3 .u8 5 _ _ _ _ 22 _ _ _ (Rd.below (Rd.below (Rd.one _ _ _ _ rfl) ba.out) bb.out) (Rd.below ra.out bb.out) rb.out (by simp [World.drew])) (by simp) (by have := shortI_len x; have := shortI_len y; simp; omega)).mono ?_
  rintro e wd ⟨vd, rfl, hrd, hbd⟩
  obtain ⟨Ad, ld, cd, ed⟩ : ∃ A l c, vd = .slice A l c := (by obtain ⟨A, c, h⟩ := Kd.R_slice hrd; exact ⟨A, _, c, h⟩)
  rw [ed] at hrd ⊢
  obtain ⟨P0, hP⟩ : ∃ P, P = [(kd : Int)] ++ shortI x ++ shortI y := ⟨_, rfl⟩
  have hfl : [[(kd : Int)], shortI x, shortI y].flatten = P0 := by rw [hP]; simp
  rw [hfl] at hrd
  have hPl : P0.length ≤ 31 := by have := shortI_len x; have := shortI_len y; rw [hP]; simp only [List.length_append, List.length_singleton]; omega
  have hB0 : Below w.heap.size w wd := blt (blt (blt (bl_new w _) ba.out) bb.out) (below_on (bl_new wb _) (by simp) (Below.refl _ _)) |>.trans (hbd.mono (by have := ba.out.size; have := bb.out.size; simp at *; omega))
  have HP := Aside0.mk hP
  have G1 := Aside0.mk (Kd.R_lower hrd (by have := ba.out.size; have := bb.out.size; simp at *; omega : w.heap.size ≤ _))
  have G2 := Aside0.mk hB0
  clear hrd hbd ed hP hfl hB0
  go_wp2_with fail
  go_loopw [9, 22] (fun s i wr => ∃ j : Nat, j ≤ ns.length ∧ i = .int .i64 j ∧ Aside0 (Kd.R (Kd.int .u8) 5 wr w.heap.size (fun _ => True) s (P0 ++ nodesI (ns.take j))) ∧ Aside0 (Below w.heap.size w wr)) (fun _ i _ => ns.length - (intOf i).toNat)
  case atStart => exact ⟨0, Nat.zero_le _, rfl, by rw [List.take_zero]; simp only [nodesI, List.flatMap_nil, List.append_nil]; exact G1, G2⟩
  case round =>
    obtain ⟨j, hj, rfl, HR, HW⟩ := hrel
    clear G1 G2
    by_cases hlt : j < ns.length
    · obtain ⟨ad, ea, hh⟩ := C_hash (Kd.C_below HN.out HW.out) j hlt
      subst ea
      have HH := Aside0.mk hh
      clear hh
      obtain ⟨hv, hhv⟩ : ∃ h, h = ns[j] := ⟨_, rfl⟩
      rw [← hhv] at HH
      have hcat : nodesI (ns.take (j + 1)) = nodesI (ns.take j) ++ hv.b := by
        rw [List.take_add_one, List.getElem?_eq_getElem hlt, ← hhv]
        show nodesI (ns.take j ++ [hv]) = _
        unfold nodesI
        rw [List.flatMap_append]
        simp only [List.flatMap_cons, List.flatMap_nil, List.append_nil]
      have hlen : (nodesI (ns.take (j + 1))).length ≤ 32 * 100000 := by
        have h1 : ∀ l : List Hsh, (nodesI l).length = 32 * l.length := by
          intro l
          induction l with
          | nil => rfl
          | cons x l ih =>
            rw [show nodesI (x :: l) = x.b ++ nodesI l from rfl, List.length_append, ih, x.len, List.length_cons]
            omega
        rw [h1]
        have := List.length_take_le (j + 1) ns
        omega
      rw [hcat, List.length_append, hv.len] at hlen
      have HCat := Aside0.mk hcat
      clear hcat hhv
      have hsz := HW.out.size
      obtain ⟨P1, hP1⟩ : ∃ P, P = P0 ++ nodesI (ns.take j) := ⟨_, rfl⟩
      have hP1l : P1.length ≤ 3200100 := by rw [hP1, List.length_append]; omega
      rw [← hP1] at HR
      have HP1 := Aside0.mk hP1
      clear hP1
      go_wp2_with (first | ((with_reducible refine gate_dst (N := 25) rfl ?_); go_loud (refine load_hash rfl (.tmp 24) rfl _ _ rfl HH.out ?_)) | ((with_reducible refine gate_store (t := 63) (p := 11) (v := .tmp 25) rfl ?_); go_loud (refine store_hash rfl rfl (.tmp 11) (.tmp 25) rfl _ rfl _ _ rfl hv rfl rfl ?_)) | ((with_reducible refine gate_builtin (b := .append) (xs := #[.tmp 26, .tmp 27]) rfl ?_); at_builtin; go_loud (refine app_row .u8 w.heap.size rfl (.tmp 26) (.tmp 27) 22 5 (.int .u8 0) 1 rfl Tryd.underlying22 info5 rfl (by omega) _ P1 hv.b _ 32 32 rfl rfl (Kd.R_alloc HR.out _) (C_hash_row wr hv _ rfl) (by simp; omega) (by omega) ?_; intro A2 c2 w2 hr2 hf2 hat2; have HR2 := Aside0.mk hr2; have HF2 := Aside0.mk hf2; clear hr2 hf2 hat2)))
      go_roundw
      case rel => exact ⟨j + 1, by omega, by go_num, ⟨by rw [HCat.out, ← List.append_assoc, ← HP1.out]; exact HR2.out⟩, ⟨(below_alloc HW.out _).trans (HF2.out.below (by simp; omega) (fun k hk => Kd.R_base HR.out k hk.symm))⟩⟩
      case measure => simp [intOf]; omega
    · have hjl : j = ns.length := by omega
      subst hjl
      obtain ⟨A6, l6, c6, e6⟩ : ∃ A l c, u9 = .slice A l c := (by obtain ⟨A, c, h⟩ := Kd.R_slice HR.out; exact ⟨A, _, c, h⟩)
      have HE6 := Aside0.mk e6
      clear e6
      go_wp2_with fail
      go_ret
      refine ⟨_, rfl, ?_, HW.out⟩
      have hq := HR.out
      rw [List.take_length, HP.out] at hq
      exact hq


/-- What proof.Encode answers. -/
def pencAns (i n : Nat) (ns : List Hsh) : List Int × Int := if (proofAns i n).2 ≠ 0 then ([], (proofAns i n).2) else if (proofAns i n).1.length ≠ ns.length then ([], 70) else (writeB 77 n i ns, 0)
set_option maxHeartbeats 2000000 in
set_option maxRecDepth 100000 in
theorem proof_encode (i n c : Nat) (ns : List Hsh) (A : Option Addr) (w : World) (hi : i < 18446744073709551616) (hn : n < 18446744073709551616) (hA : kH.C w A ns.length ns) :
    Calls Tryd.prog 27 #[.agg #[.int .u64 n, .int .u64 i, .slice A ns.length c]] w fun e w' => ∃ v, e = .returned (.tuple #[v, .int .i64 (pencAns i n ns).2]) ∧ Kd.R (Kd.int .u8) 5 w' w.heap.size (fun _ => True) v (pencAns i n ns).1 ∧ Below w.heap.size w w' := by
  have hp := proof_places i n
  have hlen := proofAns_len i n
  have hdef : pencAns i n ns = if (proofAns i n).2 ≠ 0 then ([], (proofAns i n).2) else if (proofAns i n).1.length ≠ ns.length then ([], 70) else (writeB 77 n i ns, 0) := rfl
  generalize pencAns i n ns = E at *
  generalize (proofAns i n).1 = L at *
  generalize (proofAns i n).2 = er at *
  have HP := Aside0.mk hp
  have HE := Aside0.mk hdef
  have HN := Aside0.mk hA
  clear hp hdef hA
  go_enter Tryd.func27, Tryd.ntmps27
  go_wp2_with fail
  refine (HP.out _).mono ?_
  rintro e w1 ⟨v1, rfl, hr, hb⟩
  obtain ⟨A1, cap1, e1⟩ := Kd.R_slice hr
  rw [e1]
  have hb0 : Below w.heap.size w w1 := (bl_new w _).trans (hb.mono (by simp))
  have hbx : w1.heap[w.heap.size]? = some (.cells #[.int .u64 n, .int .u64 i, .slice A ns.length c] 41 (0, 0)) := (hb.block _ (by simp)).trans (heap_new w _)
  have hx0 : w1.cell? ⟨w.heap.size, 0, none⟩ = some (.int .u64 n) := (blk_cell hbx 0).trans rfl
  have hx1 : w1.cell? ⟨w.heap.size, 1, none⟩ = some (.int .u64 i) := (blk_cell hbx 1).trans rfl
  have hx2 : w1.cell? ⟨w.heap.size, 2, none⟩ = some (.slice A ns.length c) := (blk_cell hbx 2).trans rfl
  have HB := Aside0.mk hb0
  clear hr hb hb0 hbx e1
  by_cases h0 : er = 0
  · subst h0
    by_cases hk2 : L.length = ns.length
    · have hd : ((L.length : Int) != (ns.length : Int)) = false := by rw [bne_eq_false_iff_eq]; omega
      have HK := Aside0.mk hk2
      have hle : ns.length ≤ 100000 := by omega
      clear hk2
      go_wp2_with fail
      refine (proof_write 77 n i c ns A w1 hn hi (Kd.C_below HN.out HB.out) hle).mono ?_
      rintro e w2 ⟨v2, rfl, hr2, hb2⟩
      obtain ⟨A2, l2, c2, e2⟩ : ∃ A l c, v2 = .slice A l c := (by obtain ⟨A, c, h⟩ := Kd.R_slice hr2; exact ⟨A, _, c, h⟩)
      have HR2 := Aside0.mk hr2
      have HE2 := Aside0.mk e2
      have HB2 := Aside0.mk hb2
      clear hr2 hb2 e2
      go_wp2_with fail
      go_ret2
      have he := HE.out
      rw [if_neg (by simp), if_neg (fun h => h HK.out)] at he
      rw [he]
      exact ⟨_, rfl, Kd.R_lower HR2.out HB.out.size, HB.out.trans (HB2.out.mono HB.out.size)⟩
    · have hd : ((L.length : Int) != (ns.length : Int)) = true := by rw [bne_iff_ne]; omega
      have HK := Aside0.mk hk2
      clear hk2
      go_wp2
      go_ret2
      have he := HE.out
      rw [if_neg (by simp), if_pos HK.out] at he
      rw [he]
      exact ⟨_, rfl, Kd.R_nil _ _ _ _ _, HB.out⟩
  · have hd : (er != 0) = true := by rw [bne_iff_ne]; exact h0
    have HK := Aside0.mk h0
    clear h0
    go_wp2
    go_ret2
    have he := HE.out
    rw [if_pos HK.out] at he
    rw [he]
    exact ⟨_, rfl, Kd.R_nil _ _ _ _ _, HB.out⟩
end Go.Proofs.YtefnonlhepekdaaDoor.M

set_option linter.unusedVariables false
set_option linter.unusedSimpArgs false
namespace Go.Proofs.YtefnonlhepekdaaDoor.M
open Go.RowKit Go.Proofs.YtefnonlhepekdaaDoorW.PrintWords Go.Proofs.YtefnonlhepekdaaDoorW.PrintLast Go.Proofs.YtefnonlhepekdaaDoorW.PrintMore Go.Proofs.YtefnonlhepekdaaDoor.Leaf Go.Proofs.YtefnonlhepekdaaDoor.Lng

/-- Reading the byte number i: x has been read. -/
def longF : Nat → Nat → Nat → List Int → Int × Int × Int
  | 0, _, _, _ => (0, 0, 10)
  | _ + 1, _, _, [] => (0, 0, 11)
  | d + 1, i, x, b :: r =>
    if i = 9 ∧ b > 1 then (0, 0, 10)
    else if b < 128 then (if 0 < i ∧ b = 0 then (0, 0, 12) else (((x + b.toNat % 128 * 2 ^ (7 * i) : Nat) : Int), ((i + 1 : Nat) : Int), 0))
    else longF d (i + 1) (x + b.toNat % 128 * 2 ^ (7 * i)) r
def longN (bs : List Int) : Int × Int × Int := longF 10 0 0 bs
theorem or_high (x y i : Nat) (hx : x < 2 ^ i) : x ||| y * 2 ^ i = x + y * 2 ^ i := by
  rw [Nat.or_comm, Nat.mul_comm, ← Nat.two_pow_add_eq_or_of_lt hx, Nat.add_comm]
theorem long_step (x b i : Nat) (hi : i ≤ 9) (hx : x < 2 ^ (7 * i)) (hb : b < 256) (h9 : i = 9 → b ≤ 1) : Go.bits .or .u64 (x : Int) (shl .u64 (Go.bits .and .u64 (b : Int) 127) ((7 * i : Nat) : Int)) = ((x + b % 128 * 2 ^ (7 * i) : Nat) : Int) ∧ x + b % 128 * 2 ^ (7 * i) < 2 ^ 64 ∧ (i < 9 → x + b % 128 * 2 ^ (7 * i) < 2 ^ (7 * (i + 1))) := by
  have h1 : Go.bits .and .u64 (b : Int) 127 = ((b % 128 : Nat) : Int) := by
    have := and64 b 127 (by omega) (by omega)
    rw [show b &&& 127 = b % 128 from Nat.and_two_pow_sub_one_eq_mod b 7] at this
    exact this
  have hp : 0 < 2 ^ (7 * i) := p2_pos _
  have hm : b % 128 * 2 ^ (7 * i) ≤ 127 * 2 ^ (7 * i) := Nat.mul_le_mul_right _ (by omega)
  have hle : i < 9 → 2 ^ (7 * (i + 1)) ≤ 2 ^ 63 := fun h => Nat.pow_le_pow_right (by omega) (by omega)
  have hs : i < 9 → 2 ^ (7 * (i + 1)) = 128 * 2 ^ (7 * i) := fun _ => by rw [show 7 * (i + 1) = 7 * i + 7 by omega, Nat.pow_add]; omega
  have hlt : x + b % 128 * 2 ^ (7 * i) < 2 ^ 64 ∧ (i < 9 → x + b % 128 * 2 ^ (7 * i) < 2 ^ (7 * (i + 1))) := by
    by_cases h : i < 9
    · have := hle h
      have := hs h
      exact ⟨by omega, fun _ => by omega⟩
    · have h99 : i = 9 := by omega
      have := h9 h99
      subst h99
      have : b % 128 * 2 ^ (7 * 9) ≤ 1 * 2 ^ (7 * 9) := Nat.mul_le_mul_right _ (by omega)
      exact ⟨by omega, fun h => absurd h (by omega)⟩
  refine ⟨?_, hlt⟩
  rw [h1, shl_nat _ _ (by omega) (by omega)]
  have := u64_or_nat x (b % 128 * 2 ^ (7 * i)) (by omega) (by omega)
  rw [or_high x _ _ hx] at this
  exact this
theorem long_loop (bs : List Int) (hb : Bytes bs) (hl : bs.length < 9223372036854775807) : ∀ (d i x : Nat), i + d = 10 → i ≤ bs.length → x < 2 ^ (7 * i) → Ev (fun k => num_Long.l0 k bs (x : Int) (i : Int)) (longF d i x (bs.drop i))
  | 0, i, x, hd, _, _ => Ev.step (f := fun _ => some (0, 0, 10)) (fun k => by simp only [num_Long.l0]; rw [if_neg (by omega)]) (Ev.now _)
  | d + 1, i, x, hd, hi, hx => by
    by_cases he : i = bs.length
    · rw [List.drop_of_length_le (by omega)]
      exact Ev.step (f := fun _ => some (0, 0, 11)) (fun k => by simp only [num_Long.l0]; rw [if_pos (by omega), if_pos (by omega)]) (Ev.now _)
    · have hlt : i < bs.length := by omega
      have hr : rd bs (i : Int) = bs[i] := by simp [rd, List.getD_eq_getElem?_getD, List.getElem?_eq_getElem hlt]
      obtain ⟨h0, h256⟩ := hb _ (List.getElem_mem hlt)
      rw [List.drop_eq_getElem_cons hlt]
      generalize hbd : bs[i] = b at *
      obtain ⟨c, hc⟩ : ∃ c : Nat, b = (c : Int) := ⟨b.toNat, by omega⟩
      subst hc
      have SS := Aside0.mk (fun (hi9 : i ≤ 9) (h256 : c < 256) (h9 : i = 9 → c ≤ 1) => long_step x c i hi9 hx h256 h9)
      clear hx
      have hw : IntKind.u64.wrap (c : Int) = (c : Int) := w64_nat c (by omega)
      have h7 : wrap64 (7 * (i : Int)) = ((7 * i : Nat) : Int) := by rw [i64_of _ (by omega) (by omega)]; omega
      have tail : ∀ q : Bool, q = decide (i = 9 ∧ (c : Int) > 1) → Ev (fun k => num_Long.j1 k bs (x : Int) (i : Int) (c : Int) (i : Int) q) (longF (d + 1) i x ((c : Int) :: bs.drop (i + 1))) := by
        intro q hq
        simp only [longF]
        by_cases c9 : i = 9 ∧ (c : Int) > 1
        · rw [if_pos c9]
          rw [decide_eq_true c9] at hq
          subst hq
          exact Ev.step (f := fun _ => some (0, 0, 10)) (fun k => by simp only [num_Long.j1]; rw [if_pos trivial]) (Ev.now _)
        · rw [if_neg c9]
          rw [decide_eq_false c9] at hq
          subst hq
          have e1 : wrap64 ((i : Int) + 1) = ((i + 1 : Nat) : Int) := by rw [i64_of _ (by omega) (by omega)]; omega
          have h9 : ¬ (c : Int) < 128 → i < 9 := fun hc => Nat.lt_of_not_le (fun h => c9 ⟨by omega, by omega⟩)
          have g0 : (0 : Int) ≤ ((7 * i : Nat) : Int) := Int.natCast_nonneg _
          have gi : 0 < i → (i : Int) > 0 := fun h => by omega
          have gn : ¬ 0 < i → ¬ (i : Int) > 0 := fun h => by omega
          have gd : i + 1 + d = 10 := by omega
          have gl : i + 1 ≤ bs.length := by omega
          obtain ⟨s1, s2, s3⟩ := SS.out (by omega) (by omega) (fun h9 => by omega)
          rw [Int.toNat_natCast]
          obtain ⟨X, hX⟩ : ∃ X, X = x + c % 128 * 2 ^ (7 * i) := ⟨_, rfl⟩
          rw [← hX] at s1 s2 s3 ⊢
          have ihd : i < 9 → Ev (fun k => num_Long.l0 k bs (X : Int) ((i + 1 : Nat) : Int)) (longF d (i + 1) X (bs.drop (i + 1))) := fun h9 => long_loop bs hb hl d (i + 1) X gd gl (s3 h9)
          clear s2 s3 hX
          by_cases c128 : (c : Int) < 128
          · rw [if_pos c128]
            by_cases cf : 0 < i ∧ (c : Int) = 0
            · rw [if_pos cf]
              exact Ev.step (f := fun _ => some (0, 0, 12)) (fun k => by simp only [num_Long.j1]; rw [if_neg Bool.false_ne_true, h7, s1, if_pos g0, if_pos c128, if_pos (gi cf.1), if_pos cf.2]) (Ev.now _)
            · rw [if_neg cf]
              refine Ev.step (f := fun _ => some ((X : Int), ((i + 1 : Nat) : Int), 0)) (fun k => ?_) (Ev.now _)
              simp only [num_Long.j1]
              rw [if_neg Bool.false_ne_true, h7, s1, e1, if_pos g0, if_pos c128]
              by_cases hi0 : 0 < i
              · rw [if_pos (gi hi0), if_neg (fun h => cf ⟨hi0, h⟩)]
              · rw [if_neg (gn hi0)]
          · rw [if_neg c128]
            exact Ev.step (fun k => by simp only [num_Long.j1]; rw [if_neg Bool.false_ne_true, h7, s1, e1, if_pos g0, if_neg c128]) (ihd (h9 c128))
      have k1 : (i : Int) < 10 := by omega
      have k2 : ¬ (i : Int) = (bs.length : Int) := by omega
      have k3 : (0 : Int) ≤ (i : Int) := by omega
      have k4 : (i : Int) < (bs.length : Int) := by omega
      by_cases c9 : i = 9
      · have t := tail (decide ((c : Int) > 1)) (by simp [c9])
        have k5 : (i : Int) = 9 := by omega
        exact Ev.step (fun k => by simp only [num_Long.l0]; rw [if_pos k1, if_neg k2, if_pos k3, if_pos k4, if_pos k5, hr, hw]) t
      · have t := tail false (by simp [c9])
        have k5 : ¬ (i : Int) = 9 := by omega
        exact Ev.step (fun k => by simp only [num_Long.l0]; rw [if_pos k1, if_neg k2, if_pos k3, if_pos k4, if_neg k5, hr, hw]) t
theorem long_val (bs : List Int) (hb : Bytes bs) (hl : bs.length < 9223372036854775807) : Ev (fun k => num_Long.f k bs) (longN bs) := by
  have := long_loop bs hb hl 10 0 0 rfl (Nat.zero_le _) (by omega)
  rw [List.drop_zero] at this
  exact this
/-! There, and back. -/
theorem long_short (rest : List Int) : ∀ (f i acc x : Nat), i + f = 9 → x < 2 ^ (7 * f + 1) → (0 < i → 0 < x) → longF (f + 1) i acc ((shortF f x).map (fun (b : Nat) => (b : Int)) ++ rest) = (((acc + x * 2 ^ (7 * i) : Nat) : Int), ((i + (shortF f x).length : Nat) : Int), 0)
  | 0, i, acc, x, hf, hx, hp => by
    simp at hx
    simp only [shortF, List.map_cons, List.map_nil, List.cons_append, List.nil_append, longF, Int.toNat_natCast, List.length_singleton]
    rw [if_neg (by omega), if_pos (by omega), if_neg (by omega), Nat.mod_eq_of_lt (by omega)]
  | f + 1, i, acc, x, hf, hx, hp => by
    by_cases c : x < 128
    · rw [show shortF (f + 1) x = [x] by simp only [shortF]; rw [if_pos c]]
      simp only [List.map_cons, List.map_nil, List.cons_append, List.nil_append, longF, Int.toNat_natCast, List.length_singleton]
      rw [if_neg (by omega), if_pos (by omega), if_neg (by omega), Nat.mod_eq_of_lt c]
    · rw [show shortF (f + 1) x = (128 + x % 128) :: shortF f (x / 128) by simp only [shortF]; rw [if_neg c]]
      have ih := long_short rest f (i + 1) (acc + x % 128 * 2 ^ (7 * i)) (x / 128) (by omega) (by rw [show 7 * (f + 1) + 1 = (7 * f + 1) + 7 by omega, Nat.pow_add] at hx; omega) (fun _ => by omega)
      simp only [List.map_cons, List.cons_append, List.length_cons]
      rw [longF]
      rw [if_neg (by omega), if_neg (by omega), Int.toNat_natCast, show (128 + x % 128) % 128 = x % 128 by omega, ih]
      have e : acc + x % 128 * 2 ^ (7 * i) + x / 128 * 2 ^ (7 * (i + 1)) = acc + x * 2 ^ (7 * i) := by
        rw [show 7 * (i + 1) = 7 * i + 7 by omega, Nat.pow_add, show x / 128 * (2 ^ (7 * i) * 2 ^ 7) = (128 * (x / 128)) * 2 ^ (7 * i) by rw [← Nat.mul_assoc, Nat.mul_comm (x / 128), Nat.mul_assoc, Nat.mul_comm (2 ^ (7 * i))]; congr 1; omega, Nat.add_assoc, ← Nat.add_mul]
        congr 2
        omega
      rw [e, show i + 1 + (shortF f (x / 128)).length = i + ((shortF f (x / 128)).length + 1) by omega]
theorem longN_short (x : Nat) (rest : List Int) (hx : x < 18446744073709551616) : longN (shortI x ++ rest) = ((x : Int), ((shortI x).length : Int), 0) := by
  have := long_short rest 9 0 0 x rfl (by omega) (fun h => absurd h (by omega))
  unfold longN shortI
  rw [this]
  simp
theorem short_long : ∀ (d i acc : Nat) (bs : List Int) (v k : Int), Bytes bs → i + d = 9 → longF (d + 1) i acc bs = (v, k, 0) → ∃ y : Nat, y < 2 ^ (7 * d + 1) ∧ (0 < i → 0 < y) ∧ v = ((acc + y * 2 ^ (7 * i) : Nat) : Int) ∧ k = ((i + (shortF d y).length : Nat) : Int) ∧ ∃ rest, bs = (shortF d y).map (fun (b : Nat) => (b : Int)) ++ rest := by
  intro d
  induction d with
  | zero =>
    intro i acc bs v k hb hd h
    have hi : i = 9 := by omega
    cases bs with
    | nil => simp [longF] at h
    | cons b r =>
      obtain ⟨h0, h256⟩ := hb b List.mem_cons_self
      obtain ⟨c, hc⟩ : ∃ c : Nat, b = (c : Int) := ⟨b.toNat, by omega⟩
      subst hc
      rw [longF] at h
      split at h
      · simp at h
      · next c1 =>
        split at h
        · split at h
          · simp at h
          · next c3 =>
            rw [Int.toNat_natCast, Nat.mod_eq_of_lt (by omega)] at h
            injection h with h1 h2
            injection h2 with h2 _
            exact ⟨c, by omega, fun _ => by omega, h1.symm, by rw [← h2]; rfl, r, rfl⟩
        · simp only [longF] at h
          simp at h
  | succ d ih =>
    intro i acc bs v k hb hd h
    cases bs with
    | nil => simp [longF] at h
    | cons b r =>
      obtain ⟨h0, h256⟩ := hb b List.mem_cons_self
      obtain ⟨c, hc⟩ : ∃ c : Nat, b = (c : Int) := ⟨b.toNat, by omega⟩
      subst hc
      rw [longF] at h
      split at h
      · simp at h
      · next c1 =>
        split at h
        · next c2 =>
          split at h
          · simp at h
          · next c3 =>
            rw [Int.toNat_natCast, Nat.mod_eq_of_lt (by omega)] at h
            injection h with h1 h2
            injection h2 with h2 _
            have hs : shortF (d + 1) c = [c] := by simp only [shortF]; rw [if_pos (by omega)]
            refine ⟨c, ?_, fun _ => by omega, h1.symm, by rw [← h2, hs]; rfl, r, by rw [hs]; rfl⟩
            have : 2 ^ 8 ≤ 2 ^ (7 * (d + 1) + 1) := Nat.pow_le_pow_right (by omega) (by omega)
            omega
        · next c2 =>
          obtain ⟨y, y1, y2, y3, y4, rest, y5⟩ := ih (i + 1) _ r v k (fun x hx => hb x (List.mem_cons_of_mem _ hx)) (by omega) h
          have hy := y2 (by omega)
          rw [Int.toNat_natCast] at y3
          have hs : shortF (d + 1) (c % 128 + 128 * y) = (128 + c % 128) :: shortF d y := by
            simp only [shortF]
            rw [if_neg (by omega), show (c % 128 + 128 * y) % 128 = c % 128 by omega, show (c % 128 + 128 * y) / 128 = y by omega]
          refine ⟨c % 128 + 128 * y, ?_, fun _ => by omega, ?_, ?_, rest, ?_⟩
          · rw [show 7 * (d + 1) + 1 = (7 * d + 1) + 7 by omega, Nat.pow_add]
            omega
          · rw [y3, show 7 * (i + 1) = 7 * i + 7 by omega, Nat.pow_add, Nat.add_mul, show y * (2 ^ (7 * i) * 2 ^ 7) = 128 * y * 2 ^ (7 * i) by rw [← Nat.mul_assoc, Nat.mul_comm (y * 2 ^ (7 * i)), Nat.mul_assoc], Nat.add_assoc]
          · rw [y4, hs, List.length_cons]
            congr 1
            omega
          · rw [hs, List.map_cons, List.cons_append, ← y5]
            congr 1
            omega
theorem longN_back {bs : List Int} (hb : Bytes bs) {v k : Int} (h : longN bs = (v, k, 0)) : ∃ (x : Nat) (rest : List Int), x < 18446744073709551616 ∧ v = (x : Int) ∧ k = ((shortI x).length : Int) ∧ bs = shortI x ++ rest := by
  obtain ⟨y, y1, _, y3, y4, rest, y5⟩ := short_long 9 0 0 bs v k hb rfl h
  refine ⟨y, rest, by omega, by rw [y3]; simp, by rw [y4]; unfold shortI; simp, y5⟩
end Go.Proofs.YtefnonlhepekdaaDoor.M

set_option linter.unusedVariables false
set_option linter.unusedSimpArgs false
namespace Go.Proofs.YtefnonlhepekdaaDoor.M
open Go.RowKit Go.Proofs.YtefnonlhepekdaaDoorW.PrintWords Go.Proofs.YtefnonlhepekdaaDoorW.PrintLast Go.Proofs.YtefnonlhepekdaaDoorW.PrintMore Go.Proofs.YtefnonlhepekdaaDoor.Leaf

def takeAns (bs : List Int) (n : Nat) : List Hsh × Int := if bs.length < 32 * n then ([], 11) else if 32 * n < bs.length then ([], 13) else (takeH n bs, 0)
/-- Some of a hash's bytes, 0 behind them. -/
def hpre (l : List Int) (k : Nat) : List Int := l.take k ++ List.replicate (32 - k) 0
theorem hpre_len (l : List Int) (k : Nat) (hl : l.length = 32) (hk : k ≤ 32) : (hpre l k).length = 32 := by
  unfold hpre
  rw [List.length_append, List.length_take, List.length_replicate]
  omega
theorem hpre_set (l : List Int) (k : Nat) (hl : l.length = 32) (hk : k < 32) (x : Int) (hx : l[k]? = some x) : (hpre l k).set k x = hpre l (k + 1) := by
  unfold hpre
  rw [List.set_append_right _ _ (by rw [List.length_take]; omega), List.length_take, Nat.min_eq_left (by omega), Nat.sub_self, show 32 - k = (32 - (k + 1)) + 1 by omega, List.replicate_succ, List.set_cons_zero, List.take_add_one, hx, List.append_assoc]
  rfl
theorem hpre_all (l : List Int) (hl : l.length = 32) : hpre l 32 = l := by
  unfold hpre
  rw [List.take_of_length_le (by omega)]
  simp
set_option maxHeartbeats 4000000 in
set_option maxRecDepth 100000 in
theorem take_calls (bs : List Int) (n : Nat) (A : Option Addr) (c : Nat) (w : World) (hn : n ≤ 1000000) (hl : bs.length ≤ 1000000000) (hc : bs.length ≤ c) (hC : Kd.C (Kd.int .u8) w A bs.length bs) :
    Calls Tryd.prog 89 #[.slice A bs.length c, .int .i64 n] w fun e w' => ∃ v, e = .returned (.tuple #[v, .int .i64 (takeAns bs n).2]) ∧ kH.R 63 w' w.heap.size (fun _ => True) v (takeAns bs n).1 ∧ Below w.heap.size w w' := by
  have HC := Aside0.mk hC
  clear hC
  have hta : takeAns bs n = if bs.length < 32 * n then ([], 11) else if 32 * n < bs.length then ([], 13) else (takeH n bs, 0) := rfl
  by_cases c1 : bs.length < 32 * n
  · rw [if_pos c1] at hta
    rw [hta]
    have g1 : (bs.length : Int) / 32 < (n : Int) := by omega
    clear hta c1
    go_enter Tryd.func89, Tryd.ntmps89
    go_wp2_with fail
    go_ret2
    exact ⟨_, rfl, Kd.R_nil _ _ _ _ _, Below.refl _ _⟩
  · rw [if_neg c1] at hta
    have g1 : ¬ ((bs.length : Int) / 32 < (n : Int)) := by omega
    by_cases c2 : 32 * n < bs.length
    · rw [if_pos c2] at hta
      rw [hta]
      have g2 : 32 * (n : Int) < (bs.length : Int) := by omega
      clear hta c1 c2
      go_enter Tryd.func89, Tryd.ntmps89
      go_wp2_with fail
      go_ret2
      exact ⟨_, rfl, Kd.R_nil _ _ _ _ _, Below.refl _ _⟩
    · rw [if_neg c2] at hta
      rw [hta]
      have g2 : ¬ (32 * (n : Int) < (bs.length : Int)) := by omega
      have HLen := Aside0.mk (show bs.length = 32 * n by omega)
      clear hta c1 c2
      go_enter Tryd.func89, Tryd.ntmps89
      go_wp2_with fail
      go_loopw [6, 7] (fun s k wr => ∃ (i l : Nat) (A1 : Option Addr) (c1 : Nat), i ≤ n ∧ s = .slice A1 l c1 ∧ k = .int .i64 i ∧ Aside0 (kH.R 63 wr w.heap.size (fun _ => True) (.slice A1 l c1) (takeH i bs)) ∧ Aside0 (Below w.heap.size w wr)) (fun _ k _ => n - (intOf k).toNat)
      case atStart => exact ⟨0, 0, none, 0, Nat.zero_le _, rfl, rfl, ⟨Kd.R_nil _ _ _ _ _⟩, ⟨Below.refl _ _⟩⟩
      case round =>
        obtain ⟨i, l, A1, c1, hi, rfl, rfl, HR, HW⟩ := hrel
        by_cases hlt : i < n
        · have hb32 : 32 * i + 32 ≤ bs.length := by have := HLen.out; omega
          obtain ⟨ch, hch⟩ : ∃ ch, ch = (bs.drop (32 * i)).take 32 := ⟨_, rfl⟩
          have hcl : ch.length = 32 := by rw [hch, List.length_take, List.length_drop]; omega
          have hget : ∀ k : Nat, k < 32 → ch[k]? = some (bs.getD (32 * i + k) 0) := by
            intro k hk
            rw [hch, List.getElem?_take_of_lt hk, List.getElem?_drop, List.getD_eq_getElem?_getD, List.getElem?_eq_getElem (by omega)]
            rfl
          have HSn := Aside0.mk (show takeH (i + 1) bs = takeH i bs ++ [mkH ch] by rw [takeH_snoc, hch])
          have HGet := Aside0.mk hget
          have HCl := Aside0.mk hcl
          clear hch hget hcl
          obtain ⟨wo, rfl⟩ : ∃ wo : World, wo = wr := ⟨_, rfl⟩
          have hs := HW.out.size
          go_wp2_with fail
          go_loopw [9] (fun s wq => ∃ k : Nat, k ≤ 32 ∧ s = .int .i64 k ∧ Aside0 (wq.heap[wo.heap.size]? = some (.cells (cellsB (hpre ch k)) 63 (0, 0)) ∧ Below wo.heap.size wo wq)) (fun s _ => 32 - (intOf s).toNat)
          case atStart => exact ⟨0, Nat.zero_le _, rfl, ⟨heap_new wo _, bl_new wo _⟩⟩
          case round =>
            obtain ⟨k, hk, rfl, HQ⟩ := hrel
            by_cases hkt : k < 32
            · obtain ⟨ad, ea, hx⟩ := Kd.at_int (Kd.C_below HC.out (HW.out.trans (HQ.out.2.mono hs))) ((32 * i + k : Nat) : Int) (by omega) (by omega)
              rw [Int.toNat_natCast, show rd bs ((32 * i + k : Nat) : Int) = bs.getD (32 * i + k) 0 by simp only [rd, Int.toNat_natCast]] at hx
              subst ea
              obtain ⟨y, hy⟩ := cellsB_get (hpre ch k) k (by rw [hpre_len ch k HCl.out (by omega)]; omega)
              have y1 := (blk_cell HQ.out.1 k).trans hy
              have y2 : _ = false := blk_frozen HQ.out.1 k
              have HN := Aside0.mk (hpre_set ch k HCl.out hkt _ (HGet.out k hkt))
              clear hy
              generalize bs.getD (32 * i + k) 0 = x at *
              go_wp2_with fail
              go_roundw
              case rel => exact ⟨k + 1, by omega, by go_num, ⟨by rw [blk_set HQ.out.1 k (.int .u8 x), cellsB_set, HN.out], HQ.out.2.setCell (Nat.le_refl _) _⟩⟩
              case measure => simp [intOf]; omega
            · have hk32 : k = 32 := by omega
              subst hk32
              have HH := Aside0.mk (HashAt.block (h := mkH ch) (by have := HQ.out.1; rwa [hpre_all ch HCl.out, cellsB_hash ch HCl.out] at this))
              have HR2 := Aside0.mk (Kd.R_below HR.out HQ.out.2)
              have HW2 := Aside0.mk (HW.out.trans (HQ.out.2.mono hs))
              have hs2 := HW2.out.size
              have hll := takeH_len i bs
              obtain ⟨hv, hhv⟩ : ∃ hv, hv = mkH ch := ⟨_, rfl⟩
              obtain ⟨P, hP⟩ : ∃ P, P = takeH i bs := ⟨_, rfl⟩
              rw [← hhv] at HH HSn
              rw [← hP] at HR2 HSn hll
              have hone := hv.one
              clear hhv hP
              go_wp2_with (first | ((with_reducible refine gate_dst (N := 39) rfl ?_); go_loud (refine load_hash rfl (.tmp 8) rfl _ _ rfl HH.out ?_)) | ((with_reducible refine gate_dst (N := 40) rfl ?_); go_loud (refine build_hash rfl (.tmp 39) rfl hv rfl ?_)) | ((with_reducible refine gate_builtin (b := .append) (xs := #[.tmp 38, .tmp 40]) rfl ?_); at_builtin; go_loud (refine app_one kH w.heap.size rfl (.tmp 38) (.tmp 40) 39 63 _ 32 rfl Tryd.underlying39 infoH rfl (by decide) (by decide) (.slice A1 l c1) P hv (hv).cells rfl rfl rfl HR2.out hs2 (by omega) ?_; intro A9 c9 w9 hr9 hf9 ha9; have HR9 := Aside0.mk hr9; have HF9 := Aside0.mk hf9; have HA9 := Aside0.mk ha9; clear hr9 hf9 ha9)))
              go_roundw
              case rel => exact ⟨i + 1, _, A9, c9, by omega, rfl, by go_num, ⟨by rw [HSn.out, ← hll]; exact HR9.out⟩, ⟨HW2.out.trans (HF9.out.below hs2 (fun k hk => Kd.R_base HR2.out k hk.symm))⟩⟩
              case measure => simp [intOf]; omega
        · have hin : i = n := by omega
          subst hin
          go_wp2_with fail
          go_ret2
          exact ⟨_, rfl, HR.out, HW.out⟩
end Go.Proofs.YtefnonlhepekdaaDoor.M

set_option linter.unusedVariables false
set_option linter.unusedSimpArgs false
namespace Go.Proofs.YtefnonlhepekdaaDoor.M
open Go.RowKit Go.Proofs.YtefnonlhepekdaaDoorW.PrintWords Go.Proofs.YtefnonlhepekdaaDoorW.PrintLast Go.Proofs.YtefnonlhepekdaaDoorW.PrintMore Go.Proofs.YtefnonlhepekdaaDoor.Leaf Go.Proofs.YtefnonlhepekdaaDoor.Lng

/-- Bytes that lie in block g (none: no bytes). -/
def CG (g : Option Nat) (w : World) (A : Option Addr) (n : Nat) (xs : List Int) : Prop := ∀ w' : World, (∀ k, g = some k → w'.heap[k]? = w.heap[k]?) → Kd.C (Kd.int .u8) w' A n xs
theorem CG.here {g : Option Nat} {w : World} {A : Option Addr} {n : Nat} {xs : List Int} (h : CG g w A n xs) : Kd.C (Kd.int .u8) w A n xs := h w (fun _ _ => rfl)
theorem CG.frm {g : Option Nat} {w w1 : World} {A : Option Addr} {n : Nat} {xs : List Int} (h : CG g w A n xs) {S : Nat → Prop} (hf : Frm S w w1) (hg : ∀ k, g = some k → k < w.heap.size ∧ ¬ S k) : CG g w1 A n xs :=
  fun w' hw => h w' (fun k hk => (hw k hk).trans (hf.block k (hg k hk).1 (hg k hk).2))
/-- A reader in its box br; what is left to read lies in block g. -/
structure Rdr (w : World) (br : Nat) (g : Option Nat) (A : Option Addr) (n c : Nat) (er : Int) (bs : List Int) : Prop where
  box : w.heap[br]? = some (.cells #[.slice A n c, .int .i64 er] 126 (0, 0))
  len : bs.length = n
  cap : n ≤ c
  all : CG g w A n bs
  far : ∀ k, g = some k → k < w.heap.size ∧ k ≠ br
/-- A reader, some bytes of which may have been read. -/
def RdrE (w : World) (br : Nat) (g : Option Nat) (n : Nat) (er : Int) (bs : List Int) : Prop := ∃ A1 n1 c1, n1 ≤ n ∧ Rdr w br g A1 n1 c1 er bs
theorem Rdr.frm {w w1 : World} {br : Nat} {g : Option Nat} {A A1 : Option Addr} {n c n1 c1 : Nat} {er er1 : Int} {bs bs1 : List Int} (h : Rdr w br g A n c er bs) (hf : Frm (fun k => k = br) w w1) (hb : w1.heap[br]? = some (.cells #[.slice A1 n1 c1, .int .i64 er1] 126 (0, 0)))
    (hl : bs1.length = n1) (hc : n1 ≤ c1) (hA : CG g w A1 n1 bs1) : Rdr w1 br g A1 n1 c1 er1 bs1 :=
  ⟨hb, hl, hc, hA.frm hf (fun k hk => ⟨(h.far k hk).1, (h.far k hk).2⟩), fun k hk => ⟨Nat.lt_of_lt_of_le (h.far k hk).1 hf.size, (h.far k hk).2⟩⟩
theorem Rdr.below {w w1 : World} {br : Nat} {g : Option Nat} {A : Option Addr} {n c : Nat} {er : Int} {bs : List Int} (h : Rdr w br g A n c er bs) (hb : Below w.heap.size w w1) : Rdr w1 br g A n c er bs :=
  h.frm (Frm.of_below hb _) ((hb.block _ (blk_lt h.box)).trans h.box) h.len h.cap h.all
theorem Rdr.seterr {w : World} {br : Nat} {g : Option Nat} {A : Option Addr} {n c : Nat} {er : Int} {bs : List Int} (h : Rdr w br g A n c er bs) (e : Int) : Rdr (w.setCell ⟨br, 1, none⟩ (.int .i64 e)) br g A n c e bs :=
  h.frm (Frm.of_set w ⟨br, 1, none⟩ _) (by have := blk_set h.box 1 (.int .i64 e); rw [this]; rfl) h.len h.cap h.all
theorem Rdr.setb {w : World} {br : Nat} {g : Option Nat} {A A1 : Option Addr} {n c n1 c1 : Nat} {er : Int} {bs bs1 : List Int} (h : Rdr w br g A n c er bs) (hl : bs1.length = n1) (hc : n1 ≤ c1) (hA : CG g w A1 n1 bs1) : Rdr (w.setCell ⟨br, 0, none⟩ (.slice A1 n1 c1)) br g A1 n1 c1 er bs1 :=
  h.frm (Frm.of_set w ⟨br, 0, none⟩ _) (by have := blk_set h.box 0 (.slice A1 n1 c1); rw [this]; rfl) hl hc hA
theorem CG.drop {g : Option Nat} {w : World} {ad : Addr} {c m n : Nat} {xs : List Int} (h : CG g w (some ad) n xs) (hl : xs.length = n) (hm : m ≤ n) (hc : n ≤ c) : CG g w (if c = m then some ad else some (ad.add m)) (n - m) (xs.drop m) := by
  intro w' hw
  subst hl
  have h1 := Kd.C_drop (m := m) (c := c) (h w' hw) hm hc
  rw [List.length_drop] at h1
  have h2 : (if c = m then some ad else Option.map (fun x => x.add (m * (Kd.int IntKind.u8).sz)) (some ad)) = (if c = m then some ad else some (ad.add m)) := by
    rw [show (Kd.int IntKind.u8).sz = 1 from rfl, Nat.mul_one]
    rfl
  rw [h2] at h1
  exact h1
theorem CG.cell0 {g : Option Nat} {w : World} {A : Option Addr} {n : Nat} {b : Int} {r : List Int} (h : CG g w A n (b :: r)) : ∃ ad, A = some ad ∧ w.cell? ad = some (.int .u8 b) := by
  have hl := Kd.C_len h.here
  obtain ⟨ad, ea, hx⟩ := Kd.at_int h.here 0 (by omega) (by simp at hl; omega)
  exact ⟨ad, ea, by have := hx; simpa [Addr.add, rd] using this⟩
set_option maxHeartbeats 1000000 in
set_option maxRecDepth 100000 in
theorem fail_calls (wrong : Bool) (e er : Int) (br n c : Nat) (g : Option Nat) (A : Option Addr) (bs : List Int) (w : World) (h : Rdr w br g A n c er bs) :
    Calls Tryd.prog 92 #[.pointer (some ⟨br, 0, none⟩), .bool wrong, .int .i64 e] w fun o w' => o = .returned (.tuple #[]) ∧ Rdr w' br g A n c (if er = 0 ∧ wrong = true then e else er) bs ∧ Frm (fun k => k = br) w w' := by
  have k0 := (blk_cell h.box 0).trans (rfl : _ = some (Value.slice A n c))
  have k1 := (blk_cell h.box 1).trans (rfl : _ = some (Value.int .i64 er))
  have f1 := blk_frozen h.box 1
  have H := Aside0.mk h
  clear h
  by_cases he : er = 0
  · cases wrong
    · subst he
      go_enter Tryd.func92, Tryd.ntmps92
      go_wp2_with fail
      go_end0
      exact ⟨rfl, H.out, Frm.refl _ _⟩
    · subst he
      go_enter Tryd.func92, Tryd.ntmps92
      go_wp2_with fail
      go_end0
      exact ⟨rfl, H.out.seterr e, Frm.of_set _ ⟨br, 1, none⟩ _⟩
  · go_enter Tryd.func92, Tryd.ntmps92
    go_wp2_with fail
    go_end0
    exact ⟨rfl, H.out, Frm.refl _ _⟩
/-- The first byte is looked at. -/
def kindR (k : Int) : List Int → List Int × Int
  | [] => ([], 11)
  | b :: r => (r, if b ≠ k then 14 else 0)
set_option maxHeartbeats 1000000 in
set_option maxRecDepth 100000 in
theorem kind_calls (k : Int) (br n c : Nat) (g : Option Nat) (A : Option Addr) (bs : List Int) (w : World) (hn : n ≤ 1000000000) (h : Rdr w br g A n c 0 bs) :
    Calls Tryd.prog 91 #[.pointer (some ⟨br, 0, none⟩), .int .u8 k] w fun o w' => o = .returned (.tuple #[]) ∧ RdrE w' br g n (kindR k bs).2 (kindR k bs).1 ∧ Frm (fun k => k = br) w w' := by
  have k0 := (blk_cell h.box 0).trans (rfl : _ = some (Value.slice A n c))
  have H := Aside0.mk h
  clear h
  cases bs with
  | nil =>
    obtain rfl : n = 0 := H.out.len.symm
    go_enter Tryd.func91, Tryd.ntmps91
    go_wp2_with fail
    refine (fail_calls _ 11 0 br 0 c g A [] _ H.out).mono ?_
    rintro o w1 ⟨rfl, hr, hf⟩
    rw [if_pos ⟨rfl, by simp⟩] at hr
    have k1 := (blk_cell hr.box 1).trans (rfl : _ = some (Value.int .i64 11))
    have HR := Aside0.mk hr
    have HF := Aside0.mk hf
    clear hr hf
    go_wp2_with fail
    refine bodyPost_ret (results_none rfl _ _ _) rfl ?_
    exact ⟨rfl, ⟨A, 0, c, Nat.le_refl _, HR.out⟩, HF.out⟩
  | cons b r =>
    obtain ⟨m, rfl⟩ : ∃ m, n = m + 1 := ⟨r.length, by have := H.out.len; simpa using this.symm⟩
    have hg : ¬ (((m + 1 : Nat) : Int) = 0) := by omega
    go_enter Tryd.func91, Tryd.ntmps91
    go_wp2_with fail
    refine (fail_calls _ 11 0 br (m + 1) c g A (b :: r) _ H.out).mono ?_
    rintro o w1 ⟨rfl, hr, hf⟩
    rw [if_neg (by simp; try omega)] at hr
    have k0 := (blk_cell hr.box 0).trans (rfl : _ = some (Value.slice A (m + 1) c))
    have k1 := (blk_cell hr.box 1).trans (rfl : _ = some (Value.int .i64 0))
    obtain ⟨ad, rfl, hx⟩ := CG.cell0 hr.all
    have HR := Aside0.mk hr
    have HF := Aside0.mk hf
    clear hr hf
    go_wp2_with fail
    refine (fail_calls _ 14 0 br (m + 1) c g (some ad) (b :: r) _ HR.out).mono ?_
    rintro o w2 ⟨rfl, hr, hf⟩
    have he : (if (0 : Int) = 0 ∧ (b != k) = true then (14 : Int) else 0) = (kindR k (b :: r)).2 := by
      simp only [kindR]
      by_cases hb : b = k <;> simp [hb]
    rw [he] at hr
    generalize hee : (kindR k (b :: r)).2 = er at *
    have k0 := (blk_cell hr.box 0).trans (rfl : _ = some (Value.slice (some ad) (m + 1) c))
    have f0 := blk_frozen hr.box 0
    have hcm := hr.cap
    have HR2 := Aside0.mk hr
    have HF2 := Aside0.mk (HF.out.trans hf (fun _ _ h => h))
    have hC : CG g w2 (if c = 1 then some ad else some ⟨ad.block, ad.off + 1, none⟩) m r := CG.drop (m := 1) HR2.out.all HR2.out.len (by omega) HR2.out.cap
    obtain ⟨ad1, hif⟩ : ∃ ad1 : Addr, (if c = 1 then some ad else some ⟨ad.block, ad.off + 1, none⟩) = some ad1 := by split <;> exact ⟨_, rfl⟩
    rw [hif] at hC
    have HC := Aside0.mk hC
    have HE := Aside0.mk hee
    clear hr hf he hx k1 hee hC
    go_wp2_with fail
    go_end0
    exact ⟨rfl, by rw [HE.out]; exact ⟨_, m, c - 1, by omega, Rdr.setb HR2.out (bs1 := r) (by have := HR2.out.len; simpa using this) (by omega) HC.out⟩, HF2.out.trans (Frm.of_set _ ⟨br, 0, none⟩ _) (fun _ _ h => h)⟩
end Go.Proofs.YtefnonlhepekdaaDoor.M

set_option linter.unusedVariables false
set_option linter.unusedSimpArgs false
namespace Go.Proofs.YtefnonlhepekdaaDoor.M
open Go.RowKit Go.Proofs.YtefnonlhepekdaaDoorW.PrintWords Go.Proofs.YtefnonlhepekdaaDoorW.PrintLast Go.Proofs.YtefnonlhepekdaaDoorW.PrintMore Go.Proofs.YtefnonlhepekdaaDoor.Leaf

set_option maxHeartbeats 1000000 in
set_option maxRecDepth 100000 in
theorem span_calls (a b : Nat) (w : World) (ha : a < 18446744073709551616) (hb : b ≤ 4611686018427387904) (hT : DB w) :
    Calls Tryd.prog 43 #[.int .u64 a, .int .u64 b] w fun e w' => ∃ v, e = .returned v ∧ kS.R 74 w' w.heap.size (fun _ => True) v (spanN a b) ∧ Below w.heap.size w w' := by
  have HT := Aside0.mk hT
  have hlen := span_len a b hb
  have HL := Aside0.mk hlen
  clear hT hlen
  have hd : ¬ ((b : Int) > 4611686018427387904) := by omega
  go_enter Tryd.func43, Tryd.ntmps43
  go_wp2_with fail
  go_loopw [0, 5] (fun q s wr => ∃ (c : Nat) (P : List (Nat × Nat)), c < 18446744073709551616 ∧ q = .int .u64 c ∧ Aside0 (P ++ spanN c b = spanN a b) ∧ Aside0 (kS.R 74 wr w.heap.size (fun _ => True) s P) ∧ Aside0 (Below w.heap.size w wr)) (fun q _ _ => b - (intOf q).toNat)
  case atStart => exact ⟨a, [], ha, rfl, ⟨rfl⟩, ⟨Kd.R_nil _ _ _ _ _⟩, ⟨Below.refl _ _⟩⟩
  case round =>
    obtain ⟨c, P, hc, rfl, HP, HS, HB⟩ := hrel
    by_cases hlt : c < b
    · obtain ⟨k1, k2, k3⟩ := h_facts hlt hb
      have hstep := span_step hlt hb
      have hPl : P.length ≤ 127 := by have := HL.out; rw [← HP.out, List.length_append] at this; omega
      have hsub : IntKind.u64.wrap ((b : Int) - (c : Int)) = ((b - c : Nat) : Int) := by rw [IntKind.wrap_u64]; omega
      have hp := p2_pos (hN c b)
      have hmin : min (loN c : Int) ((Lib.bitLen (b - c) - 1 : Nat) : Int) = (hN c b : Int) := by unfold hN; omega
      have hu8 : IntKind.u8.wrap (hN c b : Int) = (hN c b : Int) := by rw [IntKind.wrap_u8]; omega
      have hshr := shr_nat c (hN c b) (by omega)
      have hshl : shl .u64 1 (hN c b : Int) = ((2 ^ hN c b : Nat) : Int) := by have := shl_nat 1 (hN c b) (by omega) (by omega); rwa [Nat.one_mul] at this
      have hadd : IntKind.u64.wrap ((c : Int) + ((2 ^ hN c b : Nat) : Int)) = ((c + 2 ^ hN c b : Nat) : Int) := by rw [IntKind.wrap_u64]; omega
      have hne : b - c ≠ 0 := by omega
      have hble : b - c ≤ 4611686018427387904 := by omega
      obtain ⟨dd, hdd⟩ : ∃ d, d = b - c := ⟨_, rfl⟩
      rw [← hdd] at hsub hne hble hmin
      have HHI := Aside0.mk (high_calls dd hne hble)
      have HLO := Aside0.mk (low_calls c hc)
      have HST := Aside0.mk hstep
      have HK := Aside0.mk (show c + 2 ^ hN c b ≤ b by omega)
      have hs5 := HB.out.size
      have HHC := Aside0.mk (show ((hN c b : Nat) : Int) = (hN c b : Int) from rfl)
      clear hstep hne hble hdd k2 k3
      generalize Lib.bitLen dd - 1 = uu at *
      generalize hN c b = hh at *
      generalize loN c = lo at *
      obtain ⟨qq, hqq⟩ : ∃ q, q = c / 2 ^ hh := ⟨_, rfl⟩
      obtain ⟨pp, hpp⟩ : ∃ p, p = 2 ^ hh := ⟨_, rfl⟩
      obtain ⟨c2, hc2⟩ : ∃ z, z = c + pp := ⟨_, rfl⟩
      have hq2 : (c : Int) / 2 ^ hh = (qq : Int) := by rw [hqq]; push_cast; rfl
      have hp2 : IntKind.u64.wrap ((2 : Int) ^ hh) = (pp : Int) := by
        have h2 : ((2 : Int) ^ hh) = (pp : Int) := by rw [hpp]; push_cast; rfl
        have hk := HK.out
        rw [← hpp] at hk
        rw [h2, IntKind.wrap_u64]
        omega
      rw [← hqq] at hshr HST
      rw [← hpp] at hshl hadd HK hp HST
      rw [← hc2] at hadd HK HST
      have HC2 := Aside0.mk hc2
      clear hqq hpp hc2
      obtain ⟨As, ms, cs, e9⟩ : ∃ A m c, u5 = .slice A m c := by obtain ⟨A, c, h⟩ := Kd.R_slice HS.out; exact ⟨A, _, c, h⟩
      subst e9
      go_wp2_with fail
      refine (HLO.out _ (HT.out.below HB.out)).mono ?_
      rintro e w1 ⟨rfl, rfl⟩
      go_wp2_with fail
      refine (HHI.out _).mono ?_
      rintro e w2 ⟨rfl, hd2⟩
      have hs7 := hd2.below.size
      have HR2 := Aside0.mk (Kd.R_below HS.out hd2.below)
      have HB2 := Aside0.mk (blt HB.out hd2.below)
      have hbase : w.heap.size ≤ w2.heap.size := by omega
      clear hd2 HS HB hs5 hs7
      go_wp2_with ((with_reducible refine gate_builtin (b := .append) (xs := #[.tmp 19, .tmp 26]) rfl ?_); at_builtin; go_loud (refine app_oneN kS w.heap.size rfl (.tmp 19) (.tmp 26) 70 74 (.agg #[.int .u8 0, .int .u64 0]) 16 rfl Tryd.underlying70 infoS rfl (by decide) (by decide) (.slice As ms cs) P (hh, qq) (spCells (hh, qq)) rfl rfl rfl HR2.out hbase (by omega) ?_; intro A9 n9 c9 w9 hr9 hf9 ha9; have HR9 := Aside0.mk hr9; have HF9 := Aside0.mk hf9; have HA9 := Aside0.mk ha9; clear hr9 hf9 ha9))
      go_roundw
      case rel => exact ⟨c2, P ++ [(hh, qq)], by have := HK.out; omega, by go_num, ⟨by rw [List.append_assoc, List.singleton_append, ← HST.out]; exact HP.out⟩, HR9, ⟨HB2.out.trans (HF9.out.below hbase (fun k hk => Kd.R_base HR2.out k hk.symm))⟩⟩
      case measure => have := HC2.out; have := HK.out; simp [intOf]; omega
    · have hcb : b ≤ c := by omega
      have hPf := HP.out
      rw [span_stop hcb, List.append_nil] at hPf
      have HPf := Aside0.mk hPf
      clear hPf hcb
      obtain ⟨As, ms, cs, e9⟩ : ∃ A m c, u5 = .slice A m c := by obtain ⟨A, c, h⟩ := Kd.R_slice HS.out; exact ⟨A, _, c, h⟩
      subst e9
      go_wp2_with fail
      go_ret
      exact ⟨_, rfl, HPf.out ▸ HS.out, HB.out⟩
end Go.Proofs.YtefnonlhepekdaaDoor.M

set_option linter.unusedVariables false
set_option linter.unusedSimpArgs false
namespace Go.Proofs.YtefnonlhepekdaaDoor.M
open Go.RowKit Go.Proofs.YtefnonlhepekdaaDoorW.PrintWords Go.Proofs.YtefnonlhepekdaaDoorW.PrintLast Go.Proofs.YtefnonlhepekdaaDoorW.PrintMore Go.Proofs.YtefnonlhepekdaaDoor.Leaf

theorem h_go {a b t : Nat} (hab : a < b) (hb : b ≤ 4611686018427387904) (ht : t < hN a b) : t < 62 ∧ a % 2 ^ (t + 1) = 0 ∧ 2 ^ (t + 1) ≤ b - a := by
  obtain ⟨h1, h2, h3⟩ := h_facts hab hb
  exact ⟨by omega, Nat.mod_eq_zero_of_dvd (Nat.dvd_trans (Nat.pow_dvd_pow 2 ht) h3), Nat.le_trans (Nat.pow_le_pow_right (by omega) ht) h2⟩
theorem h_stop {a b : Nat} (hab : a < b) (hb : b ≤ 4611686018427387904) (h0 : a % 2 ^ (hN a b + 1) = 0) : b - a < 2 ^ (hN a b + 1) := by
  have hl := len_facts (x := b - a) (by omega) (by omega)
  rcases Nat.lt_or_ge (loN a) (Lib.bitLen (b - a) - 1) with h | h
  · have e : hN a b = loN a := Nat.min_eq_left (by omega)
    rw [e] at h0
    by_cases hz : a = 0
    · subst hz
      have : loN 0 = 64 := rfl
      omega
    · exact absurd (Nat.dvd_of_mod_eq_zero h0) (lo_not hz (by omega) (by omega))
  · have e : hN a b = Lib.bitLen (b - a) - 1 := Nat.min_eq_right h
    rw [e, show Lib.bitLen (b - a) - 1 + 1 = Lib.bitLen (b - a) by omega]
    exact hl.2.2.1
theorem power_calls (h : Nat) (hh : h ≤ 63) (w : World) :
    Calls Tryd.prog 100 #[.int .i64 h] w fun e w' => e = .returned (.int .u64 ((2 ^ h : Nat) : Int)) ∧ Drawn0 w w' := by
  obtain ⟨k, hk⟩ := (power_val h hh).rounds
  exact massifref3_Power.calls k _ _ w hk

set_option maxHeartbeats 1000000 in
set_option maxRecDepth 100000 in
theorem span4_calls (a b : Nat) (w : World) (ha : a < 18446744073709551616) (hb : b ≤ 4611686018427387904) :
    Calls Tryd.prog 61 #[.int .u64 a, .int .u64 b] w fun e w' => ∃ v, e = .returned v ∧ kS.R 74 w' w.heap.size (fun _ => True) v (spanN a b) ∧ Below w.heap.size w w' := by
  have hlen := span_len a b hb
  have HL := Aside0.mk hlen
  clear hlen
  have hd : ¬ ((b : Int) > 4611686018427387904) := by omega
  by_cases hab : a < b
  · have hge : ¬ ((a : Int) ≥ (b : Int)) := by omega
    go_enter Tryd.func61, Tryd.ntmps61
    go_wp2_with fail
    clear hge
    go_loopw [0, 5] (fun q s wr => ∃ (c : Nat) (P : List (Nat × Nat)), c < 18446744073709551616 ∧ q = .int .u64 c ∧ Aside0 (P ++ spanN c b = spanN a b) ∧ Aside0 (kS.R 74 wr w.heap.size (fun _ => True) s P) ∧ Aside0 (Below w.heap.size w wr)) (fun q _ _ => b - (intOf q).toNat)
    case atStart => exact ⟨a, [], ha, rfl, ⟨rfl⟩, ⟨Kd.R_nil _ _ _ _ _⟩, ⟨Below.refl _ _⟩⟩
    case round =>
      obtain ⟨c, P, hc, rfl, HP, HS, HB⟩ := hrel
      by_cases hlt : c < b
      · obtain ⟨k1, k2, k3⟩ := h_facts hlt hb
        have hstep := span_step hlt hb
        have hPl : P.length ≤ 127 := by have := HL.out; rw [← HP.out, List.length_append] at this; omega
        have hgo : ∀ t, t < hN c b → t < 62 ∧ c % 2 ^ (t + 1) = 0 ∧ 2 ^ (t + 1) ≤ b - c := fun t ht => h_go hlt hb ht
        have hst : c % 2 ^ (hN c b + 1) = 0 → b - c < 2 ^ (hN c b + 1) := h_stop hlt hb
        have hsub : IntKind.u64.wrap ((b : Int) - (c : Int)) = ((b - c : Nat) : Int) := by rw [IntKind.wrap_u64]; omega
        obtain ⟨dd, hdd⟩ : ∃ d, d = b - c := ⟨_, rfl⟩
        rw [← hdd] at hsub
        have HGO := Aside0.mk hgo
        have HST := Aside0.mk hstep
        have HSP := Aside0.mk hst
        have HDD := Aside0.mk hdd
        have HK := Aside0.mk (show c + 2 ^ hN c b ≤ b by omega)
        clear hgo hstep hst hdd k2 k3
        generalize hN c b = hh at *
        obtain ⟨As, ms, cs, e9⟩ : ∃ A m c, u5 = .slice A m c := by obtain ⟨A, c, h⟩ := Kd.R_slice HS.out; exact ⟨A, _, c, h⟩
        subst e9
        go_upto_block 2 with (fail)
        go_cut [6] from 15 to 52 (fun q wc => q = .int .i64 hh ∧ Aside0 (Below wr.heap.size wr wc))
        case first =>
          go_wp2_with fail
          go_loopw [6] (fun q w3 => ∃ t : Nat, t ≤ hh ∧ q = .int .i64 t ∧ Aside0 (Below wr.heap.size wr w3)) (fun q _ => hh - (intOf q).toNat)
          case atStart => exact ⟨0, Nat.zero_le _, rfl, ⟨Below.refl _ _⟩⟩
          case round =>
            obtain ⟨t, ht, rfl, HB3⟩ := hrel
            by_cases hth : t < hh
            · obtain ⟨g1, g2, g3⟩ := HGO.out t hth
              have hpw : ∀ w, Calls Tryd.prog 100 #[.int .i64 ((t : Int) + 1)] w fun e w' => e = .returned (.int .u64 ((2 ^ (t + 1) : Nat) : Int)) ∧ Drawn0 w w' := power_calls (t + 1) (Nat.le_trans g1 (by decide))
              have hp := p2_pos (t + 1)
              have e1 : wrap64 ((t : Int) + 1) = ((t + 1 : Nat) : Int) := by rw [i64_of _ (by omega) (by omega)]; omega
              rw [← HDD.out] at g3
              have hpl := p2_le (show t + 1 ≤ 63 from Nat.le_trans g1 (by decide))
              generalize 2 ^ (t + 1) = pp at *
              have HPW := Aside0.mk hpw
              clear hpw
              have hmod : (c : Int) % (pp : Int) = 0 := by omega
              go_wp2_with fail
              refine (HPW.out _).mono ?_
              rintro e w4 ⟨rfl, hd4⟩
              have HB4 := Aside0.mk (blt HB3.out hd4.below)
              clear hd4
              go_wp2_with fail
              refine (HPW.out _).mono ?_
              rintro e w5 ⟨rfl, hd5⟩
              have HB5 := Aside0.mk (blt HB4.out hd5.below)
              clear hd5
              go_wp2_with fail
              go_roundw
              case rel => exact ⟨t + 1, by omega, by go_num, HB5⟩
              case measure => simp [intOf]; omega
            · obtain rfl : t = hh := by omega
              by_cases h62 : t < 62
              · have hpw : ∀ w, Calls Tryd.prog 100 #[.int .i64 ((t : Int) + 1)] w fun e w' => e = .returned (.int .u64 ((2 ^ (t + 1) : Nat) : Int)) ∧ Drawn0 w w' := power_calls (t + 1) (by omega)
                have hp := p2_pos (t + 1)
                have e1 : wrap64 ((t : Int) + 1) = ((t + 1 : Nat) : Int) := by rw [i64_of _ (by omega) (by omega)]; omega
                have hsp := HSP.out
                rw [← HDD.out] at hsp
                generalize 2 ^ (t + 1) = pp at *
                have HPW := Aside0.mk hpw
                clear hpw
                by_cases hm : c % pp = 0
                · have hmod : (c : Int) % (pp : Int) = 0 := by omega
                  have hle := hsp hm
                  clear hsp
                  go_wp2_with fail
                  refine (HPW.out _).mono ?_
                  rintro e w4 ⟨rfl, hd4⟩
                  have HB4 := Aside0.mk (blt HB3.out hd4.below)
                  clear hd4
                  go_wp2_with fail
                  refine (HPW.out _).mono ?_
                  rintro e w5 ⟨rfl, hd5⟩
                  have HB5 := Aside0.mk (blt HB4.out hd5.below)
                  clear hd5
                  go_wp2_with fail
                  go_meet
                  case rel => exact ⟨rfl, HB5⟩
                · have hmod : ¬ ((c : Int) % (pp : Int) = 0) := by omega
                  clear hsp
                  go_wp2_with fail
                  refine (HPW.out _).mono ?_
                  rintro e w4 ⟨rfl, hd4⟩
                  have HB4 := Aside0.mk (blt HB3.out hd4.below)
                  clear hd4
                  go_wp2_with fail
                  go_meet
                  case rel => exact ⟨rfl, HB4⟩
              · have h62' : ¬ ((t : Int) < 62) := by omega
                go_wp2_with fail
                go_meet
                case rel => exact ⟨rfl, HB3⟩
        case rest =>
          obtain ⟨rfl, HBc⟩ := hcut
          have hpw : ∀ w, Calls Tryd.prog 100 #[.int .i64 (hh : Int)] w fun e w' => e = .returned (.int .u64 ((2 ^ hh : Nat) : Int)) ∧ Drawn0 w w' := power_calls hh (by omega)
          have hp := p2_pos hh
          obtain ⟨qq, hqq⟩ : ∃ q, q = c / 2 ^ hh := ⟨_, rfl⟩
          obtain ⟨pp, hpp⟩ : ∃ p, p = 2 ^ hh := ⟨_, rfl⟩
          obtain ⟨c2, hc2⟩ : ∃ z, z = c + pp := ⟨_, rfl⟩
          have hst := HST.out
          have hk := HK.out
          rw [← hqq] at hst
          rw [← hpp] at hst hk hpw hp hqq
          rw [← hc2] at hst hk
          have hq2 : (c : Int) / (pp : Int) = (qq : Int) := by rw [hqq]; push_cast; rfl
          have hadd : IntKind.u64.wrap ((c : Int) + (pp : Int)) = (c2 : Int) := by rw [IntKind.wrap_u64]; omega
          have hqc : qq ≤ c := by rw [hqq]; exact Nat.div_le_self _ _
          have hwq : IntKind.u64.wrap (qq : Int) = (qq : Int) := w64_nat qq (Nat.lt_of_le_of_lt hqc hc)
          have hu8 : IntKind.u8.wrap (hh : Int) = (hh : Int) := by rw [IntKind.wrap_u8]; omega
          have HPW := Aside0.mk hpw
          have HST2 := Aside0.mk hst
          have HK2 := Aside0.mk hk
          have HC2 := Aside0.mk hc2
          have HR2 := Aside0.mk (Kd.R_below HS.out HBc.out)
          have HB2 := Aside0.mk (blt HB.out HBc.out)
          clear hpw hst hk hc2 hqq hpp HST HK HGO HSP HDD hsub
          go_wp2_with fail
          refine (HPW.out _).mono ?_
          rintro e w4 ⟨rfl, hd4⟩
          have HR4 := Aside0.mk (Kd.R_below HR2.out hd4.below)
          have HB4 := Aside0.mk (blt HB2.out hd4.below)
          have hbase : w.heap.size ≤ w4.heap.size := HB4.out.size
          clear hd4 HS HR2 HB2
          go_wp2_with ((with_reducible refine gate_builtin (b := .append) (xs := #[.tmp 39, .tmp 47]) rfl ?_); at_builtin; go_loud (refine app_oneN kS w.heap.size rfl (.tmp 39) (.tmp 47) 70 74 (.agg #[.int .u8 0, .int .u64 0]) 16 rfl Tryd.underlying70 infoS rfl (by decide) (by decide) (.slice As ms cs) P (hh, qq) (spCells (hh, qq)) rfl rfl rfl HR4.out hbase (by omega) ?_; intro A9 n9 c9 w9 hr9 hf9 ha9; have HR9 := Aside0.mk hr9; have HF9 := Aside0.mk hf9; have HA9 := Aside0.mk ha9; clear hr9 hf9 ha9))
          refine (HPW.out _).mono ?_
          rintro e w6 ⟨rfl, hd6⟩
          have HR6 := Aside0.mk (Kd.R_below HR9.out hd6.below)
          have HB6 := Aside0.mk (blt (HB4.out.trans (HF9.out.below hbase (fun k hk => Kd.R_base HR4.out k hk.symm))) hd6.below)
          clear hd6
          go_wp2_with fail
          go_roundw
          case rel => exact ⟨c2, P ++ [(hh, qq)], by have := HK2.out; omega, by go_num, ⟨by rw [List.append_assoc, List.singleton_append, ← HST2.out]; exact HP.out⟩, HR6, HB6⟩
          case measure => have := HC2.out; have := HK2.out; simp [intOf]; omega
      · have hcb : b ≤ c := by omega
        have hPf := HP.out
        rw [span_stop hcb, List.append_nil] at hPf
        have HPf := Aside0.mk hPf
        clear hPf hcb
        obtain ⟨As, ms, cs, e9⟩ : ∃ A m c, u5 = .slice A m c := by obtain ⟨A, c, h⟩ := Kd.R_slice HS.out; exact ⟨A, _, c, h⟩
        subst e9
        go_wp2_with fail
        go_ret
        exact ⟨_, rfl, HPf.out ▸ HS.out, HB.out⟩
  · have hge : (a : Int) ≥ (b : Int) := by omega
    go_enter Tryd.func61, Tryd.ntmps61
    go_wp2_with fail
    go_ret
    exact ⟨_, rfl, by rw [span_stop (by omega)]; exact Kd.R_nil _ _ _ _ _, Below.refl _ _⟩
end Go.Proofs.YtefnonlhepekdaaDoor.M

set_option linter.unusedVariables false
set_option linter.unusedSimpArgs false
namespace Go.Proofs.YtefnonlhepekdaaDoor.M
open Go.RowKit Go.Proofs.YtefnonlhepekdaaDoorW.PrintWords Go.Proofs.YtefnonlhepekdaaDoorW.PrintLast Go.Proofs.YtefnonlhepekdaaDoorW.PrintMore Go.Proofs.YtefnonlhepekdaaDoor.Leaf

theorem at_spot {w : World} {A : Option Addr} {n : Nat} {xs : List (Nat × Nat)} (h : kS.C w A n xs) (j : Nat) (hj : j < n) : ∃ ad : Addr, A = some ad ∧ w.cell? (ad.add (j * 2)) = some (.int .u8 ((xs.getD j (0, 0)).1 : Int)) ∧ w.cell? ⟨(ad.add (j * 2)).block, (ad.add (j * 2)).off + 1, none⟩ = some (.int .u64 ((xs.getD j (0, 0)).2 : Int)) := by
  obtain ⟨ad, c, e, _, hK, hc0⟩ := Kd.C_get h (0, 0) (j : Int) (by omega) (by omega)
  have hc : ∀ k u, c[k]? = some u → w.cell? (ad.add (j * 2 + k)) = some u := hc0
  have hK : c = spCells (xs.getD j (0, 0)) := hK
  subst hK
  exact ⟨ad, e, hc 0 _ rfl, by rw [← add_field _ _ 1 (by omega)]; exact hc 1 _ rfl⟩
theorem place_calls (h i : Nat) (w : World) (hi : (i + 1) * 2 ^ h ≤ 4611686018427387904) :
    Calls Tryd.prog 67 #[.agg #[.int .u8 h, .int .u64 i]] w fun e w' => e = .returned (.tuple #[.int .u64 ((placeN h i : Nat) : Int), .bool true]) ∧ Below w.heap.size w w' :=
  pos_Place.calls _ _ _ _ w (place_val h i hi)
theorem peaks_calls (n : Nat) (w : World) (hn : n ≤ 4611686018427387904) :
    Calls Tryd.prog 66 #[.int .u64 n] w fun e w' => ∃ v, e = .returned v ∧ Kd.R (Kd.int .u64) 30 w' w.heap.size (fun _ => True) v (placesOf (topsN n)) ∧ Below w.heap.size w w' := by
  obtain ⟨k, hk⟩ := (peaks_val n hn).rounds
  exact pos_Peaks.calls k n _ w hk
theorem pref_none (m n : Nat) (w : World) (h : 4611686018427387904 < n ∨ n < m) :
    Calls Tryd.prog 19 #[.int .u64 m, .int .u64 n] w fun e w' => e = .returned (.tuple #[.slice none 0 0, .int .i64 30]) ∧ Below w.heap.size w w' := by
  by_cases hn : 4611686018427387904 < n
  · have hd : ((n : Int) > 4611686018427387904) := by omega
    clear h
    go_enter Tryd.func19, Tryd.ntmps19
    go_wp2
    go_ret2
    exact ⟨rfl, Below.refl _ _⟩
  · have hd : ¬ ((n : Int) > 4611686018427387904) := by omega
    have hm : (m : Int) > (n : Int) := by omega
    clear h
    go_enter Tryd.func19, Tryd.ntmps19
    go_wp2
    go_ret2
    exact ⟨rfl, Below.refl _ _⟩
set_option maxHeartbeats 1000000 in
set_option maxRecDepth 100000 in
theorem pref_some (m n : Nat) (w : World) (hmn : m ≤ n) (hn : n ≤ 4611686018427387904) (hT : DB w) :
    Calls Tryd.prog 19 #[.int .u64 m, .int .u64 n] w fun e w' => ∃ v, e = .returned (.tuple #[v, .int .i64 0]) ∧ Kd.R (Kd.int .u64) 30 w' w.heap.size (fun _ => True) v (placesOf (prefN m n)) ∧ Below w.heap.size w w' := by
  have hd : ¬ ((n : Int) > 4611686018427387904) := by omega
  have hd2 : ¬ ((m : Int) > (n : Int)) := by omega
  have HT := Aside0.mk hT
  have HPK := Aside0.mk (fun W => peaks_calls m W (Nat.le_trans hmn hn))
  have HSP := Aside0.mk (fun W => span_calls m n W (by omega) hn)
  have hL1 : (placesOf (topsN m)).length ≤ 63 := by simp only [placesOf, List.length_map]; exact topsF_len 63 m
  have HL := Aside0.mk hL1
  have HS1 := Aside0.mk (span_len m n hn)
  have HF := Aside0.mk (fun s hs => Nat.le_trans (span_fit n hn (n - m) m (Nat.le_refl _) s hs).1 hn)
  have HN := Aside0.mk (show placesOf (prefN m n) = placesOf (topsN m) ++ placesOf (spanN m n) by unfold prefN placesOf; rw [List.map_append])
  clear hT hmn hn hL1
  generalize spanN m n = L at *
  generalize placesOf (topsN m) = P0 at *
  go_enter Tryd.func19, Tryd.ntmps19
  go_wp2_with fail
  refine (HPK.out _).mono ?_
  rintro e w1 ⟨v1, rfl, hr1, hb1⟩
  have HR1 := Aside0.mk hr1
  have HB1 := Aside0.mk hb1
  clear hr1 hb1
  obtain ⟨A1, n1, c1, e9⟩ : ∃ A m c, v1 = .slice A m c := by obtain ⟨A, c, h⟩ := Kd.R_slice HR1.out; exact ⟨A, _, c, h⟩
  subst e9
  go_wp2_with fail
  refine (HSP.out _ (HT.out.below HB1.out)).mono ?_
  rintro e w2 ⟨v2, rfl, hr2, hb2⟩
  obtain ⟨A2, c2, e2⟩ := Kd.R_slice hr2
  subst e2
  have hbA := HB1.out.size
  have HC2 := Aside0.mk (Kd.R_lower hr2 hbA)
  have HR2 := Aside0.mk (Kd.R_below HR1.out hb2)
  have HB2 := Aside0.mk (blt HB1.out hb2)
  clear hr2 hb2 HR1 HSP HPK HT HB1 hbA
  go_wp2_with fail
  go_loopw [6, 24] (fun s q wr => ∃ j : Nat, j ≤ L.length ∧ q = .int .i64 j ∧ Aside0 (Kd.R (Kd.int .u64) 30 wr w.heap.size (fun _ => True) s (P0 ++ placesOf (L.take j))) ∧ Aside0 (kS.R 74 wr w.heap.size (fun _ => True) (.slice A2 L.length c2) L) ∧ Aside0 (Below w.heap.size w wr)) (fun _ q _ => L.length - (intOf q).toNat)
  case atStart => exact ⟨0, Nat.zero_le _, rfl, ⟨by rw [List.take_zero, show placesOf [] = [] from rfl, List.append_nil]; exact HR2.out⟩, HC2, HB2⟩
  case round =>
    obtain ⟨j, hj, rfl, HS, HC, HB⟩ := hrel
    have hL127 := HS1.out
    clear HC2 HB2 HR2
    obtain ⟨As, ms, cs, e9⟩ : ∃ A m c, u6 = .slice A m c := by obtain ⟨A, c, h⟩ := Kd.R_slice HS.out; exact ⟨A, _, c, h⟩
    subst e9
    by_cases hlt : j < L.length
    · obtain ⟨ad, ea, hx, hy⟩ := at_spot (R_C HC.out) j hlt
      subst ea
      have hfit := HF.out (L[j]) (List.getElem_mem hlt)
      have hcat : placesOf (L.take (j + 1)) = placesOf (L.take j) ++ [((placeN (L[j]).1 (L[j]).2 : Nat) : Int)] := by
        unfold placesOf
        rw [List.take_add_one, List.getElem?_eq_getElem hlt, List.map_append]
        rfl
      rw [List.getD_eq_getElem?_getD, List.getElem?_eq_getElem hlt] at hx hy
      simp only [Option.getD_some] at hx hy
      obtain ⟨sp, hsp⟩ : ∃ s, s = L[j] := ⟨_, rfl⟩
      rw [← hsp] at hfit hcat hx hy
      clear hsp
      obtain ⟨hh, ii⟩ := sp
      simp only at hfit hcat hx hy
      have HPL := Aside0.mk (fun W => place_calls hh ii W hfit)
      have HCat := Aside0.mk hcat
      have hlen : (placesOf (L.take j)).length ≤ 127 := by
        have := HS1.out
        simp only [placesOf, List.length_map, List.length_take]
        omega
      have hl0 := HL.out
      clear hfit hcat
      generalize placeN hh ii = pl at *
      obtain ⟨P1, hP1⟩ : ∃ P, P = P0 ++ placesOf (L.take j) := ⟨_, rfl⟩
      have hP1l : P1.length ≤ 190 := by rw [hP1, List.length_append]; omega
      rw [← hP1] at HS
      have HP1 := Aside0.mk hP1
      clear hP1 hlen hl0
      go_wp2_with fail
      refine (HPL.out _).mono ?_
      rintro e w4 ⟨rfl, hb4⟩
      have HB4 := Aside0.mk ((bl_new wr _).trans (hb4.mono (by simp)))
      have HR4 := Aside0.mk (Kd.R_below HS.out HB4.out)
      have HBW := Aside0.mk (blt HB.out HB4.out)
      have HC4 := Aside0.mk (Kd.R_below HC.out HB4.out)
      have HAP := Aside0.mk (show ∀ k, (Value.slice As ms cs).ownBlock = some k → (Value.slice (some ad) L.length c2).ownBlock = some k → False from fun k h1 h2 => own_types HR4.out HC4.out (by decide) h1 h2)
      have hbase : w.heap.size ≤ w4.heap.size := HBW.out.size
      clear hb4 HS HC
      go_wp2_with ((with_reducible refine gate_builtin (b := .append) (xs := #[.tmp 33, .tmp 35]) rfl ?_); at_builtin; go_loud (refine app_oneN (Kd.int .u64) w.heap.size rfl (.tmp 33) (.tmp 35) 31 30 (.int .u64 0) 8 rfl Tryd.underlying31 info30 rfl (by decide) (by omega) (.slice As ms cs) P1 (pl : Int) [.int .u64 (pl : Int)] rfl rfl rfl HR4.out hbase (by omega) ?_; intro A9 n9 c9 w9 hr9 hf9 ha9; have HR9 := Aside0.mk hr9; have HF9 := Aside0.mk hf9; have HA9 := Aside0.mk ha9; clear hr9 hf9 ha9))
      go_roundw
      case rel => exact ⟨j + 1, by omega, by go_num, ⟨by rw [HCat.out, ← List.append_assoc, ← HP1.out]; exact HR9.out⟩, ⟨R_frm flat_kS HC4.out HF9.out (fun k hk hs => HAP.out k hs.symm hk)⟩, ⟨HBW.out.trans (HF9.out.below hbase (fun k hk => Kd.R_base HR4.out k hk.symm))⟩⟩
      case measure => simp [intOf]; omega
    · have hjl : j = L.length := by omega
      subst hjl
      have hS := HS.out
      rw [List.take_length, ← HN.out] at hS
      have HS2 := Aside0.mk hS
      clear hS HS
      go_wp2_with fail
      go_ret2
      exact ⟨_, rfl, HS2.out, HB.out⟩
end Go.Proofs.YtefnonlhepekdaaDoor.M

set_option linter.unusedVariables false
set_option linter.unusedSimpArgs false
namespace Go.Proofs.YtefnonlhepekdaaDoor.M
open Go.RowKit Go.Proofs.YtefnonlhepekdaaDoorW.PrintWords Go.Proofs.YtefnonlhepekdaaDoorW.PrintLast Go.Proofs.YtefnonlhepekdaaDoorW.PrintMore Go.Proofs.YtefnonlhepekdaaDoor.Leaf

theorem place3_calls (h i : Nat) (w : World) (hi : (i + 1) * 2 ^ h ≤ 4611686018427387904) :
    Calls Tryd.prog 62 #[.agg #[.int .u8 h, .int .u64 i]] w fun e w' => e = .returned (.tuple #[.int .u64 ((placeN h i : Nat) : Int), .bool true]) ∧ Below w.heap.size w w' := by
  obtain ⟨k, hk⟩ := (place3_val h i hi).rounds
  exact massifref3_Place.calls k _ _ _ _ w hk
theorem peaks3_calls (n : Nat) (w : World) (hn : n ≤ 4611686018427387904) :
    Calls Tryd.prog 60 #[.int .u64 n] w fun e w' => ∃ v, e = .returned v ∧ Kd.R (Kd.int .u64) 30 w' w.heap.size (fun _ => True) v (placesOf (topsN n)) ∧ Below w.heap.size w w' := by
  obtain ⟨k, hk⟩ := (peaks3_val n hn).rounds
  exact massifref3_Peaks.calls k n _ w hk
theorem pref7_none (m n : Nat) (w : World) (h : 4611686018427387904 < n ∨ n < m) :
    Calls Tryd.prog 17 #[.int .u64 m, .int .u64 n] w fun e w' => e = .returned (.tuple #[.slice none 0 0, .int .i64 30]) ∧ Below w.heap.size w w' := by
  by_cases hn : 4611686018427387904 < n
  · have hd : ((n : Int) > 4611686018427387904) := by omega
    clear h
    go_enter Tryd.func17, Tryd.ntmps17
    go_wp2
    go_ret2
    exact ⟨rfl, Below.refl _ _⟩
  · have hd : ¬ ((n : Int) > 4611686018427387904) := by omega
    have hm : (m : Int) > (n : Int) := by omega
    clear h
    go_enter Tryd.func17, Tryd.ntmps17
    go_wp2
    go_ret2
    exact ⟨rfl, Below.refl _ _⟩
set_option maxHeartbeats 1000000 in
set_option maxRecDepth 100000 in
theorem pref7_some (m n : Nat) (w : World) (hmn : m ≤ n) (hn : n ≤ 4611686018427387904) :
    Calls Tryd.prog 17 #[.int .u64 m, .int .u64 n] w fun e w' => ∃ v, e = .returned (.tuple #[v, .int .i64 0]) ∧ Kd.R (Kd.int .u64) 30 w' w.heap.size (fun _ => True) v (placesOf (prefN m n)) ∧ Below w.heap.size w w' := by
  have hd : ¬ ((n : Int) > 4611686018427387904) := by omega
  have hd2 : ¬ ((m : Int) > (n : Int)) := by omega
  have HPK := Aside0.mk (fun W => peaks3_calls m W (Nat.le_trans hmn hn))
  have HSP := Aside0.mk (fun W => span4_calls m n W (by omega) hn)
  have hL1 : (placesOf (topsN m)).length ≤ 63 := by simp only [placesOf, List.length_map]; exact topsF_len 63 m
  have HL := Aside0.mk hL1
  have HS1 := Aside0.mk (span_len m n hn)
  have HF := Aside0.mk (fun s hs => Nat.le_trans (span_fit n hn (n - m) m (Nat.le_refl _) s hs).1 hn)
  have HN := Aside0.mk (show placesOf (prefN m n) = placesOf (topsN m) ++ placesOf (spanN m n) by unfold prefN placesOf; rw [List.map_append])
  clear hmn hn hL1
  generalize spanN m n = L at *
  generalize placesOf (topsN m) = P0 at *
  go_enter Tryd.func17, Tryd.ntmps17
  go_wp2_with fail
  refine (HPK.out _).mono ?_
  rintro e w1 ⟨v1, rfl, hr1, hb1⟩
  have HR1 := Aside0.mk hr1
  have HB1 := Aside0.mk hb1
  clear hr1 hb1
  obtain ⟨A1, n1, c1, e9⟩ : ∃ A m c, v1 = .slice A m c := by obtain ⟨A, c, h⟩ := Kd.R_slice HR1.out; exact ⟨A, _, c, h⟩
  subst e9
  go_wp2_with fail
  refine (HSP.out _).mono ?_
  rintro e w2 ⟨v2, rfl, hr2, hb2⟩
  obtain ⟨A2, c2, e2⟩ := Kd.R_slice hr2
  subst e2
  have hbA := HB1.out.size
  have HC2 := Aside0.mk (Kd.R_lower hr2 hbA)
  have HR2 := Aside0.mk (Kd.R_below HR1.out hb2)
  have HB2 := Aside0.mk (blt HB1.out hb2)
  clear hr2 hb2 HR1 HSP HPK HB1 hbA
  go_wp2_with fail
  go_loopw [6, 8] (fun s q wr => ∃ j : Nat, j ≤ L.length ∧ q = .int .i64 j ∧ Aside0 (Kd.R (Kd.int .u64) 30 wr w.heap.size (fun _ => True) s (P0 ++ placesOf (L.take j))) ∧ Aside0 (kS.R 74 wr w.heap.size (fun _ => True) (.slice A2 L.length c2) L) ∧ Aside0 (Below w.heap.size w wr)) (fun _ q _ => L.length - (intOf q).toNat)
  case atStart => exact ⟨0, Nat.zero_le _, rfl, ⟨by rw [List.take_zero, show placesOf [] = [] from rfl, List.append_nil]; exact HR2.out⟩, HC2, HB2⟩
  case round =>
    obtain ⟨j, hj, rfl, HS, HC, HB⟩ := hrel
    have hL127 := HS1.out
    clear HC2 HB2 HR2
    obtain ⟨As, ms, cs, e9⟩ : ∃ A m c, u6 = .slice A m c := by obtain ⟨A, c, h⟩ := Kd.R_slice HS.out; exact ⟨A, _, c, h⟩
    subst e9
    by_cases hlt : j < L.length
    · obtain ⟨ad, ea, hx, hy⟩ := at_spot (R_C HC.out) j hlt
      subst ea
      have hfit := HF.out (L[j]) (List.getElem_mem hlt)
      have hcat : placesOf (L.take (j + 1)) = placesOf (L.take j) ++ [((placeN (L[j]).1 (L[j]).2 : Nat) : Int)] := by
        unfold placesOf
        rw [List.take_add_one, List.getElem?_eq_getElem hlt, List.map_append]
        rfl
      rw [List.getD_eq_getElem?_getD, List.getElem?_eq_getElem hlt] at hx hy
      simp only [Option.getD_some] at hx hy
      obtain ⟨sp, hsp⟩ : ∃ s, s = L[j] := ⟨_, rfl⟩
      rw [← hsp] at hfit hcat hx hy
      clear hsp
      obtain ⟨hh, ii⟩ := sp
      simp only at hfit hcat hx hy
      have HPL := Aside0.mk (fun W => place3_calls hh ii W hfit)
      have HCat := Aside0.mk hcat
      have hlen : (placesOf (L.take j)).length ≤ 127 := by
        have := HS1.out
        simp only [placesOf, List.length_map, List.length_take]
        omega
      have hl0 := HL.out
      clear hfit hcat
      generalize placeN hh ii = pl at *
      obtain ⟨P1, hP1⟩ : ∃ P, P = P0 ++ placesOf (L.take j) := ⟨_, rfl⟩
      have hP1l : P1.length ≤ 190 := by rw [hP1, List.length_append]; omega
      rw [← hP1] at HS
      have HP1 := Aside0.mk hP1
      clear hP1 hlen hl0
      go_wp2_with fail
      refine (HPL.out _).mono ?_
      rintro e w4 ⟨rfl, hb4⟩
      have HB4 := Aside0.mk hb4
      have HR4 := Aside0.mk (Kd.R_below HS.out HB4.out)
      have HBW := Aside0.mk (blt HB.out HB4.out)
      have HC4 := Aside0.mk (Kd.R_below HC.out HB4.out)
      have HAP := Aside0.mk (show ∀ k, (Value.slice As ms cs).ownBlock = some k → (Value.slice (some ad) L.length c2).ownBlock = some k → False from fun k h1 h2 => own_types HR4.out HC4.out (by decide) h1 h2)
      have hbase : w.heap.size ≤ w4.heap.size := HBW.out.size
      clear hb4 HS HC
      go_wp2_with ((with_reducible refine gate_builtin (b := .append) (xs := #[.tmp 37, .tmp 39]) rfl ?_); at_builtin; go_loud (refine app_oneN (Kd.int .u64) w.heap.size rfl (.tmp 37) (.tmp 39) 31 30 (.int .u64 0) 8 rfl Tryd.underlying31 info30 rfl (by decide) (by omega) (.slice As ms cs) P1 (pl : Int) [.int .u64 (pl : Int)] rfl rfl rfl HR4.out hbase (by omega) ?_; intro A9 n9 c9 w9 hr9 hf9 ha9; have HR9 := Aside0.mk hr9; have HF9 := Aside0.mk hf9; have HA9 := Aside0.mk ha9; clear hr9 hf9 ha9))
      go_roundw
      case rel => exact ⟨j + 1, by omega, by go_num, ⟨by rw [HCat.out, ← List.append_assoc, ← HP1.out]; exact HR9.out⟩, ⟨R_frm flat_kS HC4.out HF9.out (fun k hk hs => HAP.out k hs.symm hk)⟩, ⟨HBW.out.trans (HF9.out.below hbase (fun k hk => Kd.R_base HR4.out k hk.symm))⟩⟩
      case measure => simp [intOf]; omega
    · have hjl : j = L.length := by omega
      subst hjl
      have hS := HS.out
      rw [List.take_length, ← HN.out] at hS
      have HS2 := Aside0.mk hS
      clear hS HS
      go_wp2_with fail
      go_ret2
      exact ⟨_, rfl, HS2.out, HB.out⟩
/-- Both answer alike. -/
theorem pref7_calls (m n : Nat) (w : World) :
    Calls Tryd.prog 17 #[.int .u64 m, .int .u64 n] w fun e w' => ∃ v, e = .returned (.tuple #[v, .int .i64 (prefAns m n).2]) ∧ Kd.R (Kd.int .u64) 30 w' w.heap.size (fun _ => True) v (prefAns m n).1 ∧ Below w.heap.size w w' := by
  by_cases h : 4611686018427387904 < n ∨ n < m
  · refine (pref7_none m n w h).mono ?_
    rintro e w' ⟨he, hb⟩
    have e1 : prefAns m n = ([], 30) := if_pos h
    rw [e1]
    exact ⟨_, he, Kd.R_nil _ _ _ _ _, hb⟩
  · have e1 : prefAns m n = (placesOf (prefN m n), 0) := if_neg h
    rw [e1]
    exact pref7_some m n w (by omega) (by omega)
theorem pref_calls (m n : Nat) (w : World) (hT : DB w) :
    Calls Tryd.prog 19 #[.int .u64 m, .int .u64 n] w fun e w' => ∃ v, e = .returned (.tuple #[v, .int .i64 (prefAns m n).2]) ∧ Kd.R (Kd.int .u64) 30 w' w.heap.size (fun _ => True) v (prefAns m n).1 ∧ Below w.heap.size w w' := by
  by_cases h : 4611686018427387904 < n ∨ n < m
  · refine (pref_none m n w h).mono ?_
    rintro e w' ⟨he, hb⟩
    have e1 : prefAns m n = ([], 30) := if_pos h
    rw [e1]
    exact ⟨_, he, Kd.R_nil _ _ _ _ _, hb⟩
  · have e1 : prefAns m n = (placesOf (prefN m n), 0) := if_neg h
    rw [e1]
    exact pref_some m n w (by omega) (by omega) hT
end Go.Proofs.YtefnonlhepekdaaDoor.M

set_option linter.unusedVariables false
set_option linter.unusedSimpArgs false
namespace Go.Proofs.YtefnonlhepekdaaDoor.M
open Go.RowKit Go.Proofs.YtefnonlhepekdaaDoorW.PrintWords Go.Proofs.YtefnonlhepekdaaDoorW.PrintLast Go.Proofs.YtefnonlhepekdaaDoorW.PrintMore Go.Proofs.YtefnonlhepekdaaDoor.Leaf

/-- What proof.EncodePrefix answers. -/
def xencAns (m n : Nat) (ns : List Hsh) : List Int × Int := if (prefAns m n).2 ≠ 0 then ([], (prefAns m n).2) else if (prefAns m n).1.length ≠ ns.length then ([], 70) else (writeB 80 m n ns, 0)
end Go.Proofs.YtefnonlhepekdaaDoor.M

set_option linter.unusedVariables false
set_option linter.unusedSimpArgs false
namespace Go.Proofs.YtefnonlhepekdaaDoor.M
open Go.RowKit Go.Proofs.YtefnonlhepekdaaDoorW.PrintWords Go.Proofs.YtefnonlhepekdaaDoorW.PrintLast Go.Proofs.YtefnonlhepekdaaDoorW.PrintMore Go.Proofs.YtefnonlhepekdaaDoor.Leaf

end Go.Proofs.YtefnonlhepekdaaDoor.M

set_option linter.unusedVariables false
set_option linter.unusedSimpArgs false
namespace Go.Proofs.YtefnonlhepekdaaDoor.M
open Go.RowKit Go.Proofs.YtefnonlhepekdaaDoorW.PrintWords Go.Proofs.YtefnonlhepekdaaDoorW.PrintLast Go.Proofs.YtefnonlhepekdaaDoorW.PrintMore Go.Proofs.YtefnonlhepekdaaDoor.Leaf

theorem wants_Encode (x y c : Nat) (V : Value) (w : World) :
    Calls Tryd.prog 68 #[.agg #[.int .u64 x, .int .u64 y, V]] w fun e w' => e = .returned (.tuple #[.int .i64 ((proofAns y x).1.length : Nat), .int .i64 (proofAns y x).2]) ∧ Below w.heap.size w w' := by
  have HP := Aside0.mk (fun W => places7_calls y x W)
  generalize proofAns y x = sa at *
  obtain ⟨L, er⟩ := sa
  go_enter Tryd.func68, Tryd.ntmps68
  go_wp2_with fail
  refine (HP.out _).mono ?_
  rintro e w1 ⟨v1, rfl, hr, hb⟩
  obtain ⟨A1, c1, e1⟩ := Kd.R_slice hr
  subst e1
  have HB := Aside0.mk (blt (bl_new w _) hb)
  clear hr hb
  go_wp2_with fail
  go_ret2
  exact ⟨rfl, HB.out⟩
end Go.Proofs.YtefnonlhepekdaaDoor.M

set_option linter.unusedVariables false
set_option linter.unusedSimpArgs false
namespace Go.Proofs.YtefnonlhepekdaaDoor.M
open Go.RowKit Go.Proofs.YtefnonlhepekdaaDoorW.PrintWords Go.Proofs.YtefnonlhepekdaaDoorW.PrintLast Go.Proofs.YtefnonlhepekdaaDoorW.PrintMore Go.Proofs.YtefnonlhepekdaaDoor.Leaf

theorem wants_EncodePrefix (x y c : Nat) (V : Value) (w : World) :
    Calls Tryd.prog 71 #[.agg #[.int .u64 x, .int .u64 y, V]] w fun e w' => e = .returned (.tuple #[.int .i64 ((prefAns x y).1.length : Nat), .int .i64 (prefAns x y).2]) ∧ Below w.heap.size w w' := by
  have HP := Aside0.mk (fun W => pref7_calls x y W)
  generalize prefAns x y = sa at *
  obtain ⟨L, er⟩ := sa
  go_enter Tryd.func71, Tryd.ntmps71
  go_wp2_with fail
  refine (HP.out _).mono ?_
  rintro e w1 ⟨v1, rfl, hr, hb⟩
  obtain ⟨A1, c1, e1⟩ := Kd.R_slice hr
  subst e1
  have HB := Aside0.mk (blt (bl_new w _) hb)
  clear hr hb
  go_wp2_with fail
  go_ret2
  exact ⟨rfl, HB.out⟩
end Go.Proofs.YtefnonlhepekdaaDoor.M

set_option linter.unusedVariables false
set_option linter.unusedSimpArgs false
namespace Go.Proofs.YtefnonlhepekdaaDoor.M
open Go.RowKit Go.Proofs.YtefnonlhepekdaaDoorW.PrintWords Go.Proofs.YtefnonlhepekdaaDoorW.PrintLast Go.Proofs.YtefnonlhepekdaaDoorW.PrintMore Go.Proofs.YtefnonlhepekdaaDoor.Leaf

theorem awake7_places : proofAns 1 7 = ([0, 5, 9, 10], 0) := by decide +kernel
theorem awake7_bytes : pencAns 0 1 [] = ([77, 1, 0], 0) := by decide +kernel

set_option maxHeartbeats 1000000 in
set_option maxRecDepth 100000 in
theorem awake7 (w : World) : Calls Tryd.prog 23 #[] w fun e w' => e = .returned (.bool true) ∧ Below w.heap.size w w' := by
  have hp := proof_places 1 7
  rw [awake7_places] at hp
  have HP := Aside0.mk hp
  clear hp
  go_enter Tryd.func23, Tryd.ntmps23
  go_wp2_with fail
  refine (HP.out _).mono ?_
  rintro e w1 ⟨v1, rfl, hr, hb⟩
  obtain ⟨A1, c1, e1, _, hC⟩ := Kd.R_reads hr
  obtain ⟨ad, ea, _⟩ := Kd.at_int hC 0 (by omega) (by simp)
  subst ea
  rw [e1]
  have HC := Aside0.mk hC
  have HB := Aside0.mk hb
  clear hr hb hC e1
  have he := proof_encode 0 1 0 [] none w1 (by omega) (by omega) ⟨rfl, by simp, fun h => absurd h (by simp)⟩
  rw [awake7_bytes] at he
  have HEn := Aside0.mk he
  clear he
  go_wp2_with fail
  refine HEn.out.mono ?_
  rintro e w2 ⟨v2, rfl, hr2, hb2⟩
  have hb3 : Below w1.heap.size w1 w2 := hb2
  obtain ⟨A2, c2, e2, _, hC2⟩ := Kd.R_reads hr2
  obtain ⟨ad2, ea2, k5⟩ := Kd.at_int hC2 0 (by omega) (by simp)
  subst ea2
  rw [e2]
  have at1 : ∀ i : Nat, i < 4 → w2.cell? (ad.add i) = some (.int .u64 (rd [0, 5, 9, 10] i)) := fun i hi => by
    obtain ⟨ad', ea', hx⟩ := Kd.at_int (Kd.C_below HC.out hb3) (i : Int) (by omega) (by simp; omega)
    injection ea' with ea'
    subst ea'
    exact hx
  have at2 : ∀ i : Nat, i < 3 → w2.cell? (ad2.add i) = some (.int .u8 (rd [77, 1, 0] i)) := fun i hi => by
    obtain ⟨ad', ea', hx⟩ := Kd.at_int hC2 (i : Int) (by omega) (by simp; omega)
    injection ea' with ea'
    subst ea'
    exact hx
  have a0 : w2.cell? (ad.add 0) = some (.int .u64 0) := at1 0 (by omega)
  have a1 : w2.cell? ⟨ad.block, ad.off + 1, none⟩ = some (.int .u64 5) := at1 1 (by omega)
  have a2 : w2.cell? ⟨ad.block, ad.off + 2, none⟩ = some (.int .u64 9) := at1 2 (by omega)
  have b0 : w2.cell? (ad2.add 0) = some (.int .u8 77) := at2 0 (by omega)
  have b1 : w2.cell? ⟨ad2.block, ad2.off + 1, none⟩ = some (.int .u8 1) := at2 1 (by omega)
  have a0' : w2.cell? ad = some (.int .u64 0) := by have := a0; rwa [show ad.add 0 = ad by simp [Addr.add]] at this
  have b0' : w2.cell? ad2 = some (.int .u8 77) := by have := b0; rwa [show ad2.add 0 = ad2 by simp [Addr.add]] at this
  have HB3 := Aside0.mk hb3
  clear hr2 hb2 hb3 hC2 e2 at1 at2 HC HEn
  go_wp2
  go_ret
  exact ⟨rfl, HB.out.trans (HB3.out.mono HB.out.size)⟩
end Go.Proofs.YtefnonlhepekdaaDoor.M

set_option linter.unusedVariables false
set_option linter.unusedSimpArgs false
namespace Go.Proofs.YtefnonlhepekdaaDoor.M
open Go.RowKit Go.Proofs.YtefnonlhepekdaaDoorW.PrintWords Go.Proofs.YtefnonlhepekdaaDoorW.PrintLast Go.Proofs.YtefnonlhepekdaaDoorW.PrintMore Go.Proofs.YtefnonlhepekdaaDoor.Leaf

/-- A row of numbers of the call's own, whose block is one of S. -/
def RwS {α : Type} (d : Kd α) (e : Nat) (w0 w : World) (S : Nat → Prop) (v : Value) (L : List α) : Prop :=
  d.R e w w0.heap.size (fun _ => True) v L ∧ ∀ k, v.ownBlock = some k → S k
theorem RwS.below {α : Type} {d : Kd α} {e : Nat} {w0 w w1 : World} {S : Nat → Prop} {v : Value} {L : List α} (h : RwS d e w0 w S v L) (hb : Below w.heap.size w w1) : RwS d e w0 w1 S v L := ⟨Kd.R_below h.1 hb, h.2⟩
theorem RwS.frm {α : Type} {d : Kd α} (hd : Flat d) {e : Nat} {w0 w w1 : World} {S T : Nat → Prop} {v : Value} {L : List α} (h : RwS d e w0 w S v L) (hf : Frm T w w1) (hs : ∀ k, S k → ¬ T k) : RwS d e w0 w1 S v L := ⟨R_frm hd h.1 hf (fun k hk => hs k (h.2 k hk)), h.2⟩
theorem RwS.mono {α : Type} {d : Kd α} {e : Nat} {w0 w : World} {S T : Nat → Prop} {v : Value} {L : List α} (h : RwS d e w0 w S v L) (hs : ∀ k, S k → T k) : RwS d e w0 w T v L := ⟨h.1, fun k hk => hs k (h.2 k hk)⟩
/-- What a call has made lies between the heap's ends. -/
theorem RwS.new {α : Type} {d : Kd α} {e : Nat} {w0 w w1 : World} {v : Value} {L : List α} (h : d.R e w1 w.heap.size (fun _ => True) v L) (hs : w0.heap.size ≤ w.heap.size) : RwS d e w0 w1 (fun k => w.heap.size ≤ k ∧ k < w1.heap.size) v L :=
  ⟨Kd.R_lower h hs, fun k hk => ⟨Kd.R_base h k hk, Kd.R_lt h k hk⟩⟩
theorem RwS.rd {k : IntKind} {e : Nat} {w0 w : World} {S : Nat → Prop} {v : Value} {L : List Int} (h : RwS (Kd.int k) e w0 w S v L) : Rd k w v L := Rd.of_R h.1

end Go.Proofs.YtefnonlhepekdaaDoor.M

set_option linter.unusedVariables false
set_option linter.unusedSimpArgs false
namespace Go.Proofs.YtefnonlhepekdaaDoor.M
open Go.RowKit Go.Proofs.YtefnonlhepekdaaDoorW.PrintWords Go.Proofs.YtefnonlhepekdaaDoorW.PrintLast Go.Proofs.YtefnonlhepekdaaDoorW.PrintMore Go.Proofs.YtefnonlhepekdaaDoor.Leaf

set_option maxHeartbeats 1000000 in
set_option maxRecDepth 100000 in
/-- The same bytes in a list of their own that goes on behind them. -/
theorem text_calls (l : List Int) (A : Option Addr) (c : Nat) (w : World) (hl : l.length ≤ 1000000) (hC : Kd.C (Kd.int .u8) w A l.length l) :
    Calls Tryd.prog 44 #[.slice A l.length c] w fun e w' => ∃ A' c', e = .returned (.slice A' l.length c') ∧ Kd.R (Kd.int .u8) 5 w' w.heap.size (fun _ => True) (.slice A' (l.length + 1) c') (l ++ [171]) ∧ Below w.heap.size w w' := by
  have HC := Aside0.mk hC
  clear hC
  go_enter Tryd.func44, Tryd.ntmps44
  have HE := Aside0.mk (R_emptyK (Kd.int .u8) (e := 5) (base := w.heap.size) rfl (heap_new w (.cells #[] 5)) (Nat.le_refl _))
  go_wp2_with (first | ((with_reducible refine gate_builtin (b := .append) (xs := #[.tmp 3, .tmp 4]) rfl ?_); at_builtin; go_loud (refine app_row .u8 w.heap.size rfl (.tmp 3) (.tmp 4) 22 5 (.int .u8 0) 1 rfl Tryd.underlying22 info5 rfl (by omega) (.slice (some ⟨w.heap.size, 0, none⟩) 0 0) [] l A l.length c rfl rfl HE.out (Kd.C_below HC.out (bl_new w _)) (by simp) (by simp; omega) ?_; intro A2 c2 w2 hr2 hf2 hat2; simp only [List.length_nil, Nat.zero_add, List.nil_append] at hr2 ⊢; have HR2 := Aside0.mk hr2; have hb2 := Aside0.mk ((bl_new w _).trans (hf2.below (by simp) (fun k hk => Kd.R_base HE.out k hk.symm))); clear hr2 hf2 hat2)) | ((with_reducible refine gate_builtin (b := .append) (xs := #[.tmp 5, .tmp 6]) rfl ?_); at_builtin; go_loud (refine app_one (Kd.int .u8) w.heap.size rfl (.tmp 5) (.tmp 6) 22 5 (.int .u8 0) 1 rfl Tryd.underlying22 info5 rfl (by decide) (by omega) _ l 171 [.int .u8 171] rfl rfl rfl HR2.out hb2.out.size (by omega) ?_; intro A3 c3 w3 hr3 hf3 hat3; have hle := (Kd.R_reads' hr3).2.1; have hle2 : l.length ≤ c3 := Nat.le_trans (Nat.le_succ _) hle; have HR3 := Aside0.mk hr3; have hb3 := Aside0.mk (hb2.out.trans (hf3.below hb2.out.size (fun k hk => Kd.R_base HR2.out k hk.symm))); clear hr3 hf3 hat3)))
  go_ret
  exact ⟨A3, c3, rfl, HR3.out, hb3.out⟩
theorem Hd.of_R {e base : Nat} {w : World} {v : Value} {xs : List Hsh} (h : kH.R e w base (fun _ => True) v xs) : Hd w v xs := by
  obtain ⟨A, c, e1, hl, hc⟩ := Kd.R_reads h
  exact ⟨A, c, e1, hc⟩
set_option maxHeartbeats 2000000 in
set_option maxRecDepth 100000 in
theorem sameH_true (xs : List Hsh) (A B : Option Addr) (c d : Nat) (w : World) (hl : xs.length ≤ 1000000000) (hA : kH.C w A xs.length xs) (hB : kH.C w B xs.length xs) :
    Calls Tryd.prog 30 #[.slice A xs.length c, .slice B xs.length d] w fun e w' => e = .returned (.bool true) ∧ Below w.heap.size w w' := by
  have HA := Aside0.mk hA
  have HB := Aside0.mk hB
  clear hA hB
  go_enter Tryd.func30, Tryd.ntmps30
  go_wp2_with fail
  go_loopw [5] (fun k wr => ∃ j : Nat, j ≤ xs.length ∧ k = .int .i64 j ∧ Aside0 (Below w.heap.size w wr)) (fun k _ => xs.length - (intOf k).toNat)
  case atStart => exact ⟨0, Nat.zero_le _, rfl, ⟨Below.refl _ _⟩⟩
  case round =>
    obtain ⟨j, hj, rfl, HW⟩ := hrel
    by_cases hlt : j < xs.length
    · obtain ⟨ad, ea, hh⟩ := C_hash (Kd.C_below HA.out HW.out) j hlt
      obtain ⟨bd, eb, hg⟩ := C_hash (Kd.C_below HB.out HW.out) j hlt
      subst ea eb
      generalize xs[j] = h at *
      have HH := Aside0.mk hh
      have HG := Aside0.mk hg
      clear hh hg
      go_wp2_with fail
      refine wp_region_quiet_lit (by kernel_rfl) (by kernel_rfl) ?_
      go_big_quiet_step (fail)
      go_big_quiet_step (fail)
      go_big_quiet_step (fail)
      refine quiet_hash rfl (.tmp 19) rfl rfl h HH.out ?_
      simp only [Act.put, List.setIfInBounds_toArray, List.set_cons_zero, List.set_cons_succ]
      go_big_quiet_step (fail)
      go_big_quiet_step (fail)
      go_big_quiet_step (fail)
      refine quiet_hash rfl (.tmp 23) rfl rfl h HG.out ?_
      refine quiet_neq rfl (.tmp 20) (.tmp 24) _ rfl h h rfl rfl ?_
      rw [decide_eq_true rfl]
      refine wpQuiet_nil ?_
      intro _ hw'
      obtain ⟨nq, hw''⟩ := hw'
      subst hw''
      go_wp2_with fail
      go_roundw
      case rel => exact ⟨j + 1, by omega, by go_num, ⟨pw_below_drewN HW.out _⟩⟩
      case measure => simp [intOf]; omega
    · have hjl : j = xs.length := by omega
      subst hjl
      go_wp2_with fail
      go_ret
      exact ⟨rfl, HW.out⟩
theorem sameB_loop (xs ys : List Int) (hl : xs.length = ys.length) (hb : xs.length < 9223372036854775807) : ∀ (d i : Nat), i + d = xs.length → Ev (fun k => massifref2_SameBytes.l0 k xs ys (i : Int)) (decide (xs.drop i = ys.drop i))
  | 0, i, hi => by
    rw [List.drop_of_length_le (by omega), List.drop_of_length_le (by omega)]
    exact Ev.step (f := fun _ => some (decide (([] : List Int) = []))) (fun k => by simp only [massifref2_SameBytes.l0]; rw [if_neg (by omega)]; rfl) (Ev.now _)
  | d + 1, i, hi => by
    have h1 : i < xs.length := by omega
    have h2 : i < ys.length := by omega
    have ih := sameB_loop xs ys hl hb d (i + 1) (by omega)
    have e1 : wrap64 ((i : Int) + 1) = ((i + 1 : Nat) : Int) := by rw [i64_of _ (by omega) (by omega)]; omega
    have r1 : rd xs (i : Int) = xs[i] := by simp [rd, List.getD_eq_getElem?_getD, List.getElem?_eq_getElem h1]
    have r2 : rd ys (i : Int) = ys[i] := by simp [rd, List.getD_eq_getElem?_getD, List.getElem?_eq_getElem h2]
    rw [List.drop_eq_getElem_cons h1, List.drop_eq_getElem_cons h2]
    refine Ev.step (fun k => by simp only [massifref2_SameBytes.l0]; rw [if_pos (by omega), if_pos (by omega), if_pos (by omega), r1, r2, e1]) ?_
    by_cases c : xs[i] = ys[i]
    · refine Ev.congr (fun k => if_pos c) ?_
      rw [show decide (xs[i] :: xs.drop (i + 1) = ys[i] :: ys.drop (i + 1)) = decide (xs.drop (i + 1) = ys.drop (i + 1)) by apply decide_eq_decide.2; rw [List.cons.injEq]; exact ⟨fun h => h.2, fun h => ⟨c, h⟩⟩]
      exact ih
    · refine Ev.congr (fun k => if_neg c) ?_
      rw [decide_eq_false (fun h => c (List.cons.inj h).1)]
      exact Ev.now _
theorem sameB_val (xs ys : List Int) (hb : xs.length < 9223372036854775807) : Ev (fun k => massifref2_SameBytes.f k xs ys) (decide (xs = ys)) := by
  unfold massifref2_SameBytes.f
  by_cases c : xs.length = ys.length
  · exact Ev.congr (fun k => if_pos (by omega)) (sameB_loop xs ys c hb _ 0 (Nat.zero_add _))
  · refine Ev.congr (fun k => if_neg (by omega)) ?_
    rw [decide_eq_false (fun e => c (by rw [e]))]
    exact Ev.now _
theorem bytes7_true {A0 A1 : Option Addr} {n0 n1 c0 c1 : Nat} {xs : List Int} {w : World} (h0 : Rd .u8 w (.slice A0 n0 c0) xs) (h1 : Rd .u8 w (.slice A1 n1 c1) xs) (hl : xs.length < 9223372036854775807) :
    Calls Tryd.prog 29 #[.slice A0 n0 c0, .slice A1 n1 c1] w fun e w' => e = .returned (.bool true) ∧ Drawn0 w w' := by
  obtain ⟨_, _, e0, hl0, hc0⟩ := h0
  obtain ⟨_, _, e1, hl1, hc1⟩ := h1
  injection e0 with a0 b0 d0
  injection e1 with a1 b1 d1
  subst a0 b0 d0 a1 b1 d1
  have hv : Ev (fun k => massiflaw7_bytes.f k xs xs) true := by
    unfold massiflaw7_bytes.f
    have := sameB_val xs xs hl
    rw [decide_eq_true rfl] at this
    exact Ev.bind this (Ev.now _)
  obtain ⟨k, hk⟩ := hv.rounds
  exact massiflaw7_bytes.calls k _ _ _ _ _ _ _ w hc0 hl0 hc1 hl1 hk
set_option maxHeartbeats 4000000 in
set_option maxRecDepth 100000 in
theorem still7_calls (bs : List Int) (A : Option Addr) (c : Nat) (w : World) (hl : bs.length ≤ 1000000) (hc : bs.length + 1 ≤ c) (hc2 : c ≤ 9223372036854775807) (hA : Kd.C (Kd.int .u8) w A (bs.length + 1) (bs ++ [171])) :
    Calls Tryd.prog 51 #[.slice A bs.length c] w fun e w' => e = .returned (.bool true) ∧ Below w.heap.size w w' := by
  obtain ⟨ad, ea, hx⟩ := Kd.at_int hA (bs.length : Int) (by omega) (by omega)
  rw [Int.toNat_natCast, show rd (bs ++ [171]) (bs.length : Int) = 171 by simp [rd]] at hx
  subst ea
  clear hA
  go_enter Tryd.func51, Tryd.ntmps51
  go_wp2_with fail
  go_ret
  exact ⟨rfl, Below.refl _ _⟩
end Go.Proofs.YtefnonlhepekdaaDoor.M
