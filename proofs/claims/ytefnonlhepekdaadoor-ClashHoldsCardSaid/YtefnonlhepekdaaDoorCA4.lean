/- massifref2.Blocks: the walk. massifref2.States, Sum of one part. A region that draws its order, by hand, under a word on the world that every operation keeps; bytes.Equal, SameBytes. -/
import Derived.Test.YtefnonlhepekdaaDoorCA2
import Derived.Test.YtefnonlhepekdaaDoorCA3
import Derived.Test.YtefnonlhepekdaaDoorCA1
import Derived.Lib.Bytes
set_option linter.unusedVariables false
set_option linter.unusedSimpArgs false
set_option linter.unusedVariables false
set_option linter.unusedSimpArgs false
namespace Go.Proofs.YtefnonlhepekdaaDoor.M
open Go.RowKit Go.Proofs.YtefnonlhepekdaaDoorW.PrintWords Go.Proofs.YtefnonlhepekdaaDoorW.PrintLast Go.Proofs.YtefnonlhepekdaaDoorW.PrintMore Go.Proofs.YtefnonlhepekdaaDoor.Leaf

def lenW : Value → Nat
  | .slice _ n _ => n
  | _ => 0
theorem padB_bytes (t : List Int) (h : Bytes t) : Bytes (padB t) := fun b hb => by
  rcases List.mem_append.1 hb with h1 | h1
  · exact h b h1
  · exact tailB_bytes _ b h1
set_option maxHeartbeats 40000000 in
set_option maxRecDepth 100000 in
theorem ref_blocks_calls (t : List Int) (hl : t.length ≤ 900000000) (hby : Bytes t) (A : Option Addr) (m c : Nat) (w : World) (hC : Kd.C (Kd.int .u8) w A m t) :
    Calls Tryd.prog 98 #[.slice A m c] w fun e w' => ∃ v, e = .returned v ∧ kB.R 154 w' w.heap.size (fun _ => True) v (blocksL (padB t) ((padB t).length / 64)) ∧ Below w.heap.size w w' := by
  have hm : t.length = m := Kd.C_len hC
  have hm9 : m ≤ 900000000 := by omega
  have HC := Aside0.mk hC
  have HM := Aside0.mk hm
  have HBy := Aside0.mk hby
  have hb0 := bl_new w (.cells #[] 5)
  have HB0 := Aside0.mk hb0
  have HR0 := Aside0.mk (R_emptyK (Kd.int .u8) (e := 5) rfl (heap_new w (.cells #[] 5)) (Nat.le_refl w.heap.size))
  have HC0 := Aside0.mk (Kd.C_below hC hb0)
  have hz1 := hb0.size
  have hzw : w.heap.size ≤ w.heap.size := Nat.le_refl _
  obtain ⟨N8, hN8⟩ : ∃ N8 : Nat, IntKind.u64.wrap (8 * (m : Int)) = (N8 : Int) ∧ N8 = 8 * m := ⟨8 * m, by rw [w64_of _ (by omega) (by omega)]; omega, rfl⟩
  have hn8 := hN8.1
  have HN8 := Aside0.mk hN8.2
  have hn8b : N8 ≤ 7200000000 := by omega
  have hm64 : IntKind.u64.wrap (m : Int) = (m : Int) := w64_of _ (by omega) (by omega)
  obtain ⟨J, hJ⟩ : ∃ J, J = (119 - m % 64) % 64 := ⟨_, rfl⟩
  have hJ64 : J < 64 := by omega
  have HJ := Aside0.mk hJ
  have hnil : ([] : List Int).length = 0 := rfl
  clear hC hm hb0 hN8 hJ hby
  go_enter Tryd.func98, Tryd.ntmps98
  go_wp2_with (first | ((with_reducible refine gate_builtin (b := .append) (xs := #[.tmp 11, .tmp 12]) rfl ?_); at_builtin; go_loud (refine app_rowN .u8 w.heap.size rfl (.tmp 11) (.tmp 12) 22 5 (.int .u8 0) 1 rfl Tryd.underlying22 info5 rfl (by omega) (.slice (some ⟨w.heap.size, 0, none⟩) 0 0) ([] : List Int) t A m c rfl rfl HR0.out HC0.out hz1 (by omega) ?_; intro A13 n13 c13 w13 hr13 hf13 ha13; (have hb13 := Aside0.mk (own_below HR0.out HB0.out hf13 hz1); rw [List.nil_append] at hr13; have hz13 := hb13.out.size); have HR13 := Aside0.mk hr13; have HF13 := Aside0.mk hf13; have HA13 := Aside0.mk ha13; clear hr13 hf13 ha13)) | ((with_reducible refine gate_builtin (b := .append) (xs := #[.tmp 14, .tmp 15]) rfl ?_); at_builtin; go_loud (refine app_oneN (Kd.int .u8) w.heap.size rfl (.tmp 14) (.tmp 15) 22 5 (.int .u8 0) 1 rfl Tryd.underlying22 info5 rfl (by decide) (by omega) (.slice A13 n13 c13) t 128 [.int .u8 128] rfl rfl rfl HR13.out hz13 (by omega) ?_; intro A16 n16 c16 w16 hr16 hf16 ha16; (have hb16 := Aside0.mk (own_below HR13.out hb13.out hf16 hz13)); have HR16 := Aside0.mk hr16; have HF16 := Aside0.mk hf16; have HA16 := Aside0.mk ha16; clear hr16 hf16 ha16)))
  have hq16 : m + 1 = n16 := by have := Kd.C_len (R_C HR16.out); rw [List.length_append, List.length_singleton] at this; have := HM.out; omega
  have HR := Aside0.mk (show (Kd.int .u8).R 5 w16 w.heap.size (fun _ => True) (.slice A16 n16 c16) (zerosB t 0) from HR16.out)
  have HQ := Aside0.mk (show n16 = m + 1 + 0 by omega)
  clear hq16 HR16 HF16 HA16 HR13 HF13 HA13 HC0 HR0 HB0 hz1 hz13 hb13 hnil
  go_loopw [3] (fun s wr => ∃ (j q : Nat) (A2 : Option Addr) (c2 : Nat), j ≤ J ∧ s = .slice A2 q c2 ∧ Aside0 (q = m + 1 + j) ∧ Aside0 ((Kd.int .u8).R 5 wr w.heap.size (fun _ => True) (.slice A2 q c2) (zerosB t j)) ∧ Aside0 (Below w.heap.size w wr)) (fun s _ => m + 1 + J - lenW s)
  case atStart => exact ⟨0, n16, A16, c16, Nat.zero_le _, rfl, HQ, HR, hb16⟩
  case round =>
    obtain ⟨j, q, A2, c2, hj, rfl, HQ2, HR2, HB2⟩ := hrel
    clear HR HQ hb16
    by_cases hlt : j < J
    · have d0 : (Int.tmod (q : Int) 64 == 56) = false := by
        rw [Int.tmod_eq_emod_of_nonneg (by omega), beq_eq_false_iff_ne]
        have h1 := HQ2.out
        have h2 := HJ.out
        omega
      have d1 : (Int.tmod (q : Int) 64 != 56) = true := by rw [bne, d0]; rfl
      have d2 : ¬ ((q : Int) % 64 = 56) := by
        have h1 := HQ2.out
        have h2 := HJ.out
        omega
      have hz2 := HB2.out.size
      obtain ⟨Z, hZ⟩ : ∃ Z, Z = zerosB t j := ⟨_, rfl⟩
      have hzl : Z.length ≤ 900000100 := by rw [hZ, zerosB_len]; omega
      have HZ := Aside0.mk hZ
      rw [← hZ] at HR2
      clear hZ
      go_wp2_with ((with_reducible refine gate_builtin (b := .append) (xs := #[.tmp 21, .tmp 22]) rfl ?_); at_builtin; go_loud (refine app_oneN (Kd.int .u8) w.heap.size rfl (.tmp 21) (.tmp 22) 22 5 (.int .u8 0) 1 rfl Tryd.underlying22 info5 rfl (by decide) (by omega) (.slice A2 q c2) Z 0 [.int .u8 0] rfl rfl rfl HR2.out hz2 (by omega) ?_; intro A23 n23 c23 w23 hr23 hf23 ha23; (have hb23 := Aside0.mk (own_below HR2.out HB2.out hf23 hz2); rw [HZ.out, zerosB_snoc] at hr23); have HR23 := Aside0.mk hr23; have HF23 := Aside0.mk hf23; have HA23 := Aside0.mk ha23; clear hr23 hf23 ha23))
      have hn23 : n23 = m + 1 + (j + 1) := by
        have h1 := Kd.C_len (R_C HR23.out)
        rw [zerosB_len] at h1
        have := HM.out
        omega
      have HN := Aside0.mk hn23
      clear hn23
      go_roundw
      case rel => exact ⟨j + 1, n23, A23, c23, by omega, rfl, HN, HR23, hb23⟩
      case measure =>
        show m + 1 + J - n23 < m + 1 + J - q
        have h1 := HN.out
        have h2 := HQ2.out
        omega
    · have hjJ : j = J := by omega
      have d0 : (Int.tmod (q : Int) 64 == 56) = true := by
        rw [Int.tmod_eq_emod_of_nonneg (by omega), beq_iff_eq]
        have h1 := HQ2.out
        have h2 := HJ.out
        omega
      have d1 : (Int.tmod (q : Int) 64 != 56) = false := by rw [bne, d0]; rfl
      have d2 : (q : Int) % 64 = 56 := by
        have h1 := HQ2.out
        have h2 := HJ.out
        omega
      obtain ⟨Z, hZ⟩ : ∃ Z, Z = zerosB t j := ⟨_, rfl⟩
      have hzl : Z.length ≤ 900000100 := by rw [hZ, zerosB_len]; omega
      have hpad : Z ++ big8 N8 = padB t := by
        have h1 := HM.out
        rw [hZ, hjJ, HJ.out, HN8.out, ← h1, zerosB_pad]
      have HP := Aside0.mk hpad
      rw [← hZ] at HR2
      rename World => w20
      have hbr := bl_new w20 (.cells ([.int .u8 0, .int .u8 0, .int .u8 0, .int .u8 0, .int .u8 0, .int .u8 0, .int .u8 0, .int .u8 0]).toArray 160)
      have D := Aside0.mk (show Blk (w20.alloc (.cells ([.int .u8 0, .int .u8 0, .int .u8 0, .int .u8 0, .int .u8 0, .int .u8 0, .int .u8 0, .int .u8 0]).toArray 160)) w20.heap.size 160 ((big8P N8 8).map (Value.int .u8)) from blk_newL w20 [.int .u8 0, .int .u8 0, .int .u8 0, .int .u8 0, .int .u8 0, .int .u8 0, .int .u8 0, .int .u8 0] 160 rfl)
      have HB3 := Aside0.mk hbr
      clear hbr hZ hpad hjJ
      go_wp2_with fail
      generalize w20.alloc (.cells ([.int .u8 0, .int .u8 0, .int .u8 0, .int .u8 0, .int .u8 0, .int .u8 0, .int .u8 0, .int .u8 0]).toArray 160) = W5 at *
      go_loopw [4, 6] (fun s4 s6 wq => ∃ (i : Nat) (z : Int) (X : Nat), i ≤ 8 ∧ s4 = .int .u64 X ∧ s6 = .int .i64 z ∧ Aside0 (z = (i : Int) - 1) ∧ Aside0 (X = N8 / 256 ^ (8 - i)) ∧ Aside0 (Blk wq w20.heap.size 160 ((big8P N8 i).map (Value.int .u8))) ∧ Aside0 (Below w20.heap.size w20 wq)) (fun _ s6 _ => (intOf s6 + 1).toNat)
      case atStart => exact ⟨8, 7, N8, by omega, rfl, rfl, ⟨by omega⟩, ⟨by rw [Nat.sub_self, Nat.pow_zero, Nat.div_one]⟩, D, HB3⟩
      case round =>
        obtain ⟨i, z, X, hi, rfl, rfl, HZ, HX, HD, HB⟩ := hrel
        clear D HB3
        by_cases hi0 : i = 0
        · subst hi0
          have hz : z = -1 := by have := HZ.out; omega
          subst hz
          have hd0 := HD.out
          rw [big8P_zero] at hd0
          have hC8 := Blk.bytes (l := big8 N8) hd0 (by rw [big8_len]; omega)
          rw [big8_len] at hC8
          have HC8 := Aside0.mk hC8
          have hz3 := Nat.le_trans hzw (HB2.out.trans (HB.out.mono HB2.out.size)).size
          have HRb := Aside0.mk (Kd.R_below HR2.out HB.out)
          have HBb := Aside0.mk (blt HB2.out HB.out)
          clear hd0 hC8 HD HB HR2 HB2 HZ HX
          go_wp2_with ((with_reducible refine gate_builtin (b := .append) (xs := #[.tmp 39, .tmp 40]) rfl ?_); at_builtin; go_loud (refine app_rowN .u8 w.heap.size rfl (.tmp 39) (.tmp 40) 22 5 (.int .u8 0) 1 rfl Tryd.underlying22 info5 rfl (by omega) (.slice A2 q c2) Z (big8 N8) (some ⟨w20.heap.size, 0, none⟩) 8 8 rfl rfl HRb.out HC8.out hz3 (by omega) ?_; intro A41 n41 c41 w41 hr41 hf41 ha41; (have hb41 := Aside0.mk (own_below HRb.out HBb.out hf41 hz3); rw [HP.out] at hr41); have HR41 := Aside0.mk hr41; have HF41 := Aside0.mk hf41; have HA41 := Aside0.mk ha41; clear hr41 hf41 ha41))
          have hmod := padB_len t
          obtain ⟨P, hP⟩ : ∃ P, P = padB t := ⟨_, rfl⟩
          obtain ⟨NB, hNB⟩ : ∃ NB, NB = P.length / 64 := ⟨_, rfl⟩
          have hPl : P.length = 64 * NB := by rw [hNB]; rw [← hP] at hmod; omega
          have hNb : NB ≤ 20000000 := by
            have h1 : P.length = t.length + (9 + (119 - t.length % 64) % 64) := by rw [hP, padB, List.length_append, tailB_len]
            omega
          rw [← hP] at HR41
          have hPb : Bytes P := by rw [hP]; exact padB_bytes t HBy.out
          have hn41 : P.length = n41 := Kd.C_len (R_C HR41.out)
          have hnP : n41 = 64 * NB := by omega
          have hex : ∀ k, k < NB → ∃ ad, A41 = some ad := fun k hk => by
            obtain ⟨ad, h, _⟩ := C_at (R_C HR41.out) 0 (by omega)
            exact ⟨ad, h⟩
          have HCP := Aside0.mk (R_C HR41.out)
          have HPl := Aside0.mk hPl
          have HPN := Aside0.mk (And.intro hP hNB)
          have HEx := Aside0.mk hex
          have HnP := Aside0.mk hnP
          have HRz := Aside0.mk (Kd.R_nil kB 154 w41 w41.heap.size (fun _ => True))
          have HBz := Aside0.mk (Below.refl w41.heap.size w41)
          clear hmod hP hNB hPl hn41 hnP hex HR41 HF41 HA41 HRb HBb HC8 hz3
          go_loopw [7, 8] (fun s7 s8 wq => ∃ (k i64 n2 : Nat) (A3 : Option Addr) (c3 : Nat), k ≤ NB ∧ s8 = .int .i64 (i64 : Int) ∧ s7 = .slice A3 n2 c3 ∧ Aside0 (i64 = 64 * k) ∧ Aside0 (kB.R 154 wq w41.heap.size (fun _ => True) (.slice A3 n2 c3) (blocksL P k)) ∧ Aside0 (Below w41.heap.size w41 wq)) (fun _ s8 _ => 64 * NB - (intOf s8).toNat)
          case atStart => exact ⟨0, 0, 0, none, 0, Nat.zero_le _, rfl, rfl, ⟨rfl⟩, HRz, HBz⟩
          case round =>
            obtain ⟨k, i64, n2, A3, c3, hk, rfl, rfl, HI, HR3, HB3⟩ := hrel
            clear HRz HBz
            by_cases hlt : k < NB
            · obtain ⟨ad, ea⟩ := HEx.out k hlt
              subst ea
              have u1 : (i64 : Int) < (n41 : Int) := by
                have := HI.out
                have := HnP.out
                omega
              have hi9 : i64 ≤ 1280000000 := by have := HI.out; omega
              rename World => w50
              have hbr := bl_new w50 (.cells ([.int .u8 0, .int .u8 0, .int .u8 0, .int .u8 0, .int .u8 0, .int .u8 0, .int .u8 0, .int .u8 0, .int .u8 0, .int .u8 0, .int .u8 0, .int .u8 0, .int .u8 0, .int .u8 0, .int .u8 0, .int .u8 0, .int .u8 0, .int .u8 0, .int .u8 0, .int .u8 0, .int .u8 0, .int .u8 0, .int .u8 0, .int .u8 0, .int .u8 0, .int .u8 0, .int .u8 0, .int .u8 0, .int .u8 0, .int .u8 0, .int .u8 0, .int .u8 0, .int .u8 0, .int .u8 0, .int .u8 0, .int .u8 0, .int .u8 0, .int .u8 0, .int .u8 0, .int .u8 0, .int .u8 0, .int .u8 0, .int .u8 0, .int .u8 0, .int .u8 0, .int .u8 0, .int .u8 0, .int .u8 0, .int .u8 0, .int .u8 0, .int .u8 0, .int .u8 0, .int .u8 0, .int .u8 0, .int .u8 0, .int .u8 0, .int .u8 0, .int .u8 0, .int .u8 0, .int .u8 0, .int .u8 0, .int .u8 0, .int .u8 0, .int .u8 0]).toArray 154)
              have D := Aside0.mk (show Blk (w50.alloc (.cells ([.int .u8 0, .int .u8 0, .int .u8 0, .int .u8 0, .int .u8 0, .int .u8 0, .int .u8 0, .int .u8 0, .int .u8 0, .int .u8 0, .int .u8 0, .int .u8 0, .int .u8 0, .int .u8 0, .int .u8 0, .int .u8 0, .int .u8 0, .int .u8 0, .int .u8 0, .int .u8 0, .int .u8 0, .int .u8 0, .int .u8 0, .int .u8 0, .int .u8 0, .int .u8 0, .int .u8 0, .int .u8 0, .int .u8 0, .int .u8 0, .int .u8 0, .int .u8 0, .int .u8 0, .int .u8 0, .int .u8 0, .int .u8 0, .int .u8 0, .int .u8 0, .int .u8 0, .int .u8 0, .int .u8 0, .int .u8 0, .int .u8 0, .int .u8 0, .int .u8 0, .int .u8 0, .int .u8 0, .int .u8 0, .int .u8 0, .int .u8 0, .int .u8 0, .int .u8 0, .int .u8 0, .int .u8 0, .int .u8 0, .int .u8 0, .int .u8 0, .int .u8 0, .int .u8 0, .int .u8 0, .int .u8 0, .int .u8 0, .int .u8 0, .int .u8 0]).toArray 154)) w50.heap.size 154 ((bkP P k 0).map (Value.int .u8)) from by
                rw [bkP_zero]
                exact blk_newL w50 [.int .u8 0, .int .u8 0, .int .u8 0, .int .u8 0, .int .u8 0, .int .u8 0, .int .u8 0, .int .u8 0, .int .u8 0, .int .u8 0, .int .u8 0, .int .u8 0, .int .u8 0, .int .u8 0, .int .u8 0, .int .u8 0, .int .u8 0, .int .u8 0, .int .u8 0, .int .u8 0, .int .u8 0, .int .u8 0, .int .u8 0, .int .u8 0, .int .u8 0, .int .u8 0, .int .u8 0, .int .u8 0, .int .u8 0, .int .u8 0, .int .u8 0, .int .u8 0, .int .u8 0, .int .u8 0, .int .u8 0, .int .u8 0, .int .u8 0, .int .u8 0, .int .u8 0, .int .u8 0, .int .u8 0, .int .u8 0, .int .u8 0, .int .u8 0, .int .u8 0, .int .u8 0, .int .u8 0, .int .u8 0, .int .u8 0, .int .u8 0, .int .u8 0, .int .u8 0, .int .u8 0, .int .u8 0, .int .u8 0, .int .u8 0, .int .u8 0, .int .u8 0, .int .u8 0, .int .u8 0, .int .u8 0, .int .u8 0, .int .u8 0, .int .u8 0] 154 rfl)
              have HB5 := Aside0.mk hbr
              clear hbr
              go_wp2_with fail
              generalize w50.alloc (.cells ([.int .u8 0, .int .u8 0, .int .u8 0, .int .u8 0, .int .u8 0, .int .u8 0, .int .u8 0, .int .u8 0, .int .u8 0, .int .u8 0, .int .u8 0, .int .u8 0, .int .u8 0, .int .u8 0, .int .u8 0, .int .u8 0, .int .u8 0, .int .u8 0, .int .u8 0, .int .u8 0, .int .u8 0, .int .u8 0, .int .u8 0, .int .u8 0, .int .u8 0, .int .u8 0, .int .u8 0, .int .u8 0, .int .u8 0, .int .u8 0, .int .u8 0, .int .u8 0, .int .u8 0, .int .u8 0, .int .u8 0, .int .u8 0, .int .u8 0, .int .u8 0, .int .u8 0, .int .u8 0, .int .u8 0, .int .u8 0, .int .u8 0, .int .u8 0, .int .u8 0, .int .u8 0, .int .u8 0, .int .u8 0, .int .u8 0, .int .u8 0, .int .u8 0, .int .u8 0, .int .u8 0, .int .u8 0, .int .u8 0, .int .u8 0, .int .u8 0, .int .u8 0, .int .u8 0, .int .u8 0, .int .u8 0, .int .u8 0, .int .u8 0, .int .u8 0]).toArray 154) = W6 at *
              go_loopw [10] (fun s wq => ∃ j : Nat, j ≤ 64 ∧ s = .int .i64 j ∧ Aside0 (Blk wq w50.heap.size 154 ((bkP P k j).map (Value.int .u8))) ∧ Aside0 (Below w50.heap.size w50 wq)) (fun s _ => 64 - (intOf s).toNat)
              case atStart => exact ⟨0, Nat.zero_le _, rfl, D, HB5⟩
              case round =>
                obtain ⟨j, hj, rfl, HD, HB⟩ := hrel
                clear D HB5
                by_cases hj64 : j < 64
                · have hle : 64 * k + 64 ≤ P.length := by have := HPl.out; omega
                  have hC := Kd.C_below (Kd.C_below HCP.out HB3.out) HB.out
                  obtain ⟨ad', ea', hc⟩ := C_at hC (i64 + j) (by have := HI.out; have := HnP.out; omega)
                  injection ea' with ea'
                  subst ea'
                  have hlen := bkP_len P k j hle (by omega)
                  obtain ⟨u, hu⟩ : ∃ u, ((bkP P k j).map (Value.int .u8))[j]? = some (.int .u8 u) := by
                    rw [List.getElem?_map, List.getElem?_eq_getElem (by omega)]
                    exact ⟨_, rfl⟩
                  have m1 := HD.out.at hu
                  have m2 := HD.out.frozen j
                  have m3 := HD.out.set j (.int .u8 (P.getD (64 * k + j) 0))
                  rw [← List.map_set (f := Value.int .u8), bkP_set P k j hle hj64] at m3
                  rw [← HI.out] at m3
                  have g2 : IntKind.i64.wrap ((i64 : Int) + (j : Int)) = ((i64 + j : Nat) : Int) := by rw [IntWalk.i64_in _ (by omega)]; omega
                  have g3 : ((i64 + j : Nat) : Int) < (n41 : Int) := by have := HI.out; have := HnP.out; omega
                  have g4 : (j : Int) < 64 := by omega
                  have M3 := Aside0.mk m3
                  have M4 := Aside0.mk (HB.out.setCell (p := ⟨w50.heap.size, j, none⟩) (Nat.le_refl _) (.int .u8 (P.getD (i64 + j) 0)))
                  generalize P.getD (i64 + j) 0 = pv at *
                  generalize i64 + j = pj at *
                  clear m3 hu hlen hC HD HB hle
                  go_wp2_with fail
                  go_roundw
                  case rel => exact ⟨j + 1, by omega, by go_num, M3, M4⟩
                  case measure => simp [intOf]; omega
                · have hle : 64 * k + 64 ≤ P.length := by have := HPl.out; omega
                  have hd0 := HD.out
                  rw [show j = 64 by omega, bkP_all P k hle] at hd0
                  obtain ⟨bk, hbk⟩ : ∃ bk, bk = bkOf P k := ⟨_, rfl⟩
                  rw [← hbk] at hd0
                  have HBk := Aside0.mk hbk
                  have HD0 := Aside0.mk (BkAt.block (h := bk) hd0)
                  have HR6 := Aside0.mk (Kd.R_below HR3.out HB.out)
                  have HB6 := Aside0.mk (blt HB3.out HB.out)
                  have hz6 := HB6.out.size
                  have hbl : (blocksL P k).length ≤ 20000000 := by rw [blocksL_len]; omega
                  have hb64 : (64 : Nat) = kB.sz := rfl
                  rename World => w60
                  clear hle hd0 hbk HD HB HR3 HB3
                  go_wp2_with (first | ((with_reducible refine gate_dst (N := 61) rfl ?_); go_loud (refine load_bk rfl (.tmp 9) rfl _ _ rfl HD0.out ?_)) | ((with_reducible refine gate_dst (N := 62) rfl ?_); go_loud (refine build_bk rfl (.tmp 61) rfl bk rfl ?_)) | ((with_reducible refine gate_builtin (b := .append) (xs := #[.tmp 60, .tmp 62]) rfl ?_); at_builtin; go_loud (refine app_oneN kB w41.heap.size rfl (.tmp 60) (.tmp 62) 136 154 _ 64 rfl Tryd.underlying136 infoB rfl (by decide) (by decide) (.slice A3 n2 c3) (blocksL P k) bk bk.cells rfl rfl rfl HR6.out hz6 (by omega) ?_); intro A63 n63 c63 w63 hr63 hf63 ha63; have HB63 := Aside0.mk (own_below HR6.out HB6.out hf63 hz6); rw [HBk.out, ← blocksL_snoc] at hr63; have HR63 := Aside0.mk hr63; clear hr63 hf63 ha63))
                  have g5 : IntKind.i64.wrap ((i64 : Int) + 64) = ((i64 + 64 : Nat) : Int) := by rw [IntWalk.i64_in _ (by omega)]; omega
                  go_roundw
                  case rel => exact ⟨k + 1, i64 + 64, n63, A63, c63, by omega, by go_num, rfl, ⟨by have := HI.out; omega⟩, HR63, HB63⟩
                  case measure =>
                    have := HI.out
                    simp [intOf]
                    omega
            · have hkN : k = NB := by omega
              have u1 : ¬ ((i64 : Int) < (n41 : Int)) := by
                have := HI.out
                have := HnP.out
                omega
              go_wp2_with fail
              go_ret
              refine ⟨_, rfl, ?_, ?_⟩
              · rw [← HPN.out.1, ← HPN.out.2, ← hkN]
                exact Kd.R_lower HR3.out hb41.out.size
              · exact hb41.out.trans (HB3.out.mono hb41.out.size)
        · obtain ⟨k, rfl⟩ : ∃ k, i = k + 1 := ⟨i - 1, by omega⟩
          have hz : z = (k : Int) := by have := HZ.out; omega
          subst hz
          have hxl : X < 18446744073709551616 := by
            have h1 : N8 / 256 ^ (8 - (k + 1)) ≤ N8 := Nat.div_le_self _ _
            have h2 := HX.out
            omega
          obtain ⟨y2, z2, f1, f2, f3, f4, f5⟩ := mod256 X hxl
          have f1' : (X : Int) % 256 = (y2 : Int) := by rw [← f1, Int.tmod_eq_emod_of_nonneg (by omega)]
          have f3' : IntKind.u64.wrap ((X : Int) / 256) = (z2 : Int) := by rw [← f3, Int.tdiv_eq_ediv_of_nonneg (by omega)]
          have hy2 : y2 = N8 / 256 ^ (7 - k) % 256 := by rw [f4, HX.out, show 8 - (k + 1) = 7 - k by omega]
          have hz2 : z2 = N8 / 256 ^ (8 - k) := by rw [f5, HX.out, Nat.div_div_eq_div_mul, ← Nat.pow_succ, show (8 - (k + 1)).succ = 8 - k by omega]
          have hlen := big8P_len N8 (k + 1) hi
          obtain ⟨u, hu⟩ : ∃ u, ((big8P N8 (k + 1)).map (Value.int .u8))[k]? = some (.int .u8 u) := by
            rw [List.getElem?_map, List.getElem?_eq_getElem (by omega)]
            exact ⟨_, rfl⟩
          have m1 := HD.out.at hu
          have m2 := HD.out.frozen k
          have m3 := HD.out.set k (.int .u8 (y2 : Int))
          rw [← List.map_set (f := Value.int .u8), hy2, big8P_step N8 k (by omega), ← hy2] at m3
          have M3 := Aside0.mk m3
          have M4 := Aside0.mk (HB.out.setCell (p := ⟨w20.heap.size, k, none⟩) (Nat.le_refl _) (.int .u8 (y2 : Int)))
          have HZ2 := Aside0.mk hz2
          have g3 : (k : Int) < 8 := by omega
          clear m3 hu hlen hy2 hz2 f4 f5 hxl HD HB HX HZ
          go_wp2_with fail
          go_roundw
          case rel => exact ⟨k, (k : Int) - 1, z2, by omega, rfl, rfl, ⟨rfl⟩, HZ2, M3, M4⟩
          case measure => simp [intOf]
end Go.Proofs.YtefnonlhepekdaaDoor.M

set_option linter.unusedVariables false
set_option linter.unusedSimpArgs false
namespace Go.Proofs.YtefnonlhepekdaaDoor.M
open Go.RowKit Go.Proofs.YtefnonlhepekdaaDoorW.PrintWords Go.Proofs.YtefnonlhepekdaaDoorW.PrintLast Go.Proofs.YtefnonlhepekdaaDoorW.PrintMore Go.Proofs.YtefnonlhepekdaaDoor.Leaf

theorem R_oneH (W : World) (h : Hsh) {base b : Nat} (hb : b = W.heap.size) (hbase : base ≤ W.heap.size) : kH.R 63 (W.alloc (.cells h.cells.toArray 63)) base (fun _ => True) (.slice (some ⟨b, 0, none⟩) 1 1) [h] := by
  subst hb
  have h2 := World.ownsRow_lit (base := base) (e := 63) (size := 32) W h.cells.toArray 1 hbase (by simp [maxLen]) (by simp [Hsh.cells_len])
  exact ⟨fun _ _ => trivial, h.cells, h2, Reps.snoc (Reps.none _ _) rfl h.cells_len⟩
theorem bk_bytes (p : List Int) (k : Nat) (h : Bytes p) : Bytes (bkOf p k).b := by
  unfold bkOf
  split
  · intro b hb
    exact h b (List.mem_of_mem_drop (List.mem_of_mem_take hb))
  · intro b hb
    rw [List.eq_of_mem_replicate hb]
    omega
theorem foldS_bytes (w : Int) : ∀ (L : List Bk) (s : Hsh), Bytes s.b → Bytes (L.foldl (fun s x => compH w s x.b) s).b
  | [], s, h => h
  | x :: L, s, h => foldS_bytes w L _ (cutB_bytes w (compB_bytes _ _))
theorem foldS_by (w : Int) (L : List Bk) : Bytes (foldS w L).b := foldS_bytes w L _ (cutB_bytes w begB_bytes)
theorem C_hash_at {w : World} {ad : Addr} {n : Nat} {ns : List Hsh} (h : kH.C w (some ad) n ns) (j : Nat) {y : Hsh} (hy : ns[j]? = some y) : HashAt w (ad.add (j * 32)) y := by
  obtain ⟨hj, rfl⟩ := List.getElem?_eq_some_iff.1 hy
  obtain ⟨ad', ea, hh⟩ := C_hash h j hj
  injection ea with ea
  subst ea
  exact hh
theorem C_bk_at {w : World} {ad : Addr} {n : Nat} {ns : List Bk} (h : kB.C w (some ad) n ns) (j : Nat) {y : Bk} (hy : ns[j]? = some y) : BkAt w (ad.add (j * 64)) y := by
  obtain ⟨hj, rfl⟩ := List.getElem?_eq_some_iff.1 hy
  obtain ⟨ad', ea, hh⟩ := C_bk h j hj
  injection ea with ea
  subst ea
  exact hh
set_option maxHeartbeats 40000000 in
set_option maxRecDepth 100000 in
theorem ref_states_calls (wd : Int) (L : List Bk) (hL : ∀ x ∈ L, Bytes x.b) (A : Option Addr) (m c : Nat) (w : World) (hl : L.length ≤ 20000000) (hC : kB.C w A m L) :
    Calls Tryd.prog 97 #[.int .i64 wd, .slice A m c] w fun e w' => ∃ v, e = .returned v ∧ kH.R 63 w' w.heap.size (fun _ => True) v (statesL wd L L.length) ∧ Below w.heap.size w w' := by
  have hm : L.length = m := Kd.C_len hC
  have hm9 : m ≤ 20000000 := by omega
  have HC := Aside0.mk hC
  have HM := Aside0.mk hm
  have HL := Aside0.mk hL
  clear hC hm hL
  go_enter Tryd.func97, Tryd.ntmps97
  go_wp2_with fail
  refine (ref_begin_calls wd w).mono ?_
  rintro e w1 ⟨rfl, hb1⟩
  have HC1 := Aside0.mk (Kd.C_below HC.out hb1)
  have hbn := bl_new w1 (.cells (begH wd).cells.toArray 63)
  have HR1 := Aside0.mk (R_oneH w1 (begH wd) rfl hb1.size)
  have HB1 := Aside0.mk (blt hb1 hbn)
  have HC2 := Aside0.mk (Kd.C_below HC1.out hbn)
  clear hb1 hbn
  go_wp2_with ((with_reducible refine gate_dst (N := 9) rfl ?_); go_loud (refine build_hash rfl (.tmp 8) rfl (begH wd) rfl ?_))
  generalize w1.alloc (.cells (begH wd).cells.toArray 63) = W2 at *
  have HR2 := Aside0.mk (show kH.R 63 W2 w.heap.size (fun _ => True) (.slice (some ⟨w1.heap.size, 0, none⟩) 1 1) (statesL wd L 0) from HR1.out)
  clear HR1 HC1 HC2
  go_loopw [5, 6] (fun s5 s6 wq => ∃ (k n2 : Nat) (A3 : Option Addr) (c3 : Nat), k ≤ m ∧ s6 = .int .i64 (k : Int) ∧ s5 = .slice A3 n2 c3 ∧ Aside0 (kH.R 63 wq w.heap.size (fun _ => True) (.slice A3 n2 c3) (statesL wd L k)) ∧ Aside0 (Below w.heap.size w wq)) (fun _ s6 _ => m - (intOf s6).toNat)
  case atStart => exact ⟨0, 1, _, 1, Nat.zero_le _, rfl, rfl, HR2, HB1⟩
  case round =>
    obtain ⟨k, n2, A3, c3, hk, rfl, rfl, HR, HB⟩ := hrel
    by_cases hlt : k < m
    · have hn2 : k + 1 = n2 := by have := Kd.C_len (R_C HR.out); rw [statesL_len] at this; exact this
      obtain ⟨ad3, ea3⟩ : ∃ ad, A3 = some ad := by
        obtain ⟨ad, h, _⟩ := C_hash (R_C HR.out) 0 (by rw [statesL_len]; omega)
        exact ⟨ad, h⟩
      subst ea3 hn2
      rename World => w3
      have hCw := Kd.C_below HC.out HB.out
      obtain ⟨bk, hbk⟩ : ∃ bk, L[k]? = some bk := ⟨_, List.getElem?_eq_getElem (by have := HM.out; omega)⟩
      obtain ⟨ad4, ea4⟩ : ∃ ad, A = some ad := by
        obtain ⟨ad, h, _⟩ := C_bk hCw k (by have := HM.out; omega)
        exact ⟨ad, h⟩
      subst ea4
      have hbb : Bytes bk.b := HL.out bk (List.mem_of_getElem? hbk)
      have hd3 : Below w3.heap.size w3 w3.drew := below_drew (Below.refl _ _)
      obtain ⟨hs, hhs⟩ : ∃ hs, hs = foldS wd (L.take k) := ⟨_, rfl⟩
      have hg := statesL_get wd L k k (Nat.le_refl _)
      rw [← hhs] at hg
      have hsb : Bytes hs.b := hhs ▸ foldS_by wd _
      have hnx : foldS wd (L.take (k + 1)) = compH wd hs bk.b := by rw [hhs]; exact foldS_take wd L k bk hbk
      have HH := Aside0.mk ((C_hash_at (R_C HR.out) k hg).below hd3)
      have HK := Aside0.mk ((C_bk_at hCw k hbk).below hd3)
      have HNx := Aside0.mk hnx
      have HR3 := Aside0.mk (Kd.R_below HR.out hd3)
      have HB3 := Aside0.mk (HB.out.trans (hd3.mono HB.out.size))
      have HCp := Aside0.mk (fun W => ref_compress_calls wd hs bk W hbb hsb)
      have u1 : (k : Int) < ((k + 1 : Nat) : Int) := by omega
      have u2 : (k : Int) < (m : Int) := by omega
      have hsl : (statesL wd L k).length ≤ 20000001 := by rw [statesL_len]; omega
      generalize hk1 : k + 1 = k1 at *
      have HK1 := Aside0.mk hk1
      clear hk1 hCw hbk hbb hd3 hhs hg hsb hnx HR HB HR2 HB1
      go_wp2_with fail
      refine wp_region_normal (fun KQ hKQ => ?_)
      refine wp_region_any (by kernel_rfl) ?_
      change wpAny _ _ _ _ _ _ _ w3.drew
      refine wpAny_take (i := 0) (v := .slice (some ad3) k1 c3) rfl (by kernel_rfl) (by kernel_rfl) (by kernel_rfl) (fun _ _ _ h => absurd h.1 (by simp)) (Or.inl ⟨by rfl, fun W => by go_simp⟩) ?_
      simp only [Act.put, List.getElem_toArray, List.getElem_cons_zero, List.getElem_cons_succ, List.setIfInBounds_toArray, List.set_cons_zero, List.set_cons_succ]
      refine wpAny_take (i := 1) (v := .int .i64 wd) rfl (by kernel_rfl) (by kernel_rfl) (by kernel_rfl) (fun _ _ _ h => absurd h.1 (by simp)) (Or.inl ⟨by rfl, fun W => by go_simp⟩) ?_
      simp only [Act.put, List.getElem_toArray, List.getElem_cons_zero, List.getElem_cons_succ, List.setIfInBounds_toArray, List.set_cons_zero, List.set_cons_succ]
      refine wpAny_take (i := 2) (v := .slice (some ad3) k1 c3) rfl (by kernel_rfl) (by kernel_rfl) (by kernel_rfl) (fun _ _ _ h => absurd h.1 (by simp)) (Or.inl ⟨by rfl, fun W => by go_simp⟩) ?_
      simp only [Act.put, List.getElem_toArray, List.getElem_cons_zero, List.getElem_cons_succ, List.setIfInBounds_toArray, List.set_cons_zero, List.set_cons_succ]
      refine wpAny_take (i := 3) (v := .int .i64 (k : Int)) rfl (by kernel_rfl) (by kernel_rfl) (by kernel_rfl) (fun _ _ _ h => absurd h.1 (by simp)) (Or.inl ⟨by rfl, fun W => by go_simp⟩) ?_
      simp only [Act.put, List.getElem_toArray, List.getElem_cons_zero, List.getElem_cons_succ, List.setIfInBounds_toArray, List.set_cons_zero, List.set_cons_succ]
      refine wpAny_take (i := 4) (v := .pointer (some (ad3.add (k * 32)))) rfl (by kernel_rfl) (by kernel_rfl) (by kernel_rfl) (fun _ _ _ h => absurd h.1 (by simp)) (Or.inl ⟨by rfl, fun W => by go_simp⟩) ?_
      simp only [Act.put, List.getElem_toArray, List.getElem_cons_zero, List.getElem_cons_succ, List.setIfInBounds_toArray, List.set_cons_zero, List.set_cons_succ]
      refine wpAny_take (i := 6) (v := .slice (some ad4) m c) rfl (by kernel_rfl) (by kernel_rfl) (by kernel_rfl) (fun _ _ _ h => absurd h.1 (by simp)) (Or.inl ⟨by rfl, fun W => by go_simp⟩) ?_
      simp only [Act.put, List.getElem_toArray, List.getElem_cons_zero, List.getElem_cons_succ, List.setIfInBounds_toArray, List.set_cons_zero, List.set_cons_succ]
      refine wpAny_take (i := 7) (v := .int .i64 (k : Int)) rfl (by kernel_rfl) (by kernel_rfl) (by kernel_rfl) (fun _ _ _ h => absurd h.1 (by simp)) (Or.inl ⟨by rfl, fun W => by go_simp⟩) ?_
      simp only [Act.put, List.getElem_toArray, List.getElem_cons_zero, List.getElem_cons_succ, List.setIfInBounds_toArray, List.set_cons_zero, List.set_cons_succ]
      refine wpAny_take (i := 8) (v := .pointer (some (ad4.add (k * 64)))) rfl (by kernel_rfl) (by kernel_rfl) (by kernel_rfl) (fun _ _ _ h => absurd h.1 (by simp)) (Or.inl ⟨by rfl, fun W => by go_simp⟩) ?_
      simp only [Act.put, List.getElem_toArray, List.getElem_cons_zero, List.getElem_cons_succ, List.setIfInBounds_toArray, List.set_cons_zero, List.set_cons_succ]
      refine wpAny_ready (rs := [5, 9]) (by kernel_rfl) (by simp) ?_
      refine AllReady.cons rfl ?_ ?_
      · skip
        intro K hK
        refine step_of_list rfl ?_
        refine load_hash rfl (.tmp 20) rfl _ _ rfl HH.out ?_
        refine wpList_one ?_
        refine hK _ _ ?_
        clear hK K
        simp only [Act.put, List.getElem_toArray, List.getElem_cons_zero, List.getElem_cons_succ, List.setIfInBounds_toArray, List.set_cons_zero, List.set_cons_succ]
        refine wpAny_ready (rs := [9]) (by kernel_rfl) (by simp) ?_
        refine AllReady.cons rfl ?_ ?_
        · skip
          intro K hK
          refine step_of_list rfl ?_
          refine load_bk rfl (.tmp 24) rfl _ _ rfl HK.out ?_
          refine wpList_one ?_
          refine hK _ _ ?_
          clear hK K
          simp only [Act.put, List.getElem_toArray, List.getElem_cons_zero, List.getElem_cons_succ, List.setIfInBounds_toArray, List.set_cons_zero, List.set_cons_succ]
          refine wpAny_seqL [10, 11, 12, 13] _ _ _ (by kernel_rfl) ?_
          simp only [List.map_cons, List.map_nil, List.getElem?_toArray, List.getElem?_cons_succ, List.getElem?_cons_zero, Option.getD_some]
          go_wp2_with fail
          refine (HCp.out _).mono ?_
          rintro e w6 ⟨rfl, hb6⟩
          have HR6 := Aside0.mk (Kd.R_below HR3.out hb6)
          have HB6 := Aside0.mk (HB3.out.trans (hb6.mono HB3.out.size))
          have hz6 := HB6.out.size
          clear hb6
          go_wp2_with (first | ((with_reducible refine gate_dst (N := 27) rfl ?_); go_loud (refine build_hash rfl (.tmp 26) rfl (compH wd hs bk.b) rfl ?_)) | ((with_reducible refine gate_builtin (b := .append) (xs := #[.tmp 16, .tmp 27]) rfl ?_); at_builtin; go_loud (refine app_oneN kH w.heap.size rfl (.tmp 16) (.tmp 27) 39 63 _ 32 rfl Tryd.underlying39 infoH rfl (by decide) (by decide) (.slice (some ad3) k1 c3) (statesL wd L k) (compH wd hs bk.b) (compH wd hs bk.b).cells rfl rfl rfl HR6.out hz6 (by omega) ?_); intro A9 n9 c9 w9 hr9 hf9 ha9; have HB9 := Aside0.mk (own_below HR6.out HB6.out hf9 hz6); rw [← HNx.out] at hr9; have HR9 := Aside0.mk hr9; clear hr9 hf9 ha9))
          go_roundw
          case rel =>
            have hk1 := HK1.out
            subst hk1
            exact ⟨k + 1, n9, A9, c9, by omega, by go_num, rfl, ⟨by rw [statesL_snoc]; exact HR9.out⟩, HB9⟩
          case measure =>
            have := HK1.out
            simp [intOf]
            omega
        exact AllReady.nil
      refine AllReady.cons rfl ?_ ?_
      · skip
        intro K hK
        refine step_of_list rfl ?_
        refine load_bk rfl (.tmp 24) rfl _ _ rfl HK.out ?_
        refine wpList_one ?_
        refine hK _ _ ?_
        clear hK K
        simp only [Act.put, List.getElem_toArray, List.getElem_cons_zero, List.getElem_cons_succ, List.setIfInBounds_toArray, List.set_cons_zero, List.set_cons_succ]
        refine wpAny_ready (rs := [5]) (by kernel_rfl) (by simp) ?_
        refine AllReady.cons rfl ?_ ?_
        · skip
          intro K hK
          refine step_of_list rfl ?_
          refine load_hash rfl (.tmp 20) rfl _ _ rfl HH.out ?_
          refine wpList_one ?_
          refine hK _ _ ?_
          clear hK K
          simp only [Act.put, List.getElem_toArray, List.getElem_cons_zero, List.getElem_cons_succ, List.setIfInBounds_toArray, List.set_cons_zero, List.set_cons_succ]
          refine wpAny_seqL [10, 11, 12, 13] _ _ _ (by kernel_rfl) ?_
          simp only [List.map_cons, List.map_nil, List.getElem?_toArray, List.getElem?_cons_succ, List.getElem?_cons_zero, Option.getD_some]
          go_wp2_with fail
          refine (HCp.out _).mono ?_
          rintro e w6 ⟨rfl, hb6⟩
          have HR6 := Aside0.mk (Kd.R_below HR3.out hb6)
          have HB6 := Aside0.mk (HB3.out.trans (hb6.mono HB3.out.size))
          have hz6 := HB6.out.size
          clear hb6
          go_wp2_with (first | ((with_reducible refine gate_dst (N := 27) rfl ?_); go_loud (refine build_hash rfl (.tmp 26) rfl (compH wd hs bk.b) rfl ?_)) | ((with_reducible refine gate_builtin (b := .append) (xs := #[.tmp 16, .tmp 27]) rfl ?_); at_builtin; go_loud (refine app_oneN kH w.heap.size rfl (.tmp 16) (.tmp 27) 39 63 _ 32 rfl Tryd.underlying39 infoH rfl (by decide) (by decide) (.slice (some ad3) k1 c3) (statesL wd L k) (compH wd hs bk.b) (compH wd hs bk.b).cells rfl rfl rfl HR6.out hz6 (by omega) ?_); intro A9 n9 c9 w9 hr9 hf9 ha9; have HB9 := Aside0.mk (own_below HR6.out HB6.out hf9 hz6); rw [← HNx.out] at hr9; have HR9 := Aside0.mk hr9; clear hr9 hf9 ha9))
          go_roundw
          case rel =>
            have hk1 := HK1.out
            subst hk1
            exact ⟨k + 1, n9, A9, c9, by omega, by go_num, rfl, ⟨by rw [statesL_snoc]; exact HR9.out⟩, HB9⟩
          case measure =>
            have := HK1.out
            simp [intOf]
            omega
        exact AllReady.nil
      exact AllReady.nil
    · have hkm : k = L.length := by have := HM.out; omega
      go_wp2_with fail
      go_ret
      exact ⟨_, rfl, by rw [← hkm]; exact HR.out, HB.out⟩
set_option maxHeartbeats 40000000 in
set_option maxRecDepth 100000 in
theorem ref_sum1_calls (wd : Int) (bs : List Int) (A : Option Addr) (n c cp : Nat) (ad : Addr) (w : World) (hb : Bytes bs) (hl : bs.length ≤ 900000000) (hC : Kd.C (Kd.int .u8) w A n bs) (hx : w.cell? ad = some (.slice A n c)) :
    Calls Tryd.prog 57 #[.int .i64 wd, .slice (some ad) 1 cp] w fun e w' => e = .returned (sumH wd bs).val ∧ Below w.heap.size w w' := by
  have hn : bs.length = n := Kd.C_len hC
  have hn9 : n ≤ 900000000 := by omega
  have hb0 := bl_new w (.cells ([Value.int .u8 0, Value.int .u8 0, Value.int .u8 0, Value.int .u8 0, Value.int .u8 0, Value.int .u8 0, Value.int .u8 0, Value.int .u8 0, Value.int .u8 0, Value.int .u8 0, Value.int .u8 0, Value.int .u8 0, Value.int .u8 0, Value.int .u8 0, Value.int .u8 0, Value.int .u8 0, Value.int .u8 0, Value.int .u8 0, Value.int .u8 0, Value.int .u8 0, Value.int .u8 0, Value.int .u8 0, Value.int .u8 0, Value.int .u8 0, Value.int .u8 0, Value.int .u8 0, Value.int .u8 0, Value.int .u8 0, Value.int .u8 0, Value.int .u8 0, Value.int .u8 0, Value.int .u8 0]).toArray 63)
  have HRes := Aside0.mk (blk_newL w [Value.int .u8 0, Value.int .u8 0, Value.int .u8 0, Value.int .u8 0, Value.int .u8 0, Value.int .u8 0, Value.int .u8 0, Value.int .u8 0, Value.int .u8 0, Value.int .u8 0, Value.int .u8 0, Value.int .u8 0, Value.int .u8 0, Value.int .u8 0, Value.int .u8 0, Value.int .u8 0, Value.int .u8 0, Value.int .u8 0, Value.int .u8 0, Value.int .u8 0, Value.int .u8 0, Value.int .u8 0, Value.int .u8 0, Value.int .u8 0, Value.int .u8 0, Value.int .u8 0, Value.int .u8 0, Value.int .u8 0, Value.int .u8 0, Value.int .u8 0, Value.int .u8 0, Value.int .u8 0] 63 (g := w.heap.size) rfl)
  have HB0 := Aside0.mk hb0
  have HC := Aside0.mk (Kd.C_below hC hb0)
  have HX := Aside0.mk (pw_cell_below hb0 hx)
  have HBy := Aside0.mk hb
  have HL := Aside0.mk hl
  have hnil : ([] : List Int).length = 0 := rfl
  clear hC hx hb hn hb0 hl
  go_enter Tryd.func57, Tryd.ntmps57
  go_wp2_with fail
  generalize w.alloc (.cells ([Value.int .u8 0, Value.int .u8 0, Value.int .u8 0, Value.int .u8 0, Value.int .u8 0, Value.int .u8 0, Value.int .u8 0, Value.int .u8 0, Value.int .u8 0, Value.int .u8 0, Value.int .u8 0, Value.int .u8 0, Value.int .u8 0, Value.int .u8 0, Value.int .u8 0, Value.int .u8 0, Value.int .u8 0, Value.int .u8 0, Value.int .u8 0, Value.int .u8 0, Value.int .u8 0, Value.int .u8 0, Value.int .u8 0, Value.int .u8 0, Value.int .u8 0, Value.int .u8 0, Value.int .u8 0, Value.int .u8 0, Value.int .u8 0, Value.int .u8 0, Value.int .u8 0, Value.int .u8 0]).toArray 63) = W1 at *
  have HR0 := Aside0.mk (Kd.R_nil (Kd.int .u8) 5 W1 W1.heap.size (fun _ => True))
  have HBr := Aside0.mk (Below.refl W1.heap.size W1)
  go_loopw [5, 6] (fun s5 s6 wq => ∃ (j n2 : Nat) (A2 : Option Addr) (c2 : Nat), j ≤ 1 ∧ s6 = .int .i64 (j : Int) ∧ s5 = .slice A2 n2 c2 ∧ Aside0 ((Kd.int .u8).R 5 wq W1.heap.size (fun _ => True) (.slice A2 n2 c2) (if j = 0 then [] else bs)) ∧ Aside0 (Below W1.heap.size W1 wq)) (fun _ s6 _ => 1 - (intOf s6).toNat)
  case atStart => exact ⟨0, 0, none, 0, Nat.zero_le _, rfl, rfl, ⟨by rw [if_pos rfl]; exact HR0.out⟩, HBr⟩
  case round =>
    obtain ⟨j, n2, A2, c2, hj, rfl, rfl, HR, HB⟩ := hrel
    clear HR0 HBr
    by_cases hj0 : j = 0
    · subst hj0
      have hr := HR.out
      rw [if_pos rfl] at hr
      have HR2 := Aside0.mk hr
      have k1 := pw_cell_below HB.out HX.out
      have HC2 := Aside0.mk (Kd.C_below HC.out HB.out)
      have hz := HB.out.size
      clear hr HR
      go_wp2_with ((with_reducible refine gate_builtin (b := .append) (xs := #[.tmp 14, .tmp 18]) rfl ?_); at_builtin; go_loud (refine app_rowN .u8 W1.heap.size rfl (.tmp 14) (.tmp 18) 22 5 (.int .u8 0) 1 rfl Tryd.underlying22 info5 rfl (by omega) (.slice A2 n2 c2) ([] : List Int) bs A n c rfl rfl HR2.out HC2.out hz (by omega) ?_; intro A19 n19 c19 w19 hr19 hf19 ha19; (have HB19 := Aside0.mk (own_below HR2.out HB.out hf19 hz); rw [List.nil_append] at hr19); have HR19 := Aside0.mk hr19; have HF19 := Aside0.mk hf19; have HA19 := Aside0.mk ha19; clear hr19 hf19 ha19))
      go_roundw
      case rel => exact ⟨1, n19, A19, c19, Nat.le_refl _, by go_num, rfl, ⟨by rw [if_neg (by decide)]; exact HR19.out⟩, HB19⟩
      case measure => simp [intOf]
    · have hj1 : j = 1 := by omega
      subst hj1
      have hr := HR.out
      rw [if_neg (by decide)] at hr
      have HR2 := Aside0.mk hr
      rename World => w3
      have HBl := Aside0.mk (ref_blocks_calls bs HL.out HBy.out A2 n2 c2 w3 (R_C HR2.out))
      obtain ⟨L, hL⟩ : ∃ L, L = blocksL (padB bs) ((padB bs).length / 64) := ⟨_, rfl⟩
      rw [← hL] at HBl
      have hLb : ∀ x ∈ L, Bytes x.b := by
        intro x hx
        rw [hL] at hx
        obtain ⟨k, _, rfl⟩ := List.mem_map.1 hx
        exact bk_bytes _ _ (padB_bytes bs HBy.out)
      have hLl : L.length ≤ 20000000 := by
        have h1 : (padB bs).length = bs.length + (9 + (119 - bs.length % 64) % 64) := by rw [padB, List.length_append, tailB_len]
        have h2 := HL.out
        rw [hL, blocksL_len]
        omega
      have hsum : foldS wd (L.take L.length) = sumH wd bs := by rw [List.take_length, hL, ← sumH_fold]
      have HLb := Aside0.mk hLb
      have HLl := Aside0.mk hLl
      have HSm := Aside0.mk hsum
      have hone := Hsh.one' (sumH wd bs)
      clear hr HR hL hLb hLl hsum
      go_wp2_with fail
      refine HBl.out.mono ?_
      rintro e w4 ⟨v4, rfl, hr4, hb4⟩
      obtain ⟨A4, n4, c4, e9⟩ : ∃ A m c, v4 = .slice A m c := by obtain ⟨A, c, h⟩ := Kd.R_slice hr4; exact ⟨A, _, c, h⟩
      subst e9
      have HB4 := Aside0.mk (blt HB.out hb4)
      have HSt := Aside0.mk (ref_states_calls wd L HLb.out A4 n4 c4 w4 HLl.out (R_C hr4))
      clear hr4 hb4 HBl HB
      go_wp2_with fail
      refine HSt.out.mono ?_
      rintro e w5 ⟨v5, rfl, hr5, hb5⟩
      obtain ⟨A5, n5, c5, e9⟩ : ∃ A m c, v5 = .slice A m c := by obtain ⟨A, c, h⟩ := Kd.R_slice hr5; exact ⟨A, _, c, h⟩
      subst e9
      have hn5 : L.length + 1 = n5 := by have := Kd.C_len (R_C hr5); rw [statesL_len] at this; exact this
      obtain ⟨ad5, ea5⟩ : ∃ ad, A5 = some ad := by
        obtain ⟨ad, h, _⟩ := C_hash (R_C hr5) 0 (by rw [statesL_len]; omega)
        exact ⟨ad, h⟩
      subst ea5
      have hg := statesL_get wd L L.length L.length (Nat.le_refl _)
      rw [HSm.out] at hg
      have HH := Aside0.mk (C_hash_at (R_C hr5) L.length hg)
      have HB5 := Aside0.mk (blt HB4.out hb5)
      have HR5 := Aside0.mk (HRes.out.below HB5.out)
      have g1 : IntKind.i64.wrap ((n5 : Int) - 1) = ((L.length : Nat) : Int) := by rw [IntWalk.i64_in _ (by have := HLl.out; omega)]; omega
      have g2 : ((L.length : Nat) : Int) < (n5 : Int) := by omega
      generalize L.length = nl at *
      clear hr5 hb5 hg hn5 HSt HB4 HR2
      go_wp2_with (first | ((with_reducible refine gate_dst (N := 29) rfl ?_); go_loud (refine load_hash rfl (.tmp 28) rfl _ _ rfl HH.out ?_)) | ((with_reducible refine gate_store (t := 63) (p := 4) (v := .tmp 29) rfl ?_); go_loud (refine store_var 63 (sumH wd bs).cells rfl rfl (.tmp 4) (.tmp 29) rfl (by rw [Hsh.cells_len]; exact sizeH) hone w.heap.size 63 [Value.int .u8 0, Value.int .u8 0, Value.int .u8 0, Value.int .u8 0, Value.int .u8 0, Value.int .u8 0, Value.int .u8 0, Value.int .u8 0, Value.int .u8 0, Value.int .u8 0, Value.int .u8 0, Value.int .u8 0, Value.int .u8 0, Value.int .u8 0, Value.int .u8 0, Value.int .u8 0, Value.int .u8 0, Value.int .u8 0, Value.int .u8 0, Value.int .u8 0, Value.int .u8 0, Value.int .u8 0, Value.int .u8 0, Value.int .u8 0, Value.int .u8 0, Value.int .u8 0, Value.int .u8 0, Value.int .u8 0, Value.int .u8 0, Value.int .u8 0, Value.int .u8 0, Value.int .u8 0] HR5.out (by rw [Hsh.cells_len]; rfl) rfl rfl ?_; intro w7 hz7 hf7; have HZ7 := Aside0.mk hz7; have HF7 := Aside0.mk hf7; clear hz7 hf7)))
      (try simp only [Exit.inBlock, Exit.then])
      refine bodyPost_ret (results_blk (fn := Tryd.f57) (p := 4) (ty := 63) rfl _ _ w.heap.size 63 (sumH wd bs).cells _ rfl HZ7.out Tryd.underlying63 rfl (by rw [Hsh.cells_len]; exact sizeH)) rfl ?_
      have hbw := HB0.out.trans (HB5.out.mono HB0.out.size)
      exact ⟨rfl, hbw.trans (HF7.out.below hbw.size (fun k hk => by have hk : k = w.heap.size := hk; omega))⟩
end Go.Proofs.YtefnonlhepekdaaDoor.M

set_option linter.unusedVariables false
set_option linter.unusedSimpArgs false
namespace Go.Proofs.YtefnonlhepekdaaDoor.M
open Go.RowKit Go.Proofs.YtefnonlhepekdaaDoorW.PrintWords Go.Proofs.YtefnonlhepekdaaDoorW.PrintLast Go.Proofs.YtefnonlhepekdaaDoorW.PrintMore Go.Proofs.YtefnonlhepekdaaDoor.Leaf

theorem step_of_wanted {P : Program} {ops : Array Oper} {o : Oper} {a : Act} {w : World} {K : Act → World → Prop} {Q : Exit → Act → World → Prop} {E : Prop} (hw : Region.wanted o (yielded ops a.tmps) = true)
    (h : wpList P ops (fun e a w => e = .normal ∧ K a w) [{o with guard := none}] a w) : if Region.wanted o (yielded ops a.tmps) = true then Oper.wp P o a w K Q else E := by
  have h2 := step_of_list (o := {o with guard := none}) (Q := Q) (E := E) rfl h
  rw [if_pos hw]
  rw [if_pos (by simp [Region.wanted])] at h2
  exact h2
theorem byte_inj : ∀ (xs ys : List Int), Bytes xs → Bytes ys → Lib.bytesOf xs = Lib.bytesOf ys → xs = ys
  | [], [], _, _, _ => rfl
  | [], y :: ys, _, _, h => by simp [Lib.bytesOf] at h
  | x :: xs, [], _, _, h => by simp [Lib.bytesOf] at h
  | x :: xs, y :: ys, hx, hy, h => by
    have h1 := hx x List.mem_cons_self
    have h2 := hy y List.mem_cons_self
    simp only [Lib.bytesOf, List.map_cons, List.cons.injEq] at h
    have h3 := congrArg UInt8.toNat h.1
    rw [UInt8.toNat_ofNat', UInt8.toNat_ofNat'] at h3
    have h4 : x = y := by omega
    rw [h4, byte_inj xs ys (fun b hb => hx b (List.mem_cons_of_mem _ hb)) (fun b hb => hy b (List.mem_cons_of_mem _ hb)) h.2]
theorem equal_calls (xs ys : List Int) (hx : Bytes xs) (hy : Bytes ys) (A B : Option Addr) (n m c d : Nat) (w : World) (hc : n ≤ c) (hd : m ≤ d) (hA : Kd.C (Kd.int .u8) w A n xs) (hB : Kd.C (Kd.int .u8) w B m ys) :
    Calls Tryd.prog 54 #[.slice A n c, .slice B m d] w fun e w' => e = .returned (.bool (decide (xs = ys))) ∧ ∃ nd, w' = w.drewN nd := by
  have h1 : xs.length = n := Kd.C_len hA
  have h2 : ys.length = m := Kd.C_len hB
  subst h1 h2
  refine (bytes_Equal.calls A c xs B d ys _ w hA hc hB hd rfl).mono ?_
  rintro e w' ⟨rfl, hd⟩
  refine ⟨?_, drawn_N hd⟩
  rw [Lib.strOfNums_toList, Lib.strOfNums_toList]
  by_cases h : xs = ys
  · subst h
    simp
  · have h3 : ¬ Lib.bytesOf xs = Lib.bytesOf ys := fun he => h (byte_inj xs ys hx hy he)
    simp [h, h3]
theorem sameB_calls (xs ys : List Int) (hl : xs.length ≤ 1000000000) (A B : Option Addr) (n m c d : Nat) (w : World) (hc : n ≤ c) (hd : m ≤ d) (hA : Kd.C (Kd.int .u8) w A n xs) (hB : Kd.C (Kd.int .u8) w B m ys) :
    Calls Tryd.prog 56 #[.slice A n c, .slice B m d] w fun e w' => e = .returned (.bool (decide (xs = ys))) ∧ ∃ nd, w' = w.drewN nd := by
  have h1 : xs.length = n := Kd.C_len hA
  have h2 : ys.length = m := Kd.C_len hB
  subst h1 h2
  obtain ⟨k, hk⟩ := (sameB_val xs ys (by omega)).rounds
  refine (massifref2_SameBytes.calls k A c xs B d ys _ w hA hc hB hd hk).mono ?_
  rintro e w' ⟨rfl, hd⟩
  exact ⟨rfl, drawn_N hd⟩
end Go.Proofs.YtefnonlhepekdaaDoor.M
