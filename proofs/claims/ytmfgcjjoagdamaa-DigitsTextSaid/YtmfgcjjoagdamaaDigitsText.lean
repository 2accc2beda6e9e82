
/-
  The walk of DigitsText.
-/
import Derived.Test.YtmfgcjjoagdamaaKnown5
import Derived.Test.YtmfgcjjoagdamaaRText
import Derived.Test.YtmfgcjjoagdamaaDraw
namespace Go.Proofs.Ytmfgcjjoagdamaa
open Go.RowKit
open Go.Lib (hid)

/-- The text of a number is read again. -/
theorem parse_text {w : World} {z : Int} {N : Nat} (hz : z.natAbs < 10 ^ N) (hN : N ≤ 10000) : Calls Try.prog 15 #[.string (bts (tx z))] w (RetIE (3 * N + 3) z 0 w) := by
  have hl : (bts (tx z)).size ≤ N + 1 := by
    rw [bts_len]
    have := tx_len z
    have := (nd_len_le (b := 10) (by omega)).2 hz
    omega
  have hb := byt_bts (tx_lim z)
  refine (parse_is (s := bts (tx z)) (z := z) (e := 0) (by omega) (by rw [hb]; exact (tx_good z).2) (by rw [hb]; exact pe_good (tx_good z).1)).mono ?_
  rintro E w' ⟨b, A, n, c, rfl, hc, hx⟩
  exact ⟨b, A, n, c, rfl, ⟨hc.1, hc.2.1, Nat.le_trans hc.2.2 (by omega)⟩, hx⟩
theorem rtext_is {w : World} {s : Bool} {A : Option Addr} {n c K : Nat} {z : Int} {t : ByteArray} (h : Iz K w s A n c z) (hK : K ≤ 100000) (ht : bts (tx z) = t) :
    Calls Try.prog 16 #[.agg #[.bool s, .slice A n c]] w (RetE (.string t) w) := ht ▸ rtext_v h hK
/-- Two structs of one sign and of the same limbs. -/
theorem zsame_l {w : World} {s : Bool} {A B : Option Addr} {n c d lo : Nat} {e : TypeId} {xs : List Nat} (h : Own .u32 e w lo A n c xs) (h' : Sl .u32 w B n d xs) (hn : n ≤ 1099511627776) :
    Calls Try.prog 17 #[.agg #[.bool s, .slice A n c], .agg #[.bool s, .slice B n d]] w (RetE (.bool true) w) :=
  zsame_of rfl fun _ hx => same_yes (h.sl.ext hx) (h'.ext hx) rfl hn

set_option maxHeartbeats 3200000 in
set_option maxRecDepth 100000 in
theorem digitsText_small {w : World} {s : Bool} {P : Option Addr} {l k : Nat} {xs : List Nat} (h : Sl .u32 w P l k xs) (m : Lim 4294967296 xs) (hl : l ≤ 40) :
    Calls Try.prog 3 #[.agg #[.bool s, .slice P l k]] w (RetE (.bool true) w) := by
  have hz : Iz 40 w s P l k (zv s (nv 4294967296 xs)) := Iz.mk (Nv.mk h m hl)
  have B0 := Bx.new w s P l k
  have X0 := hid ((Ext.refl w).alloc (.cells #[.bool s, .slice P l k] 24))
  have HS := hid (h.ext X0.out)
  have HI := hid (hz.ext X0.out)
  have hl' : ¬ (40 : Int) < (l : Int) := by omega
  have hsz : (w.alloc (.cells #[.bool s, .slice P l k] 24)).heap.size = w.heap.size + 1 := size_alloc _ _
  have hc1 := B0.c1
  have HB0 := hid B0
  have HM := hid m
  clear h m hz B0
  generalize hzz : zv s (nv 4294967296 xs) = z at *
  have HZ := hid hzz
  clear hzz
  have HN := hid (Nat.lt_of_lt_of_le HI.out.bound (pow_10_32 40))
  go_enter Try.func3, Try.ntmps3
  go_wp2_with fail
  clear hc1
  generalize w.alloc (.cells #[.bool s, .slice P l k] 24) = W at *
  go_upto_region 3 with fail
  go_cut [3] (fun v3 wx => ∃ (g3 : Nat) (A3 : Option Addr) (c3 : Nat), v3 = .pointer (some ⟨g3, 0, none⟩) ∧ Bx wx g3 s A3 l c3 ∧ Own .u32 39 wx 0 A3 l c3 xs ∧ Ext W wx)
  case first =>
    refine wp_region_held_drew (S := fun w' => Ext W w') (by kernel_rfl) (Ext.refl _).drew (fun hS0 => ?_)
    change wpAnyH _ _ _ _ _ 9 #[false, false, false, false, false, false, false, false, false] _ _
    refine drawn_free 0 12 (v := ?v0_1) (.fieldAddr 24 (.tmp 1) 0) (by kernel_rfl) ?hy0_1 (by kernel_rfl) (by kernel_rfl) (by kernel_rfl) (fun _ _ _ _ h => h) hS0 ?hr0_1
    case hy0_1 => (intro o ho w' hS; unfold execOp; simp only [ho]; go_simp; try with_reducible rfl)
    simp only [Act.put, List.setIfInBounds_toArray, List.set_cons_zero, List.set_cons_succ]
    refine drawn_free 1 13 (v := ?v1_2) (.load 4 (.tmp 12)) (by kernel_rfl) ?hy1_2 (by kernel_rfl) (by kernel_rfl) (by kernel_rfl) (fun _ _ _ _ h => h) hS0 ?hr1_2
    case hy1_2 => (intro o ho w' hS; have h0 := (HB0.out.ext hS).c0; unfold execOp; simp only [ho]; go_simp; try with_reducible rfl)
    simp only [Act.put, List.setIfInBounds_toArray, List.set_cons_zero, List.set_cons_succ]
    refine drawn_free 3 15 (v := ?v3_3) (.fieldAddr 24 (.tmp 1) 1) (by kernel_rfl) ?hy3_3 (by kernel_rfl) (by kernel_rfl) (by kernel_rfl) (fun _ _ _ _ h => h) hS0 ?hr3_3
    case hy3_3 => (intro o ho w' hS; unfold execOp; simp only [ho]; go_simp; try with_reducible rfl)
    simp only [Act.put, List.setIfInBounds_toArray, List.set_cons_zero, List.set_cons_succ]
    refine drawn_free 4 16 (v := ?v4_4) (.load 22 (.tmp 15)) (by kernel_rfl) ?hy4_4 (by kernel_rfl) (by kernel_rfl) (by kernel_rfl) (fun _ _ _ _ h => h) hS0 ?hr4_4
    case hy4_4 => (intro o ho w' hS; have h0 := (HB0.out.ext hS).c1; unfold execOp; simp only [ho]; go_simp; try with_reducible rfl)
    simp only [Act.put, List.setIfInBounds_toArray, List.set_cons_zero, List.set_cons_succ]
    refine wpAnyH_ready (rs := [2, 7]) (by kernel_rfl) (by simp) ?_
    refine drawn_empty 2 (some 14) .u32 (by kernel_rfl) empty_u32 (fun q2 v2 ho2 hx2 => ⟨hS0.trans hx2, ?_⟩) ?_
    · skip
      simp only [Act.put, List.setIfInBounds_toArray, List.set_cons_zero, List.set_cons_succ]
      have ho2 := ho2.mono hS0.size
      have S2 := hS0.trans hx2
      refine wpAnyH_ready (rs := [5, 7]) (by kernel_rfl) (by simp) ?_
      refine drawn_own 5 (some 17) (w0 := W) (.tmp 14) (.tmp 16) _ (by kernel_rfl) Try.underlying22 info_u32 rfl rfl ho2 (HS.out.ext S2) S2 (by omega) (by simp only [maxLen]; omega) (fun A5 c5 v5 ho5 hx5' hx5 => ⟨hx5', ?_⟩) ?_
      · skip
        simp only [Act.put, List.setIfInBounds_toArray, List.set_cons_zero, List.set_cons_succ]
        refine drawn_free 6 18 (v := ?v6_5) (.build 24 #[(0, .tmp 13), (1, .tmp 17)]) (by kernel_rfl) ?hy6_5 (by kernel_rfl) (by kernel_rfl) (by kernel_rfl) (fun _ _ _ _ h => h) hx5' ?hr6_5
        case hy6_5 => (intro o ho w' hS; unfold execOp; simp only [ho]; go_simp; try with_reducible rfl)
        simp only [Act.put, List.setIfInBounds_toArray, List.set_cons_zero, List.set_cons_succ]
        refine wpAnyH_ready (rs := [7]) (by kernel_rfl) (by simp) ?_
        refine drawn_alloc 7 (some 3) (by kernel_rfl) alloc_int (fun g7 v7 hb7 hx7 hg7 => ⟨hx5'.trans hx7, ?_⟩) ?_
        · skip
          simp only [Act.put, List.setIfInBounds_toArray, List.set_cons_zero, List.set_cons_succ]
          have S7 := hx5'.trans hx7
          have ge7 := Nat.le_trans hx5'.size hg7
          refine wpAnyH_ready (rs := [8]) (by kernel_rfl) (by simp) ?_
          refine drawn_store 8 24 (.tmp 3) (.tmp 18) g7 #[.bool s, .slice A5 l c5] #[.bool false, .slice none 0 0] 24 (by kernel_rfl) rfl rfl (show Bx v7 g7 false none 0 0 from hb7) info_int_s rfl one_two (fun v8 hb8 hg8 => ⟨S7.gb hg8 ge7, ?_⟩) ?_
          · skip
            simp only [Act.put, List.setIfInBounds_toArray, List.set_cons_zero, List.set_cons_succ]
            have hq8 := (show Bx v7 g7 false none 0 0 from hb7)
            have S8 := S7.gb hg8 ge7
            refine wpAnyH_done (by kernel_rfl) ?_ _
            go_step
            go_step
            go_meet
            case rel => exact ⟨_, _, _, rfl, (show Bx v8 g7 s A5 l c5 from hb8), (((ho5.ext hx7).gbx hq8 (by decide) hg8).mono (Nat.zero_le _)), S8⟩
          exact drawn_nil
        exact drawn_nil
      refine drawn_alloc 7 (some 3) (by kernel_rfl) alloc_int (fun g7 v7 hb7 hx7 hg7 => ⟨S2.trans hx7, ?_⟩) ?_
      · skip
        simp only [Act.put, List.setIfInBounds_toArray, List.set_cons_zero, List.set_cons_succ]
        have S7 := S2.trans hx7
        have ge7 := Nat.le_trans S2.size hg7
        refine wpAnyH_ready (rs := [5]) (by kernel_rfl) (by simp) ?_
        refine drawn_own 5 (some 17) (w0 := W) (.tmp 14) (.tmp 16) _ (by kernel_rfl) Try.underlying22 info_u32 rfl rfl (ho2.ext hx7) (HS.out.ext S7) S7 (by omega) (by simp only [maxLen]; omega) (fun A5 c5 v5 ho5 hx5' hx5 => ⟨hx5', ?_⟩) ?_
        · skip
          simp only [Act.put, List.setIfInBounds_toArray, List.set_cons_zero, List.set_cons_succ]
          refine drawn_free 6 18 (v := ?v6_6) (.build 24 #[(0, .tmp 13), (1, .tmp 17)]) (by kernel_rfl) ?hy6_6 (by kernel_rfl) (by kernel_rfl) (by kernel_rfl) (fun _ _ _ _ h => h) hx5' ?hr6_6
          case hy6_6 => (intro o ho w' hS; unfold execOp; simp only [ho]; go_simp; try with_reducible rfl)
          simp only [Act.put, List.setIfInBounds_toArray, List.set_cons_zero, List.set_cons_succ]
          refine wpAnyH_ready (rs := [8]) (by kernel_rfl) (by simp) ?_
          refine drawn_store 8 24 (.tmp 3) (.tmp 18) g7 #[.bool s, .slice A5 l c5] #[.bool false, .slice none 0 0] 24 (by kernel_rfl) rfl rfl ((show Bx v7 g7 false none 0 0 from hb7).own (ho2.ext hx7) (by decide) hx5) info_int_s rfl one_two (fun v8 hb8 hg8 => ⟨hx5'.gb hg8 ge7, ?_⟩) ?_
          · skip
            simp only [Act.put, List.setIfInBounds_toArray, List.set_cons_zero, List.set_cons_succ]
            have hq8 := ((show Bx v7 g7 false none 0 0 from hb7).own (ho2.ext hx7) (by decide) hx5)
            have S8 := hx5'.gb hg8 ge7
            refine wpAnyH_done (by kernel_rfl) ?_ _
            go_step
            go_step
            go_meet
            case rel => exact ⟨_, _, _, rfl, (show Bx v8 g7 s A5 l c5 from hb8), ((ho5.gbx hq8 (by decide) hg8).mono (Nat.zero_le _)), S8⟩
          exact drawn_nil
        exact drawn_nil
      exact drawn_nil
    refine drawn_alloc 7 (some 3) (by kernel_rfl) alloc_int (fun g7 v7 hb7 hx7 hg7 => ⟨hS0.trans hx7, ?_⟩) ?_
    · skip
      simp only [Act.put, List.setIfInBounds_toArray, List.set_cons_zero, List.set_cons_succ]
      have S7 := hS0.trans hx7
      have ge7 := Nat.le_trans hS0.size hg7
      refine wpAnyH_ready (rs := [2]) (by kernel_rfl) (by simp) ?_
      refine drawn_empty 2 (some 14) .u32 (by kernel_rfl) empty_u32 (fun q2 v2 ho2 hx2 => ⟨S7.trans hx2, ?_⟩) ?_
      · skip
        simp only [Act.put, List.setIfInBounds_toArray, List.set_cons_zero, List.set_cons_succ]
        have ho2 := ho2.mono S7.size
        have S2 := S7.trans hx2
        refine wpAnyH_ready (rs := [5]) (by kernel_rfl) (by simp) ?_
        refine drawn_own 5 (some 17) (w0 := W) (.tmp 14) (.tmp 16) _ (by kernel_rfl) Try.underlying22 info_u32 rfl rfl ho2 (HS.out.ext S2) S2 (by omega) (by simp only [maxLen]; omega) (fun A5 c5 v5 ho5 hx5' hx5 => ⟨hx5', ?_⟩) ?_
        · skip
          simp only [Act.put, List.setIfInBounds_toArray, List.set_cons_zero, List.set_cons_succ]
          refine drawn_free 6 18 (v := ?v6_7) (.build 24 #[(0, .tmp 13), (1, .tmp 17)]) (by kernel_rfl) ?hy6_7 (by kernel_rfl) (by kernel_rfl) (by kernel_rfl) (fun _ _ _ _ h => h) hx5' ?hr6_7
          case hy6_7 => (intro o ho w' hS; unfold execOp; simp only [ho]; go_simp; try with_reducible rfl)
          simp only [Act.put, List.setIfInBounds_toArray, List.set_cons_zero, List.set_cons_succ]
          refine wpAnyH_ready (rs := [8]) (by kernel_rfl) (by simp) ?_
          refine drawn_store 8 24 (.tmp 3) (.tmp 18) g7 #[.bool s, .slice A5 l c5] #[.bool false, .slice none 0 0] 24 (by kernel_rfl) rfl rfl (((show Bx v7 g7 false none 0 0 from hb7).ext hx2).own ho2 (by decide) hx5) info_int_s rfl one_two (fun v8 hb8 hg8 => ⟨hx5'.gb hg8 ge7, ?_⟩) ?_
          · skip
            simp only [Act.put, List.setIfInBounds_toArray, List.set_cons_zero, List.set_cons_succ]
            have hq8 := (((show Bx v7 g7 false none 0 0 from hb7).ext hx2).own ho2 (by decide) hx5)
            have S8 := hx5'.gb hg8 ge7
            refine wpAnyH_done (by kernel_rfl) ?_ _
            go_step
            go_step
            go_meet
            case rel => exact ⟨_, _, _, rfl, (show Bx v8 g7 s A5 l c5 from hb8), ((ho5.gbx hq8 (by decide) hg8).mono (Nat.zero_le _)), S8⟩
          exact drawn_nil
        exact drawn_nil
      exact drawn_nil
    exact drawn_nil
  case rest =>
  obtain ⟨g3, A3, c3, rfl, B3, O3, Y3⟩ := hcut
  obtain ⟨w3, hw3⟩ : ∃ w3, w3 = wc := ⟨_, rfl⟩
  subst hw3
  have hc0 := B3.c0
  have hc1 := B3.c1
  have I3 := hid (show Iz 40 w3 s A3 l c3 z from HZ.out ▸ Iz.mk (Nv.mk O3.sl HM.out hl))
  have HB3 := hid B3
  have HO3 := hid O3
  have Y3 := hid Y3
  clear B3 O3
  go_wp2_with fail
  refine (text_v I3.out (by omega)).mono ?_
  rintro E w4 ⟨rfl, x4⟩
  have Y4 := hid (Y3.out.trans x4)
  have Z4 := hid x4
  clear x4 hc0 hc1
  have pt := hid (fun w => parse_text (w := w) (z := z) (N := 10 * 40) HN.out (by omega))
  generalize hT : bts (tx z) = T at *
  have HT := hid hT
  clear hT
  go_wp2_with fail
  refine (pt.out w4).mono ?_
  rintro E w5' ⟨b5, A5, n5, c5, rfl, o5, x5⟩
  have x5' := x5.alloc (.cells #[.bool b5, .slice A5 n5 c5] 24)
  have HB5 := hid (Bx.new w5' b5 A5 n5 c5)
  have HC5 := hid (o5.ext ((Ext.refl w5').alloc (.cells #[.bool b5, .slice A5 n5 c5] 24)))
  have Y5 := hid (Y4.out.trans x5')
  have Z5 := hid (Z4.out.trans x5')
  clear o5 x5 x5' pt
  go_upto_region 6 with fail
  generalize w5'.alloc (.cells #[.bool b5, .slice A5 n5 c5] 24) = w5 at *
  generalize w5'.heap.size = g5 at *
  have hk0 : w5.cell? ⟨w.heap.size, 0, none⟩ = some (.bool s) ∧ w5.cell? ⟨w.heap.size, 1, none⟩ = some (.slice P l k) ∧ w5.cell? ⟨g3, 0, none⟩ = some (.bool s) ∧ w5.cell? ⟨g3, 1, none⟩ = some (.slice A3 l c3) ∧ w5.cell? ⟨g5, 0, none⟩ = some (.bool b5) ∧ w5.cell? ⟨g5, 1, none⟩ = some (.slice A5 n5 c5) := ⟨(HB0.out.ext (Y5.out.trans (Ext.refl _))).c0, (HB0.out.ext (Y5.out.trans (Ext.refl _))).c1, (HB3.out.ext (Z5.out.trans (Ext.refl _))).c0, (HB3.out.ext (Z5.out.trans (Ext.refl _))).c1, (HB5.out.ext (Ext.refl _)).c0, (HB5.out.ext (Ext.refl _)).c1⟩
  have hkd : w5.drew.cell? ⟨w.heap.size, 0, none⟩ = some (.bool s) ∧ w5.drew.cell? ⟨w.heap.size, 1, none⟩ = some (.slice P l k) ∧ w5.drew.cell? ⟨g3, 0, none⟩ = some (.bool s) ∧ w5.drew.cell? ⟨g3, 1, none⟩ = some (.slice A3 l c3) ∧ w5.drew.cell? ⟨g5, 0, none⟩ = some (.bool b5) ∧ w5.drew.cell? ⟨g5, 1, none⟩ = some (.slice A5 n5 c5) := ⟨(HB0.out.ext (Y5.out.trans (Ext.refl _).drew)).c0, (HB0.out.ext (Y5.out.trans (Ext.refl _).drew)).c1, (HB3.out.ext (Z5.out.trans (Ext.refl _).drew)).c0, (HB3.out.ext (Z5.out.trans (Ext.refl _).drew)).c1, (HB5.out.ext (Ext.refl _).drew).c0, (HB5.out.ext (Ext.refl _).drew).c1⟩
  go_region_held3 (fun w' => w'.cell? ⟨w.heap.size, 0, none⟩ = some (.bool s) ∧ w'.cell? ⟨w.heap.size, 1, none⟩ = some (.slice P l k) ∧ w'.cell? ⟨g3, 0, none⟩ = some (.bool s) ∧ w'.cell? ⟨g3, 1, none⟩ = some (.slice A3 l c3) ∧ w'.cell? ⟨g5, 0, none⟩ = some (.bool b5) ∧ w'.cell? ⟨g5, 1, none⟩ = some (.slice A5 n5 c5))
    (first | (with_reducible exact hk0) | (with_reducible exact hkd) | (with_reducible exact hk11) | (with_reducible exact hk12) | (with_reducible exact hk13) | (with_reducible exact hk14) | (with_reducible exact hk16) | (with_reducible exact hk17))
    (first
      | ((go_at_call 16); (with_reducible refine (rtext_is (HI.out.ext (Y5.out.trans (Ext.refl _).drew)) (by omega) HT.out).mono ?_); rintro E11 v11 ⟨rfl, hr11⟩; have F11 := hid (Ext.trans (Ext.refl w5).drew hr11); have hk11 : v11.cell? ⟨w.heap.size, 0, none⟩ = some (.bool s) ∧ v11.cell? ⟨w.heap.size, 1, none⟩ = some (.slice P l k) ∧ v11.cell? ⟨g3, 0, none⟩ = some (.bool s) ∧ v11.cell? ⟨g3, 1, none⟩ = some (.slice A3 l c3) ∧ v11.cell? ⟨g5, 0, none⟩ = some (.bool b5) ∧ v11.cell? ⟨g5, 1, none⟩ = some (.slice A5 n5 c5) := ⟨(HB0.out.ext (Y5.out.trans F11.out)).c0, (HB0.out.ext (Y5.out.trans F11.out)).c1, (HB3.out.ext (Z5.out.trans F11.out)).c0, (HB3.out.ext (Z5.out.trans F11.out)).c1, (HB5.out.ext F11.out).c0, (HB5.out.ext F11.out).c1⟩; clear hr11)
      | ((go_at_call 17); (with_reducible refine (zsame_l (HO3.out.ext (Z5.out.trans F11.out)) (HS.out.ext (Y5.out.trans F11.out)) (by omega)).mono ?_); rintro E12 v12 ⟨rfl, hr12⟩; have F12 := hid (Ext.trans F11.out hr12); have hk12 : v12.cell? ⟨w.heap.size, 0, none⟩ = some (.bool s) ∧ v12.cell? ⟨w.heap.size, 1, none⟩ = some (.slice P l k) ∧ v12.cell? ⟨g3, 0, none⟩ = some (.bool s) ∧ v12.cell? ⟨g3, 1, none⟩ = some (.slice A3 l c3) ∧ v12.cell? ⟨g5, 0, none⟩ = some (.bool b5) ∧ v12.cell? ⟨g5, 1, none⟩ = some (.slice A5 n5 c5) := ⟨(HB0.out.ext (Y5.out.trans F12.out)).c0, (HB0.out.ext (Y5.out.trans F12.out)).c1, (HB3.out.ext (Z5.out.trans F12.out)).c0, (HB3.out.ext (Z5.out.trans F12.out)).c1, (HB5.out.ext F12.out).c0, (HB5.out.ext F12.out).c1⟩; clear hr12)
      | ((go_at_call 18); (with_reducible refine (zof_v (HI.out.ext (Y5.out.trans F12.out)) (by omega)).mono ?_); rintro E13 v13 ⟨b13, A13, n13, c13, rfl, o13, hr13⟩; have O13 := hid o13; clear o13; have F13 := hid (Ext.trans F12.out hr13); have hk13 : v13.cell? ⟨w.heap.size, 0, none⟩ = some (.bool s) ∧ v13.cell? ⟨w.heap.size, 1, none⟩ = some (.slice P l k) ∧ v13.cell? ⟨g3, 0, none⟩ = some (.bool s) ∧ v13.cell? ⟨g3, 1, none⟩ = some (.slice A3 l c3) ∧ v13.cell? ⟨g5, 0, none⟩ = some (.bool b5) ∧ v13.cell? ⟨g5, 1, none⟩ = some (.slice A5 n5 c5) := ⟨(HB0.out.ext (Y5.out.trans F13.out)).c0, (HB0.out.ext (Y5.out.trans F13.out)).c1, (HB3.out.ext (Z5.out.trans F13.out)).c0, (HB3.out.ext (Z5.out.trans F13.out)).c1, (HB5.out.ext F13.out).c0, (HB5.out.ext F13.out).c1⟩; clear hr13)
      | ((go_at_call 19); (with_reducible refine (zint_v O13.out (by omega)).mono ?_); rintro E14 v14 ⟨b14, A14, n14, c14, rfl, o14, hr14⟩; have O14 := hid o14; clear o14; have F14 := hid (Ext.trans F13.out hr14); have hk14 : v14.cell? ⟨w.heap.size, 0, none⟩ = some (.bool s) ∧ v14.cell? ⟨w.heap.size, 1, none⟩ = some (.slice P l k) ∧ v14.cell? ⟨g3, 0, none⟩ = some (.bool s) ∧ v14.cell? ⟨g3, 1, none⟩ = some (.slice A3 l c3) ∧ v14.cell? ⟨g5, 0, none⟩ = some (.bool b5) ∧ v14.cell? ⟨g5, 1, none⟩ = some (.slice A5 n5 c5) := ⟨(HB0.out.ext (Y5.out.trans F14.out)).c0, (HB0.out.ext (Y5.out.trans F14.out)).c1, (HB3.out.ext (Z5.out.trans F14.out)).c0, (HB3.out.ext (Z5.out.trans F14.out)).c1, (HB5.out.ext F14.out).c0, (HB5.out.ext F14.out).c1⟩; clear hr14)
      | ((go_at_call 17); (with_reducible refine (zsame_v (HC5.out.ext F14.out) O14.out (by omega) rfl).mono ?_); rintro E16 v16 ⟨rfl, hr16⟩; have F16 := hid (Ext.trans F14.out hr16); have hk16 : v16.cell? ⟨w.heap.size, 0, none⟩ = some (.bool s) ∧ v16.cell? ⟨w.heap.size, 1, none⟩ = some (.slice P l k) ∧ v16.cell? ⟨g3, 0, none⟩ = some (.bool s) ∧ v16.cell? ⟨g3, 1, none⟩ = some (.slice A3 l c3) ∧ v16.cell? ⟨g5, 0, none⟩ = some (.bool b5) ∧ v16.cell? ⟨g5, 1, none⟩ = some (.slice A5 n5 c5) := ⟨(HB0.out.ext (Y5.out.trans F16.out)).c0, (HB0.out.ext (Y5.out.trans F16.out)).c1, (HB3.out.ext (Z5.out.trans F16.out)).c0, (HB3.out.ext (Z5.out.trans F16.out)).c1, (HB5.out.ext F16.out).c0, (HB5.out.ext F16.out).c1⟩; clear hr16)
      | ((go_at_call 13); (with_reducible refine (known_any5).mono ?_); rintro E17 v17 ⟨rfl, hr17⟩; have F17 := hid (Ext.trans F16.out hr17); have hk17 : v17.cell? ⟨w.heap.size, 0, none⟩ = some (.bool s) ∧ v17.cell? ⟨w.heap.size, 1, none⟩ = some (.slice P l k) ∧ v17.cell? ⟨g3, 0, none⟩ = some (.bool s) ∧ v17.cell? ⟨g3, 1, none⟩ = some (.slice A3 l c3) ∧ v17.cell? ⟨g5, 0, none⟩ = some (.bool b5) ∧ v17.cell? ⟨g5, 1, none⟩ = some (.slice A5 n5 c5) := ⟨(HB0.out.ext (Y5.out.trans F17.out)).c0, (HB0.out.ext (Y5.out.trans F17.out)).c1, (HB3.out.ext (Z5.out.trans F17.out)).c0, (HB3.out.ext (Z5.out.trans F17.out)).c1, (HB5.out.ext F17.out).c0, (HB5.out.ext F17.out).c1⟩; clear hr17))
  clear hk0 hkd hk11 hk12 hk13 hk14 hk16 hk17
  go_wp2_with fail
  go_ret
  exact ⟨rfl, X0.out.trans (Y5.out.trans F17.out)⟩
theorem digitsText_any {w : World} {s : Bool} {P : Option Addr} {l k : Nat} {xs : List Nat} (h : Sl .u32 w P l k xs) (m : Lim 4294967296 xs) :
    Calls Try.prog 3 #[.agg #[.bool s, .slice P l k]] w (RetE (.bool true) w) := by
  by_cases hl : l ≤ 40
  · exact digitsText_small h m hl
  · have hb : (40 : Int) < (l : Int) := by omega
    have X0 := hid ((Ext.refl w).alloc (.cells #[.bool s, .slice P l k] 24))
    have hc1 := (Bx.new w s P l k).c1
    clear h m hl
    go_enter Try.func3, Try.ntmps3
    go_wp2_with fail
    refine known_any5.mono ?_
    rintro E w1 ⟨rfl, x1⟩
    go_wp2_with fail
    go_ret
    exact ⟨rfl, X0.out.trans x1⟩
end Go.Proofs.Ytmfgcjjoagdamaa
