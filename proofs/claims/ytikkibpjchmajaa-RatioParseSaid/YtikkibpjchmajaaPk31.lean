/-
  The contract of 'known' of layer 6's statements. Printed by wip/gen/rat.py.
-/
import Derived.Test.YtikkibpjchmajaaPk29
import Derived.Test.YtikkibpjchmajaaPk30
namespace Go.Proofs.Ytikkibpjchmajaa
open Go.RowKit
open Go.Lib (hid)

theorem dgs_lit {m : Nat} {d : List Nat} (h : nd 10 m = d) : dgs m = (d.map (· + 48)).reverse := by unfold dgs; rw [h]
theorem tx_lit {m : Nat} {d : List Nat} (h0 : m ≠ 0) (h : nd 10 m = d) : tx (m : Int) = (d.map (· + 48)).reverse := by
  unfold tx
  rw [if_neg (by omega), if_neg (by omega), Int.natAbs_natCast, dgs_lit h]
theorem tx_litn {m : Nat} {d : List Nat} (h0 : m ≠ 0) (h : nd 10 m = d) : tx (-(m : Int)) = 45 :: (d.map (· + 48)).reverse := by
  unfold tx
  rw [if_neg (by omega), if_pos (by omega), Int.natAbs_neg, Int.natAbs_natCast, dgs_lit h]
theorem tx_1 : tx 1 = [49] := tx_lit (m := 1) (d := [1]) (by omega) (eq_nd (by omega) ⟨by decide, by decide⟩ (by decide)).symm
theorem tx_2 : tx 2 = [50] := tx_lit (m := 2) (d := [2]) (by omega) (eq_nd (by omega) ⟨by decide, by decide⟩ (by decide)).symm
theorem tx_3 : tx 3 = [51] := tx_lit (m := 3) (d := [3]) (by omega) (eq_nd (by omega) ⟨by decide, by decide⟩ (by decide)).symm
theorem tx_4 : tx 4 = [52] := tx_lit (m := 4) (d := [4]) (by omega) (eq_nd (by omega) ⟨by decide, by decide⟩ (by decide)).symm
theorem tx_n3 : tx (-3) = [45, 51] := tx_litn (m := 3) (d := [3]) (by omega) (eq_nd (by omega) ⟨by decide, by decide⟩ (by decide)).symm
theorem pz_tx {z : Int} {l : List Nat} (h : tx z = l) : pz l = z := h ▸ (tx_good z).2
theorem no_24 (r : Rat) : byt ⟨#[50, 47, 52]⟩ ≠ txr r := fun e => by
  have h := (txr_cut (a := [50]) (b := [52]) (by decide) (Eq.trans (by decide) e)).2.2.2.2.2
  rw [pz_tx tx_2, pz_tx tx_4] at h
  exact absurd h (by decide)
theorem no_31 (r : Rat) : byt ⟨#[51, 47, 49]⟩ ≠ txr r := fun e => by
  have h := (txr_cut (a := [51]) (b := [49]) (by decide) (Eq.trans (by decide) e)).2.2.2.2.1
  rw [pz_tx tx_1] at h
  exact absurd h (by decide)
theorem lit_bytes : byt ⟨#[45, 51, 47, 50]⟩ = [45, 51, 47, 50] := by decide
theorem six_four : txr (((6 : Int) : Rat) / ((-4 : Int) : Rat)) = [45, 51, 47, 50] := by
  obtain ⟨h1, h2⟩ := rat_parts (N := 6) (D := -4) (by omega)
  have e1 : fn 6 (-4) = -3 := by decide +kernel
  have e2 : fd 6 (-4) = 2 := by decide +kernel
  rw [e1] at h1
  rw [e2] at h2
  rw [txr_part (by omega), h1, h2, tx_n3, tx_2]
  rfl
set_option maxHeartbeats 6400000 in
set_option maxRecDepth 100000 in
theorem known_any6 {w : World} : Calls Try.prog 8 #[] w (RetE (.bool true) w) := by
  obtain ⟨x, hx⟩ : ∃ x : Rat, ((6 : Int) : Rat) / ((-4 : Int) : Rat) = x := ⟨_, rfl⟩
  obtain ⟨T, hT⟩ : ∃ T, bts (txr x) = T := ⟨_, rfl⟩
  have hE : (T.toList == [45, 51, 47, 50]) = true := by
    rw [← hT, ← hx, six_four, beq_iff_eq, ByteArray.toList_eq]
    rfl
  have h0 := hid (show rs (x + -x) = 0 from rs_zero.2 (by grind))
  have HX := hid hx
  have HT := hid hT
  clear hx hT
  go_enter Try.func8, Try.ntmps8
  go_upto_region 2 with (first
    | ((go_at_call 10); (with_reducible refine (qsm_is (a := 6) (b := -4) (by omega) (by omega) (by omega) (by omega) (by omega) HX.out).mono ?_); rintro E1 w1 ⟨b1, A1, n1, c1, e1, B1, m1, d1, rfl, o1, hr1⟩; have X1 := hid ((Ext.refl _).trans hr1); have hy1 := hid hr1; clear hr1; have O1 := hid (o1.mono (Ext.refl _).size); clear o1))
  have hy2 := hid ((Ext.refl w1).alloc (.cells #[.bool b1, .slice A1 n1 c1, .bool e1, .slice B1 m1 d1] 27))
  have Bx_ := (Bk.new w1 27 #[.bool b1, .slice A1 n1 c1, .bool e1, .slice B1 m1 d1])
  have Bx := hid Bx_
  clear Bx_
  generalize (w1.alloc (.cells #[.bool b1, .slice A1 n1 c1, .bool e1, .slice B1 m1 d1] 27)) = w2 at *
  have X2 := hid (X1.out.trans hy2.out)
  go_upto_region 3 with (first
    | ((go_at_call 18); (with_reducible refine (qparse_no (s := ⟨#[50, 47, 52]⟩) (by decide) no_24).mono ?_); rintro E3 w3 ⟨rfl, hr3⟩; have X3 := hid (X2.out.trans hr3); have hy3 := hid hr3; clear hr3))
  have hy4 := hid ((Ext.refl w3).alloc (.cells #[.bool false, .slice none 0 0, .bool false, .slice none 0 0] 27))
  have Bu_ := (Bk.new w3 27 #[.bool false, .slice none 0 0, .bool false, .slice none 0 0])
  have Bu := hid Bu_
  clear Bu_
  generalize (w3.alloc (.cells #[.bool false, .slice none 0 0, .bool false, .slice none 0 0] 27)) = w4 at *
  have X4 := hid (X3.out.trans hy4.out)
  go_upto_region 4 with (first
    | ((go_at_call 18); (with_reducible refine (qparse_no (s := ⟨#[51, 47, 49]⟩) (by decide) no_31).mono ?_); rintro E5 w5 ⟨rfl, hr5⟩; have X5 := hid (X4.out.trans hr5); have hy5 := hid hr5; clear hr5))
  have hy6 := hid ((Ext.refl w5).alloc (.cells #[.bool false, .slice none 0 0, .bool false, .slice none 0 0] 27))
  have Bv_ := (Bk.new w5 27 #[.bool false, .slice none 0 0, .bool false, .slice none 0 0])
  have Bv := hid Bv_
  clear Bv_
  generalize (w5.alloc (.cells #[.bool false, .slice none 0 0, .bool false, .slice none 0 0] 27)) = w6 at *
  have X6 := hid (X5.out.trans hy6.out)
  go_upto_region 5 with (first
    | ((go_at_call 10); (with_reducible refine (qsm_zero (a := 1) (by omega) (by omega)).mono ?_); rintro E7 w7 ⟨rfl, hr7⟩; have X7 := hid (X6.out.trans hr7); have hy7 := hid hr7; clear hr7))
  have hy8 := hid ((Ext.refl w7).alloc (.cells #[.bool false, .slice none 0 0, .bool false, .slice none 0 0] 27))
  have By_ := (Bk.new w7 27 #[.bool false, .slice none 0 0, .bool false, .slice none 0 0])
  have By := hid By_
  clear By_
  generalize (w7.alloc (.cells #[.bool false, .slice none 0 0, .bool false, .slice none 0 0] 27)) = w8 at *
  have X8 := hid (X7.out.trans hy8.out)
  have hk5_0 : w8.cell? ⟨w1.heap.size, 0, none⟩ = some (.bool b1) ∧ w8.cell? ⟨w1.heap.size, 1, none⟩ = some (.slice A1 n1 c1) ∧ w8.cell? ⟨w1.heap.size, 2, none⟩ = some (.bool e1) ∧ w8.cell? ⟨w1.heap.size, 3, none⟩ = some (.slice B1 m1 d1) := ⟨(Bx.out.ext (((((hy3.out.trans hy4.out).trans hy5.out).trans hy6.out).trans hy7.out).trans hy8.out)).c 0, (Bx.out.ext (((((hy3.out.trans hy4.out).trans hy5.out).trans hy6.out).trans hy7.out).trans hy8.out)).c 1, (Bx.out.ext (((((hy3.out.trans hy4.out).trans hy5.out).trans hy6.out).trans hy7.out).trans hy8.out)).c 2, (Bx.out.ext (((((hy3.out.trans hy4.out).trans hy5.out).trans hy6.out).trans hy7.out).trans hy8.out)).c 3⟩
  have hk5_1 : w8.drew.cell? ⟨w1.heap.size, 0, none⟩ = some (.bool b1) ∧ w8.drew.cell? ⟨w1.heap.size, 1, none⟩ = some (.slice A1 n1 c1) ∧ w8.drew.cell? ⟨w1.heap.size, 2, none⟩ = some (.bool e1) ∧ w8.drew.cell? ⟨w1.heap.size, 3, none⟩ = some (.slice B1 m1 d1) := ⟨(Bx.out.ext ((((((hy3.out.trans hy4.out).trans hy5.out).trans hy6.out).trans hy7.out).trans hy8.out).trans (Ext.refl _).drew)).c 0, (Bx.out.ext ((((((hy3.out.trans hy4.out).trans hy5.out).trans hy6.out).trans hy7.out).trans hy8.out).trans (Ext.refl _).drew)).c 1, (Bx.out.ext ((((((hy3.out.trans hy4.out).trans hy5.out).trans hy6.out).trans hy7.out).trans hy8.out).trans (Ext.refl _).drew)).c 2, (Bx.out.ext ((((((hy3.out.trans hy4.out).trans hy5.out).trans hy6.out).trans hy7.out).trans hy8.out).trans (Ext.refl _).drew)).c 3⟩
  go_region_held3 (fun w' => w'.cell? ⟨w1.heap.size, 0, none⟩ = some (.bool b1) ∧ w'.cell? ⟨w1.heap.size, 1, none⟩ = some (.slice A1 n1 c1) ∧ w'.cell? ⟨w1.heap.size, 2, none⟩ = some (.bool e1) ∧ w'.cell? ⟨w1.heap.size, 3, none⟩ = some (.slice B1 m1 d1))
    (first | (with_reducible exact hk5_0) | (with_reducible exact hk5_1) | (with_reducible exact hk5_2) | (with_reducible exact hk5_3) | (with_reducible exact hk5_4) | (with_reducible exact hk5_5))
    (first
      | ((go_at_call 20); (with_reducible refine (rtext_qis (O1.out.ext (((((((hy2.out.trans hy3.out).trans hy4.out).trans hy5.out).trans hy6.out).trans hy7.out).trans hy8.out).trans (Ext.refl _).drew)).rv (by omega) HT.out).mono ?_); rintro E10 w10 ⟨rfl, hr10⟩; have X10 := hid ((X8.out.trans (Ext.refl _).drew).trans hr10); have hy10 := hid hr10; clear hr10; have hk5_2 : w10.cell? ⟨w1.heap.size, 0, none⟩ = some (.bool b1) ∧ w10.cell? ⟨w1.heap.size, 1, none⟩ = some (.slice A1 n1 c1) ∧ w10.cell? ⟨w1.heap.size, 2, none⟩ = some (.bool e1) ∧ w10.cell? ⟨w1.heap.size, 3, none⟩ = some (.slice B1 m1 d1) := ⟨(Bx.out.ext (((((((hy3.out.trans hy4.out).trans hy5.out).trans hy6.out).trans hy7.out).trans hy8.out).trans (Ext.refl _).drew).trans hy10.out)).c 0, (Bx.out.ext (((((((hy3.out.trans hy4.out).trans hy5.out).trans hy6.out).trans hy7.out).trans hy8.out).trans (Ext.refl _).drew).trans hy10.out)).c 1, (Bx.out.ext (((((((hy3.out.trans hy4.out).trans hy5.out).trans hy6.out).trans hy7.out).trans hy8.out).trans (Ext.refl _).drew).trans hy10.out)).c 2, (Bx.out.ext (((((((hy3.out.trans hy4.out).trans hy5.out).trans hy6.out).trans hy7.out).trans hy8.out).trans (Ext.refl _).drew).trans hy10.out)).c 3⟩)
      | ((go_at_call 29); (with_reducible refine (rneg_v (O1.out.ext ((((((((hy2.out.trans hy3.out).trans hy4.out).trans hy5.out).trans hy6.out).trans hy7.out).trans hy8.out).trans (Ext.refl _).drew).trans hy10.out)).rv (by omega)).mono ?_); rintro E11 w11 ⟨b11, A11, n11, c11, e11, B11, m11, d11, rfl, o11, hr11⟩; have X11 := hid (X10.out.trans hr11); have hy11 := hid hr11; clear hr11; have O11 := hid (o11.mono X10.out.size); clear o11; have hk5_3 : w11.cell? ⟨w1.heap.size, 0, none⟩ = some (.bool b1) ∧ w11.cell? ⟨w1.heap.size, 1, none⟩ = some (.slice A1 n1 c1) ∧ w11.cell? ⟨w1.heap.size, 2, none⟩ = some (.bool e1) ∧ w11.cell? ⟨w1.heap.size, 3, none⟩ = some (.slice B1 m1 d1) := ⟨(Bx.out.ext ((((((((hy3.out.trans hy4.out).trans hy5.out).trans hy6.out).trans hy7.out).trans hy8.out).trans (Ext.refl _).drew).trans hy10.out).trans hy11.out)).c 0, (Bx.out.ext ((((((((hy3.out.trans hy4.out).trans hy5.out).trans hy6.out).trans hy7.out).trans hy8.out).trans (Ext.refl _).drew).trans hy10.out).trans hy11.out)).c 1, (Bx.out.ext ((((((((hy3.out.trans hy4.out).trans hy5.out).trans hy6.out).trans hy7.out).trans hy8.out).trans (Ext.refl _).drew).trans hy10.out).trans hy11.out)).c 2, (Bx.out.ext ((((((((hy3.out.trans hy4.out).trans hy5.out).trans hy6.out).trans hy7.out).trans hy8.out).trans (Ext.refl _).drew).trans hy10.out).trans hy11.out)).c 3⟩)
      | ((go_at_call 25); (with_reducible refine (qadd_v (O1.out.ext (((((((((hy2.out.trans hy3.out).trans hy4.out).trans hy5.out).trans hy6.out).trans hy7.out).trans hy8.out).trans (Ext.refl _).drew).trans hy10.out).trans hy11.out)).rv O11.out.rv (by omega)).mono ?_); rintro E12 w12 ⟨b12, A12, n12, c12, e12, B12, m12, d12, rfl, o12, hr12⟩; have X12 := hid (X11.out.trans hr12); have hy12 := hid hr12; clear hr12; have O12 := hid (o12.mono X11.out.size); clear o12; have hk5_4 : w12.cell? ⟨w1.heap.size, 0, none⟩ = some (.bool b1) ∧ w12.cell? ⟨w1.heap.size, 1, none⟩ = some (.slice A1 n1 c1) ∧ w12.cell? ⟨w1.heap.size, 2, none⟩ = some (.bool e1) ∧ w12.cell? ⟨w1.heap.size, 3, none⟩ = some (.slice B1 m1 d1) := ⟨(Bx.out.ext (((((((((hy3.out.trans hy4.out).trans hy5.out).trans hy6.out).trans hy7.out).trans hy8.out).trans (Ext.refl _).drew).trans hy10.out).trans hy11.out).trans hy12.out)).c 0, (Bx.out.ext (((((((((hy3.out.trans hy4.out).trans hy5.out).trans hy6.out).trans hy7.out).trans hy8.out).trans (Ext.refl _).drew).trans hy10.out).trans hy11.out).trans hy12.out)).c 1, (Bx.out.ext (((((((((hy3.out.trans hy4.out).trans hy5.out).trans hy6.out).trans hy7.out).trans hy8.out).trans (Ext.refl _).drew).trans hy10.out).trans hy11.out).trans hy12.out)).c 2, (Bx.out.ext (((((((((hy3.out.trans hy4.out).trans hy5.out).trans hy6.out).trans hy7.out).trans hy8.out).trans (Ext.refl _).drew).trans hy10.out).trans hy11.out).trans hy12.out)).c 3⟩)
      | ((go_at_call 28); (with_reducible refine (rsign_is (v := 0) O12.out.rv (by omega) h0.out).mono ?_); rintro E13 w13 ⟨rfl, hr13⟩; have X13 := hid (X12.out.trans hr13); have hy13 := hid hr13; clear hr13; have hk5_5 : w13.cell? ⟨w1.heap.size, 0, none⟩ = some (.bool b1) ∧ w13.cell? ⟨w1.heap.size, 1, none⟩ = some (.slice A1 n1 c1) ∧ w13.cell? ⟨w1.heap.size, 2, none⟩ = some (.bool e1) ∧ w13.cell? ⟨w1.heap.size, 3, none⟩ = some (.slice B1 m1 d1) := ⟨(Bx.out.ext ((((((((((hy3.out.trans hy4.out).trans hy5.out).trans hy6.out).trans hy7.out).trans hy8.out).trans (Ext.refl _).drew).trans hy10.out).trans hy11.out).trans hy12.out).trans hy13.out)).c 0, (Bx.out.ext ((((((((((hy3.out.trans hy4.out).trans hy5.out).trans hy6.out).trans hy7.out).trans hy8.out).trans (Ext.refl _).drew).trans hy10.out).trans hy11.out).trans hy12.out).trans hy13.out)).c 1, (Bx.out.ext ((((((((((hy3.out.trans hy4.out).trans hy5.out).trans hy6.out).trans hy7.out).trans hy8.out).trans (Ext.refl _).drew).trans hy10.out).trans hy11.out).trans hy12.out).trans hy13.out)).c 2, (Bx.out.ext ((((((((((hy3.out.trans hy4.out).trans hy5.out).trans hy6.out).trans hy7.out).trans hy8.out).trans (Ext.refl _).drew).trans hy10.out).trans hy11.out).trans hy12.out).trans hy13.out)).c 3⟩))
  clear hk5_0 hk5_1 hk5_2 hk5_3 hk5_4 hk5_5
  go_wp2_with fail
  go_ret
  exact ⟨rfl, X13.out⟩


end Go.Proofs.Ytikkibpjchmajaa

