/-
  The walk of RatioCancels. Printed by wip/gen/rat.py.
-/
import Derived.Test.YtikkibpjchmajaaPk31
import Derived.Test.YtikkibpjchmajaaPk18
import Derived.Test.YtikkibpjchmajaaPk32
import Derived.Test.YtikkibpjchmajaaPk36
namespace Go.Proofs.Ytikkibpjchmajaa
open Go.RowKit
open Go.Lib (hid)

theorem txr_sz {w : World} {s t : Bool} {A B : Option Addr} {n c m d : Nat} {x : Rat} (h : Rv 8 w s A n c t B m d x) : (bts (txr x)).size ≤ 173 := txr_size h.bound.1 h.bound.2
theorem num_times (x : Rat) (k : Int) : ((x.num : Rat) * ((k : Rat) / ((1 : Int) : Rat))).num = x.num * k ∧ ((((x.den : Nat) : Int) : Rat) * ((k : Rat) / ((1 : Int) : Rat))).num = (x.den : Int) * k := by
  rw [rat_one, ← Rat.intCast_mul, ← Rat.intCast_mul]
  exact ⟨Rat.num_intCast _, Rat.num_intCast _⟩
theorem cancel_k (x : Rat) {k : Int} (hk : k ≠ 0) : (((x.num * k : Int) : Rat) / (((x.den : Int) * k : Int) : Rat)) = x := by
  have h1 := rat_self x
  have h2 := cast_ne hk
  have h3 := cast_ne (den_ne x)
  rw [Rat.intCast_mul, Rat.intCast_mul]
  grind
theorem txr_ne {x y : Rat} (h : x ≠ y) : ((bts (txr x)).toList == (bts (txr y)).toList) = false := sne6 (by rw [byt_bts (txr_lim x), byt_bts (txr_lim y)]; exact fun e => h (txr_inj e))
set_option maxHeartbeats 6400000 in
set_option maxRecDepth 100000 in
theorem ratioCancels_small {w : World} {sx tx sy ty : Bool} {Px Qx Py Qy : Option Addr} {lx kx mx dx ly ky my dy : Nat} {e : Bool} {x y : Rat} {k : Int} (hx : Rv 8 w sx Px lx kx tx Qx mx dx x) (hy : Rv 8 w sy Py ly ky ty Qy my dy y) (blx : lx ≤ 8) (bmx : mx ≤ 8) (bly : ly ≤ 8) (bmy : my ≤ 8) (hk : k ≠ 0) (hk0 : -9223372036854775808 ≤ k) (hk1 : k ≤ 9223372036854775807) (he : e = decide (x = y)) :
    Calls Try.prog 5 #[.agg #[.bool sx, .slice Px lx kx, .bool tx, .slice Qx mx dx], .agg #[.bool sy, .slice Py ly ky, .bool ty, .slice Qy my dy], .int .i64 k] w (RetE (.bool true) w) := by
  have hkk : (k == 0) = false := beq_eq_false_iff_ne.2 hk
  obtain ⟨b, hb⟩ : ∃ b : Rat, (k : Rat) / ((1 : Int) : Rat) = b := ⟨_, rfl⟩
  have hbk : ((b.num : Int) : Rat) = b := by rw [← hb, rat_one, Rat.num_intCast]
  have h0 := hid (show rs (x - x) = 0 from rs_zero.2 (by grind))
  have hn := num_times x k
  rw [hb] at hn
  have gn1 := hid hn.1
  have gn2 := hid hn.2
  have gn3 := hid (show (x.den : Int) * k ≠ 0 from Int.mul_ne_zero (den_ne x) hk)
  have gn4 := hid (cancel_k x hk)
  have hTs := txr_sz hx
  obtain ⟨T, hT⟩ : ∃ T, bts (txr x) = T := ⟨_, rfl⟩
  obtain ⟨U, hU⟩ : ∃ U, bts (txr y) = U := ⟨_, rfl⟩
  obtain ⟨B, hB⟩ : ∃ B, bts (txr b) = B := ⟨_, rfl⟩
  have hTU : (T.toList == U.toList) = e := by
    rw [he, ← hT, ← hU]
    by_cases h : x = y
    · rw [decide_eq_true h, h]; exact seq6 rfl
    · rw [decide_eq_false h]; exact txr_ne h
  have hee : (e == e) = true := beq_self_eq_true _
  have hBB : (B.toList == B.toList) = true := seq6 rfl
  rw [hT] at hTs
  have hTb := hid (show byt T = txr x by rw [← hT, byt_bts (txr_lim x)])
  have HBW := hid (show bts (txr ((b.num : Int) : Rat)) = B by rw [hbk, hB])
  obtain ⟨c, hc, hc0⟩ : ∃ c : Int, rs (x - y) = c ∧ (c == 0) = e := by
    refine ⟨_, rfl, ?_⟩
    rw [he]
    by_cases h : x = y
    · rw [decide_eq_true h, beq_iff_eq]; exact rs_zero.2 (by grind)
    · rw [decide_eq_false h]; exact beq_eq_false_iff_ne.2 (fun h' => h (by have := rs_zero.1 h'; grind))
  have HC := hid hc
  have HT := hid hT
  have HU := hid hU
  have HB := hid hB
  have HBQ := hid hb
  have Hx := hid hx
  have Hy := hid hy
  clear hx hy
  clear hk hb hbk hn hT hU hB hc he
  go_enter Try.func5, Try.ntmps5
  go_wp2_with fail
  have hy1 := hid ((((Ext.refl w).alloc (.cells #[.bool sx, .slice Px lx kx, .bool tx, .slice Qx mx dx] 27)).alloc (.cells #[.bool sy, .slice Py ly ky, .bool ty, .slice Qy my dy] 27)).alloc (.cells #[.bool sx, .slice Px lx kx, .bool tx, .slice Qx mx dx, .bool sy, .slice Py ly ky, .bool ty, .slice Qy my dy] 27))
  have Bx_ := ((Bk.new w 27 #[.bool sx, .slice Px lx kx, .bool tx, .slice Qx mx dx]).ext (((Ext.refl (w.alloc (.cells #[.bool sx, .slice Px lx kx, .bool tx, .slice Qx mx dx] 27))).alloc (.cells #[.bool sy, .slice Py ly ky, .bool ty, .slice Qy my dy] 27)).alloc (.cells #[.bool sx, .slice Px lx kx, .bool tx, .slice Qx mx dx, .bool sy, .slice Py ly ky, .bool ty, .slice Qy my dy] 27)))
  have Bx := hid Bx_
  clear Bx_
  have By_ := ((Bk.new (w.alloc (.cells #[.bool sx, .slice Px lx kx, .bool tx, .slice Qx mx dx] 27)) 27 #[.bool sy, .slice Py ly ky, .bool ty, .slice Qy my dy]).ext ((Ext.refl ((w.alloc (.cells #[.bool sx, .slice Px lx kx, .bool tx, .slice Qx mx dx] 27)).alloc (.cells #[.bool sy, .slice Py ly ky, .bool ty, .slice Qy my dy] 27))).alloc (.cells #[.bool sx, .slice Px lx kx, .bool tx, .slice Qx mx dx, .bool sy, .slice Py ly ky, .bool ty, .slice Qy my dy] 27)))
  rw [size_alloc] at By_
  have By := hid By_
  clear By_
  have Brow_ := (Bk.new ((w.alloc (.cells #[.bool sx, .slice Px lx kx, .bool tx, .slice Qx mx dx] 27)).alloc (.cells #[.bool sy, .slice Py ly ky, .bool ty, .slice Qy my dy] 27)) 27 #[.bool sx, .slice Px lx kx, .bool tx, .slice Qx mx dx, .bool sy, .slice Py ly ky, .bool ty, .slice Qy my dy])
  rw [size_alloc, size_alloc] at Brow_
  have Brow := hid Brow_
  clear Brow_
  generalize (((w.alloc (.cells #[.bool sx, .slice Px lx kx, .bool tx, .slice Qx mx dx] 27)).alloc (.cells #[.bool sy, .slice Py ly ky, .bool ty, .slice Qy my dy] 27)).alloc (.cells #[.bool sx, .slice Px lx kx, .bool tx, .slice Qx mx dx, .bool sy, .slice Py ly ky, .bool ty, .slice Qy my dy] 27)) = w1 at *
  have X1 := hid ((Ext.refl _).trans hy1.out)
  obtain ⟨f4_0, f4_1, f4_2, f4_3, f4_4, f4_5, f4_6, f4_7⟩ : w1.cell? ⟨w.heap.size, 0, none⟩ = some (.bool sx) ∧ w1.cell? ⟨w.heap.size, 1, none⟩ = some (.slice Px lx kx) ∧ w1.cell? ⟨w.heap.size, 2, none⟩ = some (.bool tx) ∧ w1.cell? ⟨w.heap.size, 3, none⟩ = some (.slice Qx mx dx) ∧ w1.cell? ⟨w.heap.size + 1, 0, none⟩ = some (.bool sy) ∧ w1.cell? ⟨w.heap.size + 1, 1, none⟩ = some (.slice Py ly ky) ∧ w1.cell? ⟨w.heap.size + 1, 2, none⟩ = some (.bool ty) ∧ w1.cell? ⟨w.heap.size + 1, 3, none⟩ = some (.slice Qy my dy) := ⟨Bx.out.c 0, Bx.out.c 1, Bx.out.c 2, Bx.out.c 3, By.out.c 0, By.out.c 1, By.out.c 2, By.out.c 3⟩
  go_upto_region 3 with (first
    | ((go_at_call 17); (with_reducible refine (great6_no2 Brow.out blx bmx bly bmy).mono ?_); rintro E2 w2 ⟨rfl, hr2⟩; have X2 := hid (X1.out.trans hr2); have hy2 := hid hr2; clear hr2; obtain ⟨f5_0, f5_1, f5_2, f5_3, f5_4, f5_5, f5_6, f5_7⟩ : w2.cell? ⟨w.heap.size, 0, none⟩ = some (.bool sx) ∧ w2.cell? ⟨w.heap.size, 1, none⟩ = some (.slice Px lx kx) ∧ w2.cell? ⟨w.heap.size, 2, none⟩ = some (.bool tx) ∧ w2.cell? ⟨w.heap.size, 3, none⟩ = some (.slice Qx mx dx) ∧ w2.cell? ⟨w.heap.size + 1, 0, none⟩ = some (.bool sy) ∧ w2.cell? ⟨w.heap.size + 1, 1, none⟩ = some (.slice Py ly ky) ∧ w2.cell? ⟨w.heap.size + 1, 2, none⟩ = some (.bool ty) ∧ w2.cell? ⟨w.heap.size + 1, 3, none⟩ = some (.slice Qy my dy) := ⟨(Bx.out.ext hy2.out).c 0, (Bx.out.ext hy2.out).c 1, (Bx.out.ext hy2.out).c 2, (Bx.out.ext hy2.out).c 3, (By.out.ext hy2.out).c 0, (By.out.ext hy2.out).c 1, (By.out.ext hy2.out).c 2, (By.out.ext hy2.out).c 3⟩))
  clear f4_0 f4_1 f4_2 f4_3 f4_4 f4_5 f4_6 f4_7 f5_0 f5_1 f5_2 f5_3 f5_4 f5_5 f5_6 f5_7
  go_upto_region 4 with (first
    | ((go_at_call 10); (with_reducible refine (qsm_is (a := k) (b := 1) hk0 hk1 (by omega) (by omega) (by omega) HBQ.out).mono ?_); rintro E3 w3 ⟨b3, A3, n3, c3, e3, B3, m3, d3, rfl, o3, hr3⟩; have X3 := hid (X2.out.trans hr3); have hy3 := hid hr3; clear hr3; have O3 := hid (o3.mono X2.out.size); clear o3))
  have hy4 := hid ((Ext.refl w3).alloc (.cells #[.bool b3, .slice A3 n3 c3, .bool e3, .slice B3 m3 d3] 27))
  have Bby_ := (Bk.new w3 27 #[.bool b3, .slice A3 n3 c3, .bool e3, .slice B3 m3 d3])
  have Bby := hid Bby_
  clear Bby_
  generalize (w3.alloc (.cells #[.bool b3, .slice A3 n3 c3, .bool e3, .slice B3 m3 d3] 27)) = w4 at *
  have X4 := hid (X3.out.trans hy4.out)
  obtain ⟨f7_0, f7_1, f7_2, f7_3⟩ : w4.cell? ⟨w.heap.size, 0, none⟩ = some (.bool sx) ∧ w4.cell? ⟨w.heap.size, 1, none⟩ = some (.slice Px lx kx) ∧ w4.cell? ⟨w.heap.size, 2, none⟩ = some (.bool tx) ∧ w4.cell? ⟨w.heap.size, 3, none⟩ = some (.slice Qx mx dx) := ⟨(Bx.out.ext ((hy2.out.trans hy3.out).trans hy4.out)).c 0, (Bx.out.ext ((hy2.out.trans hy3.out).trans hy4.out)).c 1, (Bx.out.ext ((hy2.out.trans hy3.out).trans hy4.out)).c 2, (Bx.out.ext ((hy2.out.trans hy3.out).trans hy4.out)).c 3⟩
  go_upto_region 5 with (first
    | ((go_at_call 20); (with_reducible refine (rtext_qis (Hx.out.ext X4.out) (by omega) HT.out).mono ?_); rintro E5 w5 ⟨rfl, hr5⟩; have X5 := hid (X4.out.trans hr5); have hy5 := hid hr5; clear hr5; obtain ⟨f8_0, f8_1, f8_2, f8_3⟩ : w5.cell? ⟨w.heap.size, 0, none⟩ = some (.bool sx) ∧ w5.cell? ⟨w.heap.size, 1, none⟩ = some (.slice Px lx kx) ∧ w5.cell? ⟨w.heap.size, 2, none⟩ = some (.bool tx) ∧ w5.cell? ⟨w.heap.size, 3, none⟩ = some (.slice Qx mx dx) := ⟨(Bx.out.ext (((hy2.out.trans hy3.out).trans hy4.out).trans hy5.out)).c 0, (Bx.out.ext (((hy2.out.trans hy3.out).trans hy4.out).trans hy5.out)).c 1, (Bx.out.ext (((hy2.out.trans hy3.out).trans hy4.out).trans hy5.out)).c 2, (Bx.out.ext (((hy2.out.trans hy3.out).trans hy4.out).trans hy5.out)).c 3⟩)
    | ((go_at_call 18); (with_reducible refine (qparse_yes (s := T) (by omega) hTb.out).mono ?_); rintro E6 w6 ⟨b6, A6, n6, c6, e6, B6, m6, d6, rfl, o6, hr6⟩; have X6 := hid (X5.out.trans hr6); have hy6 := hid hr6; clear hr6; have O6 := hid (o6.mono X5.out.size); clear o6; obtain ⟨f9_0, f9_1, f9_2, f9_3⟩ : w6.cell? ⟨w.heap.size, 0, none⟩ = some (.bool sx) ∧ w6.cell? ⟨w.heap.size, 1, none⟩ = some (.slice Px lx kx) ∧ w6.cell? ⟨w.heap.size, 2, none⟩ = some (.bool tx) ∧ w6.cell? ⟨w.heap.size, 3, none⟩ = some (.slice Qx mx dx) := ⟨(Bx.out.ext ((((hy2.out.trans hy3.out).trans hy4.out).trans hy5.out).trans hy6.out)).c 0, (Bx.out.ext ((((hy2.out.trans hy3.out).trans hy4.out).trans hy5.out).trans hy6.out)).c 1, (Bx.out.ext ((((hy2.out.trans hy3.out).trans hy4.out).trans hy5.out).trans hy6.out)).c 2, (Bx.out.ext ((((hy2.out.trans hy3.out).trans hy4.out).trans hy5.out).trans hy6.out)).c 3⟩))
  clear f7_0 f7_1 f7_2 f7_3 f8_0 f8_1 f8_2 f8_3 f9_0 f9_1 f9_2 f9_3
  have hy7 := hid ((Ext.refl w6).alloc (.cells #[.bool b6, .slice A6 n6 c6, .bool e6, .slice B6 m6 d6] 27))
  have Bn_ := (Bk.new w6 27 #[.bool b6, .slice A6 n6 c6, .bool e6, .slice B6 m6 d6])
  have Bn := hid Bn_
  clear Bn_
  generalize (w6.alloc (.cells #[.bool b6, .slice A6 n6 c6, .bool e6, .slice B6 m6 d6] 27)) = w7 at *
  have X7 := hid (X6.out.trans hy7.out)
  obtain ⟨f11_0, f11_1, f11_2, f11_3, f11_4, f11_5, f11_6, f11_7⟩ : w7.cell? ⟨w6.heap.size, 0, none⟩ = some (.bool b6) ∧ w7.cell? ⟨w6.heap.size, 1, none⟩ = some (.slice A6 n6 c6) ∧ w7.cell? ⟨w6.heap.size, 2, none⟩ = some (.bool e6) ∧ w7.cell? ⟨w6.heap.size, 3, none⟩ = some (.slice B6 m6 d6) ∧ w7.cell? ⟨w.heap.size, 0, none⟩ = some (.bool sx) ∧ w7.cell? ⟨w.heap.size, 1, none⟩ = some (.slice Px lx kx) ∧ w7.cell? ⟨w.heap.size, 2, none⟩ = some (.bool tx) ∧ w7.cell? ⟨w.heap.size, 3, none⟩ = some (.slice Qx mx dx) := ⟨Bn.out.c 0, Bn.out.c 1, Bn.out.c 2, Bn.out.c 3, (Bx.out.ext (((((hy2.out.trans hy3.out).trans hy4.out).trans hy5.out).trans hy6.out).trans hy7.out)).c 0, (Bx.out.ext (((((hy2.out.trans hy3.out).trans hy4.out).trans hy5.out).trans hy6.out).trans hy7.out)).c 1, (Bx.out.ext (((((hy2.out.trans hy3.out).trans hy4.out).trans hy5.out).trans hy6.out).trans hy7.out)).c 2, (Bx.out.ext (((((hy2.out.trans hy3.out).trans hy4.out).trans hy5.out).trans hy6.out).trans hy7.out)).c 3⟩
  go_upto_region 7 with (first
    | ((go_at_call 21); (with_reducible refine (rmay_rc (O6.out.ext hy7.out) (by omega)).mono ?_); rintro E8 w8 ⟨rfl, hr8⟩; have X8 := hid (X7.out.trans hr8); have hy8 := hid hr8; clear hr8; obtain ⟨f12_0, f12_1, f12_2, f12_3, f12_4, f12_5, f12_6, f12_7⟩ : w8.cell? ⟨w6.heap.size, 0, none⟩ = some (.bool b6) ∧ w8.cell? ⟨w6.heap.size, 1, none⟩ = some (.slice A6 n6 c6) ∧ w8.cell? ⟨w6.heap.size, 2, none⟩ = some (.bool e6) ∧ w8.cell? ⟨w6.heap.size, 3, none⟩ = some (.slice B6 m6 d6) ∧ w8.cell? ⟨w.heap.size, 0, none⟩ = some (.bool sx) ∧ w8.cell? ⟨w.heap.size, 1, none⟩ = some (.slice Px lx kx) ∧ w8.cell? ⟨w.heap.size, 2, none⟩ = some (.bool tx) ∧ w8.cell? ⟨w.heap.size, 3, none⟩ = some (.slice Qx mx dx) := ⟨(Bn.out.ext hy8.out).c 0, (Bn.out.ext hy8.out).c 1, (Bn.out.ext hy8.out).c 2, (Bn.out.ext hy8.out).c 3, (Bx.out.ext ((((((hy2.out.trans hy3.out).trans hy4.out).trans hy5.out).trans hy6.out).trans hy7.out).trans hy8.out)).c 0, (Bx.out.ext ((((((hy2.out.trans hy3.out).trans hy4.out).trans hy5.out).trans hy6.out).trans hy7.out).trans hy8.out)).c 1, (Bx.out.ext ((((((hy2.out.trans hy3.out).trans hy4.out).trans hy5.out).trans hy6.out).trans hy7.out).trans hy8.out)).c 2, (Bx.out.ext ((((((hy2.out.trans hy3.out).trans hy4.out).trans hy5.out).trans hy6.out).trans hy7.out).trans hy8.out)).c 3⟩)
    | ((go_at_call 22); (with_reducible refine (qcmp_is (v := 0) (O6.out.ext (hy7.out.trans hy8.out)).rv (Hx.out.ext X8.out) (by omega) h0.out).mono ?_); rintro E9 w9 ⟨rfl, hr9⟩; have X9 := hid (X8.out.trans hr9); have hy9 := hid hr9; clear hr9; obtain ⟨f13_0, f13_1, f13_2, f13_3, f13_4, f13_5, f13_6, f13_7⟩ : w9.cell? ⟨w6.heap.size, 0, none⟩ = some (.bool b6) ∧ w9.cell? ⟨w6.heap.size, 1, none⟩ = some (.slice A6 n6 c6) ∧ w9.cell? ⟨w6.heap.size, 2, none⟩ = some (.bool e6) ∧ w9.cell? ⟨w6.heap.size, 3, none⟩ = some (.slice B6 m6 d6) ∧ w9.cell? ⟨w.heap.size, 0, none⟩ = some (.bool sx) ∧ w9.cell? ⟨w.heap.size, 1, none⟩ = some (.slice Px lx kx) ∧ w9.cell? ⟨w.heap.size, 2, none⟩ = some (.bool tx) ∧ w9.cell? ⟨w.heap.size, 3, none⟩ = some (.slice Qx mx dx) := ⟨(Bn.out.ext (hy8.out.trans hy9.out)).c 0, (Bn.out.ext (hy8.out.trans hy9.out)).c 1, (Bn.out.ext (hy8.out.trans hy9.out)).c 2, (Bn.out.ext (hy8.out.trans hy9.out)).c 3, (Bx.out.ext (((((((hy2.out.trans hy3.out).trans hy4.out).trans hy5.out).trans hy6.out).trans hy7.out).trans hy8.out).trans hy9.out)).c 0, (Bx.out.ext (((((((hy2.out.trans hy3.out).trans hy4.out).trans hy5.out).trans hy6.out).trans hy7.out).trans hy8.out).trans hy9.out)).c 1, (Bx.out.ext (((((((hy2.out.trans hy3.out).trans hy4.out).trans hy5.out).trans hy6.out).trans hy7.out).trans hy8.out).trans hy9.out)).c 2, (Bx.out.ext (((((((hy2.out.trans hy3.out).trans hy4.out).trans hy5.out).trans hy6.out).trans hy7.out).trans hy8.out).trans hy9.out)).c 3⟩))
  clear f11_0 f11_1 f11_2 f11_3 f11_4 f11_5 f11_6 f11_7 f12_0 f12_1 f12_2 f12_3 f12_4 f12_5 f12_6 f12_7 f13_0 f13_1 f13_2 f13_3 f13_4 f13_5 f13_6 f13_7
  go_cut [11, 12] (fun v11 v12 wx => ∃ (g11c : Nat) (g12c : Nat)   (b4q : Bool) (A4q : Option Addr) (n4q c4q : Nat) (e4q : Bool) (B4q : Option Addr) (m4q d4q : Nat) (b9q : Bool) (A9q : Option Addr) (n9q c9q : Nat) (e9q : Bool) (B9q : Option Addr) (m9q d9q : Nat), v11 = .pointer (some ⟨g11c, 0, none⟩) ∧ v12 = .pointer (some ⟨g12c, 0, none⟩) ∧ w9.heap.size ≤ g11c ∧ w9.heap.size ≤ g12c ∧ g11c ≠ g12c ∧ Bk 27 wx (w.heap.size) #[.bool sx, .slice Px lx kx, .bool tx, .slice Qx mx dx] ∧ Bk 27 wx (w.heap.size + 1) #[.bool sy, .slice Py ly ky, .bool ty, .slice Qy my dy] ∧ Bk 27 wx (w3.heap.size) #[.bool b3, .slice A3 n3 c3, .bool e3, .slice B3 m3 d3] ∧ Bk 27 wx (w6.heap.size) #[.bool b6, .slice A6 n6 c6, .bool e6, .slice B6 m6 d6] ∧ Bk 27 wx (g11c) #[.bool b4q, .slice A4q n4q c4q, .bool e4q, .slice B4q m4q d4q] ∧ Bk 27 wx (g12c) #[.bool b9q, .slice A9q n9q c9q, .bool e9q, .slice B9q m9q d9q] ∧ Rc 2 wx w.heap.size b3 A3 n3 c3 e3 B3 m3 d3 b ∧ Rc (3 * T.size + 3) wx w.heap.size b6 A6 n6 c6 e6 B6 m6 d6 x ∧ Rc (3 * T.size + 3 + 2 + 2 + 4) wx w.heap.size b4q A4q n4q c4q e4q B4q m4q d4q ((x.num : Rat) * b) ∧ Rc (3 * T.size + 3 + 2 + 2 + 4) wx w.heap.size b9q A9q n9q c9q e9q B9q m9q d9q ((((x.den : Nat) : Int) : Rat) * b) ∧ Ext w wx)
  case first =>
    have RBby := hid (Bby.out.ext ((((hy5.out.trans hy6.out).trans hy7.out).trans hy8.out).trans hy9.out))
    have RFby := hid (O3.out.ext (((((hy4.out.trans hy5.out).trans hy6.out).trans hy7.out).trans hy8.out).trans hy9.out))
    have RBn := hid (Bn.out.ext (hy8.out.trans hy9.out))
    have RFn := hid (O6.out.ext ((hy7.out.trans hy8.out).trans hy9.out))
    have RBx := hid (Bx.out.ext (((((((hy2.out.trans hy3.out).trans hy4.out).trans hy5.out).trans hy6.out).trans hy7.out).trans hy8.out).trans hy9.out))
    have RBy := hid (By.out.ext (((((((hy2.out.trans hy3.out).trans hy4.out).trans hy5.out).trans hy6.out).trans hy7.out).trans hy8.out).trans hy9.out))
    have T0 := (Ext.refl w9).drew
    have S0 := X9.out.trans T0
    refine wp_region_held_drew (S := fun w' => Ext w w' ∧ Bk 27 w' (w6.heap.size) #[.bool b6, .slice A6 n6 c6, .bool e6, .slice B6 m6 d6] ∧ Bk 27 w' (w3.heap.size) #[.bool b3, .slice A3 n3 c3, .bool e3, .slice B3 m3 d3]) (by kernel_rfl) ⟨S0, (RBn.out.ext T0), (RBby.out.ext T0)⟩ (fun hS0 => ?_)
    change wpAnyH _ _ _ _ _ 14 #[false, false, false, false, false, false, false, false, false, false, false, false, false, false] _ _
    refine drawn_free 0 53 (v := ?v0_1) (.fieldAddr 27 (.tmp 9) 0) (by kernel_rfl) ?hy0_1 (by kernel_rfl) (by kernel_rfl) (by kernel_rfl) (fun _ _ _ _ h => h) hS0 ?hr0_1
    case hy0_1 => (intro o ho w' hS; unfold execOp; simp only [ho]; go_simp; try with_reducible rfl)
    simp only [Act.put, List.setIfInBounds_toArray, List.set_cons_zero, List.set_cons_succ]
    refine drawn_free 1 54 (v := ?v1_2) (.load 24 (.tmp 53)) (by kernel_rfl) ?hy1_2 (by kernel_rfl) (by kernel_rfl) (by kernel_rfl) (fun _ _ _ _ h => h) hS0 ?hr1_2
    case hy1_2 => (intro o ho w' hS; have c0 : w'.cell? ⟨w6.heap.size, 0, none⟩ = some (.bool b6) := hS.2.1.c 0; have c1 : w'.cell? ⟨w6.heap.size, 1, none⟩ = some (.slice A6 n6 c6) := hS.2.1.c 1; unfold execOp; simp only [ho]; go_simp; try with_reducible rfl)
    simp only [Act.put, List.setIfInBounds_toArray, List.set_cons_zero, List.set_cons_succ]
    refine drawn_load 3 56 27 (.tmp 7) (w3.heap.size) 27 #[.bool b3, .slice A3 n3 c3, .bool e3, .slice B3 m3 d3] (0, 0) _ (by kernel_rfl) rfl (fun w' hS => hS.2.2.h) Try.underlying27 rfl info_rat (by kernel_rfl) (by kernel_rfl) (by kernel_rfl) (fun _ _ _ _ h => h) hS0 ?_
    simp only [Act.put, List.setIfInBounds_toArray, List.set_cons_zero, List.set_cons_succ]
    refine drawn_free 5 58 (v := ?v5_3) (.fieldAddr 27 (.tmp 9) 1) (by kernel_rfl) ?hy5_3 (by kernel_rfl) (by kernel_rfl) (by kernel_rfl) (fun _ _ _ _ h => h) hS0 ?hr5_3
    case hy5_3 => (intro o ho w' hS; unfold execOp; simp only [ho]; go_simp; try with_reducible rfl)
    simp only [Act.put, List.setIfInBounds_toArray, List.set_cons_zero, List.set_cons_succ]
    refine drawn_free 6 59 (v := ?v6_4) (.load 24 (.tmp 58)) (by kernel_rfl) ?hy6_4 (by kernel_rfl) (by kernel_rfl) (by kernel_rfl) (fun _ _ _ _ h => h) hS0 ?hr6_4
    case hy6_4 => (intro o ho w' hS; have c2 : w'.cell? ⟨w6.heap.size, 2, none⟩ = some (.bool e6) := hS.2.1.c 2; have c3 : w'.cell? ⟨w6.heap.size, 3, none⟩ = some (.slice B6 m6 d6) := hS.2.1.c 3; unfold execOp; simp only [ho]; go_simp; try with_reducible rfl)
    simp only [Act.put, List.setIfInBounds_toArray, List.set_cons_zero, List.set_cons_succ]
    refine drawn_load 8 61 27 (.tmp 7) (w3.heap.size) 27 #[.bool b3, .slice A3 n3 c3, .bool e3, .slice B3 m3 d3] (0, 0) _ (by kernel_rfl) rfl (fun w' hS => hS.2.2.h) Try.underlying27 rfl info_rat (by kernel_rfl) (by kernel_rfl) (by kernel_rfl) (fun _ _ _ _ h => h) hS0 ?_
    simp only [Act.put, List.setIfInBounds_toArray, List.set_cons_zero, List.set_cons_succ]
    refine wpAnyH_ready (rs := [2, 10, 11]) (by kernel_rfl) (by simp) ?_
    refine drawn_call1 2 (some 55) (.tmp 54) (ts := #[24]) (by kernel_rfl) (enters_of Try.func24 (by kernel_rfl) rfl) rfl (rwhole_v (RFn.out.ext T0).nu.iz (by omega)) (fun E v2 hh => ?_) ?_
    · skip
      obtain ⟨b2q, A2q, n2q, c2q, e2q, B2q, m2q, d2q, rfl, o2, hx2⟩ := hh
      have S2 := S0.trans hx2
      have T2 := T0.trans hx2
      refine ⟨_, rfl, ⟨S2, (RBn.out.ext T2), (RBby.out.ext T2)⟩, ?_⟩
      simp only [Act.put, List.setIfInBounds_toArray, List.set_cons_zero, List.set_cons_succ]
      refine wpAnyH_ready (rs := [4, 10, 11]) (by kernel_rfl) (by simp) ?_
      refine drawn_call2 4 (some 57) (.tmp 55) (.tmp 56) (ts := #[27, 27]) (by kernel_rfl) (enters_of Try.func23 (by kernel_rfl) rfl) rfl rfl (qmul_v (o2.mono S0.size).rv (RFby.out.ext T2).rv (by omega)) (fun E v4 hh => ?_) ?_
      · skip
        obtain ⟨b4q, A4q, n4q, c4q, e4q, B4q, m4q, d4q, rfl, o4, hx4⟩ := hh
        have S4 := S2.trans hx4
        have T4 := T2.trans hx4
        refine ⟨_, rfl, ⟨S4, (RBn.out.ext T4), (RBby.out.ext T4)⟩, ?_⟩
        simp only [Act.put, List.setIfInBounds_toArray, List.set_cons_zero, List.set_cons_succ]
        refine wpAnyH_ready (rs := [7, 10, 11]) (by kernel_rfl) (by simp) ?_
        refine drawn_call1 7 (some 60) (.tmp 59) (ts := #[24]) (by kernel_rfl) (enters_of Try.func24 (by kernel_rfl) rfl) rfl (rwhole_v (RFn.out.ext T4).de.iz (by omega)) (fun E v7 hh => ?_) ?_
        · skip
          obtain ⟨b7q, A7q, n7q, c7q, e7q, B7q, m7q, d7q, rfl, o7, hx7⟩ := hh
          have S7 := S4.trans hx7
          have T7 := T4.trans hx7
          refine ⟨_, rfl, ⟨S7, (RBn.out.ext T7), (RBby.out.ext T7)⟩, ?_⟩
          simp only [Act.put, List.setIfInBounds_toArray, List.set_cons_zero, List.set_cons_succ]
          refine wpAnyH_ready (rs := [9, 10, 11]) (by kernel_rfl) (by simp) ?_
          refine drawn_call2 9 (some 62) (.tmp 60) (.tmp 61) (ts := #[27, 27]) (by kernel_rfl) (enters_of Try.func23 (by kernel_rfl) rfl) rfl rfl (qmul_v (o7.mono S4.size).rv (RFby.out.ext T7).rv (by omega)) (fun E v9 hh => ?_) ?_
          · skip
            obtain ⟨b9q, A9q, n9q, c9q, e9q, B9q, m9q, d9q, rfl, o9, hx9⟩ := hh
            have S9 := S7.trans hx9
            have T9 := T7.trans hx9
            refine ⟨_, rfl, ⟨S9, (RBn.out.ext T9), (RBby.out.ext T9)⟩, ?_⟩
            simp only [Act.put, List.setIfInBounds_toArray, List.set_cons_zero, List.set_cons_succ]
            refine wpAnyH_ready (rs := [10, 11]) (by kernel_rfl) (by simp) ?_
            refine drawn_alloc 10 (some 11) (by kernel_rfl) alloc_rat (fun g10 v10 hb10 hx10 hg10 => ?_) ?_
            · have HB10 := hid (show Bk 27 v10 g10 #[.bool false, .slice none 0 0, .bool false, .slice none 0 0] from hb10)
              have S10 := S9.trans hx10
              have T10 := T9.trans hx10
              refine ⟨⟨S10, (RBn.out.ext T10), (RBby.out.ext T10)⟩, ?_⟩
              simp only [Act.put, List.setIfInBounds_toArray, List.set_cons_zero, List.set_cons_succ]
              refine wpAnyH_ready (rs := [11]) (by kernel_rfl) (by simp) ?_
              refine drawn_alloc 11 (some 12) (by kernel_rfl) alloc_rat (fun g11 v11 hb11 hx11 hg11 => ?_) ?_
              · have HB11 := hid (show Bk 27 v11 g11 #[.bool false, .slice none 0 0, .bool false, .slice none 0 0] from hb11)
                have S11 := S10.trans hx11
                have T11 := T10.trans hx11
                refine ⟨⟨S11, (RBn.out.ext T11), (RBby.out.ext T11)⟩, ?_⟩
                simp only [Act.put, List.setIfInBounds_toArray, List.set_cons_zero, List.set_cons_succ]
                refine wpAnyH_ready (rs := [12]) (by kernel_rfl) (by simp) ?_
                have hq12 := (HB10.out.ext hx11)
                refine drawn_store 12 27 (.tmp 11) (.tmp 57) (g10) #[.bool b4q, .slice A4q n4q c4q, .bool e4q, .slice B4q m4q d4q] #[.bool false, .slice none 0 0, .bool false, .slice none 0 0] 27 (by kernel_rfl) rfl rfl hq12.h info_rat rfl one_four (fun v12 hb12 hg12 => ?_) ?_
                · have HB12 := hid (show Bk 27 v12 (g10) #[.bool b4q, .slice A4q n4q c4q, .bool e4q, .slice B4q m4q d4q] from hb12)
                  have S12 := S11.gb hg12 (by have h := S9.size; have h1 := hg10; omega)
                  refine ⟨⟨S12, ((RBn.out.ext T11).grown hg12 (by have h0 := (Nat.lt_of_lt_of_le RBn.out.lt T9.size); have h1 := hg10; omega)), ((RBby.out.ext T11).grown hg12 (by have h0 := (Nat.lt_of_lt_of_le RBby.out.lt T9.size); have h1 := hg10; omega))⟩, ?_⟩
                  simp only [Act.put, List.setIfInBounds_toArray, List.set_cons_zero, List.set_cons_succ]
                  refine wpAnyH_ready (rs := [13]) (by kernel_rfl) (by simp) ?_
                  have hq13 := (HB11.out.grown hg12 (by have h0 := HB10.out.lt; have h1 := hg11; omega))
                  refine drawn_store 13 27 (.tmp 12) (.tmp 62) (g11) #[.bool b9q, .slice A9q n9q c9q, .bool e9q, .slice B9q m9q d9q] #[.bool false, .slice none 0 0, .bool false, .slice none 0 0] 27 (by kernel_rfl) rfl rfl hq13.h info_rat rfl one_four (fun v13 hb13 hg13 => ?_) ?_
                  · have HB13 := hid (show Bk 27 v13 (g11) #[.bool b9q, .slice A9q n9q c9q, .bool e9q, .slice B9q m9q d9q] from hb13)
                    have S13 := S12.gb hg13 (by have h := S10.size; have h1 := hg11; omega)
                    refine ⟨⟨S13, (((RBn.out.ext T11).grown hg12 (by have h0 := (Nat.lt_of_lt_of_le RBn.out.lt T9.size); have h1 := hg10; omega)).grown hg13 (by have h0 := (Nat.lt_of_lt_of_le RBn.out.lt T10.size); have h1 := hg11; omega)), (((RBby.out.ext T11).grown hg12 (by have h0 := (Nat.lt_of_lt_of_le RBby.out.lt T9.size); have h1 := hg10; omega)).grown hg13 (by have h0 := (Nat.lt_of_lt_of_le RBby.out.lt T10.size); have h1 := hg11; omega))⟩, ?_⟩
                    simp only [Act.put, List.setIfInBounds_toArray, List.set_cons_zero, List.set_cons_succ]
                    refine wpAnyH_done (by kernel_rfl) ?_ _
                    go_step
                    go_step
                    go_meet
                    case rel => exact ⟨_, _, _, _, _, _, _, _, _, _, _, _, _, _, _, _, _, _, rfl, rfl, (Nat.le_trans T9.size hg10), (Nat.le_trans T10.size hg11), (by have h0 := HB10.out.lt; have h1 := hg11; omega), (((RBx.out.ext T11).grown hg12 (by have h0 := (Nat.lt_of_lt_of_le RBx.out.lt T9.size); have h1 := hg10; omega)).grown hg13 (by have h0 := (Nat.lt_of_lt_of_le RBx.out.lt T10.size); have h1 := hg11; omega)), (((RBy.out.ext T11).grown hg12 (by have h0 := (Nat.lt_of_lt_of_le RBy.out.lt T9.size); have h1 := hg10; omega)).grown hg13 (by have h0 := (Nat.lt_of_lt_of_le RBy.out.lt T10.size); have h1 := hg11; omega)), (((RBby.out.ext T11).grown hg12 (by have h0 := (Nat.lt_of_lt_of_le RBby.out.lt T9.size); have h1 := hg10; omega)).grown hg13 (by have h0 := (Nat.lt_of_lt_of_le RBby.out.lt T10.size); have h1 := hg11; omega)), (((RBn.out.ext T11).grown hg12 (by have h0 := (Nat.lt_of_lt_of_le RBn.out.lt T9.size); have h1 := hg10; omega)).grown hg13 (by have h0 := (Nat.lt_of_lt_of_le RBn.out.lt T10.size); have h1 := hg11; omega)), (HB12.out.grown hg13 (by have h0 := HB10.out.lt; have h1 := hg11; omega)), HB13.out, (((RFby.out.ext T11).gbk hq12 (by decide) hg12).gbk hq13 (by decide) hg13), (((RFn.out.ext T11).gbk hq12 (by decide) hg12).gbk hq13 (by decide) hg13), ((((o4.mono S2.size).ext (((hx7.trans hx9).trans hx10).trans hx11)).gbk hq12 (by decide) hg12).gbk hq13 (by decide) hg13), ((((o9.mono S7.size).ext (hx10.trans hx11)).gbk hq12 (by decide) hg12).gbk hq13 (by decide) hg13), S13⟩
                  exact drawn_nil
                exact drawn_nil
              exact drawn_nil
            refine drawn_alloc 11 (some 12) (by kernel_rfl) alloc_rat (fun g11 v11 hb11 hx11 hg11 => ?_) ?_
            · have HB11 := hid (show Bk 27 v11 g11 #[.bool false, .slice none 0 0, .bool false, .slice none 0 0] from hb11)
              have S11 := S9.trans hx11
              have T11 := T9.trans hx11
              refine ⟨⟨S11, (RBn.out.ext T11), (RBby.out.ext T11)⟩, ?_⟩
              simp only [Act.put, List.setIfInBounds_toArray, List.set_cons_zero, List.set_cons_succ]
              refine wpAnyH_ready (rs := [10]) (by kernel_rfl) (by simp) ?_
              refine drawn_alloc 10 (some 11) (by kernel_rfl) alloc_rat (fun g10 v10 hb10 hx10 hg10 => ?_) ?_
              · have HB10 := hid (show Bk 27 v10 g10 #[.bool false, .slice none 0 0, .bool false, .slice none 0 0] from hb10)
                have S10 := S11.trans hx10
                have T10 := T11.trans hx10
                refine ⟨⟨S10, (RBn.out.ext T10), (RBby.out.ext T10)⟩, ?_⟩
                simp only [Act.put, List.setIfInBounds_toArray, List.set_cons_zero, List.set_cons_succ]
                refine wpAnyH_ready (rs := [12]) (by kernel_rfl) (by simp) ?_
                have hq12 := HB10.out
                refine drawn_store 12 27 (.tmp 11) (.tmp 57) (g10) #[.bool b4q, .slice A4q n4q c4q, .bool e4q, .slice B4q m4q d4q] #[.bool false, .slice none 0 0, .bool false, .slice none 0 0] 27 (by kernel_rfl) rfl rfl hq12.h info_rat rfl one_four (fun v12 hb12 hg12 => ?_) ?_
                · have HB12 := hid (show Bk 27 v12 (g10) #[.bool b4q, .slice A4q n4q c4q, .bool e4q, .slice B4q m4q d4q] from hb12)
                  have S12 := S10.gb hg12 (by have h := S11.size; have h1 := hg10; omega)
                  refine ⟨⟨S12, ((RBn.out.ext T10).grown hg12 (by have h0 := (Nat.lt_of_lt_of_le RBn.out.lt T11.size); have h1 := hg10; omega)), ((RBby.out.ext T10).grown hg12 (by have h0 := (Nat.lt_of_lt_of_le RBby.out.lt T11.size); have h1 := hg10; omega))⟩, ?_⟩
                  simp only [Act.put, List.setIfInBounds_toArray, List.set_cons_zero, List.set_cons_succ]
                  refine wpAnyH_ready (rs := [13]) (by kernel_rfl) (by simp) ?_
                  have hq13 := ((HB11.out.ext hx10).grown hg12 (by have h0 := HB11.out.lt; have h1 := hg10; omega))
                  refine drawn_store 13 27 (.tmp 12) (.tmp 62) (g11) #[.bool b9q, .slice A9q n9q c9q, .bool e9q, .slice B9q m9q d9q] #[.bool false, .slice none 0 0, .bool false, .slice none 0 0] 27 (by kernel_rfl) rfl rfl hq13.h info_rat rfl one_four (fun v13 hb13 hg13 => ?_) ?_
                  · have HB13 := hid (show Bk 27 v13 (g11) #[.bool b9q, .slice A9q n9q c9q, .bool e9q, .slice B9q m9q d9q] from hb13)
                    have S13 := S12.gb hg13 (by have h := S9.size; have h1 := hg11; omega)
                    refine ⟨⟨S13, (((RBn.out.ext T10).grown hg12 (by have h0 := (Nat.lt_of_lt_of_le RBn.out.lt T11.size); have h1 := hg10; omega)).grown hg13 (by have h0 := (Nat.lt_of_lt_of_le RBn.out.lt T9.size); have h1 := hg11; omega)), (((RBby.out.ext T10).grown hg12 (by have h0 := (Nat.lt_of_lt_of_le RBby.out.lt T11.size); have h1 := hg10; omega)).grown hg13 (by have h0 := (Nat.lt_of_lt_of_le RBby.out.lt T9.size); have h1 := hg11; omega))⟩, ?_⟩
                    simp only [Act.put, List.setIfInBounds_toArray, List.set_cons_zero, List.set_cons_succ]
                    refine wpAnyH_done (by kernel_rfl) ?_ _
                    go_step
                    go_step
                    go_meet
                    case rel => exact ⟨_, _, _, _, _, _, _, _, _, _, _, _, _, _, _, _, _, _, rfl, rfl, (Nat.le_trans T11.size hg10), (Nat.le_trans T9.size hg11), (by have h0 := HB11.out.lt; have h1 := hg10; omega), (((RBx.out.ext T10).grown hg12 (by have h0 := (Nat.lt_of_lt_of_le RBx.out.lt T11.size); have h1 := hg10; omega)).grown hg13 (by have h0 := (Nat.lt_of_lt_of_le RBx.out.lt T9.size); have h1 := hg11; omega)), (((RBy.out.ext T10).grown hg12 (by have h0 := (Nat.lt_of_lt_of_le RBy.out.lt T11.size); have h1 := hg10; omega)).grown hg13 (by have h0 := (Nat.lt_of_lt_of_le RBy.out.lt T9.size); have h1 := hg11; omega)), (((RBby.out.ext T10).grown hg12 (by have h0 := (Nat.lt_of_lt_of_le RBby.out.lt T11.size); have h1 := hg10; omega)).grown hg13 (by have h0 := (Nat.lt_of_lt_of_le RBby.out.lt T9.size); have h1 := hg11; omega)), (((RBn.out.ext T10).grown hg12 (by have h0 := (Nat.lt_of_lt_of_le RBn.out.lt T11.size); have h1 := hg10; omega)).grown hg13 (by have h0 := (Nat.lt_of_lt_of_le RBn.out.lt T9.size); have h1 := hg11; omega)), (HB12.out.grown hg13 (by have h0 := HB11.out.lt; have h1 := hg10; omega)), HB13.out, (((RFby.out.ext T10).gbk hq12 (by decide) hg12).gbk hq13 (by decide) hg13), (((RFn.out.ext T10).gbk hq12 (by decide) hg12).gbk hq13 (by decide) hg13), ((((o4.mono S2.size).ext (((hx7.trans hx9).trans hx11).trans hx10)).gbk hq12 (by decide) hg12).gbk hq13 (by decide) hg13), ((((o9.mono S7.size).ext (hx11.trans hx10)).gbk hq12 (by decide) hg12).gbk hq13 (by decide) hg13), S13⟩
                  exact drawn_nil
                exact drawn_nil
              exact drawn_nil
            exact drawn_nil
          refine drawn_alloc 10 (some 11) (by kernel_rfl) alloc_rat (fun g10 v10 hb10 hx10 hg10 => ?_) ?_
          · have HB10 := hid (show Bk 27 v10 g10 #[.bool false, .slice none 0 0, .bool false, .slice none 0 0] from hb10)
            have S10 := S7.trans hx10
            have T10 := T7.trans hx10
            refine ⟨⟨S10, (RBn.out.ext T10), (RBby.out.ext T10)⟩, ?_⟩
            simp only [Act.put, List.setIfInBounds_toArray, List.set_cons_zero, List.set_cons_succ]
            refine wpAnyH_ready (rs := [9, 11]) (by kernel_rfl) (by simp) ?_
            refine drawn_call2 9 (some 62) (.tmp 60) (.tmp 61) (ts := #[27, 27]) (by kernel_rfl) (enters_of Try.func23 (by kernel_rfl) rfl) rfl rfl (qmul_v ((o7.mono S4.size).ext hx10).rv (RFby.out.ext T10).rv (by omega)) (fun E v9 hh => ?_) ?_
            · skip
              obtain ⟨b9q, A9q, n9q, c9q, e9q, B9q, m9q, d9q, rfl, o9, hx9⟩ := hh
              have S9 := S10.trans hx9
              have T9 := T10.trans hx9
              refine ⟨_, rfl, ⟨S9, (RBn.out.ext T9), (RBby.out.ext T9)⟩, ?_⟩
              simp only [Act.put, List.setIfInBounds_toArray, List.set_cons_zero, List.set_cons_succ]
              refine wpAnyH_ready (rs := [11]) (by kernel_rfl) (by simp) ?_
              refine drawn_alloc 11 (some 12) (by kernel_rfl) alloc_rat (fun g11 v11 hb11 hx11 hg11 => ?_) ?_
              · have HB11 := hid (show Bk 27 v11 g11 #[.bool false, .slice none 0 0, .bool false, .slice none 0 0] from hb11)
                have S11 := S9.trans hx11
                have T11 := T9.trans hx11
                refine ⟨⟨S11, (RBn.out.ext T11), (RBby.out.ext T11)⟩, ?_⟩
                simp only [Act.put, List.setIfInBounds_toArray, List.set_cons_zero, List.set_cons_succ]
                refine wpAnyH_ready (rs := [12]) (by kernel_rfl) (by simp) ?_
                have hq12 := (HB10.out.ext (hx9.trans hx11))
                refine drawn_store 12 27 (.tmp 11) (.tmp 57) (g10) #[.bool b4q, .slice A4q n4q c4q, .bool e4q, .slice B4q m4q d4q] #[.bool false, .slice none 0 0, .bool false, .slice none 0 0] 27 (by kernel_rfl) rfl rfl hq12.h info_rat rfl one_four (fun v12 hb12 hg12 => ?_) ?_
                · have HB12 := hid (show Bk 27 v12 (g10) #[.bool b4q, .slice A4q n4q c4q, .bool e4q, .slice B4q m4q d4q] from hb12)
                  have S12 := S11.gb hg12 (by have h := S7.size; have h1 := hg10; omega)
                  refine ⟨⟨S12, ((RBn.out.ext T11).grown hg12 (by have h0 := (Nat.lt_of_lt_of_le RBn.out.lt T7.size); have h1 := hg10; omega)), ((RBby.out.ext T11).grown hg12 (by have h0 := (Nat.lt_of_lt_of_le RBby.out.lt T7.size); have h1 := hg10; omega))⟩, ?_⟩
                  simp only [Act.put, List.setIfInBounds_toArray, List.set_cons_zero, List.set_cons_succ]
                  refine wpAnyH_ready (rs := [13]) (by kernel_rfl) (by simp) ?_
                  have hq13 := (HB11.out.grown hg12 (by have h0 := (Nat.lt_of_lt_of_le HB10.out.lt hx9.size); have h1 := hg11; omega))
                  refine drawn_store 13 27 (.tmp 12) (.tmp 62) (g11) #[.bool b9q, .slice A9q n9q c9q, .bool e9q, .slice B9q m9q d9q] #[.bool false, .slice none 0 0, .bool false, .slice none 0 0] 27 (by kernel_rfl) rfl rfl hq13.h info_rat rfl one_four (fun v13 hb13 hg13 => ?_) ?_
                  · have HB13 := hid (show Bk 27 v13 (g11) #[.bool b9q, .slice A9q n9q c9q, .bool e9q, .slice B9q m9q d9q] from hb13)
                    have S13 := S12.gb hg13 (by have h := S9.size; have h1 := hg11; omega)
                    refine ⟨⟨S13, (((RBn.out.ext T11).grown hg12 (by have h0 := (Nat.lt_of_lt_of_le RBn.out.lt T7.size); have h1 := hg10; omega)).grown hg13 (by have h0 := (Nat.lt_of_lt_of_le RBn.out.lt T9.size); have h1 := hg11; omega)), (((RBby.out.ext T11).grown hg12 (by have h0 := (Nat.lt_of_lt_of_le RBby.out.lt T7.size); have h1 := hg10; omega)).grown hg13 (by have h0 := (Nat.lt_of_lt_of_le RBby.out.lt T9.size); have h1 := hg11; omega))⟩, ?_⟩
                    simp only [Act.put, List.setIfInBounds_toArray, List.set_cons_zero, List.set_cons_succ]
                    refine wpAnyH_done (by kernel_rfl) ?_ _
                    go_step
                    go_step
                    go_meet
                    case rel => exact ⟨_, _, _, _, _, _, _, _, _, _, _, _, _, _, _, _, _, _, rfl, rfl, (Nat.le_trans T7.size hg10), (Nat.le_trans T9.size hg11), (by have h0 := (Nat.lt_of_lt_of_le HB10.out.lt hx9.size); have h1 := hg11; omega), (((RBx.out.ext T11).grown hg12 (by have h0 := (Nat.lt_of_lt_of_le RBx.out.lt T7.size); have h1 := hg10; omega)).grown hg13 (by have h0 := (Nat.lt_of_lt_of_le RBx.out.lt T9.size); have h1 := hg11; omega)), (((RBy.out.ext T11).grown hg12 (by have h0 := (Nat.lt_of_lt_of_le RBy.out.lt T7.size); have h1 := hg10; omega)).grown hg13 (by have h0 := (Nat.lt_of_lt_of_le RBy.out.lt T9.size); have h1 := hg11; omega)), (((RBby.out.ext T11).grown hg12 (by have h0 := (Nat.lt_of_lt_of_le RBby.out.lt T7.size); have h1 := hg10; omega)).grown hg13 (by have h0 := (Nat.lt_of_lt_of_le RBby.out.lt T9.size); have h1 := hg11; omega)), (((RBn.out.ext T11).grown hg12 (by have h0 := (Nat.lt_of_lt_of_le RBn.out.lt T7.size); have h1 := hg10; omega)).grown hg13 (by have h0 := (Nat.lt_of_lt_of_le RBn.out.lt T9.size); have h1 := hg11; omega)), (HB12.out.grown hg13 (by have h0 := (Nat.lt_of_lt_of_le HB10.out.lt hx9.size); have h1 := hg11; omega)), HB13.out, (((RFby.out.ext T11).gbk hq12 (by decide) hg12).gbk hq13 (by decide) hg13), (((RFn.out.ext T11).gbk hq12 (by decide) hg12).gbk hq13 (by decide) hg13), ((((o4.mono S2.size).ext (((hx7.trans hx10).trans hx9).trans hx11)).gbk hq12 (by decide) hg12).gbk hq13 (by decide) hg13), ((((o9.mono S10.size).ext hx11).gbk hq12 (by decide) hg12).gbk hq13 (by decide) hg13), S13⟩
                  exact drawn_nil
                exact drawn_nil
              exact drawn_nil
            refine drawn_alloc 11 (some 12) (by kernel_rfl) alloc_rat (fun g11 v11 hb11 hx11 hg11 => ?_) ?_
            · have HB11 := hid (show Bk 27 v11 g11 #[.bool false, .slice none 0 0, .bool false, .slice none 0 0] from hb11)
              have S11 := S10.trans hx11
              have T11 := T10.trans hx11
              refine ⟨⟨S11, (RBn.out.ext T11), (RBby.out.ext T11)⟩, ?_⟩
              simp only [Act.put, List.setIfInBounds_toArray, List.set_cons_zero, List.set_cons_succ]
              refine wpAnyH_ready (rs := [9]) (by kernel_rfl) (by simp) ?_
              refine drawn_call2 9 (some 62) (.tmp 60) (.tmp 61) (ts := #[27, 27]) (by kernel_rfl) (enters_of Try.func23 (by kernel_rfl) rfl) rfl rfl (qmul_v ((o7.mono S4.size).ext (hx10.trans hx11)).rv (RFby.out.ext T11).rv (by omega)) (fun E v9 hh => ?_) ?_
              · skip
                obtain ⟨b9q, A9q, n9q, c9q, e9q, B9q, m9q, d9q, rfl, o9, hx9⟩ := hh
                have S9 := S11.trans hx9
                have T9 := T11.trans hx9
                refine ⟨_, rfl, ⟨S9, (RBn.out.ext T9), (RBby.out.ext T9)⟩, ?_⟩
                simp only [Act.put, List.setIfInBounds_toArray, List.set_cons_zero, List.set_cons_succ]
                refine wpAnyH_ready (rs := [12]) (by kernel_rfl) (by simp) ?_
                have hq12 := (HB10.out.ext (hx11.trans hx9))
                refine drawn_store 12 27 (.tmp 11) (.tmp 57) (g10) #[.bool b4q, .slice A4q n4q c4q, .bool e4q, .slice B4q m4q d4q] #[.bool false, .slice none 0 0, .bool false, .slice none 0 0] 27 (by kernel_rfl) rfl rfl hq12.h info_rat rfl one_four (fun v12 hb12 hg12 => ?_) ?_
                · have HB12 := hid (show Bk 27 v12 (g10) #[.bool b4q, .slice A4q n4q c4q, .bool e4q, .slice B4q m4q d4q] from hb12)
                  have S12 := S9.gb hg12 (by have h := S7.size; have h1 := hg10; omega)
                  refine ⟨⟨S12, ((RBn.out.ext T9).grown hg12 (by have h0 := (Nat.lt_of_lt_of_le RBn.out.lt T7.size); have h1 := hg10; omega)), ((RBby.out.ext T9).grown hg12 (by have h0 := (Nat.lt_of_lt_of_le RBby.out.lt T7.size); have h1 := hg10; omega))⟩, ?_⟩
                  simp only [Act.put, List.setIfInBounds_toArray, List.set_cons_zero, List.set_cons_succ]
                  refine wpAnyH_ready (rs := [13]) (by kernel_rfl) (by simp) ?_
                  have hq13 := ((HB11.out.ext hx9).grown hg12 (by have h0 := HB10.out.lt; have h1 := hg11; omega))
                  refine drawn_store 13 27 (.tmp 12) (.tmp 62) (g11) #[.bool b9q, .slice A9q n9q c9q, .bool e9q, .slice B9q m9q d9q] #[.bool false, .slice none 0 0, .bool false, .slice none 0 0] 27 (by kernel_rfl) rfl rfl hq13.h info_rat rfl one_four (fun v13 hb13 hg13 => ?_) ?_
                  · have HB13 := hid (show Bk 27 v13 (g11) #[.bool b9q, .slice A9q n9q c9q, .bool e9q, .slice B9q m9q d9q] from hb13)
                    have S13 := S12.gb hg13 (by have h := S10.size; have h1 := hg11; omega)
                    refine ⟨⟨S13, (((RBn.out.ext T9).grown hg12 (by have h0 := (Nat.lt_of_lt_of_le RBn.out.lt T7.size); have h1 := hg10; omega)).grown hg13 (by have h0 := (Nat.lt_of_lt_of_le RBn.out.lt T10.size); have h1 := hg11; omega)), (((RBby.out.ext T9).grown hg12 (by have h0 := (Nat.lt_of_lt_of_le RBby.out.lt T7.size); have h1 := hg10; omega)).grown hg13 (by have h0 := (Nat.lt_of_lt_of_le RBby.out.lt T10.size); have h1 := hg11; omega))⟩, ?_⟩
                    simp only [Act.put, List.setIfInBounds_toArray, List.set_cons_zero, List.set_cons_succ]
                    refine wpAnyH_done (by kernel_rfl) ?_ _
                    go_step
                    go_step
                    go_meet
                    case rel => exact ⟨_, _, _, _, _, _, _, _, _, _, _, _, _, _, _, _, _, _, rfl, rfl, (Nat.le_trans T7.size hg10), (Nat.le_trans T10.size hg11), (by have h0 := HB10.out.lt; have h1 := hg11; omega), (((RBx.out.ext T9).grown hg12 (by have h0 := (Nat.lt_of_lt_of_le RBx.out.lt T7.size); have h1 := hg10; omega)).grown hg13 (by have h0 := (Nat.lt_of_lt_of_le RBx.out.lt T10.size); have h1 := hg11; omega)), (((RBy.out.ext T9).grown hg12 (by have h0 := (Nat.lt_of_lt_of_le RBy.out.lt T7.size); have h1 := hg10; omega)).grown hg13 (by have h0 := (Nat.lt_of_lt_of_le RBy.out.lt T10.size); have h1 := hg11; omega)), (((RBby.out.ext T9).grown hg12 (by have h0 := (Nat.lt_of_lt_of_le RBby.out.lt T7.size); have h1 := hg10; omega)).grown hg13 (by have h0 := (Nat.lt_of_lt_of_le RBby.out.lt T10.size); have h1 := hg11; omega)), (((RBn.out.ext T9).grown hg12 (by have h0 := (Nat.lt_of_lt_of_le RBn.out.lt T7.size); have h1 := hg10; omega)).grown hg13 (by have h0 := (Nat.lt_of_lt_of_le RBn.out.lt T10.size); have h1 := hg11; omega)), (HB12.out.grown hg13 (by have h0 := HB10.out.lt; have h1 := hg11; omega)), HB13.out, (((RFby.out.ext T9).gbk hq12 (by decide) hg12).gbk hq13 (by decide) hg13), (((RFn.out.ext T9).gbk hq12 (by decide) hg12).gbk hq13 (by decide) hg13), ((((o4.mono S2.size).ext (((hx7.trans hx10).trans hx11).trans hx9)).gbk hq12 (by decide) hg12).gbk hq13 (by decide) hg13), (((o9.mono S11.size).gbk hq12 (by decide) hg12).gbk hq13 (by decide) hg13), S13⟩
                  exact drawn_nil
                exact drawn_nil
              exact drawn_nil
            exact drawn_nil
          refine drawn_alloc 11 (some 12) (by kernel_rfl) alloc_rat (fun g11 v11 hb11 hx11 hg11 => ?_) ?_
          · have HB11 := hid (show Bk 27 v11 g11 #[.bool false, .slice none 0 0, .bool false, .slice none 0 0] from hb11)
            have S11 := S7.trans hx11
            have T11 := T7.trans hx11
            refine ⟨⟨S11, (RBn.out.ext T11), (RBby.out.ext T11)⟩, ?_⟩
            simp only [Act.put, List.setIfInBounds_toArray, List.set_cons_zero, List.set_cons_succ]
            refine wpAnyH_ready (rs := [9, 10]) (by kernel_rfl) (by simp) ?_
            refine drawn_call2 9 (some 62) (.tmp 60) (.tmp 61) (ts := #[27, 27]) (by kernel_rfl) (enters_of Try.func23 (by kernel_rfl) rfl) rfl rfl (qmul_v ((o7.mono S4.size).ext hx11).rv (RFby.out.ext T11).rv (by omega)) (fun E v9 hh => ?_) ?_
            · skip
              obtain ⟨b9q, A9q, n9q, c9q, e9q, B9q, m9q, d9q, rfl, o9, hx9⟩ := hh
              have S9 := S11.trans hx9
              have T9 := T11.trans hx9
              refine ⟨_, rfl, ⟨S9, (RBn.out.ext T9), (RBby.out.ext T9)⟩, ?_⟩
              simp only [Act.put, List.setIfInBounds_toArray, List.set_cons_zero, List.set_cons_succ]
              refine wpAnyH_ready (rs := [10]) (by kernel_rfl) (by simp) ?_
              refine drawn_alloc 10 (some 11) (by kernel_rfl) alloc_rat (fun g10 v10 hb10 hx10 hg10 => ?_) ?_
              · have HB10 := hid (show Bk 27 v10 g10 #[.bool false, .slice none 0 0, .bool false, .slice none 0 0] from hb10)
                have S10 := S9.trans hx10
                have T10 := T9.trans hx10
                refine ⟨⟨S10, (RBn.out.ext T10), (RBby.out.ext T10)⟩, ?_⟩
                simp only [Act.put, List.setIfInBounds_toArray, List.set_cons_zero, List.set_cons_succ]
                refine wpAnyH_ready (rs := [12]) (by kernel_rfl) (by simp) ?_
                have hq12 := HB10.out
                refine drawn_store 12 27 (.tmp 11) (.tmp 57) (g10) #[.bool b4q, .slice A4q n4q c4q, .bool e4q, .slice B4q m4q d4q] #[.bool false, .slice none 0 0, .bool false, .slice none 0 0] 27 (by kernel_rfl) rfl rfl hq12.h info_rat rfl one_four (fun v12 hb12 hg12 => ?_) ?_
                · have HB12 := hid (show Bk 27 v12 (g10) #[.bool b4q, .slice A4q n4q c4q, .bool e4q, .slice B4q m4q d4q] from hb12)
                  have S12 := S10.gb hg12 (by have h := S9.size; have h1 := hg10; omega)
                  refine ⟨⟨S12, ((RBn.out.ext T10).grown hg12 (by have h0 := (Nat.lt_of_lt_of_le RBn.out.lt T9.size); have h1 := hg10; omega)), ((RBby.out.ext T10).grown hg12 (by have h0 := (Nat.lt_of_lt_of_le RBby.out.lt T9.size); have h1 := hg10; omega))⟩, ?_⟩
                  simp only [Act.put, List.setIfInBounds_toArray, List.set_cons_zero, List.set_cons_succ]
                  refine wpAnyH_ready (rs := [13]) (by kernel_rfl) (by simp) ?_
                  have hq13 := ((HB11.out.ext (hx9.trans hx10)).grown hg12 (by have h0 := (Nat.lt_of_lt_of_le HB11.out.lt hx9.size); have h1 := hg10; omega))
                  refine drawn_store 13 27 (.tmp 12) (.tmp 62) (g11) #[.bool b9q, .slice A9q n9q c9q, .bool e9q, .slice B9q m9q d9q] #[.bool false, .slice none 0 0, .bool false, .slice none 0 0] 27 (by kernel_rfl) rfl rfl hq13.h info_rat rfl one_four (fun v13 hb13 hg13 => ?_) ?_
                  · have HB13 := hid (show Bk 27 v13 (g11) #[.bool b9q, .slice A9q n9q c9q, .bool e9q, .slice B9q m9q d9q] from hb13)
                    have S13 := S12.gb hg13 (by have h := S7.size; have h1 := hg11; omega)
                    refine ⟨⟨S13, (((RBn.out.ext T10).grown hg12 (by have h0 := (Nat.lt_of_lt_of_le RBn.out.lt T9.size); have h1 := hg10; omega)).grown hg13 (by have h0 := (Nat.lt_of_lt_of_le RBn.out.lt T7.size); have h1 := hg11; omega)), (((RBby.out.ext T10).grown hg12 (by have h0 := (Nat.lt_of_lt_of_le RBby.out.lt T9.size); have h1 := hg10; omega)).grown hg13 (by have h0 := (Nat.lt_of_lt_of_le RBby.out.lt T7.size); have h1 := hg11; omega))⟩, ?_⟩
                    simp only [Act.put, List.setIfInBounds_toArray, List.set_cons_zero, List.set_cons_succ]
                    refine wpAnyH_done (by kernel_rfl) ?_ _
                    go_step
                    go_step
                    go_meet
                    case rel => exact ⟨_, _, _, _, _, _, _, _, _, _, _, _, _, _, _, _, _, _, rfl, rfl, (Nat.le_trans T9.size hg10), (Nat.le_trans T7.size hg11), (by have h0 := (Nat.lt_of_lt_of_le HB11.out.lt hx9.size); have h1 := hg10; omega), (((RBx.out.ext T10).grown hg12 (by have h0 := (Nat.lt_of_lt_of_le RBx.out.lt T9.size); have h1 := hg10; omega)).grown hg13 (by have h0 := (Nat.lt_of_lt_of_le RBx.out.lt T7.size); have h1 := hg11; omega)), (((RBy.out.ext T10).grown hg12 (by have h0 := (Nat.lt_of_lt_of_le RBy.out.lt T9.size); have h1 := hg10; omega)).grown hg13 (by have h0 := (Nat.lt_of_lt_of_le RBy.out.lt T7.size); have h1 := hg11; omega)), (((RBby.out.ext T10).grown hg12 (by have h0 := (Nat.lt_of_lt_of_le RBby.out.lt T9.size); have h1 := hg10; omega)).grown hg13 (by have h0 := (Nat.lt_of_lt_of_le RBby.out.lt T7.size); have h1 := hg11; omega)), (((RBn.out.ext T10).grown hg12 (by have h0 := (Nat.lt_of_lt_of_le RBn.out.lt T9.size); have h1 := hg10; omega)).grown hg13 (by have h0 := (Nat.lt_of_lt_of_le RBn.out.lt T7.size); have h1 := hg11; omega)), (HB12.out.grown hg13 (by have h0 := (Nat.lt_of_lt_of_le HB11.out.lt hx9.size); have h1 := hg10; omega)), HB13.out, (((RFby.out.ext T10).gbk hq12 (by decide) hg12).gbk hq13 (by decide) hg13), (((RFn.out.ext T10).gbk hq12 (by decide) hg12).gbk hq13 (by decide) hg13), ((((o4.mono S2.size).ext (((hx7.trans hx11).trans hx9).trans hx10)).gbk hq12 (by decide) hg12).gbk hq13 (by decide) hg13), ((((o9.mono S11.size).ext hx10).gbk hq12 (by decide) hg12).gbk hq13 (by decide) hg13), S13⟩
                  exact drawn_nil
                exact drawn_nil
              exact drawn_nil
            refine drawn_alloc 10 (some 11) (by kernel_rfl) alloc_rat (fun g10 v10 hb10 hx10 hg10 => ?_) ?_
            · have HB10 := hid (show Bk 27 v10 g10 #[.bool false, .slice none 0 0, .bool false, .slice none 0 0] from hb10)
              have S10 := S11.trans hx10
              have T10 := T11.trans hx10
              refine ⟨⟨S10, (RBn.out.ext T10), (RBby.out.ext T10)⟩, ?_⟩
              simp only [Act.put, List.setIfInBounds_toArray, List.set_cons_zero, List.set_cons_succ]
              refine wpAnyH_ready (rs := [9]) (by kernel_rfl) (by simp) ?_
              refine drawn_call2 9 (some 62) (.tmp 60) (.tmp 61) (ts := #[27, 27]) (by kernel_rfl) (enters_of Try.func23 (by kernel_rfl) rfl) rfl rfl (qmul_v ((o7.mono S4.size).ext (hx11.trans hx10)).rv (RFby.out.ext T10).rv (by omega)) (fun E v9 hh => ?_) ?_
              · skip
                obtain ⟨b9q, A9q, n9q, c9q, e9q, B9q, m9q, d9q, rfl, o9, hx9⟩ := hh
                have S9 := S10.trans hx9
                have T9 := T10.trans hx9
                refine ⟨_, rfl, ⟨S9, (RBn.out.ext T9), (RBby.out.ext T9)⟩, ?_⟩
                simp only [Act.put, List.setIfInBounds_toArray, List.set_cons_zero, List.set_cons_succ]
                refine wpAnyH_ready (rs := [12]) (by kernel_rfl) (by simp) ?_
                have hq12 := (HB10.out.ext hx9)
                refine drawn_store 12 27 (.tmp 11) (.tmp 57) (g10) #[.bool b4q, .slice A4q n4q c4q, .bool e4q, .slice B4q m4q d4q] #[.bool false, .slice none 0 0, .bool false, .slice none 0 0] 27 (by kernel_rfl) rfl rfl hq12.h info_rat rfl one_four (fun v12 hb12 hg12 => ?_) ?_
                · have HB12 := hid (show Bk 27 v12 (g10) #[.bool b4q, .slice A4q n4q c4q, .bool e4q, .slice B4q m4q d4q] from hb12)
                  have S12 := S9.gb hg12 (by have h := S11.size; have h1 := hg10; omega)
                  refine ⟨⟨S12, ((RBn.out.ext T9).grown hg12 (by have h0 := (Nat.lt_of_lt_of_le RBn.out.lt T11.size); have h1 := hg10; omega)), ((RBby.out.ext T9).grown hg12 (by have h0 := (Nat.lt_of_lt_of_le RBby.out.lt T11.size); have h1 := hg10; omega))⟩, ?_⟩
                  simp only [Act.put, List.setIfInBounds_toArray, List.set_cons_zero, List.set_cons_succ]
                  refine wpAnyH_ready (rs := [13]) (by kernel_rfl) (by simp) ?_
                  have hq13 := ((HB11.out.ext (hx10.trans hx9)).grown hg12 (by have h0 := HB11.out.lt; have h1 := hg10; omega))
                  refine drawn_store 13 27 (.tmp 12) (.tmp 62) (g11) #[.bool b9q, .slice A9q n9q c9q, .bool e9q, .slice B9q m9q d9q] #[.bool false, .slice none 0 0, .bool false, .slice none 0 0] 27 (by kernel_rfl) rfl rfl hq13.h info_rat rfl one_four (fun v13 hb13 hg13 => ?_) ?_
                  · have HB13 := hid (show Bk 27 v13 (g11) #[.bool b9q, .slice A9q n9q c9q, .bool e9q, .slice B9q m9q d9q] from hb13)
                    have S13 := S12.gb hg13 (by have h := S7.size; have h1 := hg11; omega)
                    refine ⟨⟨S13, (((RBn.out.ext T9).grown hg12 (by have h0 := (Nat.lt_of_lt_of_le RBn.out.lt T11.size); have h1 := hg10; omega)).grown hg13 (by have h0 := (Nat.lt_of_lt_of_le RBn.out.lt T7.size); have h1 := hg11; omega)), (((RBby.out.ext T9).grown hg12 (by have h0 := (Nat.lt_of_lt_of_le RBby.out.lt T11.size); have h1 := hg10; omega)).grown hg13 (by have h0 := (Nat.lt_of_lt_of_le RBby.out.lt T7.size); have h1 := hg11; omega))⟩, ?_⟩
                    simp only [Act.put, List.setIfInBounds_toArray, List.set_cons_zero, List.set_cons_succ]
                    refine wpAnyH_done (by kernel_rfl) ?_ _
                    go_step
                    go_step
                    go_meet
                    case rel => exact ⟨_, _, _, _, _, _, _, _, _, _, _, _, _, _, _, _, _, _, rfl, rfl, (Nat.le_trans T11.size hg10), (Nat.le_trans T7.size hg11), (by have h0 := HB11.out.lt; have h1 := hg10; omega), (((RBx.out.ext T9).grown hg12 (by have h0 := (Nat.lt_of_lt_of_le RBx.out.lt T11.size); have h1 := hg10; omega)).grown hg13 (by have h0 := (Nat.lt_of_lt_of_le RBx.out.lt T7.size); have h1 := hg11; omega)), (((RBy.out.ext T9).grown hg12 (by have h0 := (Nat.lt_of_lt_of_le RBy.out.lt T11.size); have h1 := hg10; omega)).grown hg13 (by have h0 := (Nat.lt_of_lt_of_le RBy.out.lt T7.size); have h1 := hg11; omega)), (((RBby.out.ext T9).grown hg12 (by have h0 := (Nat.lt_of_lt_of_le RBby.out.lt T11.size); have h1 := hg10; omega)).grown hg13 (by have h0 := (Nat.lt_of_lt_of_le RBby.out.lt T7.size); have h1 := hg11; omega)), (((RBn.out.ext T9).grown hg12 (by have h0 := (Nat.lt_of_lt_of_le RBn.out.lt T11.size); have h1 := hg10; omega)).grown hg13 (by have h0 := (Nat.lt_of_lt_of_le RBn.out.lt T7.size); have h1 := hg11; omega)), (HB12.out.grown hg13 (by have h0 := HB11.out.lt; have h1 := hg10; omega)), HB13.out, (((RFby.out.ext T9).gbk hq12 (by decide) hg12).gbk hq13 (by decide) hg13), (((RFn.out.ext T9).gbk hq12 (by decide) hg12).gbk hq13 (by decide) hg13), ((((o4.mono S2.size).ext (((hx7.trans hx11).trans hx10).trans hx9)).gbk hq12 (by decide) hg12).gbk hq13 (by decide) hg13), (((o9.mono S10.size).gbk hq12 (by decide) hg12).gbk hq13 (by decide) hg13), S13⟩
                  exact drawn_nil
                exact drawn_nil
              exact drawn_nil
            exact drawn_nil
          exact drawn_nil
        refine drawn_alloc 10 (some 11) (by kernel_rfl) alloc_rat (fun g10 v10 hb10 hx10 hg10 => ?_) ?_
        · have HB10 := hid (show Bk 27 v10 g10 #[.bool false, .slice none 0 0, .bool false, .slice none 0 0] from hb10)
          have S10 := S4.trans hx10
          have T10 := T4.trans hx10
          refine ⟨⟨S10, (RBn.out.ext T10), (RBby.out.ext T10)⟩, ?_⟩
          simp only [Act.put, List.setIfInBounds_toArray, List.set_cons_zero, List.set_cons_succ]
          refine wpAnyH_ready (rs := [7, 11]) (by kernel_rfl) (by simp) ?_
          refine drawn_call1 7 (some 60) (.tmp 59) (ts := #[24]) (by kernel_rfl) (enters_of Try.func24 (by kernel_rfl) rfl) rfl (rwhole_v (RFn.out.ext T10).de.iz (by omega)) (fun E v7 hh => ?_) ?_
          · skip
            obtain ⟨b7q, A7q, n7q, c7q, e7q, B7q, m7q, d7q, rfl, o7, hx7⟩ := hh
            have S7 := S10.trans hx7
            have T7 := T10.trans hx7
            refine ⟨_, rfl, ⟨S7, (RBn.out.ext T7), (RBby.out.ext T7)⟩, ?_⟩
            simp only [Act.put, List.setIfInBounds_toArray, List.set_cons_zero, List.set_cons_succ]
            refine wpAnyH_ready (rs := [9, 11]) (by kernel_rfl) (by simp) ?_
            refine drawn_call2 9 (some 62) (.tmp 60) (.tmp 61) (ts := #[27, 27]) (by kernel_rfl) (enters_of Try.func23 (by kernel_rfl) rfl) rfl rfl (qmul_v (o7.mono S10.size).rv (RFby.out.ext T7).rv (by omega)) (fun E v9 hh => ?_) ?_
            · skip
              obtain ⟨b9q, A9q, n9q, c9q, e9q, B9q, m9q, d9q, rfl, o9, hx9⟩ := hh
              have S9 := S7.trans hx9
              have T9 := T7.trans hx9
              refine ⟨_, rfl, ⟨S9, (RBn.out.ext T9), (RBby.out.ext T9)⟩, ?_⟩
              simp only [Act.put, List.setIfInBounds_toArray, List.set_cons_zero, List.set_cons_succ]
              refine wpAnyH_ready (rs := [11]) (by kernel_rfl) (by simp) ?_
              refine drawn_alloc 11 (some 12) (by kernel_rfl) alloc_rat (fun g11 v11 hb11 hx11 hg11 => ?_) ?_
              · have HB11 := hid (show Bk 27 v11 g11 #[.bool false, .slice none 0 0, .bool false, .slice none 0 0] from hb11)
                have S11 := S9.trans hx11
                have T11 := T9.trans hx11
                refine ⟨⟨S11, (RBn.out.ext T11), (RBby.out.ext T11)⟩, ?_⟩
                simp only [Act.put, List.setIfInBounds_toArray, List.set_cons_zero, List.set_cons_succ]
                refine wpAnyH_ready (rs := [12]) (by kernel_rfl) (by simp) ?_
                have hq12 := (HB10.out.ext ((hx7.trans hx9).trans hx11))
                refine drawn_store 12 27 (.tmp 11) (.tmp 57) (g10) #[.bool b4q, .slice A4q n4q c4q, .bool e4q, .slice B4q m4q d4q] #[.bool false, .slice none 0 0, .bool false, .slice none 0 0] 27 (by kernel_rfl) rfl rfl hq12.h info_rat rfl one_four (fun v12 hb12 hg12 => ?_) ?_
                · have HB12 := hid (show Bk 27 v12 (g10) #[.bool b4q, .slice A4q n4q c4q, .bool e4q, .slice B4q m4q d4q] from hb12)
                  have S12 := S11.gb hg12 (by have h := S4.size; have h1 := hg10; omega)
                  refine ⟨⟨S12, ((RBn.out.ext T11).grown hg12 (by have h0 := (Nat.lt_of_lt_of_le RBn.out.lt T4.size); have h1 := hg10; omega)), ((RBby.out.ext T11).grown hg12 (by have h0 := (Nat.lt_of_lt_of_le RBby.out.lt T4.size); have h1 := hg10; omega))⟩, ?_⟩
                  simp only [Act.put, List.setIfInBounds_toArray, List.set_cons_zero, List.set_cons_succ]
                  refine wpAnyH_ready (rs := [13]) (by kernel_rfl) (by simp) ?_
                  have hq13 := (HB11.out.grown hg12 (by have h0 := (Nat.lt_of_lt_of_le HB10.out.lt (Nat.le_trans hx7.size hx9.size)); have h1 := hg11; omega))
                  refine drawn_store 13 27 (.tmp 12) (.tmp 62) (g11) #[.bool b9q, .slice A9q n9q c9q, .bool e9q, .slice B9q m9q d9q] #[.bool false, .slice none 0 0, .bool false, .slice none 0 0] 27 (by kernel_rfl) rfl rfl hq13.h info_rat rfl one_four (fun v13 hb13 hg13 => ?_) ?_
                  · have HB13 := hid (show Bk 27 v13 (g11) #[.bool b9q, .slice A9q n9q c9q, .bool e9q, .slice B9q m9q d9q] from hb13)
                    have S13 := S12.gb hg13 (by have h := S9.size; have h1 := hg11; omega)
                    refine ⟨⟨S13, (((RBn.out.ext T11).grown hg12 (by have h0 := (Nat.lt_of_lt_of_le RBn.out.lt T4.size); have h1 := hg10; omega)).grown hg13 (by have h0 := (Nat.lt_of_lt_of_le RBn.out.lt T9.size); have h1 := hg11; omega)), (((RBby.out.ext T11).grown hg12 (by have h0 := (Nat.lt_of_lt_of_le RBby.out.lt T4.size); have h1 := hg10; omega)).grown hg13 (by have h0 := (Nat.lt_of_lt_of_le RBby.out.lt T9.size); have h1 := hg11; omega))⟩, ?_⟩
                    simp only [Act.put, List.setIfInBounds_toArray, List.set_cons_zero, List.set_cons_succ]
                    refine wpAnyH_done (by kernel_rfl) ?_ _
                    go_step
                    go_step
                    go_meet
                    case rel => exact ⟨_, _, _, _, _, _, _, _, _, _, _, _, _, _, _, _, _, _, rfl, rfl, (Nat.le_trans T4.size hg10), (Nat.le_trans T9.size hg11), (by have h0 := (Nat.lt_of_lt_of_le HB10.out.lt (Nat.le_trans hx7.size hx9.size)); have h1 := hg11; omega), (((RBx.out.ext T11).grown hg12 (by have h0 := (Nat.lt_of_lt_of_le RBx.out.lt T4.size); have h1 := hg10; omega)).grown hg13 (by have h0 := (Nat.lt_of_lt_of_le RBx.out.lt T9.size); have h1 := hg11; omega)), (((RBy.out.ext T11).grown hg12 (by have h0 := (Nat.lt_of_lt_of_le RBy.out.lt T4.size); have h1 := hg10; omega)).grown hg13 (by have h0 := (Nat.lt_of_lt_of_le RBy.out.lt T9.size); have h1 := hg11; omega)), (((RBby.out.ext T11).grown hg12 (by have h0 := (Nat.lt_of_lt_of_le RBby.out.lt T4.size); have h1 := hg10; omega)).grown hg13 (by have h0 := (Nat.lt_of_lt_of_le RBby.out.lt T9.size); have h1 := hg11; omega)), (((RBn.out.ext T11).grown hg12 (by have h0 := (Nat.lt_of_lt_of_le RBn.out.lt T4.size); have h1 := hg10; omega)).grown hg13 (by have h0 := (Nat.lt_of_lt_of_le RBn.out.lt T9.size); have h1 := hg11; omega)), (HB12.out.grown hg13 (by have h0 := (Nat.lt_of_lt_of_le HB10.out.lt (Nat.le_trans hx7.size hx9.size)); have h1 := hg11; omega)), HB13.out, (((RFby.out.ext T11).gbk hq12 (by decide) hg12).gbk hq13 (by decide) hg13), (((RFn.out.ext T11).gbk hq12 (by decide) hg12).gbk hq13 (by decide) hg13), ((((o4.mono S2.size).ext (((hx10.trans hx7).trans hx9).trans hx11)).gbk hq12 (by decide) hg12).gbk hq13 (by decide) hg13), ((((o9.mono S7.size).ext hx11).gbk hq12 (by decide) hg12).gbk hq13 (by decide) hg13), S13⟩
                  exact drawn_nil
                exact drawn_nil
              exact drawn_nil
            refine drawn_alloc 11 (some 12) (by kernel_rfl) alloc_rat (fun g11 v11 hb11 hx11 hg11 => ?_) ?_
            · have HB11 := hid (show Bk 27 v11 g11 #[.bool false, .slice none 0 0, .bool false, .slice none 0 0] from hb11)
              have S11 := S7.trans hx11
              have T11 := T7.trans hx11
              refine ⟨⟨S11, (RBn.out.ext T11), (RBby.out.ext T11)⟩, ?_⟩
              simp only [Act.put, List.setIfInBounds_toArray, List.set_cons_zero, List.set_cons_succ]
              refine wpAnyH_ready (rs := [9]) (by kernel_rfl) (by simp) ?_
              refine drawn_call2 9 (some 62) (.tmp 60) (.tmp 61) (ts := #[27, 27]) (by kernel_rfl) (enters_of Try.func23 (by kernel_rfl) rfl) rfl rfl (qmul_v ((o7.mono S10.size).ext hx11).rv (RFby.out.ext T11).rv (by omega)) (fun E v9 hh => ?_) ?_
              · skip
                obtain ⟨b9q, A9q, n9q, c9q, e9q, B9q, m9q, d9q, rfl, o9, hx9⟩ := hh
                have S9 := S11.trans hx9
                have T9 := T11.trans hx9
                refine ⟨_, rfl, ⟨S9, (RBn.out.ext T9), (RBby.out.ext T9)⟩, ?_⟩
                simp only [Act.put, List.setIfInBounds_toArray, List.set_cons_zero, List.set_cons_succ]
                refine wpAnyH_ready (rs := [12]) (by kernel_rfl) (by simp) ?_
                have hq12 := (HB10.out.ext ((hx7.trans hx11).trans hx9))
                refine drawn_store 12 27 (.tmp 11) (.tmp 57) (g10) #[.bool b4q, .slice A4q n4q c4q, .bool e4q, .slice B4q m4q d4q] #[.bool false, .slice none 0 0, .bool false, .slice none 0 0] 27 (by kernel_rfl) rfl rfl hq12.h info_rat rfl one_four (fun v12 hb12 hg12 => ?_) ?_
                · have HB12 := hid (show Bk 27 v12 (g10) #[.bool b4q, .slice A4q n4q c4q, .bool e4q, .slice B4q m4q d4q] from hb12)
                  have S12 := S9.gb hg12 (by have h := S4.size; have h1 := hg10; omega)
                  refine ⟨⟨S12, ((RBn.out.ext T9).grown hg12 (by have h0 := (Nat.lt_of_lt_of_le RBn.out.lt T4.size); have h1 := hg10; omega)), ((RBby.out.ext T9).grown hg12 (by have h0 := (Nat.lt_of_lt_of_le RBby.out.lt T4.size); have h1 := hg10; omega))⟩, ?_⟩
                  simp only [Act.put, List.setIfInBounds_toArray, List.set_cons_zero, List.set_cons_succ]
                  refine wpAnyH_ready (rs := [13]) (by kernel_rfl) (by simp) ?_
                  have hq13 := ((HB11.out.ext hx9).grown hg12 (by have h0 := (Nat.lt_of_lt_of_le HB10.out.lt hx7.size); have h1 := hg11; omega))
                  refine drawn_store 13 27 (.tmp 12) (.tmp 62) (g11) #[.bool b9q, .slice A9q n9q c9q, .bool e9q, .slice B9q m9q d9q] #[.bool false, .slice none 0 0, .bool false, .slice none 0 0] 27 (by kernel_rfl) rfl rfl hq13.h info_rat rfl one_four (fun v13 hb13 hg13 => ?_) ?_
                  · have HB13 := hid (show Bk 27 v13 (g11) #[.bool b9q, .slice A9q n9q c9q, .bool e9q, .slice B9q m9q d9q] from hb13)
                    have S13 := S12.gb hg13 (by have h := S7.size; have h1 := hg11; omega)
                    refine ⟨⟨S13, (((RBn.out.ext T9).grown hg12 (by have h0 := (Nat.lt_of_lt_of_le RBn.out.lt T4.size); have h1 := hg10; omega)).grown hg13 (by have h0 := (Nat.lt_of_lt_of_le RBn.out.lt T7.size); have h1 := hg11; omega)), (((RBby.out.ext T9).grown hg12 (by have h0 := (Nat.lt_of_lt_of_le RBby.out.lt T4.size); have h1 := hg10; omega)).grown hg13 (by have h0 := (Nat.lt_of_lt_of_le RBby.out.lt T7.size); have h1 := hg11; omega))⟩, ?_⟩
                    simp only [Act.put, List.setIfInBounds_toArray, List.set_cons_zero, List.set_cons_succ]
                    refine wpAnyH_done (by kernel_rfl) ?_ _
                    go_step
                    go_step
                    go_meet
                    case rel => exact ⟨_, _, _, _, _, _, _, _, _, _, _, _, _, _, _, _, _, _, rfl, rfl, (Nat.le_trans T4.size hg10), (Nat.le_trans T7.size hg11), (by have h0 := (Nat.lt_of_lt_of_le HB10.out.lt hx7.size); have h1 := hg11; omega), (((RBx.out.ext T9).grown hg12 (by have h0 := (Nat.lt_of_lt_of_le RBx.out.lt T4.size); have h1 := hg10; omega)).grown hg13 (by have h0 := (Nat.lt_of_lt_of_le RBx.out.lt T7.size); have h1 := hg11; omega)), (((RBy.out.ext T9).grown hg12 (by have h0 := (Nat.lt_of_lt_of_le RBy.out.lt T4.size); have h1 := hg10; omega)).grown hg13 (by have h0 := (Nat.lt_of_lt_of_le RBy.out.lt T7.size); have h1 := hg11; omega)), (((RBby.out.ext T9).grown hg12 (by have h0 := (Nat.lt_of_lt_of_le RBby.out.lt T4.size); have h1 := hg10; omega)).grown hg13 (by have h0 := (Nat.lt_of_lt_of_le RBby.out.lt T7.size); have h1 := hg11; omega)), (((RBn.out.ext T9).grown hg12 (by have h0 := (Nat.lt_of_lt_of_le RBn.out.lt T4.size); have h1 := hg10; omega)).grown hg13 (by have h0 := (Nat.lt_of_lt_of_le RBn.out.lt T7.size); have h1 := hg11; omega)), (HB12.out.grown hg13 (by have h0 := (Nat.lt_of_lt_of_le HB10.out.lt hx7.size); have h1 := hg11; omega)), HB13.out, (((RFby.out.ext T9).gbk hq12 (by decide) hg12).gbk hq13 (by decide) hg13), (((RFn.out.ext T9).gbk hq12 (by decide) hg12).gbk hq13 (by decide) hg13), ((((o4.mono S2.size).ext (((hx10.trans hx7).trans hx11).trans hx9)).gbk hq12 (by decide) hg12).gbk hq13 (by decide) hg13), (((o9.mono S11.size).gbk hq12 (by decide) hg12).gbk hq13 (by decide) hg13), S13⟩
                  exact drawn_nil
                exact drawn_nil
              exact drawn_nil
            exact drawn_nil
          refine drawn_alloc 11 (some 12) (by kernel_rfl) alloc_rat (fun g11 v11 hb11 hx11 hg11 => ?_) ?_
          · have HB11 := hid (show Bk 27 v11 g11 #[.bool false, .slice none 0 0, .bool false, .slice none 0 0] from hb11)
            have S11 := S10.trans hx11
            have T11 := T10.trans hx11
            refine ⟨⟨S11, (RBn.out.ext T11), (RBby.out.ext T11)⟩, ?_⟩
            simp only [Act.put, List.setIfInBounds_toArray, List.set_cons_zero, List.set_cons_succ]
            refine wpAnyH_ready (rs := [7]) (by kernel_rfl) (by simp) ?_
            refine drawn_call1 7 (some 60) (.tmp 59) (ts := #[24]) (by kernel_rfl) (enters_of Try.func24 (by kernel_rfl) rfl) rfl (rwhole_v (RFn.out.ext T11).de.iz (by omega)) (fun E v7 hh => ?_) ?_
            · skip
              obtain ⟨b7q, A7q, n7q, c7q, e7q, B7q, m7q, d7q, rfl, o7, hx7⟩ := hh
              have S7 := S11.trans hx7
              have T7 := T11.trans hx7
              refine ⟨_, rfl, ⟨S7, (RBn.out.ext T7), (RBby.out.ext T7)⟩, ?_⟩
              simp only [Act.put, List.setIfInBounds_toArray, List.set_cons_zero, List.set_cons_succ]
              refine wpAnyH_ready (rs := [9]) (by kernel_rfl) (by simp) ?_
              refine drawn_call2 9 (some 62) (.tmp 60) (.tmp 61) (ts := #[27, 27]) (by kernel_rfl) (enters_of Try.func23 (by kernel_rfl) rfl) rfl rfl (qmul_v (o7.mono S11.size).rv (RFby.out.ext T7).rv (by omega)) (fun E v9 hh => ?_) ?_
              · skip
                obtain ⟨b9q, A9q, n9q, c9q, e9q, B9q, m9q, d9q, rfl, o9, hx9⟩ := hh
                have S9 := S7.trans hx9
                have T9 := T7.trans hx9
                refine ⟨_, rfl, ⟨S9, (RBn.out.ext T9), (RBby.out.ext T9)⟩, ?_⟩
                simp only [Act.put, List.setIfInBounds_toArray, List.set_cons_zero, List.set_cons_succ]
                refine wpAnyH_ready (rs := [12]) (by kernel_rfl) (by simp) ?_
                have hq12 := (HB10.out.ext ((hx11.trans hx7).trans hx9))
                refine drawn_store 12 27 (.tmp 11) (.tmp 57) (g10) #[.bool b4q, .slice A4q n4q c4q, .bool e4q, .slice B4q m4q d4q] #[.bool false, .slice none 0 0, .bool false, .slice none 0 0] 27 (by kernel_rfl) rfl rfl hq12.h info_rat rfl one_four (fun v12 hb12 hg12 => ?_) ?_
                · have HB12 := hid (show Bk 27 v12 (g10) #[.bool b4q, .slice A4q n4q c4q, .bool e4q, .slice B4q m4q d4q] from hb12)
                  have S12 := S9.gb hg12 (by have h := S4.size; have h1 := hg10; omega)
                  refine ⟨⟨S12, ((RBn.out.ext T9).grown hg12 (by have h0 := (Nat.lt_of_lt_of_le RBn.out.lt T4.size); have h1 := hg10; omega)), ((RBby.out.ext T9).grown hg12 (by have h0 := (Nat.lt_of_lt_of_le RBby.out.lt T4.size); have h1 := hg10; omega))⟩, ?_⟩
                  simp only [Act.put, List.setIfInBounds_toArray, List.set_cons_zero, List.set_cons_succ]
                  refine wpAnyH_ready (rs := [13]) (by kernel_rfl) (by simp) ?_
                  have hq13 := ((HB11.out.ext (hx7.trans hx9)).grown hg12 (by have h0 := HB10.out.lt; have h1 := hg11; omega))
                  refine drawn_store 13 27 (.tmp 12) (.tmp 62) (g11) #[.bool b9q, .slice A9q n9q c9q, .bool e9q, .slice B9q m9q d9q] #[.bool false, .slice none 0 0, .bool false, .slice none 0 0] 27 (by kernel_rfl) rfl rfl hq13.h info_rat rfl one_four (fun v13 hb13 hg13 => ?_) ?_
                  · have HB13 := hid (show Bk 27 v13 (g11) #[.bool b9q, .slice A9q n9q c9q, .bool e9q, .slice B9q m9q d9q] from hb13)
                    have S13 := S12.gb hg13 (by have h := S10.size; have h1 := hg11; omega)
                    refine ⟨⟨S13, (((RBn.out.ext T9).grown hg12 (by have h0 := (Nat.lt_of_lt_of_le RBn.out.lt T4.size); have h1 := hg10; omega)).grown hg13 (by have h0 := (Nat.lt_of_lt_of_le RBn.out.lt T10.size); have h1 := hg11; omega)), (((RBby.out.ext T9).grown hg12 (by have h0 := (Nat.lt_of_lt_of_le RBby.out.lt T4.size); have h1 := hg10; omega)).grown hg13 (by have h0 := (Nat.lt_of_lt_of_le RBby.out.lt T10.size); have h1 := hg11; omega))⟩, ?_⟩
                    simp only [Act.put, List.setIfInBounds_toArray, List.set_cons_zero, List.set_cons_succ]
                    refine wpAnyH_done (by kernel_rfl) ?_ _
                    go_step
                    go_step
                    go_meet
                    case rel => exact ⟨_, _, _, _, _, _, _, _, _, _, _, _, _, _, _, _, _, _, rfl, rfl, (Nat.le_trans T4.size hg10), (Nat.le_trans T10.size hg11), (by have h0 := HB10.out.lt; have h1 := hg11; omega), (((RBx.out.ext T9).grown hg12 (by have h0 := (Nat.lt_of_lt_of_le RBx.out.lt T4.size); have h1 := hg10; omega)).grown hg13 (by have h0 := (Nat.lt_of_lt_of_le RBx.out.lt T10.size); have h1 := hg11; omega)), (((RBy.out.ext T9).grown hg12 (by have h0 := (Nat.lt_of_lt_of_le RBy.out.lt T4.size); have h1 := hg10; omega)).grown hg13 (by have h0 := (Nat.lt_of_lt_of_le RBy.out.lt T10.size); have h1 := hg11; omega)), (((RBby.out.ext T9).grown hg12 (by have h0 := (Nat.lt_of_lt_of_le RBby.out.lt T4.size); have h1 := hg10; omega)).grown hg13 (by have h0 := (Nat.lt_of_lt_of_le RBby.out.lt T10.size); have h1 := hg11; omega)), (((RBn.out.ext T9).grown hg12 (by have h0 := (Nat.lt_of_lt_of_le RBn.out.lt T4.size); have h1 := hg10; omega)).grown hg13 (by have h0 := (Nat.lt_of_lt_of_le RBn.out.lt T10.size); have h1 := hg11; omega)), (HB12.out.grown hg13 (by have h0 := HB10.out.lt; have h1 := hg11; omega)), HB13.out, (((RFby.out.ext T9).gbk hq12 (by decide) hg12).gbk hq13 (by decide) hg13), (((RFn.out.ext T9).gbk hq12 (by decide) hg12).gbk hq13 (by decide) hg13), ((((o4.mono S2.size).ext (((hx10.trans hx11).trans hx7).trans hx9)).gbk hq12 (by decide) hg12).gbk hq13 (by decide) hg13), (((o9.mono S7.size).gbk hq12 (by decide) hg12).gbk hq13 (by decide) hg13), S13⟩
                  exact drawn_nil
                exact drawn_nil
              exact drawn_nil
            exact drawn_nil
          exact drawn_nil
        refine drawn_alloc 11 (some 12) (by kernel_rfl) alloc_rat (fun g11 v11 hb11 hx11 hg11 => ?_) ?_
        · have HB11 := hid (show Bk 27 v11 g11 #[.bool false, .slice none 0 0, .bool false, .slice none 0 0] from hb11)
          have S11 := S4.trans hx11
          have T11 := T4.trans hx11
          refine ⟨⟨S11, (RBn.out.ext T11), (RBby.out.ext T11)⟩, ?_⟩
          simp only [Act.put, List.setIfInBounds_toArray, List.set_cons_zero, List.set_cons_succ]
          refine wpAnyH_ready (rs := [7, 10]) (by kernel_rfl) (by simp) ?_
          refine drawn_call1 7 (some 60) (.tmp 59) (ts := #[24]) (by kernel_rfl) (enters_of Try.func24 (by kernel_rfl) rfl) rfl (rwhole_v (RFn.out.ext T11).de.iz (by omega)) (fun E v7 hh => ?_) ?_
          · skip
            obtain ⟨b7q, A7q, n7q, c7q, e7q, B7q, m7q, d7q, rfl, o7, hx7⟩ := hh
            have S7 := S11.trans hx7
            have T7 := T11.trans hx7
            refine ⟨_, rfl, ⟨S7, (RBn.out.ext T7), (RBby.out.ext T7)⟩, ?_⟩
            simp only [Act.put, List.setIfInBounds_toArray, List.set_cons_zero, List.set_cons_succ]
            refine wpAnyH_ready (rs := [9, 10]) (by kernel_rfl) (by simp) ?_
            refine drawn_call2 9 (some 62) (.tmp 60) (.tmp 61) (ts := #[27, 27]) (by kernel_rfl) (enters_of Try.func23 (by kernel_rfl) rfl) rfl rfl (qmul_v (o7.mono S11.size).rv (RFby.out.ext T7).rv (by omega)) (fun E v9 hh => ?_) ?_
            · skip
              obtain ⟨b9q, A9q, n9q, c9q, e9q, B9q, m9q, d9q, rfl, o9, hx9⟩ := hh
              have S9 := S7.trans hx9
              have T9 := T7.trans hx9
              refine ⟨_, rfl, ⟨S9, (RBn.out.ext T9), (RBby.out.ext T9)⟩, ?_⟩
              simp only [Act.put, List.setIfInBounds_toArray, List.set_cons_zero, List.set_cons_succ]
              refine wpAnyH_ready (rs := [10]) (by kernel_rfl) (by simp) ?_
              refine drawn_alloc 10 (some 11) (by kernel_rfl) alloc_rat (fun g10 v10 hb10 hx10 hg10 => ?_) ?_
              · have HB10 := hid (show Bk 27 v10 g10 #[.bool false, .slice none 0 0, .bool false, .slice none 0 0] from hb10)
                have S10 := S9.trans hx10
                have T10 := T9.trans hx10
                refine ⟨⟨S10, (RBn.out.ext T10), (RBby.out.ext T10)⟩, ?_⟩
                simp only [Act.put, List.setIfInBounds_toArray, List.set_cons_zero, List.set_cons_succ]
                refine wpAnyH_ready (rs := [12]) (by kernel_rfl) (by simp) ?_
                have hq12 := HB10.out
                refine drawn_store 12 27 (.tmp 11) (.tmp 57) (g10) #[.bool b4q, .slice A4q n4q c4q, .bool e4q, .slice B4q m4q d4q] #[.bool false, .slice none 0 0, .bool false, .slice none 0 0] 27 (by kernel_rfl) rfl rfl hq12.h info_rat rfl one_four (fun v12 hb12 hg12 => ?_) ?_
                · have HB12 := hid (show Bk 27 v12 (g10) #[.bool b4q, .slice A4q n4q c4q, .bool e4q, .slice B4q m4q d4q] from hb12)
                  have S12 := S10.gb hg12 (by have h := S9.size; have h1 := hg10; omega)
                  refine ⟨⟨S12, ((RBn.out.ext T10).grown hg12 (by have h0 := (Nat.lt_of_lt_of_le RBn.out.lt T9.size); have h1 := hg10; omega)), ((RBby.out.ext T10).grown hg12 (by have h0 := (Nat.lt_of_lt_of_le RBby.out.lt T9.size); have h1 := hg10; omega))⟩, ?_⟩
                  simp only [Act.put, List.setIfInBounds_toArray, List.set_cons_zero, List.set_cons_succ]
                  refine wpAnyH_ready (rs := [13]) (by kernel_rfl) (by simp) ?_
                  have hq13 := ((HB11.out.ext ((hx7.trans hx9).trans hx10)).grown hg12 (by have h0 := (Nat.lt_of_lt_of_le HB11.out.lt (Nat.le_trans hx7.size hx9.size)); have h1 := hg10; omega))
                  refine drawn_store 13 27 (.tmp 12) (.tmp 62) (g11) #[.bool b9q, .slice A9q n9q c9q, .bool e9q, .slice B9q m9q d9q] #[.bool false, .slice none 0 0, .bool false, .slice none 0 0] 27 (by kernel_rfl) rfl rfl hq13.h info_rat rfl one_four (fun v13 hb13 hg13 => ?_) ?_
                  · have HB13 := hid (show Bk 27 v13 (g11) #[.bool b9q, .slice A9q n9q c9q, .bool e9q, .slice B9q m9q d9q] from hb13)
                    have S13 := S12.gb hg13 (by have h := S4.size; have h1 := hg11; omega)
                    refine ⟨⟨S13, (((RBn.out.ext T10).grown hg12 (by have h0 := (Nat.lt_of_lt_of_le RBn.out.lt T9.size); have h1 := hg10; omega)).grown hg13 (by have h0 := (Nat.lt_of_lt_of_le RBn.out.lt T4.size); have h1 := hg11; omega)), (((RBby.out.ext T10).grown hg12 (by have h0 := (Nat.lt_of_lt_of_le RBby.out.lt T9.size); have h1 := hg10; omega)).grown hg13 (by have h0 := (Nat.lt_of_lt_of_le RBby.out.lt T4.size); have h1 := hg11; omega))⟩, ?_⟩
                    simp only [Act.put, List.setIfInBounds_toArray, List.set_cons_zero, List.set_cons_succ]
                    refine wpAnyH_done (by kernel_rfl) ?_ _
                    go_step
                    go_step
                    go_meet
                    case rel => exact ⟨_, _, _, _, _, _, _, _, _, _, _, _, _, _, _, _, _, _, rfl, rfl, (Nat.le_trans T9.size hg10), (Nat.le_trans T4.size hg11), (by have h0 := (Nat.lt_of_lt_of_le HB11.out.lt (Nat.le_trans hx7.size hx9.size)); have h1 := hg10; omega), (((RBx.out.ext T10).grown hg12 (by have h0 := (Nat.lt_of_lt_of_le RBx.out.lt T9.size); have h1 := hg10; omega)).grown hg13 (by have h0 := (Nat.lt_of_lt_of_le RBx.out.lt T4.size); have h1 := hg11; omega)), (((RBy.out.ext T10).grown hg12 (by have h0 := (Nat.lt_of_lt_of_le RBy.out.lt T9.size); have h1 := hg10; omega)).grown hg13 (by have h0 := (Nat.lt_of_lt_of_le RBy.out.lt T4.size); have h1 := hg11; omega)), (((RBby.out.ext T10).grown hg12 (by have h0 := (Nat.lt_of_lt_of_le RBby.out.lt T9.size); have h1 := hg10; omega)).grown hg13 (by have h0 := (Nat.lt_of_lt_of_le RBby.out.lt T4.size); have h1 := hg11; omega)), (((RBn.out.ext T10).grown hg12 (by have h0 := (Nat.lt_of_lt_of_le RBn.out.lt T9.size); have h1 := hg10; omega)).grown hg13 (by have h0 := (Nat.lt_of_lt_of_le RBn.out.lt T4.size); have h1 := hg11; omega)), (HB12.out.grown hg13 (by have h0 := (Nat.lt_of_lt_of_le HB11.out.lt (Nat.le_trans hx7.size hx9.size)); have h1 := hg10; omega)), HB13.out, (((RFby.out.ext T10).gbk hq12 (by decide) hg12).gbk hq13 (by decide) hg13), (((RFn.out.ext T10).gbk hq12 (by decide) hg12).gbk hq13 (by decide) hg13), ((((o4.mono S2.size).ext (((hx11.trans hx7).trans hx9).trans hx10)).gbk hq12 (by decide) hg12).gbk hq13 (by decide) hg13), ((((o9.mono S7.size).ext hx10).gbk hq12 (by decide) hg12).gbk hq13 (by decide) hg13), S13⟩
                  exact drawn_nil
                exact drawn_nil
              exact drawn_nil
            refine drawn_alloc 10 (some 11) (by kernel_rfl) alloc_rat (fun g10 v10 hb10 hx10 hg10 => ?_) ?_
            · have HB10 := hid (show Bk 27 v10 g10 #[.bool false, .slice none 0 0, .bool false, .slice none 0 0] from hb10)
              have S10 := S7.trans hx10
              have T10 := T7.trans hx10
              refine ⟨⟨S10, (RBn.out.ext T10), (RBby.out.ext T10)⟩, ?_⟩
              simp only [Act.put, List.setIfInBounds_toArray, List.set_cons_zero, List.set_cons_succ]
              refine wpAnyH_ready (rs := [9]) (by kernel_rfl) (by simp) ?_
              refine drawn_call2 9 (some 62) (.tmp 60) (.tmp 61) (ts := #[27, 27]) (by kernel_rfl) (enters_of Try.func23 (by kernel_rfl) rfl) rfl rfl (qmul_v ((o7.mono S11.size).ext hx10).rv (RFby.out.ext T10).rv (by omega)) (fun E v9 hh => ?_) ?_
              · skip
                obtain ⟨b9q, A9q, n9q, c9q, e9q, B9q, m9q, d9q, rfl, o9, hx9⟩ := hh
                have S9 := S10.trans hx9
                have T9 := T10.trans hx9
                refine ⟨_, rfl, ⟨S9, (RBn.out.ext T9), (RBby.out.ext T9)⟩, ?_⟩
                simp only [Act.put, List.setIfInBounds_toArray, List.set_cons_zero, List.set_cons_succ]
                refine wpAnyH_ready (rs := [12]) (by kernel_rfl) (by simp) ?_
                have hq12 := (HB10.out.ext hx9)
                refine drawn_store 12 27 (.tmp 11) (.tmp 57) (g10) #[.bool b4q, .slice A4q n4q c4q, .bool e4q, .slice B4q m4q d4q] #[.bool false, .slice none 0 0, .bool false, .slice none 0 0] 27 (by kernel_rfl) rfl rfl hq12.h info_rat rfl one_four (fun v12 hb12 hg12 => ?_) ?_
                · have HB12 := hid (show Bk 27 v12 (g10) #[.bool b4q, .slice A4q n4q c4q, .bool e4q, .slice B4q m4q d4q] from hb12)
                  have S12 := S9.gb hg12 (by have h := S7.size; have h1 := hg10; omega)
                  refine ⟨⟨S12, ((RBn.out.ext T9).grown hg12 (by have h0 := (Nat.lt_of_lt_of_le RBn.out.lt T7.size); have h1 := hg10; omega)), ((RBby.out.ext T9).grown hg12 (by have h0 := (Nat.lt_of_lt_of_le RBby.out.lt T7.size); have h1 := hg10; omega))⟩, ?_⟩
                  simp only [Act.put, List.setIfInBounds_toArray, List.set_cons_zero, List.set_cons_succ]
                  refine wpAnyH_ready (rs := [13]) (by kernel_rfl) (by simp) ?_
                  have hq13 := ((HB11.out.ext ((hx7.trans hx10).trans hx9)).grown hg12 (by have h0 := (Nat.lt_of_lt_of_le HB11.out.lt hx7.size); have h1 := hg10; omega))
                  refine drawn_store 13 27 (.tmp 12) (.tmp 62) (g11) #[.bool b9q, .slice A9q n9q c9q, .bool e9q, .slice B9q m9q d9q] #[.bool false, .slice none 0 0, .bool false, .slice none 0 0] 27 (by kernel_rfl) rfl rfl hq13.h info_rat rfl one_four (fun v13 hb13 hg13 => ?_) ?_
                  · have HB13 := hid (show Bk 27 v13 (g11) #[.bool b9q, .slice A9q n9q c9q, .bool e9q, .slice B9q m9q d9q] from hb13)
                    have S13 := S12.gb hg13 (by have h := S4.size; have h1 := hg11; omega)
                    refine ⟨⟨S13, (((RBn.out.ext T9).grown hg12 (by have h0 := (Nat.lt_of_lt_of_le RBn.out.lt T7.size); have h1 := hg10; omega)).grown hg13 (by have h0 := (Nat.lt_of_lt_of_le RBn.out.lt T4.size); have h1 := hg11; omega)), (((RBby.out.ext T9).grown hg12 (by have h0 := (Nat.lt_of_lt_of_le RBby.out.lt T7.size); have h1 := hg10; omega)).grown hg13 (by have h0 := (Nat.lt_of_lt_of_le RBby.out.lt T4.size); have h1 := hg11; omega))⟩, ?_⟩
                    simp only [Act.put, List.setIfInBounds_toArray, List.set_cons_zero, List.set_cons_succ]
                    refine wpAnyH_done (by kernel_rfl) ?_ _
                    go_step
                    go_step
                    go_meet
                    case rel => exact ⟨_, _, _, _, _, _, _, _, _, _, _, _, _, _, _, _, _, _, rfl, rfl, (Nat.le_trans T7.size hg10), (Nat.le_trans T4.size hg11), (by have h0 := (Nat.lt_of_lt_of_le HB11.out.lt hx7.size); have h1 := hg10; omega), (((RBx.out.ext T9).grown hg12 (by have h0 := (Nat.lt_of_lt_of_le RBx.out.lt T7.size); have h1 := hg10; omega)).grown hg13 (by have h0 := (Nat.lt_of_lt_of_le RBx.out.lt T4.size); have h1 := hg11; omega)), (((RBy.out.ext T9).grown hg12 (by have h0 := (Nat.lt_of_lt_of_le RBy.out.lt T7.size); have h1 := hg10; omega)).grown hg13 (by have h0 := (Nat.lt_of_lt_of_le RBy.out.lt T4.size); have h1 := hg11; omega)), (((RBby.out.ext T9).grown hg12 (by have h0 := (Nat.lt_of_lt_of_le RBby.out.lt T7.size); have h1 := hg10; omega)).grown hg13 (by have h0 := (Nat.lt_of_lt_of_le RBby.out.lt T4.size); have h1 := hg11; omega)), (((RBn.out.ext T9).grown hg12 (by have h0 := (Nat.lt_of_lt_of_le RBn.out.lt T7.size); have h1 := hg10; omega)).grown hg13 (by have h0 := (Nat.lt_of_lt_of_le RBn.out.lt T4.size); have h1 := hg11; omega)), (HB12.out.grown hg13 (by have h0 := (Nat.lt_of_lt_of_le HB11.out.lt hx7.size); have h1 := hg10; omega)), HB13.out, (((RFby.out.ext T9).gbk hq12 (by decide) hg12).gbk hq13 (by decide) hg13), (((RFn.out.ext T9).gbk hq12 (by decide) hg12).gbk hq13 (by decide) hg13), ((((o4.mono S2.size).ext (((hx11.trans hx7).trans hx10).trans hx9)).gbk hq12 (by decide) hg12).gbk hq13 (by decide) hg13), (((o9.mono S10.size).gbk hq12 (by decide) hg12).gbk hq13 (by decide) hg13), S13⟩
                  exact drawn_nil
                exact drawn_nil
              exact drawn_nil
            exact drawn_nil
          refine drawn_alloc 10 (some 11) (by kernel_rfl) alloc_rat (fun g10 v10 hb10 hx10 hg10 => ?_) ?_
          · have HB10 := hid (show Bk 27 v10 g10 #[.bool false, .slice none 0 0, .bool false, .slice none 0 0] from hb10)
            have S10 := S11.trans hx10
            have T10 := T11.trans hx10
            refine ⟨⟨S10, (RBn.out.ext T10), (RBby.out.ext T10)⟩, ?_⟩
            simp only [Act.put, List.setIfInBounds_toArray, List.set_cons_zero, List.set_cons_succ]
            refine wpAnyH_ready (rs := [7]) (by kernel_rfl) (by simp) ?_
            refine drawn_call1 7 (some 60) (.tmp 59) (ts := #[24]) (by kernel_rfl) (enters_of Try.func24 (by kernel_rfl) rfl) rfl (rwhole_v (RFn.out.ext T10).de.iz (by omega)) (fun E v7 hh => ?_) ?_
            · skip
              obtain ⟨b7q, A7q, n7q, c7q, e7q, B7q, m7q, d7q, rfl, o7, hx7⟩ := hh
              have S7 := S10.trans hx7
              have T7 := T10.trans hx7
              refine ⟨_, rfl, ⟨S7, (RBn.out.ext T7), (RBby.out.ext T7)⟩, ?_⟩
              simp only [Act.put, List.setIfInBounds_toArray, List.set_cons_zero, List.set_cons_succ]
              refine wpAnyH_ready (rs := [9]) (by kernel_rfl) (by simp) ?_
              refine drawn_call2 9 (some 62) (.tmp 60) (.tmp 61) (ts := #[27, 27]) (by kernel_rfl) (enters_of Try.func23 (by kernel_rfl) rfl) rfl rfl (qmul_v (o7.mono S10.size).rv (RFby.out.ext T7).rv (by omega)) (fun E v9 hh => ?_) ?_
              · skip
                obtain ⟨b9q, A9q, n9q, c9q, e9q, B9q, m9q, d9q, rfl, o9, hx9⟩ := hh
                have S9 := S7.trans hx9
                have T9 := T7.trans hx9
                refine ⟨_, rfl, ⟨S9, (RBn.out.ext T9), (RBby.out.ext T9)⟩, ?_⟩
                simp only [Act.put, List.setIfInBounds_toArray, List.set_cons_zero, List.set_cons_succ]
                refine wpAnyH_ready (rs := [12]) (by kernel_rfl) (by simp) ?_
                have hq12 := (HB10.out.ext (hx7.trans hx9))
                refine drawn_store 12 27 (.tmp 11) (.tmp 57) (g10) #[.bool b4q, .slice A4q n4q c4q, .bool e4q, .slice B4q m4q d4q] #[.bool false, .slice none 0 0, .bool false, .slice none 0 0] 27 (by kernel_rfl) rfl rfl hq12.h info_rat rfl one_four (fun v12 hb12 hg12 => ?_) ?_
                · have HB12 := hid (show Bk 27 v12 (g10) #[.bool b4q, .slice A4q n4q c4q, .bool e4q, .slice B4q m4q d4q] from hb12)
                  have S12 := S9.gb hg12 (by have h := S11.size; have h1 := hg10; omega)
                  refine ⟨⟨S12, ((RBn.out.ext T9).grown hg12 (by have h0 := (Nat.lt_of_lt_of_le RBn.out.lt T11.size); have h1 := hg10; omega)), ((RBby.out.ext T9).grown hg12 (by have h0 := (Nat.lt_of_lt_of_le RBby.out.lt T11.size); have h1 := hg10; omega))⟩, ?_⟩
                  simp only [Act.put, List.setIfInBounds_toArray, List.set_cons_zero, List.set_cons_succ]
                  refine wpAnyH_ready (rs := [13]) (by kernel_rfl) (by simp) ?_
                  have hq13 := ((HB11.out.ext ((hx10.trans hx7).trans hx9)).grown hg12 (by have h0 := HB11.out.lt; have h1 := hg10; omega))
                  refine drawn_store 13 27 (.tmp 12) (.tmp 62) (g11) #[.bool b9q, .slice A9q n9q c9q, .bool e9q, .slice B9q m9q d9q] #[.bool false, .slice none 0 0, .bool false, .slice none 0 0] 27 (by kernel_rfl) rfl rfl hq13.h info_rat rfl one_four (fun v13 hb13 hg13 => ?_) ?_
                  · have HB13 := hid (show Bk 27 v13 (g11) #[.bool b9q, .slice A9q n9q c9q, .bool e9q, .slice B9q m9q d9q] from hb13)
                    have S13 := S12.gb hg13 (by have h := S4.size; have h1 := hg11; omega)
                    refine ⟨⟨S13, (((RBn.out.ext T9).grown hg12 (by have h0 := (Nat.lt_of_lt_of_le RBn.out.lt T11.size); have h1 := hg10; omega)).grown hg13 (by have h0 := (Nat.lt_of_lt_of_le RBn.out.lt T4.size); have h1 := hg11; omega)), (((RBby.out.ext T9).grown hg12 (by have h0 := (Nat.lt_of_lt_of_le RBby.out.lt T11.size); have h1 := hg10; omega)).grown hg13 (by have h0 := (Nat.lt_of_lt_of_le RBby.out.lt T4.size); have h1 := hg11; omega))⟩, ?_⟩
                    simp only [Act.put, List.setIfInBounds_toArray, List.set_cons_zero, List.set_cons_succ]
                    refine wpAnyH_done (by kernel_rfl) ?_ _
                    go_step
                    go_step
                    go_meet
                    case rel => exact ⟨_, _, _, _, _, _, _, _, _, _, _, _, _, _, _, _, _, _, rfl, rfl, (Nat.le_trans T11.size hg10), (Nat.le_trans T4.size hg11), (by have h0 := HB11.out.lt; have h1 := hg10; omega), (((RBx.out.ext T9).grown hg12 (by have h0 := (Nat.lt_of_lt_of_le RBx.out.lt T11.size); have h1 := hg10; omega)).grown hg13 (by have h0 := (Nat.lt_of_lt_of_le RBx.out.lt T4.size); have h1 := hg11; omega)), (((RBy.out.ext T9).grown hg12 (by have h0 := (Nat.lt_of_lt_of_le RBy.out.lt T11.size); have h1 := hg10; omega)).grown hg13 (by have h0 := (Nat.lt_of_lt_of_le RBy.out.lt T4.size); have h1 := hg11; omega)), (((RBby.out.ext T9).grown hg12 (by have h0 := (Nat.lt_of_lt_of_le RBby.out.lt T11.size); have h1 := hg10; omega)).grown hg13 (by have h0 := (Nat.lt_of_lt_of_le RBby.out.lt T4.size); have h1 := hg11; omega)), (((RBn.out.ext T9).grown hg12 (by have h0 := (Nat.lt_of_lt_of_le RBn.out.lt T11.size); have h1 := hg10; omega)).grown hg13 (by have h0 := (Nat.lt_of_lt_of_le RBn.out.lt T4.size); have h1 := hg11; omega)), (HB12.out.grown hg13 (by have h0 := HB11.out.lt; have h1 := hg10; omega)), HB13.out, (((RFby.out.ext T9).gbk hq12 (by decide) hg12).gbk hq13 (by decide) hg13), (((RFn.out.ext T9).gbk hq12 (by decide) hg12).gbk hq13 (by decide) hg13), ((((o4.mono S2.size).ext (((hx11.trans hx10).trans hx7).trans hx9)).gbk hq12 (by decide) hg12).gbk hq13 (by decide) hg13), (((o9.mono S7.size).gbk hq12 (by decide) hg12).gbk hq13 (by decide) hg13), S13⟩
                  exact drawn_nil
                exact drawn_nil
              exact drawn_nil
            exact drawn_nil
          exact drawn_nil
        exact drawn_nil
      refine drawn_alloc 10 (some 11) (by kernel_rfl) alloc_rat (fun g10 v10 hb10 hx10 hg10 => ?_) ?_
      · have HB10 := hid (show Bk 27 v10 g10 #[.bool false, .slice none 0 0, .bool false, .slice none 0 0] from hb10)
        have S10 := S2.trans hx10
        have T10 := T2.trans hx10
        refine ⟨⟨S10, (RBn.out.ext T10), (RBby.out.ext T10)⟩, ?_⟩
        simp only [Act.put, List.setIfInBounds_toArray, List.set_cons_zero, List.set_cons_succ]
        refine wpAnyH_ready (rs := [4, 11]) (by kernel_rfl) (by simp) ?_
        refine drawn_call2 4 (some 57) (.tmp 55) (.tmp 56) (ts := #[27, 27]) (by kernel_rfl) (enters_of Try.func23 (by kernel_rfl) rfl) rfl rfl (qmul_v ((o2.mono S0.size).ext hx10).rv (RFby.out.ext T10).rv (by omega)) (fun E v4 hh => ?_) ?_
        · skip
          obtain ⟨b4q, A4q, n4q, c4q, e4q, B4q, m4q, d4q, rfl, o4, hx4⟩ := hh
          have S4 := S10.trans hx4
          have T4 := T10.trans hx4
          refine ⟨_, rfl, ⟨S4, (RBn.out.ext T4), (RBby.out.ext T4)⟩, ?_⟩
          simp only [Act.put, List.setIfInBounds_toArray, List.set_cons_zero, List.set_cons_succ]
          refine wpAnyH_ready (rs := [7, 11]) (by kernel_rfl) (by simp) ?_
          refine drawn_call1 7 (some 60) (.tmp 59) (ts := #[24]) (by kernel_rfl) (enters_of Try.func24 (by kernel_rfl) rfl) rfl (rwhole_v (RFn.out.ext T4).de.iz (by omega)) (fun E v7 hh => ?_) ?_
          · skip
            obtain ⟨b7q, A7q, n7q, c7q, e7q, B7q, m7q, d7q, rfl, o7, hx7⟩ := hh
            have S7 := S4.trans hx7
            have T7 := T4.trans hx7
            refine ⟨_, rfl, ⟨S7, (RBn.out.ext T7), (RBby.out.ext T7)⟩, ?_⟩
            simp only [Act.put, List.setIfInBounds_toArray, List.set_cons_zero, List.set_cons_succ]
            refine wpAnyH_ready (rs := [9, 11]) (by kernel_rfl) (by simp) ?_
            refine drawn_call2 9 (some 62) (.tmp 60) (.tmp 61) (ts := #[27, 27]) (by kernel_rfl) (enters_of Try.func23 (by kernel_rfl) rfl) rfl rfl (qmul_v (o7.mono S4.size).rv (RFby.out.ext T7).rv (by omega)) (fun E v9 hh => ?_) ?_
            · skip
              obtain ⟨b9q, A9q, n9q, c9q, e9q, B9q, m9q, d9q, rfl, o9, hx9⟩ := hh
              have S9 := S7.trans hx9
              have T9 := T7.trans hx9
              refine ⟨_, rfl, ⟨S9, (RBn.out.ext T9), (RBby.out.ext T9)⟩, ?_⟩
              simp only [Act.put, List.setIfInBounds_toArray, List.set_cons_zero, List.set_cons_succ]
              refine wpAnyH_ready (rs := [11]) (by kernel_rfl) (by simp) ?_
              refine drawn_alloc 11 (some 12) (by kernel_rfl) alloc_rat (fun g11 v11 hb11 hx11 hg11 => ?_) ?_
              · have HB11 := hid (show Bk 27 v11 g11 #[.bool false, .slice none 0 0, .bool false, .slice none 0 0] from hb11)
                have S11 := S9.trans hx11
                have T11 := T9.trans hx11
                refine ⟨⟨S11, (RBn.out.ext T11), (RBby.out.ext T11)⟩, ?_⟩
                simp only [Act.put, List.setIfInBounds_toArray, List.set_cons_zero, List.set_cons_succ]
                refine wpAnyH_ready (rs := [12]) (by kernel_rfl) (by simp) ?_
                have hq12 := (HB10.out.ext (((hx4.trans hx7).trans hx9).trans hx11))
                refine drawn_store 12 27 (.tmp 11) (.tmp 57) (g10) #[.bool b4q, .slice A4q n4q c4q, .bool e4q, .slice B4q m4q d4q] #[.bool false, .slice none 0 0, .bool false, .slice none 0 0] 27 (by kernel_rfl) rfl rfl hq12.h info_rat rfl one_four (fun v12 hb12 hg12 => ?_) ?_
                · have HB12 := hid (show Bk 27 v12 (g10) #[.bool b4q, .slice A4q n4q c4q, .bool e4q, .slice B4q m4q d4q] from hb12)
                  have S12 := S11.gb hg12 (by have h := S2.size; have h1 := hg10; omega)
                  refine ⟨⟨S12, ((RBn.out.ext T11).grown hg12 (by have h0 := (Nat.lt_of_lt_of_le RBn.out.lt T2.size); have h1 := hg10; omega)), ((RBby.out.ext T11).grown hg12 (by have h0 := (Nat.lt_of_lt_of_le RBby.out.lt T2.size); have h1 := hg10; omega))⟩, ?_⟩
                  simp only [Act.put, List.setIfInBounds_toArray, List.set_cons_zero, List.set_cons_succ]
                  refine wpAnyH_ready (rs := [13]) (by kernel_rfl) (by simp) ?_
                  have hq13 := (HB11.out.grown hg12 (by have h0 := (Nat.lt_of_lt_of_le HB10.out.lt (Nat.le_trans (Nat.le_trans hx4.size hx7.size) hx9.size)); have h1 := hg11; omega))
                  refine drawn_store 13 27 (.tmp 12) (.tmp 62) (g11) #[.bool b9q, .slice A9q n9q c9q, .bool e9q, .slice B9q m9q d9q] #[.bool false, .slice none 0 0, .bool false, .slice none 0 0] 27 (by kernel_rfl) rfl rfl hq13.h info_rat rfl one_four (fun v13 hb13 hg13 => ?_) ?_
                  · have HB13 := hid (show Bk 27 v13 (g11) #[.bool b9q, .slice A9q n9q c9q, .bool e9q, .slice B9q m9q d9q] from hb13)
                    have S13 := S12.gb hg13 (by have h := S9.size; have h1 := hg11; omega)
                    refine ⟨⟨S13, (((RBn.out.ext T11).grown hg12 (by have h0 := (Nat.lt_of_lt_of_le RBn.out.lt T2.size); have h1 := hg10; omega)).grown hg13 (by have h0 := (Nat.lt_of_lt_of_le RBn.out.lt T9.size); have h1 := hg11; omega)), (((RBby.out.ext T11).grown hg12 (by have h0 := (Nat.lt_of_lt_of_le RBby.out.lt T2.size); have h1 := hg10; omega)).grown hg13 (by have h0 := (Nat.lt_of_lt_of_le RBby.out.lt T9.size); have h1 := hg11; omega))⟩, ?_⟩
                    simp only [Act.put, List.setIfInBounds_toArray, List.set_cons_zero, List.set_cons_succ]
                    refine wpAnyH_done (by kernel_rfl) ?_ _
                    go_step
                    go_step
                    go_meet
                    case rel => exact ⟨_, _, _, _, _, _, _, _, _, _, _, _, _, _, _, _, _, _, rfl, rfl, (Nat.le_trans T2.size hg10), (Nat.le_trans T9.size hg11), (by have h0 := (Nat.lt_of_lt_of_le HB10.out.lt (Nat.le_trans (Nat.le_trans hx4.size hx7.size) hx9.size)); have h1 := hg11; omega), (((RBx.out.ext T11).grown hg12 (by have h0 := (Nat.lt_of_lt_of_le RBx.out.lt T2.size); have h1 := hg10; omega)).grown hg13 (by have h0 := (Nat.lt_of_lt_of_le RBx.out.lt T9.size); have h1 := hg11; omega)), (((RBy.out.ext T11).grown hg12 (by have h0 := (Nat.lt_of_lt_of_le RBy.out.lt T2.size); have h1 := hg10; omega)).grown hg13 (by have h0 := (Nat.lt_of_lt_of_le RBy.out.lt T9.size); have h1 := hg11; omega)), (((RBby.out.ext T11).grown hg12 (by have h0 := (Nat.lt_of_lt_of_le RBby.out.lt T2.size); have h1 := hg10; omega)).grown hg13 (by have h0 := (Nat.lt_of_lt_of_le RBby.out.lt T9.size); have h1 := hg11; omega)), (((RBn.out.ext T11).grown hg12 (by have h0 := (Nat.lt_of_lt_of_le RBn.out.lt T2.size); have h1 := hg10; omega)).grown hg13 (by have h0 := (Nat.lt_of_lt_of_le RBn.out.lt T9.size); have h1 := hg11; omega)), (HB12.out.grown hg13 (by have h0 := (Nat.lt_of_lt_of_le HB10.out.lt (Nat.le_trans (Nat.le_trans hx4.size hx7.size) hx9.size)); have h1 := hg11; omega)), HB13.out, (((RFby.out.ext T11).gbk hq12 (by decide) hg12).gbk hq13 (by decide) hg13), (((RFn.out.ext T11).gbk hq12 (by decide) hg12).gbk hq13 (by decide) hg13), ((((o4.mono S10.size).ext ((hx7.trans hx9).trans hx11)).gbk hq12 (by decide) hg12).gbk hq13 (by decide) hg13), ((((o9.mono S7.size).ext hx11).gbk hq12 (by decide) hg12).gbk hq13 (by decide) hg13), S13⟩
                  exact drawn_nil
                exact drawn_nil
              exact drawn_nil
            refine drawn_alloc 11 (some 12) (by kernel_rfl) alloc_rat (fun g11 v11 hb11 hx11 hg11 => ?_) ?_
            · have HB11 := hid (show Bk 27 v11 g11 #[.bool false, .slice none 0 0, .bool false, .slice none 0 0] from hb11)
              have S11 := S7.trans hx11
              have T11 := T7.trans hx11
              refine ⟨⟨S11, (RBn.out.ext T11), (RBby.out.ext T11)⟩, ?_⟩
              simp only [Act.put, List.setIfInBounds_toArray, List.set_cons_zero, List.set_cons_succ]
              refine wpAnyH_ready (rs := [9]) (by kernel_rfl) (by simp) ?_
              refine drawn_call2 9 (some 62) (.tmp 60) (.tmp 61) (ts := #[27, 27]) (by kernel_rfl) (enters_of Try.func23 (by kernel_rfl) rfl) rfl rfl (qmul_v ((o7.mono S4.size).ext hx11).rv (RFby.out.ext T11).rv (by omega)) (fun E v9 hh => ?_) ?_
              · skip
                obtain ⟨b9q, A9q, n9q, c9q, e9q, B9q, m9q, d9q, rfl, o9, hx9⟩ := hh
                have S9 := S11.trans hx9
                have T9 := T11.trans hx9
                refine ⟨_, rfl, ⟨S9, (RBn.out.ext T9), (RBby.out.ext T9)⟩, ?_⟩
                simp only [Act.put, List.setIfInBounds_toArray, List.set_cons_zero, List.set_cons_succ]
                refine wpAnyH_ready (rs := [12]) (by kernel_rfl) (by simp) ?_
                have hq12 := (HB10.out.ext (((hx4.trans hx7).trans hx11).trans hx9))
                refine drawn_store 12 27 (.tmp 11) (.tmp 57) (g10) #[.bool b4q, .slice A4q n4q c4q, .bool e4q, .slice B4q m4q d4q] #[.bool false, .slice none 0 0, .bool false, .slice none 0 0] 27 (by kernel_rfl) rfl rfl hq12.h info_rat rfl one_four (fun v12 hb12 hg12 => ?_) ?_
                · have HB12 := hid (show Bk 27 v12 (g10) #[.bool b4q, .slice A4q n4q c4q, .bool e4q, .slice B4q m4q d4q] from hb12)
                  have S12 := S9.gb hg12 (by have h := S2.size; have h1 := hg10; omega)
                  refine ⟨⟨S12, ((RBn.out.ext T9).grown hg12 (by have h0 := (Nat.lt_of_lt_of_le RBn.out.lt T2.size); have h1 := hg10; omega)), ((RBby.out.ext T9).grown hg12 (by have h0 := (Nat.lt_of_lt_of_le RBby.out.lt T2.size); have h1 := hg10; omega))⟩, ?_⟩
                  simp only [Act.put, List.setIfInBounds_toArray, List.set_cons_zero, List.set_cons_succ]
                  refine wpAnyH_ready (rs := [13]) (by kernel_rfl) (by simp) ?_
                  have hq13 := ((HB11.out.ext hx9).grown hg12 (by have h0 := (Nat.lt_of_lt_of_le HB10.out.lt (Nat.le_trans hx4.size hx7.size)); have h1 := hg11; omega))
                  refine drawn_store 13 27 (.tmp 12) (.tmp 62) (g11) #[.bool b9q, .slice A9q n9q c9q, .bool e9q, .slice B9q m9q d9q] #[.bool false, .slice none 0 0, .bool false, .slice none 0 0] 27 (by kernel_rfl) rfl rfl hq13.h info_rat rfl one_four (fun v13 hb13 hg13 => ?_) ?_
                  · have HB13 := hid (show Bk 27 v13 (g11) #[.bool b9q, .slice A9q n9q c9q, .bool e9q, .slice B9q m9q d9q] from hb13)
                    have S13 := S12.gb hg13 (by have h := S7.size; have h1 := hg11; omega)
                    refine ⟨⟨S13, (((RBn.out.ext T9).grown hg12 (by have h0 := (Nat.lt_of_lt_of_le RBn.out.lt T2.size); have h1 := hg10; omega)).grown hg13 (by have h0 := (Nat.lt_of_lt_of_le RBn.out.lt T7.size); have h1 := hg11; omega)), (((RBby.out.ext T9).grown hg12 (by have h0 := (Nat.lt_of_lt_of_le RBby.out.lt T2.size); have h1 := hg10; omega)).grown hg13 (by have h0 := (Nat.lt_of_lt_of_le RBby.out.lt T7.size); have h1 := hg11; omega))⟩, ?_⟩
                    simp only [Act.put, List.setIfInBounds_toArray, List.set_cons_zero, List.set_cons_succ]
                    refine wpAnyH_done (by kernel_rfl) ?_ _
                    go_step
                    go_step
                    go_meet
                    case rel => exact ⟨_, _, _, _, _, _, _, _, _, _, _, _, _, _, _, _, _, _, rfl, rfl, (Nat.le_trans T2.size hg10), (Nat.le_trans T7.size hg11), (by have h0 := (Nat.lt_of_lt_of_le HB10.out.lt (Nat.le_trans hx4.size hx7.size)); have h1 := hg11; omega), (((RBx.out.ext T9).grown hg12 (by have h0 := (Nat.lt_of_lt_of_le RBx.out.lt T2.size); have h1 := hg10; omega)).grown hg13 (by have h0 := (Nat.lt_of_lt_of_le RBx.out.lt T7.size); have h1 := hg11; omega)), (((RBy.out.ext T9).grown hg12 (by have h0 := (Nat.lt_of_lt_of_le RBy.out.lt T2.size); have h1 := hg10; omega)).grown hg13 (by have h0 := (Nat.lt_of_lt_of_le RBy.out.lt T7.size); have h1 := hg11; omega)), (((RBby.out.ext T9).grown hg12 (by have h0 := (Nat.lt_of_lt_of_le RBby.out.lt T2.size); have h1 := hg10; omega)).grown hg13 (by have h0 := (Nat.lt_of_lt_of_le RBby.out.lt T7.size); have h1 := hg11; omega)), (((RBn.out.ext T9).grown hg12 (by have h0 := (Nat.lt_of_lt_of_le RBn.out.lt T2.size); have h1 := hg10; omega)).grown hg13 (by have h0 := (Nat.lt_of_lt_of_le RBn.out.lt T7.size); have h1 := hg11; omega)), (HB12.out.grown hg13 (by have h0 := (Nat.lt_of_lt_of_le HB10.out.lt (Nat.le_trans hx4.size hx7.size)); have h1 := hg11; omega)), HB13.out, (((RFby.out.ext T9).gbk hq12 (by decide) hg12).gbk hq13 (by decide) hg13), (((RFn.out.ext T9).gbk hq12 (by decide) hg12).gbk hq13 (by decide) hg13), ((((o4.mono S10.size).ext ((hx7.trans hx11).trans hx9)).gbk hq12 (by decide) hg12).gbk hq13 (by decide) hg13), (((o9.mono S11.size).gbk hq12 (by decide) hg12).gbk hq13 (by decide) hg13), S13⟩
                  exact drawn_nil
                exact drawn_nil
              exact drawn_nil
            exact drawn_nil
          refine drawn_alloc 11 (some 12) (by kernel_rfl) alloc_rat (fun g11 v11 hb11 hx11 hg11 => ?_) ?_
          · have HB11 := hid (show Bk 27 v11 g11 #[.bool false, .slice none 0 0, .bool false, .slice none 0 0] from hb11)
            have S11 := S4.trans hx11
            have T11 := T4.trans hx11
            refine ⟨⟨S11, (RBn.out.ext T11), (RBby.out.ext T11)⟩, ?_⟩
            simp only [Act.put, List.setIfInBounds_toArray, List.set_cons_zero, List.set_cons_succ]
            refine wpAnyH_ready (rs := [7]) (by kernel_rfl) (by simp) ?_
            refine drawn_call1 7 (some 60) (.tmp 59) (ts := #[24]) (by kernel_rfl) (enters_of Try.func24 (by kernel_rfl) rfl) rfl (rwhole_v (RFn.out.ext T11).de.iz (by omega)) (fun E v7 hh => ?_) ?_
            · skip
              obtain ⟨b7q, A7q, n7q, c7q, e7q, B7q, m7q, d7q, rfl, o7, hx7⟩ := hh
              have S7 := S11.trans hx7
              have T7 := T11.trans hx7
              refine ⟨_, rfl, ⟨S7, (RBn.out.ext T7), (RBby.out.ext T7)⟩, ?_⟩
              simp only [Act.put, List.setIfInBounds_toArray, List.set_cons_zero, List.set_cons_succ]
              refine wpAnyH_ready (rs := [9]) (by kernel_rfl) (by simp) ?_
              refine drawn_call2 9 (some 62) (.tmp 60) (.tmp 61) (ts := #[27, 27]) (by kernel_rfl) (enters_of Try.func23 (by kernel_rfl) rfl) rfl rfl (qmul_v (o7.mono S11.size).rv (RFby.out.ext T7).rv (by omega)) (fun E v9 hh => ?_) ?_
              · skip
                obtain ⟨b9q, A9q, n9q, c9q, e9q, B9q, m9q, d9q, rfl, o9, hx9⟩ := hh
                have S9 := S7.trans hx9
                have T9 := T7.trans hx9
                refine ⟨_, rfl, ⟨S9, (RBn.out.ext T9), (RBby.out.ext T9)⟩, ?_⟩
                simp only [Act.put, List.setIfInBounds_toArray, List.set_cons_zero, List.set_cons_succ]
                refine wpAnyH_ready (rs := [12]) (by kernel_rfl) (by simp) ?_
                have hq12 := (HB10.out.ext (((hx4.trans hx11).trans hx7).trans hx9))
                refine drawn_store 12 27 (.tmp 11) (.tmp 57) (g10) #[.bool b4q, .slice A4q n4q c4q, .bool e4q, .slice B4q m4q d4q] #[.bool false, .slice none 0 0, .bool false, .slice none 0 0] 27 (by kernel_rfl) rfl rfl hq12.h info_rat rfl one_four (fun v12 hb12 hg12 => ?_) ?_
                · have HB12 := hid (show Bk 27 v12 (g10) #[.bool b4q, .slice A4q n4q c4q, .bool e4q, .slice B4q m4q d4q] from hb12)
                  have S12 := S9.gb hg12 (by have h := S2.size; have h1 := hg10; omega)
                  refine ⟨⟨S12, ((RBn.out.ext T9).grown hg12 (by have h0 := (Nat.lt_of_lt_of_le RBn.out.lt T2.size); have h1 := hg10; omega)), ((RBby.out.ext T9).grown hg12 (by have h0 := (Nat.lt_of_lt_of_le RBby.out.lt T2.size); have h1 := hg10; omega))⟩, ?_⟩
                  simp only [Act.put, List.setIfInBounds_toArray, List.set_cons_zero, List.set_cons_succ]
                  refine wpAnyH_ready (rs := [13]) (by kernel_rfl) (by simp) ?_
                  have hq13 := ((HB11.out.ext (hx7.trans hx9)).grown hg12 (by have h0 := (Nat.lt_of_lt_of_le HB10.out.lt hx4.size); have h1 := hg11; omega))
                  refine drawn_store 13 27 (.tmp 12) (.tmp 62) (g11) #[.bool b9q, .slice A9q n9q c9q, .bool e9q, .slice B9q m9q d9q] #[.bool false, .slice none 0 0, .bool false, .slice none 0 0] 27 (by kernel_rfl) rfl rfl hq13.h info_rat rfl one_four (fun v13 hb13 hg13 => ?_) ?_
                  · have HB13 := hid (show Bk 27 v13 (g11) #[.bool b9q, .slice A9q n9q c9q, .bool e9q, .slice B9q m9q d9q] from hb13)
                    have S13 := S12.gb hg13 (by have h := S4.size; have h1 := hg11; omega)
                    refine ⟨⟨S13, (((RBn.out.ext T9).grown hg12 (by have h0 := (Nat.lt_of_lt_of_le RBn.out.lt T2.size); have h1 := hg10; omega)).grown hg13 (by have h0 := (Nat.lt_of_lt_of_le RBn.out.lt T4.size); have h1 := hg11; omega)), (((RBby.out.ext T9).grown hg12 (by have h0 := (Nat.lt_of_lt_of_le RBby.out.lt T2.size); have h1 := hg10; omega)).grown hg13 (by have h0 := (Nat.lt_of_lt_of_le RBby.out.lt T4.size); have h1 := hg11; omega))⟩, ?_⟩
                    simp only [Act.put, List.setIfInBounds_toArray, List.set_cons_zero, List.set_cons_succ]
                    refine wpAnyH_done (by kernel_rfl) ?_ _
                    go_step
                    go_step
                    go_meet
                    case rel => exact ⟨_, _, _, _, _, _, _, _, _, _, _, _, _, _, _, _, _, _, rfl, rfl, (Nat.le_trans T2.size hg10), (Nat.le_trans T4.size hg11), (by have h0 := (Nat.lt_of_lt_of_le HB10.out.lt hx4.size); have h1 := hg11; omega), (((RBx.out.ext T9).grown hg12 (by have h0 := (Nat.lt_of_lt_of_le RBx.out.lt T2.size); have h1 := hg10; omega)).grown hg13 (by have h0 := (Nat.lt_of_lt_of_le RBx.out.lt T4.size); have h1 := hg11; omega)), (((RBy.out.ext T9).grown hg12 (by have h0 := (Nat.lt_of_lt_of_le RBy.out.lt T2.size); have h1 := hg10; omega)).grown hg13 (by have h0 := (Nat.lt_of_lt_of_le RBy.out.lt T4.size); have h1 := hg11; omega)), (((RBby.out.ext T9).grown hg12 (by have h0 := (Nat.lt_of_lt_of_le RBby.out.lt T2.size); have h1 := hg10; omega)).grown hg13 (by have h0 := (Nat.lt_of_lt_of_le RBby.out.lt T4.size); have h1 := hg11; omega)), (((RBn.out.ext T9).grown hg12 (by have h0 := (Nat.lt_of_lt_of_le RBn.out.lt T2.size); have h1 := hg10; omega)).grown hg13 (by have h0 := (Nat.lt_of_lt_of_le RBn.out.lt T4.size); have h1 := hg11; omega)), (HB12.out.grown hg13 (by have h0 := (Nat.lt_of_lt_of_le HB10.out.lt hx4.size); have h1 := hg11; omega)), HB13.out, (((RFby.out.ext T9).gbk hq12 (by decide) hg12).gbk hq13 (by decide) hg13), (((RFn.out.ext T9).gbk hq12 (by decide) hg12).gbk hq13 (by decide) hg13), ((((o4.mono S10.size).ext ((hx11.trans hx7).trans hx9)).gbk hq12 (by decide) hg12).gbk hq13 (by decide) hg13), (((o9.mono S7.size).gbk hq12 (by decide) hg12).gbk hq13 (by decide) hg13), S13⟩
                  exact drawn_nil
                exact drawn_nil
              exact drawn_nil
            exact drawn_nil
          exact drawn_nil
        refine drawn_alloc 11 (some 12) (by kernel_rfl) alloc_rat (fun g11 v11 hb11 hx11 hg11 => ?_) ?_
        · have HB11 := hid (show Bk 27 v11 g11 #[.bool false, .slice none 0 0, .bool false, .slice none 0 0] from hb11)
          have S11 := S10.trans hx11
          have T11 := T10.trans hx11
          refine ⟨⟨S11, (RBn.out.ext T11), (RBby.out.ext T11)⟩, ?_⟩
          simp only [Act.put, List.setIfInBounds_toArray, List.set_cons_zero, List.set_cons_succ]
          refine wpAnyH_ready (rs := [4]) (by kernel_rfl) (by simp) ?_
          refine drawn_call2 4 (some 57) (.tmp 55) (.tmp 56) (ts := #[27, 27]) (by kernel_rfl) (enters_of Try.func23 (by kernel_rfl) rfl) rfl rfl (qmul_v ((o2.mono S0.size).ext (hx10.trans hx11)).rv (RFby.out.ext T11).rv (by omega)) (fun E v4 hh => ?_) ?_
          · skip
            obtain ⟨b4q, A4q, n4q, c4q, e4q, B4q, m4q, d4q, rfl, o4, hx4⟩ := hh
            have S4 := S11.trans hx4
            have T4 := T11.trans hx4
            refine ⟨_, rfl, ⟨S4, (RBn.out.ext T4), (RBby.out.ext T4)⟩, ?_⟩
            simp only [Act.put, List.setIfInBounds_toArray, List.set_cons_zero, List.set_cons_succ]
            refine wpAnyH_ready (rs := [7]) (by kernel_rfl) (by simp) ?_
            refine drawn_call1 7 (some 60) (.tmp 59) (ts := #[24]) (by kernel_rfl) (enters_of Try.func24 (by kernel_rfl) rfl) rfl (rwhole_v (RFn.out.ext T4).de.iz (by omega)) (fun E v7 hh => ?_) ?_
            · skip
              obtain ⟨b7q, A7q, n7q, c7q, e7q, B7q, m7q, d7q, rfl, o7, hx7⟩ := hh
              have S7 := S4.trans hx7
              have T7 := T4.trans hx7
              refine ⟨_, rfl, ⟨S7, (RBn.out.ext T7), (RBby.out.ext T7)⟩, ?_⟩
              simp only [Act.put, List.setIfInBounds_toArray, List.set_cons_zero, List.set_cons_succ]
              refine wpAnyH_ready (rs := [9]) (by kernel_rfl) (by simp) ?_
              refine drawn_call2 9 (some 62) (.tmp 60) (.tmp 61) (ts := #[27, 27]) (by kernel_rfl) (enters_of Try.func23 (by kernel_rfl) rfl) rfl rfl (qmul_v (o7.mono S4.size).rv (RFby.out.ext T7).rv (by omega)) (fun E v9 hh => ?_) ?_
              · skip
                obtain ⟨b9q, A9q, n9q, c9q, e9q, B9q, m9q, d9q, rfl, o9, hx9⟩ := hh
                have S9 := S7.trans hx9
                have T9 := T7.trans hx9
                refine ⟨_, rfl, ⟨S9, (RBn.out.ext T9), (RBby.out.ext T9)⟩, ?_⟩
                simp only [Act.put, List.setIfInBounds_toArray, List.set_cons_zero, List.set_cons_succ]
                refine wpAnyH_ready (rs := [12]) (by kernel_rfl) (by simp) ?_
                have hq12 := (HB10.out.ext (((hx11.trans hx4).trans hx7).trans hx9))
                refine drawn_store 12 27 (.tmp 11) (.tmp 57) (g10) #[.bool b4q, .slice A4q n4q c4q, .bool e4q, .slice B4q m4q d4q] #[.bool false, .slice none 0 0, .bool false, .slice none 0 0] 27 (by kernel_rfl) rfl rfl hq12.h info_rat rfl one_four (fun v12 hb12 hg12 => ?_) ?_
                · have HB12 := hid (show Bk 27 v12 (g10) #[.bool b4q, .slice A4q n4q c4q, .bool e4q, .slice B4q m4q d4q] from hb12)
                  have S12 := S9.gb hg12 (by have h := S2.size; have h1 := hg10; omega)
                  refine ⟨⟨S12, ((RBn.out.ext T9).grown hg12 (by have h0 := (Nat.lt_of_lt_of_le RBn.out.lt T2.size); have h1 := hg10; omega)), ((RBby.out.ext T9).grown hg12 (by have h0 := (Nat.lt_of_lt_of_le RBby.out.lt T2.size); have h1 := hg10; omega))⟩, ?_⟩
                  simp only [Act.put, List.setIfInBounds_toArray, List.set_cons_zero, List.set_cons_succ]
                  refine wpAnyH_ready (rs := [13]) (by kernel_rfl) (by simp) ?_
                  have hq13 := ((HB11.out.ext ((hx4.trans hx7).trans hx9)).grown hg12 (by have h0 := HB10.out.lt; have h1 := hg11; omega))
                  refine drawn_store 13 27 (.tmp 12) (.tmp 62) (g11) #[.bool b9q, .slice A9q n9q c9q, .bool e9q, .slice B9q m9q d9q] #[.bool false, .slice none 0 0, .bool false, .slice none 0 0] 27 (by kernel_rfl) rfl rfl hq13.h info_rat rfl one_four (fun v13 hb13 hg13 => ?_) ?_
                  · have HB13 := hid (show Bk 27 v13 (g11) #[.bool b9q, .slice A9q n9q c9q, .bool e9q, .slice B9q m9q d9q] from hb13)
                    have S13 := S12.gb hg13 (by have h := S10.size; have h1 := hg11; omega)
                    refine ⟨⟨S13, (((RBn.out.ext T9).grown hg12 (by have h0 := (Nat.lt_of_lt_of_le RBn.out.lt T2.size); have h1 := hg10; omega)).grown hg13 (by have h0 := (Nat.lt_of_lt_of_le RBn.out.lt T10.size); have h1 := hg11; omega)), (((RBby.out.ext T9).grown hg12 (by have h0 := (Nat.lt_of_lt_of_le RBby.out.lt T2.size); have h1 := hg10; omega)).grown hg13 (by have h0 := (Nat.lt_of_lt_of_le RBby.out.lt T10.size); have h1 := hg11; omega))⟩, ?_⟩
                    simp only [Act.put, List.setIfInBounds_toArray, List.set_cons_zero, List.set_cons_succ]
                    refine wpAnyH_done (by kernel_rfl) ?_ _
                    go_step
                    go_step
                    go_meet
                    case rel => exact ⟨_, _, _, _, _, _, _, _, _, _, _, _, _, _, _, _, _, _, rfl, rfl, (Nat.le_trans T2.size hg10), (Nat.le_trans T10.size hg11), (by have h0 := HB10.out.lt; have h1 := hg11; omega), (((RBx.out.ext T9).grown hg12 (by have h0 := (Nat.lt_of_lt_of_le RBx.out.lt T2.size); have h1 := hg10; omega)).grown hg13 (by have h0 := (Nat.lt_of_lt_of_le RBx.out.lt T10.size); have h1 := hg11; omega)), (((RBy.out.ext T9).grown hg12 (by have h0 := (Nat.lt_of_lt_of_le RBy.out.lt T2.size); have h1 := hg10; omega)).grown hg13 (by have h0 := (Nat.lt_of_lt_of_le RBy.out.lt T10.size); have h1 := hg11; omega)), (((RBby.out.ext T9).grown hg12 (by have h0 := (Nat.lt_of_lt_of_le RBby.out.lt T2.size); have h1 := hg10; omega)).grown hg13 (by have h0 := (Nat.lt_of_lt_of_le RBby.out.lt T10.size); have h1 := hg11; omega)), (((RBn.out.ext T9).grown hg12 (by have h0 := (Nat.lt_of_lt_of_le RBn.out.lt T2.size); have h1 := hg10; omega)).grown hg13 (by have h0 := (Nat.lt_of_lt_of_le RBn.out.lt T10.size); have h1 := hg11; omega)), (HB12.out.grown hg13 (by have h0 := HB10.out.lt; have h1 := hg11; omega)), HB13.out, (((RFby.out.ext T9).gbk hq12 (by decide) hg12).gbk hq13 (by decide) hg13), (((RFn.out.ext T9).gbk hq12 (by decide) hg12).gbk hq13 (by decide) hg13), ((((o4.mono S11.size).ext (hx7.trans hx9)).gbk hq12 (by decide) hg12).gbk hq13 (by decide) hg13), (((o9.mono S7.size).gbk hq12 (by decide) hg12).gbk hq13 (by decide) hg13), S13⟩
                  exact drawn_nil
                exact drawn_nil
              exact drawn_nil
            exact drawn_nil
          exact drawn_nil
        exact drawn_nil
      refine drawn_alloc 11 (some 12) (by kernel_rfl) alloc_rat (fun g11 v11 hb11 hx11 hg11 => ?_) ?_
      · have HB11 := hid (show Bk 27 v11 g11 #[.bool false, .slice none 0 0, .bool false, .slice none 0 0] from hb11)
        have S11 := S2.trans hx11
        have T11 := T2.trans hx11
        refine ⟨⟨S11, (RBn.out.ext T11), (RBby.out.ext T11)⟩, ?_⟩
        simp only [Act.put, List.setIfInBounds_toArray, List.set_cons_zero, List.set_cons_succ]
        refine wpAnyH_ready (rs := [4, 10]) (by kernel_rfl) (by simp) ?_
        refine drawn_call2 4 (some 57) (.tmp 55) (.tmp 56) (ts := #[27, 27]) (by kernel_rfl) (enters_of Try.func23 (by kernel_rfl) rfl) rfl rfl (qmul_v ((o2.mono S0.size).ext hx11).rv (RFby.out.ext T11).rv (by omega)) (fun E v4 hh => ?_) ?_
        · skip
          obtain ⟨b4q, A4q, n4q, c4q, e4q, B4q, m4q, d4q, rfl, o4, hx4⟩ := hh
          have S4 := S11.trans hx4
          have T4 := T11.trans hx4
          refine ⟨_, rfl, ⟨S4, (RBn.out.ext T4), (RBby.out.ext T4)⟩, ?_⟩
          simp only [Act.put, List.setIfInBounds_toArray, List.set_cons_zero, List.set_cons_succ]
          refine wpAnyH_ready (rs := [7, 10]) (by kernel_rfl) (by simp) ?_
          refine drawn_call1 7 (some 60) (.tmp 59) (ts := #[24]) (by kernel_rfl) (enters_of Try.func24 (by kernel_rfl) rfl) rfl (rwhole_v (RFn.out.ext T4).de.iz (by omega)) (fun E v7 hh => ?_) ?_
          · skip
            obtain ⟨b7q, A7q, n7q, c7q, e7q, B7q, m7q, d7q, rfl, o7, hx7⟩ := hh
            have S7 := S4.trans hx7
            have T7 := T4.trans hx7
            refine ⟨_, rfl, ⟨S7, (RBn.out.ext T7), (RBby.out.ext T7)⟩, ?_⟩
            simp only [Act.put, List.setIfInBounds_toArray, List.set_cons_zero, List.set_cons_succ]
            refine wpAnyH_ready (rs := [9, 10]) (by kernel_rfl) (by simp) ?_
            refine drawn_call2 9 (some 62) (.tmp 60) (.tmp 61) (ts := #[27, 27]) (by kernel_rfl) (enters_of Try.func23 (by kernel_rfl) rfl) rfl rfl (qmul_v (o7.mono S4.size).rv (RFby.out.ext T7).rv (by omega)) (fun E v9 hh => ?_) ?_
            · skip
              obtain ⟨b9q, A9q, n9q, c9q, e9q, B9q, m9q, d9q, rfl, o9, hx9⟩ := hh
              have S9 := S7.trans hx9
              have T9 := T7.trans hx9
              refine ⟨_, rfl, ⟨S9, (RBn.out.ext T9), (RBby.out.ext T9)⟩, ?_⟩
              simp only [Act.put, List.setIfInBounds_toArray, List.set_cons_zero, List.set_cons_succ]
              refine wpAnyH_ready (rs := [10]) (by kernel_rfl) (by simp) ?_
              refine drawn_alloc 10 (some 11) (by kernel_rfl) alloc_rat (fun g10 v10 hb10 hx10 hg10 => ?_) ?_
              · have HB10 := hid (show Bk 27 v10 g10 #[.bool false, .slice none 0 0, .bool false, .slice none 0 0] from hb10)
                have S10 := S9.trans hx10
                have T10 := T9.trans hx10
                refine ⟨⟨S10, (RBn.out.ext T10), (RBby.out.ext T10)⟩, ?_⟩
                simp only [Act.put, List.setIfInBounds_toArray, List.set_cons_zero, List.set_cons_succ]
                refine wpAnyH_ready (rs := [12]) (by kernel_rfl) (by simp) ?_
                have hq12 := HB10.out
                refine drawn_store 12 27 (.tmp 11) (.tmp 57) (g10) #[.bool b4q, .slice A4q n4q c4q, .bool e4q, .slice B4q m4q d4q] #[.bool false, .slice none 0 0, .bool false, .slice none 0 0] 27 (by kernel_rfl) rfl rfl hq12.h info_rat rfl one_four (fun v12 hb12 hg12 => ?_) ?_
                · have HB12 := hid (show Bk 27 v12 (g10) #[.bool b4q, .slice A4q n4q c4q, .bool e4q, .slice B4q m4q d4q] from hb12)
                  have S12 := S10.gb hg12 (by have h := S9.size; have h1 := hg10; omega)
                  refine ⟨⟨S12, ((RBn.out.ext T10).grown hg12 (by have h0 := (Nat.lt_of_lt_of_le RBn.out.lt T9.size); have h1 := hg10; omega)), ((RBby.out.ext T10).grown hg12 (by have h0 := (Nat.lt_of_lt_of_le RBby.out.lt T9.size); have h1 := hg10; omega))⟩, ?_⟩
                  simp only [Act.put, List.setIfInBounds_toArray, List.set_cons_zero, List.set_cons_succ]
                  refine wpAnyH_ready (rs := [13]) (by kernel_rfl) (by simp) ?_
                  have hq13 := ((HB11.out.ext (((hx4.trans hx7).trans hx9).trans hx10)).grown hg12 (by have h0 := (Nat.lt_of_lt_of_le HB11.out.lt (Nat.le_trans (Nat.le_trans hx4.size hx7.size) hx9.size)); have h1 := hg10; omega))
                  refine drawn_store 13 27 (.tmp 12) (.tmp 62) (g11) #[.bool b9q, .slice A9q n9q c9q, .bool e9q, .slice B9q m9q d9q] #[.bool false, .slice none 0 0, .bool false, .slice none 0 0] 27 (by kernel_rfl) rfl rfl hq13.h info_rat rfl one_four (fun v13 hb13 hg13 => ?_) ?_
                  · have HB13 := hid (show Bk 27 v13 (g11) #[.bool b9q, .slice A9q n9q c9q, .bool e9q, .slice B9q m9q d9q] from hb13)
                    have S13 := S12.gb hg13 (by have h := S2.size; have h1 := hg11; omega)
                    refine ⟨⟨S13, (((RBn.out.ext T10).grown hg12 (by have h0 := (Nat.lt_of_lt_of_le RBn.out.lt T9.size); have h1 := hg10; omega)).grown hg13 (by have h0 := (Nat.lt_of_lt_of_le RBn.out.lt T2.size); have h1 := hg11; omega)), (((RBby.out.ext T10).grown hg12 (by have h0 := (Nat.lt_of_lt_of_le RBby.out.lt T9.size); have h1 := hg10; omega)).grown hg13 (by have h0 := (Nat.lt_of_lt_of_le RBby.out.lt T2.size); have h1 := hg11; omega))⟩, ?_⟩
                    simp only [Act.put, List.setIfInBounds_toArray, List.set_cons_zero, List.set_cons_succ]
                    refine wpAnyH_done (by kernel_rfl) ?_ _
                    go_step
                    go_step
                    go_meet
                    case rel => exact ⟨_, _, _, _, _, _, _, _, _, _, _, _, _, _, _, _, _, _, rfl, rfl, (Nat.le_trans T9.size hg10), (Nat.le_trans T2.size hg11), (by have h0 := (Nat.lt_of_lt_of_le HB11.out.lt (Nat.le_trans (Nat.le_trans hx4.size hx7.size) hx9.size)); have h1 := hg10; omega), (((RBx.out.ext T10).grown hg12 (by have h0 := (Nat.lt_of_lt_of_le RBx.out.lt T9.size); have h1 := hg10; omega)).grown hg13 (by have h0 := (Nat.lt_of_lt_of_le RBx.out.lt T2.size); have h1 := hg11; omega)), (((RBy.out.ext T10).grown hg12 (by have h0 := (Nat.lt_of_lt_of_le RBy.out.lt T9.size); have h1 := hg10; omega)).grown hg13 (by have h0 := (Nat.lt_of_lt_of_le RBy.out.lt T2.size); have h1 := hg11; omega)), (((RBby.out.ext T10).grown hg12 (by have h0 := (Nat.lt_of_lt_of_le RBby.out.lt T9.size); have h1 := hg10; omega)).grown hg13 (by have h0 := (Nat.lt_of_lt_of_le RBby.out.lt T2.size); have h1 := hg11; omega)), (((RBn.out.ext T10).grown hg12 (by have h0 := (Nat.lt_of_lt_of_le RBn.out.lt T9.size); have h1 := hg10; omega)).grown hg13 (by have h0 := (Nat.lt_of_lt_of_le RBn.out.lt T2.size); have h1 := hg11; omega)), (HB12.out.grown hg13 (by have h0 := (Nat.lt_of_lt_of_le HB11.out.lt (Nat.le_trans (Nat.le_trans hx4.size hx7.size) hx9.size)); have h1 := hg10; omega)), HB13.out, (((RFby.out.ext T10).gbk hq12 (by decide) hg12).gbk hq13 (by decide) hg13), (((RFn.out.ext T10).gbk hq12 (by decide) hg12).gbk hq13 (by decide) hg13), ((((o4.mono S11.size).ext ((hx7.trans hx9).trans hx10)).gbk hq12 (by decide) hg12).gbk hq13 (by decide) hg13), ((((o9.mono S7.size).ext hx10).gbk hq12 (by decide) hg12).gbk hq13 (by decide) hg13), S13⟩
                  exact drawn_nil
                exact drawn_nil
              exact drawn_nil
            refine drawn_alloc 10 (some 11) (by kernel_rfl) alloc_rat (fun g10 v10 hb10 hx10 hg10 => ?_) ?_
            · have HB10 := hid (show Bk 27 v10 g10 #[.bool false, .slice none 0 0, .bool false, .slice none 0 0] from hb10)
              have S10 := S7.trans hx10
              have T10 := T7.trans hx10
              refine ⟨⟨S10, (RBn.out.ext T10), (RBby.out.ext T10)⟩, ?_⟩
              simp only [Act.put, List.setIfInBounds_toArray, List.set_cons_zero, List.set_cons_succ]
              refine wpAnyH_ready (rs := [9]) (by kernel_rfl) (by simp) ?_
              refine drawn_call2 9 (some 62) (.tmp 60) (.tmp 61) (ts := #[27, 27]) (by kernel_rfl) (enters_of Try.func23 (by kernel_rfl) rfl) rfl rfl (qmul_v ((o7.mono S4.size).ext hx10).rv (RFby.out.ext T10).rv (by omega)) (fun E v9 hh => ?_) ?_
              · skip
                obtain ⟨b9q, A9q, n9q, c9q, e9q, B9q, m9q, d9q, rfl, o9, hx9⟩ := hh
                have S9 := S10.trans hx9
                have T9 := T10.trans hx9
                refine ⟨_, rfl, ⟨S9, (RBn.out.ext T9), (RBby.out.ext T9)⟩, ?_⟩
                simp only [Act.put, List.setIfInBounds_toArray, List.set_cons_zero, List.set_cons_succ]
                refine wpAnyH_ready (rs := [12]) (by kernel_rfl) (by simp) ?_
                have hq12 := (HB10.out.ext hx9)
                refine drawn_store 12 27 (.tmp 11) (.tmp 57) (g10) #[.bool b4q, .slice A4q n4q c4q, .bool e4q, .slice B4q m4q d4q] #[.bool false, .slice none 0 0, .bool false, .slice none 0 0] 27 (by kernel_rfl) rfl rfl hq12.h info_rat rfl one_four (fun v12 hb12 hg12 => ?_) ?_
                · have HB12 := hid (show Bk 27 v12 (g10) #[.bool b4q, .slice A4q n4q c4q, .bool e4q, .slice B4q m4q d4q] from hb12)
                  have S12 := S9.gb hg12 (by have h := S7.size; have h1 := hg10; omega)
                  refine ⟨⟨S12, ((RBn.out.ext T9).grown hg12 (by have h0 := (Nat.lt_of_lt_of_le RBn.out.lt T7.size); have h1 := hg10; omega)), ((RBby.out.ext T9).grown hg12 (by have h0 := (Nat.lt_of_lt_of_le RBby.out.lt T7.size); have h1 := hg10; omega))⟩, ?_⟩
                  simp only [Act.put, List.setIfInBounds_toArray, List.set_cons_zero, List.set_cons_succ]
                  refine wpAnyH_ready (rs := [13]) (by kernel_rfl) (by simp) ?_
                  have hq13 := ((HB11.out.ext (((hx4.trans hx7).trans hx10).trans hx9)).grown hg12 (by have h0 := (Nat.lt_of_lt_of_le HB11.out.lt (Nat.le_trans hx4.size hx7.size)); have h1 := hg10; omega))
                  refine drawn_store 13 27 (.tmp 12) (.tmp 62) (g11) #[.bool b9q, .slice A9q n9q c9q, .bool e9q, .slice B9q m9q d9q] #[.bool false, .slice none 0 0, .bool false, .slice none 0 0] 27 (by kernel_rfl) rfl rfl hq13.h info_rat rfl one_four (fun v13 hb13 hg13 => ?_) ?_
                  · have HB13 := hid (show Bk 27 v13 (g11) #[.bool b9q, .slice A9q n9q c9q, .bool e9q, .slice B9q m9q d9q] from hb13)
                    have S13 := S12.gb hg13 (by have h := S2.size; have h1 := hg11; omega)
                    refine ⟨⟨S13, (((RBn.out.ext T9).grown hg12 (by have h0 := (Nat.lt_of_lt_of_le RBn.out.lt T7.size); have h1 := hg10; omega)).grown hg13 (by have h0 := (Nat.lt_of_lt_of_le RBn.out.lt T2.size); have h1 := hg11; omega)), (((RBby.out.ext T9).grown hg12 (by have h0 := (Nat.lt_of_lt_of_le RBby.out.lt T7.size); have h1 := hg10; omega)).grown hg13 (by have h0 := (Nat.lt_of_lt_of_le RBby.out.lt T2.size); have h1 := hg11; omega))⟩, ?_⟩
                    simp only [Act.put, List.setIfInBounds_toArray, List.set_cons_zero, List.set_cons_succ]
                    refine wpAnyH_done (by kernel_rfl) ?_ _
                    go_step
                    go_step
                    go_meet
                    case rel => exact ⟨_, _, _, _, _, _, _, _, _, _, _, _, _, _, _, _, _, _, rfl, rfl, (Nat.le_trans T7.size hg10), (Nat.le_trans T2.size hg11), (by have h0 := (Nat.lt_of_lt_of_le HB11.out.lt (Nat.le_trans hx4.size hx7.size)); have h1 := hg10; omega), (((RBx.out.ext T9).grown hg12 (by have h0 := (Nat.lt_of_lt_of_le RBx.out.lt T7.size); have h1 := hg10; omega)).grown hg13 (by have h0 := (Nat.lt_of_lt_of_le RBx.out.lt T2.size); have h1 := hg11; omega)), (((RBy.out.ext T9).grown hg12 (by have h0 := (Nat.lt_of_lt_of_le RBy.out.lt T7.size); have h1 := hg10; omega)).grown hg13 (by have h0 := (Nat.lt_of_lt_of_le RBy.out.lt T2.size); have h1 := hg11; omega)), (((RBby.out.ext T9).grown hg12 (by have h0 := (Nat.lt_of_lt_of_le RBby.out.lt T7.size); have h1 := hg10; omega)).grown hg13 (by have h0 := (Nat.lt_of_lt_of_le RBby.out.lt T2.size); have h1 := hg11; omega)), (((RBn.out.ext T9).grown hg12 (by have h0 := (Nat.lt_of_lt_of_le RBn.out.lt T7.size); have h1 := hg10; omega)).grown hg13 (by have h0 := (Nat.lt_of_lt_of_le RBn.out.lt T2.size); have h1 := hg11; omega)), (HB12.out.grown hg13 (by have h0 := (Nat.lt_of_lt_of_le HB11.out.lt (Nat.le_trans hx4.size hx7.size)); have h1 := hg10; omega)), HB13.out, (((RFby.out.ext T9).gbk hq12 (by decide) hg12).gbk hq13 (by decide) hg13), (((RFn.out.ext T9).gbk hq12 (by decide) hg12).gbk hq13 (by decide) hg13), ((((o4.mono S11.size).ext ((hx7.trans hx10).trans hx9)).gbk hq12 (by decide) hg12).gbk hq13 (by decide) hg13), (((o9.mono S10.size).gbk hq12 (by decide) hg12).gbk hq13 (by decide) hg13), S13⟩
                  exact drawn_nil
                exact drawn_nil
              exact drawn_nil
            exact drawn_nil
          refine drawn_alloc 10 (some 11) (by kernel_rfl) alloc_rat (fun g10 v10 hb10 hx10 hg10 => ?_) ?_
          · have HB10 := hid (show Bk 27 v10 g10 #[.bool false, .slice none 0 0, .bool false, .slice none 0 0] from hb10)
            have S10 := S4.trans hx10
            have T10 := T4.trans hx10
            refine ⟨⟨S10, (RBn.out.ext T10), (RBby.out.ext T10)⟩, ?_⟩
            simp only [Act.put, List.setIfInBounds_toArray, List.set_cons_zero, List.set_cons_succ]
            refine wpAnyH_ready (rs := [7]) (by kernel_rfl) (by simp) ?_
            refine drawn_call1 7 (some 60) (.tmp 59) (ts := #[24]) (by kernel_rfl) (enters_of Try.func24 (by kernel_rfl) rfl) rfl (rwhole_v (RFn.out.ext T10).de.iz (by omega)) (fun E v7 hh => ?_) ?_
            · skip
              obtain ⟨b7q, A7q, n7q, c7q, e7q, B7q, m7q, d7q, rfl, o7, hx7⟩ := hh
              have S7 := S10.trans hx7
              have T7 := T10.trans hx7
              refine ⟨_, rfl, ⟨S7, (RBn.out.ext T7), (RBby.out.ext T7)⟩, ?_⟩
              simp only [Act.put, List.setIfInBounds_toArray, List.set_cons_zero, List.set_cons_succ]
              refine wpAnyH_ready (rs := [9]) (by kernel_rfl) (by simp) ?_
              refine drawn_call2 9 (some 62) (.tmp 60) (.tmp 61) (ts := #[27, 27]) (by kernel_rfl) (enters_of Try.func23 (by kernel_rfl) rfl) rfl rfl (qmul_v (o7.mono S10.size).rv (RFby.out.ext T7).rv (by omega)) (fun E v9 hh => ?_) ?_
              · skip
                obtain ⟨b9q, A9q, n9q, c9q, e9q, B9q, m9q, d9q, rfl, o9, hx9⟩ := hh
                have S9 := S7.trans hx9
                have T9 := T7.trans hx9
                refine ⟨_, rfl, ⟨S9, (RBn.out.ext T9), (RBby.out.ext T9)⟩, ?_⟩
                simp only [Act.put, List.setIfInBounds_toArray, List.set_cons_zero, List.set_cons_succ]
                refine wpAnyH_ready (rs := [12]) (by kernel_rfl) (by simp) ?_
                have hq12 := (HB10.out.ext (hx7.trans hx9))
                refine drawn_store 12 27 (.tmp 11) (.tmp 57) (g10) #[.bool b4q, .slice A4q n4q c4q, .bool e4q, .slice B4q m4q d4q] #[.bool false, .slice none 0 0, .bool false, .slice none 0 0] 27 (by kernel_rfl) rfl rfl hq12.h info_rat rfl one_four (fun v12 hb12 hg12 => ?_) ?_
                · have HB12 := hid (show Bk 27 v12 (g10) #[.bool b4q, .slice A4q n4q c4q, .bool e4q, .slice B4q m4q d4q] from hb12)
                  have S12 := S9.gb hg12 (by have h := S4.size; have h1 := hg10; omega)
                  refine ⟨⟨S12, ((RBn.out.ext T9).grown hg12 (by have h0 := (Nat.lt_of_lt_of_le RBn.out.lt T4.size); have h1 := hg10; omega)), ((RBby.out.ext T9).grown hg12 (by have h0 := (Nat.lt_of_lt_of_le RBby.out.lt T4.size); have h1 := hg10; omega))⟩, ?_⟩
                  simp only [Act.put, List.setIfInBounds_toArray, List.set_cons_zero, List.set_cons_succ]
                  refine wpAnyH_ready (rs := [13]) (by kernel_rfl) (by simp) ?_
                  have hq13 := ((HB11.out.ext (((hx4.trans hx10).trans hx7).trans hx9)).grown hg12 (by have h0 := (Nat.lt_of_lt_of_le HB11.out.lt hx4.size); have h1 := hg10; omega))
                  refine drawn_store 13 27 (.tmp 12) (.tmp 62) (g11) #[.bool b9q, .slice A9q n9q c9q, .bool e9q, .slice B9q m9q d9q] #[.bool false, .slice none 0 0, .bool false, .slice none 0 0] 27 (by kernel_rfl) rfl rfl hq13.h info_rat rfl one_four (fun v13 hb13 hg13 => ?_) ?_
                  · have HB13 := hid (show Bk 27 v13 (g11) #[.bool b9q, .slice A9q n9q c9q, .bool e9q, .slice B9q m9q d9q] from hb13)
                    have S13 := S12.gb hg13 (by have h := S2.size; have h1 := hg11; omega)
                    refine ⟨⟨S13, (((RBn.out.ext T9).grown hg12 (by have h0 := (Nat.lt_of_lt_of_le RBn.out.lt T4.size); have h1 := hg10; omega)).grown hg13 (by have h0 := (Nat.lt_of_lt_of_le RBn.out.lt T2.size); have h1 := hg11; omega)), (((RBby.out.ext T9).grown hg12 (by have h0 := (Nat.lt_of_lt_of_le RBby.out.lt T4.size); have h1 := hg10; omega)).grown hg13 (by have h0 := (Nat.lt_of_lt_of_le RBby.out.lt T2.size); have h1 := hg11; omega))⟩, ?_⟩
                    simp only [Act.put, List.setIfInBounds_toArray, List.set_cons_zero, List.set_cons_succ]
                    refine wpAnyH_done (by kernel_rfl) ?_ _
                    go_step
                    go_step
                    go_meet
                    case rel => exact ⟨_, _, _, _, _, _, _, _, _, _, _, _, _, _, _, _, _, _, rfl, rfl, (Nat.le_trans T4.size hg10), (Nat.le_trans T2.size hg11), (by have h0 := (Nat.lt_of_lt_of_le HB11.out.lt hx4.size); have h1 := hg10; omega), (((RBx.out.ext T9).grown hg12 (by have h0 := (Nat.lt_of_lt_of_le RBx.out.lt T4.size); have h1 := hg10; omega)).grown hg13 (by have h0 := (Nat.lt_of_lt_of_le RBx.out.lt T2.size); have h1 := hg11; omega)), (((RBy.out.ext T9).grown hg12 (by have h0 := (Nat.lt_of_lt_of_le RBy.out.lt T4.size); have h1 := hg10; omega)).grown hg13 (by have h0 := (Nat.lt_of_lt_of_le RBy.out.lt T2.size); have h1 := hg11; omega)), (((RBby.out.ext T9).grown hg12 (by have h0 := (Nat.lt_of_lt_of_le RBby.out.lt T4.size); have h1 := hg10; omega)).grown hg13 (by have h0 := (Nat.lt_of_lt_of_le RBby.out.lt T2.size); have h1 := hg11; omega)), (((RBn.out.ext T9).grown hg12 (by have h0 := (Nat.lt_of_lt_of_le RBn.out.lt T4.size); have h1 := hg10; omega)).grown hg13 (by have h0 := (Nat.lt_of_lt_of_le RBn.out.lt T2.size); have h1 := hg11; omega)), (HB12.out.grown hg13 (by have h0 := (Nat.lt_of_lt_of_le HB11.out.lt hx4.size); have h1 := hg10; omega)), HB13.out, (((RFby.out.ext T9).gbk hq12 (by decide) hg12).gbk hq13 (by decide) hg13), (((RFn.out.ext T9).gbk hq12 (by decide) hg12).gbk hq13 (by decide) hg13), ((((o4.mono S11.size).ext ((hx10.trans hx7).trans hx9)).gbk hq12 (by decide) hg12).gbk hq13 (by decide) hg13), (((o9.mono S7.size).gbk hq12 (by decide) hg12).gbk hq13 (by decide) hg13), S13⟩
                  exact drawn_nil
                exact drawn_nil
              exact drawn_nil
            exact drawn_nil
          exact drawn_nil
        refine drawn_alloc 10 (some 11) (by kernel_rfl) alloc_rat (fun g10 v10 hb10 hx10 hg10 => ?_) ?_
        · have HB10 := hid (show Bk 27 v10 g10 #[.bool false, .slice none 0 0, .bool false, .slice none 0 0] from hb10)
          have S10 := S11.trans hx10
          have T10 := T11.trans hx10
          refine ⟨⟨S10, (RBn.out.ext T10), (RBby.out.ext T10)⟩, ?_⟩
          simp only [Act.put, List.setIfInBounds_toArray, List.set_cons_zero, List.set_cons_succ]
          refine wpAnyH_ready (rs := [4]) (by kernel_rfl) (by simp) ?_
          refine drawn_call2 4 (some 57) (.tmp 55) (.tmp 56) (ts := #[27, 27]) (by kernel_rfl) (enters_of Try.func23 (by kernel_rfl) rfl) rfl rfl (qmul_v ((o2.mono S0.size).ext (hx11.trans hx10)).rv (RFby.out.ext T10).rv (by omega)) (fun E v4 hh => ?_) ?_
          · skip
            obtain ⟨b4q, A4q, n4q, c4q, e4q, B4q, m4q, d4q, rfl, o4, hx4⟩ := hh
            have S4 := S10.trans hx4
            have T4 := T10.trans hx4
            refine ⟨_, rfl, ⟨S4, (RBn.out.ext T4), (RBby.out.ext T4)⟩, ?_⟩
            simp only [Act.put, List.setIfInBounds_toArray, List.set_cons_zero, List.set_cons_succ]
            refine wpAnyH_ready (rs := [7]) (by kernel_rfl) (by simp) ?_
            refine drawn_call1 7 (some 60) (.tmp 59) (ts := #[24]) (by kernel_rfl) (enters_of Try.func24 (by kernel_rfl) rfl) rfl (rwhole_v (RFn.out.ext T4).de.iz (by omega)) (fun E v7 hh => ?_) ?_
            · skip
              obtain ⟨b7q, A7q, n7q, c7q, e7q, B7q, m7q, d7q, rfl, o7, hx7⟩ := hh
              have S7 := S4.trans hx7
              have T7 := T4.trans hx7
              refine ⟨_, rfl, ⟨S7, (RBn.out.ext T7), (RBby.out.ext T7)⟩, ?_⟩
              simp only [Act.put, List.setIfInBounds_toArray, List.set_cons_zero, List.set_cons_succ]
              refine wpAnyH_ready (rs := [9]) (by kernel_rfl) (by simp) ?_
              refine drawn_call2 9 (some 62) (.tmp 60) (.tmp 61) (ts := #[27, 27]) (by kernel_rfl) (enters_of Try.func23 (by kernel_rfl) rfl) rfl rfl (qmul_v (o7.mono S4.size).rv (RFby.out.ext T7).rv (by omega)) (fun E v9 hh => ?_) ?_
              · skip
                obtain ⟨b9q, A9q, n9q, c9q, e9q, B9q, m9q, d9q, rfl, o9, hx9⟩ := hh
                have S9 := S7.trans hx9
                have T9 := T7.trans hx9
                refine ⟨_, rfl, ⟨S9, (RBn.out.ext T9), (RBby.out.ext T9)⟩, ?_⟩
                simp only [Act.put, List.setIfInBounds_toArray, List.set_cons_zero, List.set_cons_succ]
                refine wpAnyH_ready (rs := [12]) (by kernel_rfl) (by simp) ?_
                have hq12 := (HB10.out.ext ((hx4.trans hx7).trans hx9))
                refine drawn_store 12 27 (.tmp 11) (.tmp 57) (g10) #[.bool b4q, .slice A4q n4q c4q, .bool e4q, .slice B4q m4q d4q] #[.bool false, .slice none 0 0, .bool false, .slice none 0 0] 27 (by kernel_rfl) rfl rfl hq12.h info_rat rfl one_four (fun v12 hb12 hg12 => ?_) ?_
                · have HB12 := hid (show Bk 27 v12 (g10) #[.bool b4q, .slice A4q n4q c4q, .bool e4q, .slice B4q m4q d4q] from hb12)
                  have S12 := S9.gb hg12 (by have h := S11.size; have h1 := hg10; omega)
                  refine ⟨⟨S12, ((RBn.out.ext T9).grown hg12 (by have h0 := (Nat.lt_of_lt_of_le RBn.out.lt T11.size); have h1 := hg10; omega)), ((RBby.out.ext T9).grown hg12 (by have h0 := (Nat.lt_of_lt_of_le RBby.out.lt T11.size); have h1 := hg10; omega))⟩, ?_⟩
                  simp only [Act.put, List.setIfInBounds_toArray, List.set_cons_zero, List.set_cons_succ]
                  refine wpAnyH_ready (rs := [13]) (by kernel_rfl) (by simp) ?_
                  have hq13 := ((HB11.out.ext (((hx10.trans hx4).trans hx7).trans hx9)).grown hg12 (by have h0 := HB11.out.lt; have h1 := hg10; omega))
                  refine drawn_store 13 27 (.tmp 12) (.tmp 62) (g11) #[.bool b9q, .slice A9q n9q c9q, .bool e9q, .slice B9q m9q d9q] #[.bool false, .slice none 0 0, .bool false, .slice none 0 0] 27 (by kernel_rfl) rfl rfl hq13.h info_rat rfl one_four (fun v13 hb13 hg13 => ?_) ?_
                  · have HB13 := hid (show Bk 27 v13 (g11) #[.bool b9q, .slice A9q n9q c9q, .bool e9q, .slice B9q m9q d9q] from hb13)
                    have S13 := S12.gb hg13 (by have h := S2.size; have h1 := hg11; omega)
                    refine ⟨⟨S13, (((RBn.out.ext T9).grown hg12 (by have h0 := (Nat.lt_of_lt_of_le RBn.out.lt T11.size); have h1 := hg10; omega)).grown hg13 (by have h0 := (Nat.lt_of_lt_of_le RBn.out.lt T2.size); have h1 := hg11; omega)), (((RBby.out.ext T9).grown hg12 (by have h0 := (Nat.lt_of_lt_of_le RBby.out.lt T11.size); have h1 := hg10; omega)).grown hg13 (by have h0 := (Nat.lt_of_lt_of_le RBby.out.lt T2.size); have h1 := hg11; omega))⟩, ?_⟩
                    simp only [Act.put, List.setIfInBounds_toArray, List.set_cons_zero, List.set_cons_succ]
                    refine wpAnyH_done (by kernel_rfl) ?_ _
                    go_step
                    go_step
                    go_meet
                    case rel => exact ⟨_, _, _, _, _, _, _, _, _, _, _, _, _, _, _, _, _, _, rfl, rfl, (Nat.le_trans T11.size hg10), (Nat.le_trans T2.size hg11), (by have h0 := HB11.out.lt; have h1 := hg10; omega), (((RBx.out.ext T9).grown hg12 (by have h0 := (Nat.lt_of_lt_of_le RBx.out.lt T11.size); have h1 := hg10; omega)).grown hg13 (by have h0 := (Nat.lt_of_lt_of_le RBx.out.lt T2.size); have h1 := hg11; omega)), (((RBy.out.ext T9).grown hg12 (by have h0 := (Nat.lt_of_lt_of_le RBy.out.lt T11.size); have h1 := hg10; omega)).grown hg13 (by have h0 := (Nat.lt_of_lt_of_le RBy.out.lt T2.size); have h1 := hg11; omega)), (((RBby.out.ext T9).grown hg12 (by have h0 := (Nat.lt_of_lt_of_le RBby.out.lt T11.size); have h1 := hg10; omega)).grown hg13 (by have h0 := (Nat.lt_of_lt_of_le RBby.out.lt T2.size); have h1 := hg11; omega)), (((RBn.out.ext T9).grown hg12 (by have h0 := (Nat.lt_of_lt_of_le RBn.out.lt T11.size); have h1 := hg10; omega)).grown hg13 (by have h0 := (Nat.lt_of_lt_of_le RBn.out.lt T2.size); have h1 := hg11; omega)), (HB12.out.grown hg13 (by have h0 := HB11.out.lt; have h1 := hg10; omega)), HB13.out, (((RFby.out.ext T9).gbk hq12 (by decide) hg12).gbk hq13 (by decide) hg13), (((RFn.out.ext T9).gbk hq12 (by decide) hg12).gbk hq13 (by decide) hg13), ((((o4.mono S10.size).ext (hx7.trans hx9)).gbk hq12 (by decide) hg12).gbk hq13 (by decide) hg13), (((o9.mono S7.size).gbk hq12 (by decide) hg12).gbk hq13 (by decide) hg13), S13⟩
                  exact drawn_nil
                exact drawn_nil
              exact drawn_nil
            exact drawn_nil
          exact drawn_nil
        exact drawn_nil
      exact drawn_nil
    refine drawn_alloc 10 (some 11) (by kernel_rfl) alloc_rat (fun g10 v10 hb10 hx10 hg10 => ?_) ?_
    · have HB10 := hid (show Bk 27 v10 g10 #[.bool false, .slice none 0 0, .bool false, .slice none 0 0] from hb10)
      have S10 := S0.trans hx10
      have T10 := T0.trans hx10
      refine ⟨⟨S10, (RBn.out.ext T10), (RBby.out.ext T10)⟩, ?_⟩
      simp only [Act.put, List.setIfInBounds_toArray, List.set_cons_zero, List.set_cons_succ]
      refine wpAnyH_ready (rs := [2, 11]) (by kernel_rfl) (by simp) ?_
      refine drawn_call1 2 (some 55) (.tmp 54) (ts := #[24]) (by kernel_rfl) (enters_of Try.func24 (by kernel_rfl) rfl) rfl (rwhole_v (RFn.out.ext T10).nu.iz (by omega)) (fun E v2 hh => ?_) ?_
      · skip
        obtain ⟨b2q, A2q, n2q, c2q, e2q, B2q, m2q, d2q, rfl, o2, hx2⟩ := hh
        have S2 := S10.trans hx2
        have T2 := T10.trans hx2
        refine ⟨_, rfl, ⟨S2, (RBn.out.ext T2), (RBby.out.ext T2)⟩, ?_⟩
        simp only [Act.put, List.setIfInBounds_toArray, List.set_cons_zero, List.set_cons_succ]
        refine wpAnyH_ready (rs := [4, 11]) (by kernel_rfl) (by simp) ?_
        refine drawn_call2 4 (some 57) (.tmp 55) (.tmp 56) (ts := #[27, 27]) (by kernel_rfl) (enters_of Try.func23 (by kernel_rfl) rfl) rfl rfl (qmul_v (o2.mono S10.size).rv (RFby.out.ext T2).rv (by omega)) (fun E v4 hh => ?_) ?_
        · skip
          obtain ⟨b4q, A4q, n4q, c4q, e4q, B4q, m4q, d4q, rfl, o4, hx4⟩ := hh
          have S4 := S2.trans hx4
          have T4 := T2.trans hx4
          refine ⟨_, rfl, ⟨S4, (RBn.out.ext T4), (RBby.out.ext T4)⟩, ?_⟩
          simp only [Act.put, List.setIfInBounds_toArray, List.set_cons_zero, List.set_cons_succ]
          refine wpAnyH_ready (rs := [7, 11]) (by kernel_rfl) (by simp) ?_
          refine drawn_call1 7 (some 60) (.tmp 59) (ts := #[24]) (by kernel_rfl) (enters_of Try.func24 (by kernel_rfl) rfl) rfl (rwhole_v (RFn.out.ext T4).de.iz (by omega)) (fun E v7 hh => ?_) ?_
          · skip
            obtain ⟨b7q, A7q, n7q, c7q, e7q, B7q, m7q, d7q, rfl, o7, hx7⟩ := hh
            have S7 := S4.trans hx7
            have T7 := T4.trans hx7
            refine ⟨_, rfl, ⟨S7, (RBn.out.ext T7), (RBby.out.ext T7)⟩, ?_⟩
            simp only [Act.put, List.setIfInBounds_toArray, List.set_cons_zero, List.set_cons_succ]
            refine wpAnyH_ready (rs := [9, 11]) (by kernel_rfl) (by simp) ?_
            refine drawn_call2 9 (some 62) (.tmp 60) (.tmp 61) (ts := #[27, 27]) (by kernel_rfl) (enters_of Try.func23 (by kernel_rfl) rfl) rfl rfl (qmul_v (o7.mono S4.size).rv (RFby.out.ext T7).rv (by omega)) (fun E v9 hh => ?_) ?_
            · skip
              obtain ⟨b9q, A9q, n9q, c9q, e9q, B9q, m9q, d9q, rfl, o9, hx9⟩ := hh
              have S9 := S7.trans hx9
              have T9 := T7.trans hx9
              refine ⟨_, rfl, ⟨S9, (RBn.out.ext T9), (RBby.out.ext T9)⟩, ?_⟩
              simp only [Act.put, List.setIfInBounds_toArray, List.set_cons_zero, List.set_cons_succ]
              refine wpAnyH_ready (rs := [11]) (by kernel_rfl) (by simp) ?_
              refine drawn_alloc 11 (some 12) (by kernel_rfl) alloc_rat (fun g11 v11 hb11 hx11 hg11 => ?_) ?_
              · have HB11 := hid (show Bk 27 v11 g11 #[.bool false, .slice none 0 0, .bool false, .slice none 0 0] from hb11)
                have S11 := S9.trans hx11
                have T11 := T9.trans hx11
                refine ⟨⟨S11, (RBn.out.ext T11), (RBby.out.ext T11)⟩, ?_⟩
                simp only [Act.put, List.setIfInBounds_toArray, List.set_cons_zero, List.set_cons_succ]
                refine wpAnyH_ready (rs := [12]) (by kernel_rfl) (by simp) ?_
                have hq12 := (HB10.out.ext ((((hx2.trans hx4).trans hx7).trans hx9).trans hx11))
                refine drawn_store 12 27 (.tmp 11) (.tmp 57) (g10) #[.bool b4q, .slice A4q n4q c4q, .bool e4q, .slice B4q m4q d4q] #[.bool false, .slice none 0 0, .bool false, .slice none 0 0] 27 (by kernel_rfl) rfl rfl hq12.h info_rat rfl one_four (fun v12 hb12 hg12 => ?_) ?_
                · have HB12 := hid (show Bk 27 v12 (g10) #[.bool b4q, .slice A4q n4q c4q, .bool e4q, .slice B4q m4q d4q] from hb12)
                  have S12 := S11.gb hg12 (by have h := S0.size; have h1 := hg10; omega)
                  refine ⟨⟨S12, ((RBn.out.ext T11).grown hg12 (by have h0 := (Nat.lt_of_lt_of_le RBn.out.lt T0.size); have h1 := hg10; omega)), ((RBby.out.ext T11).grown hg12 (by have h0 := (Nat.lt_of_lt_of_le RBby.out.lt T0.size); have h1 := hg10; omega))⟩, ?_⟩
                  simp only [Act.put, List.setIfInBounds_toArray, List.set_cons_zero, List.set_cons_succ]
                  refine wpAnyH_ready (rs := [13]) (by kernel_rfl) (by simp) ?_
                  have hq13 := (HB11.out.grown hg12 (by have h0 := (Nat.lt_of_lt_of_le HB10.out.lt (Nat.le_trans (Nat.le_trans (Nat.le_trans hx2.size hx4.size) hx7.size) hx9.size)); have h1 := hg11; omega))
                  refine drawn_store 13 27 (.tmp 12) (.tmp 62) (g11) #[.bool b9q, .slice A9q n9q c9q, .bool e9q, .slice B9q m9q d9q] #[.bool false, .slice none 0 0, .bool false, .slice none 0 0] 27 (by kernel_rfl) rfl rfl hq13.h info_rat rfl one_four (fun v13 hb13 hg13 => ?_) ?_
                  · have HB13 := hid (show Bk 27 v13 (g11) #[.bool b9q, .slice A9q n9q c9q, .bool e9q, .slice B9q m9q d9q] from hb13)
                    have S13 := S12.gb hg13 (by have h := S9.size; have h1 := hg11; omega)
                    refine ⟨⟨S13, (((RBn.out.ext T11).grown hg12 (by have h0 := (Nat.lt_of_lt_of_le RBn.out.lt T0.size); have h1 := hg10; omega)).grown hg13 (by have h0 := (Nat.lt_of_lt_of_le RBn.out.lt T9.size); have h1 := hg11; omega)), (((RBby.out.ext T11).grown hg12 (by have h0 := (Nat.lt_of_lt_of_le RBby.out.lt T0.size); have h1 := hg10; omega)).grown hg13 (by have h0 := (Nat.lt_of_lt_of_le RBby.out.lt T9.size); have h1 := hg11; omega))⟩, ?_⟩
                    simp only [Act.put, List.setIfInBounds_toArray, List.set_cons_zero, List.set_cons_succ]
                    refine wpAnyH_done (by kernel_rfl) ?_ _
                    go_step
                    go_step
                    go_meet
                    case rel => exact ⟨_, _, _, _, _, _, _, _, _, _, _, _, _, _, _, _, _, _, rfl, rfl, (Nat.le_trans T0.size hg10), (Nat.le_trans T9.size hg11), (by have h0 := (Nat.lt_of_lt_of_le HB10.out.lt (Nat.le_trans (Nat.le_trans (Nat.le_trans hx2.size hx4.size) hx7.size) hx9.size)); have h1 := hg11; omega), (((RBx.out.ext T11).grown hg12 (by have h0 := (Nat.lt_of_lt_of_le RBx.out.lt T0.size); have h1 := hg10; omega)).grown hg13 (by have h0 := (Nat.lt_of_lt_of_le RBx.out.lt T9.size); have h1 := hg11; omega)), (((RBy.out.ext T11).grown hg12 (by have h0 := (Nat.lt_of_lt_of_le RBy.out.lt T0.size); have h1 := hg10; omega)).grown hg13 (by have h0 := (Nat.lt_of_lt_of_le RBy.out.lt T9.size); have h1 := hg11; omega)), (((RBby.out.ext T11).grown hg12 (by have h0 := (Nat.lt_of_lt_of_le RBby.out.lt T0.size); have h1 := hg10; omega)).grown hg13 (by have h0 := (Nat.lt_of_lt_of_le RBby.out.lt T9.size); have h1 := hg11; omega)), (((RBn.out.ext T11).grown hg12 (by have h0 := (Nat.lt_of_lt_of_le RBn.out.lt T0.size); have h1 := hg10; omega)).grown hg13 (by have h0 := (Nat.lt_of_lt_of_le RBn.out.lt T9.size); have h1 := hg11; omega)), (HB12.out.grown hg13 (by have h0 := (Nat.lt_of_lt_of_le HB10.out.lt (Nat.le_trans (Nat.le_trans (Nat.le_trans hx2.size hx4.size) hx7.size) hx9.size)); have h1 := hg11; omega)), HB13.out, (((RFby.out.ext T11).gbk hq12 (by decide) hg12).gbk hq13 (by decide) hg13), (((RFn.out.ext T11).gbk hq12 (by decide) hg12).gbk hq13 (by decide) hg13), ((((o4.mono S2.size).ext ((hx7.trans hx9).trans hx11)).gbk hq12 (by decide) hg12).gbk hq13 (by decide) hg13), ((((o9.mono S7.size).ext hx11).gbk hq12 (by decide) hg12).gbk hq13 (by decide) hg13), S13⟩
                  exact drawn_nil
                exact drawn_nil
              exact drawn_nil
            refine drawn_alloc 11 (some 12) (by kernel_rfl) alloc_rat (fun g11 v11 hb11 hx11 hg11 => ?_) ?_
            · have HB11 := hid (show Bk 27 v11 g11 #[.bool false, .slice none 0 0, .bool false, .slice none 0 0] from hb11)
              have S11 := S7.trans hx11
              have T11 := T7.trans hx11
              refine ⟨⟨S11, (RBn.out.ext T11), (RBby.out.ext T11)⟩, ?_⟩
              simp only [Act.put, List.setIfInBounds_toArray, List.set_cons_zero, List.set_cons_succ]
              refine wpAnyH_ready (rs := [9]) (by kernel_rfl) (by simp) ?_
              refine drawn_call2 9 (some 62) (.tmp 60) (.tmp 61) (ts := #[27, 27]) (by kernel_rfl) (enters_of Try.func23 (by kernel_rfl) rfl) rfl rfl (qmul_v ((o7.mono S4.size).ext hx11).rv (RFby.out.ext T11).rv (by omega)) (fun E v9 hh => ?_) ?_
              · skip
                obtain ⟨b9q, A9q, n9q, c9q, e9q, B9q, m9q, d9q, rfl, o9, hx9⟩ := hh
                have S9 := S11.trans hx9
                have T9 := T11.trans hx9
                refine ⟨_, rfl, ⟨S9, (RBn.out.ext T9), (RBby.out.ext T9)⟩, ?_⟩
                simp only [Act.put, List.setIfInBounds_toArray, List.set_cons_zero, List.set_cons_succ]
                refine wpAnyH_ready (rs := [12]) (by kernel_rfl) (by simp) ?_
                have hq12 := (HB10.out.ext ((((hx2.trans hx4).trans hx7).trans hx11).trans hx9))
                refine drawn_store 12 27 (.tmp 11) (.tmp 57) (g10) #[.bool b4q, .slice A4q n4q c4q, .bool e4q, .slice B4q m4q d4q] #[.bool false, .slice none 0 0, .bool false, .slice none 0 0] 27 (by kernel_rfl) rfl rfl hq12.h info_rat rfl one_four (fun v12 hb12 hg12 => ?_) ?_
                · have HB12 := hid (show Bk 27 v12 (g10) #[.bool b4q, .slice A4q n4q c4q, .bool e4q, .slice B4q m4q d4q] from hb12)
                  have S12 := S9.gb hg12 (by have h := S0.size; have h1 := hg10; omega)
                  refine ⟨⟨S12, ((RBn.out.ext T9).grown hg12 (by have h0 := (Nat.lt_of_lt_of_le RBn.out.lt T0.size); have h1 := hg10; omega)), ((RBby.out.ext T9).grown hg12 (by have h0 := (Nat.lt_of_lt_of_le RBby.out.lt T0.size); have h1 := hg10; omega))⟩, ?_⟩
                  simp only [Act.put, List.setIfInBounds_toArray, List.set_cons_zero, List.set_cons_succ]
                  refine wpAnyH_ready (rs := [13]) (by kernel_rfl) (by simp) ?_
                  have hq13 := ((HB11.out.ext hx9).grown hg12 (by have h0 := (Nat.lt_of_lt_of_le HB10.out.lt (Nat.le_trans (Nat.le_trans hx2.size hx4.size) hx7.size)); have h1 := hg11; omega))
                  refine drawn_store 13 27 (.tmp 12) (.tmp 62) (g11) #[.bool b9q, .slice A9q n9q c9q, .bool e9q, .slice B9q m9q d9q] #[.bool false, .slice none 0 0, .bool false, .slice none 0 0] 27 (by kernel_rfl) rfl rfl hq13.h info_rat rfl one_four (fun v13 hb13 hg13 => ?_) ?_
                  · have HB13 := hid (show Bk 27 v13 (g11) #[.bool b9q, .slice A9q n9q c9q, .bool e9q, .slice B9q m9q d9q] from hb13)
                    have S13 := S12.gb hg13 (by have h := S7.size; have h1 := hg11; omega)
                    refine ⟨⟨S13, (((RBn.out.ext T9).grown hg12 (by have h0 := (Nat.lt_of_lt_of_le RBn.out.lt T0.size); have h1 := hg10; omega)).grown hg13 (by have h0 := (Nat.lt_of_lt_of_le RBn.out.lt T7.size); have h1 := hg11; omega)), (((RBby.out.ext T9).grown hg12 (by have h0 := (Nat.lt_of_lt_of_le RBby.out.lt T0.size); have h1 := hg10; omega)).grown hg13 (by have h0 := (Nat.lt_of_lt_of_le RBby.out.lt T7.size); have h1 := hg11; omega))⟩, ?_⟩
                    simp only [Act.put, List.setIfInBounds_toArray, List.set_cons_zero, List.set_cons_succ]
                    refine wpAnyH_done (by kernel_rfl) ?_ _
                    go_step
                    go_step
                    go_meet
                    case rel => exact ⟨_, _, _, _, _, _, _, _, _, _, _, _, _, _, _, _, _, _, rfl, rfl, (Nat.le_trans T0.size hg10), (Nat.le_trans T7.size hg11), (by have h0 := (Nat.lt_of_lt_of_le HB10.out.lt (Nat.le_trans (Nat.le_trans hx2.size hx4.size) hx7.size)); have h1 := hg11; omega), (((RBx.out.ext T9).grown hg12 (by have h0 := (Nat.lt_of_lt_of_le RBx.out.lt T0.size); have h1 := hg10; omega)).grown hg13 (by have h0 := (Nat.lt_of_lt_of_le RBx.out.lt T7.size); have h1 := hg11; omega)), (((RBy.out.ext T9).grown hg12 (by have h0 := (Nat.lt_of_lt_of_le RBy.out.lt T0.size); have h1 := hg10; omega)).grown hg13 (by have h0 := (Nat.lt_of_lt_of_le RBy.out.lt T7.size); have h1 := hg11; omega)), (((RBby.out.ext T9).grown hg12 (by have h0 := (Nat.lt_of_lt_of_le RBby.out.lt T0.size); have h1 := hg10; omega)).grown hg13 (by have h0 := (Nat.lt_of_lt_of_le RBby.out.lt T7.size); have h1 := hg11; omega)), (((RBn.out.ext T9).grown hg12 (by have h0 := (Nat.lt_of_lt_of_le RBn.out.lt T0.size); have h1 := hg10; omega)).grown hg13 (by have h0 := (Nat.lt_of_lt_of_le RBn.out.lt T7.size); have h1 := hg11; omega)), (HB12.out.grown hg13 (by have h0 := (Nat.lt_of_lt_of_le HB10.out.lt (Nat.le_trans (Nat.le_trans hx2.size hx4.size) hx7.size)); have h1 := hg11; omega)), HB13.out, (((RFby.out.ext T9).gbk hq12 (by decide) hg12).gbk hq13 (by decide) hg13), (((RFn.out.ext T9).gbk hq12 (by decide) hg12).gbk hq13 (by decide) hg13), ((((o4.mono S2.size).ext ((hx7.trans hx11).trans hx9)).gbk hq12 (by decide) hg12).gbk hq13 (by decide) hg13), (((o9.mono S11.size).gbk hq12 (by decide) hg12).gbk hq13 (by decide) hg13), S13⟩
                  exact drawn_nil
                exact drawn_nil
              exact drawn_nil
            exact drawn_nil
          refine drawn_alloc 11 (some 12) (by kernel_rfl) alloc_rat (fun g11 v11 hb11 hx11 hg11 => ?_) ?_
          · have HB11 := hid (show Bk 27 v11 g11 #[.bool false, .slice none 0 0, .bool false, .slice none 0 0] from hb11)
            have S11 := S4.trans hx11
            have T11 := T4.trans hx11
            refine ⟨⟨S11, (RBn.out.ext T11), (RBby.out.ext T11)⟩, ?_⟩
            simp only [Act.put, List.setIfInBounds_toArray, List.set_cons_zero, List.set_cons_succ]
            refine wpAnyH_ready (rs := [7]) (by kernel_rfl) (by simp) ?_
            refine drawn_call1 7 (some 60) (.tmp 59) (ts := #[24]) (by kernel_rfl) (enters_of Try.func24 (by kernel_rfl) rfl) rfl (rwhole_v (RFn.out.ext T11).de.iz (by omega)) (fun E v7 hh => ?_) ?_
            · skip
              obtain ⟨b7q, A7q, n7q, c7q, e7q, B7q, m7q, d7q, rfl, o7, hx7⟩ := hh
              have S7 := S11.trans hx7
              have T7 := T11.trans hx7
              refine ⟨_, rfl, ⟨S7, (RBn.out.ext T7), (RBby.out.ext T7)⟩, ?_⟩
              simp only [Act.put, List.setIfInBounds_toArray, List.set_cons_zero, List.set_cons_succ]
              refine wpAnyH_ready (rs := [9]) (by kernel_rfl) (by simp) ?_
              refine drawn_call2 9 (some 62) (.tmp 60) (.tmp 61) (ts := #[27, 27]) (by kernel_rfl) (enters_of Try.func23 (by kernel_rfl) rfl) rfl rfl (qmul_v (o7.mono S11.size).rv (RFby.out.ext T7).rv (by omega)) (fun E v9 hh => ?_) ?_
              · skip
                obtain ⟨b9q, A9q, n9q, c9q, e9q, B9q, m9q, d9q, rfl, o9, hx9⟩ := hh
                have S9 := S7.trans hx9
                have T9 := T7.trans hx9
                refine ⟨_, rfl, ⟨S9, (RBn.out.ext T9), (RBby.out.ext T9)⟩, ?_⟩
                simp only [Act.put, List.setIfInBounds_toArray, List.set_cons_zero, List.set_cons_succ]
                refine wpAnyH_ready (rs := [12]) (by kernel_rfl) (by simp) ?_
                have hq12 := (HB10.out.ext ((((hx2.trans hx4).trans hx11).trans hx7).trans hx9))
                refine drawn_store 12 27 (.tmp 11) (.tmp 57) (g10) #[.bool b4q, .slice A4q n4q c4q, .bool e4q, .slice B4q m4q d4q] #[.bool false, .slice none 0 0, .bool false, .slice none 0 0] 27 (by kernel_rfl) rfl rfl hq12.h info_rat rfl one_four (fun v12 hb12 hg12 => ?_) ?_
                · have HB12 := hid (show Bk 27 v12 (g10) #[.bool b4q, .slice A4q n4q c4q, .bool e4q, .slice B4q m4q d4q] from hb12)
                  have S12 := S9.gb hg12 (by have h := S0.size; have h1 := hg10; omega)
                  refine ⟨⟨S12, ((RBn.out.ext T9).grown hg12 (by have h0 := (Nat.lt_of_lt_of_le RBn.out.lt T0.size); have h1 := hg10; omega)), ((RBby.out.ext T9).grown hg12 (by have h0 := (Nat.lt_of_lt_of_le RBby.out.lt T0.size); have h1 := hg10; omega))⟩, ?_⟩
                  simp only [Act.put, List.setIfInBounds_toArray, List.set_cons_zero, List.set_cons_succ]
                  refine wpAnyH_ready (rs := [13]) (by kernel_rfl) (by simp) ?_
                  have hq13 := ((HB11.out.ext (hx7.trans hx9)).grown hg12 (by have h0 := (Nat.lt_of_lt_of_le HB10.out.lt (Nat.le_trans hx2.size hx4.size)); have h1 := hg11; omega))
                  refine drawn_store 13 27 (.tmp 12) (.tmp 62) (g11) #[.bool b9q, .slice A9q n9q c9q, .bool e9q, .slice B9q m9q d9q] #[.bool false, .slice none 0 0, .bool false, .slice none 0 0] 27 (by kernel_rfl) rfl rfl hq13.h info_rat rfl one_four (fun v13 hb13 hg13 => ?_) ?_
                  · have HB13 := hid (show Bk 27 v13 (g11) #[.bool b9q, .slice A9q n9q c9q, .bool e9q, .slice B9q m9q d9q] from hb13)
                    have S13 := S12.gb hg13 (by have h := S4.size; have h1 := hg11; omega)
                    refine ⟨⟨S13, (((RBn.out.ext T9).grown hg12 (by have h0 := (Nat.lt_of_lt_of_le RBn.out.lt T0.size); have h1 := hg10; omega)).grown hg13 (by have h0 := (Nat.lt_of_lt_of_le RBn.out.lt T4.size); have h1 := hg11; omega)), (((RBby.out.ext T9).grown hg12 (by have h0 := (Nat.lt_of_lt_of_le RBby.out.lt T0.size); have h1 := hg10; omega)).grown hg13 (by have h0 := (Nat.lt_of_lt_of_le RBby.out.lt T4.size); have h1 := hg11; omega))⟩, ?_⟩
                    simp only [Act.put, List.setIfInBounds_toArray, List.set_cons_zero, List.set_cons_succ]
                    refine wpAnyH_done (by kernel_rfl) ?_ _
                    go_step
                    go_step
                    go_meet
                    case rel => exact ⟨_, _, _, _, _, _, _, _, _, _, _, _, _, _, _, _, _, _, rfl, rfl, (Nat.le_trans T0.size hg10), (Nat.le_trans T4.size hg11), (by have h0 := (Nat.lt_of_lt_of_le HB10.out.lt (Nat.le_trans hx2.size hx4.size)); have h1 := hg11; omega), (((RBx.out.ext T9).grown hg12 (by have h0 := (Nat.lt_of_lt_of_le RBx.out.lt T0.size); have h1 := hg10; omega)).grown hg13 (by have h0 := (Nat.lt_of_lt_of_le RBx.out.lt T4.size); have h1 := hg11; omega)), (((RBy.out.ext T9).grown hg12 (by have h0 := (Nat.lt_of_lt_of_le RBy.out.lt T0.size); have h1 := hg10; omega)).grown hg13 (by have h0 := (Nat.lt_of_lt_of_le RBy.out.lt T4.size); have h1 := hg11; omega)), (((RBby.out.ext T9).grown hg12 (by have h0 := (Nat.lt_of_lt_of_le RBby.out.lt T0.size); have h1 := hg10; omega)).grown hg13 (by have h0 := (Nat.lt_of_lt_of_le RBby.out.lt T4.size); have h1 := hg11; omega)), (((RBn.out.ext T9).grown hg12 (by have h0 := (Nat.lt_of_lt_of_le RBn.out.lt T0.size); have h1 := hg10; omega)).grown hg13 (by have h0 := (Nat.lt_of_lt_of_le RBn.out.lt T4.size); have h1 := hg11; omega)), (HB12.out.grown hg13 (by have h0 := (Nat.lt_of_lt_of_le HB10.out.lt (Nat.le_trans hx2.size hx4.size)); have h1 := hg11; omega)), HB13.out, (((RFby.out.ext T9).gbk hq12 (by decide) hg12).gbk hq13 (by decide) hg13), (((RFn.out.ext T9).gbk hq12 (by decide) hg12).gbk hq13 (by decide) hg13), ((((o4.mono S2.size).ext ((hx11.trans hx7).trans hx9)).gbk hq12 (by decide) hg12).gbk hq13 (by decide) hg13), (((o9.mono S7.size).gbk hq12 (by decide) hg12).gbk hq13 (by decide) hg13), S13⟩
                  exact drawn_nil
                exact drawn_nil
              exact drawn_nil
            exact drawn_nil
          exact drawn_nil
        refine drawn_alloc 11 (some 12) (by kernel_rfl) alloc_rat (fun g11 v11 hb11 hx11 hg11 => ?_) ?_
        · have HB11 := hid (show Bk 27 v11 g11 #[.bool false, .slice none 0 0, .bool false, .slice none 0 0] from hb11)
          have S11 := S2.trans hx11
          have T11 := T2.trans hx11
          refine ⟨⟨S11, (RBn.out.ext T11), (RBby.out.ext T11)⟩, ?_⟩
          simp only [Act.put, List.setIfInBounds_toArray, List.set_cons_zero, List.set_cons_succ]
          refine wpAnyH_ready (rs := [4]) (by kernel_rfl) (by simp) ?_
          refine drawn_call2 4 (some 57) (.tmp 55) (.tmp 56) (ts := #[27, 27]) (by kernel_rfl) (enters_of Try.func23 (by kernel_rfl) rfl) rfl rfl (qmul_v ((o2.mono S10.size).ext hx11).rv (RFby.out.ext T11).rv (by omega)) (fun E v4 hh => ?_) ?_
          · skip
            obtain ⟨b4q, A4q, n4q, c4q, e4q, B4q, m4q, d4q, rfl, o4, hx4⟩ := hh
            have S4 := S11.trans hx4
            have T4 := T11.trans hx4
            refine ⟨_, rfl, ⟨S4, (RBn.out.ext T4), (RBby.out.ext T4)⟩, ?_⟩
            simp only [Act.put, List.setIfInBounds_toArray, List.set_cons_zero, List.set_cons_succ]
            refine wpAnyH_ready (rs := [7]) (by kernel_rfl) (by simp) ?_
            refine drawn_call1 7 (some 60) (.tmp 59) (ts := #[24]) (by kernel_rfl) (enters_of Try.func24 (by kernel_rfl) rfl) rfl (rwhole_v (RFn.out.ext T4).de.iz (by omega)) (fun E v7 hh => ?_) ?_
            · skip
              obtain ⟨b7q, A7q, n7q, c7q, e7q, B7q, m7q, d7q, rfl, o7, hx7⟩ := hh
              have S7 := S4.trans hx7
              have T7 := T4.trans hx7
              refine ⟨_, rfl, ⟨S7, (RBn.out.ext T7), (RBby.out.ext T7)⟩, ?_⟩
              simp only [Act.put, List.setIfInBounds_toArray, List.set_cons_zero, List.set_cons_succ]
              refine wpAnyH_ready (rs := [9]) (by kernel_rfl) (by simp) ?_
              refine drawn_call2 9 (some 62) (.tmp 60) (.tmp 61) (ts := #[27, 27]) (by kernel_rfl) (enters_of Try.func23 (by kernel_rfl) rfl) rfl rfl (qmul_v (o7.mono S4.size).rv (RFby.out.ext T7).rv (by omega)) (fun E v9 hh => ?_) ?_
              · skip
                obtain ⟨b9q, A9q, n9q, c9q, e9q, B9q, m9q, d9q, rfl, o9, hx9⟩ := hh
                have S9 := S7.trans hx9
                have T9 := T7.trans hx9
                refine ⟨_, rfl, ⟨S9, (RBn.out.ext T9), (RBby.out.ext T9)⟩, ?_⟩
                simp only [Act.put, List.setIfInBounds_toArray, List.set_cons_zero, List.set_cons_succ]
                refine wpAnyH_ready (rs := [12]) (by kernel_rfl) (by simp) ?_
                have hq12 := (HB10.out.ext ((((hx2.trans hx11).trans hx4).trans hx7).trans hx9))
                refine drawn_store 12 27 (.tmp 11) (.tmp 57) (g10) #[.bool b4q, .slice A4q n4q c4q, .bool e4q, .slice B4q m4q d4q] #[.bool false, .slice none 0 0, .bool false, .slice none 0 0] 27 (by kernel_rfl) rfl rfl hq12.h info_rat rfl one_four (fun v12 hb12 hg12 => ?_) ?_
                · have HB12 := hid (show Bk 27 v12 (g10) #[.bool b4q, .slice A4q n4q c4q, .bool e4q, .slice B4q m4q d4q] from hb12)
                  have S12 := S9.gb hg12 (by have h := S0.size; have h1 := hg10; omega)
                  refine ⟨⟨S12, ((RBn.out.ext T9).grown hg12 (by have h0 := (Nat.lt_of_lt_of_le RBn.out.lt T0.size); have h1 := hg10; omega)), ((RBby.out.ext T9).grown hg12 (by have h0 := (Nat.lt_of_lt_of_le RBby.out.lt T0.size); have h1 := hg10; omega))⟩, ?_⟩
                  simp only [Act.put, List.setIfInBounds_toArray, List.set_cons_zero, List.set_cons_succ]
                  refine wpAnyH_ready (rs := [13]) (by kernel_rfl) (by simp) ?_
                  have hq13 := ((HB11.out.ext ((hx4.trans hx7).trans hx9)).grown hg12 (by have h0 := (Nat.lt_of_lt_of_le HB10.out.lt hx2.size); have h1 := hg11; omega))
                  refine drawn_store 13 27 (.tmp 12) (.tmp 62) (g11) #[.bool b9q, .slice A9q n9q c9q, .bool e9q, .slice B9q m9q d9q] #[.bool false, .slice none 0 0, .bool false, .slice none 0 0] 27 (by kernel_rfl) rfl rfl hq13.h info_rat rfl one_four (fun v13 hb13 hg13 => ?_) ?_
                  · have HB13 := hid (show Bk 27 v13 (g11) #[.bool b9q, .slice A9q n9q c9q, .bool e9q, .slice B9q m9q d9q] from hb13)
                    have S13 := S12.gb hg13 (by have h := S2.size; have h1 := hg11; omega)
                    refine ⟨⟨S13, (((RBn.out.ext T9).grown hg12 (by have h0 := (Nat.lt_of_lt_of_le RBn.out.lt T0.size); have h1 := hg10; omega)).grown hg13 (by have h0 := (Nat.lt_of_lt_of_le RBn.out.lt T2.size); have h1 := hg11; omega)), (((RBby.out.ext T9).grown hg12 (by have h0 := (Nat.lt_of_lt_of_le RBby.out.lt T0.size); have h1 := hg10; omega)).grown hg13 (by have h0 := (Nat.lt_of_lt_of_le RBby.out.lt T2.size); have h1 := hg11; omega))⟩, ?_⟩
                    simp only [Act.put, List.setIfInBounds_toArray, List.set_cons_zero, List.set_cons_succ]
                    refine wpAnyH_done (by kernel_rfl) ?_ _
                    go_step
                    go_step
                    go_meet
                    case rel => exact ⟨_, _, _, _, _, _, _, _, _, _, _, _, _, _, _, _, _, _, rfl, rfl, (Nat.le_trans T0.size hg10), (Nat.le_trans T2.size hg11), (by have h0 := (Nat.lt_of_lt_of_le HB10.out.lt hx2.size); have h1 := hg11; omega), (((RBx.out.ext T9).grown hg12 (by have h0 := (Nat.lt_of_lt_of_le RBx.out.lt T0.size); have h1 := hg10; omega)).grown hg13 (by have h0 := (Nat.lt_of_lt_of_le RBx.out.lt T2.size); have h1 := hg11; omega)), (((RBy.out.ext T9).grown hg12 (by have h0 := (Nat.lt_of_lt_of_le RBy.out.lt T0.size); have h1 := hg10; omega)).grown hg13 (by have h0 := (Nat.lt_of_lt_of_le RBy.out.lt T2.size); have h1 := hg11; omega)), (((RBby.out.ext T9).grown hg12 (by have h0 := (Nat.lt_of_lt_of_le RBby.out.lt T0.size); have h1 := hg10; omega)).grown hg13 (by have h0 := (Nat.lt_of_lt_of_le RBby.out.lt T2.size); have h1 := hg11; omega)), (((RBn.out.ext T9).grown hg12 (by have h0 := (Nat.lt_of_lt_of_le RBn.out.lt T0.size); have h1 := hg10; omega)).grown hg13 (by have h0 := (Nat.lt_of_lt_of_le RBn.out.lt T2.size); have h1 := hg11; omega)), (HB12.out.grown hg13 (by have h0 := (Nat.lt_of_lt_of_le HB10.out.lt hx2.size); have h1 := hg11; omega)), HB13.out, (((RFby.out.ext T9).gbk hq12 (by decide) hg12).gbk hq13 (by decide) hg13), (((RFn.out.ext T9).gbk hq12 (by decide) hg12).gbk hq13 (by decide) hg13), ((((o4.mono S11.size).ext (hx7.trans hx9)).gbk hq12 (by decide) hg12).gbk hq13 (by decide) hg13), (((o9.mono S7.size).gbk hq12 (by decide) hg12).gbk hq13 (by decide) hg13), S13⟩
                  exact drawn_nil
                exact drawn_nil
              exact drawn_nil
            exact drawn_nil
          exact drawn_nil
        exact drawn_nil
      refine drawn_alloc 11 (some 12) (by kernel_rfl) alloc_rat (fun g11 v11 hb11 hx11 hg11 => ?_) ?_
      · have HB11 := hid (show Bk 27 v11 g11 #[.bool false, .slice none 0 0, .bool false, .slice none 0 0] from hb11)
        have S11 := S10.trans hx11
        have T11 := T10.trans hx11
        refine ⟨⟨S11, (RBn.out.ext T11), (RBby.out.ext T11)⟩, ?_⟩
        simp only [Act.put, List.setIfInBounds_toArray, List.set_cons_zero, List.set_cons_succ]
        refine wpAnyH_ready (rs := [2]) (by kernel_rfl) (by simp) ?_
        refine drawn_call1 2 (some 55) (.tmp 54) (ts := #[24]) (by kernel_rfl) (enters_of Try.func24 (by kernel_rfl) rfl) rfl (rwhole_v (RFn.out.ext T11).nu.iz (by omega)) (fun E v2 hh => ?_) ?_
        · skip
          obtain ⟨b2q, A2q, n2q, c2q, e2q, B2q, m2q, d2q, rfl, o2, hx2⟩ := hh
          have S2 := S11.trans hx2
          have T2 := T11.trans hx2
          refine ⟨_, rfl, ⟨S2, (RBn.out.ext T2), (RBby.out.ext T2)⟩, ?_⟩
          simp only [Act.put, List.setIfInBounds_toArray, List.set_cons_zero, List.set_cons_succ]
          refine wpAnyH_ready (rs := [4]) (by kernel_rfl) (by simp) ?_
          refine drawn_call2 4 (some 57) (.tmp 55) (.tmp 56) (ts := #[27, 27]) (by kernel_rfl) (enters_of Try.func23 (by kernel_rfl) rfl) rfl rfl (qmul_v (o2.mono S11.size).rv (RFby.out.ext T2).rv (by omega)) (fun E v4 hh => ?_) ?_
          · skip
            obtain ⟨b4q, A4q, n4q, c4q, e4q, B4q, m4q, d4q, rfl, o4, hx4⟩ := hh
            have S4 := S2.trans hx4
            have T4 := T2.trans hx4
            refine ⟨_, rfl, ⟨S4, (RBn.out.ext T4), (RBby.out.ext T4)⟩, ?_⟩
            simp only [Act.put, List.setIfInBounds_toArray, List.set_cons_zero, List.set_cons_succ]
            refine wpAnyH_ready (rs := [7]) (by kernel_rfl) (by simp) ?_
            refine drawn_call1 7 (some 60) (.tmp 59) (ts := #[24]) (by kernel_rfl) (enters_of Try.func24 (by kernel_rfl) rfl) rfl (rwhole_v (RFn.out.ext T4).de.iz (by omega)) (fun E v7 hh => ?_) ?_
            · skip
              obtain ⟨b7q, A7q, n7q, c7q, e7q, B7q, m7q, d7q, rfl, o7, hx7⟩ := hh
              have S7 := S4.trans hx7
              have T7 := T4.trans hx7
              refine ⟨_, rfl, ⟨S7, (RBn.out.ext T7), (RBby.out.ext T7)⟩, ?_⟩
              simp only [Act.put, List.setIfInBounds_toArray, List.set_cons_zero, List.set_cons_succ]
              refine wpAnyH_ready (rs := [9]) (by kernel_rfl) (by simp) ?_
              refine drawn_call2 9 (some 62) (.tmp 60) (.tmp 61) (ts := #[27, 27]) (by kernel_rfl) (enters_of Try.func23 (by kernel_rfl) rfl) rfl rfl (qmul_v (o7.mono S4.size).rv (RFby.out.ext T7).rv (by omega)) (fun E v9 hh => ?_) ?_
              · skip
                obtain ⟨b9q, A9q, n9q, c9q, e9q, B9q, m9q, d9q, rfl, o9, hx9⟩ := hh
                have S9 := S7.trans hx9
                have T9 := T7.trans hx9
                refine ⟨_, rfl, ⟨S9, (RBn.out.ext T9), (RBby.out.ext T9)⟩, ?_⟩
                simp only [Act.put, List.setIfInBounds_toArray, List.set_cons_zero, List.set_cons_succ]
                refine wpAnyH_ready (rs := [12]) (by kernel_rfl) (by simp) ?_
                have hq12 := (HB10.out.ext ((((hx11.trans hx2).trans hx4).trans hx7).trans hx9))
                refine drawn_store 12 27 (.tmp 11) (.tmp 57) (g10) #[.bool b4q, .slice A4q n4q c4q, .bool e4q, .slice B4q m4q d4q] #[.bool false, .slice none 0 0, .bool false, .slice none 0 0] 27 (by kernel_rfl) rfl rfl hq12.h info_rat rfl one_four (fun v12 hb12 hg12 => ?_) ?_
                · have HB12 := hid (show Bk 27 v12 (g10) #[.bool b4q, .slice A4q n4q c4q, .bool e4q, .slice B4q m4q d4q] from hb12)
                  have S12 := S9.gb hg12 (by have h := S0.size; have h1 := hg10; omega)
                  refine ⟨⟨S12, ((RBn.out.ext T9).grown hg12 (by have h0 := (Nat.lt_of_lt_of_le RBn.out.lt T0.size); have h1 := hg10; omega)), ((RBby.out.ext T9).grown hg12 (by have h0 := (Nat.lt_of_lt_of_le RBby.out.lt T0.size); have h1 := hg10; omega))⟩, ?_⟩
                  simp only [Act.put, List.setIfInBounds_toArray, List.set_cons_zero, List.set_cons_succ]
                  refine wpAnyH_ready (rs := [13]) (by kernel_rfl) (by simp) ?_
                  have hq13 := ((HB11.out.ext (((hx2.trans hx4).trans hx7).trans hx9)).grown hg12 (by have h0 := HB10.out.lt; have h1 := hg11; omega))
                  refine drawn_store 13 27 (.tmp 12) (.tmp 62) (g11) #[.bool b9q, .slice A9q n9q c9q, .bool e9q, .slice B9q m9q d9q] #[.bool false, .slice none 0 0, .bool false, .slice none 0 0] 27 (by kernel_rfl) rfl rfl hq13.h info_rat rfl one_four (fun v13 hb13 hg13 => ?_) ?_
                  · have HB13 := hid (show Bk 27 v13 (g11) #[.bool b9q, .slice A9q n9q c9q, .bool e9q, .slice B9q m9q d9q] from hb13)
                    have S13 := S12.gb hg13 (by have h := S10.size; have h1 := hg11; omega)
                    refine ⟨⟨S13, (((RBn.out.ext T9).grown hg12 (by have h0 := (Nat.lt_of_lt_of_le RBn.out.lt T0.size); have h1 := hg10; omega)).grown hg13 (by have h0 := (Nat.lt_of_lt_of_le RBn.out.lt T10.size); have h1 := hg11; omega)), (((RBby.out.ext T9).grown hg12 (by have h0 := (Nat.lt_of_lt_of_le RBby.out.lt T0.size); have h1 := hg10; omega)).grown hg13 (by have h0 := (Nat.lt_of_lt_of_le RBby.out.lt T10.size); have h1 := hg11; omega))⟩, ?_⟩
                    simp only [Act.put, List.setIfInBounds_toArray, List.set_cons_zero, List.set_cons_succ]
                    refine wpAnyH_done (by kernel_rfl) ?_ _
                    go_step
                    go_step
                    go_meet
                    case rel => exact ⟨_, _, _, _, _, _, _, _, _, _, _, _, _, _, _, _, _, _, rfl, rfl, (Nat.le_trans T0.size hg10), (Nat.le_trans T10.size hg11), (by have h0 := HB10.out.lt; have h1 := hg11; omega), (((RBx.out.ext T9).grown hg12 (by have h0 := (Nat.lt_of_lt_of_le RBx.out.lt T0.size); have h1 := hg10; omega)).grown hg13 (by have h0 := (Nat.lt_of_lt_of_le RBx.out.lt T10.size); have h1 := hg11; omega)), (((RBy.out.ext T9).grown hg12 (by have h0 := (Nat.lt_of_lt_of_le RBy.out.lt T0.size); have h1 := hg10; omega)).grown hg13 (by have h0 := (Nat.lt_of_lt_of_le RBy.out.lt T10.size); have h1 := hg11; omega)), (((RBby.out.ext T9).grown hg12 (by have h0 := (Nat.lt_of_lt_of_le RBby.out.lt T0.size); have h1 := hg10; omega)).grown hg13 (by have h0 := (Nat.lt_of_lt_of_le RBby.out.lt T10.size); have h1 := hg11; omega)), (((RBn.out.ext T9).grown hg12 (by have h0 := (Nat.lt_of_lt_of_le RBn.out.lt T0.size); have h1 := hg10; omega)).grown hg13 (by have h0 := (Nat.lt_of_lt_of_le RBn.out.lt T10.size); have h1 := hg11; omega)), (HB12.out.grown hg13 (by have h0 := HB10.out.lt; have h1 := hg11; omega)), HB13.out, (((RFby.out.ext T9).gbk hq12 (by decide) hg12).gbk hq13 (by decide) hg13), (((RFn.out.ext T9).gbk hq12 (by decide) hg12).gbk hq13 (by decide) hg13), ((((o4.mono S2.size).ext (hx7.trans hx9)).gbk hq12 (by decide) hg12).gbk hq13 (by decide) hg13), (((o9.mono S7.size).gbk hq12 (by decide) hg12).gbk hq13 (by decide) hg13), S13⟩
                  exact drawn_nil
                exact drawn_nil
              exact drawn_nil
            exact drawn_nil
          exact drawn_nil
        exact drawn_nil
      exact drawn_nil
    refine drawn_alloc 11 (some 12) (by kernel_rfl) alloc_rat (fun g11 v11 hb11 hx11 hg11 => ?_) ?_
    · have HB11 := hid (show Bk 27 v11 g11 #[.bool false, .slice none 0 0, .bool false, .slice none 0 0] from hb11)
      have S11 := S0.trans hx11
      have T11 := T0.trans hx11
      refine ⟨⟨S11, (RBn.out.ext T11), (RBby.out.ext T11)⟩, ?_⟩
      simp only [Act.put, List.setIfInBounds_toArray, List.set_cons_zero, List.set_cons_succ]
      refine wpAnyH_ready (rs := [2, 10]) (by kernel_rfl) (by simp) ?_
      refine drawn_call1 2 (some 55) (.tmp 54) (ts := #[24]) (by kernel_rfl) (enters_of Try.func24 (by kernel_rfl) rfl) rfl (rwhole_v (RFn.out.ext T11).nu.iz (by omega)) (fun E v2 hh => ?_) ?_
      · skip
        obtain ⟨b2q, A2q, n2q, c2q, e2q, B2q, m2q, d2q, rfl, o2, hx2⟩ := hh
        have S2 := S11.trans hx2
        have T2 := T11.trans hx2
        refine ⟨_, rfl, ⟨S2, (RBn.out.ext T2), (RBby.out.ext T2)⟩, ?_⟩
        simp only [Act.put, List.setIfInBounds_toArray, List.set_cons_zero, List.set_cons_succ]
        refine wpAnyH_ready (rs := [4, 10]) (by kernel_rfl) (by simp) ?_
        refine drawn_call2 4 (some 57) (.tmp 55) (.tmp 56) (ts := #[27, 27]) (by kernel_rfl) (enters_of Try.func23 (by kernel_rfl) rfl) rfl rfl (qmul_v (o2.mono S11.size).rv (RFby.out.ext T2).rv (by omega)) (fun E v4 hh => ?_) ?_
        · skip
          obtain ⟨b4q, A4q, n4q, c4q, e4q, B4q, m4q, d4q, rfl, o4, hx4⟩ := hh
          have S4 := S2.trans hx4
          have T4 := T2.trans hx4
          refine ⟨_, rfl, ⟨S4, (RBn.out.ext T4), (RBby.out.ext T4)⟩, ?_⟩
          simp only [Act.put, List.setIfInBounds_toArray, List.set_cons_zero, List.set_cons_succ]
          refine wpAnyH_ready (rs := [7, 10]) (by kernel_rfl) (by simp) ?_
          refine drawn_call1 7 (some 60) (.tmp 59) (ts := #[24]) (by kernel_rfl) (enters_of Try.func24 (by kernel_rfl) rfl) rfl (rwhole_v (RFn.out.ext T4).de.iz (by omega)) (fun E v7 hh => ?_) ?_
          · skip
            obtain ⟨b7q, A7q, n7q, c7q, e7q, B7q, m7q, d7q, rfl, o7, hx7⟩ := hh
            have S7 := S4.trans hx7
            have T7 := T4.trans hx7
            refine ⟨_, rfl, ⟨S7, (RBn.out.ext T7), (RBby.out.ext T7)⟩, ?_⟩
            simp only [Act.put, List.setIfInBounds_toArray, List.set_cons_zero, List.set_cons_succ]
            refine wpAnyH_ready (rs := [9, 10]) (by kernel_rfl) (by simp) ?_
            refine drawn_call2 9 (some 62) (.tmp 60) (.tmp 61) (ts := #[27, 27]) (by kernel_rfl) (enters_of Try.func23 (by kernel_rfl) rfl) rfl rfl (qmul_v (o7.mono S4.size).rv (RFby.out.ext T7).rv (by omega)) (fun E v9 hh => ?_) ?_
            · skip
              obtain ⟨b9q, A9q, n9q, c9q, e9q, B9q, m9q, d9q, rfl, o9, hx9⟩ := hh
              have S9 := S7.trans hx9
              have T9 := T7.trans hx9
              refine ⟨_, rfl, ⟨S9, (RBn.out.ext T9), (RBby.out.ext T9)⟩, ?_⟩
              simp only [Act.put, List.setIfInBounds_toArray, List.set_cons_zero, List.set_cons_succ]
              refine wpAnyH_ready (rs := [10]) (by kernel_rfl) (by simp) ?_
              refine drawn_alloc 10 (some 11) (by kernel_rfl) alloc_rat (fun g10 v10 hb10 hx10 hg10 => ?_) ?_
              · have HB10 := hid (show Bk 27 v10 g10 #[.bool false, .slice none 0 0, .bool false, .slice none 0 0] from hb10)
                have S10 := S9.trans hx10
                have T10 := T9.trans hx10
                refine ⟨⟨S10, (RBn.out.ext T10), (RBby.out.ext T10)⟩, ?_⟩
                simp only [Act.put, List.setIfInBounds_toArray, List.set_cons_zero, List.set_cons_succ]
                refine wpAnyH_ready (rs := [12]) (by kernel_rfl) (by simp) ?_
                have hq12 := HB10.out
                refine drawn_store 12 27 (.tmp 11) (.tmp 57) (g10) #[.bool b4q, .slice A4q n4q c4q, .bool e4q, .slice B4q m4q d4q] #[.bool false, .slice none 0 0, .bool false, .slice none 0 0] 27 (by kernel_rfl) rfl rfl hq12.h info_rat rfl one_four (fun v12 hb12 hg12 => ?_) ?_
                · have HB12 := hid (show Bk 27 v12 (g10) #[.bool b4q, .slice A4q n4q c4q, .bool e4q, .slice B4q m4q d4q] from hb12)
                  have S12 := S10.gb hg12 (by have h := S9.size; have h1 := hg10; omega)
                  refine ⟨⟨S12, ((RBn.out.ext T10).grown hg12 (by have h0 := (Nat.lt_of_lt_of_le RBn.out.lt T9.size); have h1 := hg10; omega)), ((RBby.out.ext T10).grown hg12 (by have h0 := (Nat.lt_of_lt_of_le RBby.out.lt T9.size); have h1 := hg10; omega))⟩, ?_⟩
                  simp only [Act.put, List.setIfInBounds_toArray, List.set_cons_zero, List.set_cons_succ]
                  refine wpAnyH_ready (rs := [13]) (by kernel_rfl) (by simp) ?_
                  have hq13 := ((HB11.out.ext ((((hx2.trans hx4).trans hx7).trans hx9).trans hx10)).grown hg12 (by have h0 := (Nat.lt_of_lt_of_le HB11.out.lt (Nat.le_trans (Nat.le_trans (Nat.le_trans hx2.size hx4.size) hx7.size) hx9.size)); have h1 := hg10; omega))
                  refine drawn_store 13 27 (.tmp 12) (.tmp 62) (g11) #[.bool b9q, .slice A9q n9q c9q, .bool e9q, .slice B9q m9q d9q] #[.bool false, .slice none 0 0, .bool false, .slice none 0 0] 27 (by kernel_rfl) rfl rfl hq13.h info_rat rfl one_four (fun v13 hb13 hg13 => ?_) ?_
                  · have HB13 := hid (show Bk 27 v13 (g11) #[.bool b9q, .slice A9q n9q c9q, .bool e9q, .slice B9q m9q d9q] from hb13)
                    have S13 := S12.gb hg13 (by have h := S0.size; have h1 := hg11; omega)
                    refine ⟨⟨S13, (((RBn.out.ext T10).grown hg12 (by have h0 := (Nat.lt_of_lt_of_le RBn.out.lt T9.size); have h1 := hg10; omega)).grown hg13 (by have h0 := (Nat.lt_of_lt_of_le RBn.out.lt T0.size); have h1 := hg11; omega)), (((RBby.out.ext T10).grown hg12 (by have h0 := (Nat.lt_of_lt_of_le RBby.out.lt T9.size); have h1 := hg10; omega)).grown hg13 (by have h0 := (Nat.lt_of_lt_of_le RBby.out.lt T0.size); have h1 := hg11; omega))⟩, ?_⟩
                    simp only [Act.put, List.setIfInBounds_toArray, List.set_cons_zero, List.set_cons_succ]
                    refine wpAnyH_done (by kernel_rfl) ?_ _
                    go_step
                    go_step
                    go_meet
                    case rel => exact ⟨_, _, _, _, _, _, _, _, _, _, _, _, _, _, _, _, _, _, rfl, rfl, (Nat.le_trans T9.size hg10), (Nat.le_trans T0.size hg11), (by have h0 := (Nat.lt_of_lt_of_le HB11.out.lt (Nat.le_trans (Nat.le_trans (Nat.le_trans hx2.size hx4.size) hx7.size) hx9.size)); have h1 := hg10; omega), (((RBx.out.ext T10).grown hg12 (by have h0 := (Nat.lt_of_lt_of_le RBx.out.lt T9.size); have h1 := hg10; omega)).grown hg13 (by have h0 := (Nat.lt_of_lt_of_le RBx.out.lt T0.size); have h1 := hg11; omega)), (((RBy.out.ext T10).grown hg12 (by have h0 := (Nat.lt_of_lt_of_le RBy.out.lt T9.size); have h1 := hg10; omega)).grown hg13 (by have h0 := (Nat.lt_of_lt_of_le RBy.out.lt T0.size); have h1 := hg11; omega)), (((RBby.out.ext T10).grown hg12 (by have h0 := (Nat.lt_of_lt_of_le RBby.out.lt T9.size); have h1 := hg10; omega)).grown hg13 (by have h0 := (Nat.lt_of_lt_of_le RBby.out.lt T0.size); have h1 := hg11; omega)), (((RBn.out.ext T10).grown hg12 (by have h0 := (Nat.lt_of_lt_of_le RBn.out.lt T9.size); have h1 := hg10; omega)).grown hg13 (by have h0 := (Nat.lt_of_lt_of_le RBn.out.lt T0.size); have h1 := hg11; omega)), (HB12.out.grown hg13 (by have h0 := (Nat.lt_of_lt_of_le HB11.out.lt (Nat.le_trans (Nat.le_trans (Nat.le_trans hx2.size hx4.size) hx7.size) hx9.size)); have h1 := hg10; omega)), HB13.out, (((RFby.out.ext T10).gbk hq12 (by decide) hg12).gbk hq13 (by decide) hg13), (((RFn.out.ext T10).gbk hq12 (by decide) hg12).gbk hq13 (by decide) hg13), ((((o4.mono S2.size).ext ((hx7.trans hx9).trans hx10)).gbk hq12 (by decide) hg12).gbk hq13 (by decide) hg13), ((((o9.mono S7.size).ext hx10).gbk hq12 (by decide) hg12).gbk hq13 (by decide) hg13), S13⟩
                  exact drawn_nil
                exact drawn_nil
              exact drawn_nil
            refine drawn_alloc 10 (some 11) (by kernel_rfl) alloc_rat (fun g10 v10 hb10 hx10 hg10 => ?_) ?_
            · have HB10 := hid (show Bk 27 v10 g10 #[.bool false, .slice none 0 0, .bool false, .slice none 0 0] from hb10)
              have S10 := S7.trans hx10
              have T10 := T7.trans hx10
              refine ⟨⟨S10, (RBn.out.ext T10), (RBby.out.ext T10)⟩, ?_⟩
              simp only [Act.put, List.setIfInBounds_toArray, List.set_cons_zero, List.set_cons_succ]
              refine wpAnyH_ready (rs := [9]) (by kernel_rfl) (by simp) ?_
              refine drawn_call2 9 (some 62) (.tmp 60) (.tmp 61) (ts := #[27, 27]) (by kernel_rfl) (enters_of Try.func23 (by kernel_rfl) rfl) rfl rfl (qmul_v ((o7.mono S4.size).ext hx10).rv (RFby.out.ext T10).rv (by omega)) (fun E v9 hh => ?_) ?_
              · skip
                obtain ⟨b9q, A9q, n9q, c9q, e9q, B9q, m9q, d9q, rfl, o9, hx9⟩ := hh
                have S9 := S10.trans hx9
                have T9 := T10.trans hx9
                refine ⟨_, rfl, ⟨S9, (RBn.out.ext T9), (RBby.out.ext T9)⟩, ?_⟩
                simp only [Act.put, List.setIfInBounds_toArray, List.set_cons_zero, List.set_cons_succ]
                refine wpAnyH_ready (rs := [12]) (by kernel_rfl) (by simp) ?_
                have hq12 := (HB10.out.ext hx9)
                refine drawn_store 12 27 (.tmp 11) (.tmp 57) (g10) #[.bool b4q, .slice A4q n4q c4q, .bool e4q, .slice B4q m4q d4q] #[.bool false, .slice none 0 0, .bool false, .slice none 0 0] 27 (by kernel_rfl) rfl rfl hq12.h info_rat rfl one_four (fun v12 hb12 hg12 => ?_) ?_
                · have HB12 := hid (show Bk 27 v12 (g10) #[.bool b4q, .slice A4q n4q c4q, .bool e4q, .slice B4q m4q d4q] from hb12)
                  have S12 := S9.gb hg12 (by have h := S7.size; have h1 := hg10; omega)
                  refine ⟨⟨S12, ((RBn.out.ext T9).grown hg12 (by have h0 := (Nat.lt_of_lt_of_le RBn.out.lt T7.size); have h1 := hg10; omega)), ((RBby.out.ext T9).grown hg12 (by have h0 := (Nat.lt_of_lt_of_le RBby.out.lt T7.size); have h1 := hg10; omega))⟩, ?_⟩
                  simp only [Act.put, List.setIfInBounds_toArray, List.set_cons_zero, List.set_cons_succ]
                  refine wpAnyH_ready (rs := [13]) (by kernel_rfl) (by simp) ?_
                  have hq13 := ((HB11.out.ext ((((hx2.trans hx4).trans hx7).trans hx10).trans hx9)).grown hg12 (by have h0 := (Nat.lt_of_lt_of_le HB11.out.lt (Nat.le_trans (Nat.le_trans hx2.size hx4.size) hx7.size)); have h1 := hg10; omega))
                  refine drawn_store 13 27 (.tmp 12) (.tmp 62) (g11) #[.bool b9q, .slice A9q n9q c9q, .bool e9q, .slice B9q m9q d9q] #[.bool false, .slice none 0 0, .bool false, .slice none 0 0] 27 (by kernel_rfl) rfl rfl hq13.h info_rat rfl one_four (fun v13 hb13 hg13 => ?_) ?_
                  · have HB13 := hid (show Bk 27 v13 (g11) #[.bool b9q, .slice A9q n9q c9q, .bool e9q, .slice B9q m9q d9q] from hb13)
                    have S13 := S12.gb hg13 (by have h := S0.size; have h1 := hg11; omega)
                    refine ⟨⟨S13, (((RBn.out.ext T9).grown hg12 (by have h0 := (Nat.lt_of_lt_of_le RBn.out.lt T7.size); have h1 := hg10; omega)).grown hg13 (by have h0 := (Nat.lt_of_lt_of_le RBn.out.lt T0.size); have h1 := hg11; omega)), (((RBby.out.ext T9).grown hg12 (by have h0 := (Nat.lt_of_lt_of_le RBby.out.lt T7.size); have h1 := hg10; omega)).grown hg13 (by have h0 := (Nat.lt_of_lt_of_le RBby.out.lt T0.size); have h1 := hg11; omega))⟩, ?_⟩
                    simp only [Act.put, List.setIfInBounds_toArray, List.set_cons_zero, List.set_cons_succ]
                    refine wpAnyH_done (by kernel_rfl) ?_ _
                    go_step
                    go_step
                    go_meet
                    case rel => exact ⟨_, _, _, _, _, _, _, _, _, _, _, _, _, _, _, _, _, _, rfl, rfl, (Nat.le_trans T7.size hg10), (Nat.le_trans T0.size hg11), (by have h0 := (Nat.lt_of_lt_of_le HB11.out.lt (Nat.le_trans (Nat.le_trans hx2.size hx4.size) hx7.size)); have h1 := hg10; omega), (((RBx.out.ext T9).grown hg12 (by have h0 := (Nat.lt_of_lt_of_le RBx.out.lt T7.size); have h1 := hg10; omega)).grown hg13 (by have h0 := (Nat.lt_of_lt_of_le RBx.out.lt T0.size); have h1 := hg11; omega)), (((RBy.out.ext T9).grown hg12 (by have h0 := (Nat.lt_of_lt_of_le RBy.out.lt T7.size); have h1 := hg10; omega)).grown hg13 (by have h0 := (Nat.lt_of_lt_of_le RBy.out.lt T0.size); have h1 := hg11; omega)), (((RBby.out.ext T9).grown hg12 (by have h0 := (Nat.lt_of_lt_of_le RBby.out.lt T7.size); have h1 := hg10; omega)).grown hg13 (by have h0 := (Nat.lt_of_lt_of_le RBby.out.lt T0.size); have h1 := hg11; omega)), (((RBn.out.ext T9).grown hg12 (by have h0 := (Nat.lt_of_lt_of_le RBn.out.lt T7.size); have h1 := hg10; omega)).grown hg13 (by have h0 := (Nat.lt_of_lt_of_le RBn.out.lt T0.size); have h1 := hg11; omega)), (HB12.out.grown hg13 (by have h0 := (Nat.lt_of_lt_of_le HB11.out.lt (Nat.le_trans (Nat.le_trans hx2.size hx4.size) hx7.size)); have h1 := hg10; omega)), HB13.out, (((RFby.out.ext T9).gbk hq12 (by decide) hg12).gbk hq13 (by decide) hg13), (((RFn.out.ext T9).gbk hq12 (by decide) hg12).gbk hq13 (by decide) hg13), ((((o4.mono S2.size).ext ((hx7.trans hx10).trans hx9)).gbk hq12 (by decide) hg12).gbk hq13 (by decide) hg13), (((o9.mono S10.size).gbk hq12 (by decide) hg12).gbk hq13 (by decide) hg13), S13⟩
                  exact drawn_nil
                exact drawn_nil
              exact drawn_nil
            exact drawn_nil
          refine drawn_alloc 10 (some 11) (by kernel_rfl) alloc_rat (fun g10 v10 hb10 hx10 hg10 => ?_) ?_
          · have HB10 := hid (show Bk 27 v10 g10 #[.bool false, .slice none 0 0, .bool false, .slice none 0 0] from hb10)
            have S10 := S4.trans hx10
            have T10 := T4.trans hx10
            refine ⟨⟨S10, (RBn.out.ext T10), (RBby.out.ext T10)⟩, ?_⟩
            simp only [Act.put, List.setIfInBounds_toArray, List.set_cons_zero, List.set_cons_succ]
            refine wpAnyH_ready (rs := [7]) (by kernel_rfl) (by simp) ?_
            refine drawn_call1 7 (some 60) (.tmp 59) (ts := #[24]) (by kernel_rfl) (enters_of Try.func24 (by kernel_rfl) rfl) rfl (rwhole_v (RFn.out.ext T10).de.iz (by omega)) (fun E v7 hh => ?_) ?_
            · skip
              obtain ⟨b7q, A7q, n7q, c7q, e7q, B7q, m7q, d7q, rfl, o7, hx7⟩ := hh
              have S7 := S10.trans hx7
              have T7 := T10.trans hx7
              refine ⟨_, rfl, ⟨S7, (RBn.out.ext T7), (RBby.out.ext T7)⟩, ?_⟩
              simp only [Act.put, List.setIfInBounds_toArray, List.set_cons_zero, List.set_cons_succ]
              refine wpAnyH_ready (rs := [9]) (by kernel_rfl) (by simp) ?_
              refine drawn_call2 9 (some 62) (.tmp 60) (.tmp 61) (ts := #[27, 27]) (by kernel_rfl) (enters_of Try.func23 (by kernel_rfl) rfl) rfl rfl (qmul_v (o7.mono S10.size).rv (RFby.out.ext T7).rv (by omega)) (fun E v9 hh => ?_) ?_
              · skip
                obtain ⟨b9q, A9q, n9q, c9q, e9q, B9q, m9q, d9q, rfl, o9, hx9⟩ := hh
                have S9 := S7.trans hx9
                have T9 := T7.trans hx9
                refine ⟨_, rfl, ⟨S9, (RBn.out.ext T9), (RBby.out.ext T9)⟩, ?_⟩
                simp only [Act.put, List.setIfInBounds_toArray, List.set_cons_zero, List.set_cons_succ]
                refine wpAnyH_ready (rs := [12]) (by kernel_rfl) (by simp) ?_
                have hq12 := (HB10.out.ext (hx7.trans hx9))
                refine drawn_store 12 27 (.tmp 11) (.tmp 57) (g10) #[.bool b4q, .slice A4q n4q c4q, .bool e4q, .slice B4q m4q d4q] #[.bool false, .slice none 0 0, .bool false, .slice none 0 0] 27 (by kernel_rfl) rfl rfl hq12.h info_rat rfl one_four (fun v12 hb12 hg12 => ?_) ?_
                · have HB12 := hid (show Bk 27 v12 (g10) #[.bool b4q, .slice A4q n4q c4q, .bool e4q, .slice B4q m4q d4q] from hb12)
                  have S12 := S9.gb hg12 (by have h := S4.size; have h1 := hg10; omega)
                  refine ⟨⟨S12, ((RBn.out.ext T9).grown hg12 (by have h0 := (Nat.lt_of_lt_of_le RBn.out.lt T4.size); have h1 := hg10; omega)), ((RBby.out.ext T9).grown hg12 (by have h0 := (Nat.lt_of_lt_of_le RBby.out.lt T4.size); have h1 := hg10; omega))⟩, ?_⟩
                  simp only [Act.put, List.setIfInBounds_toArray, List.set_cons_zero, List.set_cons_succ]
                  refine wpAnyH_ready (rs := [13]) (by kernel_rfl) (by simp) ?_
                  have hq13 := ((HB11.out.ext ((((hx2.trans hx4).trans hx10).trans hx7).trans hx9)).grown hg12 (by have h0 := (Nat.lt_of_lt_of_le HB11.out.lt (Nat.le_trans hx2.size hx4.size)); have h1 := hg10; omega))
                  refine drawn_store 13 27 (.tmp 12) (.tmp 62) (g11) #[.bool b9q, .slice A9q n9q c9q, .bool e9q, .slice B9q m9q d9q] #[.bool false, .slice none 0 0, .bool false, .slice none 0 0] 27 (by kernel_rfl) rfl rfl hq13.h info_rat rfl one_four (fun v13 hb13 hg13 => ?_) ?_
                  · have HB13 := hid (show Bk 27 v13 (g11) #[.bool b9q, .slice A9q n9q c9q, .bool e9q, .slice B9q m9q d9q] from hb13)
                    have S13 := S12.gb hg13 (by have h := S0.size; have h1 := hg11; omega)
                    refine ⟨⟨S13, (((RBn.out.ext T9).grown hg12 (by have h0 := (Nat.lt_of_lt_of_le RBn.out.lt T4.size); have h1 := hg10; omega)).grown hg13 (by have h0 := (Nat.lt_of_lt_of_le RBn.out.lt T0.size); have h1 := hg11; omega)), (((RBby.out.ext T9).grown hg12 (by have h0 := (Nat.lt_of_lt_of_le RBby.out.lt T4.size); have h1 := hg10; omega)).grown hg13 (by have h0 := (Nat.lt_of_lt_of_le RBby.out.lt T0.size); have h1 := hg11; omega))⟩, ?_⟩
                    simp only [Act.put, List.setIfInBounds_toArray, List.set_cons_zero, List.set_cons_succ]
                    refine wpAnyH_done (by kernel_rfl) ?_ _
                    go_step
                    go_step
                    go_meet
                    case rel => exact ⟨_, _, _, _, _, _, _, _, _, _, _, _, _, _, _, _, _, _, rfl, rfl, (Nat.le_trans T4.size hg10), (Nat.le_trans T0.size hg11), (by have h0 := (Nat.lt_of_lt_of_le HB11.out.lt (Nat.le_trans hx2.size hx4.size)); have h1 := hg10; omega), (((RBx.out.ext T9).grown hg12 (by have h0 := (Nat.lt_of_lt_of_le RBx.out.lt T4.size); have h1 := hg10; omega)).grown hg13 (by have h0 := (Nat.lt_of_lt_of_le RBx.out.lt T0.size); have h1 := hg11; omega)), (((RBy.out.ext T9).grown hg12 (by have h0 := (Nat.lt_of_lt_of_le RBy.out.lt T4.size); have h1 := hg10; omega)).grown hg13 (by have h0 := (Nat.lt_of_lt_of_le RBy.out.lt T0.size); have h1 := hg11; omega)), (((RBby.out.ext T9).grown hg12 (by have h0 := (Nat.lt_of_lt_of_le RBby.out.lt T4.size); have h1 := hg10; omega)).grown hg13 (by have h0 := (Nat.lt_of_lt_of_le RBby.out.lt T0.size); have h1 := hg11; omega)), (((RBn.out.ext T9).grown hg12 (by have h0 := (Nat.lt_of_lt_of_le RBn.out.lt T4.size); have h1 := hg10; omega)).grown hg13 (by have h0 := (Nat.lt_of_lt_of_le RBn.out.lt T0.size); have h1 := hg11; omega)), (HB12.out.grown hg13 (by have h0 := (Nat.lt_of_lt_of_le HB11.out.lt (Nat.le_trans hx2.size hx4.size)); have h1 := hg10; omega)), HB13.out, (((RFby.out.ext T9).gbk hq12 (by decide) hg12).gbk hq13 (by decide) hg13), (((RFn.out.ext T9).gbk hq12 (by decide) hg12).gbk hq13 (by decide) hg13), ((((o4.mono S2.size).ext ((hx10.trans hx7).trans hx9)).gbk hq12 (by decide) hg12).gbk hq13 (by decide) hg13), (((o9.mono S7.size).gbk hq12 (by decide) hg12).gbk hq13 (by decide) hg13), S13⟩
                  exact drawn_nil
                exact drawn_nil
              exact drawn_nil
            exact drawn_nil
          exact drawn_nil
        refine drawn_alloc 10 (some 11) (by kernel_rfl) alloc_rat (fun g10 v10 hb10 hx10 hg10 => ?_) ?_
        · have HB10 := hid (show Bk 27 v10 g10 #[.bool false, .slice none 0 0, .bool false, .slice none 0 0] from hb10)
          have S10 := S2.trans hx10
          have T10 := T2.trans hx10
          refine ⟨⟨S10, (RBn.out.ext T10), (RBby.out.ext T10)⟩, ?_⟩
          simp only [Act.put, List.setIfInBounds_toArray, List.set_cons_zero, List.set_cons_succ]
          refine wpAnyH_ready (rs := [4]) (by kernel_rfl) (by simp) ?_
          refine drawn_call2 4 (some 57) (.tmp 55) (.tmp 56) (ts := #[27, 27]) (by kernel_rfl) (enters_of Try.func23 (by kernel_rfl) rfl) rfl rfl (qmul_v ((o2.mono S11.size).ext hx10).rv (RFby.out.ext T10).rv (by omega)) (fun E v4 hh => ?_) ?_
          · skip
            obtain ⟨b4q, A4q, n4q, c4q, e4q, B4q, m4q, d4q, rfl, o4, hx4⟩ := hh
            have S4 := S10.trans hx4
            have T4 := T10.trans hx4
            refine ⟨_, rfl, ⟨S4, (RBn.out.ext T4), (RBby.out.ext T4)⟩, ?_⟩
            simp only [Act.put, List.setIfInBounds_toArray, List.set_cons_zero, List.set_cons_succ]
            refine wpAnyH_ready (rs := [7]) (by kernel_rfl) (by simp) ?_
            refine drawn_call1 7 (some 60) (.tmp 59) (ts := #[24]) (by kernel_rfl) (enters_of Try.func24 (by kernel_rfl) rfl) rfl (rwhole_v (RFn.out.ext T4).de.iz (by omega)) (fun E v7 hh => ?_) ?_
            · skip
              obtain ⟨b7q, A7q, n7q, c7q, e7q, B7q, m7q, d7q, rfl, o7, hx7⟩ := hh
              have S7 := S4.trans hx7
              have T7 := T4.trans hx7
              refine ⟨_, rfl, ⟨S7, (RBn.out.ext T7), (RBby.out.ext T7)⟩, ?_⟩
              simp only [Act.put, List.setIfInBounds_toArray, List.set_cons_zero, List.set_cons_succ]
              refine wpAnyH_ready (rs := [9]) (by kernel_rfl) (by simp) ?_
              refine drawn_call2 9 (some 62) (.tmp 60) (.tmp 61) (ts := #[27, 27]) (by kernel_rfl) (enters_of Try.func23 (by kernel_rfl) rfl) rfl rfl (qmul_v (o7.mono S4.size).rv (RFby.out.ext T7).rv (by omega)) (fun E v9 hh => ?_) ?_
              · skip
                obtain ⟨b9q, A9q, n9q, c9q, e9q, B9q, m9q, d9q, rfl, o9, hx9⟩ := hh
                have S9 := S7.trans hx9
                have T9 := T7.trans hx9
                refine ⟨_, rfl, ⟨S9, (RBn.out.ext T9), (RBby.out.ext T9)⟩, ?_⟩
                simp only [Act.put, List.setIfInBounds_toArray, List.set_cons_zero, List.set_cons_succ]
                refine wpAnyH_ready (rs := [12]) (by kernel_rfl) (by simp) ?_
                have hq12 := (HB10.out.ext ((hx4.trans hx7).trans hx9))
                refine drawn_store 12 27 (.tmp 11) (.tmp 57) (g10) #[.bool b4q, .slice A4q n4q c4q, .bool e4q, .slice B4q m4q d4q] #[.bool false, .slice none 0 0, .bool false, .slice none 0 0] 27 (by kernel_rfl) rfl rfl hq12.h info_rat rfl one_four (fun v12 hb12 hg12 => ?_) ?_
                · have HB12 := hid (show Bk 27 v12 (g10) #[.bool b4q, .slice A4q n4q c4q, .bool e4q, .slice B4q m4q d4q] from hb12)
                  have S12 := S9.gb hg12 (by have h := S2.size; have h1 := hg10; omega)
                  refine ⟨⟨S12, ((RBn.out.ext T9).grown hg12 (by have h0 := (Nat.lt_of_lt_of_le RBn.out.lt T2.size); have h1 := hg10; omega)), ((RBby.out.ext T9).grown hg12 (by have h0 := (Nat.lt_of_lt_of_le RBby.out.lt T2.size); have h1 := hg10; omega))⟩, ?_⟩
                  simp only [Act.put, List.setIfInBounds_toArray, List.set_cons_zero, List.set_cons_succ]
                  refine wpAnyH_ready (rs := [13]) (by kernel_rfl) (by simp) ?_
                  have hq13 := ((HB11.out.ext ((((hx2.trans hx10).trans hx4).trans hx7).trans hx9)).grown hg12 (by have h0 := (Nat.lt_of_lt_of_le HB11.out.lt hx2.size); have h1 := hg10; omega))
                  refine drawn_store 13 27 (.tmp 12) (.tmp 62) (g11) #[.bool b9q, .slice A9q n9q c9q, .bool e9q, .slice B9q m9q d9q] #[.bool false, .slice none 0 0, .bool false, .slice none 0 0] 27 (by kernel_rfl) rfl rfl hq13.h info_rat rfl one_four (fun v13 hb13 hg13 => ?_) ?_
                  · have HB13 := hid (show Bk 27 v13 (g11) #[.bool b9q, .slice A9q n9q c9q, .bool e9q, .slice B9q m9q d9q] from hb13)
                    have S13 := S12.gb hg13 (by have h := S0.size; have h1 := hg11; omega)
                    refine ⟨⟨S13, (((RBn.out.ext T9).grown hg12 (by have h0 := (Nat.lt_of_lt_of_le RBn.out.lt T2.size); have h1 := hg10; omega)).grown hg13 (by have h0 := (Nat.lt_of_lt_of_le RBn.out.lt T0.size); have h1 := hg11; omega)), (((RBby.out.ext T9).grown hg12 (by have h0 := (Nat.lt_of_lt_of_le RBby.out.lt T2.size); have h1 := hg10; omega)).grown hg13 (by have h0 := (Nat.lt_of_lt_of_le RBby.out.lt T0.size); have h1 := hg11; omega))⟩, ?_⟩
                    simp only [Act.put, List.setIfInBounds_toArray, List.set_cons_zero, List.set_cons_succ]
                    refine wpAnyH_done (by kernel_rfl) ?_ _
                    go_step
                    go_step
                    go_meet
                    case rel => exact ⟨_, _, _, _, _, _, _, _, _, _, _, _, _, _, _, _, _, _, rfl, rfl, (Nat.le_trans T2.size hg10), (Nat.le_trans T0.size hg11), (by have h0 := (Nat.lt_of_lt_of_le HB11.out.lt hx2.size); have h1 := hg10; omega), (((RBx.out.ext T9).grown hg12 (by have h0 := (Nat.lt_of_lt_of_le RBx.out.lt T2.size); have h1 := hg10; omega)).grown hg13 (by have h0 := (Nat.lt_of_lt_of_le RBx.out.lt T0.size); have h1 := hg11; omega)), (((RBy.out.ext T9).grown hg12 (by have h0 := (Nat.lt_of_lt_of_le RBy.out.lt T2.size); have h1 := hg10; omega)).grown hg13 (by have h0 := (Nat.lt_of_lt_of_le RBy.out.lt T0.size); have h1 := hg11; omega)), (((RBby.out.ext T9).grown hg12 (by have h0 := (Nat.lt_of_lt_of_le RBby.out.lt T2.size); have h1 := hg10; omega)).grown hg13 (by have h0 := (Nat.lt_of_lt_of_le RBby.out.lt T0.size); have h1 := hg11; omega)), (((RBn.out.ext T9).grown hg12 (by have h0 := (Nat.lt_of_lt_of_le RBn.out.lt T2.size); have h1 := hg10; omega)).grown hg13 (by have h0 := (Nat.lt_of_lt_of_le RBn.out.lt T0.size); have h1 := hg11; omega)), (HB12.out.grown hg13 (by have h0 := (Nat.lt_of_lt_of_le HB11.out.lt hx2.size); have h1 := hg10; omega)), HB13.out, (((RFby.out.ext T9).gbk hq12 (by decide) hg12).gbk hq13 (by decide) hg13), (((RFn.out.ext T9).gbk hq12 (by decide) hg12).gbk hq13 (by decide) hg13), ((((o4.mono S10.size).ext (hx7.trans hx9)).gbk hq12 (by decide) hg12).gbk hq13 (by decide) hg13), (((o9.mono S7.size).gbk hq12 (by decide) hg12).gbk hq13 (by decide) hg13), S13⟩
                  exact drawn_nil
                exact drawn_nil
              exact drawn_nil
            exact drawn_nil
          exact drawn_nil
        exact drawn_nil
      refine drawn_alloc 10 (some 11) (by kernel_rfl) alloc_rat (fun g10 v10 hb10 hx10 hg10 => ?_) ?_
      · have HB10 := hid (show Bk 27 v10 g10 #[.bool false, .slice none 0 0, .bool false, .slice none 0 0] from hb10)
        have S10 := S11.trans hx10
        have T10 := T11.trans hx10
        refine ⟨⟨S10, (RBn.out.ext T10), (RBby.out.ext T10)⟩, ?_⟩
        simp only [Act.put, List.setIfInBounds_toArray, List.set_cons_zero, List.set_cons_succ]
        refine wpAnyH_ready (rs := [2]) (by kernel_rfl) (by simp) ?_
        refine drawn_call1 2 (some 55) (.tmp 54) (ts := #[24]) (by kernel_rfl) (enters_of Try.func24 (by kernel_rfl) rfl) rfl (rwhole_v (RFn.out.ext T10).nu.iz (by omega)) (fun E v2 hh => ?_) ?_
        · skip
          obtain ⟨b2q, A2q, n2q, c2q, e2q, B2q, m2q, d2q, rfl, o2, hx2⟩ := hh
          have S2 := S10.trans hx2
          have T2 := T10.trans hx2
          refine ⟨_, rfl, ⟨S2, (RBn.out.ext T2), (RBby.out.ext T2)⟩, ?_⟩
          simp only [Act.put, List.setIfInBounds_toArray, List.set_cons_zero, List.set_cons_succ]
          refine wpAnyH_ready (rs := [4]) (by kernel_rfl) (by simp) ?_
          refine drawn_call2 4 (some 57) (.tmp 55) (.tmp 56) (ts := #[27, 27]) (by kernel_rfl) (enters_of Try.func23 (by kernel_rfl) rfl) rfl rfl (qmul_v (o2.mono S10.size).rv (RFby.out.ext T2).rv (by omega)) (fun E v4 hh => ?_) ?_
          · skip
            obtain ⟨b4q, A4q, n4q, c4q, e4q, B4q, m4q, d4q, rfl, o4, hx4⟩ := hh
            have S4 := S2.trans hx4
            have T4 := T2.trans hx4
            refine ⟨_, rfl, ⟨S4, (RBn.out.ext T4), (RBby.out.ext T4)⟩, ?_⟩
            simp only [Act.put, List.setIfInBounds_toArray, List.set_cons_zero, List.set_cons_succ]
            refine wpAnyH_ready (rs := [7]) (by kernel_rfl) (by simp) ?_
            refine drawn_call1 7 (some 60) (.tmp 59) (ts := #[24]) (by kernel_rfl) (enters_of Try.func24 (by kernel_rfl) rfl) rfl (rwhole_v (RFn.out.ext T4).de.iz (by omega)) (fun E v7 hh => ?_) ?_
            · skip
              obtain ⟨b7q, A7q, n7q, c7q, e7q, B7q, m7q, d7q, rfl, o7, hx7⟩ := hh
              have S7 := S4.trans hx7
              have T7 := T4.trans hx7
              refine ⟨_, rfl, ⟨S7, (RBn.out.ext T7), (RBby.out.ext T7)⟩, ?_⟩
              simp only [Act.put, List.setIfInBounds_toArray, List.set_cons_zero, List.set_cons_succ]
              refine wpAnyH_ready (rs := [9]) (by kernel_rfl) (by simp) ?_
              refine drawn_call2 9 (some 62) (.tmp 60) (.tmp 61) (ts := #[27, 27]) (by kernel_rfl) (enters_of Try.func23 (by kernel_rfl) rfl) rfl rfl (qmul_v (o7.mono S4.size).rv (RFby.out.ext T7).rv (by omega)) (fun E v9 hh => ?_) ?_
              · skip
                obtain ⟨b9q, A9q, n9q, c9q, e9q, B9q, m9q, d9q, rfl, o9, hx9⟩ := hh
                have S9 := S7.trans hx9
                have T9 := T7.trans hx9
                refine ⟨_, rfl, ⟨S9, (RBn.out.ext T9), (RBby.out.ext T9)⟩, ?_⟩
                simp only [Act.put, List.setIfInBounds_toArray, List.set_cons_zero, List.set_cons_succ]
                refine wpAnyH_ready (rs := [12]) (by kernel_rfl) (by simp) ?_
                have hq12 := (HB10.out.ext (((hx2.trans hx4).trans hx7).trans hx9))
                refine drawn_store 12 27 (.tmp 11) (.tmp 57) (g10) #[.bool b4q, .slice A4q n4q c4q, .bool e4q, .slice B4q m4q d4q] #[.bool false, .slice none 0 0, .bool false, .slice none 0 0] 27 (by kernel_rfl) rfl rfl hq12.h info_rat rfl one_four (fun v12 hb12 hg12 => ?_) ?_
                · have HB12 := hid (show Bk 27 v12 (g10) #[.bool b4q, .slice A4q n4q c4q, .bool e4q, .slice B4q m4q d4q] from hb12)
                  have S12 := S9.gb hg12 (by have h := S11.size; have h1 := hg10; omega)
                  refine ⟨⟨S12, ((RBn.out.ext T9).grown hg12 (by have h0 := (Nat.lt_of_lt_of_le RBn.out.lt T11.size); have h1 := hg10; omega)), ((RBby.out.ext T9).grown hg12 (by have h0 := (Nat.lt_of_lt_of_le RBby.out.lt T11.size); have h1 := hg10; omega))⟩, ?_⟩
                  simp only [Act.put, List.setIfInBounds_toArray, List.set_cons_zero, List.set_cons_succ]
                  refine wpAnyH_ready (rs := [13]) (by kernel_rfl) (by simp) ?_
                  have hq13 := ((HB11.out.ext ((((hx10.trans hx2).trans hx4).trans hx7).trans hx9)).grown hg12 (by have h0 := HB11.out.lt; have h1 := hg10; omega))
                  refine drawn_store 13 27 (.tmp 12) (.tmp 62) (g11) #[.bool b9q, .slice A9q n9q c9q, .bool e9q, .slice B9q m9q d9q] #[.bool false, .slice none 0 0, .bool false, .slice none 0 0] 27 (by kernel_rfl) rfl rfl hq13.h info_rat rfl one_four (fun v13 hb13 hg13 => ?_) ?_
                  · have HB13 := hid (show Bk 27 v13 (g11) #[.bool b9q, .slice A9q n9q c9q, .bool e9q, .slice B9q m9q d9q] from hb13)
                    have S13 := S12.gb hg13 (by have h := S0.size; have h1 := hg11; omega)
                    refine ⟨⟨S13, (((RBn.out.ext T9).grown hg12 (by have h0 := (Nat.lt_of_lt_of_le RBn.out.lt T11.size); have h1 := hg10; omega)).grown hg13 (by have h0 := (Nat.lt_of_lt_of_le RBn.out.lt T0.size); have h1 := hg11; omega)), (((RBby.out.ext T9).grown hg12 (by have h0 := (Nat.lt_of_lt_of_le RBby.out.lt T11.size); have h1 := hg10; omega)).grown hg13 (by have h0 := (Nat.lt_of_lt_of_le RBby.out.lt T0.size); have h1 := hg11; omega))⟩, ?_⟩
                    simp only [Act.put, List.setIfInBounds_toArray, List.set_cons_zero, List.set_cons_succ]
                    refine wpAnyH_done (by kernel_rfl) ?_ _
                    go_step
                    go_step
                    go_meet
                    case rel => exact ⟨_, _, _, _, _, _, _, _, _, _, _, _, _, _, _, _, _, _, rfl, rfl, (Nat.le_trans T11.size hg10), (Nat.le_trans T0.size hg11), (by have h0 := HB11.out.lt; have h1 := hg10; omega), (((RBx.out.ext T9).grown hg12 (by have h0 := (Nat.lt_of_lt_of_le RBx.out.lt T11.size); have h1 := hg10; omega)).grown hg13 (by have h0 := (Nat.lt_of_lt_of_le RBx.out.lt T0.size); have h1 := hg11; omega)), (((RBy.out.ext T9).grown hg12 (by have h0 := (Nat.lt_of_lt_of_le RBy.out.lt T11.size); have h1 := hg10; omega)).grown hg13 (by have h0 := (Nat.lt_of_lt_of_le RBy.out.lt T0.size); have h1 := hg11; omega)), (((RBby.out.ext T9).grown hg12 (by have h0 := (Nat.lt_of_lt_of_le RBby.out.lt T11.size); have h1 := hg10; omega)).grown hg13 (by have h0 := (Nat.lt_of_lt_of_le RBby.out.lt T0.size); have h1 := hg11; omega)), (((RBn.out.ext T9).grown hg12 (by have h0 := (Nat.lt_of_lt_of_le RBn.out.lt T11.size); have h1 := hg10; omega)).grown hg13 (by have h0 := (Nat.lt_of_lt_of_le RBn.out.lt T0.size); have h1 := hg11; omega)), (HB12.out.grown hg13 (by have h0 := HB11.out.lt; have h1 := hg10; omega)), HB13.out, (((RFby.out.ext T9).gbk hq12 (by decide) hg12).gbk hq13 (by decide) hg13), (((RFn.out.ext T9).gbk hq12 (by decide) hg12).gbk hq13 (by decide) hg13), ((((o4.mono S2.size).ext (hx7.trans hx9)).gbk hq12 (by decide) hg12).gbk hq13 (by decide) hg13), (((o9.mono S7.size).gbk hq12 (by decide) hg12).gbk hq13 (by decide) hg13), S13⟩
                  exact drawn_nil
                exact drawn_nil
              exact drawn_nil
            exact drawn_nil
          exact drawn_nil
        exact drawn_nil
      exact drawn_nil
    exact drawn_nil
  case rest =>
  obtain ⟨g11c, g12c, b4q, A4q, n4q, c4q, e4q, B4q, m4q, d4q, b9q, A9q, n9q, c9q, e9q, B9q, m9q, d9q, rfl, rfl, hgep10, hged10, hnepd10, Bxc10, Byc10, Bbyc10, Bnc10, Bpc10, Bdc10, Obyc10, Onc10, Opc10, Odc10, Xc10⟩ := hcut
  obtain ⟨w10, hw10⟩ : ∃ w10, w10 = wc := ⟨_, rfl⟩
  subst hw10
  have HBxc10 := hid Bxc10
  clear Bxc10
  have HByc10 := hid Byc10
  clear Byc10
  have HBbyc10 := hid Bbyc10
  clear Bbyc10
  have HBnc10 := hid Bnc10
  clear Bnc10
  have HBpc10 := hid Bpc10
  clear Bpc10
  have HBdc10 := hid Bdc10
  clear Bdc10
  have HObyc10 := hid Obyc10
  clear Obyc10
  have HOnc10 := hid Onc10
  clear Onc10
  have HOpc10 := hid Opc10
  clear Opc10
  have HOdc10 := hid Odc10
  clear Odc10
  have X10 := hid Xc10
  clear Xc10
  go_upto_region 8 with fail
  obtain ⟨f16_0, f16_1, f16_2, f16_3, f16_4, f16_5, f16_6, f16_7⟩ : w10.cell? ⟨g11c, 0, none⟩ = some (.bool b4q) ∧ w10.cell? ⟨g11c, 1, none⟩ = some (.slice A4q n4q c4q) ∧ w10.cell? ⟨g11c, 2, none⟩ = some (.bool e4q) ∧ w10.cell? ⟨g11c, 3, none⟩ = some (.slice B4q m4q d4q) ∧ w10.cell? ⟨g12c, 0, none⟩ = some (.bool b9q) ∧ w10.cell? ⟨g12c, 1, none⟩ = some (.slice A9q n9q c9q) ∧ w10.cell? ⟨g12c, 2, none⟩ = some (.bool e9q) ∧ w10.cell? ⟨g12c, 3, none⟩ = some (.slice B9q m9q d9q) := ⟨HBpc10.out.c 0, HBpc10.out.c 1, HBpc10.out.c 2, HBpc10.out.c 3, HBdc10.out.c 0, HBdc10.out.c 1, HBdc10.out.c 2, HBdc10.out.c 3⟩
  go_upto_region 9 with (first
    | ((go_at_call 9); (with_reducible refine (rof_is (3 * T.size + 3 + 2 + 2 + 4) (HOpc10.out.nu.cast gn1.out).iz (HOdc10.out.nu.cast gn2.out).iz gn3.out (by omega) (by omega) (by omega) gn4.out).mono ?_); rintro E11 w11 ⟨b11, A11, n11, c11, e11, B11, m11, d11, rfl, o11, hr11⟩; have X11 := hid (X10.out.trans hr11); have hy11 := hid hr11; clear hr11; have O11 := hid (o11.mono X10.out.size); clear o11; obtain ⟨f17_0, f17_1, f17_2, f17_3, f17_4, f17_5, f17_6, f17_7⟩ : w11.cell? ⟨g11c, 0, none⟩ = some (.bool b4q) ∧ w11.cell? ⟨g11c, 1, none⟩ = some (.slice A4q n4q c4q) ∧ w11.cell? ⟨g11c, 2, none⟩ = some (.bool e4q) ∧ w11.cell? ⟨g11c, 3, none⟩ = some (.slice B4q m4q d4q) ∧ w11.cell? ⟨g12c, 0, none⟩ = some (.bool b9q) ∧ w11.cell? ⟨g12c, 1, none⟩ = some (.slice A9q n9q c9q) ∧ w11.cell? ⟨g12c, 2, none⟩ = some (.bool e9q) ∧ w11.cell? ⟨g12c, 3, none⟩ = some (.slice B9q m9q d9q) := ⟨(HBpc10.out.ext hy11.out).c 0, (HBpc10.out.ext hy11.out).c 1, (HBpc10.out.ext hy11.out).c 2, (HBpc10.out.ext hy11.out).c 3, (HBdc10.out.ext hy11.out).c 0, (HBdc10.out.ext hy11.out).c 1, (HBdc10.out.ext hy11.out).c 2, (HBdc10.out.ext hy11.out).c 3⟩))
  clear f16_0 f16_1 f16_2 f16_3 f16_4 f16_5 f16_6 f16_7 f17_0 f17_1 f17_2 f17_3 f17_4 f17_5 f17_6 f17_7
  have hy12 := hid ((Ext.refl w11).alloc (.cells #[.bool b11, .slice A11 n11 c11, .bool e11, .slice B11 m11 d11] 27))
  have Bv_ := (Bk.new w11 27 #[.bool b11, .slice A11 n11 c11, .bool e11, .slice B11 m11 d11])
  have Bv := hid Bv_
  clear Bv_
  generalize (w11.alloc (.cells #[.bool b11, .slice A11 n11 c11, .bool e11, .slice B11 m11 d11] 27)) = w12 at *
  have X12 := hid (X11.out.trans hy12.out)
  obtain ⟨f19_0, f19_1, f19_2, f19_3, f19_4, f19_5, f19_6, f19_7⟩ : w12.cell? ⟨w11.heap.size, 0, none⟩ = some (.bool b11) ∧ w12.cell? ⟨w11.heap.size, 1, none⟩ = some (.slice A11 n11 c11) ∧ w12.cell? ⟨w11.heap.size, 2, none⟩ = some (.bool e11) ∧ w12.cell? ⟨w11.heap.size, 3, none⟩ = some (.slice B11 m11 d11) ∧ w12.cell? ⟨w6.heap.size, 0, none⟩ = some (.bool b6) ∧ w12.cell? ⟨w6.heap.size, 1, none⟩ = some (.slice A6 n6 c6) ∧ w12.cell? ⟨w6.heap.size, 2, none⟩ = some (.bool e6) ∧ w12.cell? ⟨w6.heap.size, 3, none⟩ = some (.slice B6 m6 d6) := ⟨Bv.out.c 0, Bv.out.c 1, Bv.out.c 2, Bv.out.c 3, (HBnc10.out.ext (hy11.out.trans hy12.out)).c 0, (HBnc10.out.ext (hy11.out.trans hy12.out)).c 1, (HBnc10.out.ext (hy11.out.trans hy12.out)).c 2, (HBnc10.out.ext (hy11.out.trans hy12.out)).c 3⟩
  go_upto_region 11 with (first
    | ((go_at_call 13); (with_reducible refine (dsame_v (O11.out.ext hy12.out) (HOnc10.out.ext (hy11.out.trans hy12.out)) (by omega) rfl).mono ?_); rintro E13 w13 ⟨rfl, hr13⟩; have X13 := hid (X12.out.trans hr13); have hy13 := hid hr13; clear hr13; obtain ⟨f20_0, f20_1, f20_2, f20_3, f20_4, f20_5, f20_6, f20_7⟩ : w13.cell? ⟨w11.heap.size, 0, none⟩ = some (.bool b11) ∧ w13.cell? ⟨w11.heap.size, 1, none⟩ = some (.slice A11 n11 c11) ∧ w13.cell? ⟨w11.heap.size, 2, none⟩ = some (.bool e11) ∧ w13.cell? ⟨w11.heap.size, 3, none⟩ = some (.slice B11 m11 d11) ∧ w13.cell? ⟨w6.heap.size, 0, none⟩ = some (.bool b6) ∧ w13.cell? ⟨w6.heap.size, 1, none⟩ = some (.slice A6 n6 c6) ∧ w13.cell? ⟨w6.heap.size, 2, none⟩ = some (.bool e6) ∧ w13.cell? ⟨w6.heap.size, 3, none⟩ = some (.slice B6 m6 d6) := ⟨(Bv.out.ext hy13.out).c 0, (Bv.out.ext hy13.out).c 1, (Bv.out.ext hy13.out).c 2, (Bv.out.ext hy13.out).c 3, (HBnc10.out.ext ((hy11.out.trans hy12.out).trans hy13.out)).c 0, (HBnc10.out.ext ((hy11.out.trans hy12.out).trans hy13.out)).c 1, (HBnc10.out.ext ((hy11.out.trans hy12.out).trans hy13.out)).c 2, (HBnc10.out.ext ((hy11.out.trans hy12.out).trans hy13.out)).c 3⟩))
  clear f19_0 f19_1 f19_2 f19_3 f19_4 f19_5 f19_6 f19_7 f20_0 f20_1 f20_2 f20_3 f20_4 f20_5 f20_6 f20_7
  obtain ⟨f21_0, f21_1, f21_2, f21_3, f21_4, f21_5, f21_6, f21_7⟩ : w13.cell? ⟨w.heap.size, 0, none⟩ = some (.bool sx) ∧ w13.cell? ⟨w.heap.size, 1, none⟩ = some (.slice Px lx kx) ∧ w13.cell? ⟨w.heap.size, 2, none⟩ = some (.bool tx) ∧ w13.cell? ⟨w.heap.size, 3, none⟩ = some (.slice Qx mx dx) ∧ w13.cell? ⟨w.heap.size + 1, 0, none⟩ = some (.bool sy) ∧ w13.cell? ⟨w.heap.size + 1, 1, none⟩ = some (.slice Py ly ky) ∧ w13.cell? ⟨w.heap.size + 1, 2, none⟩ = some (.bool ty) ∧ w13.cell? ⟨w.heap.size + 1, 3, none⟩ = some (.slice Qy my dy) := ⟨(HBxc10.out.ext ((hy11.out.trans hy12.out).trans hy13.out)).c 0, (HBxc10.out.ext ((hy11.out.trans hy12.out).trans hy13.out)).c 1, (HBxc10.out.ext ((hy11.out.trans hy12.out).trans hy13.out)).c 2, (HBxc10.out.ext ((hy11.out.trans hy12.out).trans hy13.out)).c 3, (HByc10.out.ext ((hy11.out.trans hy12.out).trans hy13.out)).c 0, (HByc10.out.ext ((hy11.out.trans hy12.out).trans hy13.out)).c 1, (HByc10.out.ext ((hy11.out.trans hy12.out).trans hy13.out)).c 2, (HByc10.out.ext ((hy11.out.trans hy12.out).trans hy13.out)).c 3⟩
  go_upto_region 12 with (first
    | ((go_at_call 22); (with_reducible refine (qcmp_is (Hx.out.ext X13.out) (Hy.out.ext X13.out) (by omega) HC.out).mono ?_); rintro E14 w14 ⟨rfl, hr14⟩; have X14 := hid (X13.out.trans hr14); have hy14 := hid hr14; clear hr14; obtain ⟨f22_0, f22_1, f22_2, f22_3, f22_4, f22_5, f22_6, f22_7⟩ : w14.cell? ⟨w.heap.size, 0, none⟩ = some (.bool sx) ∧ w14.cell? ⟨w.heap.size, 1, none⟩ = some (.slice Px lx kx) ∧ w14.cell? ⟨w.heap.size, 2, none⟩ = some (.bool tx) ∧ w14.cell? ⟨w.heap.size, 3, none⟩ = some (.slice Qx mx dx) ∧ w14.cell? ⟨w.heap.size + 1, 0, none⟩ = some (.bool sy) ∧ w14.cell? ⟨w.heap.size + 1, 1, none⟩ = some (.slice Py ly ky) ∧ w14.cell? ⟨w.heap.size + 1, 2, none⟩ = some (.bool ty) ∧ w14.cell? ⟨w.heap.size + 1, 3, none⟩ = some (.slice Qy my dy) := ⟨(HBxc10.out.ext (((hy11.out.trans hy12.out).trans hy13.out).trans hy14.out)).c 0, (HBxc10.out.ext (((hy11.out.trans hy12.out).trans hy13.out).trans hy14.out)).c 1, (HBxc10.out.ext (((hy11.out.trans hy12.out).trans hy13.out).trans hy14.out)).c 2, (HBxc10.out.ext (((hy11.out.trans hy12.out).trans hy13.out).trans hy14.out)).c 3, (HByc10.out.ext (((hy11.out.trans hy12.out).trans hy13.out).trans hy14.out)).c 0, (HByc10.out.ext (((hy11.out.trans hy12.out).trans hy13.out).trans hy14.out)).c 1, (HByc10.out.ext (((hy11.out.trans hy12.out).trans hy13.out).trans hy14.out)).c 2, (HByc10.out.ext (((hy11.out.trans hy12.out).trans hy13.out).trans hy14.out)).c 3⟩))
  clear f21_0 f21_1 f21_2 f21_3 f21_4 f21_5 f21_6 f21_7 f22_0 f22_1 f22_2 f22_3 f22_4 f22_5 f22_6 f22_7
  have RBx23 := hid (HBxc10.out.ext (((hy11.out.trans hy12.out).trans hy13.out).trans hy14.out))
  have RBy23 := hid (HByc10.out.ext (((hy11.out.trans hy12.out).trans hy13.out).trans hy14.out))
  have RBby23 := hid (HBbyc10.out.ext (((hy11.out.trans hy12.out).trans hy13.out).trans hy14.out))
  have RFby23 := hid (HObyc10.out.ext (((hy11.out.trans hy12.out).trans hy13.out).trans hy14.out))
  have hk23_0 : w14.cell? ⟨w.heap.size, 0, none⟩ = some (.bool sx) ∧ w14.cell? ⟨w.heap.size, 1, none⟩ = some (.slice Px lx kx) ∧ w14.cell? ⟨w.heap.size, 2, none⟩ = some (.bool tx) ∧ w14.cell? ⟨w.heap.size, 3, none⟩ = some (.slice Qx mx dx) ∧ w14.cell? ⟨w.heap.size + 1, 0, none⟩ = some (.bool sy) ∧ w14.cell? ⟨w.heap.size + 1, 1, none⟩ = some (.slice Py ly ky) ∧ w14.cell? ⟨w.heap.size + 1, 2, none⟩ = some (.bool ty) ∧ w14.cell? ⟨w.heap.size + 1, 3, none⟩ = some (.slice Qy my dy) ∧ w14.cell? ⟨w3.heap.size, 0, none⟩ = some (.bool b3) ∧ w14.cell? ⟨w3.heap.size, 1, none⟩ = some (.slice A3 n3 c3) ∧ w14.cell? ⟨w3.heap.size, 2, none⟩ = some (.bool e3) ∧ w14.cell? ⟨w3.heap.size, 3, none⟩ = some (.slice B3 m3 d3) := ⟨RBx23.out.c 0, RBx23.out.c 1, RBx23.out.c 2, RBx23.out.c 3, RBy23.out.c 0, RBy23.out.c 1, RBy23.out.c 2, RBy23.out.c 3, RBby23.out.c 0, RBby23.out.c 1, RBby23.out.c 2, RBby23.out.c 3⟩
  have hk23_1 : w14.drew.cell? ⟨w.heap.size, 0, none⟩ = some (.bool sx) ∧ w14.drew.cell? ⟨w.heap.size, 1, none⟩ = some (.slice Px lx kx) ∧ w14.drew.cell? ⟨w.heap.size, 2, none⟩ = some (.bool tx) ∧ w14.drew.cell? ⟨w.heap.size, 3, none⟩ = some (.slice Qx mx dx) ∧ w14.drew.cell? ⟨w.heap.size + 1, 0, none⟩ = some (.bool sy) ∧ w14.drew.cell? ⟨w.heap.size + 1, 1, none⟩ = some (.slice Py ly ky) ∧ w14.drew.cell? ⟨w.heap.size + 1, 2, none⟩ = some (.bool ty) ∧ w14.drew.cell? ⟨w.heap.size + 1, 3, none⟩ = some (.slice Qy my dy) ∧ w14.drew.cell? ⟨w3.heap.size, 0, none⟩ = some (.bool b3) ∧ w14.drew.cell? ⟨w3.heap.size, 1, none⟩ = some (.slice A3 n3 c3) ∧ w14.drew.cell? ⟨w3.heap.size, 2, none⟩ = some (.bool e3) ∧ w14.drew.cell? ⟨w3.heap.size, 3, none⟩ = some (.slice B3 m3 d3) := ⟨(RBx23.out.ext (Ext.refl _).drew).c 0, (RBx23.out.ext (Ext.refl _).drew).c 1, (RBx23.out.ext (Ext.refl _).drew).c 2, (RBx23.out.ext (Ext.refl _).drew).c 3, (RBy23.out.ext (Ext.refl _).drew).c 0, (RBy23.out.ext (Ext.refl _).drew).c 1, (RBy23.out.ext (Ext.refl _).drew).c 2, (RBy23.out.ext (Ext.refl _).drew).c 3, (RBby23.out.ext (Ext.refl _).drew).c 0, (RBby23.out.ext (Ext.refl _).drew).c 1, (RBby23.out.ext (Ext.refl _).drew).c 2, (RBby23.out.ext (Ext.refl _).drew).c 3⟩
  go_region_held3 (fun w' => w'.cell? ⟨w.heap.size, 0, none⟩ = some (.bool sx) ∧ w'.cell? ⟨w.heap.size, 1, none⟩ = some (.slice Px lx kx) ∧ w'.cell? ⟨w.heap.size, 2, none⟩ = some (.bool tx) ∧ w'.cell? ⟨w.heap.size, 3, none⟩ = some (.slice Qx mx dx) ∧ w'.cell? ⟨w.heap.size + 1, 0, none⟩ = some (.bool sy) ∧ w'.cell? ⟨w.heap.size + 1, 1, none⟩ = some (.slice Py ly ky) ∧ w'.cell? ⟨w.heap.size + 1, 2, none⟩ = some (.bool ty) ∧ w'.cell? ⟨w.heap.size + 1, 3, none⟩ = some (.slice Qy my dy) ∧ w'.cell? ⟨w3.heap.size, 0, none⟩ = some (.bool b3) ∧ w'.cell? ⟨w3.heap.size, 1, none⟩ = some (.slice A3 n3 c3) ∧ w'.cell? ⟨w3.heap.size, 2, none⟩ = some (.bool e3) ∧ w'.cell? ⟨w3.heap.size, 3, none⟩ = some (.slice B3 m3 d3))
    (first | (with_reducible exact hk23_0) | (with_reducible exact hk23_1) | (with_reducible exact hk23_2) | (with_reducible exact hk23_3) | (with_reducible exact hk23_4) | (with_reducible exact hk23_5) | (with_reducible exact hk23_6) | (with_reducible exact hk23_7))
    (first
      | ((go_at_call 20); (with_reducible refine (rtext_qis (Hx.out.ext (X14.out.trans (Ext.refl _).drew)) (by omega) HT.out).mono ?_); rintro E16 w16 ⟨rfl, hr16⟩; have X16 := hid ((X14.out.trans (Ext.refl _).drew).trans hr16); have hy16 := hid hr16; have Y16 := hid ((Ext.refl _).drew.trans hr16); clear hr16; have hk23_2 : w16.cell? ⟨w.heap.size, 0, none⟩ = some (.bool sx) ∧ w16.cell? ⟨w.heap.size, 1, none⟩ = some (.slice Px lx kx) ∧ w16.cell? ⟨w.heap.size, 2, none⟩ = some (.bool tx) ∧ w16.cell? ⟨w.heap.size, 3, none⟩ = some (.slice Qx mx dx) ∧ w16.cell? ⟨w.heap.size + 1, 0, none⟩ = some (.bool sy) ∧ w16.cell? ⟨w.heap.size + 1, 1, none⟩ = some (.slice Py ly ky) ∧ w16.cell? ⟨w.heap.size + 1, 2, none⟩ = some (.bool ty) ∧ w16.cell? ⟨w.heap.size + 1, 3, none⟩ = some (.slice Qy my dy) ∧ w16.cell? ⟨w3.heap.size, 0, none⟩ = some (.bool b3) ∧ w16.cell? ⟨w3.heap.size, 1, none⟩ = some (.slice A3 n3 c3) ∧ w16.cell? ⟨w3.heap.size, 2, none⟩ = some (.bool e3) ∧ w16.cell? ⟨w3.heap.size, 3, none⟩ = some (.slice B3 m3 d3) := ⟨(RBx23.out.ext Y16.out).c 0, (RBx23.out.ext Y16.out).c 1, (RBx23.out.ext Y16.out).c 2, (RBx23.out.ext Y16.out).c 3, (RBy23.out.ext Y16.out).c 0, (RBy23.out.ext Y16.out).c 1, (RBy23.out.ext Y16.out).c 2, (RBy23.out.ext Y16.out).c 3, (RBby23.out.ext Y16.out).c 0, (RBby23.out.ext Y16.out).c 1, (RBby23.out.ext Y16.out).c 2, (RBby23.out.ext Y16.out).c 3⟩)
      | ((go_at_call 20); (with_reducible refine (rtext_qis (Hy.out.ext X16.out) (by omega) HU.out).mono ?_); rintro E17 w17 ⟨rfl, hr17⟩; have X17 := hid (X16.out.trans hr17); have hy17 := hid hr17; have Y17 := hid (Y16.out.trans hr17); clear hr17; have hk23_3 : w17.cell? ⟨w.heap.size, 0, none⟩ = some (.bool sx) ∧ w17.cell? ⟨w.heap.size, 1, none⟩ = some (.slice Px lx kx) ∧ w17.cell? ⟨w.heap.size, 2, none⟩ = some (.bool tx) ∧ w17.cell? ⟨w.heap.size, 3, none⟩ = some (.slice Qx mx dx) ∧ w17.cell? ⟨w.heap.size + 1, 0, none⟩ = some (.bool sy) ∧ w17.cell? ⟨w.heap.size + 1, 1, none⟩ = some (.slice Py ly ky) ∧ w17.cell? ⟨w.heap.size + 1, 2, none⟩ = some (.bool ty) ∧ w17.cell? ⟨w.heap.size + 1, 3, none⟩ = some (.slice Qy my dy) ∧ w17.cell? ⟨w3.heap.size, 0, none⟩ = some (.bool b3) ∧ w17.cell? ⟨w3.heap.size, 1, none⟩ = some (.slice A3 n3 c3) ∧ w17.cell? ⟨w3.heap.size, 2, none⟩ = some (.bool e3) ∧ w17.cell? ⟨w3.heap.size, 3, none⟩ = some (.slice B3 m3 d3) := ⟨(RBx23.out.ext Y17.out).c 0, (RBx23.out.ext Y17.out).c 1, (RBx23.out.ext Y17.out).c 2, (RBx23.out.ext Y17.out).c 3, (RBy23.out.ext Y17.out).c 0, (RBy23.out.ext Y17.out).c 1, (RBy23.out.ext Y17.out).c 2, (RBy23.out.ext Y17.out).c 3, (RBby23.out.ext Y17.out).c 0, (RBby23.out.ext Y17.out).c 1, (RBby23.out.ext Y17.out).c 2, (RBby23.out.ext Y17.out).c 3⟩)
      | ((go_at_call 20); (with_reducible refine (rtext_qis (RFby23.out.ext Y17.out).rv (by omega) HB.out).mono ?_); rintro E18 w18 ⟨rfl, hr18⟩; have X18 := hid (X17.out.trans hr18); have hy18 := hid hr18; have Y18 := hid (Y17.out.trans hr18); clear hr18; have hk23_4 : w18.cell? ⟨w.heap.size, 0, none⟩ = some (.bool sx) ∧ w18.cell? ⟨w.heap.size, 1, none⟩ = some (.slice Px lx kx) ∧ w18.cell? ⟨w.heap.size, 2, none⟩ = some (.bool tx) ∧ w18.cell? ⟨w.heap.size, 3, none⟩ = some (.slice Qx mx dx) ∧ w18.cell? ⟨w.heap.size + 1, 0, none⟩ = some (.bool sy) ∧ w18.cell? ⟨w.heap.size + 1, 1, none⟩ = some (.slice Py ly ky) ∧ w18.cell? ⟨w.heap.size + 1, 2, none⟩ = some (.bool ty) ∧ w18.cell? ⟨w.heap.size + 1, 3, none⟩ = some (.slice Qy my dy) ∧ w18.cell? ⟨w3.heap.size, 0, none⟩ = some (.bool b3) ∧ w18.cell? ⟨w3.heap.size, 1, none⟩ = some (.slice A3 n3 c3) ∧ w18.cell? ⟨w3.heap.size, 2, none⟩ = some (.bool e3) ∧ w18.cell? ⟨w3.heap.size, 3, none⟩ = some (.slice B3 m3 d3) := ⟨(RBx23.out.ext Y18.out).c 0, (RBx23.out.ext Y18.out).c 1, (RBx23.out.ext Y18.out).c 2, (RBx23.out.ext Y18.out).c 3, (RBy23.out.ext Y18.out).c 0, (RBy23.out.ext Y18.out).c 1, (RBy23.out.ext Y18.out).c 2, (RBy23.out.ext Y18.out).c 3, (RBby23.out.ext Y18.out).c 0, (RBby23.out.ext Y18.out).c 1, (RBby23.out.ext Y18.out).c 2, (RBby23.out.ext Y18.out).c 3⟩)
      | ((go_at_call 24); (with_reducible refine (rwhole_v (RFby23.out.ext Y18.out).nu.iz (by omega)).mono ?_); rintro E19 w19 ⟨b19, A19, n19, c19, e19, B19, m19, d19, rfl, o19, hr19⟩; have X19 := hid (X18.out.trans hr19); have hy19 := hid hr19; have Y19 := hid (Y18.out.trans hr19); clear hr19; have O19 := hid (o19.mono X18.out.size); clear o19; have hk23_5 : w19.cell? ⟨w.heap.size, 0, none⟩ = some (.bool sx) ∧ w19.cell? ⟨w.heap.size, 1, none⟩ = some (.slice Px lx kx) ∧ w19.cell? ⟨w.heap.size, 2, none⟩ = some (.bool tx) ∧ w19.cell? ⟨w.heap.size, 3, none⟩ = some (.slice Qx mx dx) ∧ w19.cell? ⟨w.heap.size + 1, 0, none⟩ = some (.bool sy) ∧ w19.cell? ⟨w.heap.size + 1, 1, none⟩ = some (.slice Py ly ky) ∧ w19.cell? ⟨w.heap.size + 1, 2, none⟩ = some (.bool ty) ∧ w19.cell? ⟨w.heap.size + 1, 3, none⟩ = some (.slice Qy my dy) ∧ w19.cell? ⟨w3.heap.size, 0, none⟩ = some (.bool b3) ∧ w19.cell? ⟨w3.heap.size, 1, none⟩ = some (.slice A3 n3 c3) ∧ w19.cell? ⟨w3.heap.size, 2, none⟩ = some (.bool e3) ∧ w19.cell? ⟨w3.heap.size, 3, none⟩ = some (.slice B3 m3 d3) := ⟨(RBx23.out.ext Y19.out).c 0, (RBx23.out.ext Y19.out).c 1, (RBx23.out.ext Y19.out).c 2, (RBx23.out.ext Y19.out).c 3, (RBy23.out.ext Y19.out).c 0, (RBy23.out.ext Y19.out).c 1, (RBy23.out.ext Y19.out).c 2, (RBy23.out.ext Y19.out).c 3, (RBby23.out.ext Y19.out).c 0, (RBby23.out.ext Y19.out).c 1, (RBby23.out.ext Y19.out).c 2, (RBby23.out.ext Y19.out).c 3⟩)
      | ((go_at_call 20); (with_reducible refine (rtext_qis O19.out.rv (by omega) HBW.out).mono ?_); rintro E20 w20 ⟨rfl, hr20⟩; have X20 := hid (X19.out.trans hr20); have hy20 := hid hr20; have Y20 := hid (Y19.out.trans hr20); clear hr20; have hk23_6 : w20.cell? ⟨w.heap.size, 0, none⟩ = some (.bool sx) ∧ w20.cell? ⟨w.heap.size, 1, none⟩ = some (.slice Px lx kx) ∧ w20.cell? ⟨w.heap.size, 2, none⟩ = some (.bool tx) ∧ w20.cell? ⟨w.heap.size, 3, none⟩ = some (.slice Qx mx dx) ∧ w20.cell? ⟨w.heap.size + 1, 0, none⟩ = some (.bool sy) ∧ w20.cell? ⟨w.heap.size + 1, 1, none⟩ = some (.slice Py ly ky) ∧ w20.cell? ⟨w.heap.size + 1, 2, none⟩ = some (.bool ty) ∧ w20.cell? ⟨w.heap.size + 1, 3, none⟩ = some (.slice Qy my dy) ∧ w20.cell? ⟨w3.heap.size, 0, none⟩ = some (.bool b3) ∧ w20.cell? ⟨w3.heap.size, 1, none⟩ = some (.slice A3 n3 c3) ∧ w20.cell? ⟨w3.heap.size, 2, none⟩ = some (.bool e3) ∧ w20.cell? ⟨w3.heap.size, 3, none⟩ = some (.slice B3 m3 d3) := ⟨(RBx23.out.ext Y20.out).c 0, (RBx23.out.ext Y20.out).c 1, (RBx23.out.ext Y20.out).c 2, (RBx23.out.ext Y20.out).c 3, (RBy23.out.ext Y20.out).c 0, (RBy23.out.ext Y20.out).c 1, (RBy23.out.ext Y20.out).c 2, (RBy23.out.ext Y20.out).c 3, (RBby23.out.ext Y20.out).c 0, (RBby23.out.ext Y20.out).c 1, (RBby23.out.ext Y20.out).c 2, (RBby23.out.ext Y20.out).c 3⟩)
      | ((go_at_call 8); (with_reducible refine (known_any6).mono ?_); rintro E21 w21 ⟨rfl, hr21⟩; have X21 := hid (X20.out.trans hr21); have hy21 := hid hr21; have Y21 := hid (Y20.out.trans hr21); clear hr21; have hk23_7 : w21.cell? ⟨w.heap.size, 0, none⟩ = some (.bool sx) ∧ w21.cell? ⟨w.heap.size, 1, none⟩ = some (.slice Px lx kx) ∧ w21.cell? ⟨w.heap.size, 2, none⟩ = some (.bool tx) ∧ w21.cell? ⟨w.heap.size, 3, none⟩ = some (.slice Qx mx dx) ∧ w21.cell? ⟨w.heap.size + 1, 0, none⟩ = some (.bool sy) ∧ w21.cell? ⟨w.heap.size + 1, 1, none⟩ = some (.slice Py ly ky) ∧ w21.cell? ⟨w.heap.size + 1, 2, none⟩ = some (.bool ty) ∧ w21.cell? ⟨w.heap.size + 1, 3, none⟩ = some (.slice Qy my dy) ∧ w21.cell? ⟨w3.heap.size, 0, none⟩ = some (.bool b3) ∧ w21.cell? ⟨w3.heap.size, 1, none⟩ = some (.slice A3 n3 c3) ∧ w21.cell? ⟨w3.heap.size, 2, none⟩ = some (.bool e3) ∧ w21.cell? ⟨w3.heap.size, 3, none⟩ = some (.slice B3 m3 d3) := ⟨(RBx23.out.ext Y21.out).c 0, (RBx23.out.ext Y21.out).c 1, (RBx23.out.ext Y21.out).c 2, (RBx23.out.ext Y21.out).c 3, (RBy23.out.ext Y21.out).c 0, (RBy23.out.ext Y21.out).c 1, (RBy23.out.ext Y21.out).c 2, (RBy23.out.ext Y21.out).c 3, (RBby23.out.ext Y21.out).c 0, (RBby23.out.ext Y21.out).c 1, (RBby23.out.ext Y21.out).c 2, (RBby23.out.ext Y21.out).c 3⟩))
  clear hk23_0 hk23_1 hk23_2 hk23_3 hk23_4 hk23_5 hk23_6 hk23_7
  go_wp2_with fail
  go_ret
  exact ⟨rfl, X21.out⟩

set_option maxHeartbeats 6400000 in
set_option maxRecDepth 100000 in
theorem ratioCancels_great {w : World} {sx tx sy ty : Bool} {Px Qx Py Qy : Option Addr} {lx kx mx dx ly ky my dy : Nat} {k : Int} (h : 8 < lx ∨ 8 < mx ∨ 8 < ly ∨ 8 < my) :
    Calls Try.prog 5 #[.agg #[.bool sx, .slice Px lx kx, .bool tx, .slice Qx mx dx], .agg #[.bool sy, .slice Py ly ky, .bool ty, .slice Qy my dy], .int .i64 k] w (RetE (.bool true) w) := by
  have HG := hid h
  clear h
  go_enter Try.func5, Try.ntmps5
  go_wp2_with fail
  have hy1 := hid ((((Ext.refl w).alloc (.cells #[.bool sx, .slice Px lx kx, .bool tx, .slice Qx mx dx] 27)).alloc (.cells #[.bool sy, .slice Py ly ky, .bool ty, .slice Qy my dy] 27)).alloc (.cells #[.bool sx, .slice Px lx kx, .bool tx, .slice Qx mx dx, .bool sy, .slice Py ly ky, .bool ty, .slice Qy my dy] 27))
  have Bx_ := ((Bk.new w 27 #[.bool sx, .slice Px lx kx, .bool tx, .slice Qx mx dx]).ext (((Ext.refl (w.alloc (.cells #[.bool sx, .slice Px lx kx, .bool tx, .slice Qx mx dx] 27))).alloc (.cells #[.bool sy, .slice Py ly ky, .bool ty, .slice Qy my dy] 27)).alloc (.cells #[.bool sx, .slice Px lx kx, .bool tx, .slice Qx mx dx, .bool sy, .slice Py ly ky, .bool ty, .slice Qy my dy] 27)))
  have Bx := hid Bx_
  clear Bx_
  have By_ := ((Bk.new (w.alloc (.cells #[.bool sx, .slice Px lx kx, .bool tx, .slice Qx mx dx] 27)) 27 #[.bool sy, .slice Py ly ky, .bool ty, .slice Qy my dy]).ext ((Ext.refl ((w.alloc (.cells #[.bool sx, .slice Px lx kx, .bool tx, .slice Qx mx dx] 27)).alloc (.cells #[.bool sy, .slice Py ly ky, .bool ty, .slice Qy my dy] 27))).alloc (.cells #[.bool sx, .slice Px lx kx, .bool tx, .slice Qx mx dx, .bool sy, .slice Py ly ky, .bool ty, .slice Qy my dy] 27)))
  rw [size_alloc] at By_
  have By := hid By_
  clear By_
  have Brow_ := (Bk.new ((w.alloc (.cells #[.bool sx, .slice Px lx kx, .bool tx, .slice Qx mx dx] 27)).alloc (.cells #[.bool sy, .slice Py ly ky, .bool ty, .slice Qy my dy] 27)) 27 #[.bool sx, .slice Px lx kx, .bool tx, .slice Qx mx dx, .bool sy, .slice Py ly ky, .bool ty, .slice Qy my dy])
  rw [size_alloc, size_alloc] at Brow_
  have Brow := hid Brow_
  clear Brow_
  generalize (((w.alloc (.cells #[.bool sx, .slice Px lx kx, .bool tx, .slice Qx mx dx] 27)).alloc (.cells #[.bool sy, .slice Py ly ky, .bool ty, .slice Qy my dy] 27)).alloc (.cells #[.bool sx, .slice Px lx kx, .bool tx, .slice Qx mx dx, .bool sy, .slice Py ly ky, .bool ty, .slice Qy my dy] 27)) = w1 at *
  have X1 := hid ((Ext.refl _).trans hy1.out)
  go_wp2_with (first
    | ((go_at_call 17); (with_reducible refine (great6_yes2 Brow.out HG.out).mono ?_); rintro E2 w2 ⟨rfl, hr2⟩; have X2 := hid (X1.out.trans hr2); have hy2 := hid hr2; clear hr2)
    | ((go_at_call 8); (with_reducible refine (known_any6).mono ?_); rintro E3 w3 ⟨rfl, hr3⟩; have X3 := hid (X2.out.trans hr3); have hy3 := hid hr3; clear hr3))
  go_ret
  exact ⟨rfl, X3.out⟩

set_option maxHeartbeats 6400000 in
set_option maxRecDepth 100000 in
theorem ratioCancels_k {w : World} {sx tx sy ty : Bool} {Px Qx Py Qy : Option Addr} {lx kx mx dx ly ky my dy : Nat} (blx : lx ≤ 8) (bmx : mx ≤ 8) (bly : ly ≤ 8) (bmy : my ≤ 8) :
    Calls Try.prog 5 #[.agg #[.bool sx, .slice Px lx kx, .bool tx, .slice Qx mx dx], .agg #[.bool sy, .slice Py ly ky, .bool ty, .slice Qy my dy], .int .i64 0] w (RetE (.bool true) w) := by
  go_enter Try.func5, Try.ntmps5
  go_wp2_with fail
  have hy1 := hid ((((Ext.refl w).alloc (.cells #[.bool sx, .slice Px lx kx, .bool tx, .slice Qx mx dx] 27)).alloc (.cells #[.bool sy, .slice Py ly ky, .bool ty, .slice Qy my dy] 27)).alloc (.cells #[.bool sx, .slice Px lx kx, .bool tx, .slice Qx mx dx, .bool sy, .slice Py ly ky, .bool ty, .slice Qy my dy] 27))
  have Bx_ := ((Bk.new w 27 #[.bool sx, .slice Px lx kx, .bool tx, .slice Qx mx dx]).ext (((Ext.refl (w.alloc (.cells #[.bool sx, .slice Px lx kx, .bool tx, .slice Qx mx dx] 27))).alloc (.cells #[.bool sy, .slice Py ly ky, .bool ty, .slice Qy my dy] 27)).alloc (.cells #[.bool sx, .slice Px lx kx, .bool tx, .slice Qx mx dx, .bool sy, .slice Py ly ky, .bool ty, .slice Qy my dy] 27)))
  have Bx := hid Bx_
  clear Bx_
  have By_ := ((Bk.new (w.alloc (.cells #[.bool sx, .slice Px lx kx, .bool tx, .slice Qx mx dx] 27)) 27 #[.bool sy, .slice Py ly ky, .bool ty, .slice Qy my dy]).ext ((Ext.refl ((w.alloc (.cells #[.bool sx, .slice Px lx kx, .bool tx, .slice Qx mx dx] 27)).alloc (.cells #[.bool sy, .slice Py ly ky, .bool ty, .slice Qy my dy] 27))).alloc (.cells #[.bool sx, .slice Px lx kx, .bool tx, .slice Qx mx dx, .bool sy, .slice Py ly ky, .bool ty, .slice Qy my dy] 27)))
  rw [size_alloc] at By_
  have By := hid By_
  clear By_
  have Brow_ := (Bk.new ((w.alloc (.cells #[.bool sx, .slice Px lx kx, .bool tx, .slice Qx mx dx] 27)).alloc (.cells #[.bool sy, .slice Py ly ky, .bool ty, .slice Qy my dy] 27)) 27 #[.bool sx, .slice Px lx kx, .bool tx, .slice Qx mx dx, .bool sy, .slice Py ly ky, .bool ty, .slice Qy my dy])
  rw [size_alloc, size_alloc] at Brow_
  have Brow := hid Brow_
  clear Brow_
  generalize (((w.alloc (.cells #[.bool sx, .slice Px lx kx, .bool tx, .slice Qx mx dx] 27)).alloc (.cells #[.bool sy, .slice Py ly ky, .bool ty, .slice Qy my dy] 27)).alloc (.cells #[.bool sx, .slice Px lx kx, .bool tx, .slice Qx mx dx, .bool sy, .slice Py ly ky, .bool ty, .slice Qy my dy] 27)) = w1 at *
  have X1 := hid ((Ext.refl _).trans hy1.out)
  go_wp2_with (first
    | ((go_at_call 17); (with_reducible refine (great6_no2 Brow.out blx bmx bly bmy).mono ?_); rintro E2 w2 ⟨rfl, hr2⟩; have X2 := hid (X1.out.trans hr2); have hy2 := hid hr2; clear hr2)
    | ((go_at_call 8); (with_reducible refine (known_any6).mono ?_); rintro E3 w3 ⟨rfl, hr3⟩; have X3 := hid (X2.out.trans hr3); have hy3 := hid hr3; clear hr3))
  go_ret
  exact ⟨rfl, X3.out⟩

theorem ratioCancels_any {w : World} {sx tx sy ty : Bool} {Px Qx Py Qy : Option Addr} {lx kx mx dx ly ky my dy : Nat} {Xx Yx Xy Yy : List Nat} {k : Int} (hx : Sl .u32 w Px lx kx Xx) (px : Lim 4294967296 Xx) (gx : Sl .u32 w Qx mx dx Yx) (qx : Lim 4294967296 Yx) (hy : Sl .u32 w Py ly ky Xy) (py : Lim 4294967296 Xy) (gy : Sl .u32 w Qy my dy Yy) (qy : Lim 4294967296 Yy) (hk0 : -9223372036854775808 ≤ k) (hk1 : k ≤ 9223372036854775807) :
    Calls Try.prog 5 #[.agg #[.bool sx, .slice Px lx kx, .bool tx, .slice Qx mx dx], .agg #[.bool sy, .slice Py ly ky, .bool ty, .slice Qy my dy], .int .i64 k] w (RetE (.bool true) w) := by
  by_cases hg : 8 < lx ∨ 8 < mx ∨ 8 < ly ∨ 8 < my
  · exact ratioCancels_great hg
  have blx : lx ≤ 8 := by omega
  have bmx : mx ≤ 8 := by omega
  obtain ⟨x, rx⟩ : ∃ x, Rv 8 w sx Px lx kx tx Qx mx dx x := ⟨_, _, _, Iz.mk (Nv.mk hx px blx), Iz.mk (Nv.mk gx qx bmx), rfl⟩
  have bly : ly ≤ 8 := by omega
  have bmy : my ≤ 8 := by omega
  obtain ⟨y, ry⟩ : ∃ x, Rv 8 w sy Py ly ky ty Qy my dy x := ⟨_, _, _, Iz.mk (Nv.mk hy py bly), Iz.mk (Nv.mk gy qy bmy), rfl⟩
  by_cases hk : k = 0
  · subst hk
    exact ratioCancels_k blx bmx bly bmy
  · exact ratioCancels_small rx ry blx bmx bly bmy hk hk0 hk1 rfl

end Go.Proofs.Ytikkibpjchmajaa

