/-
  The walk of RatioOf. Printed by wip/gen/rat.py.
-/
import Derived.Test.YtikkibpjchmajaaRatioOfK29
import Derived.Test.YtikkibpjchmajaaRatioOfK33
namespace Go.Proofs.Ytikkibpjchmajaa
open Go.RowKit
open Go.Lib (hid)

set_option maxHeartbeats 6400000 in
set_option maxRecDepth 100000 in
theorem ratioOf_zz {w : World} {sx sy : Bool} {Px Py : Option Addr} {lx kx ly ky : Nat} {N a : Int} (hx : Iz 8 w sx Px lx kx N) (hy : Iz 8 w sy Py ly ky 0) (hlx : lx ≤ 8) (hly : ly ≤ 8) (ha0 : -9223372036854775808 ≤ a) (ha1 : a ≤ 9223372036854775807) :
    Calls Try.prog 3 #[.agg #[.bool sx, .slice Px lx kx], .agg #[.bool sy, .slice Py ly ky], .int .i64 a, .int .i64 0] w (RetE (.bool true) w) := by
  have hlx' : ¬ (8 : Int) < (lx : Int) := by omega
  have hly' : ¬ (8 : Int) < (ly : Int) := by omega
  have hs := hid (show rs ((0 : Int) : Rat) = 0 from rs_zero.2 (by simp))
  have Hx := hid hx
  have Hy := hid hy
  clear hx hy
  clear hlx hly
  go_enter Try.func3, Try.ntmps3
  go_upto_region 1 with fail
  have hy1 := hid (((Ext.refl w).alloc (.cells #[.bool sx, .slice Px lx kx] 24)).alloc (.cells #[.bool sy, .slice Py ly ky] 24))
  have Bx_ := ((Bk.new w 24 #[.bool sx, .slice Px lx kx]).ext ((Ext.refl (w.alloc (.cells #[.bool sx, .slice Px lx kx] 24))).alloc (.cells #[.bool sy, .slice Py ly ky] 24)))
  have Bx := hid Bx_
  clear Bx_
  have By_ := (Bk.new (w.alloc (.cells #[.bool sx, .slice Px lx kx] 24)) 24 #[.bool sy, .slice Py ly ky])
  rw [size_alloc] at By_
  have By := hid By_
  clear By_
  generalize ((w.alloc (.cells #[.bool sx, .slice Px lx kx] 24)).alloc (.cells #[.bool sy, .slice Py ly ky] 24)) = w1 at *
  have X1 := hid ((Ext.refl _).trans hy1.out)
  obtain ⟨f3_0, f3_1, f3_2, f3_3⟩ : w1.cell? ⟨w.heap.size, 0, none⟩ = some (.bool sx) ∧ w1.cell? ⟨w.heap.size, 1, none⟩ = some (.slice Px lx kx) ∧ w1.cell? ⟨w.heap.size + 1, 0, none⟩ = some (.bool sy) ∧ w1.cell? ⟨w.heap.size + 1, 1, none⟩ = some (.slice Py ly ky) := ⟨Bx.out.c 0, Bx.out.c 1, By.out.c 0, By.out.c 1⟩
  go_upto_region 3 with fail
  clear f3_0 f3_1 f3_2 f3_3
  obtain ⟨f4_0, f4_1, f4_2, f4_3⟩ : w1.cell? ⟨w.heap.size, 0, none⟩ = some (.bool sx) ∧ w1.cell? ⟨w.heap.size, 1, none⟩ = some (.slice Px lx kx) ∧ w1.cell? ⟨w.heap.size + 1, 0, none⟩ = some (.bool sy) ∧ w1.cell? ⟨w.heap.size + 1, 1, none⟩ = some (.slice Py ly ky) := ⟨Bx.out.c 0, Bx.out.c 1, By.out.c 0, By.out.c 1⟩
  go_upto_region 4 with (first
    | ((go_at_call 9); (with_reducible refine (rof_zero (Hx.out.ext X1.out) (Hy.out.ext X1.out) (by omega)).mono ?_); rintro E2 w2 ⟨rfl, hr2⟩; have X2 := hid (X1.out.trans hr2); have hy2 := hid hr2; clear hr2; obtain ⟨f5_0, f5_1, f5_2, f5_3⟩ : w2.cell? ⟨w.heap.size, 0, none⟩ = some (.bool sx) ∧ w2.cell? ⟨w.heap.size, 1, none⟩ = some (.slice Px lx kx) ∧ w2.cell? ⟨w.heap.size + 1, 0, none⟩ = some (.bool sy) ∧ w2.cell? ⟨w.heap.size + 1, 1, none⟩ = some (.slice Py ly ky) := ⟨(Bx.out.ext hy2.out).c 0, (Bx.out.ext hy2.out).c 1, (By.out.ext hy2.out).c 0, (By.out.ext hy2.out).c 1⟩))
  clear f4_0 f4_1 f4_2 f4_3 f5_0 f5_1 f5_2 f5_3
  have hy3 := hid ((Ext.refl w2).alloc (.cells #[.bool false, .slice none 0 0, .bool false, .slice none 0 0] 27))
  have Bp_ := (Bk.new w2 27 #[.bool false, .slice none 0 0, .bool false, .slice none 0 0])
  have Bp := hid Bp_
  clear Bp_
  generalize (w2.alloc (.cells #[.bool false, .slice none 0 0, .bool false, .slice none 0 0] 27)) = w3 at *
  have X3 := hid (X2.out.trans hy3.out)
  go_upto_region 5 with (first
    | ((go_at_call 10); (with_reducible refine (qsm_zero (a := a) ha0 ha1).mono ?_); rintro E4 w4 ⟨rfl, hr4⟩; have X4 := hid (X3.out.trans hr4); have hy4 := hid hr4; clear hr4))
  have hy5 := hid ((Ext.refl w4).alloc (.cells #[.bool false, .slice none 0 0, .bool false, .slice none 0 0] 27))
  have Bs_ := (Bk.new w4 27 #[.bool false, .slice none 0 0, .bool false, .slice none 0 0])
  have Bs := hid Bs_
  clear Bs_
  generalize (w4.alloc (.cells #[.bool false, .slice none 0 0, .bool false, .slice none 0 0] 27)) = w5 at *
  have X5 := hid (X4.out.trans hy5.out)
  obtain ⟨f8_0, f8_1⟩ : w5.cell? ⟨w.heap.size + 1, 0, none⟩ = some (.bool sy) ∧ w5.cell? ⟨w.heap.size + 1, 1, none⟩ = some (.slice Py ly ky) := ⟨(By.out.ext (((hy2.out.trans hy3.out).trans hy4.out).trans hy5.out)).c 0, (By.out.ext (((hy2.out.trans hy3.out).trans hy4.out).trans hy5.out)).c 1⟩
  go_upto_region 6 with (first
    | ((go_at_call 11); (with_reducible refine (dof_v (Hy.out.ext X5.out).rat (by omega)).mono ?_); rintro E6 w6 ⟨b6, A6, n6, c6, e6, B6, m6, d6, rfl, o6, hr6⟩; have X6 := hid (X5.out.trans hr6); have hy6 := hid hr6; clear hr6; have O6 := hid o6; clear o6; obtain ⟨f9_0, f9_1⟩ : w6.cell? ⟨w.heap.size + 1, 0, none⟩ = some (.bool sy) ∧ w6.cell? ⟨w.heap.size + 1, 1, none⟩ = some (.slice Py ly ky) := ⟨(By.out.ext ((((hy2.out.trans hy3.out).trans hy4.out).trans hy5.out).trans hy6.out)).c 0, (By.out.ext ((((hy2.out.trans hy3.out).trans hy4.out).trans hy5.out).trans hy6.out)).c 1⟩))
  clear f8_0 f8_1 f9_0 f9_1
  have hy7 := hid ((Ext.refl w6).alloc (.cells #[.bool b6, .slice A6 n6 c6, .bool e6, .slice B6 m6 d6] 37))
  have Bd_ := (Bk.new w6 37 #[.bool b6, .slice A6 n6 c6, .bool e6, .slice B6 m6 d6])
  have Bd := hid Bd_
  clear Bd_
  generalize (w6.alloc (.cells #[.bool b6, .slice A6 n6 c6, .bool e6, .slice B6 m6 d6] 37)) = w7 at *
  have X7 := hid (X6.out.trans hy7.out)
  obtain ⟨f11_0, f11_1, f11_2, f11_3, f11_4, f11_5, f11_6, f11_7⟩ : w7.cell? ⟨w6.heap.size, 0, none⟩ = some (.bool b6) ∧ w7.cell? ⟨w6.heap.size, 1, none⟩ = some (.slice A6 n6 c6) ∧ w7.cell? ⟨w6.heap.size, 2, none⟩ = some (.bool e6) ∧ w7.cell? ⟨w6.heap.size, 3, none⟩ = some (.slice B6 m6 d6) ∧ w7.cell? ⟨w2.heap.size, 0, none⟩ = some (.bool false) ∧ w7.cell? ⟨w2.heap.size, 1, none⟩ = some (.slice none 0 0) ∧ w7.cell? ⟨w2.heap.size, 2, none⟩ = some (.bool false) ∧ w7.cell? ⟨w2.heap.size, 3, none⟩ = some (.slice none 0 0) := ⟨Bd.out.c 0, Bd.out.c 1, Bd.out.c 2, Bd.out.c 3, (Bp.out.ext (((hy4.out.trans hy5.out).trans hy6.out).trans hy7.out)).c 0, (Bp.out.ext (((hy4.out.trans hy5.out).trans hy6.out).trans hy7.out)).c 1, (Bp.out.ext (((hy4.out.trans hy5.out).trans hy6.out).trans hy7.out)).c 2, (Bp.out.ext (((hy4.out.trans hy5.out).trans hy6.out).trans hy7.out)).c 3⟩
  go_upto_region 11 with (first
    | ((go_at_call 12); (with_reducible refine (dsign_is (v := 0) (O6.out.ext hy7.out) hs.out).mono ?_); rintro E8 w8 ⟨rfl, hr8⟩; have X8 := hid (X7.out.trans hr8); have hy8 := hid hr8; clear hr8; obtain ⟨f12_0, f12_1, f12_2, f12_3, f12_4, f12_5, f12_6, f12_7⟩ : w8.cell? ⟨w6.heap.size, 0, none⟩ = some (.bool b6) ∧ w8.cell? ⟨w6.heap.size, 1, none⟩ = some (.slice A6 n6 c6) ∧ w8.cell? ⟨w6.heap.size, 2, none⟩ = some (.bool e6) ∧ w8.cell? ⟨w6.heap.size, 3, none⟩ = some (.slice B6 m6 d6) ∧ w8.cell? ⟨w2.heap.size, 0, none⟩ = some (.bool false) ∧ w8.cell? ⟨w2.heap.size, 1, none⟩ = some (.slice none 0 0) ∧ w8.cell? ⟨w2.heap.size, 2, none⟩ = some (.bool false) ∧ w8.cell? ⟨w2.heap.size, 3, none⟩ = some (.slice none 0 0) := ⟨(Bd.out.ext hy8.out).c 0, (Bd.out.ext hy8.out).c 1, (Bd.out.ext hy8.out).c 2, (Bd.out.ext hy8.out).c 3, (Bp.out.ext ((((hy4.out.trans hy5.out).trans hy6.out).trans hy7.out).trans hy8.out)).c 0, (Bp.out.ext ((((hy4.out.trans hy5.out).trans hy6.out).trans hy7.out).trans hy8.out)).c 1, (Bp.out.ext ((((hy4.out.trans hy5.out).trans hy6.out).trans hy7.out).trans hy8.out)).c 2, (Bp.out.ext ((((hy4.out.trans hy5.out).trans hy6.out).trans hy7.out).trans hy8.out)).c 3⟩))
  clear f11_0 f11_1 f11_2 f11_3 f11_4 f11_5 f11_6 f11_7 f12_0 f12_1 f12_2 f12_3 f12_4 f12_5 f12_6 f12_7
  go_wp2_with (first
    | ((go_at_call 8); (with_reducible refine (known_any6).mono ?_); rintro E9 w9 ⟨rfl, hr9⟩; have X9 := hid (X8.out.trans hr9); have hy9 := hid hr9; clear hr9))
  go_ret
  exact ⟨rfl, X9.out⟩

set_option maxHeartbeats 6400000 in
set_option maxRecDepth 100000 in
theorem ratioOf_zb {w : World} {sx sy : Bool} {Px Py : Option Addr} {lx kx ly ky : Nat} {N a b : Int} (hx : Iz 8 w sx Px lx kx N) (hy : Iz 8 w sy Py ly ky 0) (hlx : lx ≤ 8) (hly : ly ≤ 8) (ha0 : -9223372036854775808 ≤ a) (ha1 : a ≤ 9223372036854775807) (hb0 : -9223372036854775808 ≤ b) (hb1 : b ≤ 9223372036854775807) (hb : b ≠ 0) :
    Calls Try.prog 3 #[.agg #[.bool sx, .slice Px lx kx], .agg #[.bool sy, .slice Py ly ky], .int .i64 a, .int .i64 b] w (RetE (.bool true) w) := by
  have hlx' : ¬ (8 : Int) < (lx : Int) := by omega
  have hly' : ¬ (8 : Int) < (ly : Int) := by omega
  have hb' : (b == 0) = false := beq_eq_false_iff_ne.2 hb
  have HB := hid hb
  clear hb
  have hs := hid (show rs ((0 : Int) : Rat) = 0 from rs_zero.2 (by simp))
  have Hx := hid hx
  have Hy := hid hy
  clear hx hy
  clear hlx hly
  go_enter Try.func3, Try.ntmps3
  go_upto_region 1 with fail
  have hy1 := hid (((Ext.refl w).alloc (.cells #[.bool sx, .slice Px lx kx] 24)).alloc (.cells #[.bool sy, .slice Py ly ky] 24))
  have Bx_ := ((Bk.new w 24 #[.bool sx, .slice Px lx kx]).ext ((Ext.refl (w.alloc (.cells #[.bool sx, .slice Px lx kx] 24))).alloc (.cells #[.bool sy, .slice Py ly ky] 24)))
  have Bx := hid Bx_
  clear Bx_
  have By_ := (Bk.new (w.alloc (.cells #[.bool sx, .slice Px lx kx] 24)) 24 #[.bool sy, .slice Py ly ky])
  rw [size_alloc] at By_
  have By := hid By_
  clear By_
  generalize ((w.alloc (.cells #[.bool sx, .slice Px lx kx] 24)).alloc (.cells #[.bool sy, .slice Py ly ky] 24)) = w1 at *
  have X1 := hid ((Ext.refl _).trans hy1.out)
  obtain ⟨f3_0, f3_1, f3_2, f3_3⟩ : w1.cell? ⟨w.heap.size, 0, none⟩ = some (.bool sx) ∧ w1.cell? ⟨w.heap.size, 1, none⟩ = some (.slice Px lx kx) ∧ w1.cell? ⟨w.heap.size + 1, 0, none⟩ = some (.bool sy) ∧ w1.cell? ⟨w.heap.size + 1, 1, none⟩ = some (.slice Py ly ky) := ⟨Bx.out.c 0, Bx.out.c 1, By.out.c 0, By.out.c 1⟩
  go_upto_region 3 with fail
  clear f3_0 f3_1 f3_2 f3_3
  obtain ⟨f4_0, f4_1, f4_2, f4_3⟩ : w1.cell? ⟨w.heap.size, 0, none⟩ = some (.bool sx) ∧ w1.cell? ⟨w.heap.size, 1, none⟩ = some (.slice Px lx kx) ∧ w1.cell? ⟨w.heap.size + 1, 0, none⟩ = some (.bool sy) ∧ w1.cell? ⟨w.heap.size + 1, 1, none⟩ = some (.slice Py ly ky) := ⟨Bx.out.c 0, Bx.out.c 1, By.out.c 0, By.out.c 1⟩
  go_upto_region 4 with (first
    | ((go_at_call 9); (with_reducible refine (rof_zero (Hx.out.ext X1.out) (Hy.out.ext X1.out) (by omega)).mono ?_); rintro E2 w2 ⟨rfl, hr2⟩; have X2 := hid (X1.out.trans hr2); have hy2 := hid hr2; clear hr2; obtain ⟨f5_0, f5_1, f5_2, f5_3⟩ : w2.cell? ⟨w.heap.size, 0, none⟩ = some (.bool sx) ∧ w2.cell? ⟨w.heap.size, 1, none⟩ = some (.slice Px lx kx) ∧ w2.cell? ⟨w.heap.size + 1, 0, none⟩ = some (.bool sy) ∧ w2.cell? ⟨w.heap.size + 1, 1, none⟩ = some (.slice Py ly ky) := ⟨(Bx.out.ext hy2.out).c 0, (Bx.out.ext hy2.out).c 1, (By.out.ext hy2.out).c 0, (By.out.ext hy2.out).c 1⟩))
  clear f4_0 f4_1 f4_2 f4_3 f5_0 f5_1 f5_2 f5_3
  have hy3 := hid ((Ext.refl w2).alloc (.cells #[.bool false, .slice none 0 0, .bool false, .slice none 0 0] 27))
  have Bp_ := (Bk.new w2 27 #[.bool false, .slice none 0 0, .bool false, .slice none 0 0])
  have Bp := hid Bp_
  clear Bp_
  generalize (w2.alloc (.cells #[.bool false, .slice none 0 0, .bool false, .slice none 0 0] 27)) = w3 at *
  have X3 := hid (X2.out.trans hy3.out)
  go_upto_region 5 with (first
    | ((go_at_call 10); (with_reducible refine (qsm_v (a := a) (b := b) ha0 ha1 hb0 hb1 HB.out).mono ?_); rintro E4 w4 ⟨b4, A4, n4, c4, e4, B4, m4, d4, rfl, o4, hr4⟩; have X4 := hid (X3.out.trans hr4); have hy4 := hid hr4; clear hr4; have O4 := hid (o4.mono X3.out.size); clear o4))
  have hy5 := hid ((Ext.refl w4).alloc (.cells #[.bool b4, .slice A4 n4 c4, .bool e4, .slice B4 m4 d4] 27))
  have Bs_ := (Bk.new w4 27 #[.bool b4, .slice A4 n4 c4, .bool e4, .slice B4 m4 d4])
  have Bs := hid Bs_
  clear Bs_
  generalize (w4.alloc (.cells #[.bool b4, .slice A4 n4 c4, .bool e4, .slice B4 m4 d4] 27)) = w5 at *
  have X5 := hid (X4.out.trans hy5.out)
  obtain ⟨f8_0, f8_1⟩ : w5.cell? ⟨w.heap.size + 1, 0, none⟩ = some (.bool sy) ∧ w5.cell? ⟨w.heap.size + 1, 1, none⟩ = some (.slice Py ly ky) := ⟨(By.out.ext (((hy2.out.trans hy3.out).trans hy4.out).trans hy5.out)).c 0, (By.out.ext (((hy2.out.trans hy3.out).trans hy4.out).trans hy5.out)).c 1⟩
  go_upto_region 6 with (first
    | ((go_at_call 11); (with_reducible refine (dof_v (Hy.out.ext X5.out).rat (by omega)).mono ?_); rintro E6 w6 ⟨b6, A6, n6, c6, e6, B6, m6, d6, rfl, o6, hr6⟩; have X6 := hid (X5.out.trans hr6); have hy6 := hid hr6; clear hr6; have O6 := hid o6; clear o6; obtain ⟨f9_0, f9_1⟩ : w6.cell? ⟨w.heap.size + 1, 0, none⟩ = some (.bool sy) ∧ w6.cell? ⟨w.heap.size + 1, 1, none⟩ = some (.slice Py ly ky) := ⟨(By.out.ext ((((hy2.out.trans hy3.out).trans hy4.out).trans hy5.out).trans hy6.out)).c 0, (By.out.ext ((((hy2.out.trans hy3.out).trans hy4.out).trans hy5.out).trans hy6.out)).c 1⟩))
  clear f8_0 f8_1 f9_0 f9_1
  have hy7 := hid ((Ext.refl w6).alloc (.cells #[.bool b6, .slice A6 n6 c6, .bool e6, .slice B6 m6 d6] 37))
  have Bd_ := (Bk.new w6 37 #[.bool b6, .slice A6 n6 c6, .bool e6, .slice B6 m6 d6])
  have Bd := hid Bd_
  clear Bd_
  generalize (w6.alloc (.cells #[.bool b6, .slice A6 n6 c6, .bool e6, .slice B6 m6 d6] 37)) = w7 at *
  have X7 := hid (X6.out.trans hy7.out)
  obtain ⟨f11_0, f11_1, f11_2, f11_3, f11_4, f11_5, f11_6, f11_7⟩ : w7.cell? ⟨w6.heap.size, 0, none⟩ = some (.bool b6) ∧ w7.cell? ⟨w6.heap.size, 1, none⟩ = some (.slice A6 n6 c6) ∧ w7.cell? ⟨w6.heap.size, 2, none⟩ = some (.bool e6) ∧ w7.cell? ⟨w6.heap.size, 3, none⟩ = some (.slice B6 m6 d6) ∧ w7.cell? ⟨w2.heap.size, 0, none⟩ = some (.bool false) ∧ w7.cell? ⟨w2.heap.size, 1, none⟩ = some (.slice none 0 0) ∧ w7.cell? ⟨w2.heap.size, 2, none⟩ = some (.bool false) ∧ w7.cell? ⟨w2.heap.size, 3, none⟩ = some (.slice none 0 0) := ⟨Bd.out.c 0, Bd.out.c 1, Bd.out.c 2, Bd.out.c 3, (Bp.out.ext (((hy4.out.trans hy5.out).trans hy6.out).trans hy7.out)).c 0, (Bp.out.ext (((hy4.out.trans hy5.out).trans hy6.out).trans hy7.out)).c 1, (Bp.out.ext (((hy4.out.trans hy5.out).trans hy6.out).trans hy7.out)).c 2, (Bp.out.ext (((hy4.out.trans hy5.out).trans hy6.out).trans hy7.out)).c 3⟩
  go_upto_region 11 with (first
    | ((go_at_call 12); (with_reducible refine (dsign_is (v := 0) (O6.out.ext hy7.out) hs.out).mono ?_); rintro E8 w8 ⟨rfl, hr8⟩; have X8 := hid (X7.out.trans hr8); have hy8 := hid hr8; clear hr8; obtain ⟨f12_0, f12_1, f12_2, f12_3, f12_4, f12_5, f12_6, f12_7⟩ : w8.cell? ⟨w6.heap.size, 0, none⟩ = some (.bool b6) ∧ w8.cell? ⟨w6.heap.size, 1, none⟩ = some (.slice A6 n6 c6) ∧ w8.cell? ⟨w6.heap.size, 2, none⟩ = some (.bool e6) ∧ w8.cell? ⟨w6.heap.size, 3, none⟩ = some (.slice B6 m6 d6) ∧ w8.cell? ⟨w2.heap.size, 0, none⟩ = some (.bool false) ∧ w8.cell? ⟨w2.heap.size, 1, none⟩ = some (.slice none 0 0) ∧ w8.cell? ⟨w2.heap.size, 2, none⟩ = some (.bool false) ∧ w8.cell? ⟨w2.heap.size, 3, none⟩ = some (.slice none 0 0) := ⟨(Bd.out.ext hy8.out).c 0, (Bd.out.ext hy8.out).c 1, (Bd.out.ext hy8.out).c 2, (Bd.out.ext hy8.out).c 3, (Bp.out.ext ((((hy4.out.trans hy5.out).trans hy6.out).trans hy7.out).trans hy8.out)).c 0, (Bp.out.ext ((((hy4.out.trans hy5.out).trans hy6.out).trans hy7.out).trans hy8.out)).c 1, (Bp.out.ext ((((hy4.out.trans hy5.out).trans hy6.out).trans hy7.out).trans hy8.out)).c 2, (Bp.out.ext ((((hy4.out.trans hy5.out).trans hy6.out).trans hy7.out).trans hy8.out)).c 3⟩))
  clear f11_0 f11_1 f11_2 f11_3 f11_4 f11_5 f11_6 f11_7 f12_0 f12_1 f12_2 f12_3 f12_4 f12_5 f12_6 f12_7
  go_upto_region 13 with fail
  have hk13_0 : w8.cell? ⟨w4.heap.size, 0, none⟩ = some (.bool b4) ∧ w8.cell? ⟨w4.heap.size, 1, none⟩ = some (.slice A4 n4 c4) ∧ w8.cell? ⟨w4.heap.size, 2, none⟩ = some (.bool e4) ∧ w8.cell? ⟨w4.heap.size, 3, none⟩ = some (.slice B4 m4 d4) := ⟨(Bs.out.ext ((hy6.out.trans hy7.out).trans hy8.out)).c 0, (Bs.out.ext ((hy6.out.trans hy7.out).trans hy8.out)).c 1, (Bs.out.ext ((hy6.out.trans hy7.out).trans hy8.out)).c 2, (Bs.out.ext ((hy6.out.trans hy7.out).trans hy8.out)).c 3⟩
  have hk13_1 : w8.drew.cell? ⟨w4.heap.size, 0, none⟩ = some (.bool b4) ∧ w8.drew.cell? ⟨w4.heap.size, 1, none⟩ = some (.slice A4 n4 c4) ∧ w8.drew.cell? ⟨w4.heap.size, 2, none⟩ = some (.bool e4) ∧ w8.drew.cell? ⟨w4.heap.size, 3, none⟩ = some (.slice B4 m4 d4) := ⟨(Bs.out.ext (((hy6.out.trans hy7.out).trans hy8.out).trans (Ext.refl _).drew)).c 0, (Bs.out.ext (((hy6.out.trans hy7.out).trans hy8.out).trans (Ext.refl _).drew)).c 1, (Bs.out.ext (((hy6.out.trans hy7.out).trans hy8.out).trans (Ext.refl _).drew)).c 2, (Bs.out.ext (((hy6.out.trans hy7.out).trans hy8.out).trans (Ext.refl _).drew)).c 3⟩
  go_region_held3 (fun w' => w'.cell? ⟨w4.heap.size, 0, none⟩ = some (.bool b4) ∧ w'.cell? ⟨w4.heap.size, 1, none⟩ = some (.slice A4 n4 c4) ∧ w'.cell? ⟨w4.heap.size, 2, none⟩ = some (.bool e4) ∧ w'.cell? ⟨w4.heap.size, 3, none⟩ = some (.slice B4 m4 d4))
    (first | (with_reducible exact hk13_0) | (with_reducible exact hk13_1) | (with_reducible exact hk13_2) | (with_reducible exact hk13_3) | (with_reducible exact hk13_4) | (with_reducible exact hk13_5))
    (first
      | ((go_at_call 16); (with_reducible refine (dsmall_v ha0 ha1 hb0 hb1 HB.out).mono ?_); rintro E10 w10 ⟨b10, A10, n10, c10, e10, B10, m10, d10, rfl, o10, hr10⟩; have X10 := hid ((X8.out.trans (Ext.refl _).drew).trans hr10); have hy10 := hid hr10; clear hr10; have O10 := hid o10; clear o10; have hk13_2 : w10.cell? ⟨w4.heap.size, 0, none⟩ = some (.bool b4) ∧ w10.cell? ⟨w4.heap.size, 1, none⟩ = some (.slice A4 n4 c4) ∧ w10.cell? ⟨w4.heap.size, 2, none⟩ = some (.bool e4) ∧ w10.cell? ⟨w4.heap.size, 3, none⟩ = some (.slice B4 m4 d4) := ⟨(Bs.out.ext ((((hy6.out.trans hy7.out).trans hy8.out).trans (Ext.refl _).drew).trans hy10.out)).c 0, (Bs.out.ext ((((hy6.out.trans hy7.out).trans hy8.out).trans (Ext.refl _).drew).trans hy10.out)).c 1, (Bs.out.ext ((((hy6.out.trans hy7.out).trans hy8.out).trans (Ext.refl _).drew).trans hy10.out)).c 2, (Bs.out.ext ((((hy6.out.trans hy7.out).trans hy8.out).trans (Ext.refl _).drew).trans hy10.out)).c 3⟩)
      | ((go_at_call 15); (with_reducible refine (drat_v O10.out (by omega)).mono ?_); rintro E11 w11 ⟨b11, A11, n11, c11, e11, B11, m11, d11, rfl, o11, hr11⟩; have X11 := hid (X10.out.trans hr11); have hy11 := hid hr11; clear hr11; have O11 := hid (o11.mono X10.out.size); clear o11; have hk13_3 : w11.cell? ⟨w4.heap.size, 0, none⟩ = some (.bool b4) ∧ w11.cell? ⟨w4.heap.size, 1, none⟩ = some (.slice A4 n4 c4) ∧ w11.cell? ⟨w4.heap.size, 2, none⟩ = some (.bool e4) ∧ w11.cell? ⟨w4.heap.size, 3, none⟩ = some (.slice B4 m4 d4) := ⟨(Bs.out.ext (((((hy6.out.trans hy7.out).trans hy8.out).trans (Ext.refl _).drew).trans hy10.out).trans hy11.out)).c 0, (Bs.out.ext (((((hy6.out.trans hy7.out).trans hy8.out).trans (Ext.refl _).drew).trans hy10.out).trans hy11.out)).c 1, (Bs.out.ext (((((hy6.out.trans hy7.out).trans hy8.out).trans (Ext.refl _).drew).trans hy10.out).trans hy11.out)).c 2, (Bs.out.ext (((((hy6.out.trans hy7.out).trans hy8.out).trans (Ext.refl _).drew).trans hy10.out).trans hy11.out)).c 3⟩)
      | ((go_at_call 13); (with_reducible refine (dsame_v (O4.out.ext ((((((hy5.out.trans hy6.out).trans hy7.out).trans hy8.out).trans (Ext.refl _).drew).trans hy10.out).trans hy11.out)) O11.out (by omega) rfl).mono ?_); rintro E12 w12 ⟨rfl, hr12⟩; have X12 := hid (X11.out.trans hr12); have hy12 := hid hr12; clear hr12; have hk13_4 : w12.cell? ⟨w4.heap.size, 0, none⟩ = some (.bool b4) ∧ w12.cell? ⟨w4.heap.size, 1, none⟩ = some (.slice A4 n4 c4) ∧ w12.cell? ⟨w4.heap.size, 2, none⟩ = some (.bool e4) ∧ w12.cell? ⟨w4.heap.size, 3, none⟩ = some (.slice B4 m4 d4) := ⟨(Bs.out.ext ((((((hy6.out.trans hy7.out).trans hy8.out).trans (Ext.refl _).drew).trans hy10.out).trans hy11.out).trans hy12.out)).c 0, (Bs.out.ext ((((((hy6.out.trans hy7.out).trans hy8.out).trans (Ext.refl _).drew).trans hy10.out).trans hy11.out).trans hy12.out)).c 1, (Bs.out.ext ((((((hy6.out.trans hy7.out).trans hy8.out).trans (Ext.refl _).drew).trans hy10.out).trans hy11.out).trans hy12.out)).c 2, (Bs.out.ext ((((((hy6.out.trans hy7.out).trans hy8.out).trans (Ext.refl _).drew).trans hy10.out).trans hy11.out).trans hy12.out)).c 3⟩)
      | ((go_at_call 8); (with_reducible refine (known_any6).mono ?_); rintro E13 w13 ⟨rfl, hr13⟩; have X13 := hid (X12.out.trans hr13); have hy13 := hid hr13; clear hr13; have hk13_5 : w13.cell? ⟨w4.heap.size, 0, none⟩ = some (.bool b4) ∧ w13.cell? ⟨w4.heap.size, 1, none⟩ = some (.slice A4 n4 c4) ∧ w13.cell? ⟨w4.heap.size, 2, none⟩ = some (.bool e4) ∧ w13.cell? ⟨w4.heap.size, 3, none⟩ = some (.slice B4 m4 d4) := ⟨(Bs.out.ext (((((((hy6.out.trans hy7.out).trans hy8.out).trans (Ext.refl _).drew).trans hy10.out).trans hy11.out).trans hy12.out).trans hy13.out)).c 0, (Bs.out.ext (((((((hy6.out.trans hy7.out).trans hy8.out).trans (Ext.refl _).drew).trans hy10.out).trans hy11.out).trans hy12.out).trans hy13.out)).c 1, (Bs.out.ext (((((((hy6.out.trans hy7.out).trans hy8.out).trans (Ext.refl _).drew).trans hy10.out).trans hy11.out).trans hy12.out).trans hy13.out)).c 2, (Bs.out.ext (((((((hy6.out.trans hy7.out).trans hy8.out).trans (Ext.refl _).drew).trans hy10.out).trans hy11.out).trans hy12.out).trans hy13.out)).c 3⟩))
  clear hk13_0 hk13_1 hk13_2 hk13_3 hk13_4 hk13_5
  go_wp2_with fail
  go_ret
  exact ⟨rfl, X13.out⟩

set_option maxHeartbeats 6400000 in
set_option maxRecDepth 100000 in
theorem ratioOf_dz {w : World} {sx sy : Bool} {Px Py : Option Addr} {lx kx ly ky : Nat} {N D a : Int} (hx : Iz 8 w sx Px lx kx N) (hy : Iz 8 w sy Py ly ky D) (hlx : lx ≤ 8) (hly : ly ≤ 8) (ha0 : -9223372036854775808 ≤ a) (ha1 : a ≤ 9223372036854775807) (hD : D ≠ 0) :
    Calls Try.prog 3 #[.agg #[.bool sx, .slice Px lx kx], .agg #[.bool sy, .slice Py ly ky], .int .i64 a, .int .i64 0] w (RetE (.bool true) w) := by
  have hlx' : ¬ (8 : Int) < (lx : Int) := by omega
  have hly' : ¬ (8 : Int) < (ly : Int) := by omega
  obtain ⟨v, hv, hv0⟩ : ∃ v : Int, rs (D : Rat) = v ∧ (v == 0) = false := by
    refine ⟨_, rfl, ?_⟩
    rw [beq_eq_false_iff_ne]
    exact fun e => hD (by have := rs_zero.1 e; simpa using this)
  have hs := hid hv
  have HD := hid hD
  have HR := hid (cast_ne hD)
  clear hv hD
  have Hx := hid hx
  have Hy := hid hy
  clear hx hy
  clear hlx hly
  go_enter Try.func3, Try.ntmps3
  go_upto_region 1 with fail
  have hy1 := hid (((Ext.refl w).alloc (.cells #[.bool sx, .slice Px lx kx] 24)).alloc (.cells #[.bool sy, .slice Py ly ky] 24))
  have Bx_ := ((Bk.new w 24 #[.bool sx, .slice Px lx kx]).ext ((Ext.refl (w.alloc (.cells #[.bool sx, .slice Px lx kx] 24))).alloc (.cells #[.bool sy, .slice Py ly ky] 24)))
  have Bx := hid Bx_
  clear Bx_
  have By_ := (Bk.new (w.alloc (.cells #[.bool sx, .slice Px lx kx] 24)) 24 #[.bool sy, .slice Py ly ky])
  rw [size_alloc] at By_
  have By := hid By_
  clear By_
  generalize ((w.alloc (.cells #[.bool sx, .slice Px lx kx] 24)).alloc (.cells #[.bool sy, .slice Py ly ky] 24)) = w1 at *
  have X1 := hid ((Ext.refl _).trans hy1.out)
  obtain ⟨f3_0, f3_1, f3_2, f3_3⟩ : w1.cell? ⟨w.heap.size, 0, none⟩ = some (.bool sx) ∧ w1.cell? ⟨w.heap.size, 1, none⟩ = some (.slice Px lx kx) ∧ w1.cell? ⟨w.heap.size + 1, 0, none⟩ = some (.bool sy) ∧ w1.cell? ⟨w.heap.size + 1, 1, none⟩ = some (.slice Py ly ky) := ⟨Bx.out.c 0, Bx.out.c 1, By.out.c 0, By.out.c 1⟩
  go_upto_region 3 with fail
  clear f3_0 f3_1 f3_2 f3_3
  obtain ⟨f4_0, f4_1, f4_2, f4_3⟩ : w1.cell? ⟨w.heap.size, 0, none⟩ = some (.bool sx) ∧ w1.cell? ⟨w.heap.size, 1, none⟩ = some (.slice Px lx kx) ∧ w1.cell? ⟨w.heap.size + 1, 0, none⟩ = some (.bool sy) ∧ w1.cell? ⟨w.heap.size + 1, 1, none⟩ = some (.slice Py ly ky) := ⟨Bx.out.c 0, Bx.out.c 1, By.out.c 0, By.out.c 1⟩
  go_upto_region 4 with (first
    | ((go_at_call 9); (with_reducible refine (rof_v 8 (Hx.out.ext X1.out) (Hy.out.ext X1.out) HD.out (by omega) (by omega) (by omega)).mono ?_); rintro E2 w2 ⟨b2, A2, n2, c2, e2, B2, m2, d2, rfl, o2, hr2⟩; have X2 := hid (X1.out.trans hr2); have hy2 := hid hr2; clear hr2; have O2 := hid (o2.mono X1.out.size); clear o2; obtain ⟨f5_0, f5_1, f5_2, f5_3⟩ : w2.cell? ⟨w.heap.size, 0, none⟩ = some (.bool sx) ∧ w2.cell? ⟨w.heap.size, 1, none⟩ = some (.slice Px lx kx) ∧ w2.cell? ⟨w.heap.size + 1, 0, none⟩ = some (.bool sy) ∧ w2.cell? ⟨w.heap.size + 1, 1, none⟩ = some (.slice Py ly ky) := ⟨(Bx.out.ext hy2.out).c 0, (Bx.out.ext hy2.out).c 1, (By.out.ext hy2.out).c 0, (By.out.ext hy2.out).c 1⟩))
  clear f4_0 f4_1 f4_2 f4_3 f5_0 f5_1 f5_2 f5_3
  have hy3 := hid ((Ext.refl w2).alloc (.cells #[.bool b2, .slice A2 n2 c2, .bool e2, .slice B2 m2 d2] 27))
  have Bp_ := (Bk.new w2 27 #[.bool b2, .slice A2 n2 c2, .bool e2, .slice B2 m2 d2])
  have Bp := hid Bp_
  clear Bp_
  generalize (w2.alloc (.cells #[.bool b2, .slice A2 n2 c2, .bool e2, .slice B2 m2 d2] 27)) = w3 at *
  have X3 := hid (X2.out.trans hy3.out)
  go_upto_region 5 with (first
    | ((go_at_call 10); (with_reducible refine (qsm_zero (a := a) ha0 ha1).mono ?_); rintro E4 w4 ⟨rfl, hr4⟩; have X4 := hid (X3.out.trans hr4); have hy4 := hid hr4; clear hr4))
  have hy5 := hid ((Ext.refl w4).alloc (.cells #[.bool false, .slice none 0 0, .bool false, .slice none 0 0] 27))
  have Bs_ := (Bk.new w4 27 #[.bool false, .slice none 0 0, .bool false, .slice none 0 0])
  have Bs := hid Bs_
  clear Bs_
  generalize (w4.alloc (.cells #[.bool false, .slice none 0 0, .bool false, .slice none 0 0] 27)) = w5 at *
  have X5 := hid (X4.out.trans hy5.out)
  obtain ⟨f8_0, f8_1⟩ : w5.cell? ⟨w.heap.size + 1, 0, none⟩ = some (.bool sy) ∧ w5.cell? ⟨w.heap.size + 1, 1, none⟩ = some (.slice Py ly ky) := ⟨(By.out.ext (((hy2.out.trans hy3.out).trans hy4.out).trans hy5.out)).c 0, (By.out.ext (((hy2.out.trans hy3.out).trans hy4.out).trans hy5.out)).c 1⟩
  go_upto_region 6 with (first
    | ((go_at_call 11); (with_reducible refine (dof_v (Hy.out.ext X5.out).rat (by omega)).mono ?_); rintro E6 w6 ⟨b6, A6, n6, c6, e6, B6, m6, d6, rfl, o6, hr6⟩; have X6 := hid (X5.out.trans hr6); have hy6 := hid hr6; clear hr6; have O6 := hid o6; clear o6; obtain ⟨f9_0, f9_1⟩ : w6.cell? ⟨w.heap.size + 1, 0, none⟩ = some (.bool sy) ∧ w6.cell? ⟨w.heap.size + 1, 1, none⟩ = some (.slice Py ly ky) := ⟨(By.out.ext ((((hy2.out.trans hy3.out).trans hy4.out).trans hy5.out).trans hy6.out)).c 0, (By.out.ext ((((hy2.out.trans hy3.out).trans hy4.out).trans hy5.out).trans hy6.out)).c 1⟩))
  clear f8_0 f8_1 f9_0 f9_1
  have hy7 := hid ((Ext.refl w6).alloc (.cells #[.bool b6, .slice A6 n6 c6, .bool e6, .slice B6 m6 d6] 37))
  have Bd_ := (Bk.new w6 37 #[.bool b6, .slice A6 n6 c6, .bool e6, .slice B6 m6 d6])
  have Bd := hid Bd_
  clear Bd_
  generalize (w6.alloc (.cells #[.bool b6, .slice A6 n6 c6, .bool e6, .slice B6 m6 d6] 37)) = w7 at *
  have X7 := hid (X6.out.trans hy7.out)
  obtain ⟨f11_0, f11_1, f11_2, f11_3⟩ : w7.cell? ⟨w6.heap.size, 0, none⟩ = some (.bool b6) ∧ w7.cell? ⟨w6.heap.size, 1, none⟩ = some (.slice A6 n6 c6) ∧ w7.cell? ⟨w6.heap.size, 2, none⟩ = some (.bool e6) ∧ w7.cell? ⟨w6.heap.size, 3, none⟩ = some (.slice B6 m6 d6) := ⟨Bd.out.c 0, Bd.out.c 1, Bd.out.c 2, Bd.out.c 3⟩
  go_upto_region 9 with (first
    | ((go_at_call 12); (with_reducible refine (dsign_is (v := v) (O6.out.ext hy7.out) hs.out).mono ?_); rintro E8 w8 ⟨rfl, hr8⟩; have X8 := hid (X7.out.trans hr8); have hy8 := hid hr8; clear hr8; obtain ⟨f12_0, f12_1, f12_2, f12_3⟩ : w8.cell? ⟨w6.heap.size, 0, none⟩ = some (.bool b6) ∧ w8.cell? ⟨w6.heap.size, 1, none⟩ = some (.slice A6 n6 c6) ∧ w8.cell? ⟨w6.heap.size, 2, none⟩ = some (.bool e6) ∧ w8.cell? ⟨w6.heap.size, 3, none⟩ = some (.slice B6 m6 d6) := ⟨(Bd.out.ext hy8.out).c 0, (Bd.out.ext hy8.out).c 1, (Bd.out.ext hy8.out).c 2, (Bd.out.ext hy8.out).c 3⟩))
  clear f11_0 f11_1 f11_2 f11_3 f12_0 f12_1 f12_2 f12_3
  have hk13_0 : w8.cell? ⟨w2.heap.size, 0, none⟩ = some (.bool b2) ∧ w8.cell? ⟨w2.heap.size, 1, none⟩ = some (.slice A2 n2 c2) ∧ w8.cell? ⟨w2.heap.size, 2, none⟩ = some (.bool e2) ∧ w8.cell? ⟨w2.heap.size, 3, none⟩ = some (.slice B2 m2 d2) ∧ w8.cell? ⟨w.heap.size, 0, none⟩ = some (.bool sx) ∧ w8.cell? ⟨w.heap.size, 1, none⟩ = some (.slice Px lx kx) ∧ w8.cell? ⟨w6.heap.size, 0, none⟩ = some (.bool b6) ∧ w8.cell? ⟨w6.heap.size, 1, none⟩ = some (.slice A6 n6 c6) ∧ w8.cell? ⟨w6.heap.size, 2, none⟩ = some (.bool e6) ∧ w8.cell? ⟨w6.heap.size, 3, none⟩ = some (.slice B6 m6 d6) := ⟨(Bp.out.ext ((((hy4.out.trans hy5.out).trans hy6.out).trans hy7.out).trans hy8.out)).c 0, (Bp.out.ext ((((hy4.out.trans hy5.out).trans hy6.out).trans hy7.out).trans hy8.out)).c 1, (Bp.out.ext ((((hy4.out.trans hy5.out).trans hy6.out).trans hy7.out).trans hy8.out)).c 2, (Bp.out.ext ((((hy4.out.trans hy5.out).trans hy6.out).trans hy7.out).trans hy8.out)).c 3, (Bx.out.ext ((((((hy2.out.trans hy3.out).trans hy4.out).trans hy5.out).trans hy6.out).trans hy7.out).trans hy8.out)).c 0, (Bx.out.ext ((((((hy2.out.trans hy3.out).trans hy4.out).trans hy5.out).trans hy6.out).trans hy7.out).trans hy8.out)).c 1, (Bd.out.ext hy8.out).c 0, (Bd.out.ext hy8.out).c 1, (Bd.out.ext hy8.out).c 2, (Bd.out.ext hy8.out).c 3⟩
  have hk13_1 : w8.drew.cell? ⟨w2.heap.size, 0, none⟩ = some (.bool b2) ∧ w8.drew.cell? ⟨w2.heap.size, 1, none⟩ = some (.slice A2 n2 c2) ∧ w8.drew.cell? ⟨w2.heap.size, 2, none⟩ = some (.bool e2) ∧ w8.drew.cell? ⟨w2.heap.size, 3, none⟩ = some (.slice B2 m2 d2) ∧ w8.drew.cell? ⟨w.heap.size, 0, none⟩ = some (.bool sx) ∧ w8.drew.cell? ⟨w.heap.size, 1, none⟩ = some (.slice Px lx kx) ∧ w8.drew.cell? ⟨w6.heap.size, 0, none⟩ = some (.bool b6) ∧ w8.drew.cell? ⟨w6.heap.size, 1, none⟩ = some (.slice A6 n6 c6) ∧ w8.drew.cell? ⟨w6.heap.size, 2, none⟩ = some (.bool e6) ∧ w8.drew.cell? ⟨w6.heap.size, 3, none⟩ = some (.slice B6 m6 d6) := ⟨(Bp.out.ext (((((hy4.out.trans hy5.out).trans hy6.out).trans hy7.out).trans hy8.out).trans (Ext.refl _).drew)).c 0, (Bp.out.ext (((((hy4.out.trans hy5.out).trans hy6.out).trans hy7.out).trans hy8.out).trans (Ext.refl _).drew)).c 1, (Bp.out.ext (((((hy4.out.trans hy5.out).trans hy6.out).trans hy7.out).trans hy8.out).trans (Ext.refl _).drew)).c 2, (Bp.out.ext (((((hy4.out.trans hy5.out).trans hy6.out).trans hy7.out).trans hy8.out).trans (Ext.refl _).drew)).c 3, (Bx.out.ext (((((((hy2.out.trans hy3.out).trans hy4.out).trans hy5.out).trans hy6.out).trans hy7.out).trans hy8.out).trans (Ext.refl _).drew)).c 0, (Bx.out.ext (((((((hy2.out.trans hy3.out).trans hy4.out).trans hy5.out).trans hy6.out).trans hy7.out).trans hy8.out).trans (Ext.refl _).drew)).c 1, (Bd.out.ext (hy8.out.trans (Ext.refl _).drew)).c 0, (Bd.out.ext (hy8.out.trans (Ext.refl _).drew)).c 1, (Bd.out.ext (hy8.out.trans (Ext.refl _).drew)).c 2, (Bd.out.ext (hy8.out.trans (Ext.refl _).drew)).c 3⟩
  go_region_held3 (fun w' => w'.cell? ⟨w2.heap.size, 0, none⟩ = some (.bool b2) ∧ w'.cell? ⟨w2.heap.size, 1, none⟩ = some (.slice A2 n2 c2) ∧ w'.cell? ⟨w2.heap.size, 2, none⟩ = some (.bool e2) ∧ w'.cell? ⟨w2.heap.size, 3, none⟩ = some (.slice B2 m2 d2) ∧ w'.cell? ⟨w.heap.size, 0, none⟩ = some (.bool sx) ∧ w'.cell? ⟨w.heap.size, 1, none⟩ = some (.slice Px lx kx) ∧ w'.cell? ⟨w6.heap.size, 0, none⟩ = some (.bool b6) ∧ w'.cell? ⟨w6.heap.size, 1, none⟩ = some (.slice A6 n6 c6) ∧ w'.cell? ⟨w6.heap.size, 2, none⟩ = some (.bool e6) ∧ w'.cell? ⟨w6.heap.size, 3, none⟩ = some (.slice B6 m6 d6))
    (first | (with_reducible exact hk13_0) | (with_reducible exact hk13_1) | (with_reducible exact hk13_2) | (with_reducible exact hk13_3) | (with_reducible exact hk13_4) | (with_reducible exact hk13_5))
    (first
      | ((go_at_call 11); (with_reducible refine (dof_v (Hx.out.ext (X8.out.trans (Ext.refl _).drew)).rat (by omega)).mono ?_); rintro E10 w10 ⟨b10, A10, n10, c10, e10, B10, m10, d10, rfl, o10, hr10⟩; have X10 := hid ((X8.out.trans (Ext.refl _).drew).trans hr10); have hy10 := hid hr10; clear hr10; have O10 := hid o10; clear o10; have hk13_2 : w10.cell? ⟨w2.heap.size, 0, none⟩ = some (.bool b2) ∧ w10.cell? ⟨w2.heap.size, 1, none⟩ = some (.slice A2 n2 c2) ∧ w10.cell? ⟨w2.heap.size, 2, none⟩ = some (.bool e2) ∧ w10.cell? ⟨w2.heap.size, 3, none⟩ = some (.slice B2 m2 d2) ∧ w10.cell? ⟨w.heap.size, 0, none⟩ = some (.bool sx) ∧ w10.cell? ⟨w.heap.size, 1, none⟩ = some (.slice Px lx kx) ∧ w10.cell? ⟨w6.heap.size, 0, none⟩ = some (.bool b6) ∧ w10.cell? ⟨w6.heap.size, 1, none⟩ = some (.slice A6 n6 c6) ∧ w10.cell? ⟨w6.heap.size, 2, none⟩ = some (.bool e6) ∧ w10.cell? ⟨w6.heap.size, 3, none⟩ = some (.slice B6 m6 d6) := ⟨(Bp.out.ext ((((((hy4.out.trans hy5.out).trans hy6.out).trans hy7.out).trans hy8.out).trans (Ext.refl _).drew).trans hy10.out)).c 0, (Bp.out.ext ((((((hy4.out.trans hy5.out).trans hy6.out).trans hy7.out).trans hy8.out).trans (Ext.refl _).drew).trans hy10.out)).c 1, (Bp.out.ext ((((((hy4.out.trans hy5.out).trans hy6.out).trans hy7.out).trans hy8.out).trans (Ext.refl _).drew).trans hy10.out)).c 2, (Bp.out.ext ((((((hy4.out.trans hy5.out).trans hy6.out).trans hy7.out).trans hy8.out).trans (Ext.refl _).drew).trans hy10.out)).c 3, (Bx.out.ext ((((((((hy2.out.trans hy3.out).trans hy4.out).trans hy5.out).trans hy6.out).trans hy7.out).trans hy8.out).trans (Ext.refl _).drew).trans hy10.out)).c 0, (Bx.out.ext ((((((((hy2.out.trans hy3.out).trans hy4.out).trans hy5.out).trans hy6.out).trans hy7.out).trans hy8.out).trans (Ext.refl _).drew).trans hy10.out)).c 1, (Bd.out.ext ((hy8.out.trans (Ext.refl _).drew).trans hy10.out)).c 0, (Bd.out.ext ((hy8.out.trans (Ext.refl _).drew).trans hy10.out)).c 1, (Bd.out.ext ((hy8.out.trans (Ext.refl _).drew).trans hy10.out)).c 2, (Bd.out.ext ((hy8.out.trans (Ext.refl _).drew).trans hy10.out)).c 3⟩)
      | ((go_at_call 14); (with_reducible refine (ddiv_v O10.out (O6.out.ext (((hy7.out.trans hy8.out).trans (Ext.refl _).drew).trans hy10.out)) HR.out (by omega)).mono ?_); rintro E11 w11 ⟨b11, A11, n11, c11, e11, B11, m11, d11, rfl, o11, hr11⟩; have X11 := hid (X10.out.trans hr11); have hy11 := hid hr11; clear hr11; have O11 := hid o11; clear o11; have hk13_3 : w11.cell? ⟨w2.heap.size, 0, none⟩ = some (.bool b2) ∧ w11.cell? ⟨w2.heap.size, 1, none⟩ = some (.slice A2 n2 c2) ∧ w11.cell? ⟨w2.heap.size, 2, none⟩ = some (.bool e2) ∧ w11.cell? ⟨w2.heap.size, 3, none⟩ = some (.slice B2 m2 d2) ∧ w11.cell? ⟨w.heap.size, 0, none⟩ = some (.bool sx) ∧ w11.cell? ⟨w.heap.size, 1, none⟩ = some (.slice Px lx kx) ∧ w11.cell? ⟨w6.heap.size, 0, none⟩ = some (.bool b6) ∧ w11.cell? ⟨w6.heap.size, 1, none⟩ = some (.slice A6 n6 c6) ∧ w11.cell? ⟨w6.heap.size, 2, none⟩ = some (.bool e6) ∧ w11.cell? ⟨w6.heap.size, 3, none⟩ = some (.slice B6 m6 d6) := ⟨(Bp.out.ext (((((((hy4.out.trans hy5.out).trans hy6.out).trans hy7.out).trans hy8.out).trans (Ext.refl _).drew).trans hy10.out).trans hy11.out)).c 0, (Bp.out.ext (((((((hy4.out.trans hy5.out).trans hy6.out).trans hy7.out).trans hy8.out).trans (Ext.refl _).drew).trans hy10.out).trans hy11.out)).c 1, (Bp.out.ext (((((((hy4.out.trans hy5.out).trans hy6.out).trans hy7.out).trans hy8.out).trans (Ext.refl _).drew).trans hy10.out).trans hy11.out)).c 2, (Bp.out.ext (((((((hy4.out.trans hy5.out).trans hy6.out).trans hy7.out).trans hy8.out).trans (Ext.refl _).drew).trans hy10.out).trans hy11.out)).c 3, (Bx.out.ext (((((((((hy2.out.trans hy3.out).trans hy4.out).trans hy5.out).trans hy6.out).trans hy7.out).trans hy8.out).trans (Ext.refl _).drew).trans hy10.out).trans hy11.out)).c 0, (Bx.out.ext (((((((((hy2.out.trans hy3.out).trans hy4.out).trans hy5.out).trans hy6.out).trans hy7.out).trans hy8.out).trans (Ext.refl _).drew).trans hy10.out).trans hy11.out)).c 1, (Bd.out.ext (((hy8.out.trans (Ext.refl _).drew).trans hy10.out).trans hy11.out)).c 0, (Bd.out.ext (((hy8.out.trans (Ext.refl _).drew).trans hy10.out).trans hy11.out)).c 1, (Bd.out.ext (((hy8.out.trans (Ext.refl _).drew).trans hy10.out).trans hy11.out)).c 2, (Bd.out.ext (((hy8.out.trans (Ext.refl _).drew).trans hy10.out).trans hy11.out)).c 3⟩)
      | ((go_at_call 15); (with_reducible refine (drat_v O11.out (by omega)).mono ?_); rintro E12 w12 ⟨b12, A12, n12, c12, e12, B12, m12, d12, rfl, o12, hr12⟩; have X12 := hid (X11.out.trans hr12); have hy12 := hid hr12; clear hr12; have O12 := hid (o12.mono X11.out.size); clear o12; have hk13_4 : w12.cell? ⟨w2.heap.size, 0, none⟩ = some (.bool b2) ∧ w12.cell? ⟨w2.heap.size, 1, none⟩ = some (.slice A2 n2 c2) ∧ w12.cell? ⟨w2.heap.size, 2, none⟩ = some (.bool e2) ∧ w12.cell? ⟨w2.heap.size, 3, none⟩ = some (.slice B2 m2 d2) ∧ w12.cell? ⟨w.heap.size, 0, none⟩ = some (.bool sx) ∧ w12.cell? ⟨w.heap.size, 1, none⟩ = some (.slice Px lx kx) ∧ w12.cell? ⟨w6.heap.size, 0, none⟩ = some (.bool b6) ∧ w12.cell? ⟨w6.heap.size, 1, none⟩ = some (.slice A6 n6 c6) ∧ w12.cell? ⟨w6.heap.size, 2, none⟩ = some (.bool e6) ∧ w12.cell? ⟨w6.heap.size, 3, none⟩ = some (.slice B6 m6 d6) := ⟨(Bp.out.ext ((((((((hy4.out.trans hy5.out).trans hy6.out).trans hy7.out).trans hy8.out).trans (Ext.refl _).drew).trans hy10.out).trans hy11.out).trans hy12.out)).c 0, (Bp.out.ext ((((((((hy4.out.trans hy5.out).trans hy6.out).trans hy7.out).trans hy8.out).trans (Ext.refl _).drew).trans hy10.out).trans hy11.out).trans hy12.out)).c 1, (Bp.out.ext ((((((((hy4.out.trans hy5.out).trans hy6.out).trans hy7.out).trans hy8.out).trans (Ext.refl _).drew).trans hy10.out).trans hy11.out).trans hy12.out)).c 2, (Bp.out.ext ((((((((hy4.out.trans hy5.out).trans hy6.out).trans hy7.out).trans hy8.out).trans (Ext.refl _).drew).trans hy10.out).trans hy11.out).trans hy12.out)).c 3, (Bx.out.ext ((((((((((hy2.out.trans hy3.out).trans hy4.out).trans hy5.out).trans hy6.out).trans hy7.out).trans hy8.out).trans (Ext.refl _).drew).trans hy10.out).trans hy11.out).trans hy12.out)).c 0, (Bx.out.ext ((((((((((hy2.out.trans hy3.out).trans hy4.out).trans hy5.out).trans hy6.out).trans hy7.out).trans hy8.out).trans (Ext.refl _).drew).trans hy10.out).trans hy11.out).trans hy12.out)).c 1, (Bd.out.ext ((((hy8.out.trans (Ext.refl _).drew).trans hy10.out).trans hy11.out).trans hy12.out)).c 0, (Bd.out.ext ((((hy8.out.trans (Ext.refl _).drew).trans hy10.out).trans hy11.out).trans hy12.out)).c 1, (Bd.out.ext ((((hy8.out.trans (Ext.refl _).drew).trans hy10.out).trans hy11.out).trans hy12.out)).c 2, (Bd.out.ext ((((hy8.out.trans (Ext.refl _).drew).trans hy10.out).trans hy11.out).trans hy12.out)).c 3⟩)
      | ((go_at_call 13); (with_reducible refine (dsame_v (O2.out.ext (((((((((hy3.out.trans hy4.out).trans hy5.out).trans hy6.out).trans hy7.out).trans hy8.out).trans (Ext.refl _).drew).trans hy10.out).trans hy11.out).trans hy12.out)) O12.out (by omega) rfl).mono ?_); rintro E13 w13 ⟨rfl, hr13⟩; have X13 := hid (X12.out.trans hr13); have hy13 := hid hr13; clear hr13; have hk13_5 : w13.cell? ⟨w2.heap.size, 0, none⟩ = some (.bool b2) ∧ w13.cell? ⟨w2.heap.size, 1, none⟩ = some (.slice A2 n2 c2) ∧ w13.cell? ⟨w2.heap.size, 2, none⟩ = some (.bool e2) ∧ w13.cell? ⟨w2.heap.size, 3, none⟩ = some (.slice B2 m2 d2) ∧ w13.cell? ⟨w.heap.size, 0, none⟩ = some (.bool sx) ∧ w13.cell? ⟨w.heap.size, 1, none⟩ = some (.slice Px lx kx) ∧ w13.cell? ⟨w6.heap.size, 0, none⟩ = some (.bool b6) ∧ w13.cell? ⟨w6.heap.size, 1, none⟩ = some (.slice A6 n6 c6) ∧ w13.cell? ⟨w6.heap.size, 2, none⟩ = some (.bool e6) ∧ w13.cell? ⟨w6.heap.size, 3, none⟩ = some (.slice B6 m6 d6) := ⟨(Bp.out.ext (((((((((hy4.out.trans hy5.out).trans hy6.out).trans hy7.out).trans hy8.out).trans (Ext.refl _).drew).trans hy10.out).trans hy11.out).trans hy12.out).trans hy13.out)).c 0, (Bp.out.ext (((((((((hy4.out.trans hy5.out).trans hy6.out).trans hy7.out).trans hy8.out).trans (Ext.refl _).drew).trans hy10.out).trans hy11.out).trans hy12.out).trans hy13.out)).c 1, (Bp.out.ext (((((((((hy4.out.trans hy5.out).trans hy6.out).trans hy7.out).trans hy8.out).trans (Ext.refl _).drew).trans hy10.out).trans hy11.out).trans hy12.out).trans hy13.out)).c 2, (Bp.out.ext (((((((((hy4.out.trans hy5.out).trans hy6.out).trans hy7.out).trans hy8.out).trans (Ext.refl _).drew).trans hy10.out).trans hy11.out).trans hy12.out).trans hy13.out)).c 3, (Bx.out.ext (((((((((((hy2.out.trans hy3.out).trans hy4.out).trans hy5.out).trans hy6.out).trans hy7.out).trans hy8.out).trans (Ext.refl _).drew).trans hy10.out).trans hy11.out).trans hy12.out).trans hy13.out)).c 0, (Bx.out.ext (((((((((((hy2.out.trans hy3.out).trans hy4.out).trans hy5.out).trans hy6.out).trans hy7.out).trans hy8.out).trans (Ext.refl _).drew).trans hy10.out).trans hy11.out).trans hy12.out).trans hy13.out)).c 1, (Bd.out.ext (((((hy8.out.trans (Ext.refl _).drew).trans hy10.out).trans hy11.out).trans hy12.out).trans hy13.out)).c 0, (Bd.out.ext (((((hy8.out.trans (Ext.refl _).drew).trans hy10.out).trans hy11.out).trans hy12.out).trans hy13.out)).c 1, (Bd.out.ext (((((hy8.out.trans (Ext.refl _).drew).trans hy10.out).trans hy11.out).trans hy12.out).trans hy13.out)).c 2, (Bd.out.ext (((((hy8.out.trans (Ext.refl _).drew).trans hy10.out).trans hy11.out).trans hy12.out).trans hy13.out)).c 3⟩))
  clear hk13_0 hk13_1 hk13_2 hk13_3 hk13_4 hk13_5
  go_upto_region 11 with fail
  go_wp2_with (first
    | ((go_at_call 8); (with_reducible refine (known_any6).mono ?_); rintro E14 w14 ⟨rfl, hr14⟩; have X14 := hid (X13.out.trans hr14); have hy14 := hid hr14; clear hr14))
  go_ret
  exact ⟨rfl, X14.out⟩

set_option maxHeartbeats 6400000 in
set_option maxRecDepth 100000 in
theorem ratioOf_db {w : World} {sx sy : Bool} {Px Py : Option Addr} {lx kx ly ky : Nat} {N D a b : Int} (hx : Iz 8 w sx Px lx kx N) (hy : Iz 8 w sy Py ly ky D) (hlx : lx ≤ 8) (hly : ly ≤ 8) (ha0 : -9223372036854775808 ≤ a) (ha1 : a ≤ 9223372036854775807) (hb0 : -9223372036854775808 ≤ b) (hb1 : b ≤ 9223372036854775807) (hb : b ≠ 0) (hD : D ≠ 0) :
    Calls Try.prog 3 #[.agg #[.bool sx, .slice Px lx kx], .agg #[.bool sy, .slice Py ly ky], .int .i64 a, .int .i64 b] w (RetE (.bool true) w) := by
  have hlx' : ¬ (8 : Int) < (lx : Int) := by omega
  have hly' : ¬ (8 : Int) < (ly : Int) := by omega
  have hb' : (b == 0) = false := beq_eq_false_iff_ne.2 hb
  have HB := hid hb
  clear hb
  obtain ⟨v, hv, hv0⟩ : ∃ v : Int, rs (D : Rat) = v ∧ (v == 0) = false := by
    refine ⟨_, rfl, ?_⟩
    rw [beq_eq_false_iff_ne]
    exact fun e => hD (by have := rs_zero.1 e; simpa using this)
  have hs := hid hv
  have HD := hid hD
  have HR := hid (cast_ne hD)
  clear hv hD
  have Hx := hid hx
  have Hy := hid hy
  clear hx hy
  clear hlx hly
  go_enter Try.func3, Try.ntmps3
  go_upto_region 1 with fail
  have hy1 := hid (((Ext.refl w).alloc (.cells #[.bool sx, .slice Px lx kx] 24)).alloc (.cells #[.bool sy, .slice Py ly ky] 24))
  have Bx_ := ((Bk.new w 24 #[.bool sx, .slice Px lx kx]).ext ((Ext.refl (w.alloc (.cells #[.bool sx, .slice Px lx kx] 24))).alloc (.cells #[.bool sy, .slice Py ly ky] 24)))
  have Bx := hid Bx_
  clear Bx_
  have By_ := (Bk.new (w.alloc (.cells #[.bool sx, .slice Px lx kx] 24)) 24 #[.bool sy, .slice Py ly ky])
  rw [size_alloc] at By_
  have By := hid By_
  clear By_
  generalize ((w.alloc (.cells #[.bool sx, .slice Px lx kx] 24)).alloc (.cells #[.bool sy, .slice Py ly ky] 24)) = w1 at *
  have X1 := hid ((Ext.refl _).trans hy1.out)
  obtain ⟨f3_0, f3_1, f3_2, f3_3⟩ : w1.cell? ⟨w.heap.size, 0, none⟩ = some (.bool sx) ∧ w1.cell? ⟨w.heap.size, 1, none⟩ = some (.slice Px lx kx) ∧ w1.cell? ⟨w.heap.size + 1, 0, none⟩ = some (.bool sy) ∧ w1.cell? ⟨w.heap.size + 1, 1, none⟩ = some (.slice Py ly ky) := ⟨Bx.out.c 0, Bx.out.c 1, By.out.c 0, By.out.c 1⟩
  go_upto_region 3 with fail
  clear f3_0 f3_1 f3_2 f3_3
  obtain ⟨f4_0, f4_1, f4_2, f4_3⟩ : w1.cell? ⟨w.heap.size, 0, none⟩ = some (.bool sx) ∧ w1.cell? ⟨w.heap.size, 1, none⟩ = some (.slice Px lx kx) ∧ w1.cell? ⟨w.heap.size + 1, 0, none⟩ = some (.bool sy) ∧ w1.cell? ⟨w.heap.size + 1, 1, none⟩ = some (.slice Py ly ky) := ⟨Bx.out.c 0, Bx.out.c 1, By.out.c 0, By.out.c 1⟩
  go_upto_region 4 with (first
    | ((go_at_call 9); (with_reducible refine (rof_v 8 (Hx.out.ext X1.out) (Hy.out.ext X1.out) HD.out (by omega) (by omega) (by omega)).mono ?_); rintro E2 w2 ⟨b2, A2, n2, c2, e2, B2, m2, d2, rfl, o2, hr2⟩; have X2 := hid (X1.out.trans hr2); have hy2 := hid hr2; clear hr2; have O2 := hid (o2.mono X1.out.size); clear o2; obtain ⟨f5_0, f5_1, f5_2, f5_3⟩ : w2.cell? ⟨w.heap.size, 0, none⟩ = some (.bool sx) ∧ w2.cell? ⟨w.heap.size, 1, none⟩ = some (.slice Px lx kx) ∧ w2.cell? ⟨w.heap.size + 1, 0, none⟩ = some (.bool sy) ∧ w2.cell? ⟨w.heap.size + 1, 1, none⟩ = some (.slice Py ly ky) := ⟨(Bx.out.ext hy2.out).c 0, (Bx.out.ext hy2.out).c 1, (By.out.ext hy2.out).c 0, (By.out.ext hy2.out).c 1⟩))
  clear f4_0 f4_1 f4_2 f4_3 f5_0 f5_1 f5_2 f5_3
  have hy3 := hid ((Ext.refl w2).alloc (.cells #[.bool b2, .slice A2 n2 c2, .bool e2, .slice B2 m2 d2] 27))
  have Bp_ := (Bk.new w2 27 #[.bool b2, .slice A2 n2 c2, .bool e2, .slice B2 m2 d2])
  have Bp := hid Bp_
  clear Bp_
  generalize (w2.alloc (.cells #[.bool b2, .slice A2 n2 c2, .bool e2, .slice B2 m2 d2] 27)) = w3 at *
  have X3 := hid (X2.out.trans hy3.out)
  go_upto_region 5 with (first
    | ((go_at_call 10); (with_reducible refine (qsm_v (a := a) (b := b) ha0 ha1 hb0 hb1 HB.out).mono ?_); rintro E4 w4 ⟨b4, A4, n4, c4, e4, B4, m4, d4, rfl, o4, hr4⟩; have X4 := hid (X3.out.trans hr4); have hy4 := hid hr4; clear hr4; have O4 := hid (o4.mono X3.out.size); clear o4))
  have hy5 := hid ((Ext.refl w4).alloc (.cells #[.bool b4, .slice A4 n4 c4, .bool e4, .slice B4 m4 d4] 27))
  have Bs_ := (Bk.new w4 27 #[.bool b4, .slice A4 n4 c4, .bool e4, .slice B4 m4 d4])
  have Bs := hid Bs_
  clear Bs_
  generalize (w4.alloc (.cells #[.bool b4, .slice A4 n4 c4, .bool e4, .slice B4 m4 d4] 27)) = w5 at *
  have X5 := hid (X4.out.trans hy5.out)
  obtain ⟨f8_0, f8_1⟩ : w5.cell? ⟨w.heap.size + 1, 0, none⟩ = some (.bool sy) ∧ w5.cell? ⟨w.heap.size + 1, 1, none⟩ = some (.slice Py ly ky) := ⟨(By.out.ext (((hy2.out.trans hy3.out).trans hy4.out).trans hy5.out)).c 0, (By.out.ext (((hy2.out.trans hy3.out).trans hy4.out).trans hy5.out)).c 1⟩
  go_upto_region 6 with (first
    | ((go_at_call 11); (with_reducible refine (dof_v (Hy.out.ext X5.out).rat (by omega)).mono ?_); rintro E6 w6 ⟨b6, A6, n6, c6, e6, B6, m6, d6, rfl, o6, hr6⟩; have X6 := hid (X5.out.trans hr6); have hy6 := hid hr6; clear hr6; have O6 := hid o6; clear o6; obtain ⟨f9_0, f9_1⟩ : w6.cell? ⟨w.heap.size + 1, 0, none⟩ = some (.bool sy) ∧ w6.cell? ⟨w.heap.size + 1, 1, none⟩ = some (.slice Py ly ky) := ⟨(By.out.ext ((((hy2.out.trans hy3.out).trans hy4.out).trans hy5.out).trans hy6.out)).c 0, (By.out.ext ((((hy2.out.trans hy3.out).trans hy4.out).trans hy5.out).trans hy6.out)).c 1⟩))
  clear f8_0 f8_1 f9_0 f9_1
  have hy7 := hid ((Ext.refl w6).alloc (.cells #[.bool b6, .slice A6 n6 c6, .bool e6, .slice B6 m6 d6] 37))
  have Bd_ := (Bk.new w6 37 #[.bool b6, .slice A6 n6 c6, .bool e6, .slice B6 m6 d6])
  have Bd := hid Bd_
  clear Bd_
  generalize (w6.alloc (.cells #[.bool b6, .slice A6 n6 c6, .bool e6, .slice B6 m6 d6] 37)) = w7 at *
  have X7 := hid (X6.out.trans hy7.out)
  obtain ⟨f11_0, f11_1, f11_2, f11_3⟩ : w7.cell? ⟨w6.heap.size, 0, none⟩ = some (.bool b6) ∧ w7.cell? ⟨w6.heap.size, 1, none⟩ = some (.slice A6 n6 c6) ∧ w7.cell? ⟨w6.heap.size, 2, none⟩ = some (.bool e6) ∧ w7.cell? ⟨w6.heap.size, 3, none⟩ = some (.slice B6 m6 d6) := ⟨Bd.out.c 0, Bd.out.c 1, Bd.out.c 2, Bd.out.c 3⟩
  go_upto_region 9 with (first
    | ((go_at_call 12); (with_reducible refine (dsign_is (v := v) (O6.out.ext hy7.out) hs.out).mono ?_); rintro E8 w8 ⟨rfl, hr8⟩; have X8 := hid (X7.out.trans hr8); have hy8 := hid hr8; clear hr8; obtain ⟨f12_0, f12_1, f12_2, f12_3⟩ : w8.cell? ⟨w6.heap.size, 0, none⟩ = some (.bool b6) ∧ w8.cell? ⟨w6.heap.size, 1, none⟩ = some (.slice A6 n6 c6) ∧ w8.cell? ⟨w6.heap.size, 2, none⟩ = some (.bool e6) ∧ w8.cell? ⟨w6.heap.size, 3, none⟩ = some (.slice B6 m6 d6) := ⟨(Bd.out.ext hy8.out).c 0, (Bd.out.ext hy8.out).c 1, (Bd.out.ext hy8.out).c 2, (Bd.out.ext hy8.out).c 3⟩))
  clear f11_0 f11_1 f11_2 f11_3 f12_0 f12_1 f12_2 f12_3
  have hk13_0 : w8.cell? ⟨w2.heap.size, 0, none⟩ = some (.bool b2) ∧ w8.cell? ⟨w2.heap.size, 1, none⟩ = some (.slice A2 n2 c2) ∧ w8.cell? ⟨w2.heap.size, 2, none⟩ = some (.bool e2) ∧ w8.cell? ⟨w2.heap.size, 3, none⟩ = some (.slice B2 m2 d2) ∧ w8.cell? ⟨w.heap.size, 0, none⟩ = some (.bool sx) ∧ w8.cell? ⟨w.heap.size, 1, none⟩ = some (.slice Px lx kx) ∧ w8.cell? ⟨w6.heap.size, 0, none⟩ = some (.bool b6) ∧ w8.cell? ⟨w6.heap.size, 1, none⟩ = some (.slice A6 n6 c6) ∧ w8.cell? ⟨w6.heap.size, 2, none⟩ = some (.bool e6) ∧ w8.cell? ⟨w6.heap.size, 3, none⟩ = some (.slice B6 m6 d6) := ⟨(Bp.out.ext ((((hy4.out.trans hy5.out).trans hy6.out).trans hy7.out).trans hy8.out)).c 0, (Bp.out.ext ((((hy4.out.trans hy5.out).trans hy6.out).trans hy7.out).trans hy8.out)).c 1, (Bp.out.ext ((((hy4.out.trans hy5.out).trans hy6.out).trans hy7.out).trans hy8.out)).c 2, (Bp.out.ext ((((hy4.out.trans hy5.out).trans hy6.out).trans hy7.out).trans hy8.out)).c 3, (Bx.out.ext ((((((hy2.out.trans hy3.out).trans hy4.out).trans hy5.out).trans hy6.out).trans hy7.out).trans hy8.out)).c 0, (Bx.out.ext ((((((hy2.out.trans hy3.out).trans hy4.out).trans hy5.out).trans hy6.out).trans hy7.out).trans hy8.out)).c 1, (Bd.out.ext hy8.out).c 0, (Bd.out.ext hy8.out).c 1, (Bd.out.ext hy8.out).c 2, (Bd.out.ext hy8.out).c 3⟩
  have hk13_1 : w8.drew.cell? ⟨w2.heap.size, 0, none⟩ = some (.bool b2) ∧ w8.drew.cell? ⟨w2.heap.size, 1, none⟩ = some (.slice A2 n2 c2) ∧ w8.drew.cell? ⟨w2.heap.size, 2, none⟩ = some (.bool e2) ∧ w8.drew.cell? ⟨w2.heap.size, 3, none⟩ = some (.slice B2 m2 d2) ∧ w8.drew.cell? ⟨w.heap.size, 0, none⟩ = some (.bool sx) ∧ w8.drew.cell? ⟨w.heap.size, 1, none⟩ = some (.slice Px lx kx) ∧ w8.drew.cell? ⟨w6.heap.size, 0, none⟩ = some (.bool b6) ∧ w8.drew.cell? ⟨w6.heap.size, 1, none⟩ = some (.slice A6 n6 c6) ∧ w8.drew.cell? ⟨w6.heap.size, 2, none⟩ = some (.bool e6) ∧ w8.drew.cell? ⟨w6.heap.size, 3, none⟩ = some (.slice B6 m6 d6) := ⟨(Bp.out.ext (((((hy4.out.trans hy5.out).trans hy6.out).trans hy7.out).trans hy8.out).trans (Ext.refl _).drew)).c 0, (Bp.out.ext (((((hy4.out.trans hy5.out).trans hy6.out).trans hy7.out).trans hy8.out).trans (Ext.refl _).drew)).c 1, (Bp.out.ext (((((hy4.out.trans hy5.out).trans hy6.out).trans hy7.out).trans hy8.out).trans (Ext.refl _).drew)).c 2, (Bp.out.ext (((((hy4.out.trans hy5.out).trans hy6.out).trans hy7.out).trans hy8.out).trans (Ext.refl _).drew)).c 3, (Bx.out.ext (((((((hy2.out.trans hy3.out).trans hy4.out).trans hy5.out).trans hy6.out).trans hy7.out).trans hy8.out).trans (Ext.refl _).drew)).c 0, (Bx.out.ext (((((((hy2.out.trans hy3.out).trans hy4.out).trans hy5.out).trans hy6.out).trans hy7.out).trans hy8.out).trans (Ext.refl _).drew)).c 1, (Bd.out.ext (hy8.out.trans (Ext.refl _).drew)).c 0, (Bd.out.ext (hy8.out.trans (Ext.refl _).drew)).c 1, (Bd.out.ext (hy8.out.trans (Ext.refl _).drew)).c 2, (Bd.out.ext (hy8.out.trans (Ext.refl _).drew)).c 3⟩
  go_region_held3 (fun w' => w'.cell? ⟨w2.heap.size, 0, none⟩ = some (.bool b2) ∧ w'.cell? ⟨w2.heap.size, 1, none⟩ = some (.slice A2 n2 c2) ∧ w'.cell? ⟨w2.heap.size, 2, none⟩ = some (.bool e2) ∧ w'.cell? ⟨w2.heap.size, 3, none⟩ = some (.slice B2 m2 d2) ∧ w'.cell? ⟨w.heap.size, 0, none⟩ = some (.bool sx) ∧ w'.cell? ⟨w.heap.size, 1, none⟩ = some (.slice Px lx kx) ∧ w'.cell? ⟨w6.heap.size, 0, none⟩ = some (.bool b6) ∧ w'.cell? ⟨w6.heap.size, 1, none⟩ = some (.slice A6 n6 c6) ∧ w'.cell? ⟨w6.heap.size, 2, none⟩ = some (.bool e6) ∧ w'.cell? ⟨w6.heap.size, 3, none⟩ = some (.slice B6 m6 d6))
    (first | (with_reducible exact hk13_0) | (with_reducible exact hk13_1) | (with_reducible exact hk13_2) | (with_reducible exact hk13_3) | (with_reducible exact hk13_4) | (with_reducible exact hk13_5))
    (first
      | ((go_at_call 11); (with_reducible refine (dof_v (Hx.out.ext (X8.out.trans (Ext.refl _).drew)).rat (by omega)).mono ?_); rintro E10 w10 ⟨b10, A10, n10, c10, e10, B10, m10, d10, rfl, o10, hr10⟩; have X10 := hid ((X8.out.trans (Ext.refl _).drew).trans hr10); have hy10 := hid hr10; clear hr10; have O10 := hid o10; clear o10; have hk13_2 : w10.cell? ⟨w2.heap.size, 0, none⟩ = some (.bool b2) ∧ w10.cell? ⟨w2.heap.size, 1, none⟩ = some (.slice A2 n2 c2) ∧ w10.cell? ⟨w2.heap.size, 2, none⟩ = some (.bool e2) ∧ w10.cell? ⟨w2.heap.size, 3, none⟩ = some (.slice B2 m2 d2) ∧ w10.cell? ⟨w.heap.size, 0, none⟩ = some (.bool sx) ∧ w10.cell? ⟨w.heap.size, 1, none⟩ = some (.slice Px lx kx) ∧ w10.cell? ⟨w6.heap.size, 0, none⟩ = some (.bool b6) ∧ w10.cell? ⟨w6.heap.size, 1, none⟩ = some (.slice A6 n6 c6) ∧ w10.cell? ⟨w6.heap.size, 2, none⟩ = some (.bool e6) ∧ w10.cell? ⟨w6.heap.size, 3, none⟩ = some (.slice B6 m6 d6) := ⟨(Bp.out.ext ((((((hy4.out.trans hy5.out).trans hy6.out).trans hy7.out).trans hy8.out).trans (Ext.refl _).drew).trans hy10.out)).c 0, (Bp.out.ext ((((((hy4.out.trans hy5.out).trans hy6.out).trans hy7.out).trans hy8.out).trans (Ext.refl _).drew).trans hy10.out)).c 1, (Bp.out.ext ((((((hy4.out.trans hy5.out).trans hy6.out).trans hy7.out).trans hy8.out).trans (Ext.refl _).drew).trans hy10.out)).c 2, (Bp.out.ext ((((((hy4.out.trans hy5.out).trans hy6.out).trans hy7.out).trans hy8.out).trans (Ext.refl _).drew).trans hy10.out)).c 3, (Bx.out.ext ((((((((hy2.out.trans hy3.out).trans hy4.out).trans hy5.out).trans hy6.out).trans hy7.out).trans hy8.out).trans (Ext.refl _).drew).trans hy10.out)).c 0, (Bx.out.ext ((((((((hy2.out.trans hy3.out).trans hy4.out).trans hy5.out).trans hy6.out).trans hy7.out).trans hy8.out).trans (Ext.refl _).drew).trans hy10.out)).c 1, (Bd.out.ext ((hy8.out.trans (Ext.refl _).drew).trans hy10.out)).c 0, (Bd.out.ext ((hy8.out.trans (Ext.refl _).drew).trans hy10.out)).c 1, (Bd.out.ext ((hy8.out.trans (Ext.refl _).drew).trans hy10.out)).c 2, (Bd.out.ext ((hy8.out.trans (Ext.refl _).drew).trans hy10.out)).c 3⟩)
      | ((go_at_call 14); (with_reducible refine (ddiv_v O10.out (O6.out.ext (((hy7.out.trans hy8.out).trans (Ext.refl _).drew).trans hy10.out)) HR.out (by omega)).mono ?_); rintro E11 w11 ⟨b11, A11, n11, c11, e11, B11, m11, d11, rfl, o11, hr11⟩; have X11 := hid (X10.out.trans hr11); have hy11 := hid hr11; clear hr11; have O11 := hid o11; clear o11; have hk13_3 : w11.cell? ⟨w2.heap.size, 0, none⟩ = some (.bool b2) ∧ w11.cell? ⟨w2.heap.size, 1, none⟩ = some (.slice A2 n2 c2) ∧ w11.cell? ⟨w2.heap.size, 2, none⟩ = some (.bool e2) ∧ w11.cell? ⟨w2.heap.size, 3, none⟩ = some (.slice B2 m2 d2) ∧ w11.cell? ⟨w.heap.size, 0, none⟩ = some (.bool sx) ∧ w11.cell? ⟨w.heap.size, 1, none⟩ = some (.slice Px lx kx) ∧ w11.cell? ⟨w6.heap.size, 0, none⟩ = some (.bool b6) ∧ w11.cell? ⟨w6.heap.size, 1, none⟩ = some (.slice A6 n6 c6) ∧ w11.cell? ⟨w6.heap.size, 2, none⟩ = some (.bool e6) ∧ w11.cell? ⟨w6.heap.size, 3, none⟩ = some (.slice B6 m6 d6) := ⟨(Bp.out.ext (((((((hy4.out.trans hy5.out).trans hy6.out).trans hy7.out).trans hy8.out).trans (Ext.refl _).drew).trans hy10.out).trans hy11.out)).c 0, (Bp.out.ext (((((((hy4.out.trans hy5.out).trans hy6.out).trans hy7.out).trans hy8.out).trans (Ext.refl _).drew).trans hy10.out).trans hy11.out)).c 1, (Bp.out.ext (((((((hy4.out.trans hy5.out).trans hy6.out).trans hy7.out).trans hy8.out).trans (Ext.refl _).drew).trans hy10.out).trans hy11.out)).c 2, (Bp.out.ext (((((((hy4.out.trans hy5.out).trans hy6.out).trans hy7.out).trans hy8.out).trans (Ext.refl _).drew).trans hy10.out).trans hy11.out)).c 3, (Bx.out.ext (((((((((hy2.out.trans hy3.out).trans hy4.out).trans hy5.out).trans hy6.out).trans hy7.out).trans hy8.out).trans (Ext.refl _).drew).trans hy10.out).trans hy11.out)).c 0, (Bx.out.ext (((((((((hy2.out.trans hy3.out).trans hy4.out).trans hy5.out).trans hy6.out).trans hy7.out).trans hy8.out).trans (Ext.refl _).drew).trans hy10.out).trans hy11.out)).c 1, (Bd.out.ext (((hy8.out.trans (Ext.refl _).drew).trans hy10.out).trans hy11.out)).c 0, (Bd.out.ext (((hy8.out.trans (Ext.refl _).drew).trans hy10.out).trans hy11.out)).c 1, (Bd.out.ext (((hy8.out.trans (Ext.refl _).drew).trans hy10.out).trans hy11.out)).c 2, (Bd.out.ext (((hy8.out.trans (Ext.refl _).drew).trans hy10.out).trans hy11.out)).c 3⟩)
      | ((go_at_call 15); (with_reducible refine (drat_v O11.out (by omega)).mono ?_); rintro E12 w12 ⟨b12, A12, n12, c12, e12, B12, m12, d12, rfl, o12, hr12⟩; have X12 := hid (X11.out.trans hr12); have hy12 := hid hr12; clear hr12; have O12 := hid (o12.mono X11.out.size); clear o12; have hk13_4 : w12.cell? ⟨w2.heap.size, 0, none⟩ = some (.bool b2) ∧ w12.cell? ⟨w2.heap.size, 1, none⟩ = some (.slice A2 n2 c2) ∧ w12.cell? ⟨w2.heap.size, 2, none⟩ = some (.bool e2) ∧ w12.cell? ⟨w2.heap.size, 3, none⟩ = some (.slice B2 m2 d2) ∧ w12.cell? ⟨w.heap.size, 0, none⟩ = some (.bool sx) ∧ w12.cell? ⟨w.heap.size, 1, none⟩ = some (.slice Px lx kx) ∧ w12.cell? ⟨w6.heap.size, 0, none⟩ = some (.bool b6) ∧ w12.cell? ⟨w6.heap.size, 1, none⟩ = some (.slice A6 n6 c6) ∧ w12.cell? ⟨w6.heap.size, 2, none⟩ = some (.bool e6) ∧ w12.cell? ⟨w6.heap.size, 3, none⟩ = some (.slice B6 m6 d6) := ⟨(Bp.out.ext ((((((((hy4.out.trans hy5.out).trans hy6.out).trans hy7.out).trans hy8.out).trans (Ext.refl _).drew).trans hy10.out).trans hy11.out).trans hy12.out)).c 0, (Bp.out.ext ((((((((hy4.out.trans hy5.out).trans hy6.out).trans hy7.out).trans hy8.out).trans (Ext.refl _).drew).trans hy10.out).trans hy11.out).trans hy12.out)).c 1, (Bp.out.ext ((((((((hy4.out.trans hy5.out).trans hy6.out).trans hy7.out).trans hy8.out).trans (Ext.refl _).drew).trans hy10.out).trans hy11.out).trans hy12.out)).c 2, (Bp.out.ext ((((((((hy4.out.trans hy5.out).trans hy6.out).trans hy7.out).trans hy8.out).trans (Ext.refl _).drew).trans hy10.out).trans hy11.out).trans hy12.out)).c 3, (Bx.out.ext ((((((((((hy2.out.trans hy3.out).trans hy4.out).trans hy5.out).trans hy6.out).trans hy7.out).trans hy8.out).trans (Ext.refl _).drew).trans hy10.out).trans hy11.out).trans hy12.out)).c 0, (Bx.out.ext ((((((((((hy2.out.trans hy3.out).trans hy4.out).trans hy5.out).trans hy6.out).trans hy7.out).trans hy8.out).trans (Ext.refl _).drew).trans hy10.out).trans hy11.out).trans hy12.out)).c 1, (Bd.out.ext ((((hy8.out.trans (Ext.refl _).drew).trans hy10.out).trans hy11.out).trans hy12.out)).c 0, (Bd.out.ext ((((hy8.out.trans (Ext.refl _).drew).trans hy10.out).trans hy11.out).trans hy12.out)).c 1, (Bd.out.ext ((((hy8.out.trans (Ext.refl _).drew).trans hy10.out).trans hy11.out).trans hy12.out)).c 2, (Bd.out.ext ((((hy8.out.trans (Ext.refl _).drew).trans hy10.out).trans hy11.out).trans hy12.out)).c 3⟩)
      | ((go_at_call 13); (with_reducible refine (dsame_v (O2.out.ext (((((((((hy3.out.trans hy4.out).trans hy5.out).trans hy6.out).trans hy7.out).trans hy8.out).trans (Ext.refl _).drew).trans hy10.out).trans hy11.out).trans hy12.out)) O12.out (by omega) rfl).mono ?_); rintro E13 w13 ⟨rfl, hr13⟩; have X13 := hid (X12.out.trans hr13); have hy13 := hid hr13; clear hr13; have hk13_5 : w13.cell? ⟨w2.heap.size, 0, none⟩ = some (.bool b2) ∧ w13.cell? ⟨w2.heap.size, 1, none⟩ = some (.slice A2 n2 c2) ∧ w13.cell? ⟨w2.heap.size, 2, none⟩ = some (.bool e2) ∧ w13.cell? ⟨w2.heap.size, 3, none⟩ = some (.slice B2 m2 d2) ∧ w13.cell? ⟨w.heap.size, 0, none⟩ = some (.bool sx) ∧ w13.cell? ⟨w.heap.size, 1, none⟩ = some (.slice Px lx kx) ∧ w13.cell? ⟨w6.heap.size, 0, none⟩ = some (.bool b6) ∧ w13.cell? ⟨w6.heap.size, 1, none⟩ = some (.slice A6 n6 c6) ∧ w13.cell? ⟨w6.heap.size, 2, none⟩ = some (.bool e6) ∧ w13.cell? ⟨w6.heap.size, 3, none⟩ = some (.slice B6 m6 d6) := ⟨(Bp.out.ext (((((((((hy4.out.trans hy5.out).trans hy6.out).trans hy7.out).trans hy8.out).trans (Ext.refl _).drew).trans hy10.out).trans hy11.out).trans hy12.out).trans hy13.out)).c 0, (Bp.out.ext (((((((((hy4.out.trans hy5.out).trans hy6.out).trans hy7.out).trans hy8.out).trans (Ext.refl _).drew).trans hy10.out).trans hy11.out).trans hy12.out).trans hy13.out)).c 1, (Bp.out.ext (((((((((hy4.out.trans hy5.out).trans hy6.out).trans hy7.out).trans hy8.out).trans (Ext.refl _).drew).trans hy10.out).trans hy11.out).trans hy12.out).trans hy13.out)).c 2, (Bp.out.ext (((((((((hy4.out.trans hy5.out).trans hy6.out).trans hy7.out).trans hy8.out).trans (Ext.refl _).drew).trans hy10.out).trans hy11.out).trans hy12.out).trans hy13.out)).c 3, (Bx.out.ext (((((((((((hy2.out.trans hy3.out).trans hy4.out).trans hy5.out).trans hy6.out).trans hy7.out).trans hy8.out).trans (Ext.refl _).drew).trans hy10.out).trans hy11.out).trans hy12.out).trans hy13.out)).c 0, (Bx.out.ext (((((((((((hy2.out.trans hy3.out).trans hy4.out).trans hy5.out).trans hy6.out).trans hy7.out).trans hy8.out).trans (Ext.refl _).drew).trans hy10.out).trans hy11.out).trans hy12.out).trans hy13.out)).c 1, (Bd.out.ext (((((hy8.out.trans (Ext.refl _).drew).trans hy10.out).trans hy11.out).trans hy12.out).trans hy13.out)).c 0, (Bd.out.ext (((((hy8.out.trans (Ext.refl _).drew).trans hy10.out).trans hy11.out).trans hy12.out).trans hy13.out)).c 1, (Bd.out.ext (((((hy8.out.trans (Ext.refl _).drew).trans hy10.out).trans hy11.out).trans hy12.out).trans hy13.out)).c 2, (Bd.out.ext (((((hy8.out.trans (Ext.refl _).drew).trans hy10.out).trans hy11.out).trans hy12.out).trans hy13.out)).c 3⟩))
  clear hk13_0 hk13_1 hk13_2 hk13_3 hk13_4 hk13_5
  go_upto_region 11 with fail
  go_upto_region 13 with fail
  have hk14_0 : w13.cell? ⟨w4.heap.size, 0, none⟩ = some (.bool b4) ∧ w13.cell? ⟨w4.heap.size, 1, none⟩ = some (.slice A4 n4 c4) ∧ w13.cell? ⟨w4.heap.size, 2, none⟩ = some (.bool e4) ∧ w13.cell? ⟨w4.heap.size, 3, none⟩ = some (.slice B4 m4 d4) := ⟨(Bs.out.ext (((((((hy6.out.trans hy7.out).trans hy8.out).trans (Ext.refl _).drew).trans hy10.out).trans hy11.out).trans hy12.out).trans hy13.out)).c 0, (Bs.out.ext (((((((hy6.out.trans hy7.out).trans hy8.out).trans (Ext.refl _).drew).trans hy10.out).trans hy11.out).trans hy12.out).trans hy13.out)).c 1, (Bs.out.ext (((((((hy6.out.trans hy7.out).trans hy8.out).trans (Ext.refl _).drew).trans hy10.out).trans hy11.out).trans hy12.out).trans hy13.out)).c 2, (Bs.out.ext (((((((hy6.out.trans hy7.out).trans hy8.out).trans (Ext.refl _).drew).trans hy10.out).trans hy11.out).trans hy12.out).trans hy13.out)).c 3⟩
  have hk14_1 : w13.drew.cell? ⟨w4.heap.size, 0, none⟩ = some (.bool b4) ∧ w13.drew.cell? ⟨w4.heap.size, 1, none⟩ = some (.slice A4 n4 c4) ∧ w13.drew.cell? ⟨w4.heap.size, 2, none⟩ = some (.bool e4) ∧ w13.drew.cell? ⟨w4.heap.size, 3, none⟩ = some (.slice B4 m4 d4) := ⟨(Bs.out.ext ((((((((hy6.out.trans hy7.out).trans hy8.out).trans (Ext.refl _).drew).trans hy10.out).trans hy11.out).trans hy12.out).trans hy13.out).trans (Ext.refl _).drew)).c 0, (Bs.out.ext ((((((((hy6.out.trans hy7.out).trans hy8.out).trans (Ext.refl _).drew).trans hy10.out).trans hy11.out).trans hy12.out).trans hy13.out).trans (Ext.refl _).drew)).c 1, (Bs.out.ext ((((((((hy6.out.trans hy7.out).trans hy8.out).trans (Ext.refl _).drew).trans hy10.out).trans hy11.out).trans hy12.out).trans hy13.out).trans (Ext.refl _).drew)).c 2, (Bs.out.ext ((((((((hy6.out.trans hy7.out).trans hy8.out).trans (Ext.refl _).drew).trans hy10.out).trans hy11.out).trans hy12.out).trans hy13.out).trans (Ext.refl _).drew)).c 3⟩
  go_region_held3 (fun w' => w'.cell? ⟨w4.heap.size, 0, none⟩ = some (.bool b4) ∧ w'.cell? ⟨w4.heap.size, 1, none⟩ = some (.slice A4 n4 c4) ∧ w'.cell? ⟨w4.heap.size, 2, none⟩ = some (.bool e4) ∧ w'.cell? ⟨w4.heap.size, 3, none⟩ = some (.slice B4 m4 d4))
    (first | (with_reducible exact hk14_0) | (with_reducible exact hk14_1) | (with_reducible exact hk14_2) | (with_reducible exact hk14_3) | (with_reducible exact hk14_4) | (with_reducible exact hk14_5))
    (first
      | ((go_at_call 16); (with_reducible refine (dsmall_v ha0 ha1 hb0 hb1 HB.out).mono ?_); rintro E15 w15 ⟨b15, A15, n15, c15, e15, B15, m15, d15, rfl, o15, hr15⟩; have X15 := hid ((X13.out.trans (Ext.refl _).drew).trans hr15); have hy15 := hid hr15; clear hr15; have O15 := hid o15; clear o15; have hk14_2 : w15.cell? ⟨w4.heap.size, 0, none⟩ = some (.bool b4) ∧ w15.cell? ⟨w4.heap.size, 1, none⟩ = some (.slice A4 n4 c4) ∧ w15.cell? ⟨w4.heap.size, 2, none⟩ = some (.bool e4) ∧ w15.cell? ⟨w4.heap.size, 3, none⟩ = some (.slice B4 m4 d4) := ⟨(Bs.out.ext (((((((((hy6.out.trans hy7.out).trans hy8.out).trans (Ext.refl _).drew).trans hy10.out).trans hy11.out).trans hy12.out).trans hy13.out).trans (Ext.refl _).drew).trans hy15.out)).c 0, (Bs.out.ext (((((((((hy6.out.trans hy7.out).trans hy8.out).trans (Ext.refl _).drew).trans hy10.out).trans hy11.out).trans hy12.out).trans hy13.out).trans (Ext.refl _).drew).trans hy15.out)).c 1, (Bs.out.ext (((((((((hy6.out.trans hy7.out).trans hy8.out).trans (Ext.refl _).drew).trans hy10.out).trans hy11.out).trans hy12.out).trans hy13.out).trans (Ext.refl _).drew).trans hy15.out)).c 2, (Bs.out.ext (((((((((hy6.out.trans hy7.out).trans hy8.out).trans (Ext.refl _).drew).trans hy10.out).trans hy11.out).trans hy12.out).trans hy13.out).trans (Ext.refl _).drew).trans hy15.out)).c 3⟩)
      | ((go_at_call 15); (with_reducible refine (drat_v O15.out (by omega)).mono ?_); rintro E16 w16 ⟨b16, A16, n16, c16, e16, B16, m16, d16, rfl, o16, hr16⟩; have X16 := hid (X15.out.trans hr16); have hy16 := hid hr16; clear hr16; have O16 := hid (o16.mono X15.out.size); clear o16; have hk14_3 : w16.cell? ⟨w4.heap.size, 0, none⟩ = some (.bool b4) ∧ w16.cell? ⟨w4.heap.size, 1, none⟩ = some (.slice A4 n4 c4) ∧ w16.cell? ⟨w4.heap.size, 2, none⟩ = some (.bool e4) ∧ w16.cell? ⟨w4.heap.size, 3, none⟩ = some (.slice B4 m4 d4) := ⟨(Bs.out.ext ((((((((((hy6.out.trans hy7.out).trans hy8.out).trans (Ext.refl _).drew).trans hy10.out).trans hy11.out).trans hy12.out).trans hy13.out).trans (Ext.refl _).drew).trans hy15.out).trans hy16.out)).c 0, (Bs.out.ext ((((((((((hy6.out.trans hy7.out).trans hy8.out).trans (Ext.refl _).drew).trans hy10.out).trans hy11.out).trans hy12.out).trans hy13.out).trans (Ext.refl _).drew).trans hy15.out).trans hy16.out)).c 1, (Bs.out.ext ((((((((((hy6.out.trans hy7.out).trans hy8.out).trans (Ext.refl _).drew).trans hy10.out).trans hy11.out).trans hy12.out).trans hy13.out).trans (Ext.refl _).drew).trans hy15.out).trans hy16.out)).c 2, (Bs.out.ext ((((((((((hy6.out.trans hy7.out).trans hy8.out).trans (Ext.refl _).drew).trans hy10.out).trans hy11.out).trans hy12.out).trans hy13.out).trans (Ext.refl _).drew).trans hy15.out).trans hy16.out)).c 3⟩)
      | ((go_at_call 13); (with_reducible refine (dsame_v (O4.out.ext (((((((((((hy5.out.trans hy6.out).trans hy7.out).trans hy8.out).trans (Ext.refl _).drew).trans hy10.out).trans hy11.out).trans hy12.out).trans hy13.out).trans (Ext.refl _).drew).trans hy15.out).trans hy16.out)) O16.out (by omega) rfl).mono ?_); rintro E17 w17 ⟨rfl, hr17⟩; have X17 := hid (X16.out.trans hr17); have hy17 := hid hr17; clear hr17; have hk14_4 : w17.cell? ⟨w4.heap.size, 0, none⟩ = some (.bool b4) ∧ w17.cell? ⟨w4.heap.size, 1, none⟩ = some (.slice A4 n4 c4) ∧ w17.cell? ⟨w4.heap.size, 2, none⟩ = some (.bool e4) ∧ w17.cell? ⟨w4.heap.size, 3, none⟩ = some (.slice B4 m4 d4) := ⟨(Bs.out.ext (((((((((((hy6.out.trans hy7.out).trans hy8.out).trans (Ext.refl _).drew).trans hy10.out).trans hy11.out).trans hy12.out).trans hy13.out).trans (Ext.refl _).drew).trans hy15.out).trans hy16.out).trans hy17.out)).c 0, (Bs.out.ext (((((((((((hy6.out.trans hy7.out).trans hy8.out).trans (Ext.refl _).drew).trans hy10.out).trans hy11.out).trans hy12.out).trans hy13.out).trans (Ext.refl _).drew).trans hy15.out).trans hy16.out).trans hy17.out)).c 1, (Bs.out.ext (((((((((((hy6.out.trans hy7.out).trans hy8.out).trans (Ext.refl _).drew).trans hy10.out).trans hy11.out).trans hy12.out).trans hy13.out).trans (Ext.refl _).drew).trans hy15.out).trans hy16.out).trans hy17.out)).c 2, (Bs.out.ext (((((((((((hy6.out.trans hy7.out).trans hy8.out).trans (Ext.refl _).drew).trans hy10.out).trans hy11.out).trans hy12.out).trans hy13.out).trans (Ext.refl _).drew).trans hy15.out).trans hy16.out).trans hy17.out)).c 3⟩)
      | ((go_at_call 8); (with_reducible refine (known_any6).mono ?_); rintro E18 w18 ⟨rfl, hr18⟩; have X18 := hid (X17.out.trans hr18); have hy18 := hid hr18; clear hr18; have hk14_5 : w18.cell? ⟨w4.heap.size, 0, none⟩ = some (.bool b4) ∧ w18.cell? ⟨w4.heap.size, 1, none⟩ = some (.slice A4 n4 c4) ∧ w18.cell? ⟨w4.heap.size, 2, none⟩ = some (.bool e4) ∧ w18.cell? ⟨w4.heap.size, 3, none⟩ = some (.slice B4 m4 d4) := ⟨(Bs.out.ext ((((((((((((hy6.out.trans hy7.out).trans hy8.out).trans (Ext.refl _).drew).trans hy10.out).trans hy11.out).trans hy12.out).trans hy13.out).trans (Ext.refl _).drew).trans hy15.out).trans hy16.out).trans hy17.out).trans hy18.out)).c 0, (Bs.out.ext ((((((((((((hy6.out.trans hy7.out).trans hy8.out).trans (Ext.refl _).drew).trans hy10.out).trans hy11.out).trans hy12.out).trans hy13.out).trans (Ext.refl _).drew).trans hy15.out).trans hy16.out).trans hy17.out).trans hy18.out)).c 1, (Bs.out.ext ((((((((((((hy6.out.trans hy7.out).trans hy8.out).trans (Ext.refl _).drew).trans hy10.out).trans hy11.out).trans hy12.out).trans hy13.out).trans (Ext.refl _).drew).trans hy15.out).trans hy16.out).trans hy17.out).trans hy18.out)).c 2, (Bs.out.ext ((((((((((((hy6.out.trans hy7.out).trans hy8.out).trans (Ext.refl _).drew).trans hy10.out).trans hy11.out).trans hy12.out).trans hy13.out).trans (Ext.refl _).drew).trans hy15.out).trans hy16.out).trans hy17.out).trans hy18.out)).c 3⟩))
  clear hk14_0 hk14_1 hk14_2 hk14_3 hk14_4 hk14_5
  go_wp2_with fail
  go_ret
  exact ⟨rfl, X18.out⟩

set_option maxHeartbeats 6400000 in
set_option maxRecDepth 100000 in
theorem ratioOf_great {w : World} {sx sy : Bool} {Px Py : Option Addr} {lx kx ly ky : Nat} {a b : Int} (h : 8 < lx ∨ 8 < ly) :
    Calls Try.prog 3 #[.agg #[.bool sx, .slice Px lx kx], .agg #[.bool sy, .slice Py ly ky], .int .i64 a, .int .i64 b] w (RetE (.bool true) w) := by
  by_cases h1 : 8 < lx
  · have h' : (8 : Int) < (lx : Int) := by omega
    clear h h1
    go_enter Try.func3, Try.ntmps3
    go_upto_region 1 with fail
    have hy1 := hid (((Ext.refl w).alloc (.cells #[.bool sx, .slice Px lx kx] 24)).alloc (.cells #[.bool sy, .slice Py ly ky] 24))
    have Bx_ := ((Bk.new w 24 #[.bool sx, .slice Px lx kx]).ext ((Ext.refl (w.alloc (.cells #[.bool sx, .slice Px lx kx] 24))).alloc (.cells #[.bool sy, .slice Py ly ky] 24)))
    have Bx := hid Bx_
    clear Bx_
    have By_ := (Bk.new (w.alloc (.cells #[.bool sx, .slice Px lx kx] 24)) 24 #[.bool sy, .slice Py ly ky])
    rw [size_alloc] at By_
    have By := hid By_
    clear By_
    generalize ((w.alloc (.cells #[.bool sx, .slice Px lx kx] 24)).alloc (.cells #[.bool sy, .slice Py ly ky] 24)) = w1 at *
    have X1 := hid ((Ext.refl _).trans hy1.out)
    obtain ⟨f3_0, f3_1, f3_2, f3_3⟩ : w1.cell? ⟨w.heap.size, 0, none⟩ = some (.bool sx) ∧ w1.cell? ⟨w.heap.size, 1, none⟩ = some (.slice Px lx kx) ∧ w1.cell? ⟨w.heap.size + 1, 0, none⟩ = some (.bool sy) ∧ w1.cell? ⟨w.heap.size + 1, 1, none⟩ = some (.slice Py ly ky) := ⟨Bx.out.c 0, Bx.out.c 1, By.out.c 0, By.out.c 1⟩
    go_wp2_with (first
      | ((go_at_call 8); (with_reducible refine (known_any6).mono ?_); rintro E2 w2 ⟨rfl, hr2⟩; have X2 := hid (X1.out.trans hr2); have hy2 := hid hr2; clear hr2))
    clear f3_0 f3_1 f3_2 f3_3
    go_ret
    exact ⟨rfl, X2.out⟩
  · have h' : ¬ (8 : Int) < (lx : Int) := by omega
    have h'' : (8 : Int) < (ly : Int) := by omega
    clear h h1
    go_enter Try.func3, Try.ntmps3
    go_upto_region 1 with fail
    have hy1 := hid (((Ext.refl w).alloc (.cells #[.bool sx, .slice Px lx kx] 24)).alloc (.cells #[.bool sy, .slice Py ly ky] 24))
    have Bx_ := ((Bk.new w 24 #[.bool sx, .slice Px lx kx]).ext ((Ext.refl (w.alloc (.cells #[.bool sx, .slice Px lx kx] 24))).alloc (.cells #[.bool sy, .slice Py ly ky] 24)))
    have Bx := hid Bx_
    clear Bx_
    have By_ := (Bk.new (w.alloc (.cells #[.bool sx, .slice Px lx kx] 24)) 24 #[.bool sy, .slice Py ly ky])
    rw [size_alloc] at By_
    have By := hid By_
    clear By_
    generalize ((w.alloc (.cells #[.bool sx, .slice Px lx kx] 24)).alloc (.cells #[.bool sy, .slice Py ly ky] 24)) = w1 at *
    have X1 := hid ((Ext.refl _).trans hy1.out)
    obtain ⟨f3_0, f3_1, f3_2, f3_3⟩ : w1.cell? ⟨w.heap.size, 0, none⟩ = some (.bool sx) ∧ w1.cell? ⟨w.heap.size, 1, none⟩ = some (.slice Px lx kx) ∧ w1.cell? ⟨w.heap.size + 1, 0, none⟩ = some (.bool sy) ∧ w1.cell? ⟨w.heap.size + 1, 1, none⟩ = some (.slice Py ly ky) := ⟨Bx.out.c 0, Bx.out.c 1, By.out.c 0, By.out.c 1⟩
    go_wp2_with (first
      | ((go_at_call 8); (with_reducible refine (known_any6).mono ?_); rintro E2 w2 ⟨rfl, hr2⟩; have X2 := hid (X1.out.trans hr2); have hy2 := hid hr2; clear hr2))
    clear f3_0 f3_1 f3_2 f3_3
    go_ret
    exact ⟨rfl, X2.out⟩

theorem ratioOf_any {w : World} {sx sy : Bool} {Px Py : Option Addr} {lx kx ly ky : Nat} {Xx Xy : List Nat} {a b : Int} (hx : Sl .u32 w Px lx kx Xx) (mx : Lim 4294967296 Xx) (hy : Sl .u32 w Py ly ky Xy) (my : Lim 4294967296 Xy) (ha0 : -9223372036854775808 ≤ a) (ha1 : a ≤ 9223372036854775807) (hb0 : -9223372036854775808 ≤ b) (hb1 : b ≤ 9223372036854775807) :
    Calls Try.prog 3 #[.agg #[.bool sx, .slice Px lx kx], .agg #[.bool sy, .slice Py ly ky], .int .i64 a, .int .i64 b] w (RetE (.bool true) w) := by
  by_cases hg : 8 < lx ∨ 8 < ly
  · exact ratioOf_great hg
  · have hlx : lx ≤ 8 := by omega
    have hly : ly ≤ 8 := by omega
    have ix : Iz 8 w sx Px lx kx (zv sx (nv 4294967296 Xx)) := Iz.mk (Nv.mk hx mx hlx)
    have iy : Iz 8 w sy Py ly ky (zv sy (nv 4294967296 Xy)) := Iz.mk (Nv.mk hy my hly)
    generalize zv sx (nv 4294967296 Xx) = N at *
    generalize zv sy (nv 4294967296 Xy) = D at *
    by_cases hD : D = 0
    · subst hD
      by_cases hb : b = 0
      · subst hb; exact ratioOf_zz ix iy hlx hly ha0 ha1
      · exact ratioOf_zb ix iy hlx hly ha0 ha1 hb0 hb1 hb
    · by_cases hb : b = 0
      · subst hb; exact ratioOf_dz ix iy hlx hly ha0 ha1 hD
      · exact ratioOf_db ix iy hlx hly ha0 ha1 hb0 hb1 hb hD

end Go.Proofs.Ytikkibpjchmajaa

