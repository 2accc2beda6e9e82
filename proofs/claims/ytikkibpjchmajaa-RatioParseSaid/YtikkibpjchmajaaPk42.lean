/-
  The walk of RatioParse. Printed by wip/gen/rat.py.
-/
import Derived.Test.YtikkibpjchmajaaPk31
import Derived.Test.YtikkibpjchmajaaPk18
import Derived.Test.YtikkibpjchmajaaPk32
import Derived.Test.YtikkibpjchmajaaPk41
namespace Go.Proofs.Ytikkibpjchmajaa
open Go.RowKit
open Go.Lib (hid)

theorem ci_zero (w : World) : Ci 0 w w.heap.size false none 0 0 0 := ⟨rfl, Cn.none⟩
theorem txr_sz {w : World} {s t : Bool} {A B : Option Addr} {n c m d : Nat} {x : Rat} (h : Rv 8 w s A n c t B m d x) : (bts (txr x)).size ≤ 173 := txr_size h.bound.1 h.bound.2
set_option maxHeartbeats 6400000 in
set_option maxRecDepth 100000 in
theorem ratioParse_yes {w : World} {sx tx : Bool} {Px Qx : Option Addr} {lx kx mx dx : Nat} {s : ByteArray} {x r : Rat} (hx : Rv 8 w sx Px lx kx tx Qx mx dx x) (blx : lx ≤ 8) (bmx : mx ≤ 8) (hs : s.size ≤ 200) (h : byt s = txr r) :
    Calls Try.prog 4 #[.string s, .agg #[.bool sx, .slice Px lx kx, .bool tx, .slice Qx mx dx]] w (RetE (.bool true) w) := by
  have hs' : ¬ (200 : Int) < (s.size : Int) := by omega
  have hTs := txr_sz hx
  obtain ⟨T, hT⟩ : ∃ T, bts (txr x) = T := ⟨_, rfl⟩
  rw [hT] at hTs
  have hTb := hid (show byt T = txr x by rw [← hT, byt_bts (txr_lim x)])
  have HT := hid hT
  have H := hid h
  have Hx := hid hx
  clear hx
  clear hT h
  go_enter Try.func4, Try.ntmps4
  go_wp2_with fail
  have hy1 := hid (((Ext.refl w).alloc (.cells #[.bool sx, .slice Px lx kx, .bool tx, .slice Qx mx dx] 27)).alloc (.cells #[.bool sx, .slice Px lx kx, .bool tx, .slice Qx mx dx] 27))
  have Bx_ := ((Bk.new w 27 #[.bool sx, .slice Px lx kx, .bool tx, .slice Qx mx dx]).ext ((Ext.refl (w.alloc (.cells #[.bool sx, .slice Px lx kx, .bool tx, .slice Qx mx dx] 27))).alloc (.cells #[.bool sx, .slice Px lx kx, .bool tx, .slice Qx mx dx] 27)))
  have Bx := hid Bx_
  clear Bx_
  have Brow_ := (Bk.new (w.alloc (.cells #[.bool sx, .slice Px lx kx, .bool tx, .slice Qx mx dx] 27)) 27 #[.bool sx, .slice Px lx kx, .bool tx, .slice Qx mx dx])
  rw [size_alloc] at Brow_
  have Brow := hid Brow_
  clear Brow_
  generalize ((w.alloc (.cells #[.bool sx, .slice Px lx kx, .bool tx, .slice Qx mx dx] 27)).alloc (.cells #[.bool sx, .slice Px lx kx, .bool tx, .slice Qx mx dx] 27)) = w1 at *
  have X1 := hid ((Ext.refl _).trans hy1.out)
  obtain ⟨f3_0, f3_1, f3_2, f3_3⟩ : w1.cell? ⟨w.heap.size, 0, none⟩ = some (.bool sx) ∧ w1.cell? ⟨w.heap.size, 1, none⟩ = some (.slice Px lx kx) ∧ w1.cell? ⟨w.heap.size, 2, none⟩ = some (.bool tx) ∧ w1.cell? ⟨w.heap.size, 3, none⟩ = some (.slice Qx mx dx) := ⟨Bx.out.c 0, Bx.out.c 1, Bx.out.c 2, Bx.out.c 3⟩
  go_upto_region 3 with (first
    | ((go_at_call 17); (with_reducible refine (great6_no1 Brow.out blx bmx).mono ?_); rintro E2 w2 ⟨rfl, hr2⟩; have X2 := hid (X1.out.trans hr2); have hy2 := hid hr2; clear hr2; obtain ⟨f4_0, f4_1, f4_2, f4_3⟩ : w2.cell? ⟨w.heap.size, 0, none⟩ = some (.bool sx) ∧ w2.cell? ⟨w.heap.size, 1, none⟩ = some (.slice Px lx kx) ∧ w2.cell? ⟨w.heap.size, 2, none⟩ = some (.bool tx) ∧ w2.cell? ⟨w.heap.size, 3, none⟩ = some (.slice Qx mx dx) := ⟨(Bx.out.ext hy2.out).c 0, (Bx.out.ext hy2.out).c 1, (Bx.out.ext hy2.out).c 2, (Bx.out.ext hy2.out).c 3⟩))
  clear f3_0 f3_1 f3_2 f3_3 f4_0 f4_1 f4_2 f4_3
  go_upto_region 4 with (first
    | ((go_at_call 18); (with_reducible refine (qparse_yes (s := s) (by omega) H.out).mono ?_); rintro E3 w3 ⟨b3, A3, n3, c3, e3, B3, m3, d3, rfl, o3, hr3⟩; have X3 := hid (X2.out.trans hr3); have hy3 := hid hr3; clear hr3; have O3 := hid (o3.mono X2.out.size); clear o3))
  have hy4 := hid ((Ext.refl w3).alloc (.cells #[.bool b3, .slice A3 n3 c3, .bool e3, .slice B3 m3 d3] 27))
  have By_ := (Bk.new w3 27 #[.bool b3, .slice A3 n3 c3, .bool e3, .slice B3 m3 d3])
  have By := hid By_
  clear By_
  generalize (w3.alloc (.cells #[.bool b3, .slice A3 n3 c3, .bool e3, .slice B3 m3 d3] 27)) = w4 at *
  have X4 := hid (X3.out.trans hy4.out)
  go_upto_region 5 with (first
    | ((go_at_call 19); (with_reducible refine (dparse_yes (s := s) (by omega) H.out).mono ?_); rintro E5 w5 ⟨b5, A5, n5, c5, e5, B5, m5, d5, rfl, o5, hr5⟩; have X5 := hid (X4.out.trans hr5); have hy5 := hid hr5; clear hr5; have O5 := hid (o5.mono X4.out.size); clear o5))
  have hy6 := hid ((Ext.refl w5).alloc (.cells #[.bool b5, .slice A5 n5 c5, .bool e5, .slice B5 m5 d5] 27))
  have Bz_ := (Bk.new w5 27 #[.bool b5, .slice A5 n5 c5, .bool e5, .slice B5 m5 d5])
  have Bz := hid Bz_
  clear Bz_
  generalize (w5.alloc (.cells #[.bool b5, .slice A5 n5 c5, .bool e5, .slice B5 m5 d5] 27)) = w6 at *
  have X6 := hid (X5.out.trans hy6.out)
  obtain ⟨f7_0, f7_1, f7_2, f7_3⟩ : w6.cell? ⟨w.heap.size, 0, none⟩ = some (.bool sx) ∧ w6.cell? ⟨w.heap.size, 1, none⟩ = some (.slice Px lx kx) ∧ w6.cell? ⟨w.heap.size, 2, none⟩ = some (.bool tx) ∧ w6.cell? ⟨w.heap.size, 3, none⟩ = some (.slice Qx mx dx) := ⟨(Bx.out.ext ((((hy2.out.trans hy3.out).trans hy4.out).trans hy5.out).trans hy6.out)).c 0, (Bx.out.ext ((((hy2.out.trans hy3.out).trans hy4.out).trans hy5.out).trans hy6.out)).c 1, (Bx.out.ext ((((hy2.out.trans hy3.out).trans hy4.out).trans hy5.out).trans hy6.out)).c 2, (Bx.out.ext ((((hy2.out.trans hy3.out).trans hy4.out).trans hy5.out).trans hy6.out)).c 3⟩
  go_upto_region 6 with (first
    | ((go_at_call 20); (with_reducible refine (rtext_qis (Hx.out.ext X6.out) (by omega) HT.out).mono ?_); rintro E7 w7 ⟨rfl, hr7⟩; have X7 := hid (X6.out.trans hr7); have hy7 := hid hr7; clear hr7; obtain ⟨f8_0, f8_1, f8_2, f8_3⟩ : w7.cell? ⟨w.heap.size, 0, none⟩ = some (.bool sx) ∧ w7.cell? ⟨w.heap.size, 1, none⟩ = some (.slice Px lx kx) ∧ w7.cell? ⟨w.heap.size, 2, none⟩ = some (.bool tx) ∧ w7.cell? ⟨w.heap.size, 3, none⟩ = some (.slice Qx mx dx) := ⟨(Bx.out.ext (((((hy2.out.trans hy3.out).trans hy4.out).trans hy5.out).trans hy6.out).trans hy7.out)).c 0, (Bx.out.ext (((((hy2.out.trans hy3.out).trans hy4.out).trans hy5.out).trans hy6.out).trans hy7.out)).c 1, (Bx.out.ext (((((hy2.out.trans hy3.out).trans hy4.out).trans hy5.out).trans hy6.out).trans hy7.out)).c 2, (Bx.out.ext (((((hy2.out.trans hy3.out).trans hy4.out).trans hy5.out).trans hy6.out).trans hy7.out)).c 3⟩)
    | ((go_at_call 18); (with_reducible refine (qparse_yes (s := T) (by omega) hTb.out).mono ?_); rintro E8 w8 ⟨b8, A8, n8, c8, e8, B8, m8, d8, rfl, o8, hr8⟩; have X8 := hid (X7.out.trans hr8); have hy8 := hid hr8; clear hr8; have O8 := hid (o8.mono X7.out.size); clear o8; obtain ⟨f9_0, f9_1, f9_2, f9_3⟩ : w8.cell? ⟨w.heap.size, 0, none⟩ = some (.bool sx) ∧ w8.cell? ⟨w.heap.size, 1, none⟩ = some (.slice Px lx kx) ∧ w8.cell? ⟨w.heap.size, 2, none⟩ = some (.bool tx) ∧ w8.cell? ⟨w.heap.size, 3, none⟩ = some (.slice Qx mx dx) := ⟨(Bx.out.ext ((((((hy2.out.trans hy3.out).trans hy4.out).trans hy5.out).trans hy6.out).trans hy7.out).trans hy8.out)).c 0, (Bx.out.ext ((((((hy2.out.trans hy3.out).trans hy4.out).trans hy5.out).trans hy6.out).trans hy7.out).trans hy8.out)).c 1, (Bx.out.ext ((((((hy2.out.trans hy3.out).trans hy4.out).trans hy5.out).trans hy6.out).trans hy7.out).trans hy8.out)).c 2, (Bx.out.ext ((((((hy2.out.trans hy3.out).trans hy4.out).trans hy5.out).trans hy6.out).trans hy7.out).trans hy8.out)).c 3⟩))
  clear f7_0 f7_1 f7_2 f7_3 f8_0 f8_1 f8_2 f8_3 f9_0 f9_1 f9_2 f9_3
  have hy9 := hid ((Ext.refl w8).alloc (.cells #[.bool b8, .slice A8 n8 c8, .bool e8, .slice B8 m8 d8] 27))
  have Bv_ := (Bk.new w8 27 #[.bool b8, .slice A8 n8 c8, .bool e8, .slice B8 m8 d8])
  have Bv := hid Bv_
  clear Bv_
  generalize (w8.alloc (.cells #[.bool b8, .slice A8 n8 c8, .bool e8, .slice B8 m8 d8] 27)) = w9 at *
  have X9 := hid (X8.out.trans hy9.out)
  have RBy11 := hid (By.out.ext ((((hy5.out.trans hy6.out).trans hy7.out).trans hy8.out).trans hy9.out))
  have RBz11 := hid (Bz.out.ext ((hy7.out.trans hy8.out).trans hy9.out))
  have RBx11 := hid (Bx.out.ext (((((((hy2.out.trans hy3.out).trans hy4.out).trans hy5.out).trans hy6.out).trans hy7.out).trans hy8.out).trans hy9.out))
  have RFy11 := hid (O3.out.ext (((((hy4.out.trans hy5.out).trans hy6.out).trans hy7.out).trans hy8.out).trans hy9.out))
  have RFz11 := hid (O5.out.ext (((hy6.out.trans hy7.out).trans hy8.out).trans hy9.out))
  have hk11_0 : w9.cell? ⟨w3.heap.size, 0, none⟩ = some (.bool b3) ∧ w9.cell? ⟨w3.heap.size, 1, none⟩ = some (.slice A3 n3 c3) ∧ w9.cell? ⟨w3.heap.size, 2, none⟩ = some (.bool e3) ∧ w9.cell? ⟨w3.heap.size, 3, none⟩ = some (.slice B3 m3 d3) ∧ w9.cell? ⟨w5.heap.size, 0, none⟩ = some (.bool b5) ∧ w9.cell? ⟨w5.heap.size, 1, none⟩ = some (.slice A5 n5 c5) ∧ w9.cell? ⟨w5.heap.size, 2, none⟩ = some (.bool e5) ∧ w9.cell? ⟨w5.heap.size, 3, none⟩ = some (.slice B5 m5 d5) ∧ w9.cell? ⟨w8.heap.size, 0, none⟩ = some (.bool b8) ∧ w9.cell? ⟨w8.heap.size, 1, none⟩ = some (.slice A8 n8 c8) ∧ w9.cell? ⟨w8.heap.size, 2, none⟩ = some (.bool e8) ∧ w9.cell? ⟨w8.heap.size, 3, none⟩ = some (.slice B8 m8 d8) ∧ w9.cell? ⟨w.heap.size, 0, none⟩ = some (.bool sx) ∧ w9.cell? ⟨w.heap.size, 1, none⟩ = some (.slice Px lx kx) ∧ w9.cell? ⟨w.heap.size, 2, none⟩ = some (.bool tx) ∧ w9.cell? ⟨w.heap.size, 3, none⟩ = some (.slice Qx mx dx) := ⟨RBy11.out.c 0, RBy11.out.c 1, RBy11.out.c 2, RBy11.out.c 3, RBz11.out.c 0, RBz11.out.c 1, RBz11.out.c 2, RBz11.out.c 3, Bv.out.c 0, Bv.out.c 1, Bv.out.c 2, Bv.out.c 3, RBx11.out.c 0, RBx11.out.c 1, RBx11.out.c 2, RBx11.out.c 3⟩
  have hk11_1 : w9.drew.cell? ⟨w3.heap.size, 0, none⟩ = some (.bool b3) ∧ w9.drew.cell? ⟨w3.heap.size, 1, none⟩ = some (.slice A3 n3 c3) ∧ w9.drew.cell? ⟨w3.heap.size, 2, none⟩ = some (.bool e3) ∧ w9.drew.cell? ⟨w3.heap.size, 3, none⟩ = some (.slice B3 m3 d3) ∧ w9.drew.cell? ⟨w5.heap.size, 0, none⟩ = some (.bool b5) ∧ w9.drew.cell? ⟨w5.heap.size, 1, none⟩ = some (.slice A5 n5 c5) ∧ w9.drew.cell? ⟨w5.heap.size, 2, none⟩ = some (.bool e5) ∧ w9.drew.cell? ⟨w5.heap.size, 3, none⟩ = some (.slice B5 m5 d5) ∧ w9.drew.cell? ⟨w8.heap.size, 0, none⟩ = some (.bool b8) ∧ w9.drew.cell? ⟨w8.heap.size, 1, none⟩ = some (.slice A8 n8 c8) ∧ w9.drew.cell? ⟨w8.heap.size, 2, none⟩ = some (.bool e8) ∧ w9.drew.cell? ⟨w8.heap.size, 3, none⟩ = some (.slice B8 m8 d8) ∧ w9.drew.cell? ⟨w.heap.size, 0, none⟩ = some (.bool sx) ∧ w9.drew.cell? ⟨w.heap.size, 1, none⟩ = some (.slice Px lx kx) ∧ w9.drew.cell? ⟨w.heap.size, 2, none⟩ = some (.bool tx) ∧ w9.drew.cell? ⟨w.heap.size, 3, none⟩ = some (.slice Qx mx dx) := ⟨(RBy11.out.ext (Ext.refl _).drew).c 0, (RBy11.out.ext (Ext.refl _).drew).c 1, (RBy11.out.ext (Ext.refl _).drew).c 2, (RBy11.out.ext (Ext.refl _).drew).c 3, (RBz11.out.ext (Ext.refl _).drew).c 0, (RBz11.out.ext (Ext.refl _).drew).c 1, (RBz11.out.ext (Ext.refl _).drew).c 2, (RBz11.out.ext (Ext.refl _).drew).c 3, (Bv.out.ext (Ext.refl _).drew).c 0, (Bv.out.ext (Ext.refl _).drew).c 1, (Bv.out.ext (Ext.refl _).drew).c 2, (Bv.out.ext (Ext.refl _).drew).c 3, (RBx11.out.ext (Ext.refl _).drew).c 0, (RBx11.out.ext (Ext.refl _).drew).c 1, (RBx11.out.ext (Ext.refl _).drew).c 2, (RBx11.out.ext (Ext.refl _).drew).c 3⟩
  go_region_held3 (fun w' => w'.cell? ⟨w3.heap.size, 0, none⟩ = some (.bool b3) ∧ w'.cell? ⟨w3.heap.size, 1, none⟩ = some (.slice A3 n3 c3) ∧ w'.cell? ⟨w3.heap.size, 2, none⟩ = some (.bool e3) ∧ w'.cell? ⟨w3.heap.size, 3, none⟩ = some (.slice B3 m3 d3) ∧ w'.cell? ⟨w5.heap.size, 0, none⟩ = some (.bool b5) ∧ w'.cell? ⟨w5.heap.size, 1, none⟩ = some (.slice A5 n5 c5) ∧ w'.cell? ⟨w5.heap.size, 2, none⟩ = some (.bool e5) ∧ w'.cell? ⟨w5.heap.size, 3, none⟩ = some (.slice B5 m5 d5) ∧ w'.cell? ⟨w8.heap.size, 0, none⟩ = some (.bool b8) ∧ w'.cell? ⟨w8.heap.size, 1, none⟩ = some (.slice A8 n8 c8) ∧ w'.cell? ⟨w8.heap.size, 2, none⟩ = some (.bool e8) ∧ w'.cell? ⟨w8.heap.size, 3, none⟩ = some (.slice B8 m8 d8) ∧ w'.cell? ⟨w.heap.size, 0, none⟩ = some (.bool sx) ∧ w'.cell? ⟨w.heap.size, 1, none⟩ = some (.slice Px lx kx) ∧ w'.cell? ⟨w.heap.size, 2, none⟩ = some (.bool tx) ∧ w'.cell? ⟨w.heap.size, 3, none⟩ = some (.slice Qx mx dx))
    (first | (with_reducible exact hk11_0) | (with_reducible exact hk11_1) | (with_reducible exact hk11_2) | (with_reducible exact hk11_3) | (with_reducible exact hk11_4) | (with_reducible exact hk11_5) | (with_reducible exact hk11_6))
    (first
      | ((go_at_call 13); (with_reducible refine (dsame_v (RFy11.out.ext (Ext.refl _).drew) (RFz11.out.ext (Ext.refl _).drew) (by omega) rfl).mono ?_); rintro E11 w11 ⟨rfl, hr11⟩; have X11 := hid ((X9.out.trans (Ext.refl _).drew).trans hr11); have hy11 := hid hr11; have Y11 := hid ((Ext.refl _).drew.trans hr11); clear hr11; have hk11_2 : w11.cell? ⟨w3.heap.size, 0, none⟩ = some (.bool b3) ∧ w11.cell? ⟨w3.heap.size, 1, none⟩ = some (.slice A3 n3 c3) ∧ w11.cell? ⟨w3.heap.size, 2, none⟩ = some (.bool e3) ∧ w11.cell? ⟨w3.heap.size, 3, none⟩ = some (.slice B3 m3 d3) ∧ w11.cell? ⟨w5.heap.size, 0, none⟩ = some (.bool b5) ∧ w11.cell? ⟨w5.heap.size, 1, none⟩ = some (.slice A5 n5 c5) ∧ w11.cell? ⟨w5.heap.size, 2, none⟩ = some (.bool e5) ∧ w11.cell? ⟨w5.heap.size, 3, none⟩ = some (.slice B5 m5 d5) ∧ w11.cell? ⟨w8.heap.size, 0, none⟩ = some (.bool b8) ∧ w11.cell? ⟨w8.heap.size, 1, none⟩ = some (.slice A8 n8 c8) ∧ w11.cell? ⟨w8.heap.size, 2, none⟩ = some (.bool e8) ∧ w11.cell? ⟨w8.heap.size, 3, none⟩ = some (.slice B8 m8 d8) ∧ w11.cell? ⟨w.heap.size, 0, none⟩ = some (.bool sx) ∧ w11.cell? ⟨w.heap.size, 1, none⟩ = some (.slice Px lx kx) ∧ w11.cell? ⟨w.heap.size, 2, none⟩ = some (.bool tx) ∧ w11.cell? ⟨w.heap.size, 3, none⟩ = some (.slice Qx mx dx) := ⟨(RBy11.out.ext Y11.out).c 0, (RBy11.out.ext Y11.out).c 1, (RBy11.out.ext Y11.out).c 2, (RBy11.out.ext Y11.out).c 3, (RBz11.out.ext Y11.out).c 0, (RBz11.out.ext Y11.out).c 1, (RBz11.out.ext Y11.out).c 2, (RBz11.out.ext Y11.out).c 3, (Bv.out.ext Y11.out).c 0, (Bv.out.ext Y11.out).c 1, (Bv.out.ext Y11.out).c 2, (Bv.out.ext Y11.out).c 3, (RBx11.out.ext Y11.out).c 0, (RBx11.out.ext Y11.out).c 1, (RBx11.out.ext Y11.out).c 2, (RBx11.out.ext Y11.out).c 3⟩)
      | ((go_at_call 11); (with_reducible refine (dof_v (Hx.out.ext X11.out) (by omega)).mono ?_); rintro E12 w12 ⟨b12, A12, n12, c12, e12, B12, m12, d12, rfl, o12, hr12⟩; have X12 := hid (X11.out.trans hr12); have hy12 := hid hr12; have Y12 := hid (Y11.out.trans hr12); clear hr12; have O12 := hid o12; clear o12; have hk11_3 : w12.cell? ⟨w3.heap.size, 0, none⟩ = some (.bool b3) ∧ w12.cell? ⟨w3.heap.size, 1, none⟩ = some (.slice A3 n3 c3) ∧ w12.cell? ⟨w3.heap.size, 2, none⟩ = some (.bool e3) ∧ w12.cell? ⟨w3.heap.size, 3, none⟩ = some (.slice B3 m3 d3) ∧ w12.cell? ⟨w5.heap.size, 0, none⟩ = some (.bool b5) ∧ w12.cell? ⟨w5.heap.size, 1, none⟩ = some (.slice A5 n5 c5) ∧ w12.cell? ⟨w5.heap.size, 2, none⟩ = some (.bool e5) ∧ w12.cell? ⟨w5.heap.size, 3, none⟩ = some (.slice B5 m5 d5) ∧ w12.cell? ⟨w8.heap.size, 0, none⟩ = some (.bool b8) ∧ w12.cell? ⟨w8.heap.size, 1, none⟩ = some (.slice A8 n8 c8) ∧ w12.cell? ⟨w8.heap.size, 2, none⟩ = some (.bool e8) ∧ w12.cell? ⟨w8.heap.size, 3, none⟩ = some (.slice B8 m8 d8) ∧ w12.cell? ⟨w.heap.size, 0, none⟩ = some (.bool sx) ∧ w12.cell? ⟨w.heap.size, 1, none⟩ = some (.slice Px lx kx) ∧ w12.cell? ⟨w.heap.size, 2, none⟩ = some (.bool tx) ∧ w12.cell? ⟨w.heap.size, 3, none⟩ = some (.slice Qx mx dx) := ⟨(RBy11.out.ext Y12.out).c 0, (RBy11.out.ext Y12.out).c 1, (RBy11.out.ext Y12.out).c 2, (RBy11.out.ext Y12.out).c 3, (RBz11.out.ext Y12.out).c 0, (RBz11.out.ext Y12.out).c 1, (RBz11.out.ext Y12.out).c 2, (RBz11.out.ext Y12.out).c 3, (Bv.out.ext Y12.out).c 0, (Bv.out.ext Y12.out).c 1, (Bv.out.ext Y12.out).c 2, (Bv.out.ext Y12.out).c 3, (RBx11.out.ext Y12.out).c 0, (RBx11.out.ext Y12.out).c 1, (RBx11.out.ext Y12.out).c 2, (RBx11.out.ext Y12.out).c 3⟩)
      | ((go_at_call 15); (with_reducible refine (drat_v O12.out (by omega)).mono ?_); rintro E13 w13 ⟨b13, A13, n13, c13, e13, B13, m13, d13, rfl, o13, hr13⟩; have X13 := hid (X12.out.trans hr13); have hy13 := hid hr13; have Y13 := hid (Y12.out.trans hr13); clear hr13; have O13 := hid (o13.mono X12.out.size); clear o13; have hk11_4 : w13.cell? ⟨w3.heap.size, 0, none⟩ = some (.bool b3) ∧ w13.cell? ⟨w3.heap.size, 1, none⟩ = some (.slice A3 n3 c3) ∧ w13.cell? ⟨w3.heap.size, 2, none⟩ = some (.bool e3) ∧ w13.cell? ⟨w3.heap.size, 3, none⟩ = some (.slice B3 m3 d3) ∧ w13.cell? ⟨w5.heap.size, 0, none⟩ = some (.bool b5) ∧ w13.cell? ⟨w5.heap.size, 1, none⟩ = some (.slice A5 n5 c5) ∧ w13.cell? ⟨w5.heap.size, 2, none⟩ = some (.bool e5) ∧ w13.cell? ⟨w5.heap.size, 3, none⟩ = some (.slice B5 m5 d5) ∧ w13.cell? ⟨w8.heap.size, 0, none⟩ = some (.bool b8) ∧ w13.cell? ⟨w8.heap.size, 1, none⟩ = some (.slice A8 n8 c8) ∧ w13.cell? ⟨w8.heap.size, 2, none⟩ = some (.bool e8) ∧ w13.cell? ⟨w8.heap.size, 3, none⟩ = some (.slice B8 m8 d8) ∧ w13.cell? ⟨w.heap.size, 0, none⟩ = some (.bool sx) ∧ w13.cell? ⟨w.heap.size, 1, none⟩ = some (.slice Px lx kx) ∧ w13.cell? ⟨w.heap.size, 2, none⟩ = some (.bool tx) ∧ w13.cell? ⟨w.heap.size, 3, none⟩ = some (.slice Qx mx dx) := ⟨(RBy11.out.ext Y13.out).c 0, (RBy11.out.ext Y13.out).c 1, (RBy11.out.ext Y13.out).c 2, (RBy11.out.ext Y13.out).c 3, (RBz11.out.ext Y13.out).c 0, (RBz11.out.ext Y13.out).c 1, (RBz11.out.ext Y13.out).c 2, (RBz11.out.ext Y13.out).c 3, (Bv.out.ext Y13.out).c 0, (Bv.out.ext Y13.out).c 1, (Bv.out.ext Y13.out).c 2, (Bv.out.ext Y13.out).c 3, (RBx11.out.ext Y13.out).c 0, (RBx11.out.ext Y13.out).c 1, (RBx11.out.ext Y13.out).c 2, (RBx11.out.ext Y13.out).c 3⟩)
      | ((go_at_call 13); (with_reducible refine (dsame_v (O8.out.ext (hy9.out.trans Y13.out)) O13.out (by omega) rfl).mono ?_); rintro E14 w14 ⟨rfl, hr14⟩; have X14 := hid (X13.out.trans hr14); have hy14 := hid hr14; have Y14 := hid (Y13.out.trans hr14); clear hr14; have hk11_5 : w14.cell? ⟨w3.heap.size, 0, none⟩ = some (.bool b3) ∧ w14.cell? ⟨w3.heap.size, 1, none⟩ = some (.slice A3 n3 c3) ∧ w14.cell? ⟨w3.heap.size, 2, none⟩ = some (.bool e3) ∧ w14.cell? ⟨w3.heap.size, 3, none⟩ = some (.slice B3 m3 d3) ∧ w14.cell? ⟨w5.heap.size, 0, none⟩ = some (.bool b5) ∧ w14.cell? ⟨w5.heap.size, 1, none⟩ = some (.slice A5 n5 c5) ∧ w14.cell? ⟨w5.heap.size, 2, none⟩ = some (.bool e5) ∧ w14.cell? ⟨w5.heap.size, 3, none⟩ = some (.slice B5 m5 d5) ∧ w14.cell? ⟨w8.heap.size, 0, none⟩ = some (.bool b8) ∧ w14.cell? ⟨w8.heap.size, 1, none⟩ = some (.slice A8 n8 c8) ∧ w14.cell? ⟨w8.heap.size, 2, none⟩ = some (.bool e8) ∧ w14.cell? ⟨w8.heap.size, 3, none⟩ = some (.slice B8 m8 d8) ∧ w14.cell? ⟨w.heap.size, 0, none⟩ = some (.bool sx) ∧ w14.cell? ⟨w.heap.size, 1, none⟩ = some (.slice Px lx kx) ∧ w14.cell? ⟨w.heap.size, 2, none⟩ = some (.bool tx) ∧ w14.cell? ⟨w.heap.size, 3, none⟩ = some (.slice Qx mx dx) := ⟨(RBy11.out.ext Y14.out).c 0, (RBy11.out.ext Y14.out).c 1, (RBy11.out.ext Y14.out).c 2, (RBy11.out.ext Y14.out).c 3, (RBz11.out.ext Y14.out).c 0, (RBz11.out.ext Y14.out).c 1, (RBz11.out.ext Y14.out).c 2, (RBz11.out.ext Y14.out).c 3, (Bv.out.ext Y14.out).c 0, (Bv.out.ext Y14.out).c 1, (Bv.out.ext Y14.out).c 2, (Bv.out.ext Y14.out).c 3, (RBx11.out.ext Y14.out).c 0, (RBx11.out.ext Y14.out).c 1, (RBx11.out.ext Y14.out).c 2, (RBx11.out.ext Y14.out).c 3⟩)
      | ((go_at_call 8); (with_reducible refine (known_any6).mono ?_); rintro E15 w15 ⟨rfl, hr15⟩; have X15 := hid (X14.out.trans hr15); have hy15 := hid hr15; have Y15 := hid (Y14.out.trans hr15); clear hr15; have hk11_6 : w15.cell? ⟨w3.heap.size, 0, none⟩ = some (.bool b3) ∧ w15.cell? ⟨w3.heap.size, 1, none⟩ = some (.slice A3 n3 c3) ∧ w15.cell? ⟨w3.heap.size, 2, none⟩ = some (.bool e3) ∧ w15.cell? ⟨w3.heap.size, 3, none⟩ = some (.slice B3 m3 d3) ∧ w15.cell? ⟨w5.heap.size, 0, none⟩ = some (.bool b5) ∧ w15.cell? ⟨w5.heap.size, 1, none⟩ = some (.slice A5 n5 c5) ∧ w15.cell? ⟨w5.heap.size, 2, none⟩ = some (.bool e5) ∧ w15.cell? ⟨w5.heap.size, 3, none⟩ = some (.slice B5 m5 d5) ∧ w15.cell? ⟨w8.heap.size, 0, none⟩ = some (.bool b8) ∧ w15.cell? ⟨w8.heap.size, 1, none⟩ = some (.slice A8 n8 c8) ∧ w15.cell? ⟨w8.heap.size, 2, none⟩ = some (.bool e8) ∧ w15.cell? ⟨w8.heap.size, 3, none⟩ = some (.slice B8 m8 d8) ∧ w15.cell? ⟨w.heap.size, 0, none⟩ = some (.bool sx) ∧ w15.cell? ⟨w.heap.size, 1, none⟩ = some (.slice Px lx kx) ∧ w15.cell? ⟨w.heap.size, 2, none⟩ = some (.bool tx) ∧ w15.cell? ⟨w.heap.size, 3, none⟩ = some (.slice Qx mx dx) := ⟨(RBy11.out.ext Y15.out).c 0, (RBy11.out.ext Y15.out).c 1, (RBy11.out.ext Y15.out).c 2, (RBy11.out.ext Y15.out).c 3, (RBz11.out.ext Y15.out).c 0, (RBz11.out.ext Y15.out).c 1, (RBz11.out.ext Y15.out).c 2, (RBz11.out.ext Y15.out).c 3, (Bv.out.ext Y15.out).c 0, (Bv.out.ext Y15.out).c 1, (Bv.out.ext Y15.out).c 2, (Bv.out.ext Y15.out).c 3, (RBx11.out.ext Y15.out).c 0, (RBx11.out.ext Y15.out).c 1, (RBx11.out.ext Y15.out).c 2, (RBx11.out.ext Y15.out).c 3⟩))
  clear hk11_0 hk11_1 hk11_2 hk11_3 hk11_4 hk11_5 hk11_6
  go_wp2_with fail
  go_ret
  exact ⟨rfl, X15.out⟩

set_option maxHeartbeats 6400000 in
set_option maxRecDepth 100000 in
theorem ratioParse_no {w : World} {sx tx : Bool} {Px Qx : Option Addr} {lx kx mx dx : Nat} {s : ByteArray} {x : Rat} (hx : Rv 8 w sx Px lx kx tx Qx mx dx x) (blx : lx ≤ 8) (bmx : mx ≤ 8) (hs : s.size ≤ 200) (h : ∀ r, byt s ≠ txr r) :
    Calls Try.prog 4 #[.string s, .agg #[.bool sx, .slice Px lx kx, .bool tx, .slice Qx mx dx]] w (RetE (.bool true) w) := by
  have hs' : ¬ (200 : Int) < (s.size : Int) := by omega
  have hTs := txr_sz hx
  obtain ⟨T, hT⟩ : ∃ T, bts (txr x) = T := ⟨_, rfl⟩
  rw [hT] at hTs
  have hTb := hid (show byt T = txr x by rw [← hT, byt_bts (txr_lim x)])
  have HT := hid hT
  have H := hid h
  have Hx := hid hx
  clear hx
  clear hT h
  go_enter Try.func4, Try.ntmps4
  go_wp2_with fail
  have hy1 := hid (((Ext.refl w).alloc (.cells #[.bool sx, .slice Px lx kx, .bool tx, .slice Qx mx dx] 27)).alloc (.cells #[.bool sx, .slice Px lx kx, .bool tx, .slice Qx mx dx] 27))
  have Bx_ := ((Bk.new w 27 #[.bool sx, .slice Px lx kx, .bool tx, .slice Qx mx dx]).ext ((Ext.refl (w.alloc (.cells #[.bool sx, .slice Px lx kx, .bool tx, .slice Qx mx dx] 27))).alloc (.cells #[.bool sx, .slice Px lx kx, .bool tx, .slice Qx mx dx] 27)))
  have Bx := hid Bx_
  clear Bx_
  have Brow_ := (Bk.new (w.alloc (.cells #[.bool sx, .slice Px lx kx, .bool tx, .slice Qx mx dx] 27)) 27 #[.bool sx, .slice Px lx kx, .bool tx, .slice Qx mx dx])
  rw [size_alloc] at Brow_
  have Brow := hid Brow_
  clear Brow_
  generalize ((w.alloc (.cells #[.bool sx, .slice Px lx kx, .bool tx, .slice Qx mx dx] 27)).alloc (.cells #[.bool sx, .slice Px lx kx, .bool tx, .slice Qx mx dx] 27)) = w1 at *
  have X1 := hid ((Ext.refl _).trans hy1.out)
  obtain ⟨f3_0, f3_1, f3_2, f3_3⟩ : w1.cell? ⟨w.heap.size, 0, none⟩ = some (.bool sx) ∧ w1.cell? ⟨w.heap.size, 1, none⟩ = some (.slice Px lx kx) ∧ w1.cell? ⟨w.heap.size, 2, none⟩ = some (.bool tx) ∧ w1.cell? ⟨w.heap.size, 3, none⟩ = some (.slice Qx mx dx) := ⟨Bx.out.c 0, Bx.out.c 1, Bx.out.c 2, Bx.out.c 3⟩
  go_upto_region 3 with (first
    | ((go_at_call 17); (with_reducible refine (great6_no1 Brow.out blx bmx).mono ?_); rintro E2 w2 ⟨rfl, hr2⟩; have X2 := hid (X1.out.trans hr2); have hy2 := hid hr2; clear hr2; obtain ⟨f4_0, f4_1, f4_2, f4_3⟩ : w2.cell? ⟨w.heap.size, 0, none⟩ = some (.bool sx) ∧ w2.cell? ⟨w.heap.size, 1, none⟩ = some (.slice Px lx kx) ∧ w2.cell? ⟨w.heap.size, 2, none⟩ = some (.bool tx) ∧ w2.cell? ⟨w.heap.size, 3, none⟩ = some (.slice Qx mx dx) := ⟨(Bx.out.ext hy2.out).c 0, (Bx.out.ext hy2.out).c 1, (Bx.out.ext hy2.out).c 2, (Bx.out.ext hy2.out).c 3⟩))
  clear f3_0 f3_1 f3_2 f3_3 f4_0 f4_1 f4_2 f4_3
  go_upto_region 4 with (first
    | ((go_at_call 18); (with_reducible refine (qparse_no (s := s) (by omega) H.out).mono ?_); rintro E3 w3 ⟨rfl, hr3⟩; have X3 := hid (X2.out.trans hr3); have hy3 := hid hr3; clear hr3))
  have hy4 := hid ((Ext.refl w3).alloc (.cells #[.bool false, .slice none 0 0, .bool false, .slice none 0 0] 27))
  have By_ := (Bk.new w3 27 #[.bool false, .slice none 0 0, .bool false, .slice none 0 0])
  have By := hid By_
  clear By_
  generalize (w3.alloc (.cells #[.bool false, .slice none 0 0, .bool false, .slice none 0 0] 27)) = w4 at *
  have X4 := hid (X3.out.trans hy4.out)
  go_upto_region 5 with (first
    | ((go_at_call 19); (with_reducible refine (dparse_no (s := s) (by omega) H.out).mono ?_); rintro E5 w5 ⟨rfl, hr5⟩; have X5 := hid (X4.out.trans hr5); have hy5 := hid hr5; clear hr5))
  have hy6 := hid ((Ext.refl w5).alloc (.cells #[.bool false, .slice none 0 0, .bool false, .slice none 0 0] 27))
  have Bz_ := (Bk.new w5 27 #[.bool false, .slice none 0 0, .bool false, .slice none 0 0])
  have Bz := hid Bz_
  clear Bz_
  generalize (w5.alloc (.cells #[.bool false, .slice none 0 0, .bool false, .slice none 0 0] 27)) = w6 at *
  have X6 := hid (X5.out.trans hy6.out)
  obtain ⟨f7_0, f7_1, f7_2, f7_3⟩ : w6.cell? ⟨w.heap.size, 0, none⟩ = some (.bool sx) ∧ w6.cell? ⟨w.heap.size, 1, none⟩ = some (.slice Px lx kx) ∧ w6.cell? ⟨w.heap.size, 2, none⟩ = some (.bool tx) ∧ w6.cell? ⟨w.heap.size, 3, none⟩ = some (.slice Qx mx dx) := ⟨(Bx.out.ext ((((hy2.out.trans hy3.out).trans hy4.out).trans hy5.out).trans hy6.out)).c 0, (Bx.out.ext ((((hy2.out.trans hy3.out).trans hy4.out).trans hy5.out).trans hy6.out)).c 1, (Bx.out.ext ((((hy2.out.trans hy3.out).trans hy4.out).trans hy5.out).trans hy6.out)).c 2, (Bx.out.ext ((((hy2.out.trans hy3.out).trans hy4.out).trans hy5.out).trans hy6.out)).c 3⟩
  go_upto_region 6 with (first
    | ((go_at_call 20); (with_reducible refine (rtext_qis (Hx.out.ext X6.out) (by omega) HT.out).mono ?_); rintro E7 w7 ⟨rfl, hr7⟩; have X7 := hid (X6.out.trans hr7); have hy7 := hid hr7; clear hr7; obtain ⟨f8_0, f8_1, f8_2, f8_3⟩ : w7.cell? ⟨w.heap.size, 0, none⟩ = some (.bool sx) ∧ w7.cell? ⟨w.heap.size, 1, none⟩ = some (.slice Px lx kx) ∧ w7.cell? ⟨w.heap.size, 2, none⟩ = some (.bool tx) ∧ w7.cell? ⟨w.heap.size, 3, none⟩ = some (.slice Qx mx dx) := ⟨(Bx.out.ext (((((hy2.out.trans hy3.out).trans hy4.out).trans hy5.out).trans hy6.out).trans hy7.out)).c 0, (Bx.out.ext (((((hy2.out.trans hy3.out).trans hy4.out).trans hy5.out).trans hy6.out).trans hy7.out)).c 1, (Bx.out.ext (((((hy2.out.trans hy3.out).trans hy4.out).trans hy5.out).trans hy6.out).trans hy7.out)).c 2, (Bx.out.ext (((((hy2.out.trans hy3.out).trans hy4.out).trans hy5.out).trans hy6.out).trans hy7.out)).c 3⟩)
    | ((go_at_call 18); (with_reducible refine (qparse_yes (s := T) (by omega) hTb.out).mono ?_); rintro E8 w8 ⟨b8, A8, n8, c8, e8, B8, m8, d8, rfl, o8, hr8⟩; have X8 := hid (X7.out.trans hr8); have hy8 := hid hr8; clear hr8; have O8 := hid (o8.mono X7.out.size); clear o8; obtain ⟨f9_0, f9_1, f9_2, f9_3⟩ : w8.cell? ⟨w.heap.size, 0, none⟩ = some (.bool sx) ∧ w8.cell? ⟨w.heap.size, 1, none⟩ = some (.slice Px lx kx) ∧ w8.cell? ⟨w.heap.size, 2, none⟩ = some (.bool tx) ∧ w8.cell? ⟨w.heap.size, 3, none⟩ = some (.slice Qx mx dx) := ⟨(Bx.out.ext ((((((hy2.out.trans hy3.out).trans hy4.out).trans hy5.out).trans hy6.out).trans hy7.out).trans hy8.out)).c 0, (Bx.out.ext ((((((hy2.out.trans hy3.out).trans hy4.out).trans hy5.out).trans hy6.out).trans hy7.out).trans hy8.out)).c 1, (Bx.out.ext ((((((hy2.out.trans hy3.out).trans hy4.out).trans hy5.out).trans hy6.out).trans hy7.out).trans hy8.out)).c 2, (Bx.out.ext ((((((hy2.out.trans hy3.out).trans hy4.out).trans hy5.out).trans hy6.out).trans hy7.out).trans hy8.out)).c 3⟩))
  clear f7_0 f7_1 f7_2 f7_3 f8_0 f8_1 f8_2 f8_3 f9_0 f9_1 f9_2 f9_3
  have hy9 := hid ((Ext.refl w8).alloc (.cells #[.bool b8, .slice A8 n8 c8, .bool e8, .slice B8 m8 d8] 27))
  have Bv_ := (Bk.new w8 27 #[.bool b8, .slice A8 n8 c8, .bool e8, .slice B8 m8 d8])
  have Bv := hid Bv_
  clear Bv_
  generalize (w8.alloc (.cells #[.bool b8, .slice A8 n8 c8, .bool e8, .slice B8 m8 d8] 27)) = w9 at *
  have X9 := hid (X8.out.trans hy9.out)
  have RBy11 := hid (By.out.ext ((((hy5.out.trans hy6.out).trans hy7.out).trans hy8.out).trans hy9.out))
  have RBz11 := hid (Bz.out.ext ((hy7.out.trans hy8.out).trans hy9.out))
  have RBx11 := hid (Bx.out.ext (((((((hy2.out.trans hy3.out).trans hy4.out).trans hy5.out).trans hy6.out).trans hy7.out).trans hy8.out).trans hy9.out))
  have hk11_0 : w9.cell? ⟨w3.heap.size, 0, none⟩ = some (.bool false) ∧ w9.cell? ⟨w3.heap.size, 1, none⟩ = some (.slice none 0 0) ∧ w9.cell? ⟨w3.heap.size, 2, none⟩ = some (.bool false) ∧ w9.cell? ⟨w3.heap.size, 3, none⟩ = some (.slice none 0 0) ∧ w9.cell? ⟨w5.heap.size, 0, none⟩ = some (.bool false) ∧ w9.cell? ⟨w5.heap.size, 1, none⟩ = some (.slice none 0 0) ∧ w9.cell? ⟨w5.heap.size, 2, none⟩ = some (.bool false) ∧ w9.cell? ⟨w5.heap.size, 3, none⟩ = some (.slice none 0 0) ∧ w9.cell? ⟨w8.heap.size, 0, none⟩ = some (.bool b8) ∧ w9.cell? ⟨w8.heap.size, 1, none⟩ = some (.slice A8 n8 c8) ∧ w9.cell? ⟨w8.heap.size, 2, none⟩ = some (.bool e8) ∧ w9.cell? ⟨w8.heap.size, 3, none⟩ = some (.slice B8 m8 d8) ∧ w9.cell? ⟨w.heap.size, 0, none⟩ = some (.bool sx) ∧ w9.cell? ⟨w.heap.size, 1, none⟩ = some (.slice Px lx kx) ∧ w9.cell? ⟨w.heap.size, 2, none⟩ = some (.bool tx) ∧ w9.cell? ⟨w.heap.size, 3, none⟩ = some (.slice Qx mx dx) := ⟨RBy11.out.c 0, RBy11.out.c 1, RBy11.out.c 2, RBy11.out.c 3, RBz11.out.c 0, RBz11.out.c 1, RBz11.out.c 2, RBz11.out.c 3, Bv.out.c 0, Bv.out.c 1, Bv.out.c 2, Bv.out.c 3, RBx11.out.c 0, RBx11.out.c 1, RBx11.out.c 2, RBx11.out.c 3⟩
  have hk11_1 : w9.drew.cell? ⟨w3.heap.size, 0, none⟩ = some (.bool false) ∧ w9.drew.cell? ⟨w3.heap.size, 1, none⟩ = some (.slice none 0 0) ∧ w9.drew.cell? ⟨w3.heap.size, 2, none⟩ = some (.bool false) ∧ w9.drew.cell? ⟨w3.heap.size, 3, none⟩ = some (.slice none 0 0) ∧ w9.drew.cell? ⟨w5.heap.size, 0, none⟩ = some (.bool false) ∧ w9.drew.cell? ⟨w5.heap.size, 1, none⟩ = some (.slice none 0 0) ∧ w9.drew.cell? ⟨w5.heap.size, 2, none⟩ = some (.bool false) ∧ w9.drew.cell? ⟨w5.heap.size, 3, none⟩ = some (.slice none 0 0) ∧ w9.drew.cell? ⟨w8.heap.size, 0, none⟩ = some (.bool b8) ∧ w9.drew.cell? ⟨w8.heap.size, 1, none⟩ = some (.slice A8 n8 c8) ∧ w9.drew.cell? ⟨w8.heap.size, 2, none⟩ = some (.bool e8) ∧ w9.drew.cell? ⟨w8.heap.size, 3, none⟩ = some (.slice B8 m8 d8) ∧ w9.drew.cell? ⟨w.heap.size, 0, none⟩ = some (.bool sx) ∧ w9.drew.cell? ⟨w.heap.size, 1, none⟩ = some (.slice Px lx kx) ∧ w9.drew.cell? ⟨w.heap.size, 2, none⟩ = some (.bool tx) ∧ w9.drew.cell? ⟨w.heap.size, 3, none⟩ = some (.slice Qx mx dx) := ⟨(RBy11.out.ext (Ext.refl _).drew).c 0, (RBy11.out.ext (Ext.refl _).drew).c 1, (RBy11.out.ext (Ext.refl _).drew).c 2, (RBy11.out.ext (Ext.refl _).drew).c 3, (RBz11.out.ext (Ext.refl _).drew).c 0, (RBz11.out.ext (Ext.refl _).drew).c 1, (RBz11.out.ext (Ext.refl _).drew).c 2, (RBz11.out.ext (Ext.refl _).drew).c 3, (Bv.out.ext (Ext.refl _).drew).c 0, (Bv.out.ext (Ext.refl _).drew).c 1, (Bv.out.ext (Ext.refl _).drew).c 2, (Bv.out.ext (Ext.refl _).drew).c 3, (RBx11.out.ext (Ext.refl _).drew).c 0, (RBx11.out.ext (Ext.refl _).drew).c 1, (RBx11.out.ext (Ext.refl _).drew).c 2, (RBx11.out.ext (Ext.refl _).drew).c 3⟩
  go_region_held3 (fun w' => w'.cell? ⟨w3.heap.size, 0, none⟩ = some (.bool false) ∧ w'.cell? ⟨w3.heap.size, 1, none⟩ = some (.slice none 0 0) ∧ w'.cell? ⟨w3.heap.size, 2, none⟩ = some (.bool false) ∧ w'.cell? ⟨w3.heap.size, 3, none⟩ = some (.slice none 0 0) ∧ w'.cell? ⟨w5.heap.size, 0, none⟩ = some (.bool false) ∧ w'.cell? ⟨w5.heap.size, 1, none⟩ = some (.slice none 0 0) ∧ w'.cell? ⟨w5.heap.size, 2, none⟩ = some (.bool false) ∧ w'.cell? ⟨w5.heap.size, 3, none⟩ = some (.slice none 0 0) ∧ w'.cell? ⟨w8.heap.size, 0, none⟩ = some (.bool b8) ∧ w'.cell? ⟨w8.heap.size, 1, none⟩ = some (.slice A8 n8 c8) ∧ w'.cell? ⟨w8.heap.size, 2, none⟩ = some (.bool e8) ∧ w'.cell? ⟨w8.heap.size, 3, none⟩ = some (.slice B8 m8 d8) ∧ w'.cell? ⟨w.heap.size, 0, none⟩ = some (.bool sx) ∧ w'.cell? ⟨w.heap.size, 1, none⟩ = some (.slice Px lx kx) ∧ w'.cell? ⟨w.heap.size, 2, none⟩ = some (.bool tx) ∧ w'.cell? ⟨w.heap.size, 3, none⟩ = some (.slice Qx mx dx))
    (first | (with_reducible exact hk11_0) | (with_reducible exact hk11_1) | (with_reducible exact hk11_2) | (with_reducible exact hk11_3) | (with_reducible exact hk11_4) | (with_reducible exact hk11_5) | (with_reducible exact hk11_6))
    (first
      | ((go_at_call 13); (with_reducible refine (dsame_ci (K := 0) (ci_zero _) (ci_zero _) (ci_zero _) (ci_zero _) (by omega) rfl rfl).mono ?_); rintro E11 w11 ⟨rfl, hr11⟩; have X11 := hid ((X9.out.trans (Ext.refl _).drew).trans hr11); have hy11 := hid hr11; have Y11 := hid ((Ext.refl _).drew.trans hr11); clear hr11; have hk11_2 : w11.cell? ⟨w3.heap.size, 0, none⟩ = some (.bool false) ∧ w11.cell? ⟨w3.heap.size, 1, none⟩ = some (.slice none 0 0) ∧ w11.cell? ⟨w3.heap.size, 2, none⟩ = some (.bool false) ∧ w11.cell? ⟨w3.heap.size, 3, none⟩ = some (.slice none 0 0) ∧ w11.cell? ⟨w5.heap.size, 0, none⟩ = some (.bool false) ∧ w11.cell? ⟨w5.heap.size, 1, none⟩ = some (.slice none 0 0) ∧ w11.cell? ⟨w5.heap.size, 2, none⟩ = some (.bool false) ∧ w11.cell? ⟨w5.heap.size, 3, none⟩ = some (.slice none 0 0) ∧ w11.cell? ⟨w8.heap.size, 0, none⟩ = some (.bool b8) ∧ w11.cell? ⟨w8.heap.size, 1, none⟩ = some (.slice A8 n8 c8) ∧ w11.cell? ⟨w8.heap.size, 2, none⟩ = some (.bool e8) ∧ w11.cell? ⟨w8.heap.size, 3, none⟩ = some (.slice B8 m8 d8) ∧ w11.cell? ⟨w.heap.size, 0, none⟩ = some (.bool sx) ∧ w11.cell? ⟨w.heap.size, 1, none⟩ = some (.slice Px lx kx) ∧ w11.cell? ⟨w.heap.size, 2, none⟩ = some (.bool tx) ∧ w11.cell? ⟨w.heap.size, 3, none⟩ = some (.slice Qx mx dx) := ⟨(RBy11.out.ext Y11.out).c 0, (RBy11.out.ext Y11.out).c 1, (RBy11.out.ext Y11.out).c 2, (RBy11.out.ext Y11.out).c 3, (RBz11.out.ext Y11.out).c 0, (RBz11.out.ext Y11.out).c 1, (RBz11.out.ext Y11.out).c 2, (RBz11.out.ext Y11.out).c 3, (Bv.out.ext Y11.out).c 0, (Bv.out.ext Y11.out).c 1, (Bv.out.ext Y11.out).c 2, (Bv.out.ext Y11.out).c 3, (RBx11.out.ext Y11.out).c 0, (RBx11.out.ext Y11.out).c 1, (RBx11.out.ext Y11.out).c 2, (RBx11.out.ext Y11.out).c 3⟩)
      | ((go_at_call 11); (with_reducible refine (dof_v (Hx.out.ext X11.out) (by omega)).mono ?_); rintro E12 w12 ⟨b12, A12, n12, c12, e12, B12, m12, d12, rfl, o12, hr12⟩; have X12 := hid (X11.out.trans hr12); have hy12 := hid hr12; have Y12 := hid (Y11.out.trans hr12); clear hr12; have O12 := hid o12; clear o12; have hk11_3 : w12.cell? ⟨w3.heap.size, 0, none⟩ = some (.bool false) ∧ w12.cell? ⟨w3.heap.size, 1, none⟩ = some (.slice none 0 0) ∧ w12.cell? ⟨w3.heap.size, 2, none⟩ = some (.bool false) ∧ w12.cell? ⟨w3.heap.size, 3, none⟩ = some (.slice none 0 0) ∧ w12.cell? ⟨w5.heap.size, 0, none⟩ = some (.bool false) ∧ w12.cell? ⟨w5.heap.size, 1, none⟩ = some (.slice none 0 0) ∧ w12.cell? ⟨w5.heap.size, 2, none⟩ = some (.bool false) ∧ w12.cell? ⟨w5.heap.size, 3, none⟩ = some (.slice none 0 0) ∧ w12.cell? ⟨w8.heap.size, 0, none⟩ = some (.bool b8) ∧ w12.cell? ⟨w8.heap.size, 1, none⟩ = some (.slice A8 n8 c8) ∧ w12.cell? ⟨w8.heap.size, 2, none⟩ = some (.bool e8) ∧ w12.cell? ⟨w8.heap.size, 3, none⟩ = some (.slice B8 m8 d8) ∧ w12.cell? ⟨w.heap.size, 0, none⟩ = some (.bool sx) ∧ w12.cell? ⟨w.heap.size, 1, none⟩ = some (.slice Px lx kx) ∧ w12.cell? ⟨w.heap.size, 2, none⟩ = some (.bool tx) ∧ w12.cell? ⟨w.heap.size, 3, none⟩ = some (.slice Qx mx dx) := ⟨(RBy11.out.ext Y12.out).c 0, (RBy11.out.ext Y12.out).c 1, (RBy11.out.ext Y12.out).c 2, (RBy11.out.ext Y12.out).c 3, (RBz11.out.ext Y12.out).c 0, (RBz11.out.ext Y12.out).c 1, (RBz11.out.ext Y12.out).c 2, (RBz11.out.ext Y12.out).c 3, (Bv.out.ext Y12.out).c 0, (Bv.out.ext Y12.out).c 1, (Bv.out.ext Y12.out).c 2, (Bv.out.ext Y12.out).c 3, (RBx11.out.ext Y12.out).c 0, (RBx11.out.ext Y12.out).c 1, (RBx11.out.ext Y12.out).c 2, (RBx11.out.ext Y12.out).c 3⟩)
      | ((go_at_call 15); (with_reducible refine (drat_v O12.out (by omega)).mono ?_); rintro E13 w13 ⟨b13, A13, n13, c13, e13, B13, m13, d13, rfl, o13, hr13⟩; have X13 := hid (X12.out.trans hr13); have hy13 := hid hr13; have Y13 := hid (Y12.out.trans hr13); clear hr13; have O13 := hid (o13.mono X12.out.size); clear o13; have hk11_4 : w13.cell? ⟨w3.heap.size, 0, none⟩ = some (.bool false) ∧ w13.cell? ⟨w3.heap.size, 1, none⟩ = some (.slice none 0 0) ∧ w13.cell? ⟨w3.heap.size, 2, none⟩ = some (.bool false) ∧ w13.cell? ⟨w3.heap.size, 3, none⟩ = some (.slice none 0 0) ∧ w13.cell? ⟨w5.heap.size, 0, none⟩ = some (.bool false) ∧ w13.cell? ⟨w5.heap.size, 1, none⟩ = some (.slice none 0 0) ∧ w13.cell? ⟨w5.heap.size, 2, none⟩ = some (.bool false) ∧ w13.cell? ⟨w5.heap.size, 3, none⟩ = some (.slice none 0 0) ∧ w13.cell? ⟨w8.heap.size, 0, none⟩ = some (.bool b8) ∧ w13.cell? ⟨w8.heap.size, 1, none⟩ = some (.slice A8 n8 c8) ∧ w13.cell? ⟨w8.heap.size, 2, none⟩ = some (.bool e8) ∧ w13.cell? ⟨w8.heap.size, 3, none⟩ = some (.slice B8 m8 d8) ∧ w13.cell? ⟨w.heap.size, 0, none⟩ = some (.bool sx) ∧ w13.cell? ⟨w.heap.size, 1, none⟩ = some (.slice Px lx kx) ∧ w13.cell? ⟨w.heap.size, 2, none⟩ = some (.bool tx) ∧ w13.cell? ⟨w.heap.size, 3, none⟩ = some (.slice Qx mx dx) := ⟨(RBy11.out.ext Y13.out).c 0, (RBy11.out.ext Y13.out).c 1, (RBy11.out.ext Y13.out).c 2, (RBy11.out.ext Y13.out).c 3, (RBz11.out.ext Y13.out).c 0, (RBz11.out.ext Y13.out).c 1, (RBz11.out.ext Y13.out).c 2, (RBz11.out.ext Y13.out).c 3, (Bv.out.ext Y13.out).c 0, (Bv.out.ext Y13.out).c 1, (Bv.out.ext Y13.out).c 2, (Bv.out.ext Y13.out).c 3, (RBx11.out.ext Y13.out).c 0, (RBx11.out.ext Y13.out).c 1, (RBx11.out.ext Y13.out).c 2, (RBx11.out.ext Y13.out).c 3⟩)
      | ((go_at_call 13); (with_reducible refine (dsame_v (O8.out.ext (hy9.out.trans Y13.out)) O13.out (by omega) rfl).mono ?_); rintro E14 w14 ⟨rfl, hr14⟩; have X14 := hid (X13.out.trans hr14); have hy14 := hid hr14; have Y14 := hid (Y13.out.trans hr14); clear hr14; have hk11_5 : w14.cell? ⟨w3.heap.size, 0, none⟩ = some (.bool false) ∧ w14.cell? ⟨w3.heap.size, 1, none⟩ = some (.slice none 0 0) ∧ w14.cell? ⟨w3.heap.size, 2, none⟩ = some (.bool false) ∧ w14.cell? ⟨w3.heap.size, 3, none⟩ = some (.slice none 0 0) ∧ w14.cell? ⟨w5.heap.size, 0, none⟩ = some (.bool false) ∧ w14.cell? ⟨w5.heap.size, 1, none⟩ = some (.slice none 0 0) ∧ w14.cell? ⟨w5.heap.size, 2, none⟩ = some (.bool false) ∧ w14.cell? ⟨w5.heap.size, 3, none⟩ = some (.slice none 0 0) ∧ w14.cell? ⟨w8.heap.size, 0, none⟩ = some (.bool b8) ∧ w14.cell? ⟨w8.heap.size, 1, none⟩ = some (.slice A8 n8 c8) ∧ w14.cell? ⟨w8.heap.size, 2, none⟩ = some (.bool e8) ∧ w14.cell? ⟨w8.heap.size, 3, none⟩ = some (.slice B8 m8 d8) ∧ w14.cell? ⟨w.heap.size, 0, none⟩ = some (.bool sx) ∧ w14.cell? ⟨w.heap.size, 1, none⟩ = some (.slice Px lx kx) ∧ w14.cell? ⟨w.heap.size, 2, none⟩ = some (.bool tx) ∧ w14.cell? ⟨w.heap.size, 3, none⟩ = some (.slice Qx mx dx) := ⟨(RBy11.out.ext Y14.out).c 0, (RBy11.out.ext Y14.out).c 1, (RBy11.out.ext Y14.out).c 2, (RBy11.out.ext Y14.out).c 3, (RBz11.out.ext Y14.out).c 0, (RBz11.out.ext Y14.out).c 1, (RBz11.out.ext Y14.out).c 2, (RBz11.out.ext Y14.out).c 3, (Bv.out.ext Y14.out).c 0, (Bv.out.ext Y14.out).c 1, (Bv.out.ext Y14.out).c 2, (Bv.out.ext Y14.out).c 3, (RBx11.out.ext Y14.out).c 0, (RBx11.out.ext Y14.out).c 1, (RBx11.out.ext Y14.out).c 2, (RBx11.out.ext Y14.out).c 3⟩)
      | ((go_at_call 8); (with_reducible refine (known_any6).mono ?_); rintro E15 w15 ⟨rfl, hr15⟩; have X15 := hid (X14.out.trans hr15); have hy15 := hid hr15; have Y15 := hid (Y14.out.trans hr15); clear hr15; have hk11_6 : w15.cell? ⟨w3.heap.size, 0, none⟩ = some (.bool false) ∧ w15.cell? ⟨w3.heap.size, 1, none⟩ = some (.slice none 0 0) ∧ w15.cell? ⟨w3.heap.size, 2, none⟩ = some (.bool false) ∧ w15.cell? ⟨w3.heap.size, 3, none⟩ = some (.slice none 0 0) ∧ w15.cell? ⟨w5.heap.size, 0, none⟩ = some (.bool false) ∧ w15.cell? ⟨w5.heap.size, 1, none⟩ = some (.slice none 0 0) ∧ w15.cell? ⟨w5.heap.size, 2, none⟩ = some (.bool false) ∧ w15.cell? ⟨w5.heap.size, 3, none⟩ = some (.slice none 0 0) ∧ w15.cell? ⟨w8.heap.size, 0, none⟩ = some (.bool b8) ∧ w15.cell? ⟨w8.heap.size, 1, none⟩ = some (.slice A8 n8 c8) ∧ w15.cell? ⟨w8.heap.size, 2, none⟩ = some (.bool e8) ∧ w15.cell? ⟨w8.heap.size, 3, none⟩ = some (.slice B8 m8 d8) ∧ w15.cell? ⟨w.heap.size, 0, none⟩ = some (.bool sx) ∧ w15.cell? ⟨w.heap.size, 1, none⟩ = some (.slice Px lx kx) ∧ w15.cell? ⟨w.heap.size, 2, none⟩ = some (.bool tx) ∧ w15.cell? ⟨w.heap.size, 3, none⟩ = some (.slice Qx mx dx) := ⟨(RBy11.out.ext Y15.out).c 0, (RBy11.out.ext Y15.out).c 1, (RBy11.out.ext Y15.out).c 2, (RBy11.out.ext Y15.out).c 3, (RBz11.out.ext Y15.out).c 0, (RBz11.out.ext Y15.out).c 1, (RBz11.out.ext Y15.out).c 2, (RBz11.out.ext Y15.out).c 3, (Bv.out.ext Y15.out).c 0, (Bv.out.ext Y15.out).c 1, (Bv.out.ext Y15.out).c 2, (Bv.out.ext Y15.out).c 3, (RBx11.out.ext Y15.out).c 0, (RBx11.out.ext Y15.out).c 1, (RBx11.out.ext Y15.out).c 2, (RBx11.out.ext Y15.out).c 3⟩))
  clear hk11_0 hk11_1 hk11_2 hk11_3 hk11_4 hk11_5 hk11_6
  go_wp2_with fail
  go_ret
  exact ⟨rfl, X15.out⟩

set_option maxHeartbeats 6400000 in
set_option maxRecDepth 100000 in
theorem ratioParse_great {w : World} {sx tx : Bool} {Px Qx : Option Addr} {lx kx mx dx : Nat} {s : ByteArray} (hs : s.size ≤ 200) (h : 8 < lx ∨ 8 < mx) :
    Calls Try.prog 4 #[.string s, .agg #[.bool sx, .slice Px lx kx, .bool tx, .slice Qx mx dx]] w (RetE (.bool true) w) := by
  have HG := hid h
  clear h
  have hs' : ¬ (200 : Int) < (s.size : Int) := by omega
  go_enter Try.func4, Try.ntmps4
  go_wp2_with fail
  have hy1 := hid (((Ext.refl w).alloc (.cells #[.bool sx, .slice Px lx kx, .bool tx, .slice Qx mx dx] 27)).alloc (.cells #[.bool sx, .slice Px lx kx, .bool tx, .slice Qx mx dx] 27))
  have Bx_ := ((Bk.new w 27 #[.bool sx, .slice Px lx kx, .bool tx, .slice Qx mx dx]).ext ((Ext.refl (w.alloc (.cells #[.bool sx, .slice Px lx kx, .bool tx, .slice Qx mx dx] 27))).alloc (.cells #[.bool sx, .slice Px lx kx, .bool tx, .slice Qx mx dx] 27)))
  have Bx := hid Bx_
  clear Bx_
  have Brow_ := (Bk.new (w.alloc (.cells #[.bool sx, .slice Px lx kx, .bool tx, .slice Qx mx dx] 27)) 27 #[.bool sx, .slice Px lx kx, .bool tx, .slice Qx mx dx])
  rw [size_alloc] at Brow_
  have Brow := hid Brow_
  clear Brow_
  generalize ((w.alloc (.cells #[.bool sx, .slice Px lx kx, .bool tx, .slice Qx mx dx] 27)).alloc (.cells #[.bool sx, .slice Px lx kx, .bool tx, .slice Qx mx dx] 27)) = w1 at *
  have X1 := hid ((Ext.refl _).trans hy1.out)
  go_wp2_with (first
    | ((go_at_call 17); (with_reducible refine (great6_yes1 Brow.out HG.out).mono ?_); rintro E2 w2 ⟨rfl, hr2⟩; have X2 := hid (X1.out.trans hr2); have hy2 := hid hr2; clear hr2)
    | ((go_at_call 8); (with_reducible refine (known_any6).mono ?_); rintro E3 w3 ⟨rfl, hr3⟩; have X3 := hid (X2.out.trans hr3); have hy3 := hid hr3; clear hr3))
  go_ret
  exact ⟨rfl, X3.out⟩

set_option maxHeartbeats 6400000 in
set_option maxRecDepth 100000 in
theorem ratioParse_long {w : World} {sx tx : Bool} {Px Qx : Option Addr} {lx kx mx dx : Nat} {s : ByteArray} (hs : 200 < s.size) :
    Calls Try.prog 4 #[.string s, .agg #[.bool sx, .slice Px lx kx, .bool tx, .slice Qx mx dx]] w (RetE (.bool true) w) := by
  have hs' : (200 : Int) < (s.size : Int) := by omega
  clear hs
  go_enter Try.func4, Try.ntmps4
  go_wp2_with fail
  have hy1 := hid ((Ext.refl w).alloc (.cells #[.bool sx, .slice Px lx kx, .bool tx, .slice Qx mx dx] 27))
  have Bx_ := (Bk.new w 27 #[.bool sx, .slice Px lx kx, .bool tx, .slice Qx mx dx])
  have Bx := hid Bx_
  clear Bx_
  generalize (w.alloc (.cells #[.bool sx, .slice Px lx kx, .bool tx, .slice Qx mx dx] 27)) = w1 at *
  have X1 := hid ((Ext.refl _).trans hy1.out)
  go_wp2_with (first
    | ((go_at_call 8); (with_reducible refine (known_any6).mono ?_); rintro E2 w2 ⟨rfl, hr2⟩; have X2 := hid (X1.out.trans hr2); have hy2 := hid hr2; clear hr2))
  go_ret
  exact ⟨rfl, X2.out⟩

theorem ratioParse_any {w : World} {sx tx : Bool} {Px Qx : Option Addr} {lx kx mx dx : Nat} {Xx Yx : List Nat} {s : ByteArray} (hx : Sl .u32 w Px lx kx Xx) (px : Lim 4294967296 Xx) (gx : Sl .u32 w Qx mx dx Yx) (qx : Lim 4294967296 Yx) :
    Calls Try.prog 4 #[.string s, .agg #[.bool sx, .slice Px lx kx, .bool tx, .slice Qx mx dx]] w (RetE (.bool true) w) := by
  by_cases hs : 200 < s.size
  · exact ratioParse_long hs
  by_cases hg : 8 < lx ∨ 8 < mx
  · exact ratioParse_great (by omega) hg
  have blx : lx ≤ 8 := by omega
  have bmx : mx ≤ 8 := by omega
  obtain ⟨x, rx⟩ : ∃ x, Rv 8 w sx Px lx kx tx Qx mx dx x := ⟨_, _, _, Iz.mk (Nv.mk hx px blx), Iz.mk (Nv.mk gx qx bmx), rfl⟩
  by_cases h : ∃ r, byt s = txr r
  · obtain ⟨r, h⟩ := h
    exact ratioParse_yes rx blx bmx (by omega) h
  · exact ratioParse_no rx blx bmx (by omega) (fun r e => h ⟨r, e⟩)

end Go.Proofs.Ytikkibpjchmajaa

