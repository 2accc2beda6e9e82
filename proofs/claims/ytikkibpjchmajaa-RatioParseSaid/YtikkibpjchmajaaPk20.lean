/-
  The contracts of ratio.one, put, Small, Whole, Sign, Neg. Printed by wip/gen/rat.py.
-/
import Derived.Test.YtikkibpjchmajaaPk19
namespace Go.Proofs.Ytikkibpjchmajaa
open Go.RowKit
open Go.Lib (hid)

set_option maxHeartbeats 6400000 in
set_option maxRecDepth 100000 in
theorem rone_v {w : World} : Calls Try.prog 52 #[] w (RetI 2 1 w) := by
  go_enter Try.func52, Try.ntmps52
  go_upto_region 1 with fail
  have hy1 := hid ((Ext.refl w).alloc (.cells #[.bool false, .slice none 0 0] 24))
  have Bo_ := (Bk.new w 24 #[.bool false, .slice none 0 0])
  have Bo := hid Bo_
  clear Bo_
  generalize (w.alloc (.cells #[.bool false, .slice none 0 0] 24)) = w1 at *
  have X1 := hid ((Ext.refl _).trans hy1.out)
  obtain ⟨f2_0, f2_1, f2_2, f2_3⟩ : w1.cell? ⟨w.heap.size, 0, none⟩ = some (.bool false) ∧ w1.cell? ⟨w.heap.size, 1, none⟩ = some (.slice none 0 0) ∧ w1.frozen? ⟨w.heap.size, 0, none⟩ = false ∧ w1.frozen? ⟨w.heap.size, 1, none⟩ = false := ⟨Bo.out.c 0, Bo.out.c 1, Bo.out.fr 0, Bo.out.fr 1⟩
  go_wp2_with (first
    | ((go_at_call 34); (with_reducible refine (wof_v (n := 1) (by omega) (by omega)).mono ?_); rintro E2 w2 ⟨b2, A2, n2, c2, rfl, o2, hr2⟩; have X2 := hid (X1.out.trans hr2); have hy2 := hid hr2; clear hr2; have O2 := hid (o2.mono X1.out.size); clear o2; obtain ⟨f3_0, f3_1, f3_2, f3_3⟩ : w2.cell? ⟨w.heap.size, 0, none⟩ = some (.bool false) ∧ w2.cell? ⟨w.heap.size, 1, none⟩ = some (.slice none 0 0) ∧ w2.frozen? ⟨w.heap.size, 0, none⟩ = false ∧ w2.frozen? ⟨w.heap.size, 1, none⟩ = false := ⟨(Bo.out.ext hy2.out).c 0, (Bo.out.ext hy2.out).c 1, (Bo.out.ext hy2.out).fr 0, (Bo.out.ext hy2.out).fr 1⟩))
  clear f2_0 f2_1 f2_2 f2_3 f3_0 f3_1 f3_2 f3_3
  have HG3 := hid (show w2.grownBy ((w2.setCell ⟨w.heap.size, 0, none⟩ (.bool b2)).setCell ⟨w.heap.size, 1, none⟩ (.slice A2 n2 c2)) (some (w.heap.size)) from gb2 w2 (w.heap.size) (.bool b2) (.slice A2 n2 c2))
  have HO3 := hid (Bo.out.ext hy2.out)
  have HP3 := hid (show Bk 24 ((w2.setCell ⟨w.heap.size, 0, none⟩ (.bool b2)).setCell ⟨w.heap.size, 1, none⟩ (.slice A2 n2 c2)) (w.heap.size) #[.bool b2, .slice A2 n2 c2] from (Bo.out.ext hy2.out).put2 (.bool b2) (.slice A2 n2 c2))
  generalize ((w2.setCell ⟨w.heap.size, 0, none⟩ (.bool b2)).setCell ⟨w.heap.size, 1, none⟩ (.slice A2 n2 c2)) = w3 at *
  have X3 := hid (X2.out.gb HG3.out (by omega))
  refine ret_i rfl HP3.out rfl rfl ⟨_, _, _, _, rfl, (O2.out.gbk HO3.out (by decide) HG3.out), X3.out⟩

set_option maxHeartbeats 6400000 in
set_option maxRecDepth 100000 in
theorem rput_zero {w : World} {sx tx : Bool} {Px Qx : Option Addr} {lx kx mx dx : Nat} {K : Nat} {N : Int} (hx : Iz K w sx Px lx kx N) (hy : Iz K w tx Qx mx dx 0) (hK : K ≤ 10000000) :
    Calls Try.prog 49 #[.agg #[.bool sx, .slice Px lx kx, .bool tx, .slice Qx mx dx]] w (RetR (K + 2) ((N : Rat) / (((1 : Int) : Rat))) w) := by
  have Hx := hid hx
  have Hy := hid hy
  clear hx hy
  go_enter Try.func49, Try.ntmps49
  go_upto_region 1 with fail
  have hy1 := hid (((Ext.refl w).alloc (.cells #[.bool sx, .slice Px lx kx, .bool tx, .slice Qx mx dx] 27)).alloc (.cells #[.bool false, .slice none 0 0, .bool false, .slice none 0 0] 27))
  have Bx_ := ((Bk.new w 27 #[.bool sx, .slice Px lx kx, .bool tx, .slice Qx mx dx]).ext ((Ext.refl (w.alloc (.cells #[.bool sx, .slice Px lx kx, .bool tx, .slice Qx mx dx] 27))).alloc (.cells #[.bool false, .slice none 0 0, .bool false, .slice none 0 0] 27)))
  have Bx := hid Bx_
  clear Bx_
  have Bo_ := (Bk.new (w.alloc (.cells #[.bool sx, .slice Px lx kx, .bool tx, .slice Qx mx dx] 27)) 27 #[.bool false, .slice none 0 0, .bool false, .slice none 0 0])
  rw [size_alloc] at Bo_
  have Bo := hid Bo_
  clear Bo_
  generalize ((w.alloc (.cells #[.bool sx, .slice Px lx kx, .bool tx, .slice Qx mx dx] 27)).alloc (.cells #[.bool false, .slice none 0 0, .bool false, .slice none 0 0] 27)) = w1 at *
  have X1 := hid ((Ext.refl _).trans hy1.out)
  obtain ⟨f3_0, f3_1, f3_2, f3_3⟩ : w1.cell? ⟨w.heap.size, 0, none⟩ = some (.bool sx) ∧ w1.cell? ⟨w.heap.size, 1, none⟩ = some (.slice Px lx kx) ∧ w1.cell? ⟨w.heap.size, 2, none⟩ = some (.bool tx) ∧ w1.cell? ⟨w.heap.size, 3, none⟩ = some (.slice Qx mx dx) := ⟨Bx.out.c 0, Bx.out.c 1, Bx.out.c 2, Bx.out.c 3⟩
  go_upto_region 2 with (first
    | ((go_at_call 30); (with_reducible refine (sign_is (v := 0) (Hy.out.ext X1.out) (by omega) rfl).mono ?_); rintro E2 w2 ⟨rfl, hr2⟩; have X2 := hid (X1.out.trans hr2); have hy2 := hid hr2; clear hr2; obtain ⟨f4_0, f4_1, f4_2, f4_3⟩ : w2.cell? ⟨w.heap.size, 0, none⟩ = some (.bool sx) ∧ w2.cell? ⟨w.heap.size, 1, none⟩ = some (.slice Px lx kx) ∧ w2.cell? ⟨w.heap.size, 2, none⟩ = some (.bool tx) ∧ w2.cell? ⟨w.heap.size, 3, none⟩ = some (.slice Qx mx dx) := ⟨(Bx.out.ext hy2.out).c 0, (Bx.out.ext hy2.out).c 1, (Bx.out.ext hy2.out).c 2, (Bx.out.ext hy2.out).c 3⟩))
  clear f3_0 f3_1 f3_2 f3_3 f4_0 f4_1 f4_2 f4_3
  obtain ⟨f5_0, f5_1, f5_2, f5_3, f5_4, f5_5, f5_6, f5_7⟩ : w2.cell? ⟨w.heap.size, 0, none⟩ = some (.bool sx) ∧ w2.cell? ⟨w.heap.size, 1, none⟩ = some (.slice Px lx kx) ∧ w2.cell? ⟨w.heap.size, 2, none⟩ = some (.bool tx) ∧ w2.cell? ⟨w.heap.size, 3, none⟩ = some (.slice Qx mx dx) ∧ w2.frozen? ⟨w.heap.size, 0, none⟩ = false ∧ w2.frozen? ⟨w.heap.size, 1, none⟩ = false ∧ w2.frozen? ⟨w.heap.size, 2, none⟩ = false ∧ w2.frozen? ⟨w.heap.size, 3, none⟩ = false := ⟨(Bx.out.ext hy2.out).c 0, (Bx.out.ext hy2.out).c 1, (Bx.out.ext hy2.out).c 2, (Bx.out.ext hy2.out).c 3, (Bx.out.ext hy2.out).fr 0, (Bx.out.ext hy2.out).fr 1, (Bx.out.ext hy2.out).fr 2, (Bx.out.ext hy2.out).fr 3⟩
  go_upto_region 3 with (first
    | ((go_at_call 52); (with_reducible refine (rone_v).mono ?_); rintro E3 w3 ⟨b3, A3, n3, c3, rfl, o3, hr3⟩; have X3 := hid (X2.out.trans hr3); have hy3 := hid hr3; clear hr3; have O3 := hid (o3.mono X2.out.size); clear o3; obtain ⟨f6_0, f6_1, f6_2, f6_3, f6_4, f6_5, f6_6, f6_7⟩ : w3.cell? ⟨w.heap.size, 0, none⟩ = some (.bool sx) ∧ w3.cell? ⟨w.heap.size, 1, none⟩ = some (.slice Px lx kx) ∧ w3.cell? ⟨w.heap.size, 2, none⟩ = some (.bool tx) ∧ w3.cell? ⟨w.heap.size, 3, none⟩ = some (.slice Qx mx dx) ∧ w3.frozen? ⟨w.heap.size, 0, none⟩ = false ∧ w3.frozen? ⟨w.heap.size, 1, none⟩ = false ∧ w3.frozen? ⟨w.heap.size, 2, none⟩ = false ∧ w3.frozen? ⟨w.heap.size, 3, none⟩ = false := ⟨(Bx.out.ext (hy2.out.trans hy3.out)).c 0, (Bx.out.ext (hy2.out.trans hy3.out)).c 1, (Bx.out.ext (hy2.out.trans hy3.out)).c 2, (Bx.out.ext (hy2.out.trans hy3.out)).c 3, (Bx.out.ext (hy2.out.trans hy3.out)).fr 0, (Bx.out.ext (hy2.out.trans hy3.out)).fr 1, (Bx.out.ext (hy2.out.trans hy3.out)).fr 2, (Bx.out.ext (hy2.out.trans hy3.out)).fr 3⟩))
  clear f5_0 f5_1 f5_2 f5_3 f5_4 f5_5 f5_6 f5_7 f6_0 f6_1 f6_2 f6_3 f6_4 f6_5 f6_6 f6_7
  have HG4 := hid (show w3.grownBy ((w3.setCell ⟨w.heap.size, 2, none⟩ (.bool b3)).setCell ⟨w.heap.size, 3, none⟩ (.slice A3 n3 c3)) (some (w.heap.size)) from gbD w3 (w.heap.size) (.bool b3) (.slice A3 n3 c3))
  have HO4 := hid (Bx.out.ext (hy2.out.trans hy3.out))
  have HP4 := hid (show Bk 27 ((w3.setCell ⟨w.heap.size, 2, none⟩ (.bool b3)).setCell ⟨w.heap.size, 3, none⟩ (.slice A3 n3 c3)) (w.heap.size) #[.bool sx, .slice Px lx kx, .bool b3, .slice A3 n3 c3] from (Bx.out.ext (hy2.out.trans hy3.out)).putD (.bool b3) (.slice A3 n3 c3))
  generalize ((w3.setCell ⟨w.heap.size, 2, none⟩ (.bool b3)).setCell ⟨w.heap.size, 3, none⟩ (.slice A3 n3 c3)) = w4 at *
  have X4 := hid (X3.out.gb HG4.out (by omega))
  obtain ⟨f7_0, f7_1, f7_2, f7_3⟩ : w4.cell? ⟨w.heap.size, 0, none⟩ = some (.bool sx) ∧ w4.cell? ⟨w.heap.size, 1, none⟩ = some (.slice Px lx kx) ∧ w4.cell? ⟨w.heap.size, 2, none⟩ = some (.bool b3) ∧ w4.cell? ⟨w.heap.size, 3, none⟩ = some (.slice A3 n3 c3) := ⟨HP4.out.c 0, HP4.out.c 1, HP4.out.c 2, HP4.out.c 3⟩
  go_upto_region 4 with (first
    | ((go_at_call 9); (with_reducible refine (rof_v (K + 2) (Hx.out.ext X4.out) (O3.out.gbk HO4.out (by decide) HG4.out).iz (by omega) (by omega) (by omega) (by omega)).mono ?_); rintro E5 w5 ⟨b5, A5, n5, c5, e5, B5, m5, d5, rfl, o5, hr5⟩; have X5 := hid (X4.out.trans hr5); have hy5 := hid hr5; clear hr5; have O5 := hid (o5.mono X4.out.size); clear o5; obtain ⟨f8_0, f8_1, f8_2, f8_3⟩ : w5.cell? ⟨w.heap.size, 0, none⟩ = some (.bool sx) ∧ w5.cell? ⟨w.heap.size, 1, none⟩ = some (.slice Px lx kx) ∧ w5.cell? ⟨w.heap.size, 2, none⟩ = some (.bool b3) ∧ w5.cell? ⟨w.heap.size, 3, none⟩ = some (.slice A3 n3 c3) := ⟨(HP4.out.ext hy5.out).c 0, (HP4.out.ext hy5.out).c 1, (HP4.out.ext hy5.out).c 2, (HP4.out.ext hy5.out).c 3⟩))
  clear f7_0 f7_1 f7_2 f7_3 f8_0 f8_1 f8_2 f8_3
  have hy6 := hid ((Ext.refl w5).alloc (.cells #[.bool b5, .slice A5 n5 c5, .bool e5, .slice B5 m5 d5] 27))
  have Bp_ := (Bk.new w5 27 #[.bool b5, .slice A5 n5 c5, .bool e5, .slice B5 m5 d5])
  have Bp := hid Bp_
  clear Bp_
  generalize (w5.alloc (.cells #[.bool b5, .slice A5 n5 c5, .bool e5, .slice B5 m5 d5] 27)) = w6 at *
  have X6 := hid (X5.out.trans hy6.out)
  obtain ⟨f10_0, f10_1, f10_2, f10_3, f10_4, f10_5, f10_6, f10_7, f10_8, f10_9, f10_10, f10_11⟩ : w6.cell? ⟨w5.heap.size, 0, none⟩ = some (.bool b5) ∧ w6.cell? ⟨w5.heap.size, 1, none⟩ = some (.slice A5 n5 c5) ∧ w6.cell? ⟨w5.heap.size, 2, none⟩ = some (.bool e5) ∧ w6.cell? ⟨w5.heap.size, 3, none⟩ = some (.slice B5 m5 d5) ∧ w6.cell? ⟨w.heap.size + 1, 0, none⟩ = some (.bool false) ∧ w6.cell? ⟨w.heap.size + 1, 1, none⟩ = some (.slice none 0 0) ∧ w6.cell? ⟨w.heap.size + 1, 2, none⟩ = some (.bool false) ∧ w6.cell? ⟨w.heap.size + 1, 3, none⟩ = some (.slice none 0 0) ∧ w6.frozen? ⟨w.heap.size + 1, 0, none⟩ = false ∧ w6.frozen? ⟨w.heap.size + 1, 1, none⟩ = false ∧ w6.frozen? ⟨w.heap.size + 1, 2, none⟩ = false ∧ w6.frozen? ⟨w.heap.size + 1, 3, none⟩ = false := ⟨Bp.out.c 0, Bp.out.c 1, Bp.out.c 2, Bp.out.c 3, (((Bo.out.ext (hy2.out.trans hy3.out)).grown HG4.out (by omega)).ext (hy5.out.trans hy6.out)).c 0, (((Bo.out.ext (hy2.out.trans hy3.out)).grown HG4.out (by omega)).ext (hy5.out.trans hy6.out)).c 1, (((Bo.out.ext (hy2.out.trans hy3.out)).grown HG4.out (by omega)).ext (hy5.out.trans hy6.out)).c 2, (((Bo.out.ext (hy2.out.trans hy3.out)).grown HG4.out (by omega)).ext (hy5.out.trans hy6.out)).c 3, (((Bo.out.ext (hy2.out.trans hy3.out)).grown HG4.out (by omega)).ext (hy5.out.trans hy6.out)).fr 0, (((Bo.out.ext (hy2.out.trans hy3.out)).grown HG4.out (by omega)).ext (hy5.out.trans hy6.out)).fr 1, (((Bo.out.ext (hy2.out.trans hy3.out)).grown HG4.out (by omega)).ext (hy5.out.trans hy6.out)).fr 2, (((Bo.out.ext (hy2.out.trans hy3.out)).grown HG4.out (by omega)).ext (hy5.out.trans hy6.out)).fr 3⟩
  go_wp2_with fail
  clear f10_0 f10_1 f10_2 f10_3 f10_4 f10_5 f10_6 f10_7 f10_8 f10_9 f10_10 f10_11
  have HG7 := hid (show w6.grownBy ((((w6.setCell ⟨w.heap.size + 1, 0, none⟩ (.bool b5)).setCell ⟨w.heap.size + 1, 1, none⟩ (.slice A5 n5 c5)).setCell ⟨w.heap.size + 1, 2, none⟩ (.bool e5)).setCell ⟨w.heap.size + 1, 3, none⟩ (.slice B5 m5 d5)) (some (w.heap.size + 1)) from gb4 w6 (w.heap.size + 1) (.bool b5) (.slice A5 n5 c5) (.bool e5) (.slice B5 m5 d5))
  have HO7 := hid (((Bo.out.ext (hy2.out.trans hy3.out)).grown HG4.out (by omega)).ext (hy5.out.trans hy6.out))
  have HP7 := hid (show Bk 27 ((((w6.setCell ⟨w.heap.size + 1, 0, none⟩ (.bool b5)).setCell ⟨w.heap.size + 1, 1, none⟩ (.slice A5 n5 c5)).setCell ⟨w.heap.size + 1, 2, none⟩ (.bool e5)).setCell ⟨w.heap.size + 1, 3, none⟩ (.slice B5 m5 d5)) (w.heap.size + 1) #[.bool b5, .slice A5 n5 c5, .bool e5, .slice B5 m5 d5] from (((Bo.out.ext (hy2.out.trans hy3.out)).grown HG4.out (by omega)).ext (hy5.out.trans hy6.out)).put4 (.bool b5) (.slice A5 n5 c5) (.bool e5) (.slice B5 m5 d5))
  generalize ((((w6.setCell ⟨w.heap.size + 1, 0, none⟩ (.bool b5)).setCell ⟨w.heap.size + 1, 1, none⟩ (.slice A5 n5 c5)).setCell ⟨w.heap.size + 1, 2, none⟩ (.bool e5)).setCell ⟨w.heap.size + 1, 3, none⟩ (.slice B5 m5 d5)) = w7 at *
  have X7 := hid (X6.out.gb HG7.out (by omega))
  refine ret_r rfl HP7.out rfl rfl ⟨_, _, _, _, _, _, _, _, rfl, ((O5.out.ext hy6.out).gbk HO7.out (by decide) HG7.out), X7.out⟩

set_option maxHeartbeats 6400000 in
set_option maxRecDepth 100000 in
theorem rput_ne {w : World} {sx tx : Bool} {Px Qx : Option Addr} {lx kx mx dx : Nat} {K : Nat} {N D : Int} (hx : Iz K w sx Px lx kx N) (hy : Iz K w tx Qx mx dx D) (hD : D ≠ 0) (hK : K ≤ 10000000) :
    Calls Try.prog 49 #[.agg #[.bool sx, .slice Px lx kx, .bool tx, .slice Qx mx dx]] w (RetR (K + 2) ((N : Rat) / ((D : Rat))) w) := by
  have Hx := hid hx
  have Hy := hid hy
  clear hx hy
  obtain ⟨v, hv, hv0⟩ : ∃ v : Int, sg D = v ∧ (v == 0) = false := by
    refine ⟨_, rfl, ?_⟩
    rw [beq_eq_false_iff_ne]
    rcases sg_cases D with ⟨e, _⟩ | ⟨_, e⟩ | ⟨e, _⟩
    · rw [e]; omega
    · exact absurd e hD
    · rw [e]; omega
  have hs := hid hv
  have hd := hid hD
  clear hv hD
  go_enter Try.func49, Try.ntmps49
  go_upto_region 1 with fail
  have hy1 := hid (((Ext.refl w).alloc (.cells #[.bool sx, .slice Px lx kx, .bool tx, .slice Qx mx dx] 27)).alloc (.cells #[.bool false, .slice none 0 0, .bool false, .slice none 0 0] 27))
  have Bx_ := ((Bk.new w 27 #[.bool sx, .slice Px lx kx, .bool tx, .slice Qx mx dx]).ext ((Ext.refl (w.alloc (.cells #[.bool sx, .slice Px lx kx, .bool tx, .slice Qx mx dx] 27))).alloc (.cells #[.bool false, .slice none 0 0, .bool false, .slice none 0 0] 27)))
  have Bx := hid Bx_
  clear Bx_
  have Bo_ := (Bk.new (w.alloc (.cells #[.bool sx, .slice Px lx kx, .bool tx, .slice Qx mx dx] 27)) 27 #[.bool false, .slice none 0 0, .bool false, .slice none 0 0])
  rw [size_alloc] at Bo_
  have Bo := hid Bo_
  clear Bo_
  generalize ((w.alloc (.cells #[.bool sx, .slice Px lx kx, .bool tx, .slice Qx mx dx] 27)).alloc (.cells #[.bool false, .slice none 0 0, .bool false, .slice none 0 0] 27)) = w1 at *
  have X1 := hid ((Ext.refl _).trans hy1.out)
  obtain ⟨f3_0, f3_1, f3_2, f3_3⟩ : w1.cell? ⟨w.heap.size, 0, none⟩ = some (.bool sx) ∧ w1.cell? ⟨w.heap.size, 1, none⟩ = some (.slice Px lx kx) ∧ w1.cell? ⟨w.heap.size, 2, none⟩ = some (.bool tx) ∧ w1.cell? ⟨w.heap.size, 3, none⟩ = some (.slice Qx mx dx) := ⟨Bx.out.c 0, Bx.out.c 1, Bx.out.c 2, Bx.out.c 3⟩
  go_upto_region 3 with (first
    | ((go_at_call 30); (with_reducible refine (sign_is (v := v) (Hy.out.ext X1.out) (by omega) hs.out).mono ?_); rintro E2 w2 ⟨rfl, hr2⟩; have X2 := hid (X1.out.trans hr2); have hy2 := hid hr2; clear hr2; obtain ⟨f4_0, f4_1, f4_2, f4_3⟩ : w2.cell? ⟨w.heap.size, 0, none⟩ = some (.bool sx) ∧ w2.cell? ⟨w.heap.size, 1, none⟩ = some (.slice Px lx kx) ∧ w2.cell? ⟨w.heap.size, 2, none⟩ = some (.bool tx) ∧ w2.cell? ⟨w.heap.size, 3, none⟩ = some (.slice Qx mx dx) := ⟨(Bx.out.ext hy2.out).c 0, (Bx.out.ext hy2.out).c 1, (Bx.out.ext hy2.out).c 2, (Bx.out.ext hy2.out).c 3⟩))
  clear f3_0 f3_1 f3_2 f3_3 f4_0 f4_1 f4_2 f4_3
  obtain ⟨f5_0, f5_1, f5_2, f5_3⟩ : w2.cell? ⟨w.heap.size, 0, none⟩ = some (.bool sx) ∧ w2.cell? ⟨w.heap.size, 1, none⟩ = some (.slice Px lx kx) ∧ w2.cell? ⟨w.heap.size, 2, none⟩ = some (.bool tx) ∧ w2.cell? ⟨w.heap.size, 3, none⟩ = some (.slice Qx mx dx) := ⟨(Bx.out.ext hy2.out).c 0, (Bx.out.ext hy2.out).c 1, (Bx.out.ext hy2.out).c 2, (Bx.out.ext hy2.out).c 3⟩
  go_upto_region 4 with (first
    | ((go_at_call 9); (with_reducible refine (rof_v (K + 2) (Hx.out.ext X2.out) (Hy.out.ext X2.out) hd.out (by omega) (by omega) (by omega)).mono ?_); rintro E3 w3 ⟨b3, A3, n3, c3, e3, B3, m3, d3, rfl, o3, hr3⟩; have X3 := hid (X2.out.trans hr3); have hy3 := hid hr3; clear hr3; have O3 := hid (o3.mono X2.out.size); clear o3; obtain ⟨f6_0, f6_1, f6_2, f6_3⟩ : w3.cell? ⟨w.heap.size, 0, none⟩ = some (.bool sx) ∧ w3.cell? ⟨w.heap.size, 1, none⟩ = some (.slice Px lx kx) ∧ w3.cell? ⟨w.heap.size, 2, none⟩ = some (.bool tx) ∧ w3.cell? ⟨w.heap.size, 3, none⟩ = some (.slice Qx mx dx) := ⟨(Bx.out.ext (hy2.out.trans hy3.out)).c 0, (Bx.out.ext (hy2.out.trans hy3.out)).c 1, (Bx.out.ext (hy2.out.trans hy3.out)).c 2, (Bx.out.ext (hy2.out.trans hy3.out)).c 3⟩))
  clear f5_0 f5_1 f5_2 f5_3 f6_0 f6_1 f6_2 f6_3
  have hy4 := hid ((Ext.refl w3).alloc (.cells #[.bool b3, .slice A3 n3 c3, .bool e3, .slice B3 m3 d3] 27))
  have Bp_ := (Bk.new w3 27 #[.bool b3, .slice A3 n3 c3, .bool e3, .slice B3 m3 d3])
  have Bp := hid Bp_
  clear Bp_
  generalize (w3.alloc (.cells #[.bool b3, .slice A3 n3 c3, .bool e3, .slice B3 m3 d3] 27)) = w4 at *
  have X4 := hid (X3.out.trans hy4.out)
  obtain ⟨f8_0, f8_1, f8_2, f8_3, f8_4, f8_5, f8_6, f8_7, f8_8, f8_9, f8_10, f8_11⟩ : w4.cell? ⟨w3.heap.size, 0, none⟩ = some (.bool b3) ∧ w4.cell? ⟨w3.heap.size, 1, none⟩ = some (.slice A3 n3 c3) ∧ w4.cell? ⟨w3.heap.size, 2, none⟩ = some (.bool e3) ∧ w4.cell? ⟨w3.heap.size, 3, none⟩ = some (.slice B3 m3 d3) ∧ w4.cell? ⟨w.heap.size + 1, 0, none⟩ = some (.bool false) ∧ w4.cell? ⟨w.heap.size + 1, 1, none⟩ = some (.slice none 0 0) ∧ w4.cell? ⟨w.heap.size + 1, 2, none⟩ = some (.bool false) ∧ w4.cell? ⟨w.heap.size + 1, 3, none⟩ = some (.slice none 0 0) ∧ w4.frozen? ⟨w.heap.size + 1, 0, none⟩ = false ∧ w4.frozen? ⟨w.heap.size + 1, 1, none⟩ = false ∧ w4.frozen? ⟨w.heap.size + 1, 2, none⟩ = false ∧ w4.frozen? ⟨w.heap.size + 1, 3, none⟩ = false := ⟨Bp.out.c 0, Bp.out.c 1, Bp.out.c 2, Bp.out.c 3, (Bo.out.ext ((hy2.out.trans hy3.out).trans hy4.out)).c 0, (Bo.out.ext ((hy2.out.trans hy3.out).trans hy4.out)).c 1, (Bo.out.ext ((hy2.out.trans hy3.out).trans hy4.out)).c 2, (Bo.out.ext ((hy2.out.trans hy3.out).trans hy4.out)).c 3, (Bo.out.ext ((hy2.out.trans hy3.out).trans hy4.out)).fr 0, (Bo.out.ext ((hy2.out.trans hy3.out).trans hy4.out)).fr 1, (Bo.out.ext ((hy2.out.trans hy3.out).trans hy4.out)).fr 2, (Bo.out.ext ((hy2.out.trans hy3.out).trans hy4.out)).fr 3⟩
  go_wp2_with fail
  clear f8_0 f8_1 f8_2 f8_3 f8_4 f8_5 f8_6 f8_7 f8_8 f8_9 f8_10 f8_11
  have HG5 := hid (show w4.grownBy ((((w4.setCell ⟨w.heap.size + 1, 0, none⟩ (.bool b3)).setCell ⟨w.heap.size + 1, 1, none⟩ (.slice A3 n3 c3)).setCell ⟨w.heap.size + 1, 2, none⟩ (.bool e3)).setCell ⟨w.heap.size + 1, 3, none⟩ (.slice B3 m3 d3)) (some (w.heap.size + 1)) from gb4 w4 (w.heap.size + 1) (.bool b3) (.slice A3 n3 c3) (.bool e3) (.slice B3 m3 d3))
  have HO5 := hid (Bo.out.ext ((hy2.out.trans hy3.out).trans hy4.out))
  have HP5 := hid (show Bk 27 ((((w4.setCell ⟨w.heap.size + 1, 0, none⟩ (.bool b3)).setCell ⟨w.heap.size + 1, 1, none⟩ (.slice A3 n3 c3)).setCell ⟨w.heap.size + 1, 2, none⟩ (.bool e3)).setCell ⟨w.heap.size + 1, 3, none⟩ (.slice B3 m3 d3)) (w.heap.size + 1) #[.bool b3, .slice A3 n3 c3, .bool e3, .slice B3 m3 d3] from (Bo.out.ext ((hy2.out.trans hy3.out).trans hy4.out)).put4 (.bool b3) (.slice A3 n3 c3) (.bool e3) (.slice B3 m3 d3))
  generalize ((((w4.setCell ⟨w.heap.size + 1, 0, none⟩ (.bool b3)).setCell ⟨w.heap.size + 1, 1, none⟩ (.slice A3 n3 c3)).setCell ⟨w.heap.size + 1, 2, none⟩ (.bool e3)).setCell ⟨w.heap.size + 1, 3, none⟩ (.slice B3 m3 d3)) = w5 at *
  have X5 := hid (X4.out.gb HG5.out (by omega))
  refine ret_r rfl HP5.out rfl rfl ⟨_, _, _, _, _, _, _, _, rfl, ((O3.out.ext hy4.out).gbk HO5.out (by decide) HG5.out), X5.out⟩

theorem rput_v {w : World} {sx tx : Bool} {Px Qx : Option Addr} {lx kx mx dx : Nat} {K : Nat} {x : Rat} (hx : Rv K w sx Px lx kx tx Qx mx dx x) (hK : K ≤ 10000000) :
    Calls Try.prog 49 #[.agg #[.bool sx, .slice Px lx kx, .bool tx, .slice Qx mx dx]] w (RetR (K + 2) x w) := by
  obtain ⟨N, D, h1, h2, rfl⟩ := hx
  by_cases h0 : D = 0
  · subst h0
    exact rput_zero h1 h2 hK
  · rw [dn_of h0]
    exact rput_ne h1 h2 h0 hK
set_option maxHeartbeats 6400000 in
set_option maxRecDepth 100000 in
theorem qsm_zero {w : World} {a : Int} (ha0 : -9223372036854775808 ≤ a) (ha1 : a ≤ 9223372036854775807)  :
    Calls Try.prog 10 #[.int .i64 a, .int .i64 0] w (RetRN 7 w) := by
  go_enter Try.func10, Try.ntmps10
  go_upto_region 1 with fail
  have hy1 := hid ((Ext.refl w).alloc (.cells #[.bool false, .slice none 0 0, .bool false, .slice none 0 0] 27))
  have Bo_ := (Bk.new w 27 #[.bool false, .slice none 0 0, .bool false, .slice none 0 0])
  have Bo := hid Bo_
  clear Bo_
  generalize (w.alloc (.cells #[.bool false, .slice none 0 0, .bool false, .slice none 0 0] 27)) = w1 at *
  have X1 := hid ((Ext.refl _).trans hy1.out)
  obtain ⟨f2_0, f2_1, f2_2, f2_3, f2_4, f2_5, f2_6, f2_7⟩ : w1.cell? ⟨w.heap.size, 0, none⟩ = some (.bool false) ∧ w1.cell? ⟨w.heap.size, 1, none⟩ = some (.slice none 0 0) ∧ w1.cell? ⟨w.heap.size, 2, none⟩ = some (.bool false) ∧ w1.cell? ⟨w.heap.size, 3, none⟩ = some (.slice none 0 0) ∧ w1.frozen? ⟨w.heap.size, 0, none⟩ = false ∧ w1.frozen? ⟨w.heap.size, 1, none⟩ = false ∧ w1.frozen? ⟨w.heap.size, 2, none⟩ = false ∧ w1.frozen? ⟨w.heap.size, 3, none⟩ = false := ⟨Bo.out.c 0, Bo.out.c 1, Bo.out.c 2, Bo.out.c 3, Bo.out.fr 0, Bo.out.fr 1, Bo.out.fr 2, Bo.out.fr 3⟩
  go_wp2_with (first
    | ((go_at_call 34); (with_reducible refine (wof_v (n := a) ha0 ha1).mono ?_); rintro E2 w2 ⟨b2, A2, n2, c2, rfl, o2, hr2⟩; have X2 := hid (X1.out.trans hr2); have hy2 := hid hr2; clear hr2; have O2 := hid (o2.mono X1.out.size); clear o2; obtain ⟨f3_0, f3_1, f3_2, f3_3, f3_4, f3_5, f3_6, f3_7⟩ : w2.cell? ⟨w.heap.size, 0, none⟩ = some (.bool false) ∧ w2.cell? ⟨w.heap.size, 1, none⟩ = some (.slice none 0 0) ∧ w2.cell? ⟨w.heap.size, 2, none⟩ = some (.bool false) ∧ w2.cell? ⟨w.heap.size, 3, none⟩ = some (.slice none 0 0) ∧ w2.frozen? ⟨w.heap.size, 0, none⟩ = false ∧ w2.frozen? ⟨w.heap.size, 1, none⟩ = false ∧ w2.frozen? ⟨w.heap.size, 2, none⟩ = false ∧ w2.frozen? ⟨w.heap.size, 3, none⟩ = false := ⟨(Bo.out.ext hy2.out).c 0, (Bo.out.ext hy2.out).c 1, (Bo.out.ext hy2.out).c 2, (Bo.out.ext hy2.out).c 3, (Bo.out.ext hy2.out).fr 0, (Bo.out.ext hy2.out).fr 1, (Bo.out.ext hy2.out).fr 2, (Bo.out.ext hy2.out).fr 3⟩)
    | ((go_at_call 34); (with_reducible refine (wof_v (n := 0) (by omega) (by omega)).mono ?_); rintro E3 w3 ⟨b3, A3, n3, c3, rfl, o3, hr3⟩; have X3 := hid (X2.out.trans hr3); have hy3 := hid hr3; clear hr3; have O3 := hid (o3.mono X2.out.size); clear o3; obtain ⟨f4_0, f4_1, f4_2, f4_3, f4_4, f4_5, f4_6, f4_7⟩ : w3.cell? ⟨w.heap.size, 0, none⟩ = some (.bool false) ∧ w3.cell? ⟨w.heap.size, 1, none⟩ = some (.slice none 0 0) ∧ w3.cell? ⟨w.heap.size, 2, none⟩ = some (.bool false) ∧ w3.cell? ⟨w.heap.size, 3, none⟩ = some (.slice none 0 0) ∧ w3.frozen? ⟨w.heap.size, 0, none⟩ = false ∧ w3.frozen? ⟨w.heap.size, 1, none⟩ = false ∧ w3.frozen? ⟨w.heap.size, 2, none⟩ = false ∧ w3.frozen? ⟨w.heap.size, 3, none⟩ = false := ⟨(Bo.out.ext (hy2.out.trans hy3.out)).c 0, (Bo.out.ext (hy2.out.trans hy3.out)).c 1, (Bo.out.ext (hy2.out.trans hy3.out)).c 2, (Bo.out.ext (hy2.out.trans hy3.out)).c 3, (Bo.out.ext (hy2.out.trans hy3.out)).fr 0, (Bo.out.ext (hy2.out.trans hy3.out)).fr 1, (Bo.out.ext (hy2.out.trans hy3.out)).fr 2, (Bo.out.ext (hy2.out.trans hy3.out)).fr 3⟩)
    | ((go_at_call 9); (with_reducible refine (rof_zero (O2.out.ext hy3.out).iz O3.out.iz (by omega)).mono ?_); rintro E4 w4 ⟨rfl, hr4⟩; have X4 := hid (X3.out.trans hr4); have hy4 := hid hr4; clear hr4; obtain ⟨f5_0, f5_1, f5_2, f5_3, f5_4, f5_5, f5_6, f5_7⟩ : w4.cell? ⟨w.heap.size, 0, none⟩ = some (.bool false) ∧ w4.cell? ⟨w.heap.size, 1, none⟩ = some (.slice none 0 0) ∧ w4.cell? ⟨w.heap.size, 2, none⟩ = some (.bool false) ∧ w4.cell? ⟨w.heap.size, 3, none⟩ = some (.slice none 0 0) ∧ w4.frozen? ⟨w.heap.size, 0, none⟩ = false ∧ w4.frozen? ⟨w.heap.size, 1, none⟩ = false ∧ w4.frozen? ⟨w.heap.size, 2, none⟩ = false ∧ w4.frozen? ⟨w.heap.size, 3, none⟩ = false := ⟨(Bo.out.ext ((hy2.out.trans hy3.out).trans hy4.out)).c 0, (Bo.out.ext ((hy2.out.trans hy3.out).trans hy4.out)).c 1, (Bo.out.ext ((hy2.out.trans hy3.out).trans hy4.out)).c 2, (Bo.out.ext ((hy2.out.trans hy3.out).trans hy4.out)).c 3, (Bo.out.ext ((hy2.out.trans hy3.out).trans hy4.out)).fr 0, (Bo.out.ext ((hy2.out.trans hy3.out).trans hy4.out)).fr 1, (Bo.out.ext ((hy2.out.trans hy3.out).trans hy4.out)).fr 2, (Bo.out.ext ((hy2.out.trans hy3.out).trans hy4.out)).fr 3⟩))
  clear f2_0 f2_1 f2_2 f2_3 f2_4 f2_5 f2_6 f2_7 f3_0 f3_1 f3_2 f3_3 f3_4 f3_5 f3_6 f3_7 f4_0 f4_1 f4_2 f4_3 f4_4 f4_5 f4_6 f4_7 f5_0 f5_1 f5_2 f5_3 f5_4 f5_5 f5_6 f5_7
  have HG5 := hid (show w4.grownBy ((((w4.setCell ⟨w.heap.size, 0, none⟩ (.bool false)).setCell ⟨w.heap.size, 1, none⟩ (.slice none 0 0)).setCell ⟨w.heap.size, 2, none⟩ (.bool false)).setCell ⟨w.heap.size, 3, none⟩ (.slice none 0 0)) (some (w.heap.size)) from gb4 w4 (w.heap.size) (.bool false) (.slice none 0 0) (.bool false) (.slice none 0 0))
  have HO5 := hid (Bo.out.ext ((hy2.out.trans hy3.out).trans hy4.out))
  have HP5 := hid (show Bk 27 ((((w4.setCell ⟨w.heap.size, 0, none⟩ (.bool false)).setCell ⟨w.heap.size, 1, none⟩ (.slice none 0 0)).setCell ⟨w.heap.size, 2, none⟩ (.bool false)).setCell ⟨w.heap.size, 3, none⟩ (.slice none 0 0)) (w.heap.size) #[.bool false, .slice none 0 0, .bool false, .slice none 0 0] from (Bo.out.ext ((hy2.out.trans hy3.out).trans hy4.out)).put4 (.bool false) (.slice none 0 0) (.bool false) (.slice none 0 0))
  generalize ((((w4.setCell ⟨w.heap.size, 0, none⟩ (.bool false)).setCell ⟨w.heap.size, 1, none⟩ (.slice none 0 0)).setCell ⟨w.heap.size, 2, none⟩ (.bool false)).setCell ⟨w.heap.size, 3, none⟩ (.slice none 0 0)) = w5 at *
  have X5 := hid (X4.out.gb HG5.out (by omega))
  refine ret_re rfl HP5.out rfl rfl rfl ⟨rfl, X5.out⟩

set_option maxHeartbeats 6400000 in
set_option maxRecDepth 100000 in
theorem qsm_v {w : World} {a b : Int} (ha0 : -9223372036854775808 ≤ a) (ha1 : a ≤ 9223372036854775807) (hb0 : -9223372036854775808 ≤ b) (hb1 : b ≤ 9223372036854775807) (hb : b ≠ 0) :
    Calls Try.prog 10 #[.int .i64 a, .int .i64 b] w (RetRE 2 ((a : Rat) / (b : Rat)) 0 w) := by
  go_enter Try.func10, Try.ntmps10
  go_upto_region 1 with fail
  have hy1 := hid ((Ext.refl w).alloc (.cells #[.bool false, .slice none 0 0, .bool false, .slice none 0 0] 27))
  have Bo_ := (Bk.new w 27 #[.bool false, .slice none 0 0, .bool false, .slice none 0 0])
  have Bo := hid Bo_
  clear Bo_
  generalize (w.alloc (.cells #[.bool false, .slice none 0 0, .bool false, .slice none 0 0] 27)) = w1 at *
  have X1 := hid ((Ext.refl _).trans hy1.out)
  obtain ⟨f2_0, f2_1, f2_2, f2_3, f2_4, f2_5, f2_6, f2_7⟩ : w1.cell? ⟨w.heap.size, 0, none⟩ = some (.bool false) ∧ w1.cell? ⟨w.heap.size, 1, none⟩ = some (.slice none 0 0) ∧ w1.cell? ⟨w.heap.size, 2, none⟩ = some (.bool false) ∧ w1.cell? ⟨w.heap.size, 3, none⟩ = some (.slice none 0 0) ∧ w1.frozen? ⟨w.heap.size, 0, none⟩ = false ∧ w1.frozen? ⟨w.heap.size, 1, none⟩ = false ∧ w1.frozen? ⟨w.heap.size, 2, none⟩ = false ∧ w1.frozen? ⟨w.heap.size, 3, none⟩ = false := ⟨Bo.out.c 0, Bo.out.c 1, Bo.out.c 2, Bo.out.c 3, Bo.out.fr 0, Bo.out.fr 1, Bo.out.fr 2, Bo.out.fr 3⟩
  go_wp2_with (first
    | ((go_at_call 34); (with_reducible refine (wof_v (n := a) ha0 ha1).mono ?_); rintro E2 w2 ⟨b2, A2, n2, c2, rfl, o2, hr2⟩; have X2 := hid (X1.out.trans hr2); have hy2 := hid hr2; clear hr2; have O2 := hid (o2.mono X1.out.size); clear o2; obtain ⟨f3_0, f3_1, f3_2, f3_3, f3_4, f3_5, f3_6, f3_7⟩ : w2.cell? ⟨w.heap.size, 0, none⟩ = some (.bool false) ∧ w2.cell? ⟨w.heap.size, 1, none⟩ = some (.slice none 0 0) ∧ w2.cell? ⟨w.heap.size, 2, none⟩ = some (.bool false) ∧ w2.cell? ⟨w.heap.size, 3, none⟩ = some (.slice none 0 0) ∧ w2.frozen? ⟨w.heap.size, 0, none⟩ = false ∧ w2.frozen? ⟨w.heap.size, 1, none⟩ = false ∧ w2.frozen? ⟨w.heap.size, 2, none⟩ = false ∧ w2.frozen? ⟨w.heap.size, 3, none⟩ = false := ⟨(Bo.out.ext hy2.out).c 0, (Bo.out.ext hy2.out).c 1, (Bo.out.ext hy2.out).c 2, (Bo.out.ext hy2.out).c 3, (Bo.out.ext hy2.out).fr 0, (Bo.out.ext hy2.out).fr 1, (Bo.out.ext hy2.out).fr 2, (Bo.out.ext hy2.out).fr 3⟩)
    | ((go_at_call 34); (with_reducible refine (wof_v (n := b) (by omega) (by omega)).mono ?_); rintro E3 w3 ⟨b3, A3, n3, c3, rfl, o3, hr3⟩; have X3 := hid (X2.out.trans hr3); have hy3 := hid hr3; clear hr3; have O3 := hid (o3.mono X2.out.size); clear o3; obtain ⟨f4_0, f4_1, f4_2, f4_3, f4_4, f4_5, f4_6, f4_7⟩ : w3.cell? ⟨w.heap.size, 0, none⟩ = some (.bool false) ∧ w3.cell? ⟨w.heap.size, 1, none⟩ = some (.slice none 0 0) ∧ w3.cell? ⟨w.heap.size, 2, none⟩ = some (.bool false) ∧ w3.cell? ⟨w.heap.size, 3, none⟩ = some (.slice none 0 0) ∧ w3.frozen? ⟨w.heap.size, 0, none⟩ = false ∧ w3.frozen? ⟨w.heap.size, 1, none⟩ = false ∧ w3.frozen? ⟨w.heap.size, 2, none⟩ = false ∧ w3.frozen? ⟨w.heap.size, 3, none⟩ = false := ⟨(Bo.out.ext (hy2.out.trans hy3.out)).c 0, (Bo.out.ext (hy2.out.trans hy3.out)).c 1, (Bo.out.ext (hy2.out.trans hy3.out)).c 2, (Bo.out.ext (hy2.out.trans hy3.out)).c 3, (Bo.out.ext (hy2.out.trans hy3.out)).fr 0, (Bo.out.ext (hy2.out.trans hy3.out)).fr 1, (Bo.out.ext (hy2.out.trans hy3.out)).fr 2, (Bo.out.ext (hy2.out.trans hy3.out)).fr 3⟩)
    | ((go_at_call 9); (with_reducible refine (rof_v 2 (O2.out.ext hy3.out).iz O3.out.iz hb (by omega) (by omega) (by omega)).mono ?_); rintro E4 w4 ⟨b4, A4, n4, c4, e4, B4, m4, d4, rfl, o4, hr4⟩; have X4 := hid (X3.out.trans hr4); have hy4 := hid hr4; clear hr4; have O4 := hid (o4.mono X3.out.size); clear o4; obtain ⟨f5_0, f5_1, f5_2, f5_3, f5_4, f5_5, f5_6, f5_7⟩ : w4.cell? ⟨w.heap.size, 0, none⟩ = some (.bool false) ∧ w4.cell? ⟨w.heap.size, 1, none⟩ = some (.slice none 0 0) ∧ w4.cell? ⟨w.heap.size, 2, none⟩ = some (.bool false) ∧ w4.cell? ⟨w.heap.size, 3, none⟩ = some (.slice none 0 0) ∧ w4.frozen? ⟨w.heap.size, 0, none⟩ = false ∧ w4.frozen? ⟨w.heap.size, 1, none⟩ = false ∧ w4.frozen? ⟨w.heap.size, 2, none⟩ = false ∧ w4.frozen? ⟨w.heap.size, 3, none⟩ = false := ⟨(Bo.out.ext ((hy2.out.trans hy3.out).trans hy4.out)).c 0, (Bo.out.ext ((hy2.out.trans hy3.out).trans hy4.out)).c 1, (Bo.out.ext ((hy2.out.trans hy3.out).trans hy4.out)).c 2, (Bo.out.ext ((hy2.out.trans hy3.out).trans hy4.out)).c 3, (Bo.out.ext ((hy2.out.trans hy3.out).trans hy4.out)).fr 0, (Bo.out.ext ((hy2.out.trans hy3.out).trans hy4.out)).fr 1, (Bo.out.ext ((hy2.out.trans hy3.out).trans hy4.out)).fr 2, (Bo.out.ext ((hy2.out.trans hy3.out).trans hy4.out)).fr 3⟩))
  clear f2_0 f2_1 f2_2 f2_3 f2_4 f2_5 f2_6 f2_7 f3_0 f3_1 f3_2 f3_3 f3_4 f3_5 f3_6 f3_7 f4_0 f4_1 f4_2 f4_3 f4_4 f4_5 f4_6 f4_7 f5_0 f5_1 f5_2 f5_3 f5_4 f5_5 f5_6 f5_7
  have HG5 := hid (show w4.grownBy ((((w4.setCell ⟨w.heap.size, 0, none⟩ (.bool b4)).setCell ⟨w.heap.size, 1, none⟩ (.slice A4 n4 c4)).setCell ⟨w.heap.size, 2, none⟩ (.bool e4)).setCell ⟨w.heap.size, 3, none⟩ (.slice B4 m4 d4)) (some (w.heap.size)) from gb4 w4 (w.heap.size) (.bool b4) (.slice A4 n4 c4) (.bool e4) (.slice B4 m4 d4))
  have HO5 := hid (Bo.out.ext ((hy2.out.trans hy3.out).trans hy4.out))
  have HP5 := hid (show Bk 27 ((((w4.setCell ⟨w.heap.size, 0, none⟩ (.bool b4)).setCell ⟨w.heap.size, 1, none⟩ (.slice A4 n4 c4)).setCell ⟨w.heap.size, 2, none⟩ (.bool e4)).setCell ⟨w.heap.size, 3, none⟩ (.slice B4 m4 d4)) (w.heap.size) #[.bool b4, .slice A4 n4 c4, .bool e4, .slice B4 m4 d4] from (Bo.out.ext ((hy2.out.trans hy3.out).trans hy4.out)).put4 (.bool b4) (.slice A4 n4 c4) (.bool e4) (.slice B4 m4 d4))
  generalize ((((w4.setCell ⟨w.heap.size, 0, none⟩ (.bool b4)).setCell ⟨w.heap.size, 1, none⟩ (.slice A4 n4 c4)).setCell ⟨w.heap.size, 2, none⟩ (.bool e4)).setCell ⟨w.heap.size, 3, none⟩ (.slice B4 m4 d4)) = w5 at *
  have X5 := hid (X4.out.gb HG5.out (by omega))
  refine ret_re rfl HP5.out rfl rfl rfl ⟨_, _, _, _, _, _, _, _, rfl, (O4.out.gbk HO5.out (by decide) HG5.out), X5.out⟩

theorem qsm_is {w : World} {a b : Int} {r : Rat} (ha0 : -9223372036854775808 ≤ a) (ha1 : a ≤ 9223372036854775807) (hb0 : -9223372036854775808 ≤ b) (hb1 : b ≤ 9223372036854775807) (hb : b ≠ 0) (hr : ((a : Rat) / (b : Rat)) = r) :
    Calls Try.prog 10 #[.int .i64 a, .int .i64 b] w (RetRE 2 r 0 w) := hr ▸ qsm_v ha0 ha1 hb0 hb1 hb
theorem iz_none6 (w : World) : Iz 0 w false none 0 0 0 := ⟨0, Cn.none.nv (lo := 0), rfl⟩
theorem Iz.weak {K L : Nat} {w : World} {s : Bool} {A : Option Addr} {n c : Nat} {z : Int} (h : Iz K w s A n c z) (hl : K ≤ L) : Iz L w s A n c z := let ⟨m, h1, h2⟩ := h; ⟨m, h1.weak hl, h2⟩
theorem Iz.rat {K : Nat} {w : World} {s : Bool} {A : Option Addr} {n c : Nat} {z : Int} (h : Iz K w s A n c z) : Rv K w s A n c false none 0 0 (z : Rat) :=
  ⟨z, 0, h, (iz_none6 w).weak (Nat.zero_le _), by show _ = (z : Rat) / ((1 : Int) : Rat); rw [Rat.intCast_one]; grind⟩
set_option maxHeartbeats 6400000 in
set_option maxRecDepth 100000 in
theorem rwhole_v {w : World} {sx : Bool} {Px : Option Addr} {lx kx : Nat} {K : Nat} {z : Int} (hx : Iz K w sx Px lx kx z) (hK : K ≤ 10000000) :
    Calls Try.prog 24 #[.agg #[.bool sx, .slice Px lx kx]] w (RetR (K + 2) (z : Rat) w) := by
  have Hx := hid hx
  clear hx
  go_enter Try.func24, Try.ntmps24
  go_upto_region 1 with fail
  have hy1 := hid (((Ext.refl w).alloc (.cells #[.bool sx, .slice Px lx kx] 24)).alloc (.cells #[.bool false, .slice none 0 0, .bool false, .slice none 0 0] 27))
  have Bx_ := ((Bk.new w 24 #[.bool sx, .slice Px lx kx]).ext ((Ext.refl (w.alloc (.cells #[.bool sx, .slice Px lx kx] 24))).alloc (.cells #[.bool false, .slice none 0 0, .bool false, .slice none 0 0] 27)))
  have Bx := hid Bx_
  clear Bx_
  have Bo_ := (Bk.new (w.alloc (.cells #[.bool sx, .slice Px lx kx] 24)) 27 #[.bool false, .slice none 0 0, .bool false, .slice none 0 0])
  rw [size_alloc] at Bo_
  have Bo := hid Bo_
  clear Bo_
  generalize ((w.alloc (.cells #[.bool sx, .slice Px lx kx] 24)).alloc (.cells #[.bool false, .slice none 0 0, .bool false, .slice none 0 0] 27)) = w1 at *
  have X1 := hid ((Ext.refl _).trans hy1.out)
  obtain ⟨f3_0, f3_1, f3_2, f3_3, f3_4, f3_5, f3_6, f3_7, f3_8, f3_9⟩ : w1.cell? ⟨w.heap.size, 0, none⟩ = some (.bool sx) ∧ w1.cell? ⟨w.heap.size, 1, none⟩ = some (.slice Px lx kx) ∧ w1.cell? ⟨w.heap.size + 1, 0, none⟩ = some (.bool false) ∧ w1.cell? ⟨w.heap.size + 1, 1, none⟩ = some (.slice none 0 0) ∧ w1.cell? ⟨w.heap.size + 1, 2, none⟩ = some (.bool false) ∧ w1.cell? ⟨w.heap.size + 1, 3, none⟩ = some (.slice none 0 0) ∧ w1.frozen? ⟨w.heap.size + 1, 0, none⟩ = false ∧ w1.frozen? ⟨w.heap.size + 1, 1, none⟩ = false ∧ w1.frozen? ⟨w.heap.size + 1, 2, none⟩ = false ∧ w1.frozen? ⟨w.heap.size + 1, 3, none⟩ = false := ⟨Bx.out.c 0, Bx.out.c 1, Bo.out.c 0, Bo.out.c 1, Bo.out.c 2, Bo.out.c 3, Bo.out.fr 0, Bo.out.fr 1, Bo.out.fr 2, Bo.out.fr 3⟩
  go_wp2_with (first
    | ((go_at_call 49); (with_reducible refine (rput_v (Hx.out.ext X1.out).rat (by omega)).mono ?_); rintro E2 w2 ⟨b2, A2, n2, c2, e2, B2, m2, d2, rfl, o2, hr2⟩; have X2 := hid (X1.out.trans hr2); have hy2 := hid hr2; clear hr2; have O2 := hid (o2.mono X1.out.size); clear o2; obtain ⟨f4_0, f4_1, f4_2, f4_3, f4_4, f4_5, f4_6, f4_7, f4_8, f4_9⟩ : w2.cell? ⟨w.heap.size, 0, none⟩ = some (.bool sx) ∧ w2.cell? ⟨w.heap.size, 1, none⟩ = some (.slice Px lx kx) ∧ w2.cell? ⟨w.heap.size + 1, 0, none⟩ = some (.bool false) ∧ w2.cell? ⟨w.heap.size + 1, 1, none⟩ = some (.slice none 0 0) ∧ w2.cell? ⟨w.heap.size + 1, 2, none⟩ = some (.bool false) ∧ w2.cell? ⟨w.heap.size + 1, 3, none⟩ = some (.slice none 0 0) ∧ w2.frozen? ⟨w.heap.size + 1, 0, none⟩ = false ∧ w2.frozen? ⟨w.heap.size + 1, 1, none⟩ = false ∧ w2.frozen? ⟨w.heap.size + 1, 2, none⟩ = false ∧ w2.frozen? ⟨w.heap.size + 1, 3, none⟩ = false := ⟨(Bx.out.ext hy2.out).c 0, (Bx.out.ext hy2.out).c 1, (Bo.out.ext hy2.out).c 0, (Bo.out.ext hy2.out).c 1, (Bo.out.ext hy2.out).c 2, (Bo.out.ext hy2.out).c 3, (Bo.out.ext hy2.out).fr 0, (Bo.out.ext hy2.out).fr 1, (Bo.out.ext hy2.out).fr 2, (Bo.out.ext hy2.out).fr 3⟩))
  clear f3_0 f3_1 f3_2 f3_3 f3_4 f3_5 f3_6 f3_7 f3_8 f3_9 f4_0 f4_1 f4_2 f4_3 f4_4 f4_5 f4_6 f4_7 f4_8 f4_9
  have HG3 := hid (show w2.grownBy ((((w2.setCell ⟨w.heap.size + 1, 0, none⟩ (.bool b2)).setCell ⟨w.heap.size + 1, 1, none⟩ (.slice A2 n2 c2)).setCell ⟨w.heap.size + 1, 2, none⟩ (.bool e2)).setCell ⟨w.heap.size + 1, 3, none⟩ (.slice B2 m2 d2)) (some (w.heap.size + 1)) from gb4 w2 (w.heap.size + 1) (.bool b2) (.slice A2 n2 c2) (.bool e2) (.slice B2 m2 d2))
  have HO3 := hid (Bo.out.ext hy2.out)
  have HP3 := hid (show Bk 27 ((((w2.setCell ⟨w.heap.size + 1, 0, none⟩ (.bool b2)).setCell ⟨w.heap.size + 1, 1, none⟩ (.slice A2 n2 c2)).setCell ⟨w.heap.size + 1, 2, none⟩ (.bool e2)).setCell ⟨w.heap.size + 1, 3, none⟩ (.slice B2 m2 d2)) (w.heap.size + 1) #[.bool b2, .slice A2 n2 c2, .bool e2, .slice B2 m2 d2] from (Bo.out.ext hy2.out).put4 (.bool b2) (.slice A2 n2 c2) (.bool e2) (.slice B2 m2 d2))
  generalize ((((w2.setCell ⟨w.heap.size + 1, 0, none⟩ (.bool b2)).setCell ⟨w.heap.size + 1, 1, none⟩ (.slice A2 n2 c2)).setCell ⟨w.heap.size + 1, 2, none⟩ (.bool e2)).setCell ⟨w.heap.size + 1, 3, none⟩ (.slice B2 m2 d2)) = w3 at *
  have X3 := hid (X2.out.gb HG3.out (by omega))
  refine ret_r rfl HP3.out rfl rfl ⟨_, _, _, _, _, _, _, _, rfl, (O2.out.gbk HO3.out (by decide) HG3.out), X3.out⟩

theorem field_num (b e : Bool) (A B : Option Addr) (n c m d : Nat) (w : World) : (Instr.field 27 (.agg #[.bool b, .slice A n c, .bool e, .slice B m d]) 0).run Try.prog w = .ok (.agg #[.bool b, .slice A n c]) w := by
  unfold Instr.field
  go_simp
  simp [asAgg, Result.andThen]
set_option maxHeartbeats 6400000 in
set_option maxRecDepth 100000 in
theorem rsign_v {w : World} {sx tx : Bool} {Px Qx : Option Addr} {lx kx mx dx : Nat} {K : Nat} {x : Rat} (hx : Rv K w sx Px lx kx tx Qx mx dx x) (hK : K ≤ 10000000) :
    Calls Try.prog 28 #[.agg #[.bool sx, .slice Px lx kx, .bool tx, .slice Qx mx dx]] w (RetE (.int .i64 (rs x)) w) := by
  have Hx := hid hx
  clear hx
  go_enter Try.func28, Try.ntmps28
  go_upto_region 1 with fail
  have hy1 := hid ((Ext.refl w).alloc (.cells #[.bool sx, .slice Px lx kx, .bool tx, .slice Qx mx dx] 27))
  have Bx_ := (Bk.new w 27 #[.bool sx, .slice Px lx kx, .bool tx, .slice Qx mx dx])
  have Bx := hid Bx_
  clear Bx_
  generalize (w.alloc (.cells #[.bool sx, .slice Px lx kx, .bool tx, .slice Qx mx dx] 27)) = w1 at *
  have X1 := hid ((Ext.refl _).trans hy1.out)
  obtain ⟨f2_0, f2_1, f2_2, f2_3⟩ : w1.cell? ⟨w.heap.size, 0, none⟩ = some (.bool sx) ∧ w1.cell? ⟨w.heap.size, 1, none⟩ = some (.slice Px lx kx) ∧ w1.cell? ⟨w.heap.size, 2, none⟩ = some (.bool tx) ∧ w1.cell? ⟨w.heap.size, 3, none⟩ = some (.slice Qx mx dx) := ⟨Bx.out.c 0, Bx.out.c 1, Bx.out.c 2, Bx.out.c 3⟩
  go_wp2_with (first
    | ((go_at_call 49); (with_reducible refine (rput_v (Hx.out.ext X1.out) (by omega)).mono ?_); rintro E2 w2 ⟨b2, A2, n2, c2, e2, B2, m2, d2, rfl, o2, hr2⟩; have X2 := hid (X1.out.trans hr2); have hy2 := hid hr2; clear hr2; have O2 := hid (o2.mono X1.out.size); clear o2; obtain ⟨f3_0, f3_1, f3_2, f3_3⟩ : w2.cell? ⟨w.heap.size, 0, none⟩ = some (.bool sx) ∧ w2.cell? ⟨w.heap.size, 1, none⟩ = some (.slice Px lx kx) ∧ w2.cell? ⟨w.heap.size, 2, none⟩ = some (.bool tx) ∧ w2.cell? ⟨w.heap.size, 3, none⟩ = some (.slice Qx mx dx) := ⟨(Bx.out.ext hy2.out).c 0, (Bx.out.ext hy2.out).c 1, (Bx.out.ext hy2.out).c 2, (Bx.out.ext hy2.out).c 3⟩; have fq := field_num b2 e2 A2 B2 n2 c2 m2 d2 w2)
    | ((go_at_call 30); (with_reducible refine (sign_v O2.out.nu.iz (by omega)).mono ?_); rintro E3 w3 ⟨rfl, hr3⟩; have X3 := hid (X2.out.trans hr3); have hy3 := hid hr3; clear hr3; obtain ⟨f4_0, f4_1, f4_2, f4_3⟩ : w3.cell? ⟨w.heap.size, 0, none⟩ = some (.bool sx) ∧ w3.cell? ⟨w.heap.size, 1, none⟩ = some (.slice Px lx kx) ∧ w3.cell? ⟨w.heap.size, 2, none⟩ = some (.bool tx) ∧ w3.cell? ⟨w.heap.size, 3, none⟩ = some (.slice Qx mx dx) := ⟨(Bx.out.ext (hy2.out.trans hy3.out)).c 0, (Bx.out.ext (hy2.out.trans hy3.out)).c 1, (Bx.out.ext (hy2.out.trans hy3.out)).c 2, (Bx.out.ext (hy2.out.trans hy3.out)).c 3⟩))
  clear f2_0 f2_1 f2_2 f2_3 f3_0 f3_1 f3_2 f3_3 f4_0 f4_1 f4_2 f4_3
  go_ret
  exact ⟨rfl, X3.out⟩

theorem rsign_is {w : World} {sx tx : Bool} {Px Qx : Option Addr} {lx kx mx dx : Nat} {K : Nat} {x : Rat} {v : Int} (hx : Rv K w sx Px lx kx tx Qx mx dx x) (hK : K ≤ 10000000) (hv : rs x = v) :
    Calls Try.prog 28 #[.agg #[.bool sx, .slice Px lx kx, .bool tx, .slice Qx mx dx]] w (RetE (.int .i64 v) w) := hv ▸ rsign_v hx hK
theorem Rc.neg {K : Nat} {w : World} {lo : Nat} {s s' t : Bool} {A A' B : Option Addr} {n c n' c' m d : Nat} {r : Rat} (h : Ci K w lo s' A' n' c' (-r.num)) (h' : Rc K w lo s A n c t B m d r) : Rc K w lo s' A' n' c' t B m d (-r) := ⟨h.cast (Rat.neg_num r).symm, h'.2.cast (by rw [Rat.neg_den])⟩
set_option maxHeartbeats 6400000 in
set_option maxRecDepth 100000 in
theorem rneg_v {w : World} {sx tx : Bool} {Px Qx : Option Addr} {lx kx mx dx : Nat} {K : Nat} {x : Rat} (hx : Rv K w sx Px lx kx tx Qx mx dx x) (hK : K ≤ 10000000) :
    Calls Try.prog 29 #[.agg #[.bool sx, .slice Px lx kx, .bool tx, .slice Qx mx dx]] w (RetR (K + 2) (-x) w) := by
  have Hx := hid hx
  clear hx
  go_enter Try.func29, Try.ntmps29
  go_upto_region 1 with fail
  have hy1 := hid (((Ext.refl w).alloc (.cells #[.bool sx, .slice Px lx kx, .bool tx, .slice Qx mx dx] 27)).alloc (.cells #[.bool false, .slice none 0 0, .bool false, .slice none 0 0] 27))
  have Bx_ := ((Bk.new w 27 #[.bool sx, .slice Px lx kx, .bool tx, .slice Qx mx dx]).ext ((Ext.refl (w.alloc (.cells #[.bool sx, .slice Px lx kx, .bool tx, .slice Qx mx dx] 27))).alloc (.cells #[.bool false, .slice none 0 0, .bool false, .slice none 0 0] 27)))
  have Bx := hid Bx_
  clear Bx_
  have Bo_ := (Bk.new (w.alloc (.cells #[.bool sx, .slice Px lx kx, .bool tx, .slice Qx mx dx] 27)) 27 #[.bool false, .slice none 0 0, .bool false, .slice none 0 0])
  rw [size_alloc] at Bo_
  have Bo := hid Bo_
  clear Bo_
  generalize ((w.alloc (.cells #[.bool sx, .slice Px lx kx, .bool tx, .slice Qx mx dx] 27)).alloc (.cells #[.bool false, .slice none 0 0, .bool false, .slice none 0 0] 27)) = w1 at *
  have X1 := hid ((Ext.refl _).trans hy1.out)
  obtain ⟨f3_0, f3_1, f3_2, f3_3, f3_4, f3_5, f3_6, f3_7⟩ : w1.cell? ⟨w.heap.size, 0, none⟩ = some (.bool sx) ∧ w1.cell? ⟨w.heap.size, 1, none⟩ = some (.slice Px lx kx) ∧ w1.cell? ⟨w.heap.size, 2, none⟩ = some (.bool tx) ∧ w1.cell? ⟨w.heap.size, 3, none⟩ = some (.slice Qx mx dx) ∧ w1.frozen? ⟨w.heap.size, 0, none⟩ = false ∧ w1.frozen? ⟨w.heap.size, 1, none⟩ = false ∧ w1.frozen? ⟨w.heap.size, 2, none⟩ = false ∧ w1.frozen? ⟨w.heap.size, 3, none⟩ = false := ⟨Bx.out.c 0, Bx.out.c 1, Bx.out.c 2, Bx.out.c 3, Bx.out.fr 0, Bx.out.fr 1, Bx.out.fr 2, Bx.out.fr 3⟩
  go_upto_region 2 with (first
    | ((go_at_call 49); (with_reducible refine (rput_v (Hx.out.ext X1.out) (by omega)).mono ?_); rintro E2 w2 ⟨b2, A2, n2, c2, e2, B2, m2, d2, rfl, o2, hr2⟩; have X2 := hid (X1.out.trans hr2); have hy2 := hid hr2; clear hr2; have O2 := hid (o2.mono X1.out.size); clear o2; obtain ⟨f4_0, f4_1, f4_2, f4_3, f4_4, f4_5, f4_6, f4_7⟩ : w2.cell? ⟨w.heap.size, 0, none⟩ = some (.bool sx) ∧ w2.cell? ⟨w.heap.size, 1, none⟩ = some (.slice Px lx kx) ∧ w2.cell? ⟨w.heap.size, 2, none⟩ = some (.bool tx) ∧ w2.cell? ⟨w.heap.size, 3, none⟩ = some (.slice Qx mx dx) ∧ w2.frozen? ⟨w.heap.size, 0, none⟩ = false ∧ w2.frozen? ⟨w.heap.size, 1, none⟩ = false ∧ w2.frozen? ⟨w.heap.size, 2, none⟩ = false ∧ w2.frozen? ⟨w.heap.size, 3, none⟩ = false := ⟨(Bx.out.ext hy2.out).c 0, (Bx.out.ext hy2.out).c 1, (Bx.out.ext hy2.out).c 2, (Bx.out.ext hy2.out).c 3, (Bx.out.ext hy2.out).fr 0, (Bx.out.ext hy2.out).fr 1, (Bx.out.ext hy2.out).fr 2, (Bx.out.ext hy2.out).fr 3⟩))
  clear f3_0 f3_1 f3_2 f3_3 f3_4 f3_5 f3_6 f3_7 f4_0 f4_1 f4_2 f4_3 f4_4 f4_5 f4_6 f4_7
  have HG3 := hid (show w2.grownBy ((((w2.setCell ⟨w.heap.size, 0, none⟩ (.bool b2)).setCell ⟨w.heap.size, 1, none⟩ (.slice A2 n2 c2)).setCell ⟨w.heap.size, 2, none⟩ (.bool e2)).setCell ⟨w.heap.size, 3, none⟩ (.slice B2 m2 d2)) (some (w.heap.size)) from gb4 w2 (w.heap.size) (.bool b2) (.slice A2 n2 c2) (.bool e2) (.slice B2 m2 d2))
  have HO3 := hid (Bx.out.ext hy2.out)
  have HP3 := hid (show Bk 27 ((((w2.setCell ⟨w.heap.size, 0, none⟩ (.bool b2)).setCell ⟨w.heap.size, 1, none⟩ (.slice A2 n2 c2)).setCell ⟨w.heap.size, 2, none⟩ (.bool e2)).setCell ⟨w.heap.size, 3, none⟩ (.slice B2 m2 d2)) (w.heap.size) #[.bool b2, .slice A2 n2 c2, .bool e2, .slice B2 m2 d2] from (Bx.out.ext hy2.out).put4 (.bool b2) (.slice A2 n2 c2) (.bool e2) (.slice B2 m2 d2))
  generalize ((((w2.setCell ⟨w.heap.size, 0, none⟩ (.bool b2)).setCell ⟨w.heap.size, 1, none⟩ (.slice A2 n2 c2)).setCell ⟨w.heap.size, 2, none⟩ (.bool e2)).setCell ⟨w.heap.size, 3, none⟩ (.slice B2 m2 d2)) = w3 at *
  have X3 := hid (X2.out.gb HG3.out (by omega))
  refine wp_region_held_drew (S := fun w' => Ext w w' ∧ Bk 27 w' (w.heap.size) #[.bool b2, .slice A2 n2 c2, .bool e2, .slice B2 m2 d2]) (by kernel_rfl) ⟨(X3.out.trans (Ext.refl _).drew), (HP3.out.ext (Ext.refl _).drew)⟩ (fun hS0 => ?_)
  change wpAnyH _ _ _ _ _ 7 #[false, false, false, false, false, false, false] _ _
  refine drawn_free 0 5 (v := ?v0_1) (.fieldAddr 27 (.tmp 1) 0) (by kernel_rfl) ?hy0_1 (by kernel_rfl) (by kernel_rfl) (by kernel_rfl) (fun _ _ _ _ h => h) hS0 ?hr0_1
  case hy0_1 => (intro o ho w' hS; unfold execOp; simp only [ho]; go_simp; try with_reducible rfl)
  simp only [Act.put, List.setIfInBounds_toArray, List.set_cons_zero, List.set_cons_succ]
  refine drawn_free 1 6 (v := ?v1_2) (.load 24 (.tmp 5)) (by kernel_rfl) ?hy1_2 (by kernel_rfl) (by kernel_rfl) (by kernel_rfl) (fun _ _ _ _ h => h) hS0 ?hr1_2
  case hy1_2 => (intro o ho w' hS; have c0 : w'.cell? ⟨w.heap.size, 0, none⟩ = some (.bool b2) := hS.2.c 0; have c1 : w'.cell? ⟨w.heap.size, 1, none⟩ = some (.slice A2 n2 c2) := hS.2.c 1; unfold execOp; simp only [ho]; go_simp; try with_reducible rfl)
  simp only [Act.put, List.setIfInBounds_toArray, List.set_cons_zero, List.set_cons_succ]
  refine drawn_free 3 8 (v := ?v3_3) (.fieldAddr 27 (.tmp 1) 1) (by kernel_rfl) ?hy3_3 (by kernel_rfl) (by kernel_rfl) (by kernel_rfl) (fun _ _ _ _ h => h) hS0 ?hr3_3
  case hy3_3 => (intro o ho w' hS; unfold execOp; simp only [ho]; go_simp; try with_reducible rfl)
  simp only [Act.put, List.setIfInBounds_toArray, List.set_cons_zero, List.set_cons_succ]
  refine drawn_free 4 9 (v := ?v4_4) (.load 24 (.tmp 8)) (by kernel_rfl) ?hy4_4 (by kernel_rfl) (by kernel_rfl) (by kernel_rfl) (fun _ _ _ _ h => h) hS0 ?hr4_4
  case hy4_4 => (intro o ho w' hS; have c2 : w'.cell? ⟨w.heap.size, 2, none⟩ = some (.bool e2) := hS.2.c 2; have c3 : w'.cell? ⟨w.heap.size, 3, none⟩ = some (.slice B2 m2 d2) := hS.2.c 3; unfold execOp; simp only [ho]; go_simp; try with_reducible rfl)
  simp only [Act.put, List.setIfInBounds_toArray, List.set_cons_zero, List.set_cons_succ]
  refine wpAnyH_ready (rs := [2]) (by kernel_rfl) (by simp) ?_
  refine drawn_call1 2 (some 7) (.tmp 6) (ts := #[24]) (by kernel_rfl) (enters_of Try.func32 (by kernel_rfl) rfl) rfl (neg_v ((O2.out.gbk HO3.out (by decide) HG3.out).ext (Ext.refl _).drew).nu.iz (by omega)) (fun E v2 hh => ?_) ?_
  · skip
    obtain ⟨b2, A2, n2, c2, rfl, o2, hx2⟩ := hh
    refine ⟨_, rfl, ⟨((X3.out.trans (Ext.refl _).drew).trans hx2), (HP3.out.ext ((Ext.refl _).drew.trans hx2))⟩, ?_⟩
    simp only [Act.put, List.setIfInBounds_toArray, List.set_cons_zero, List.set_cons_succ]
    refine drawn_free 5 10 (v := ?v5_5) (.build 27 #[(0, .tmp 7), (1, .tmp 9)]) (by kernel_rfl) ?hy5_5 (by kernel_rfl) (by kernel_rfl) (by kernel_rfl) (fun _ _ _ _ h => h) ⟨((X3.out.trans (Ext.refl _).drew).trans hx2), (HP3.out.ext ((Ext.refl _).drew.trans hx2))⟩ ?hr5_5
    case hy5_5 => (intro o ho w' hS; unfold execOp; simp only [ho]; go_simp; try with_reducible rfl)
    simp only [Act.put, List.setIfInBounds_toArray, List.set_cons_zero, List.set_cons_succ]
    refine wpAnyH_ready (rs := [6]) (by kernel_rfl) (by simp) ?_
    have hq6 := (((Bo.out.ext hy2.out).grown HG3.out (by omega)).ext ((Ext.refl _).drew.trans hx2))
    refine drawn_store 6 27 (.tmp 2) (.tmp 10) (w.heap.size + 1) #[.bool b2, .slice A2 n2 c2, .bool e2, .slice B2 m2 d2] #[.bool false, .slice none 0 0, .bool false, .slice none 0 0] 27 (by kernel_rfl) rfl rfl hq6.h info_rat rfl one_four (fun v6 hb6 hg6 => ⟨⟨(((X3.out.trans (Ext.refl _).drew).trans hx2).gb hg6 (by omega)), ((HP3.out.ext ((Ext.refl _).drew.trans hx2)).grown hg6 (by omega))⟩, ?_⟩) ?_
    · skip
      simp only [Act.put, List.setIfInBounds_toArray, List.set_cons_zero, List.set_cons_succ]
      refine wpAnyH_done (by kernel_rfl) ?_ _
      go_wp2_with fail
      refine ret_r rfl (show Bk 27 v6 (w.heap.size + 1) #[.bool b2, .slice A2 n2 c2, .bool e2, .slice B2 m2 d2] from hb6) rfl rfl ⟨_, _, _, _, _, _, _, _, rfl, Rc.neg ((o2.mono (X3.out.trans (Ext.refl _).drew).size).gbk hq6 (by decide) hg6) (((O2.out.gbk HO3.out (by decide) HG3.out).ext ((Ext.refl _).drew.trans hx2)).gbk hq6 (by decide) hg6), (((X3.out.trans (Ext.refl _).drew).trans hx2).gb hg6 (by omega))⟩
    exact drawn_nil
  exact drawn_nil


end Go.Proofs.Ytikkibpjchmajaa

