/-
  The contracts of ratio.May, Text. Printed by wip/gen/rat.py.
-/
import Derived.Test.YtikkibpjchmajaaPk20
import Derived.Test.YtikkibpjchmajaaPk18
import Derived.Test.YtikkibpjchmajaaPk26
namespace Go.Proofs.Ytikkibpjchmajaa
open Go.RowKit
open Go.Lib (hid)

set_option maxHeartbeats 6400000 in
set_option maxRecDepth 100000 in
theorem rmay_num {w : World} {sx tx : Bool} {Px Qx : Option Addr} {lx kx mx dx : Nat} (hn : ∀ W, Ext w W → Calls Try.prog 53 #[.agg #[.bool sx, .slice Px lx kx]] W (RetE (.bool false) W)) :
    Calls Try.prog 21 #[.agg #[.bool sx, .slice Px lx kx, .bool tx, .slice Qx mx dx]] w (RetE (.bool false) w) := by
  have Hn := hid hn
  clear hn
  go_enter Try.func21, Try.ntmps21
  go_upto_region 1 with fail
  have hy1 := hid ((Ext.refl w).alloc (.cells #[.bool sx, .slice Px lx kx, .bool tx, .slice Qx mx dx] 27))
  have Bx_ := (Bk.new w 27 #[.bool sx, .slice Px lx kx, .bool tx, .slice Qx mx dx])
  have Bx := hid Bx_
  clear Bx_
  generalize (w.alloc (.cells #[.bool sx, .slice Px lx kx, .bool tx, .slice Qx mx dx] 27)) = w1 at *
  have X1 := hid ((Ext.refl _).trans hy1.out)
  obtain ⟨f2_0, f2_1, f2_2, f2_3⟩ : w1.cell? ⟨w.heap.size, 0, none⟩ = some (.bool sx) ∧ w1.cell? ⟨w.heap.size, 1, none⟩ = some (.slice Px lx kx) ∧ w1.cell? ⟨w.heap.size, 2, none⟩ = some (.bool tx) ∧ w1.cell? ⟨w.heap.size, 3, none⟩ = some (.slice Qx mx dx) := ⟨Bx.out.c 0, Bx.out.c 1, Bx.out.c 2, Bx.out.c 3⟩
  go_wp2_with (first
    | ((go_at_call 53); (with_reducible refine (Hn.out _ X1.out).mono ?_); rintro E2 w2 ⟨rfl, hr2⟩; have X2 := hid (X1.out.trans hr2); have hy2 := hid hr2; clear hr2; obtain ⟨f3_0, f3_1, f3_2, f3_3⟩ : w2.cell? ⟨w.heap.size, 0, none⟩ = some (.bool sx) ∧ w2.cell? ⟨w.heap.size, 1, none⟩ = some (.slice Px lx kx) ∧ w2.cell? ⟨w.heap.size, 2, none⟩ = some (.bool tx) ∧ w2.cell? ⟨w.heap.size, 3, none⟩ = some (.slice Qx mx dx) := ⟨(Bx.out.ext hy2.out).c 0, (Bx.out.ext hy2.out).c 1, (Bx.out.ext hy2.out).c 2, (Bx.out.ext hy2.out).c 3⟩))
  clear f2_0 f2_1 f2_2 f2_3 f3_0 f3_1 f3_2 f3_3
  go_ret
  exact ⟨rfl, X2.out⟩

set_option maxHeartbeats 6400000 in
set_option maxRecDepth 100000 in
theorem rmay_den {w : World} {sx tx : Bool} {Px Qx : Option Addr} {lx kx mx dx : Nat} (hn : ∀ W, Ext w W → Calls Try.prog 53 #[.agg #[.bool sx, .slice Px lx kx]] W (RetE (.bool true) W)) (hd : ∀ W, Ext w W → Calls Try.prog 53 #[.agg #[.bool tx, .slice Qx mx dx]] W (RetE (.bool false) W)) :
    Calls Try.prog 21 #[.agg #[.bool sx, .slice Px lx kx, .bool tx, .slice Qx mx dx]] w (RetE (.bool false) w) := by
  have Hn := hid hn
  have Hd := hid hd
  clear hn hd
  go_enter Try.func21, Try.ntmps21
  go_upto_region 1 with fail
  have hy1 := hid ((Ext.refl w).alloc (.cells #[.bool sx, .slice Px lx kx, .bool tx, .slice Qx mx dx] 27))
  have Bx_ := (Bk.new w 27 #[.bool sx, .slice Px lx kx, .bool tx, .slice Qx mx dx])
  have Bx := hid Bx_
  clear Bx_
  generalize (w.alloc (.cells #[.bool sx, .slice Px lx kx, .bool tx, .slice Qx mx dx] 27)) = w1 at *
  have X1 := hid ((Ext.refl _).trans hy1.out)
  obtain ⟨f2_0, f2_1, f2_2, f2_3⟩ : w1.cell? ⟨w.heap.size, 0, none⟩ = some (.bool sx) ∧ w1.cell? ⟨w.heap.size, 1, none⟩ = some (.slice Px lx kx) ∧ w1.cell? ⟨w.heap.size, 2, none⟩ = some (.bool tx) ∧ w1.cell? ⟨w.heap.size, 3, none⟩ = some (.slice Qx mx dx) := ⟨Bx.out.c 0, Bx.out.c 1, Bx.out.c 2, Bx.out.c 3⟩
  go_wp2_with (first
    | ((go_at_call 53); (with_reducible refine (Hn.out _ X1.out).mono ?_); rintro E2 w2 ⟨rfl, hr2⟩; have X2 := hid (X1.out.trans hr2); have hy2 := hid hr2; clear hr2; obtain ⟨f3_0, f3_1, f3_2, f3_3⟩ : w2.cell? ⟨w.heap.size, 0, none⟩ = some (.bool sx) ∧ w2.cell? ⟨w.heap.size, 1, none⟩ = some (.slice Px lx kx) ∧ w2.cell? ⟨w.heap.size, 2, none⟩ = some (.bool tx) ∧ w2.cell? ⟨w.heap.size, 3, none⟩ = some (.slice Qx mx dx) := ⟨(Bx.out.ext hy2.out).c 0, (Bx.out.ext hy2.out).c 1, (Bx.out.ext hy2.out).c 2, (Bx.out.ext hy2.out).c 3⟩)
    | ((go_at_call 53); (with_reducible refine (Hd.out _ X2.out).mono ?_); rintro E3 w3 ⟨rfl, hr3⟩; have X3 := hid (X2.out.trans hr3); have hy3 := hid hr3; clear hr3; obtain ⟨f4_0, f4_1, f4_2, f4_3⟩ : w3.cell? ⟨w.heap.size, 0, none⟩ = some (.bool sx) ∧ w3.cell? ⟨w.heap.size, 1, none⟩ = some (.slice Px lx kx) ∧ w3.cell? ⟨w.heap.size, 2, none⟩ = some (.bool tx) ∧ w3.cell? ⟨w.heap.size, 3, none⟩ = some (.slice Qx mx dx) := ⟨(Bx.out.ext (hy2.out.trans hy3.out)).c 0, (Bx.out.ext (hy2.out.trans hy3.out)).c 1, (Bx.out.ext (hy2.out.trans hy3.out)).c 2, (Bx.out.ext (hy2.out.trans hy3.out)).c 3⟩))
  clear f2_0 f2_1 f2_2 f2_3 f3_0 f3_1 f3_2 f3_3 f4_0 f4_1 f4_2 f4_3
  go_ret
  exact ⟨rfl, X3.out⟩

set_option maxHeartbeats 6400000 in
set_option maxRecDepth 100000 in
theorem rmay_neg {w : World} {sx tx : Bool} {Px Qx : Option Addr} {lx kx mx dx : Nat} {K : Nat} {N D : Int} (gx : Iz K w sx Px lx kx N) (gy : Iz K w tx Qx mx dx D) (hn : ∀ W, Ext w W → Calls Try.prog 53 #[.agg #[.bool sx, .slice Px lx kx]] W (RetE (.bool true) W)) (hd : ∀ W, Ext w W → Calls Try.prog 53 #[.agg #[.bool tx, .slice Qx mx dx]] W (RetE (.bool true) W)) (hK : K ≤ 10000000) (h0 : D < 0) :
    Calls Try.prog 21 #[.agg #[.bool sx, .slice Px lx kx, .bool tx, .slice Qx mx dx]] w (RetE (.bool false) w) := by
  have hs := hid (sg_neg h0)
  have Gx := hid gx
  have Gy := hid gy
  have Hn := hid hn
  have Hd := hid hd
  clear hn hd
  clear gx gy h0
  go_enter Try.func21, Try.ntmps21
  go_upto_region 1 with fail
  have hy1 := hid ((Ext.refl w).alloc (.cells #[.bool sx, .slice Px lx kx, .bool tx, .slice Qx mx dx] 27))
  have Bx_ := (Bk.new w 27 #[.bool sx, .slice Px lx kx, .bool tx, .slice Qx mx dx])
  have Bx := hid Bx_
  clear Bx_
  generalize (w.alloc (.cells #[.bool sx, .slice Px lx kx, .bool tx, .slice Qx mx dx] 27)) = w1 at *
  have X1 := hid ((Ext.refl _).trans hy1.out)
  obtain ⟨f2_0, f2_1, f2_2, f2_3⟩ : w1.cell? ⟨w.heap.size, 0, none⟩ = some (.bool sx) ∧ w1.cell? ⟨w.heap.size, 1, none⟩ = some (.slice Px lx kx) ∧ w1.cell? ⟨w.heap.size, 2, none⟩ = some (.bool tx) ∧ w1.cell? ⟨w.heap.size, 3, none⟩ = some (.slice Qx mx dx) := ⟨Bx.out.c 0, Bx.out.c 1, Bx.out.c 2, Bx.out.c 3⟩
  go_wp2_with (first
    | ((go_at_call 53); (with_reducible refine (Hn.out _ X1.out).mono ?_); rintro E2 w2 ⟨rfl, hr2⟩; have X2 := hid (X1.out.trans hr2); have hy2 := hid hr2; clear hr2; obtain ⟨f3_0, f3_1, f3_2, f3_3⟩ : w2.cell? ⟨w.heap.size, 0, none⟩ = some (.bool sx) ∧ w2.cell? ⟨w.heap.size, 1, none⟩ = some (.slice Px lx kx) ∧ w2.cell? ⟨w.heap.size, 2, none⟩ = some (.bool tx) ∧ w2.cell? ⟨w.heap.size, 3, none⟩ = some (.slice Qx mx dx) := ⟨(Bx.out.ext hy2.out).c 0, (Bx.out.ext hy2.out).c 1, (Bx.out.ext hy2.out).c 2, (Bx.out.ext hy2.out).c 3⟩)
    | ((go_at_call 53); (with_reducible refine (Hd.out _ X2.out).mono ?_); rintro E3 w3 ⟨rfl, hr3⟩; have X3 := hid (X2.out.trans hr3); have hy3 := hid hr3; clear hr3; obtain ⟨f4_0, f4_1, f4_2, f4_3⟩ : w3.cell? ⟨w.heap.size, 0, none⟩ = some (.bool sx) ∧ w3.cell? ⟨w.heap.size, 1, none⟩ = some (.slice Px lx kx) ∧ w3.cell? ⟨w.heap.size, 2, none⟩ = some (.bool tx) ∧ w3.cell? ⟨w.heap.size, 3, none⟩ = some (.slice Qx mx dx) := ⟨(Bx.out.ext (hy2.out.trans hy3.out)).c 0, (Bx.out.ext (hy2.out.trans hy3.out)).c 1, (Bx.out.ext (hy2.out.trans hy3.out)).c 2, (Bx.out.ext (hy2.out.trans hy3.out)).c 3⟩)
    | ((go_at_call 30); (with_reducible refine (sign_is (v := -1) (Gy.out.ext X3.out) (by omega) hs.out).mono ?_); rintro E4 w4 ⟨rfl, hr4⟩; have X4 := hid (X3.out.trans hr4); have hy4 := hid hr4; clear hr4; obtain ⟨f5_0, f5_1, f5_2, f5_3⟩ : w4.cell? ⟨w.heap.size, 0, none⟩ = some (.bool sx) ∧ w4.cell? ⟨w.heap.size, 1, none⟩ = some (.slice Px lx kx) ∧ w4.cell? ⟨w.heap.size, 2, none⟩ = some (.bool tx) ∧ w4.cell? ⟨w.heap.size, 3, none⟩ = some (.slice Qx mx dx) := ⟨(Bx.out.ext ((hy2.out.trans hy3.out).trans hy4.out)).c 0, (Bx.out.ext ((hy2.out.trans hy3.out).trans hy4.out)).c 1, (Bx.out.ext ((hy2.out.trans hy3.out).trans hy4.out)).c 2, (Bx.out.ext ((hy2.out.trans hy3.out).trans hy4.out)).c 3⟩))
  clear f2_0 f2_1 f2_2 f2_3 f3_0 f3_1 f3_2 f3_3 f4_0 f4_1 f4_2 f4_3 f5_0 f5_1 f5_2 f5_3
  go_ret
  exact ⟨rfl, X4.out⟩

set_option maxHeartbeats 6400000 in
set_option maxRecDepth 100000 in
theorem rmay_zero {w : World} {sx tx : Bool} {Px Qx : Option Addr} {lx kx mx dx : Nat} {K : Nat} {N D : Int} (gx : Iz K w sx Px lx kx N) (gy : Iz K w tx Qx mx dx D) (hn : ∀ W, Ext w W → Calls Try.prog 53 #[.agg #[.bool sx, .slice Px lx kx]] W (RetE (.bool true) W)) (hd : ∀ W, Ext w W → Calls Try.prog 53 #[.agg #[.bool tx, .slice Qx mx dx]] W (RetE (.bool true) W)) (hK : K ≤ 10000000) (h0 : D = 0) :
    Calls Try.prog 21 #[.agg #[.bool sx, .slice Px lx kx, .bool tx, .slice Qx mx dx]] w (RetE (.bool false) w) := by
  have hs := hid (show sg D = 0 by rw [h0]; rfl)
  have Gx := hid gx
  have Gy := hid gy
  have Hn := hid hn
  have Hd := hid hd
  clear hn hd
  clear gx gy h0
  go_enter Try.func21, Try.ntmps21
  go_upto_region 1 with fail
  have hy1 := hid ((Ext.refl w).alloc (.cells #[.bool sx, .slice Px lx kx, .bool tx, .slice Qx mx dx] 27))
  have Bx_ := (Bk.new w 27 #[.bool sx, .slice Px lx kx, .bool tx, .slice Qx mx dx])
  have Bx := hid Bx_
  clear Bx_
  generalize (w.alloc (.cells #[.bool sx, .slice Px lx kx, .bool tx, .slice Qx mx dx] 27)) = w1 at *
  have X1 := hid ((Ext.refl _).trans hy1.out)
  obtain ⟨f2_0, f2_1, f2_2, f2_3⟩ : w1.cell? ⟨w.heap.size, 0, none⟩ = some (.bool sx) ∧ w1.cell? ⟨w.heap.size, 1, none⟩ = some (.slice Px lx kx) ∧ w1.cell? ⟨w.heap.size, 2, none⟩ = some (.bool tx) ∧ w1.cell? ⟨w.heap.size, 3, none⟩ = some (.slice Qx mx dx) := ⟨Bx.out.c 0, Bx.out.c 1, Bx.out.c 2, Bx.out.c 3⟩
  go_wp2_with (first
    | ((go_at_call 53); (with_reducible refine (Hn.out _ X1.out).mono ?_); rintro E2 w2 ⟨rfl, hr2⟩; have X2 := hid (X1.out.trans hr2); have hy2 := hid hr2; clear hr2; obtain ⟨f3_0, f3_1, f3_2, f3_3⟩ : w2.cell? ⟨w.heap.size, 0, none⟩ = some (.bool sx) ∧ w2.cell? ⟨w.heap.size, 1, none⟩ = some (.slice Px lx kx) ∧ w2.cell? ⟨w.heap.size, 2, none⟩ = some (.bool tx) ∧ w2.cell? ⟨w.heap.size, 3, none⟩ = some (.slice Qx mx dx) := ⟨(Bx.out.ext hy2.out).c 0, (Bx.out.ext hy2.out).c 1, (Bx.out.ext hy2.out).c 2, (Bx.out.ext hy2.out).c 3⟩)
    | ((go_at_call 53); (with_reducible refine (Hd.out _ X2.out).mono ?_); rintro E3 w3 ⟨rfl, hr3⟩; have X3 := hid (X2.out.trans hr3); have hy3 := hid hr3; clear hr3; obtain ⟨f4_0, f4_1, f4_2, f4_3⟩ : w3.cell? ⟨w.heap.size, 0, none⟩ = some (.bool sx) ∧ w3.cell? ⟨w.heap.size, 1, none⟩ = some (.slice Px lx kx) ∧ w3.cell? ⟨w.heap.size, 2, none⟩ = some (.bool tx) ∧ w3.cell? ⟨w.heap.size, 3, none⟩ = some (.slice Qx mx dx) := ⟨(Bx.out.ext (hy2.out.trans hy3.out)).c 0, (Bx.out.ext (hy2.out.trans hy3.out)).c 1, (Bx.out.ext (hy2.out.trans hy3.out)).c 2, (Bx.out.ext (hy2.out.trans hy3.out)).c 3⟩)
    | ((go_at_call 30); (with_reducible refine (sign_is (v := 0) (Gy.out.ext X3.out) (by omega) hs.out).mono ?_); rintro E4 w4 ⟨rfl, hr4⟩; have X4 := hid (X3.out.trans hr4); have hy4 := hid hr4; clear hr4; obtain ⟨f5_0, f5_1, f5_2, f5_3⟩ : w4.cell? ⟨w.heap.size, 0, none⟩ = some (.bool sx) ∧ w4.cell? ⟨w.heap.size, 1, none⟩ = some (.slice Px lx kx) ∧ w4.cell? ⟨w.heap.size, 2, none⟩ = some (.bool tx) ∧ w4.cell? ⟨w.heap.size, 3, none⟩ = some (.slice Qx mx dx) := ⟨(Bx.out.ext ((hy2.out.trans hy3.out).trans hy4.out)).c 0, (Bx.out.ext ((hy2.out.trans hy3.out).trans hy4.out)).c 1, (Bx.out.ext ((hy2.out.trans hy3.out).trans hy4.out)).c 2, (Bx.out.ext ((hy2.out.trans hy3.out).trans hy4.out)).c 3⟩))
  clear f2_0 f2_1 f2_2 f2_3 f3_0 f3_1 f3_2 f3_3 f4_0 f4_1 f4_2 f4_3 f5_0 f5_1 f5_2 f5_3
  go_ret
  exact ⟨rfl, X4.out⟩

set_option maxHeartbeats 6400000 in
set_option maxRecDepth 100000 in
theorem rmay_one {w : World} {sx tx : Bool} {Px Qx : Option Addr} {lx kx mx dx : Nat} {K : Nat} {N D : Int} (gx : Iz K w sx Px lx kx N) (gy : Iz K w tx Qx mx dx D) (hn : ∀ W, Ext w W → Calls Try.prog 53 #[.agg #[.bool sx, .slice Px lx kx]] W (RetE (.bool true) W)) (hd : ∀ W, Ext w W → Calls Try.prog 53 #[.agg #[.bool tx, .slice Qx mx dx]] W (RetE (.bool true) W)) (hK : K ≤ 10000000) (h0 : 0 < D) (h1 : Nat.gcd N.natAbs D.natAbs = 1) :
    Calls Try.prog 21 #[.agg #[.bool sx, .slice Px lx kx, .bool tx, .slice Qx mx dx]] w (RetE (.bool true) w) := by
  have hs := hid (sg_pos h0)
  have Gx := hid gx
  have Gy := hid gy
  have hg := hid (show sg (((Nat.gcd N.natAbs D.natAbs : Nat) : Int) - 1) = 0 by rw [h1]; rfl)
  have Hn := hid hn
  have Hd := hid hd
  clear hn hd
  clear gx gy h0 h1
  go_enter Try.func21, Try.ntmps21
  go_upto_region 1 with fail
  have hy1 := hid ((Ext.refl w).alloc (.cells #[.bool sx, .slice Px lx kx, .bool tx, .slice Qx mx dx] 27))
  have Bx_ := (Bk.new w 27 #[.bool sx, .slice Px lx kx, .bool tx, .slice Qx mx dx])
  have Bx := hid Bx_
  clear Bx_
  generalize (w.alloc (.cells #[.bool sx, .slice Px lx kx, .bool tx, .slice Qx mx dx] 27)) = w1 at *
  have X1 := hid ((Ext.refl _).trans hy1.out)
  obtain ⟨f2_0, f2_1, f2_2, f2_3⟩ : w1.cell? ⟨w.heap.size, 0, none⟩ = some (.bool sx) ∧ w1.cell? ⟨w.heap.size, 1, none⟩ = some (.slice Px lx kx) ∧ w1.cell? ⟨w.heap.size, 2, none⟩ = some (.bool tx) ∧ w1.cell? ⟨w.heap.size, 3, none⟩ = some (.slice Qx mx dx) := ⟨Bx.out.c 0, Bx.out.c 1, Bx.out.c 2, Bx.out.c 3⟩
  go_wp2_with (first
    | ((go_at_call 53); (with_reducible refine (Hn.out _ X1.out).mono ?_); rintro E2 w2 ⟨rfl, hr2⟩; have X2 := hid (X1.out.trans hr2); have hy2 := hid hr2; clear hr2; obtain ⟨f3_0, f3_1, f3_2, f3_3⟩ : w2.cell? ⟨w.heap.size, 0, none⟩ = some (.bool sx) ∧ w2.cell? ⟨w.heap.size, 1, none⟩ = some (.slice Px lx kx) ∧ w2.cell? ⟨w.heap.size, 2, none⟩ = some (.bool tx) ∧ w2.cell? ⟨w.heap.size, 3, none⟩ = some (.slice Qx mx dx) := ⟨(Bx.out.ext hy2.out).c 0, (Bx.out.ext hy2.out).c 1, (Bx.out.ext hy2.out).c 2, (Bx.out.ext hy2.out).c 3⟩)
    | ((go_at_call 53); (with_reducible refine (Hd.out _ X2.out).mono ?_); rintro E3 w3 ⟨rfl, hr3⟩; have X3 := hid (X2.out.trans hr3); have hy3 := hid hr3; clear hr3; obtain ⟨f4_0, f4_1, f4_2, f4_3⟩ : w3.cell? ⟨w.heap.size, 0, none⟩ = some (.bool sx) ∧ w3.cell? ⟨w.heap.size, 1, none⟩ = some (.slice Px lx kx) ∧ w3.cell? ⟨w.heap.size, 2, none⟩ = some (.bool tx) ∧ w3.cell? ⟨w.heap.size, 3, none⟩ = some (.slice Qx mx dx) := ⟨(Bx.out.ext (hy2.out.trans hy3.out)).c 0, (Bx.out.ext (hy2.out.trans hy3.out)).c 1, (Bx.out.ext (hy2.out.trans hy3.out)).c 2, (Bx.out.ext (hy2.out.trans hy3.out)).c 3⟩)
    | ((go_at_call 30); (with_reducible refine (sign_is (v := 1) (Gy.out.ext X3.out) (by omega) hs.out).mono ?_); rintro E4 w4 ⟨rfl, hr4⟩; have X4 := hid (X3.out.trans hr4); have hy4 := hid hr4; clear hr4; obtain ⟨f5_0, f5_1, f5_2, f5_3⟩ : w4.cell? ⟨w.heap.size, 0, none⟩ = some (.bool sx) ∧ w4.cell? ⟨w.heap.size, 1, none⟩ = some (.slice Px lx kx) ∧ w4.cell? ⟨w.heap.size, 2, none⟩ = some (.bool tx) ∧ w4.cell? ⟨w.heap.size, 3, none⟩ = some (.slice Qx mx dx) := ⟨(Bx.out.ext ((hy2.out.trans hy3.out).trans hy4.out)).c 0, (Bx.out.ext ((hy2.out.trans hy3.out).trans hy4.out)).c 1, (Bx.out.ext ((hy2.out.trans hy3.out).trans hy4.out)).c 2, (Bx.out.ext ((hy2.out.trans hy3.out).trans hy4.out)).c 3⟩)
    | ((go_at_call 31); (with_reducible refine (wgcd_v (Gx.out.ext X4.out) (Gy.out.ext X4.out) (by omega)).mono ?_); rintro E5 w5 ⟨b5, A5, n5, c5, rfl, o5, hr5⟩; have X5 := hid (X4.out.trans hr5); have hy5 := hid hr5; clear hr5; have O5 := hid (o5.mono X4.out.size); clear o5; obtain ⟨f6_0, f6_1, f6_2, f6_3⟩ : w5.cell? ⟨w.heap.size, 0, none⟩ = some (.bool sx) ∧ w5.cell? ⟨w.heap.size, 1, none⟩ = some (.slice Px lx kx) ∧ w5.cell? ⟨w.heap.size, 2, none⟩ = some (.bool tx) ∧ w5.cell? ⟨w.heap.size, 3, none⟩ = some (.slice Qx mx dx) := ⟨(Bx.out.ext (((hy2.out.trans hy3.out).trans hy4.out).trans hy5.out)).c 0, (Bx.out.ext (((hy2.out.trans hy3.out).trans hy4.out).trans hy5.out)).c 1, (Bx.out.ext (((hy2.out.trans hy3.out).trans hy4.out).trans hy5.out)).c 2, (Bx.out.ext (((hy2.out.trans hy3.out).trans hy4.out).trans hy5.out)).c 3⟩)
    | ((go_at_call 52); (with_reducible refine (rone_v).mono ?_); rintro E6 w6 ⟨b6, A6, n6, c6, rfl, o6, hr6⟩; have X6 := hid (X5.out.trans hr6); have hy6 := hid hr6; clear hr6; have O6 := hid (o6.mono X5.out.size); clear o6; obtain ⟨f7_0, f7_1, f7_2, f7_3⟩ : w6.cell? ⟨w.heap.size, 0, none⟩ = some (.bool sx) ∧ w6.cell? ⟨w.heap.size, 1, none⟩ = some (.slice Px lx kx) ∧ w6.cell? ⟨w.heap.size, 2, none⟩ = some (.bool tx) ∧ w6.cell? ⟨w.heap.size, 3, none⟩ = some (.slice Qx mx dx) := ⟨(Bx.out.ext ((((hy2.out.trans hy3.out).trans hy4.out).trans hy5.out).trans hy6.out)).c 0, (Bx.out.ext ((((hy2.out.trans hy3.out).trans hy4.out).trans hy5.out).trans hy6.out)).c 1, (Bx.out.ext ((((hy2.out.trans hy3.out).trans hy4.out).trans hy5.out).trans hy6.out)).c 2, (Bx.out.ext ((((hy2.out.trans hy3.out).trans hy4.out).trans hy5.out).trans hy6.out)).c 3⟩)
    | ((go_at_call 51); (with_reducible refine (wcmp_is (v := 0) (O5.out.ext hy6.out).iz O6.out.iz (by omega) hg.out).mono ?_); rintro E7 w7 ⟨rfl, hr7⟩; have X7 := hid (X6.out.trans hr7); have hy7 := hid hr7; clear hr7; obtain ⟨f8_0, f8_1, f8_2, f8_3⟩ : w7.cell? ⟨w.heap.size, 0, none⟩ = some (.bool sx) ∧ w7.cell? ⟨w.heap.size, 1, none⟩ = some (.slice Px lx kx) ∧ w7.cell? ⟨w.heap.size, 2, none⟩ = some (.bool tx) ∧ w7.cell? ⟨w.heap.size, 3, none⟩ = some (.slice Qx mx dx) := ⟨(Bx.out.ext (((((hy2.out.trans hy3.out).trans hy4.out).trans hy5.out).trans hy6.out).trans hy7.out)).c 0, (Bx.out.ext (((((hy2.out.trans hy3.out).trans hy4.out).trans hy5.out).trans hy6.out).trans hy7.out)).c 1, (Bx.out.ext (((((hy2.out.trans hy3.out).trans hy4.out).trans hy5.out).trans hy6.out).trans hy7.out)).c 2, (Bx.out.ext (((((hy2.out.trans hy3.out).trans hy4.out).trans hy5.out).trans hy6.out).trans hy7.out)).c 3⟩))
  clear f2_0 f2_1 f2_2 f2_3 f3_0 f3_1 f3_2 f3_3 f4_0 f4_1 f4_2 f4_3 f5_0 f5_1 f5_2 f5_3 f6_0 f6_1 f6_2 f6_3 f7_0 f7_1 f7_2 f7_3 f8_0 f8_1 f8_2 f8_3
  go_ret
  exact ⟨rfl, X7.out⟩

set_option maxHeartbeats 6400000 in
set_option maxRecDepth 100000 in
theorem rmay_more {w : World} {sx tx : Bool} {Px Qx : Option Addr} {lx kx mx dx : Nat} {K : Nat} {N D : Int} (gx : Iz K w sx Px lx kx N) (gy : Iz K w tx Qx mx dx D) (hn : ∀ W, Ext w W → Calls Try.prog 53 #[.agg #[.bool sx, .slice Px lx kx]] W (RetE (.bool true) W)) (hd : ∀ W, Ext w W → Calls Try.prog 53 #[.agg #[.bool tx, .slice Qx mx dx]] W (RetE (.bool true) W)) (hK : K ≤ 10000000) (h0 : 0 < D) (h1 : Nat.gcd N.natAbs D.natAbs ≠ 1) :
    Calls Try.prog 21 #[.agg #[.bool sx, .slice Px lx kx, .bool tx, .slice Qx mx dx]] w (RetE (.bool false) w) := by
  have hs := hid (sg_pos h0)
  have Gx := hid gx
  have Gy := hid gy
  have hg := hid (show sg (((Nat.gcd N.natAbs D.natAbs : Nat) : Int) - 1) = 1 by
    have := Nat.gcd_pos_of_pos_right N.natAbs (show 0 < D.natAbs by omega)
    exact sg_pos (by omega))
  have Hn := hid hn
  have Hd := hid hd
  clear hn hd
  clear gx gy h0 h1
  go_enter Try.func21, Try.ntmps21
  go_upto_region 1 with fail
  have hy1 := hid ((Ext.refl w).alloc (.cells #[.bool sx, .slice Px lx kx, .bool tx, .slice Qx mx dx] 27))
  have Bx_ := (Bk.new w 27 #[.bool sx, .slice Px lx kx, .bool tx, .slice Qx mx dx])
  have Bx := hid Bx_
  clear Bx_
  generalize (w.alloc (.cells #[.bool sx, .slice Px lx kx, .bool tx, .slice Qx mx dx] 27)) = w1 at *
  have X1 := hid ((Ext.refl _).trans hy1.out)
  obtain ⟨f2_0, f2_1, f2_2, f2_3⟩ : w1.cell? ⟨w.heap.size, 0, none⟩ = some (.bool sx) ∧ w1.cell? ⟨w.heap.size, 1, none⟩ = some (.slice Px lx kx) ∧ w1.cell? ⟨w.heap.size, 2, none⟩ = some (.bool tx) ∧ w1.cell? ⟨w.heap.size, 3, none⟩ = some (.slice Qx mx dx) := ⟨Bx.out.c 0, Bx.out.c 1, Bx.out.c 2, Bx.out.c 3⟩
  go_wp2_with (first
    | ((go_at_call 53); (with_reducible refine (Hn.out _ X1.out).mono ?_); rintro E2 w2 ⟨rfl, hr2⟩; have X2 := hid (X1.out.trans hr2); have hy2 := hid hr2; clear hr2; obtain ⟨f3_0, f3_1, f3_2, f3_3⟩ : w2.cell? ⟨w.heap.size, 0, none⟩ = some (.bool sx) ∧ w2.cell? ⟨w.heap.size, 1, none⟩ = some (.slice Px lx kx) ∧ w2.cell? ⟨w.heap.size, 2, none⟩ = some (.bool tx) ∧ w2.cell? ⟨w.heap.size, 3, none⟩ = some (.slice Qx mx dx) := ⟨(Bx.out.ext hy2.out).c 0, (Bx.out.ext hy2.out).c 1, (Bx.out.ext hy2.out).c 2, (Bx.out.ext hy2.out).c 3⟩)
    | ((go_at_call 53); (with_reducible refine (Hd.out _ X2.out).mono ?_); rintro E3 w3 ⟨rfl, hr3⟩; have X3 := hid (X2.out.trans hr3); have hy3 := hid hr3; clear hr3; obtain ⟨f4_0, f4_1, f4_2, f4_3⟩ : w3.cell? ⟨w.heap.size, 0, none⟩ = some (.bool sx) ∧ w3.cell? ⟨w.heap.size, 1, none⟩ = some (.slice Px lx kx) ∧ w3.cell? ⟨w.heap.size, 2, none⟩ = some (.bool tx) ∧ w3.cell? ⟨w.heap.size, 3, none⟩ = some (.slice Qx mx dx) := ⟨(Bx.out.ext (hy2.out.trans hy3.out)).c 0, (Bx.out.ext (hy2.out.trans hy3.out)).c 1, (Bx.out.ext (hy2.out.trans hy3.out)).c 2, (Bx.out.ext (hy2.out.trans hy3.out)).c 3⟩)
    | ((go_at_call 30); (with_reducible refine (sign_is (v := 1) (Gy.out.ext X3.out) (by omega) hs.out).mono ?_); rintro E4 w4 ⟨rfl, hr4⟩; have X4 := hid (X3.out.trans hr4); have hy4 := hid hr4; clear hr4; obtain ⟨f5_0, f5_1, f5_2, f5_3⟩ : w4.cell? ⟨w.heap.size, 0, none⟩ = some (.bool sx) ∧ w4.cell? ⟨w.heap.size, 1, none⟩ = some (.slice Px lx kx) ∧ w4.cell? ⟨w.heap.size, 2, none⟩ = some (.bool tx) ∧ w4.cell? ⟨w.heap.size, 3, none⟩ = some (.slice Qx mx dx) := ⟨(Bx.out.ext ((hy2.out.trans hy3.out).trans hy4.out)).c 0, (Bx.out.ext ((hy2.out.trans hy3.out).trans hy4.out)).c 1, (Bx.out.ext ((hy2.out.trans hy3.out).trans hy4.out)).c 2, (Bx.out.ext ((hy2.out.trans hy3.out).trans hy4.out)).c 3⟩)
    | ((go_at_call 31); (with_reducible refine (wgcd_v (Gx.out.ext X4.out) (Gy.out.ext X4.out) (by omega)).mono ?_); rintro E5 w5 ⟨b5, A5, n5, c5, rfl, o5, hr5⟩; have X5 := hid (X4.out.trans hr5); have hy5 := hid hr5; clear hr5; have O5 := hid (o5.mono X4.out.size); clear o5; obtain ⟨f6_0, f6_1, f6_2, f6_3⟩ : w5.cell? ⟨w.heap.size, 0, none⟩ = some (.bool sx) ∧ w5.cell? ⟨w.heap.size, 1, none⟩ = some (.slice Px lx kx) ∧ w5.cell? ⟨w.heap.size, 2, none⟩ = some (.bool tx) ∧ w5.cell? ⟨w.heap.size, 3, none⟩ = some (.slice Qx mx dx) := ⟨(Bx.out.ext (((hy2.out.trans hy3.out).trans hy4.out).trans hy5.out)).c 0, (Bx.out.ext (((hy2.out.trans hy3.out).trans hy4.out).trans hy5.out)).c 1, (Bx.out.ext (((hy2.out.trans hy3.out).trans hy4.out).trans hy5.out)).c 2, (Bx.out.ext (((hy2.out.trans hy3.out).trans hy4.out).trans hy5.out)).c 3⟩)
    | ((go_at_call 52); (with_reducible refine (rone_v).mono ?_); rintro E6 w6 ⟨b6, A6, n6, c6, rfl, o6, hr6⟩; have X6 := hid (X5.out.trans hr6); have hy6 := hid hr6; clear hr6; have O6 := hid (o6.mono X5.out.size); clear o6; obtain ⟨f7_0, f7_1, f7_2, f7_3⟩ : w6.cell? ⟨w.heap.size, 0, none⟩ = some (.bool sx) ∧ w6.cell? ⟨w.heap.size, 1, none⟩ = some (.slice Px lx kx) ∧ w6.cell? ⟨w.heap.size, 2, none⟩ = some (.bool tx) ∧ w6.cell? ⟨w.heap.size, 3, none⟩ = some (.slice Qx mx dx) := ⟨(Bx.out.ext ((((hy2.out.trans hy3.out).trans hy4.out).trans hy5.out).trans hy6.out)).c 0, (Bx.out.ext ((((hy2.out.trans hy3.out).trans hy4.out).trans hy5.out).trans hy6.out)).c 1, (Bx.out.ext ((((hy2.out.trans hy3.out).trans hy4.out).trans hy5.out).trans hy6.out)).c 2, (Bx.out.ext ((((hy2.out.trans hy3.out).trans hy4.out).trans hy5.out).trans hy6.out)).c 3⟩)
    | ((go_at_call 51); (with_reducible refine (wcmp_is (v := 1) (O5.out.ext hy6.out).iz O6.out.iz (by omega) hg.out).mono ?_); rintro E7 w7 ⟨rfl, hr7⟩; have X7 := hid (X6.out.trans hr7); have hy7 := hid hr7; clear hr7; obtain ⟨f8_0, f8_1, f8_2, f8_3⟩ : w7.cell? ⟨w.heap.size, 0, none⟩ = some (.bool sx) ∧ w7.cell? ⟨w.heap.size, 1, none⟩ = some (.slice Px lx kx) ∧ w7.cell? ⟨w.heap.size, 2, none⟩ = some (.bool tx) ∧ w7.cell? ⟨w.heap.size, 3, none⟩ = some (.slice Qx mx dx) := ⟨(Bx.out.ext (((((hy2.out.trans hy3.out).trans hy4.out).trans hy5.out).trans hy6.out).trans hy7.out)).c 0, (Bx.out.ext (((((hy2.out.trans hy3.out).trans hy4.out).trans hy5.out).trans hy6.out).trans hy7.out)).c 1, (Bx.out.ext (((((hy2.out.trans hy3.out).trans hy4.out).trans hy5.out).trans hy6.out).trans hy7.out)).c 2, (Bx.out.ext (((((hy2.out.trans hy3.out).trans hy4.out).trans hy5.out).trans hy6.out).trans hy7.out)).c 3⟩))
  clear f2_0 f2_1 f2_2 f2_3 f3_0 f3_1 f3_2 f3_3 f4_0 f4_1 f4_2 f4_3 f5_0 f5_1 f5_2 f5_3 f6_0 f6_1 f6_2 f6_3 f7_0 f7_1 f7_2 f7_3 f8_0 f8_1 f8_2 f8_3
  go_ret
  exact ⟨rfl, X7.out⟩

theorem rmay_ci {w : World} {sx tx : Bool} {Px Qx : Option Addr} {lx kx mx dx : Nat} {K lo lo' : Nat} {N D : Int} (hx : Ci K w lo sx Px lx kx N) (hy : Ci K w lo' tx Qx mx dx D) (hK : K ≤ 10000000) (h0 : 0 < D) (h1 : Nat.gcd N.natAbs D.natAbs = 1) :
    Calls Try.prog 21 #[.agg #[.bool sx, .slice Px lx kx, .bool tx, .slice Qx mx dx]] w (RetE (.bool true) w) :=
  rmay_one hx.iz hy.iz (fun _ hW => may_c (hx.ext hW) (by omega)) (fun _ hW => may_c (hy.ext hW) (by omega)) hK h0 h1
theorem rmay_no {w : World} {sx tx : Bool} {Px Qx : Option Addr} {lx kx mx dx : Nat} {K lo lo' : Nat} {N D : Int} (hx : Ci K w lo sx Px lx kx N) (hy : Ci K w lo' tx Qx mx dx D) (hK : K ≤ 10000000) (h0 : ¬ (0 < D ∧ Nat.gcd N.natAbs D.natAbs = 1)) :
    Calls Try.prog 21 #[.agg #[.bool sx, .slice Px lx kx, .bool tx, .slice Qx mx dx]] w (RetE (.bool false) w) := by
  have hn : ∀ W, Ext w W → Calls Try.prog 53 #[.agg #[.bool sx, .slice Px lx kx]] W (RetE (.bool true) W) := fun _ hW => may_c (hx.ext hW) (by omega)
  have hd : ∀ W, Ext w W → Calls Try.prog 53 #[.agg #[.bool tx, .slice Qx mx dx]] W (RetE (.bool true) W) := fun _ hW => may_c (hy.ext hW) (by omega)
  by_cases h1 : 0 < D
  · exact rmay_more hx.iz hy.iz hn hd hK h1 (fun e => h0 ⟨h1, e⟩)
  · by_cases h2 : D = 0
    · exact rmay_zero hx.iz hy.iz hn hd hK h2
    · exact rmay_neg hx.iz hy.iz hn hd hK (by omega)
theorem rmay_rc {w : World} {sx tx : Bool} {Px Qx : Option Addr} {lx kx mx dx : Nat} {K lo : Nat} {x : Rat} (hx : Rc K w lo sx Px lx kx tx Qx mx dx x) (hK : K ≤ 10000000) : Calls Try.prog 21 #[.agg #[.bool sx, .slice Px lx kx, .bool tx, .slice Qx mx dx]] w (RetE (.bool true) w) :=
  rmay_ci hx.nu hx.de hK (den_pos x) (by rw [Int.natAbs_natCast]; exact x.reduced)
theorem Rv.mk {K : Nat} {w : World} {s t : Bool} {A B : Option Addr} {n c m d : Nat} {N D : Int} {r : Rat} (h1 : Iz K w s A n c N) (h2 : Iz K w t B m d D) (e : r = (N : Rat) / (dn D : Rat)) : Rv K w s A n c t B m d r := ⟨N, D, h1, h2, e⟩
/-- The parts of a number are not greater than those that it was told by. -/
theorem Rv.bound {K : Nat} {w : World} {s t : Bool} {A B : Option Addr} {n c m d : Nat} {r : Rat} (h : Rv K w s A n c t B m d r) : r.num.natAbs < 4294967296 ^ K ∧ r.den < 4294967296 ^ (K + 1) := by
  obtain ⟨N, D, h1, h2, rfl⟩ := h
  obtain ⟨e1, e2⟩ := rat_parts (N := N) (D := dn D) (dn_ne D)
  have b1 := h1.bound
  have b2 := h2.bound
  have f1 := fn_abs N (dn D)
  have f2 := fd_abs N (dn D)
  rw [← e1] at f1
  rw [← e2, Int.natAbs_natCast] at f2
  rw [f1, f2]
  have hp := Nat.pow_pos (a := 4294967296) (n := K) (by omega)
  refine ⟨Nat.lt_of_le_of_lt (Nat.div_le_self _ _) b1, Nat.lt_of_le_of_lt (Nat.div_le_self _ _) ?_⟩
  rw [Nat.pow_succ]
  unfold dn
  split
  · show 1 < _
    omega
  · omega
theorem tx_size {z : Int} {K : Nat} (h : z.natAbs < 4294967296 ^ K) : (bts (tx z)).size ≤ 10 * K + 1 := by
  rw [bts_len]
  have := tx_len z
  have := (nd_len_le (b := 10) (by omega)).2 (Nat.lt_of_lt_of_le h (pow_10_32 K))
  omega
theorem bts_app6 (a b : List Nat) : bts a ++ bts b = bts (a ++ b) := by
  apply ByteArray.ext
  rw [ByteArray.data_append]
  simp [bts]
theorem text_is6 {w : World} {s : Bool} {A : Option Addr} {n c K : Nat} {z : Int} {t : ByteArray} (h : Iz K w s A n c z) (hK : K ≤ 100000) (ht : bts (tx z) = t) :
    Calls Try.prog 50 #[.agg #[.bool s, .slice A n c]] w (RetE (.string t) w) := ht ▸ text_v h hK
set_option maxHeartbeats 6400000 in
set_option maxRecDepth 100000 in
theorem rtext_whole {w : World} {sx tx : Bool} {Px Qx : Option Addr} {lx kx mx dx : Nat} {K : Nat} {x : Rat} (hx : Rv K w sx Px lx kx tx Qx mx dx x) (hK : K ≤ 90000) (h0 : x.den = 1) :
    Calls Try.prog 20 #[.agg #[.bool sx, .slice Px lx kx, .bool tx, .slice Qx mx dx]] w (RetE (.string (bts (txr x))) w) := by
  have hb := hx.bound
  have hl1 := tx_size hb.1
  have hl2 := tx_size (z := (x.den : Int)) (K := K + 1) (by rw [Int.natAbs_natCast]; exact hb.2)
  obtain ⟨T, hT⟩ : ∃ T, bts (Go.Proofs.Ytikkibpjchmajaa.tx x.num) = T := ⟨_, rfl⟩
  have HT := hid hT
  have HR : Hid (bts (txr x) = T) := by show _ = _; rw [txr_whole h0, hT]
  have hs := hid (show sg ((x.den : Int) - 1) = 0 by rw [h0]; rfl)
  clear h0 hb hl1 hl2 hT
  have Hx := hid hx
  clear hx
  go_enter Try.func20, Try.ntmps20
  go_upto_region 1 with fail
  have hy1 := hid ((Ext.refl w).alloc (.cells #[.bool sx, .slice Px lx kx, .bool tx, .slice Qx mx dx] 27))
  have Bx_ := (Bk.new w 27 #[.bool sx, .slice Px lx kx, .bool tx, .slice Qx mx dx])
  have Bx := hid Bx_
  clear Bx_
  generalize (w.alloc (.cells #[.bool sx, .slice Px lx kx, .bool tx, .slice Qx mx dx] 27)) = w1 at *
  have X1 := hid ((Ext.refl _).trans hy1.out)
  obtain ⟨f2_0, f2_1, f2_2, f2_3, f2_4, f2_5, f2_6, f2_7⟩ : w1.cell? ⟨w.heap.size, 0, none⟩ = some (.bool sx) ∧ w1.cell? ⟨w.heap.size, 1, none⟩ = some (.slice Px lx kx) ∧ w1.cell? ⟨w.heap.size, 2, none⟩ = some (.bool tx) ∧ w1.cell? ⟨w.heap.size, 3, none⟩ = some (.slice Qx mx dx) ∧ w1.frozen? ⟨w.heap.size, 0, none⟩ = false ∧ w1.frozen? ⟨w.heap.size, 1, none⟩ = false ∧ w1.frozen? ⟨w.heap.size, 2, none⟩ = false ∧ w1.frozen? ⟨w.heap.size, 3, none⟩ = false := ⟨Bx.out.c 0, Bx.out.c 1, Bx.out.c 2, Bx.out.c 3, Bx.out.fr 0, Bx.out.fr 1, Bx.out.fr 2, Bx.out.fr 3⟩
  go_upto_region 2 with (first
    | ((go_at_call 49); (with_reducible refine (rput_v (Hx.out.ext X1.out) (by omega)).mono ?_); rintro E2 w2 ⟨b2, A2, n2, c2, e2, B2, m2, d2, rfl, o2, hr2⟩; have X2 := hid (X1.out.trans hr2); have hy2 := hid hr2; clear hr2; have O2 := hid (o2.mono X1.out.size); clear o2; obtain ⟨f3_0, f3_1, f3_2, f3_3, f3_4, f3_5, f3_6, f3_7⟩ : w2.cell? ⟨w.heap.size, 0, none⟩ = some (.bool sx) ∧ w2.cell? ⟨w.heap.size, 1, none⟩ = some (.slice Px lx kx) ∧ w2.cell? ⟨w.heap.size, 2, none⟩ = some (.bool tx) ∧ w2.cell? ⟨w.heap.size, 3, none⟩ = some (.slice Qx mx dx) ∧ w2.frozen? ⟨w.heap.size, 0, none⟩ = false ∧ w2.frozen? ⟨w.heap.size, 1, none⟩ = false ∧ w2.frozen? ⟨w.heap.size, 2, none⟩ = false ∧ w2.frozen? ⟨w.heap.size, 3, none⟩ = false := ⟨(Bx.out.ext hy2.out).c 0, (Bx.out.ext hy2.out).c 1, (Bx.out.ext hy2.out).c 2, (Bx.out.ext hy2.out).c 3, (Bx.out.ext hy2.out).fr 0, (Bx.out.ext hy2.out).fr 1, (Bx.out.ext hy2.out).fr 2, (Bx.out.ext hy2.out).fr 3⟩))
  clear f2_0 f2_1 f2_2 f2_3 f2_4 f2_5 f2_6 f2_7 f3_0 f3_1 f3_2 f3_3 f3_4 f3_5 f3_6 f3_7
  have HG3 := hid (show w2.grownBy ((((w2.setCell ⟨w.heap.size, 0, none⟩ (.bool b2)).setCell ⟨w.heap.size, 1, none⟩ (.slice A2 n2 c2)).setCell ⟨w.heap.size, 2, none⟩ (.bool e2)).setCell ⟨w.heap.size, 3, none⟩ (.slice B2 m2 d2)) (some (w.heap.size)) from gb4 w2 (w.heap.size) (.bool b2) (.slice A2 n2 c2) (.bool e2) (.slice B2 m2 d2))
  have HO3 := hid (Bx.out.ext hy2.out)
  have HP3 := hid (show Bk 27 ((((w2.setCell ⟨w.heap.size, 0, none⟩ (.bool b2)).setCell ⟨w.heap.size, 1, none⟩ (.slice A2 n2 c2)).setCell ⟨w.heap.size, 2, none⟩ (.bool e2)).setCell ⟨w.heap.size, 3, none⟩ (.slice B2 m2 d2)) (w.heap.size) #[.bool b2, .slice A2 n2 c2, .bool e2, .slice B2 m2 d2] from (Bx.out.ext hy2.out).put4 (.bool b2) (.slice A2 n2 c2) (.bool e2) (.slice B2 m2 d2))
  generalize ((((w2.setCell ⟨w.heap.size, 0, none⟩ (.bool b2)).setCell ⟨w.heap.size, 1, none⟩ (.slice A2 n2 c2)).setCell ⟨w.heap.size, 2, none⟩ (.bool e2)).setCell ⟨w.heap.size, 3, none⟩ (.slice B2 m2 d2)) = w3 at *
  have X3 := hid (X2.out.gb HG3.out (by omega))
  obtain ⟨f4_0, f4_1, f4_2, f4_3⟩ : w3.cell? ⟨w.heap.size, 0, none⟩ = some (.bool b2) ∧ w3.cell? ⟨w.heap.size, 1, none⟩ = some (.slice A2 n2 c2) ∧ w3.cell? ⟨w.heap.size, 2, none⟩ = some (.bool e2) ∧ w3.cell? ⟨w.heap.size, 3, none⟩ = some (.slice B2 m2 d2) := ⟨HP3.out.c 0, HP3.out.c 1, HP3.out.c 2, HP3.out.c 3⟩
  go_upto_region 3 with (first
    | ((go_at_call 50); (with_reducible refine (text_is6 (O2.out.gbk HO3.out (by decide) HG3.out).nu.iz (by omega) HT.out).mono ?_); rintro E4 w4 ⟨rfl, hr4⟩; have X4 := hid (X3.out.trans hr4); have hy4 := hid hr4; clear hr4; obtain ⟨f5_0, f5_1, f5_2, f5_3⟩ : w4.cell? ⟨w.heap.size, 0, none⟩ = some (.bool b2) ∧ w4.cell? ⟨w.heap.size, 1, none⟩ = some (.slice A2 n2 c2) ∧ w4.cell? ⟨w.heap.size, 2, none⟩ = some (.bool e2) ∧ w4.cell? ⟨w.heap.size, 3, none⟩ = some (.slice B2 m2 d2) := ⟨(HP3.out.ext hy4.out).c 0, (HP3.out.ext hy4.out).c 1, (HP3.out.ext hy4.out).c 2, (HP3.out.ext hy4.out).c 3⟩))
  clear f4_0 f4_1 f4_2 f4_3 f5_0 f5_1 f5_2 f5_3
  refine wp_region_held_drew (S := fun w' => Ext w w' ∧ Bk 27 w' (w.heap.size) #[.bool b2, .slice A2 n2 c2, .bool e2, .slice B2 m2 d2]) (by kernel_rfl) ⟨(X4.out.trans (Ext.refl _).drew), (HP3.out.ext (hy4.out.trans (Ext.refl _).drew))⟩ (fun hS0 => ?_)
  change wpAnyH _ _ _ _ _ 5 #[false, false, false, false, false] _ _
  refine drawn_free 0 9 (v := ?v0_1) (.fieldAddr 27 (.tmp 1) 1) (by kernel_rfl) ?hy0_1 (by kernel_rfl) (by kernel_rfl) (by kernel_rfl) (fun _ _ _ _ h => h) hS0 ?hr0_1
  case hy0_1 => (intro o ho w' hS; unfold execOp; simp only [ho]; go_simp; try with_reducible rfl)
  simp only [Act.put, List.setIfInBounds_toArray, List.set_cons_zero, List.set_cons_succ]
  refine drawn_free 1 10 (v := ?v1_2) (.load 24 (.tmp 9)) (by kernel_rfl) ?hy1_2 (by kernel_rfl) (by kernel_rfl) (by kernel_rfl) (fun _ _ _ _ h => h) hS0 ?hr1_2
  case hy1_2 => (intro o ho w' hS; have c2 : w'.cell? ⟨w.heap.size, 2, none⟩ = some (.bool e2) := hS.2.c 2; have c3 : w'.cell? ⟨w.heap.size, 3, none⟩ = some (.slice B2 m2 d2) := hS.2.c 3; unfold execOp; simp only [ho]; go_simp; try with_reducible rfl)
  simp only [Act.put, List.setIfInBounds_toArray, List.set_cons_zero, List.set_cons_succ]
  refine wpAnyH_ready (rs := [2]) (by kernel_rfl) (by simp) ?_
  refine drawn_call0 2 (some 11)  (by kernel_rfl) (enters_of Try.func52 (by kernel_rfl) rfl)  (rone_v) (fun E v2 hh => ?_) ?_
  · skip
    obtain ⟨b2q, A2q, n2q, c2q, rfl, o2, hx2⟩ := hh
    refine ⟨_, rfl, ⟨((X4.out.trans (Ext.refl _).drew).trans hx2), (HP3.out.ext ((hy4.out.trans (Ext.refl _).drew).trans hx2))⟩, ?_⟩
    simp only [Act.put, List.setIfInBounds_toArray, List.set_cons_zero, List.set_cons_succ]
    refine wpAnyH_ready (rs := [3]) (by kernel_rfl) (by simp) ?_
    refine drawn_call2 3 (some 12) (.tmp 10) (.tmp 11) (ts := #[24, 24]) (by kernel_rfl) (enters_of Try.func51 (by kernel_rfl) rfl) rfl rfl (wcmp_is (v := 0) ((O2.out.gbk HO3.out (by decide) HG3.out).ext ((hy4.out.trans (Ext.refl _).drew).trans hx2)).de.iz (o2.mono (X4.out.trans (Ext.refl _).drew).size).iz (by omega) hs.out) (fun E v3 hh => ?_) ?_
    · skip
      obtain ⟨rfl, hx3⟩ := hh
      refine ⟨_, rfl, ⟨(((X4.out.trans (Ext.refl _).drew).trans hx2).trans hx3), (HP3.out.ext (((hy4.out.trans (Ext.refl _).drew).trans hx2).trans hx3))⟩, ?_⟩
      simp only [Act.put, List.setIfInBounds_toArray, List.set_cons_zero, List.set_cons_succ]
      refine drawn_free 4 13 (v := ?v4_3) (.binOp .eql 3 (.tmp 12) (.const (.int .i64 0)) 3) (by kernel_rfl) ?hy4_3 (by kernel_rfl) (by kernel_rfl) (by kernel_rfl) (fun _ _ _ _ h => h) ⟨(((X4.out.trans (Ext.refl _).drew).trans hx2).trans hx3), (HP3.out.ext (((hy4.out.trans (Ext.refl _).drew).trans hx2).trans hx3))⟩ ?hr4_3
      case hy4_3 => (intro o ho w' hS; unfold execOp; simp only [ho]; go_simp; try with_reducible rfl)
      simp only [Act.put, List.setIfInBounds_toArray, List.set_cons_zero, List.set_cons_succ]
      refine wpAnyH_done (by kernel_rfl) ?_ _
      go_wp2_with fail
      go_ret
      exact ⟨by rw [HR.out]; rfl, (((X4.out.trans (Ext.refl _).drew).trans hx2).trans hx3)⟩
    exact drawn_nil
  exact drawn_nil

set_option maxHeartbeats 6400000 in
set_option maxRecDepth 100000 in
theorem rtext_part {w : World} {sx tx : Bool} {Px Qx : Option Addr} {lx kx mx dx : Nat} {K : Nat} {x : Rat} (hx : Rv K w sx Px lx kx tx Qx mx dx x) (hK : K ≤ 90000) (h0 : x.den ≠ 1) :
    Calls Try.prog 20 #[.agg #[.bool sx, .slice Px lx kx, .bool tx, .slice Qx mx dx]] w (RetE (.string (bts (txr x))) w) := by
  have hb := hx.bound
  have hl1 := tx_size hb.1
  have hl2 := tx_size (z := (x.den : Int)) (K := K + 1) (by rw [Int.natAbs_natCast]; exact hb.2)
  obtain ⟨T, hT⟩ : ∃ T, bts (Go.Proofs.Ytikkibpjchmajaa.tx x.num) = T := ⟨_, rfl⟩
  have HT := hid hT
  obtain ⟨U, hU⟩ : ∃ U, bts (Go.Proofs.Ytikkibpjchmajaa.tx (x.den : Int)) = U := ⟨_, rfl⟩
  have HU := hid hU
  have HR : Hid (bts (txr x) = T ++ ByteArray.mk #[47] ++ U) := by
    show _ = _
    rw [txr_part h0, ← hT, ← hU, show Go.Proofs.Ytikkibpjchmajaa.tx x.num ++ 47 :: Go.Proofs.Ytikkibpjchmajaa.tx (x.den : Int) = Go.Proofs.Ytikkibpjchmajaa.tx x.num ++ [47] ++ Go.Proofs.Ytikkibpjchmajaa.tx (x.den : Int) by simp, ← bts_app6, ← bts_app6]
    rfl
  have hs := hid (show sg ((x.den : Int) - 1) = 1 by have := x.den_nz; exact sg_pos (by omega))
  rw [hT] at hl1
  rw [hU] at hl2
  have hsum1 : ¬ 9223372036854775807 < T.size + 1 := by omega
  have hsum2 : ¬ 9223372036854775807 < T.size + 1 + U.size := by omega
  clear h0 hb hl1 hl2 hT hU
  have Hx := hid hx
  clear hx
  go_enter Try.func20, Try.ntmps20
  go_upto_region 1 with fail
  have hy1 := hid ((Ext.refl w).alloc (.cells #[.bool sx, .slice Px lx kx, .bool tx, .slice Qx mx dx] 27))
  have Bx_ := (Bk.new w 27 #[.bool sx, .slice Px lx kx, .bool tx, .slice Qx mx dx])
  have Bx := hid Bx_
  clear Bx_
  generalize (w.alloc (.cells #[.bool sx, .slice Px lx kx, .bool tx, .slice Qx mx dx] 27)) = w1 at *
  have X1 := hid ((Ext.refl _).trans hy1.out)
  obtain ⟨f2_0, f2_1, f2_2, f2_3, f2_4, f2_5, f2_6, f2_7⟩ : w1.cell? ⟨w.heap.size, 0, none⟩ = some (.bool sx) ∧ w1.cell? ⟨w.heap.size, 1, none⟩ = some (.slice Px lx kx) ∧ w1.cell? ⟨w.heap.size, 2, none⟩ = some (.bool tx) ∧ w1.cell? ⟨w.heap.size, 3, none⟩ = some (.slice Qx mx dx) ∧ w1.frozen? ⟨w.heap.size, 0, none⟩ = false ∧ w1.frozen? ⟨w.heap.size, 1, none⟩ = false ∧ w1.frozen? ⟨w.heap.size, 2, none⟩ = false ∧ w1.frozen? ⟨w.heap.size, 3, none⟩ = false := ⟨Bx.out.c 0, Bx.out.c 1, Bx.out.c 2, Bx.out.c 3, Bx.out.fr 0, Bx.out.fr 1, Bx.out.fr 2, Bx.out.fr 3⟩
  go_upto_region 2 with (first
    | ((go_at_call 49); (with_reducible refine (rput_v (Hx.out.ext X1.out) (by omega)).mono ?_); rintro E2 w2 ⟨b2, A2, n2, c2, e2, B2, m2, d2, rfl, o2, hr2⟩; have X2 := hid (X1.out.trans hr2); have hy2 := hid hr2; clear hr2; have O2 := hid (o2.mono X1.out.size); clear o2; obtain ⟨f3_0, f3_1, f3_2, f3_3, f3_4, f3_5, f3_6, f3_7⟩ : w2.cell? ⟨w.heap.size, 0, none⟩ = some (.bool sx) ∧ w2.cell? ⟨w.heap.size, 1, none⟩ = some (.slice Px lx kx) ∧ w2.cell? ⟨w.heap.size, 2, none⟩ = some (.bool tx) ∧ w2.cell? ⟨w.heap.size, 3, none⟩ = some (.slice Qx mx dx) ∧ w2.frozen? ⟨w.heap.size, 0, none⟩ = false ∧ w2.frozen? ⟨w.heap.size, 1, none⟩ = false ∧ w2.frozen? ⟨w.heap.size, 2, none⟩ = false ∧ w2.frozen? ⟨w.heap.size, 3, none⟩ = false := ⟨(Bx.out.ext hy2.out).c 0, (Bx.out.ext hy2.out).c 1, (Bx.out.ext hy2.out).c 2, (Bx.out.ext hy2.out).c 3, (Bx.out.ext hy2.out).fr 0, (Bx.out.ext hy2.out).fr 1, (Bx.out.ext hy2.out).fr 2, (Bx.out.ext hy2.out).fr 3⟩))
  clear f2_0 f2_1 f2_2 f2_3 f2_4 f2_5 f2_6 f2_7 f3_0 f3_1 f3_2 f3_3 f3_4 f3_5 f3_6 f3_7
  have HG3 := hid (show w2.grownBy ((((w2.setCell ⟨w.heap.size, 0, none⟩ (.bool b2)).setCell ⟨w.heap.size, 1, none⟩ (.slice A2 n2 c2)).setCell ⟨w.heap.size, 2, none⟩ (.bool e2)).setCell ⟨w.heap.size, 3, none⟩ (.slice B2 m2 d2)) (some (w.heap.size)) from gb4 w2 (w.heap.size) (.bool b2) (.slice A2 n2 c2) (.bool e2) (.slice B2 m2 d2))
  have HO3 := hid (Bx.out.ext hy2.out)
  have HP3 := hid (show Bk 27 ((((w2.setCell ⟨w.heap.size, 0, none⟩ (.bool b2)).setCell ⟨w.heap.size, 1, none⟩ (.slice A2 n2 c2)).setCell ⟨w.heap.size, 2, none⟩ (.bool e2)).setCell ⟨w.heap.size, 3, none⟩ (.slice B2 m2 d2)) (w.heap.size) #[.bool b2, .slice A2 n2 c2, .bool e2, .slice B2 m2 d2] from (Bx.out.ext hy2.out).put4 (.bool b2) (.slice A2 n2 c2) (.bool e2) (.slice B2 m2 d2))
  generalize ((((w2.setCell ⟨w.heap.size, 0, none⟩ (.bool b2)).setCell ⟨w.heap.size, 1, none⟩ (.slice A2 n2 c2)).setCell ⟨w.heap.size, 2, none⟩ (.bool e2)).setCell ⟨w.heap.size, 3, none⟩ (.slice B2 m2 d2)) = w3 at *
  have X3 := hid (X2.out.gb HG3.out (by omega))
  obtain ⟨f4_0, f4_1, f4_2, f4_3⟩ : w3.cell? ⟨w.heap.size, 0, none⟩ = some (.bool b2) ∧ w3.cell? ⟨w.heap.size, 1, none⟩ = some (.slice A2 n2 c2) ∧ w3.cell? ⟨w.heap.size, 2, none⟩ = some (.bool e2) ∧ w3.cell? ⟨w.heap.size, 3, none⟩ = some (.slice B2 m2 d2) := ⟨HP3.out.c 0, HP3.out.c 1, HP3.out.c 2, HP3.out.c 3⟩
  go_upto_region 3 with (first
    | ((go_at_call 50); (with_reducible refine (text_is6 (O2.out.gbk HO3.out (by decide) HG3.out).nu.iz (by omega) HT.out).mono ?_); rintro E4 w4 ⟨rfl, hr4⟩; have X4 := hid (X3.out.trans hr4); have hy4 := hid hr4; clear hr4; obtain ⟨f5_0, f5_1, f5_2, f5_3⟩ : w4.cell? ⟨w.heap.size, 0, none⟩ = some (.bool b2) ∧ w4.cell? ⟨w.heap.size, 1, none⟩ = some (.slice A2 n2 c2) ∧ w4.cell? ⟨w.heap.size, 2, none⟩ = some (.bool e2) ∧ w4.cell? ⟨w.heap.size, 3, none⟩ = some (.slice B2 m2 d2) := ⟨(HP3.out.ext hy4.out).c 0, (HP3.out.ext hy4.out).c 1, (HP3.out.ext hy4.out).c 2, (HP3.out.ext hy4.out).c 3⟩))
  clear f4_0 f4_1 f4_2 f4_3 f5_0 f5_1 f5_2 f5_3
  refine wp_region_held_drew (S := fun w' => Ext w w' ∧ Bk 27 w' (w.heap.size) #[.bool b2, .slice A2 n2 c2, .bool e2, .slice B2 m2 d2]) (by kernel_rfl) ⟨(X4.out.trans (Ext.refl _).drew), (HP3.out.ext (hy4.out.trans (Ext.refl _).drew))⟩ (fun hS0 => ?_)
  change wpAnyH _ _ _ _ _ 5 #[false, false, false, false, false] _ _
  refine drawn_free 0 9 (v := ?v0_4) (.fieldAddr 27 (.tmp 1) 1) (by kernel_rfl) ?hy0_4 (by kernel_rfl) (by kernel_rfl) (by kernel_rfl) (fun _ _ _ _ h => h) hS0 ?hr0_4
  case hy0_4 => (intro o ho w' hS; unfold execOp; simp only [ho]; go_simp; try with_reducible rfl)
  simp only [Act.put, List.setIfInBounds_toArray, List.set_cons_zero, List.set_cons_succ]
  refine drawn_free 1 10 (v := ?v1_5) (.load 24 (.tmp 9)) (by kernel_rfl) ?hy1_5 (by kernel_rfl) (by kernel_rfl) (by kernel_rfl) (fun _ _ _ _ h => h) hS0 ?hr1_5
  case hy1_5 => (intro o ho w' hS; have c2 : w'.cell? ⟨w.heap.size, 2, none⟩ = some (.bool e2) := hS.2.c 2; have c3 : w'.cell? ⟨w.heap.size, 3, none⟩ = some (.slice B2 m2 d2) := hS.2.c 3; unfold execOp; simp only [ho]; go_simp; try with_reducible rfl)
  simp only [Act.put, List.setIfInBounds_toArray, List.set_cons_zero, List.set_cons_succ]
  refine wpAnyH_ready (rs := [2]) (by kernel_rfl) (by simp) ?_
  refine drawn_call0 2 (some 11)  (by kernel_rfl) (enters_of Try.func52 (by kernel_rfl) rfl)  (rone_v) (fun E v2 hh => ?_) ?_
  · skip
    obtain ⟨b2q, A2q, n2q, c2q, rfl, o2, hx2⟩ := hh
    refine ⟨_, rfl, ⟨((X4.out.trans (Ext.refl _).drew).trans hx2), (HP3.out.ext ((hy4.out.trans (Ext.refl _).drew).trans hx2))⟩, ?_⟩
    simp only [Act.put, List.setIfInBounds_toArray, List.set_cons_zero, List.set_cons_succ]
    refine wpAnyH_ready (rs := [3]) (by kernel_rfl) (by simp) ?_
    refine drawn_call2 3 (some 12) (.tmp 10) (.tmp 11) (ts := #[24, 24]) (by kernel_rfl) (enters_of Try.func51 (by kernel_rfl) rfl) rfl rfl (wcmp_is (v := 1) ((O2.out.gbk HO3.out (by decide) HG3.out).ext ((hy4.out.trans (Ext.refl _).drew).trans hx2)).de.iz (o2.mono (X4.out.trans (Ext.refl _).drew).size).iz (by omega) hs.out) (fun E v3 hh => ?_) ?_
    · skip
      obtain ⟨rfl, hx3⟩ := hh
      refine ⟨_, rfl, ⟨(((X4.out.trans (Ext.refl _).drew).trans hx2).trans hx3), (HP3.out.ext (((hy4.out.trans (Ext.refl _).drew).trans hx2).trans hx3))⟩, ?_⟩
      simp only [Act.put, List.setIfInBounds_toArray, List.set_cons_zero, List.set_cons_succ]
      refine drawn_free 4 13 (v := ?v4_6) (.binOp .eql 3 (.tmp 12) (.const (.int .i64 0)) 3) (by kernel_rfl) ?hy4_6 (by kernel_rfl) (by kernel_rfl) (by kernel_rfl) (fun _ _ _ _ h => h) ⟨(((X4.out.trans (Ext.refl _).drew).trans hx2).trans hx3), (HP3.out.ext (((hy4.out.trans (Ext.refl _).drew).trans hx2).trans hx3))⟩ ?hr4_6
      case hy4_6 => (intro o ho w' hS; unfold execOp; simp only [ho]; go_simp; try with_reducible rfl)
      simp only [Act.put, List.setIfInBounds_toArray, List.set_cons_zero, List.set_cons_succ]
      refine wpAnyH_done (by kernel_rfl) ?_ _
      skip
      obtain ⟨f6_0, f6_1, f6_2, f6_3⟩ : v3.cell? ⟨w.heap.size, 0, none⟩ = some (.bool b2) ∧ v3.cell? ⟨w.heap.size, 1, none⟩ = some (.slice A2 n2 c2) ∧ v3.cell? ⟨w.heap.size, 2, none⟩ = some (.bool e2) ∧ v3.cell? ⟨w.heap.size, 3, none⟩ = some (.slice B2 m2 d2) := ⟨(HP3.out.ext (((hy4.out.trans (Ext.refl _).drew).trans hx2).trans hx3)).c 0, (HP3.out.ext (((hy4.out.trans (Ext.refl _).drew).trans hx2).trans hx3)).c 1, (HP3.out.ext (((hy4.out.trans (Ext.refl _).drew).trans hx2).trans hx3)).c 2, (HP3.out.ext (((hy4.out.trans (Ext.refl _).drew).trans hx2).trans hx3)).c 3⟩
      go_wp2_with (first
        | ((go_at_call 50); (with_reducible refine (text_is6 ((O2.out.gbk HO3.out (by decide) HG3.out).ext (((hy4.out.trans (Ext.refl _).drew).trans hx2).trans hx3)).de.iz (by omega) HU.out).mono ?_); rintro E8 w8 ⟨rfl, hr8⟩; have X8 := hid ((((X4.out.trans (Ext.refl _).drew).trans hx2).trans hx3).trans hr8); have hy8 := hid hr8; clear hr8; obtain ⟨f7_0, f7_1, f7_2, f7_3⟩ : w8.cell? ⟨w.heap.size, 0, none⟩ = some (.bool b2) ∧ w8.cell? ⟨w.heap.size, 1, none⟩ = some (.slice A2 n2 c2) ∧ w8.cell? ⟨w.heap.size, 2, none⟩ = some (.bool e2) ∧ w8.cell? ⟨w.heap.size, 3, none⟩ = some (.slice B2 m2 d2) := ⟨(HP3.out.ext ((((hy4.out.trans (Ext.refl _).drew).trans hx2).trans hx3).trans hy8.out)).c 0, (HP3.out.ext ((((hy4.out.trans (Ext.refl _).drew).trans hx2).trans hx3).trans hy8.out)).c 1, (HP3.out.ext ((((hy4.out.trans (Ext.refl _).drew).trans hx2).trans hx3).trans hy8.out)).c 2, (HP3.out.ext ((((hy4.out.trans (Ext.refl _).drew).trans hx2).trans hx3).trans hy8.out)).c 3⟩))
      clear f6_0 f6_1 f6_2 f6_3 f7_0 f7_1 f7_2 f7_3
      go_ret
      exact ⟨by rw [HR.out]; rfl, X8.out⟩
    exact drawn_nil
  exact drawn_nil

theorem rtext_q {w : World} {sx tx : Bool} {Px Qx : Option Addr} {lx kx mx dx : Nat} {K : Nat} {x : Rat} (hx : Rv K w sx Px lx kx tx Qx mx dx x) (hK : K ≤ 90000) :
    Calls Try.prog 20 #[.agg #[.bool sx, .slice Px lx kx, .bool tx, .slice Qx mx dx]] w (RetE (.string (bts (txr x))) w) := by
  by_cases h : x.den = 1
  · exact rtext_whole hx hK h
  · exact rtext_part hx hK h
theorem rtext_qis {w : World} {sx tx : Bool} {Px Qx : Option Addr} {lx kx mx dx : Nat} {K : Nat} {x : Rat} {t : ByteArray} (hx : Rv K w sx Px lx kx tx Qx mx dx x) (hK : K ≤ 90000) (ht : bts (txr x) = t) :
    Calls Try.prog 20 #[.agg #[.bool sx, .slice Px lx kx, .bool tx, .slice Qx mx dx]] w (RetE (.string t) w) := ht ▸ rtext_q hx hK
theorem txr_size {K : Nat} {x : Rat} (h1 : x.num.natAbs < 4294967296 ^ K) (h2 : x.den < 4294967296 ^ (K + 1)) : (bts (txr x)).size ≤ 20 * K + 13 := by
  have l1 := tx_size h1
  have l2 := tx_size (z := (x.den : Int)) (K := K + 1) (by rw [Int.natAbs_natCast]; exact h2)
  rw [bts_len] at l1 l2
  rw [bts_len]
  unfold txr
  split
  · omega
  · rw [List.length_append, List.length_cons]; omega

end Go.Proofs.Ytikkibpjchmajaa

