/-
  The walk of RatioField. Printed by wip/gen/rat.py.
-/
import Derived.Test.YtikkibpjchmajaaGreatPk45
namespace Go.Proofs.YtikkibpjchmajaaGreat
open Go.RowKit
open Go.Lib (hid)

set_option maxHeartbeats 6400000 in
set_option maxRecDepth 100000 in
theorem ratioField_great {w : World} {sx tx sy ty : Bool} {Px Qx Py Qy : Option Addr} {lx kx mx dx ly ky my dy : Nat} (h : 8 < lx ∨ 8 < mx ∨ 8 < ly ∨ 8 < my) :
    Calls Tryz.prog 3 #[.agg #[.bool sx, .slice Px lx kx, .bool tx, .slice Qx mx dx], .agg #[.bool sy, .slice Py ly ky, .bool ty, .slice Qy my dy]] w (RetE (.bool true) w) := by
  have HG := hid h
  clear h
  go_enter Tryz.func3, Tryz.ntmps3
  go_wp2_with fail
  have hy1 := hid ((((Ext.refl w).alloc (.cells #[.bool sx, .slice Px lx kx, .bool tx, .slice Qx mx dx] 26)).alloc (.cells #[.bool sy, .slice Py ly ky, .bool ty, .slice Qy my dy] 26)).alloc (.cells #[.bool sx, .slice Px lx kx, .bool tx, .slice Qx mx dx, .bool sy, .slice Py ly ky, .bool ty, .slice Qy my dy] 26))
  have Bx_ := ((Bk.new w 26 #[.bool sx, .slice Px lx kx, .bool tx, .slice Qx mx dx]).ext (((Ext.refl (w.alloc (.cells #[.bool sx, .slice Px lx kx, .bool tx, .slice Qx mx dx] 26))).alloc (.cells #[.bool sy, .slice Py ly ky, .bool ty, .slice Qy my dy] 26)).alloc (.cells #[.bool sx, .slice Px lx kx, .bool tx, .slice Qx mx dx, .bool sy, .slice Py ly ky, .bool ty, .slice Qy my dy] 26)))
  have Bx := hid Bx_
  clear Bx_
  have By_ := ((Bk.new (w.alloc (.cells #[.bool sx, .slice Px lx kx, .bool tx, .slice Qx mx dx] 26)) 26 #[.bool sy, .slice Py ly ky, .bool ty, .slice Qy my dy]).ext ((Ext.refl ((w.alloc (.cells #[.bool sx, .slice Px lx kx, .bool tx, .slice Qx mx dx] 26)).alloc (.cells #[.bool sy, .slice Py ly ky, .bool ty, .slice Qy my dy] 26))).alloc (.cells #[.bool sx, .slice Px lx kx, .bool tx, .slice Qx mx dx, .bool sy, .slice Py ly ky, .bool ty, .slice Qy my dy] 26)))
  rw [size_alloc] at By_
  have By := hid By_
  clear By_
  have Brow_ := (Bk.new ((w.alloc (.cells #[.bool sx, .slice Px lx kx, .bool tx, .slice Qx mx dx] 26)).alloc (.cells #[.bool sy, .slice Py ly ky, .bool ty, .slice Qy my dy] 26)) 26 #[.bool sx, .slice Px lx kx, .bool tx, .slice Qx mx dx, .bool sy, .slice Py ly ky, .bool ty, .slice Qy my dy])
  rw [size_alloc, size_alloc] at Brow_
  have Brow := hid Brow_
  clear Brow_
  generalize (((w.alloc (.cells #[.bool sx, .slice Px lx kx, .bool tx, .slice Qx mx dx] 26)).alloc (.cells #[.bool sy, .slice Py ly ky, .bool ty, .slice Qy my dy] 26)).alloc (.cells #[.bool sx, .slice Px lx kx, .bool tx, .slice Qx mx dx, .bool sy, .slice Py ly ky, .bool ty, .slice Qy my dy] 26)) = w1 at *
  have X1 := hid ((Ext.refl _).trans hy1.out)
  go_wp2_with (first
    | ((go_at_call 4); (with_reducible refine (great6_yes2 Brow.out HG.out).mono ?_); rintro E2 w2 ⟨rfl, hr2⟩; have X2 := hid (X1.out.trans hr2); have hy2 := hid hr2; clear hr2)
    | ((go_at_call 5); (with_reducible refine (known_any6).mono ?_); rintro E3 w3 ⟨rfl, hr3⟩; have X3 := hid (X2.out.trans hr3); have hy3 := hid hr3; clear hr3))
  go_ret
  exact ⟨rfl, X3.out⟩

theorem ratioField_any {w : World} {sx tx sy ty : Bool} {Px Qx Py Qy : Option Addr} {lx kx mx dx ly ky my dy : Nat} {X Y U V : List Nat} (hx : Sl .u32 w Px lx kx X) (mx' : Lim 4294967296 X) (hx2 : Sl .u32 w Qx mx dx Y) (mx2 : Lim 4294967296 Y) (hy : Sl .u32 w Py ly ky U) (my' : Lim 4294967296 U) (hy2 : Sl .u32 w Qy my dy V) (my2 : Lim 4294967296 V) :
    Calls Tryz.prog 3 #[.agg #[.bool sx, .slice Px lx kx, .bool tx, .slice Qx mx dx], .agg #[.bool sy, .slice Py ly ky, .bool ty, .slice Qy my dy]] w (RetE (.bool true) w) := by
  by_cases hg : (8 < lx ∨ 8 < mx) ∨ (8 < ly ∨ 8 < my)
  · exact ratioField_great (by omega)
  · have b1 : lx ≤ 8 := by omega
    have b2 : mx ≤ 8 := by omega
    have b3 : ly ≤ 8 := by omega
    have b4 : my ≤ 8 := by omega
    have h1 : LL 8 sx X tx Y (rl sx X tx Y) := ⟨mx', mx2, by rw [hx.len]; exact b1, by rw [hx2.len]; exact b2, rfl⟩
    have h2 : LL 8 sy U ty V (rl sy U ty V) := ⟨my', my2, by rw [hy.len]; exact b3, by rw [hy2.len]; exact b4, rfl⟩
    exact ratioField_small ⟨rfl, rfl, hx, hx2⟩ ⟨rfl, rfl, hy, hy2⟩ h1 h2 b1 b2 b3 b4

end Go.Proofs.YtikkibpjchmajaaGreat

