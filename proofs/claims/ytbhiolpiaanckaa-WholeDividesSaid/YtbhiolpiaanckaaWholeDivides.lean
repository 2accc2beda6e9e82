
/-
  The walk of the statement WholeDivides. Printed by wip/gen/law4.py.
-/
import Derived.Test.YtbhiolpiaanckaaWDzero
import Derived.Test.YtbhiolpiaanckaaWDexact
import Derived.Test.YtbhiolpiaanckaaWDrest
namespace Go.Proofs.Ytbhiolpiaanckaa
open Go.RowKit
open Go.Lib (hid)

set_option maxHeartbeats 6400000 in
set_option maxRecDepth 100000 in
theorem wholeDivides_big {w : World} {sx sy : Bool} {Px Py : Option Addr} {lx kx ly ky : Nat} {N : Int} (hb : 25 < lx ∨ 25 < ly) :
    Calls Try.prog 3 #[.agg #[.bool sx, .slice Px lx kx], .agg #[.bool sy, .slice Py ly ky], .int .i64 N] w (RetE (.bool true) w) := by
  have hbig := hid hb
  clear hb
  go_enter Try.func3, Try.ntmps3
  go_wp2_with fail
  have hy1 := hid ((((Ext.refl w).alloc (.cells #[.bool sx, .slice Px lx kx] 24)).alloc (.cells #[.bool sy, .slice Py ly ky] 24)).alloc (.cells #[.bool sx, .slice Px lx kx, .bool sy, .slice Py ly ky] 24))
  have Bx := ((Bx.new w sx Px lx kx).ext (((Ext.refl (w.alloc (.cells #[.bool sx, .slice Px lx kx] 24))).alloc (.cells #[.bool sy, .slice Py ly ky] 24)).alloc (.cells #[.bool sx, .slice Px lx kx, .bool sy, .slice Py ly ky] 24)))
  have HBx := hid Bx
  clear Bx
  have By := ((Bx.new (w.alloc (.cells #[.bool sx, .slice Px lx kx] 24)) sy Py ly ky).ext ((Ext.refl ((w.alloc (.cells #[.bool sx, .slice Px lx kx] 24)).alloc (.cells #[.bool sy, .slice Py ly ky] 24))).alloc (.cells #[.bool sx, .slice Px lx kx, .bool sy, .slice Py ly ky] 24)))
  rw [size_alloc] at By
  have HBy := hid By
  clear By
  have BR := row2_new ((w.alloc (.cells #[.bool sx, .slice Px lx kx] 24)).alloc (.cells #[.bool sy, .slice Py ly ky] 24)) sx Px lx kx sy Py ly ky
  rw [size_alloc, size_alloc] at BR
  have HBR := hid BR
  clear BR
  generalize (((w.alloc (.cells #[.bool sx, .slice Px lx kx] 24)).alloc (.cells #[.bool sy, .slice Py ly ky] 24)).alloc (.cells #[.bool sx, .slice Px lx kx, .bool sy, .slice Py ly ky] 24)) = w1 at *
  have X1 := hid ((Ext.refl _).trans hy1.out)
  go_wp2_with (first
    | ((go_at_call 7); (with_reducible refine (great2_yes HBR.out hbig.out).mono ?_); rintro E2 w2 ⟨rfl, hr2⟩; have X2 := hid (X1.out.trans hr2); have hy2 := hid hr2; clear hr2; obtain ⟨f2_0, f2_1, f2_2, f2_3⟩ : w2.cell? ⟨w.heap.size, 0, none⟩ = some (.bool sx) ∧ w2.cell? ⟨w.heap.size, 1, none⟩ = some (.slice Px lx kx) ∧ w2.cell? ⟨w.heap.size + 1, 0, none⟩ = some (.bool sy) ∧ w2.cell? ⟨w.heap.size + 1, 1, none⟩ = some (.slice Py ly ky) := ⟨(HBx.out.ext hy2.out).c0, (HBx.out.ext hy2.out).c1, (HBy.out.ext hy2.out).c0, (HBy.out.ext hy2.out).c1⟩)
    | ((go_at_call 8); (with_reducible refine (known_any4).mono ?_); rintro E3 w3 ⟨rfl, hr3⟩; have X3 := hid (X2.out.trans hr3); have hy3 := hid hr3; clear hr3; obtain ⟨f3_0, f3_1, f3_2, f3_3⟩ : w3.cell? ⟨w.heap.size, 0, none⟩ = some (.bool sx) ∧ w3.cell? ⟨w.heap.size, 1, none⟩ = some (.slice Px lx kx) ∧ w3.cell? ⟨w.heap.size + 1, 0, none⟩ = some (.bool sy) ∧ w3.cell? ⟨w.heap.size + 1, 1, none⟩ = some (.slice Py ly ky) := ⟨(HBx.out.ext (hy2.out.trans hy3.out)).c0, (HBx.out.ext (hy2.out.trans hy3.out)).c1, (HBy.out.ext (hy2.out.trans hy3.out)).c0, (HBy.out.ext (hy2.out.trans hy3.out)).c1⟩))
  go_ret
  exact ⟨rfl, X3.out⟩

set_option maxHeartbeats 6400000 in
set_option maxRecDepth 100000 in
theorem wholeDivides_more {w : World} {sx sy : Bool} {Px Py : Option Addr} {lx kx ly ky : Nat} {x y : Int} (hx : Iz 25 w sx Px lx kx x) (bdx : lx ≤ 25) (hy : Iz 25 w sy Py ly ky y) (bdy : ly ≤ 25) {N : Int} (h6 : 6 < N) (h1000 : N ≤ 1000) :
    Calls Try.prog 3 #[.agg #[.bool sx, .slice Px lx kx], .agg #[.bool sy, .slice Py ly ky], .int .i64 N] w (RetE (.bool true) w) := by
  have Hx := hid hx
  have Hy := hid hy
  clear hx hy
  go_enter Try.func3, Try.ntmps3
  go_wp2_with fail
  have hy1 := hid ((((Ext.refl w).alloc (.cells #[.bool sx, .slice Px lx kx] 24)).alloc (.cells #[.bool sy, .slice Py ly ky] 24)).alloc (.cells #[.bool sx, .slice Px lx kx, .bool sy, .slice Py ly ky] 24))
  have Bx := ((Bx.new w sx Px lx kx).ext (((Ext.refl (w.alloc (.cells #[.bool sx, .slice Px lx kx] 24))).alloc (.cells #[.bool sy, .slice Py ly ky] 24)).alloc (.cells #[.bool sx, .slice Px lx kx, .bool sy, .slice Py ly ky] 24)))
  have HBx := hid Bx
  clear Bx
  have By := ((Bx.new (w.alloc (.cells #[.bool sx, .slice Px lx kx] 24)) sy Py ly ky).ext ((Ext.refl ((w.alloc (.cells #[.bool sx, .slice Px lx kx] 24)).alloc (.cells #[.bool sy, .slice Py ly ky] 24))).alloc (.cells #[.bool sx, .slice Px lx kx, .bool sy, .slice Py ly ky] 24)))
  rw [size_alloc] at By
  have HBy := hid By
  clear By
  have BR := row2_new ((w.alloc (.cells #[.bool sx, .slice Px lx kx] 24)).alloc (.cells #[.bool sy, .slice Py ly ky] 24)) sx Px lx kx sy Py ly ky
  rw [size_alloc, size_alloc] at BR
  have HBR := hid BR
  clear BR
  generalize (((w.alloc (.cells #[.bool sx, .slice Px lx kx] 24)).alloc (.cells #[.bool sy, .slice Py ly ky] 24)).alloc (.cells #[.bool sx, .slice Px lx kx, .bool sy, .slice Py ly ky] 24)) = w1 at *
  have X1 := hid ((Ext.refl _).trans hy1.out)
  go_wp2_with (first
    | ((go_at_call 7); (with_reducible refine (great2_no HBR.out bdx bdy).mono ?_); rintro E2 w2 ⟨rfl, hr2⟩; have X2 := hid (X1.out.trans hr2); have hy2 := hid hr2; clear hr2; obtain ⟨f2_0, f2_1, f2_2, f2_3⟩ : w2.cell? ⟨w.heap.size, 0, none⟩ = some (.bool sx) ∧ w2.cell? ⟨w.heap.size, 1, none⟩ = some (.slice Px lx kx) ∧ w2.cell? ⟨w.heap.size + 1, 0, none⟩ = some (.bool sy) ∧ w2.cell? ⟨w.heap.size + 1, 1, none⟩ = some (.slice Py ly ky) := ⟨(HBx.out.ext hy2.out).c0, (HBx.out.ext hy2.out).c1, (HBy.out.ext hy2.out).c0, (HBy.out.ext hy2.out).c1⟩)
    | ((go_at_call 8); (with_reducible refine (known_any4).mono ?_); rintro E3 w3 ⟨rfl, hr3⟩; have X3 := hid (X2.out.trans hr3); have hy3 := hid hr3; clear hr3; obtain ⟨f3_0, f3_1, f3_2, f3_3⟩ : w3.cell? ⟨w.heap.size, 0, none⟩ = some (.bool sx) ∧ w3.cell? ⟨w.heap.size, 1, none⟩ = some (.slice Px lx kx) ∧ w3.cell? ⟨w.heap.size + 1, 0, none⟩ = some (.bool sy) ∧ w3.cell? ⟨w.heap.size + 1, 1, none⟩ = some (.slice Py ly ky) := ⟨(HBx.out.ext (hy2.out.trans hy3.out)).c0, (HBx.out.ext (hy2.out.trans hy3.out)).c1, (HBy.out.ext (hy2.out.trans hy3.out)).c0, (HBy.out.ext (hy2.out.trans hy3.out)).c1⟩))
  go_ret
  exact ⟨rfl, X3.out⟩

/-- The arguments as the machine hands them over. -/
theorem wholeDivides_any {w : World} {sx sy : Bool} {Px Py : Option Addr} {lx kx ly ky : Nat} {Xx Xy : List Nat} {N : Int} (hx : Sl .u32 w Px lx kx Xx) (mx : Lim 4294967296 Xx) (hy : Sl .u32 w Py ly ky Xy) (my : Lim 4294967296 Xy) :
    Calls Try.prog 3 #[.agg #[.bool sx, .slice Px lx kx], .agg #[.bool sy, .slice Py ly ky], .int .i64 N] w (RetE (.bool true) w) := by
  by_cases hb : lx ≤ 25 ∧ ly ≤ 25
  · have h1 := Iz.mk (s := sx) (Nv.mk hx mx hb.1)
    have h2 := Iz.mk (s := sy) (Nv.mk hy my hb.2)
    by_cases hm : 6 < N ∧ N ≤ 1000
    · exact wholeDivides_more h1 hb.1 h2 hb.2 hm.1 hm.2
    · have hN : (0 ≤ N ∧ N ≤ 6) ∨ N < 0 ∨ 1000 < N := by omega
      by_cases hy0 : zv sy (nv 4294967296 Xy) = 0
      · exact wholeDivides_zero h1 hb.1 h2 hb.2 hN hy0
      · by_cases hr : (zv sx (nv 4294967296 Xx)).natAbs % (zv sy (nv 4294967296 Xy)).natAbs = 0
        · exact wholeDivides_exact h1 hb.1 h2 hb.2 hN hy0 hr
        · exact wholeDivides_rest h1 hb.1 h2 hb.2 hN hy0 hr
  · exact wholeDivides_big (by omega)

end Go.Proofs.Ytbhiolpiaanckaa
