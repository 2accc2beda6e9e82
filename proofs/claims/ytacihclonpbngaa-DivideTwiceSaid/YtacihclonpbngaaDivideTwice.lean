
/-
  The walk of the statement DivideTwice. Printed by wip/gen/law3.py.
-/
import Derived.Test.YtacihclonpbngaaKnownD
namespace Go.Proofs.Ytacihclonpbngaa
open Go.RowKit
open Go.Lib (hid)

set_option maxHeartbeats 6400000 in
set_option maxRecDepth 100000 in
theorem divideTwice_small {w : World} {Aa Ab Ac : Option Addr} {na ca p nb cb q nc cc r : Nat} (ha : Nv 100 w Aa na ca p) (ba : na ≤ 100) (hb : Nv 100 w Ab nb cb q) (bb : nb ≤ 100) (hc : Nv 100 w Ac nc cc r) (bc : nc ≤ 100) :
    Calls Try.prog 11 #[.slice Aa na ca, .slice Ab nb cb, .slice Ac nc cc] w (RetE (.bool true) w) := by
  have Ha := hid ha
  have Hb := hid hb
  have Hc := hid hc
  clear ha hb hc
  by_cases hq0 : q = 0
  · subst hq0
    have hb0 : bl 0 = 0 := rfl
    go_enter Try.func11, Try.ntmps11
    go_wp2_with (first
      | (go_at_call 23; (with_reducible refine (bits_v Hb.out (by omega)).mono ?_); rintro Es1 ws1 ⟨rfl, rfl⟩)
      | (go_at_call 24; (with_reducible refine (known_any3).mono ?_); rintro E1 w1 ⟨rfl, hr1⟩; have X1 := hid ((Ext.refl _).trans hr1); have hy1 := hid hr1; clear hr1))
    go_ret
    exact ⟨rfl, X1.out⟩
  · have hb0 : ((bl q : Int) == 0) = false := beq_eq_false_iff_ne.2 (by have := (bl_bounds hq0).1; omega)
    by_cases hr0 : r = 0
    · subst hr0
      have hb1 : bl 0 = 0 := rfl
      go_enter Try.func11, Try.ntmps11
      go_wp2_with (first
        | (go_at_call 23; (with_reducible refine (bits_v Hb.out (by omega)).mono ?_); rintro Es1 ws1 ⟨rfl, rfl⟩)
        | (go_at_call 23; (with_reducible refine (bits_v Hc.out (by omega)).mono ?_); rintro Es1 ws1 ⟨rfl, rfl⟩)
        | (go_at_call 24; (with_reducible refine (known_any3).mono ?_); rintro E1 w1 ⟨rfl, hr1⟩; have X1 := hid ((Ext.refl _).trans hr1); have hy1 := hid hr1; clear hr1))
      go_ret
      exact ⟨rfl, X1.out⟩
    · have hb1 : ((bl r : Int) == 0) = false := beq_eq_false_iff_ne.2 (by have := (bl_bounds hr0).1; omega)
      have hq : Hid (0 < q) := (by show 0 < q; omega)
      have hr : Hid (0 < r) := (by show 0 < r; omega)
      have hqr : Hid (0 < q * r) := Nat.mul_pos hq.out hr.out
      have hy0 : Hid (p % (q * r) = p / q % r * q + p % q) := by
        show _ = _
        rw [Nat.mod_mul, Nat.mul_comm q, Nat.add_comm]
      clear hq0 hr0
      go_enter Try.func11, Try.ntmps11
      go_wp2_with (first
        | (go_at_call 23; (with_reducible refine (bits_v Hb.out (by omega)).mono ?_); rintro Es1 ws1 ⟨rfl, rfl⟩)
        | (go_at_call 23; (with_reducible refine (bits_v Hc.out (by omega)).mono ?_); rintro Es1 ws1 ⟨rfl, rfl⟩)
        | (go_at_call 25; (with_reducible refine (divmod_v Ha.out Hb.out (by omega) hq.out).mono ?_); rintro E1 w1 ⟨A1, n1, c1, B1, m1, d1, rfl, o1, p1, hr1⟩; have O1 := hid o1; have P1 := hid p1; clear o1 p1; have X1 := hid ((Ext.refl _).trans hr1); have hy1 := hid hr1; clear hr1)
        | (go_at_call 25; (with_reducible refine (divmod_v O1.out.nv (Hc.out.ext hy1.out) (by omega) hr.out).mono ?_); rintro E2 w2 ⟨A2, n2, c2, B2, m2, d2, rfl, o2, p2, hr2⟩; have O2 := hid o2; have P2 := hid p2; clear o2 p2; have X2 := hid (X1.out.trans hr2); have hy2 := hid hr2; clear hr2)
        | (go_at_call 17; (with_reducible refine (mul_v (Hb.out.ext (hy1.out.trans hy2.out)) (Hc.out.ext (hy1.out.trans hy2.out)) (by omega)).mono ?_); rintro E3 w3 ⟨A3, n3, c3, rfl, o3, hr3⟩; have O3 := hid o3; clear o3; have X3 := hid (X2.out.trans hr3); have hy3 := hid hr3; clear hr3)
        | (go_at_call 25; (with_reducible refine (divmod_v (Ha.out.ext ((hy1.out.trans hy2.out).trans hy3.out)) O3.out.nv (by omega) hqr.out).mono ?_); rintro E4 w4 ⟨A4, n4, c4, B4, m4, d4, rfl, o4, p4, hr4⟩; have O4 := hid o4; have P4 := hid p4; clear o4 p4; have X4 := hid (X3.out.trans hr4); have hy4 := hid hr4; clear hr4)
        | (go_at_call 14; (with_reducible refine (same_c (O2.out.ext (hy3.out.trans hy4.out)) O4.out (by omega) (Nat.div_div_eq_div_mul _ _ _)).mono ?_); rintro E5 w5 ⟨rfl, hr5⟩; have X5 := hid (X4.out.trans hr5); have hy5 := hid hr5; clear hr5)
        | (go_at_call 17; (with_reducible refine (mul_v (P2.out.nv.ext ((hy3.out.trans hy4.out).trans hy5.out)) (Hb.out.ext ((((hy1.out.trans hy2.out).trans hy3.out).trans hy4.out).trans hy5.out)) (by omega)).mono ?_); rintro E6 w6 ⟨A6, n6, c6, rfl, o6, hr6⟩; have O6 := hid o6; clear o6; have X6 := hid (X5.out.trans hr6); have hy6 := hid hr6; clear hr6)
        | (go_at_call 20; (with_reducible refine (add_v O6.out.nv (P1.out.nv.ext ((((hy2.out.trans hy3.out).trans hy4.out).trans hy5.out).trans hy6.out)) (by omega)).mono ?_); rintro E7 w7 ⟨A7, n7, c7, rfl, o7, hr7⟩; have O7 := hid o7; clear o7; have X7 := hid (X6.out.trans hr7); have hy7 := hid hr7; clear hr7)
        | (go_at_call 14; (with_reducible refine (same_c (P4.out.ext ((hy5.out.trans hy6.out).trans hy7.out)) O7.out (by omega) hy0.out).mono ?_); rintro E8 w8 ⟨rfl, hr8⟩; have X8 := hid (X7.out.trans hr8); have hy8 := hid hr8; clear hr8)
        | (go_at_call 24; (with_reducible refine (known_any3).mono ?_); rintro E9 w9 ⟨rfl, hr9⟩; have X9 := hid (X8.out.trans hr9); have hy9 := hid hr9; clear hr9))
      go_ret
      exact ⟨rfl, X9.out⟩

set_option maxHeartbeats 6400000 in
set_option maxRecDepth 100000 in
theorem divideTwice_any {w : World} {Aa Ab Ac : Option Addr} {na ca nb cb nc cc : Nat} {xa xb xc : List Nat} (ha : Sl .u32 w Aa na ca xa) (la : Lim 4294967296 xa) (hb : Sl .u32 w Ab nb cb xb) (lb : Lim 4294967296 xb) (hc : Sl .u32 w Ac nc cc xc) (lc : Lim 4294967296 xc) :
    Calls Try.prog 11 #[.slice Aa na ca, .slice Ab nb cb, .slice Ac nc cc] w (RetE (.bool true) w) := by
  by_cases ba : na ≤ 100
  · by_cases bb : nb ≤ 100
    · by_cases bc : nc ≤ 100
      · exact divideTwice_small (Nv.mk ha la ba) ba (Nv.mk hb lb bb) bb (Nv.mk hc lc bc) bc
      · have bc' : (100 : Int) < nc := by omega
        clear ha hb hc la lb lc
        go_enter Try.func11, Try.ntmps11
        go_wp2_with (go_at_call 24; refine known_any3.mono ?_; rintro E1 w1 ⟨rfl, hx1⟩)
        go_ret
        exact ⟨rfl, hx1⟩
    · have bb' : (100 : Int) < nb := by omega
      clear ha hb hc la lb lc
      go_enter Try.func11, Try.ntmps11
      go_wp2_with (go_at_call 24; refine known_any3.mono ?_; rintro E1 w1 ⟨rfl, hx1⟩)
      go_ret
      exact ⟨rfl, hx1⟩
  · have ba' : (100 : Int) < na := by omega
    clear ha hb hc la lb lc
    go_enter Try.func11, Try.ntmps11
    go_wp2_with (go_at_call 24; refine known_any3.mono ?_; rintro E1 w1 ⟨rfl, hx1⟩)
    go_ret
    exact ⟨rfl, hx1⟩

end Go.Proofs.Ytacihclonpbngaa
