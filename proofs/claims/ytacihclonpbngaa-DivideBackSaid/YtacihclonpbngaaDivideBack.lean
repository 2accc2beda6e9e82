
/-
  The walk of the statement DivideBack. Printed by wip/gen/law3.py.
-/
import Derived.Test.YtacihclonpbngaaKnownD
namespace Go.Proofs.Ytacihclonpbngaa
open Go.RowKit
open Go.Lib (hid)

set_option maxHeartbeats 6400000 in
set_option maxRecDepth 100000 in
theorem divideBack_small {w : World} {Aa Ab Ac : Option Addr} {na ca p nb cb q nc cc r : Nat} (ha : Nv 120 w Aa na ca p) (ba : na ≤ 120) (hb : Nv 120 w Ab nb cb q) (bb : nb ≤ 120) (hc : Nv 120 w Ac nc cc r) (bc : nc ≤ 120) :
    Calls Try.prog 9 #[.slice Aa na ca, .slice Ab nb cb, .slice Ac nc cc] w (RetE (.bool true) w) := by
  have Ha := hid ha
  have Hb := hid hb
  have Hc := hid hc
  clear ha hb hc
  by_cases hq0 : q = 0
  · subst hq0
    have hb0 : bl 0 = 0 := rfl
    go_enter Try.func9, Try.ntmps9
    go_wp2_with (first
      | (go_at_call 23; (with_reducible refine (bits_v Hb.out (by omega)).mono ?_); rintro Es1 ws1 ⟨rfl, rfl⟩)
      | (go_at_call 24; (with_reducible refine (known_any3).mono ?_); rintro E1 w1 ⟨rfl, hr1⟩; have X1 := hid ((Ext.refl _).trans hr1); have hy1 := hid hr1; clear hr1))
    go_ret
    exact ⟨rfl, X1.out⟩
  · have hb0 : ((bl q : Int) == 0) = false := beq_eq_false_iff_ne.2 (by have := (bl_bounds hq0).1; omega)
    have hq : Hid (0 < q) := (by show 0 < q; omega)
    have hlt : Hid (cmpN (r % q) q = -1) := cmpN_lt (Nat.mod_lt r hq.out)
    have hx : Hid ((p * q + r % q) / q = p) := by
      show _ = _
      rw [Nat.mul_comm, Nat.mul_add_div hq.out, Nat.div_eq_of_lt (Nat.mod_lt r hq.out), Nat.add_zero]
    have hy0 : Hid ((p * q + r % q) % q = r % q) := by
      show _ = _
      rw [Nat.mul_comm, Nat.mul_add_mod, Nat.mod_mod]
    clear hq0
    go_enter Try.func9, Try.ntmps9
    go_wp2_with (first
      | (go_at_call 23; (with_reducible refine (bits_v Hb.out (by omega)).mono ?_); rintro Es1 ws1 ⟨rfl, rfl⟩)
      | (go_at_call 17; (with_reducible refine (mul_v Ha.out Hb.out (by omega)).mono ?_); rintro E1 w1 ⟨A1, n1, c1, rfl, o1, hr1⟩; have O1 := hid o1; clear o1; have X1 := hid ((Ext.refl _).trans hr1); have hy1 := hid hr1; clear hr1)
      | (go_at_call 26; (with_reducible refine (exact_yes O1.out.nv (Hb.out.ext hy1.out) (by omega) hq.out (Nat.mul_mod_left _ _)).mono ?_); rintro E2 w2 ⟨A2, n2, c2, rfl, o2, hr2⟩; have O2 := hid o2; clear o2; have X2 := hid (X1.out.trans hr2); have hy2 := hid hr2; clear hr2)
      | (go_at_call 25; (with_reducible refine (divmod_v (Hc.out.ext (hy1.out.trans hy2.out)) (Hb.out.ext (hy1.out.trans hy2.out)) (by omega) hq.out).mono ?_); rintro E3 w3 ⟨A3, n3, c3, B3, m3, d3, rfl, o3, p3, hr3⟩; have O3 := hid o3; have P3 := hid p3; clear o3 p3; have X3 := hid (X2.out.trans hr3); have hy3 := hid hr3; clear hr3)
      | (go_at_call 22; (with_reducible refine (trim_v (Ha.out.ext ((hy1.out.trans hy2.out).trans hy3.out)) (by omega)).mono ?_); rintro E4 w4 ⟨A4, n4, c4, rfl, o4, hr4⟩; have O4 := hid o4; clear o4; have X4 := hid (X3.out.trans hr4); have hy4 := hid hr4; clear hr4)
      | (go_at_call 14; (with_reducible refine (same_c (O2.out.ext (hy3.out.trans hy4.out)) O4.out (by omega) (Nat.mul_div_cancel _ hq.out)).mono ?_); rintro E5 w5 ⟨rfl, hr5⟩; have X5 := hid (X4.out.trans hr5); have hy5 := hid hr5; clear hr5)
      | (go_at_call 31; (with_reducible refine (cmp_is (v := -1) (P3.out.nv.ext (hy4.out.trans hy5.out)) (Hb.out.ext ((((hy1.out.trans hy2.out).trans hy3.out).trans hy4.out).trans hy5.out)) (by omega) hlt.out).mono ?_); rintro E6 w6 ⟨rfl, hr6⟩; have X6 := hid (X5.out.trans hr6); have hy6 := hid hr6; clear hr6)
      | (go_at_call 20; (with_reducible refine (add_v (O1.out.nv.ext ((((hy2.out.trans hy3.out).trans hy4.out).trans hy5.out).trans hy6.out)) (P3.out.nv.ext ((hy4.out.trans hy5.out).trans hy6.out)) (by omega)).mono ?_); rintro E7 w7 ⟨A7, n7, c7, rfl, o7, hr7⟩; have O7 := hid o7; clear o7; have X7 := hid (X6.out.trans hr7); have hy7 := hid hr7; clear hr7)
      | (go_at_call 25; (with_reducible refine (divmod_v O7.out.nv (Hb.out.ext ((((((hy1.out.trans hy2.out).trans hy3.out).trans hy4.out).trans hy5.out).trans hy6.out).trans hy7.out)) (by omega) hq.out).mono ?_); rintro E8 w8 ⟨A8, n8, c8, B8, m8, d8, rfl, o8, p8, hr8⟩; have O8 := hid o8; have P8 := hid p8; clear o8 p8; have X8 := hid (X7.out.trans hr8); have hy8 := hid hr8; clear hr8)
      | (go_at_call 22; (with_reducible refine (trim_v (Ha.out.ext (((((((hy1.out.trans hy2.out).trans hy3.out).trans hy4.out).trans hy5.out).trans hy6.out).trans hy7.out).trans hy8.out)) (by omega)).mono ?_); rintro E9 w9 ⟨A9, n9, c9, rfl, o9, hr9⟩; have O9 := hid o9; clear o9; have X9 := hid (X8.out.trans hr9); have hy9 := hid hr9; clear hr9)
      | (go_at_call 14; (with_reducible refine (same_c (O8.out.ext hy9.out) O9.out (by omega) hx.out).mono ?_); rintro E10 w10 ⟨rfl, hr10⟩; have X10 := hid (X9.out.trans hr10); have hy10 := hid hr10; clear hr10)
      | (go_at_call 14; (with_reducible refine (same_c (P8.out.ext (hy9.out.trans hy10.out)) (P3.out.ext ((((((hy4.out.trans hy5.out).trans hy6.out).trans hy7.out).trans hy8.out).trans hy9.out).trans hy10.out)) (by omega) hy0.out).mono ?_); rintro E11 w11 ⟨rfl, hr11⟩; have X11 := hid (X10.out.trans hr11); have hy11 := hid hr11; clear hr11)
      | (go_at_call 24; (with_reducible refine (known_any3).mono ?_); rintro E12 w12 ⟨rfl, hr12⟩; have X12 := hid (X11.out.trans hr12); have hy12 := hid hr12; clear hr12))
    go_ret
    exact ⟨rfl, X12.out⟩

set_option maxHeartbeats 6400000 in
set_option maxRecDepth 100000 in
theorem divideBack_any {w : World} {Aa Ab Ac : Option Addr} {na ca nb cb nc cc : Nat} {xa xb xc : List Nat} (ha : Sl .u32 w Aa na ca xa) (la : Lim 4294967296 xa) (hb : Sl .u32 w Ab nb cb xb) (lb : Lim 4294967296 xb) (hc : Sl .u32 w Ac nc cc xc) (lc : Lim 4294967296 xc) :
    Calls Try.prog 9 #[.slice Aa na ca, .slice Ab nb cb, .slice Ac nc cc] w (RetE (.bool true) w) := by
  by_cases ba : na ≤ 120
  · by_cases bb : nb ≤ 120
    · by_cases bc : nc ≤ 120
      · exact divideBack_small (Nv.mk ha la ba) ba (Nv.mk hb lb bb) bb (Nv.mk hc lc bc) bc
      · have bc' : (120 : Int) < nc := by omega
        clear ha hb hc la lb lc
        go_enter Try.func9, Try.ntmps9
        go_wp2_with (go_at_call 24; refine known_any3.mono ?_; rintro E1 w1 ⟨rfl, hx1⟩)
        go_ret
        exact ⟨rfl, hx1⟩
    · have bb' : (120 : Int) < nb := by omega
      clear ha hb hc la lb lc
      go_enter Try.func9, Try.ntmps9
      go_wp2_with (go_at_call 24; refine known_any3.mono ?_; rintro E1 w1 ⟨rfl, hx1⟩)
      go_ret
      exact ⟨rfl, hx1⟩
  · have ba' : (120 : Int) < na := by omega
    clear ha hb hc la lb lc
    go_enter Try.func9, Try.ntmps9
    go_wp2_with (go_at_call 24; refine known_any3.mono ?_; rintro E1 w1 ⟨rfl, hx1⟩)
    go_ret
    exact ⟨rfl, hx1⟩

end Go.Proofs.Ytacihclonpbngaa
