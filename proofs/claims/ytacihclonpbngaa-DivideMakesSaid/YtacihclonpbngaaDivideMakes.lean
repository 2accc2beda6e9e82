
/-
  The walk of the statement DivideMakes. Printed by wip/gen/law3.py.
-/
import Derived.Test.YtacihclonpbngaaKnownD
namespace Go.Proofs.Ytacihclonpbngaa
open Go.RowKit
open Go.Lib (hid)

set_option maxHeartbeats 6400000 in
set_option maxRecDepth 100000 in
theorem divideMakes_small {w : World} {Aa Ab : Option Addr} {na ca p nb cb q : Nat} (ha : Nv 200 w Aa na ca p) (ba : na ≤ 200) (hb : Nv 200 w Ab nb cb q) (bb : nb ≤ 200) :
    Calls Try.prog 10 #[.slice Aa na ca, .slice Ab nb cb] w (RetE (.bool true) w) := by
  have Ha := hid ha
  have Hb := hid hb
  clear ha hb
  by_cases hq0 : q = 0
  · subst hq0
    have hb0 : bl 0 = 0 := rfl
    go_enter Try.func10, Try.ntmps10
    go_wp2_with (first
      | (go_at_call 23; (with_reducible refine (bits_v Hb.out (by omega)).mono ?_); rintro Es1 ws1 ⟨rfl, rfl⟩)
      | (go_at_call 24; (with_reducible refine (known_any3).mono ?_); rintro E1 w1 ⟨rfl, hr1⟩; have X1 := hid ((Ext.refl _).trans hr1); have hy1 := hid hr1; clear hr1))
    go_ret
    exact ⟨rfl, X1.out⟩
  · have hb0 : ((bl q : Int) == 0) = false := beq_eq_false_iff_ne.2 (by have := (bl_bounds hq0).1; omega)
    have hq : Hid (0 < q) := (by show 0 < q; omega)
    have hdm : Hid (p / q * q + p % q = p) := Nat.div_add_mod' p q
    have hlt : Hid (cmpN (p % q) q = -1) := cmpN_lt (Nat.mod_lt p hq.out)
    rcases Nat.lt_trichotomy p q with hpq | hpq | hpq
    · have hz : Hid (p / q = 0) := Nat.div_eq_of_lt hpq
      have hv : Hid (cmpN p q = -1) := cmpN_lt hpq
      clear hpq hq0
      go_enter Try.func10, Try.ntmps10
      go_wp2_with (first
        | (go_at_call 23; (with_reducible refine (bits_v Hb.out (by omega)).mono ?_); rintro Es1 ws1 ⟨rfl, rfl⟩)
        | (go_at_call 25; (with_reducible refine (divmod_v Ha.out Hb.out (by omega) hq.out).mono ?_); rintro E1 w1 ⟨A1, n1, c1, B1, m1, d1, rfl, o1, p1, hr1⟩; have O1 := hid o1; have P1 := hid p1; clear o1 p1; have X1 := hid ((Ext.refl _).trans hr1); have hy1 := hid hr1; clear hr1; have hl1 := O1.out.len0 hz.out; subst hl1)
        | (go_at_call 31; (with_reducible refine (cmp_is (v := -1) P1.out.nv (Hb.out.ext hy1.out) (by omega) hlt.out).mono ?_); rintro E2 w2 ⟨rfl, hr2⟩; have X2 := hid (X1.out.trans hr2); have hy2 := hid hr2; clear hr2)
        | (go_at_call 17; (with_reducible refine (mul_v (O1.out.nv.ext hy2.out) (Hb.out.ext (hy1.out.trans hy2.out)) (by omega)).mono ?_); rintro E3 w3 ⟨A3, n3, c3, rfl, o3, hr3⟩; have O3 := hid o3; clear o3; have X3 := hid (X2.out.trans hr3); have hy3 := hid hr3; clear hr3)
        | (go_at_call 20; (with_reducible refine (add_v O3.out.nv (P1.out.nv.ext (hy2.out.trans hy3.out)) (by omega)).mono ?_); rintro E4 w4 ⟨A4, n4, c4, rfl, o4, hr4⟩; have O4 := hid o4; clear o4; have X4 := hid (X3.out.trans hr4); have hy4 := hid hr4; clear hr4)
        | (go_at_call 22; (with_reducible refine (trim_v (Ha.out.ext (((hy1.out.trans hy2.out).trans hy3.out).trans hy4.out)) (by omega)).mono ?_); rintro E5 w5 ⟨A5, n5, c5, rfl, o5, hr5⟩; have O5 := hid o5; clear o5; have X5 := hid (X4.out.trans hr5); have hy5 := hid hr5; clear hr5)
        | (go_at_call 14; (with_reducible refine (same_c (O4.out.ext hy5.out) O5.out (by omega) hdm.out).mono ?_); rintro E6 w6 ⟨rfl, hr6⟩; have X6 := hid (X5.out.trans hr6); have hy6 := hid hr6; clear hr6)
        | (go_at_call 31; (with_reducible refine (cmp_is (v := -1) (Ha.out.ext (((((hy1.out.trans hy2.out).trans hy3.out).trans hy4.out).trans hy5.out).trans hy6.out)) (Hb.out.ext (((((hy1.out.trans hy2.out).trans hy3.out).trans hy4.out).trans hy5.out).trans hy6.out)) (by omega) hv.out).mono ?_); rintro E7 w7 ⟨rfl, hr7⟩; have X7 := hid (X6.out.trans hr7); have hy7 := hid hr7; clear hr7)
        | (go_at_call 24; (with_reducible refine (known_any3).mono ?_); rintro E8 w8 ⟨rfl, hr8⟩; have X8 := hid (X7.out.trans hr8); have hy8 := hid hr8; clear hr8))
      go_ret
      exact ⟨rfl, X8.out⟩
    · have hz : Hid (p / q ≠ 0) := fun e => by have := (Nat.le_div_iff_mul_le hq.out).2 (show 1 * q ≤ p by omega); omega
      have hv : Hid (cmpN p q = 0) := by rw [hpq]; exact cmpN_eq _
      clear hpq hq0
      go_enter Try.func10, Try.ntmps10
      go_wp2_with (first
        | (go_at_call 23; (with_reducible refine (bits_v Hb.out (by omega)).mono ?_); rintro Es1 ws1 ⟨rfl, rfl⟩)
        | (go_at_call 25; (with_reducible refine (divmod_v Ha.out Hb.out (by omega) hq.out).mono ?_); rintro E1 w1 ⟨A1, n1, c1, B1, m1, d1, rfl, o1, p1, hr1⟩; have O1 := hid o1; have P1 := hid p1; clear o1 p1; have X1 := hid ((Ext.refl _).trans hr1); have hy1 := hid hr1; clear hr1; have hl1 : (0 : Int) < n1 := (by have := O1.out.lenp hz.out; omega))
        | (go_at_call 31; (with_reducible refine (cmp_is (v := -1) P1.out.nv (Hb.out.ext hy1.out) (by omega) hlt.out).mono ?_); rintro E2 w2 ⟨rfl, hr2⟩; have X2 := hid (X1.out.trans hr2); have hy2 := hid hr2; clear hr2)
        | (go_at_call 17; (with_reducible refine (mul_v (O1.out.nv.ext hy2.out) (Hb.out.ext (hy1.out.trans hy2.out)) (by omega)).mono ?_); rintro E3 w3 ⟨A3, n3, c3, rfl, o3, hr3⟩; have O3 := hid o3; clear o3; have X3 := hid (X2.out.trans hr3); have hy3 := hid hr3; clear hr3)
        | (go_at_call 20; (with_reducible refine (add_v O3.out.nv (P1.out.nv.ext (hy2.out.trans hy3.out)) (by omega)).mono ?_); rintro E4 w4 ⟨A4, n4, c4, rfl, o4, hr4⟩; have O4 := hid o4; clear o4; have X4 := hid (X3.out.trans hr4); have hy4 := hid hr4; clear hr4)
        | (go_at_call 22; (with_reducible refine (trim_v (Ha.out.ext (((hy1.out.trans hy2.out).trans hy3.out).trans hy4.out)) (by omega)).mono ?_); rintro E5 w5 ⟨A5, n5, c5, rfl, o5, hr5⟩; have O5 := hid o5; clear o5; have X5 := hid (X4.out.trans hr5); have hy5 := hid hr5; clear hr5)
        | (go_at_call 14; (with_reducible refine (same_c (O4.out.ext hy5.out) O5.out (by omega) hdm.out).mono ?_); rintro E6 w6 ⟨rfl, hr6⟩; have X6 := hid (X5.out.trans hr6); have hy6 := hid hr6; clear hr6)
        | (go_at_call 31; (with_reducible refine (cmp_is (v := 0) (Ha.out.ext (((((hy1.out.trans hy2.out).trans hy3.out).trans hy4.out).trans hy5.out).trans hy6.out)) (Hb.out.ext (((((hy1.out.trans hy2.out).trans hy3.out).trans hy4.out).trans hy5.out).trans hy6.out)) (by omega) hv.out).mono ?_); rintro E7 w7 ⟨rfl, hr7⟩; have X7 := hid (X6.out.trans hr7); have hy7 := hid hr7; clear hr7)
        | (go_at_call 24; (with_reducible refine (known_any3).mono ?_); rintro E8 w8 ⟨rfl, hr8⟩; have X8 := hid (X7.out.trans hr8); have hy8 := hid hr8; clear hr8))
      go_ret
      exact ⟨rfl, X8.out⟩
    · have hz : Hid (p / q ≠ 0) := fun e => by have := (Nat.le_div_iff_mul_le hq.out).2 (show 1 * q ≤ p by omega); omega
      have hv : Hid (cmpN p q = 1) := cmpN_gt hpq
      clear hpq hq0
      go_enter Try.func10, Try.ntmps10
      go_wp2_with (first
        | (go_at_call 23; (with_reducible refine (bits_v Hb.out (by omega)).mono ?_); rintro Es1 ws1 ⟨rfl, rfl⟩)
        | (go_at_call 25; (with_reducible refine (divmod_v Ha.out Hb.out (by omega) hq.out).mono ?_); rintro E1 w1 ⟨A1, n1, c1, B1, m1, d1, rfl, o1, p1, hr1⟩; have O1 := hid o1; have P1 := hid p1; clear o1 p1; have X1 := hid ((Ext.refl _).trans hr1); have hy1 := hid hr1; clear hr1; have hl1 : (0 : Int) < n1 := (by have := O1.out.lenp hz.out; omega))
        | (go_at_call 31; (with_reducible refine (cmp_is (v := -1) P1.out.nv (Hb.out.ext hy1.out) (by omega) hlt.out).mono ?_); rintro E2 w2 ⟨rfl, hr2⟩; have X2 := hid (X1.out.trans hr2); have hy2 := hid hr2; clear hr2)
        | (go_at_call 17; (with_reducible refine (mul_v (O1.out.nv.ext hy2.out) (Hb.out.ext (hy1.out.trans hy2.out)) (by omega)).mono ?_); rintro E3 w3 ⟨A3, n3, c3, rfl, o3, hr3⟩; have O3 := hid o3; clear o3; have X3 := hid (X2.out.trans hr3); have hy3 := hid hr3; clear hr3)
        | (go_at_call 20; (with_reducible refine (add_v O3.out.nv (P1.out.nv.ext (hy2.out.trans hy3.out)) (by omega)).mono ?_); rintro E4 w4 ⟨A4, n4, c4, rfl, o4, hr4⟩; have O4 := hid o4; clear o4; have X4 := hid (X3.out.trans hr4); have hy4 := hid hr4; clear hr4)
        | (go_at_call 22; (with_reducible refine (trim_v (Ha.out.ext (((hy1.out.trans hy2.out).trans hy3.out).trans hy4.out)) (by omega)).mono ?_); rintro E5 w5 ⟨A5, n5, c5, rfl, o5, hr5⟩; have O5 := hid o5; clear o5; have X5 := hid (X4.out.trans hr5); have hy5 := hid hr5; clear hr5)
        | (go_at_call 14; (with_reducible refine (same_c (O4.out.ext hy5.out) O5.out (by omega) hdm.out).mono ?_); rintro E6 w6 ⟨rfl, hr6⟩; have X6 := hid (X5.out.trans hr6); have hy6 := hid hr6; clear hr6)
        | (go_at_call 31; (with_reducible refine (cmp_is (v := 1) (Ha.out.ext (((((hy1.out.trans hy2.out).trans hy3.out).trans hy4.out).trans hy5.out).trans hy6.out)) (Hb.out.ext (((((hy1.out.trans hy2.out).trans hy3.out).trans hy4.out).trans hy5.out).trans hy6.out)) (by omega) hv.out).mono ?_); rintro E7 w7 ⟨rfl, hr7⟩; have X7 := hid (X6.out.trans hr7); have hy7 := hid hr7; clear hr7)
        | (go_at_call 24; (with_reducible refine (known_any3).mono ?_); rintro E8 w8 ⟨rfl, hr8⟩; have X8 := hid (X7.out.trans hr8); have hy8 := hid hr8; clear hr8))
      go_ret
      exact ⟨rfl, X8.out⟩

set_option maxHeartbeats 6400000 in
set_option maxRecDepth 100000 in
theorem divideMakes_any {w : World} {Aa Ab : Option Addr} {na ca nb cb : Nat} {xa xb : List Nat} (ha : Sl .u32 w Aa na ca xa) (la : Lim 4294967296 xa) (hb : Sl .u32 w Ab nb cb xb) (lb : Lim 4294967296 xb) :
    Calls Try.prog 10 #[.slice Aa na ca, .slice Ab nb cb] w (RetE (.bool true) w) := by
  by_cases ba : na ≤ 200
  · by_cases bb : nb ≤ 200
    · exact divideMakes_small (Nv.mk ha la ba) ba (Nv.mk hb lb bb) bb
    · have bb' : (200 : Int) < nb := by omega
      clear ha hb la lb
      go_enter Try.func10, Try.ntmps10
      go_wp2_with (go_at_call 24; refine known_any3.mono ?_; rintro E1 w1 ⟨rfl, hx1⟩)
      go_ret
      exact ⟨rfl, hx1⟩
  · have ba' : (200 : Int) < na := by omega
    clear ha hb la lb
    go_enter Try.func10, Try.ntmps10
    go_wp2_with (go_at_call 24; refine known_any3.mono ?_; rintro E1 w1 ⟨rfl, hx1⟩)
    go_ret
    exact ⟨rfl, hx1⟩

end Go.Proofs.Ytacihclonpbngaa
