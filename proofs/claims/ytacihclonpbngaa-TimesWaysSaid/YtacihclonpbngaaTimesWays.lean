
/-
  The walk of the statement TimesWays. Printed by wip/gen/law2.py.
-/
import Derived.Test.YtacihclonpbngaaKnownT
namespace Go.Proofs.Ytacihclonpbngaa
open Go.RowKit
open Go.Lib (hid)

set_option maxHeartbeats 6400000 in
set_option maxRecDepth 100000 in
theorem timesWays_small {w : World} {Aa Ab : Option Addr} {na ca p nb cb q : Nat} (ha : Nv 300 w Aa na ca p) (ba : na ≤ 300) (hb : Nv 300 w Ab nb cb q) (bb : nb ≤ 300) :
    Calls Try.prog 4 #[.slice Aa na ca, .slice Ab nb cb] w (RetE (.bool true) w) := by
  have Ha := hid ha
  have Hb := hid hb
  clear ha hb
  have hcm : Hid (q * p = p * q) := Nat.mul_comm _ _
  by_cases hz : p * q = 0
  · have hz := hid hz
    go_enter Try.func4, Try.ntmps4
    go_wp2_with (first
      | (go_at_call 15; (with_reducible refine (trows_v Ha.out Hb.out (by omega)).mono ?_); rintro E1 w1 ⟨A1, n1, c1, rfl, o1, hr1⟩; have O1 := hid o1; clear o1; have X1 := hid ((Ext.refl _).trans hr1); have hy1 := hid hr1; clear hr1; have hl1 := O1.out.len0 hz.out; subst hl1)
      | (go_at_call 16; (with_reducible refine (split_v (Ha.out.ext hy1.out) (Hb.out.ext hy1.out) (by omega)).mono ?_); rintro E2 w2 ⟨A2, n2, c2, rfl, o2, hr2⟩; have O2 := hid o2; clear o2; have X2 := hid (X1.out.trans hr2); have hy2 := hid hr2; clear hr2)
      | (go_at_call 14; (with_reducible refine (same_c O2.out (O1.out.ext hy2.out) (by omega) rfl).mono ?_); rintro E3 w3 ⟨rfl, hr3⟩; have X3 := hid (X2.out.trans hr3); have hy3 := hid hr3; clear hr3)
      | (go_at_call 17; (with_reducible refine (mul_v (Ha.out.ext ((hy1.out.trans hy2.out).trans hy3.out)) (Hb.out.ext ((hy1.out.trans hy2.out).trans hy3.out)) (by omega)).mono ?_); rintro E4 w4 ⟨A4, n4, c4, rfl, o4, hr4⟩; have O4 := hid o4; clear o4; have X4 := hid (X3.out.trans hr4); have hy4 := hid hr4; clear hr4)
      | (go_at_call 14; (with_reducible refine (same_c O4.out (O1.out.ext ((hy2.out.trans hy3.out).trans hy4.out)) (by omega) rfl).mono ?_); rintro E5 w5 ⟨rfl, hr5⟩; have X5 := hid (X4.out.trans hr5); have hy5 := hid hr5; clear hr5)
      | (go_at_call 17; (with_reducible refine (mul_v (Hb.out.ext ((((hy1.out.trans hy2.out).trans hy3.out).trans hy4.out).trans hy5.out)) (Ha.out.ext ((((hy1.out.trans hy2.out).trans hy3.out).trans hy4.out).trans hy5.out)) (by omega)).mono ?_); rintro E6 w6 ⟨A6, n6, c6, rfl, o6, hr6⟩; have O6 := hid o6; clear o6; have X6 := hid (X5.out.trans hr6); have hy6 := hid hr6; clear hr6)
      | (go_at_call 14; (with_reducible refine (same_c O6.out (O1.out.ext ((((hy2.out.trans hy3.out).trans hy4.out).trans hy5.out).trans hy6.out)) (by omega) hcm.out).mono ?_); rintro E7 w7 ⟨rfl, hr7⟩; have X7 := hid (X6.out.trans hr7); have hy7 := hid hr7; clear hr7)
      | (go_at_call 12; (with_reducible refine (known_any2).mono ?_); rintro E8 w8 ⟨rfl, hr8⟩; have X8 := hid (X7.out.trans hr8); have hy8 := hid hr8; clear hr8))
    go_ret
    exact ⟨rfl, X8.out⟩
  · have hz : Hid (p * q ≠ 0) := hz
    go_enter Try.func4, Try.ntmps4
    go_wp2_with (first
      | (go_at_call 15; (with_reducible refine (trows_v Ha.out Hb.out (by omega)).mono ?_); rintro E1 w1 ⟨A1, n1, c1, rfl, o1, hr1⟩; have O1 := hid o1; clear o1; have X1 := hid ((Ext.refl _).trans hr1); have hy1 := hid hr1; clear hr1; obtain ⟨j1, g1, y1, rfl, rfl, hy11, hc1⟩ := O1.out.top hz.out; have hxn1 : ((y1 : Int) != 0) = true := (by rw [bne_iff_ne]; omega); have hne1 : ((j1 : Int) + 1 == 0) = false := beq_eq_false_iff_ne.2 (by omega); have HC1 := hid hc1; have hjb1 : j1 ≤ 600 := (by have := O1.out.2; omega); clear hc1 hy11)
      | (go_at_call 16; (with_reducible refine (split_v (Ha.out.ext hy1.out) (Hb.out.ext hy1.out) (by omega)).mono ?_); rintro E2 w2 ⟨A2, n2, c2, rfl, o2, hr2⟩; have O2 := hid o2; clear o2; have X2 := hid (X1.out.trans hr2); have hy2 := hid hr2; clear hr2)
      | (go_at_call 14; (with_reducible refine (same_c O2.out (O1.out.ext hy2.out) (by omega) rfl).mono ?_); rintro E3 w3 ⟨rfl, hr3⟩; have X3 := hid (X2.out.trans hr3); have hy3 := hid hr3; clear hr3)
      | (go_at_call 17; (with_reducible refine (mul_v (Ha.out.ext ((hy1.out.trans hy2.out).trans hy3.out)) (Hb.out.ext ((hy1.out.trans hy2.out).trans hy3.out)) (by omega)).mono ?_); rintro E4 w4 ⟨A4, n4, c4, rfl, o4, hr4⟩; have O4 := hid o4; clear o4; have X4 := hid (X3.out.trans hr4); have hy4 := hid hr4; clear hr4)
      | (go_at_call 14; (with_reducible refine (same_c O4.out (O1.out.ext ((hy2.out.trans hy3.out).trans hy4.out)) (by omega) rfl).mono ?_); rintro E5 w5 ⟨rfl, hr5⟩; have X5 := hid (X4.out.trans hr5); have hy5 := hid hr5; clear hr5)
      | (go_at_call 17; (with_reducible refine (mul_v (Hb.out.ext ((((hy1.out.trans hy2.out).trans hy3.out).trans hy4.out).trans hy5.out)) (Ha.out.ext ((((hy1.out.trans hy2.out).trans hy3.out).trans hy4.out).trans hy5.out)) (by omega)).mono ?_); rintro E6 w6 ⟨A6, n6, c6, rfl, o6, hr6⟩; have O6 := hid o6; clear o6; have X6 := hid (X5.out.trans hr6); have hy6 := hid hr6; clear hr6)
      | (go_at_call 14; (with_reducible refine (same_c O6.out (O1.out.ext ((((hy2.out.trans hy3.out).trans hy4.out).trans hy5.out).trans hy6.out)) (by omega) hcm.out).mono ?_); rintro E7 w7 ⟨rfl, hr7⟩; have X7 := hid (X6.out.trans hr7); have hy7 := hid hr7;  have gl := HC1.out _ ((((((hy2.out.trans hy3.out).trans hy4.out).trans hy5.out).trans hy6.out).trans hy7.out)))
      | (go_at_call 12; (with_reducible refine (known_any2).mono ?_); rintro E8 w8 ⟨rfl, hr8⟩; have X8 := hid (X7.out.trans hr8); have hy8 := hid hr8; clear hr8))
    go_ret
    exact ⟨rfl, X8.out⟩

set_option maxHeartbeats 6400000 in
set_option maxRecDepth 100000 in
theorem timesWays_any {w : World} {Aa Ab : Option Addr} {na ca nb cb : Nat} {xa xb : List Nat} (ha : Sl .u32 w Aa na ca xa) (la : Lim 4294967296 xa) (hb : Sl .u32 w Ab nb cb xb) (lb : Lim 4294967296 xb) :
    Calls Try.prog 4 #[.slice Aa na ca, .slice Ab nb cb] w (RetE (.bool true) w) := by
  by_cases ba : na ≤ 300
  · by_cases bb : nb ≤ 300
    · exact timesWays_small (Nv.mk ha la ba) ba (Nv.mk hb lb bb) bb
    · have bb' : (300 : Int) < nb := by omega
      clear ha hb la lb
      go_enter Try.func4, Try.ntmps4
      go_wp2_with (go_at_call 12; refine known_any2.mono ?_; rintro E1 w1 ⟨rfl, hx1⟩)
      go_ret
      exact ⟨rfl, hx1⟩
  · have ba' : (300 : Int) < na := by omega
    clear ha hb la lb
    go_enter Try.func4, Try.ntmps4
    go_wp2_with (go_at_call 12; refine known_any2.mono ?_; rintro E1 w1 ⟨rfl, hx1⟩)
    go_ret
    exact ⟨rfl, hx1⟩

end Go.Proofs.Ytacihclonpbngaa
