
/-
  The walk of the statement TimesShifts. Printed by wip/gen/law2.py.
-/
import Derived.Test.YtacihclonpbngaaKnownT
namespace Go.Proofs.Ytacihclonpbngaa
open Go.RowKit
open Go.Lib (hid)

set_option maxHeartbeats 6400000 in
set_option maxRecDepth 100000 in
theorem timesShifts_small {w : World} {Aa : Option Addr} {na ca p k n : Nat} (ha : Nv 200 w Aa na ca p) (ba : na ≤ 200) (hk : k < 256) (hn0 : n < 4294967296) :
    Calls Try.prog 5 #[.slice Aa na ca, .int .u8 k, .int .u32 n] w (RetE (.bool true) w) := by
  have Ha := hid ha
  have hn := hid hn0
  have hbl0 : 2 ^ (k % 32) < 4294967296 := Nat.lt_of_le_of_lt (Nat.pow_le_pow_right (n := 2) (by omega) (show k % 32 ≤ 31 by omega)) (by decide)
  have hbl := hid hbl0
  have hby : Hid ((2 : Int) ^ (k % 32) % 4294967296 = ((2 ^ (k % 32) : Nat) : Int)) := by
    show _ = _
    rw [pow_cast]; exact (show ∀ y : Nat, y < 4294967296 → (y : Int) % 4294967296 = y by intro y h; omega) _ hbl0
  clear ha hbl0
  go_enter Try.func5, Try.ntmps5
  go_wp2_with (first
    | (go_at_call 19; (with_reducible refine (shl_v (v := k % 32) (V := (k : Int) % 32) (by omega) Ha.out (by omega) (by omega)).mono ?_); rintro E1 w1 ⟨A1, n1, c1, rfl, o1, hr1⟩; have O1 := hid o1; clear o1; have X1 := hid ((Ext.refl _).trans hr1); have hy1 := hid hr1; clear hr1)
    | (go_at_call 18; (with_reducible refine (limb_v hby.out hbl.out (Ha.out.ext hy1.out) (by omega)).mono ?_); rintro E2 w2 ⟨A2, n2, c2, rfl, o2, hr2⟩; have O2 := hid o2; clear o2; have X2 := hid (X1.out.trans hr2); have hy2 := hid hr2; clear hr2)
    | (go_at_call 14; (with_reducible refine (same_c O2.out (O1.out.ext hy2.out) (by omega) rfl).mono ?_); rintro E3 w3 ⟨rfl, hr3⟩; have X3 := hid (X2.out.trans hr3); have hy3 := hid hr3; clear hr3)
    | ((with_reducible refine wpl_lit1 (w0 := w) X3.out rfl _ _ rfl 23 .u32 4 Try.underlying22 info_u32 _ (2 ^ (k % 32)) rfl hby.out ?_); intro g4 w4 hg4 o4 hx4 hr4; have O4 := hid o4; have X4 := hid hx4; have hy4 := hid hr4; clear o4 hx4 hr4 hg4)
    | (go_at_call 17; (with_reducible refine (mul_v (lit_nv1 O4.out hbl.out) (Ha.out.ext (((hy1.out.trans hy2.out).trans hy3.out).trans hy4.out)) (by omega)).mono ?_); rintro E5 w5 ⟨A5, n5, c5, rfl, o5, hr5⟩; have O5 := hid o5; clear o5; have X5 := hid (X4.out.trans hr5); have hy5 := hid hr5; clear hr5)
    | (go_at_call 14; (with_reducible refine (same_c O5.out (O1.out.ext (((hy2.out.trans hy3.out).trans hy4.out).trans hy5.out)) (by omega) (Nat.mul_comm _ _)).mono ?_); rintro E6 w6 ⟨rfl, hr6⟩; have X6 := hid (X5.out.trans hr6); have hy6 := hid hr6; clear hr6)
    | (go_at_call 18; (with_reducible refine (limb_v (v := 0) (V := 0) (by omega) (by omega) (Ha.out.ext (((((hy1.out.trans hy2.out).trans hy3.out).trans hy4.out).trans hy5.out).trans hy6.out)) (by omega)).mono ?_); rintro E7 w7 ⟨A7, n7, c7, rfl, o7, hr7⟩; have O7 := hid o7; clear o7; have X7 := hid (X6.out.trans hr7); have hy7 := hid hr7; clear hr7; have hl7 := O7.out.len0 (Nat.mul_zero _); subst hl7)
    | (go_at_call 21; (with_reducible refine (small_v (v := n) rfl (by omega)).mono ?_); rintro E8 w8 ⟨A8, n8, c8, rfl, o8, hr8⟩; have O8 := hid o8; clear o8; have X8 := hid (X7.out.trans hr8); have hy8 := hid hr8; clear hr8)
    | ((with_reducible refine wpl_lit1 (w0 := w) X8.out rfl _ _ rfl 23 .u32 4 Try.underlying22 info_u32 _ 1 rfl rfl ?_); intro g9 w9 hg9 o9 hx9 hr9; have O9 := hid o9; have X9 := hid hx9; have hy9 := hid hr9; clear o9 hx9 hr9 hg9)
    | (go_at_call 20; (with_reducible refine (add_v (O8.out.nv.ext hy9.out) (lit_nv1 O9.out (by omega)) (by omega)).mono ?_); rintro E10 w10 ⟨A10, n10, c10, rfl, o10, hr10⟩; have O10 := hid o10; clear o10; have X10 := hid (X9.out.trans hr10); have hy10 := hid hr10; clear hr10)
    | (go_at_call 17; (with_reducible refine (mul_v (Ha.out.ext (((((((((hy1.out.trans hy2.out).trans hy3.out).trans hy4.out).trans hy5.out).trans hy6.out).trans hy7.out).trans hy8.out).trans hy9.out).trans hy10.out)) O10.out.nv (by omega)).mono ?_); rintro E11 w11 ⟨A11, n11, c11, rfl, o11, hr11⟩; have O11 := hid o11; clear o11; have X11 := hid (X10.out.trans hr11); have hy11 := hid hr11; clear hr11)
    | (go_at_call 18; (with_reducible refine (limb_v (v := n) rfl hn.out (Ha.out.ext ((((((((((hy1.out.trans hy2.out).trans hy3.out).trans hy4.out).trans hy5.out).trans hy6.out).trans hy7.out).trans hy8.out).trans hy9.out).trans hy10.out).trans hy11.out)) (by omega)).mono ?_); rintro E12 w12 ⟨A12, n12, c12, rfl, o12, hr12⟩; have O12 := hid o12; clear o12; have X12 := hid (X11.out.trans hr12); have hy12 := hid hr12; clear hr12)
    | (go_at_call 20; (with_reducible refine (add_v O12.out.nv (Ha.out.ext (((((((((((hy1.out.trans hy2.out).trans hy3.out).trans hy4.out).trans hy5.out).trans hy6.out).trans hy7.out).trans hy8.out).trans hy9.out).trans hy10.out).trans hy11.out).trans hy12.out)) (by omega)).mono ?_); rintro E13 w13 ⟨A13, n13, c13, rfl, o13, hr13⟩; have O13 := hid o13; clear o13; have X13 := hid (X12.out.trans hr13); have hy13 := hid hr13; clear hr13)
    | (go_at_call 14; (with_reducible refine (same_c (O11.out.ext (hy12.out.trans hy13.out)) O13.out (by omega) (Nat.mul_succ _ _)).mono ?_); rintro E14 w14 ⟨rfl, hr14⟩; have X14 := hid (X13.out.trans hr14); have hy14 := hid hr14; clear hr14)
    | (go_at_call 16; (with_reducible refine (split_v (Ha.out.ext (((((((((((((hy1.out.trans hy2.out).trans hy3.out).trans hy4.out).trans hy5.out).trans hy6.out).trans hy7.out).trans hy8.out).trans hy9.out).trans hy10.out).trans hy11.out).trans hy12.out).trans hy13.out).trans hy14.out)) (O10.out.nv.ext (((hy11.out.trans hy12.out).trans hy13.out).trans hy14.out)) (by omega)).mono ?_); rintro E15 w15 ⟨A15, n15, c15, rfl, o15, hr15⟩; have O15 := hid o15; clear o15; have X15 := hid (X14.out.trans hr15); have hy15 := hid hr15; clear hr15)
    | (go_at_call 15; (with_reducible refine (trows_v (O10.out.nv.ext ((((hy11.out.trans hy12.out).trans hy13.out).trans hy14.out).trans hy15.out)) (Ha.out.ext ((((((((((((((hy1.out.trans hy2.out).trans hy3.out).trans hy4.out).trans hy5.out).trans hy6.out).trans hy7.out).trans hy8.out).trans hy9.out).trans hy10.out).trans hy11.out).trans hy12.out).trans hy13.out).trans hy14.out).trans hy15.out)) (by omega)).mono ?_); rintro E16 w16 ⟨A16, n16, c16, rfl, o16, hr16⟩; have O16 := hid o16; clear o16; have X16 := hid (X15.out.trans hr16); have hy16 := hid hr16; clear hr16)
    | (go_at_call 14; (with_reducible refine (same_c (O15.out.ext hy16.out) O16.out (by omega) (Nat.mul_comm _ _)).mono ?_); rintro E17 w17 ⟨rfl, hr17⟩; have X17 := hid (X16.out.trans hr17); have hy17 := hid hr17; clear hr17)
    | (go_at_call 12; (with_reducible refine (known_any2).mono ?_); rintro E18 w18 ⟨rfl, hr18⟩; have X18 := hid (X17.out.trans hr18); have hy18 := hid hr18; clear hr18))
  go_ret
  exact ⟨rfl, X18.out⟩

set_option maxHeartbeats 6400000 in
set_option maxRecDepth 100000 in
theorem timesShifts_any {w : World} {Aa : Option Addr} {na ca : Nat} {xa : List Nat} (ha : Sl .u32 w Aa na ca xa) (la : Lim 4294967296 xa) {k n : Int} (k0 : 0 ≤ k) (k1 : k ≤ 255) (m0 : 0 ≤ n) (m1 : n ≤ 4294967295) :
    Calls Try.prog 5 #[.slice Aa na ca, .int .u8 k, .int .u32 n] w (RetE (.bool true) w) := by
  obtain ⟨k, rfl⟩ := Int.eq_ofNat_of_zero_le k0
  obtain ⟨n, rfl⟩ := Int.eq_ofNat_of_zero_le m0
  by_cases ba : na ≤ 200
  · exact timesShifts_small (Nv.mk ha la ba) ba (by omega) (by omega)
  · have ba' : (200 : Int) < na := by omega
    clear ha la
    go_enter Try.func5, Try.ntmps5
    go_wp2_with (go_at_call 12; refine known_any2.mono ?_; rintro E1 w1 ⟨rfl, hx1⟩)
    go_ret
    exact ⟨rfl, hx1⟩

end Go.Proofs.Ytacihclonpbngaa
