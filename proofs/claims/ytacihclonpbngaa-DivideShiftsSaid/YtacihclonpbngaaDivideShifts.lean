
/-
  The walk of the statement DivideShifts. Printed by wip/gen/law3.py.
-/
import Derived.Test.YtacihclonpbngaaKnownD
namespace Go.Proofs.Ytacihclonpbngaa
open Go.RowKit
open Go.Lib (hid)

set_option maxHeartbeats 6400000 in
set_option maxRecDepth 100000 in
theorem divideShifts_small {w : World} {Aa : Option Addr} {na ca p n d : Nat} (ha : Nv 200 w Aa na ca p) (ba : na ≤ 200) (hn : n ≤ 2000) (hd1 : d < 4294967296) :
    Calls Try.prog 8 #[.slice Aa na ca, .int .u16 n, .int .u32 d] w (RetE (.bool true) w) := by
  have Ha := hid ha
  have hd := hid hd1
  have hpw : Hid (0 < 1 * 2 ^ n) := (by show 0 < 1 * 2 ^ n; rw [Nat.one_mul]; exact Nat.two_pow_pos n)
  have hq1 : Hid (p / (1 * 2 ^ n) = p / 2 ^ n) := (by show _ = _; rw [Nat.one_mul])
  have hq2 : Hid (p / 2 ^ n * 2 ^ n + p % (1 * 2 ^ n) = p) := (by show _ = _; rw [Nat.one_mul]; exact Nat.div_add_mod' _ _)
  clear ha
  by_cases hp0 : p = 0
  · have hb0 : bl p = 0 := by rw [hp0]; rfl
    clear hp0
    by_cases hd0 : d = 0
    · subst hd0
      go_enter Try.func8, Try.ntmps8
      go_wp2_with (first
        | ((with_reducible refine wpl_lit1 (w0 := w) (Ext.refl _) rfl _ _ rfl 23 .u32 4 Try.underlying22 info_u32 _ 1 rfl rfl ?_); intro g1 w1 hg1 o1 hx1 hr1; have O1 := hid o1; have X1 := hid hx1; have hy1 := hid hr1; clear o1 hx1 hr1 hg1)
        | (go_at_call 19; (with_reducible refine (shl_v (v := n) rfl (lit_nv1 O1.out (by omega)) (by omega) (by omega)).mono ?_); rintro E2 w2 ⟨A2, n2, c2, rfl, o2, hr2⟩; have O2 := hid o2; clear o2; have X2 := hid (X1.out.trans hr2); have hy2 := hid hr2; clear hr2)
        | (go_at_call 25; (with_reducible refine (divmod_v (Ha.out.ext (hy1.out.trans hy2.out)) O2.out.nv (by omega) hpw.out).mono ?_); rintro E3 w3 ⟨A3, n3, c3, B3, m3, d3, rfl, o3, p3, hr3⟩; have O3 := hid o3; have P3 := hid p3; clear o3 p3; have X3 := hid (X2.out.trans hr3); have hy3 := hid hr3; clear hr3)
        | (go_at_call 30; (with_reducible refine (shr_v (v := n) rfl (Ha.out.ext ((hy1.out.trans hy2.out).trans hy3.out)) (by omega) (by omega)).mono ?_); rintro E4 w4 ⟨A4, n4, c4, rfl, o4, hr4⟩; have O4 := hid o4; clear o4; have X4 := hid (X3.out.trans hr4); have hy4 := hid hr4; clear hr4)
        | (go_at_call 19; (with_reducible refine (shl_v (v := n) rfl O4.out.nv (by omega) (by omega)).mono ?_); rintro E5 w5 ⟨A5, n5, c5, rfl, o5, hr5⟩; have O5 := hid o5; clear o5; have X5 := hid (X4.out.trans hr5); have hy5 := hid hr5; clear hr5)
        | (go_at_call 14; (with_reducible refine (same_c (O3.out.ext (hy4.out.trans hy5.out)) (O4.out.ext hy5.out) (by omega) hq1.out).mono ?_); rintro E6 w6 ⟨rfl, hr6⟩; have X6 := hid (X5.out.trans hr6); have hy6 := hid hr6; clear hr6)
        | (go_at_call 20; (with_reducible refine (add_v (O5.out.nv.ext hy6.out) (P3.out.nv.ext ((hy4.out.trans hy5.out).trans hy6.out)) (by omega)).mono ?_); rintro E7 w7 ⟨A7, n7, c7, rfl, o7, hr7⟩; have O7 := hid o7; clear o7; have X7 := hid (X6.out.trans hr7); have hy7 := hid hr7; clear hr7)
        | (go_at_call 22; (with_reducible refine (trim_v (Ha.out.ext ((((((hy1.out.trans hy2.out).trans hy3.out).trans hy4.out).trans hy5.out).trans hy6.out).trans hy7.out)) (by omega)).mono ?_); rintro E8 w8 ⟨A8, n8, c8, rfl, o8, hr8⟩; have O8 := hid o8; clear o8; have X8 := hid (X7.out.trans hr8); have hy8 := hid hr8; clear hr8)
        | (go_at_call 14; (with_reducible refine (same_c (O7.out.ext hy8.out) O8.out (by omega) hq2.out).mono ?_); rintro E9 w9 ⟨rfl, hr9⟩; have X9 := hid (X8.out.trans hr9); have hy9 := hid hr9; clear hr9)
        | ((with_reducible refine wpl_lit1 (w0 := w) X9.out rfl _ _ rfl 23 .u32 4 Try.underlying22 info_u32 _ 1 rfl rfl ?_); intro g10 w10 hg10 o10 hx10 hr10; have O10 := hid o10; have X10 := hid hx10; have hy10 := hid hr10; clear o10 hx10 hr10 hg10)
        | (go_at_call 26; (with_reducible refine (exact_yes (Ha.out.ext (((((((((hy1.out.trans hy2.out).trans hy3.out).trans hy4.out).trans hy5.out).trans hy6.out).trans hy7.out).trans hy8.out).trans hy9.out).trans hy10.out)) (lit_nv1 O10.out (by omega)) (by omega) (by omega) (Nat.mod_one _)).mono ?_); rintro E11 w11 ⟨A11, n11, c11, rfl, o11, hr11⟩; have O11 := hid o11; clear o11; have X11 := hid (X10.out.trans hr11); have hy11 := hid hr11; clear hr11)
        | (go_at_call 22; (with_reducible refine (trim_v (Ha.out.ext ((((((((((hy1.out.trans hy2.out).trans hy3.out).trans hy4.out).trans hy5.out).trans hy6.out).trans hy7.out).trans hy8.out).trans hy9.out).trans hy10.out).trans hy11.out)) (by omega)).mono ?_); rintro E12 w12 ⟨A12, n12, c12, rfl, o12, hr12⟩; have O12 := hid o12; clear o12; have X12 := hid (X11.out.trans hr12); have hy12 := hid hr12; clear hr12)
        | (go_at_call 14; (with_reducible refine (same_c (O11.out.ext hy12.out) O12.out (by omega) (Nat.div_one _)).mono ?_); rintro E13 w13 ⟨rfl, hr13⟩; have X13 := hid (X12.out.trans hr13); have hy13 := hid hr13; clear hr13)
        | (go_at_call 23; (with_reducible refine (bits_v (Ha.out.ext ((((((((((((hy1.out.trans hy2.out).trans hy3.out).trans hy4.out).trans hy5.out).trans hy6.out).trans hy7.out).trans hy8.out).trans hy9.out).trans hy10.out).trans hy11.out).trans hy12.out).trans hy13.out)) (by omega)).mono ?_); rintro Es14 ws14 ⟨rfl, rfl⟩)
        | (go_at_call 29; (with_reducible refine (dlimb_no).mono ?_); rintro Es14 ws14 ⟨rfl, rfl⟩)
        | (go_at_call 21; (with_reducible refine (small_v (v := 0) (V := 0) (by omega) (by omega)).mono ?_); rintro E14 w14 ⟨A14, n14, c14, rfl, o14, hr14⟩; have O14 := hid o14; clear o14; have X14 := hid (X13.out.trans hr14); have hy14 := hid hr14; clear hr14)
        | (go_at_call 25; (with_reducible refine (divmod_zero (Ha.out.ext (((((((((((((hy1.out.trans hy2.out).trans hy3.out).trans hy4.out).trans hy5.out).trans hy6.out).trans hy7.out).trans hy8.out).trans hy9.out).trans hy10.out).trans hy11.out).trans hy12.out).trans hy13.out).trans hy14.out)) O14.out.nv (by omega)).mono ?_); rintro E15 w15 ⟨A15, n15, c15, B15, m15, d15, rfl, o15, p15, hr15⟩; have O15 := hid o15; have P15 := hid p15; clear o15 p15; have X15 := hid (X14.out.trans hr15); have hy15 := hid hr15; clear hr15)
        | (go_at_call 14; (with_reducible refine (same_c (Cn.none (lo := 0) (K := 0)) O15.out (by omega) rfl).mono ?_); rintro E16 w16 ⟨rfl, hr16⟩; have X16 := hid (X15.out.trans hr16); have hy16 := hid hr16; clear hr16)
        | (go_at_call 21; (with_reducible refine (small_v (v := 0) (V := 0) (by omega) (by omega)).mono ?_); rintro E17 w17 ⟨A17, n17, c17, rfl, o17, hr17⟩; have O17 := hid o17; clear o17; have X17 := hid (X16.out.trans hr17); have hy17 := hid hr17; clear hr17)
        | (go_at_call 14; (with_reducible refine (same_c O17.out (P15.out.ext (hy16.out.trans hy17.out)) (by omega) rfl).mono ?_); rintro E18 w18 ⟨rfl, hr18⟩; have X18 := hid (X17.out.trans hr18); have hy18 := hid hr18; clear hr18)
        | (go_at_call 24; (with_reducible refine (known_any3).mono ?_); rintro E19 w19 ⟨rfl, hr19⟩; have X19 := hid (X18.out.trans hr19); have hy19 := hid hr19; clear hr19))
      go_ret
      exact ⟨rfl, X19.out⟩
    · have hd0 : Hid (0 < d) := (by show 0 < d; omega)
      have hmd : Hid (p % d < 18446744073709551616) := (by show _ < _; have := Nat.mod_lt p hd0.out; have := hd.out; omega)
      go_enter Try.func8, Try.ntmps8
      go_wp2_with (first
        | ((with_reducible refine wpl_lit1 (w0 := w) (Ext.refl _) rfl _ _ rfl 23 .u32 4 Try.underlying22 info_u32 _ 1 rfl rfl ?_); intro g1 w1 hg1 o1 hx1 hr1; have O1 := hid o1; have X1 := hid hx1; have hy1 := hid hr1; clear o1 hx1 hr1 hg1)
        | (go_at_call 19; (with_reducible refine (shl_v (v := n) rfl (lit_nv1 O1.out (by omega)) (by omega) (by omega)).mono ?_); rintro E2 w2 ⟨A2, n2, c2, rfl, o2, hr2⟩; have O2 := hid o2; clear o2; have X2 := hid (X1.out.trans hr2); have hy2 := hid hr2; clear hr2)
        | (go_at_call 25; (with_reducible refine (divmod_v (Ha.out.ext (hy1.out.trans hy2.out)) O2.out.nv (by omega) hpw.out).mono ?_); rintro E3 w3 ⟨A3, n3, c3, B3, m3, d3, rfl, o3, p3, hr3⟩; have O3 := hid o3; have P3 := hid p3; clear o3 p3; have X3 := hid (X2.out.trans hr3); have hy3 := hid hr3; clear hr3)
        | (go_at_call 30; (with_reducible refine (shr_v (v := n) rfl (Ha.out.ext ((hy1.out.trans hy2.out).trans hy3.out)) (by omega) (by omega)).mono ?_); rintro E4 w4 ⟨A4, n4, c4, rfl, o4, hr4⟩; have O4 := hid o4; clear o4; have X4 := hid (X3.out.trans hr4); have hy4 := hid hr4; clear hr4)
        | (go_at_call 19; (with_reducible refine (shl_v (v := n) rfl O4.out.nv (by omega) (by omega)).mono ?_); rintro E5 w5 ⟨A5, n5, c5, rfl, o5, hr5⟩; have O5 := hid o5; clear o5; have X5 := hid (X4.out.trans hr5); have hy5 := hid hr5; clear hr5)
        | (go_at_call 14; (with_reducible refine (same_c (O3.out.ext (hy4.out.trans hy5.out)) (O4.out.ext hy5.out) (by omega) hq1.out).mono ?_); rintro E6 w6 ⟨rfl, hr6⟩; have X6 := hid (X5.out.trans hr6); have hy6 := hid hr6; clear hr6)
        | (go_at_call 20; (with_reducible refine (add_v (O5.out.nv.ext hy6.out) (P3.out.nv.ext ((hy4.out.trans hy5.out).trans hy6.out)) (by omega)).mono ?_); rintro E7 w7 ⟨A7, n7, c7, rfl, o7, hr7⟩; have O7 := hid o7; clear o7; have X7 := hid (X6.out.trans hr7); have hy7 := hid hr7; clear hr7)
        | (go_at_call 22; (with_reducible refine (trim_v (Ha.out.ext ((((((hy1.out.trans hy2.out).trans hy3.out).trans hy4.out).trans hy5.out).trans hy6.out).trans hy7.out)) (by omega)).mono ?_); rintro E8 w8 ⟨A8, n8, c8, rfl, o8, hr8⟩; have O8 := hid o8; clear o8; have X8 := hid (X7.out.trans hr8); have hy8 := hid hr8; clear hr8)
        | (go_at_call 14; (with_reducible refine (same_c (O7.out.ext hy8.out) O8.out (by omega) hq2.out).mono ?_); rintro E9 w9 ⟨rfl, hr9⟩; have X9 := hid (X8.out.trans hr9); have hy9 := hid hr9; clear hr9)
        | ((with_reducible refine wpl_lit1 (w0 := w) X9.out rfl _ _ rfl 23 .u32 4 Try.underlying22 info_u32 _ 1 rfl rfl ?_); intro g10 w10 hg10 o10 hx10 hr10; have O10 := hid o10; have X10 := hid hx10; have hy10 := hid hr10; clear o10 hx10 hr10 hg10)
        | (go_at_call 26; (with_reducible refine (exact_yes (Ha.out.ext (((((((((hy1.out.trans hy2.out).trans hy3.out).trans hy4.out).trans hy5.out).trans hy6.out).trans hy7.out).trans hy8.out).trans hy9.out).trans hy10.out)) (lit_nv1 O10.out (by omega)) (by omega) (by omega) (Nat.mod_one _)).mono ?_); rintro E11 w11 ⟨A11, n11, c11, rfl, o11, hr11⟩; have O11 := hid o11; clear o11; have X11 := hid (X10.out.trans hr11); have hy11 := hid hr11; clear hr11)
        | (go_at_call 22; (with_reducible refine (trim_v (Ha.out.ext ((((((((((hy1.out.trans hy2.out).trans hy3.out).trans hy4.out).trans hy5.out).trans hy6.out).trans hy7.out).trans hy8.out).trans hy9.out).trans hy10.out).trans hy11.out)) (by omega)).mono ?_); rintro E12 w12 ⟨A12, n12, c12, rfl, o12, hr12⟩; have O12 := hid o12; clear o12; have X12 := hid (X11.out.trans hr12); have hy12 := hid hr12; clear hr12)
        | (go_at_call 14; (with_reducible refine (same_c (O11.out.ext hy12.out) O12.out (by omega) (Nat.div_one _)).mono ?_); rintro E13 w13 ⟨rfl, hr13⟩; have X13 := hid (X12.out.trans hr13); have hy13 := hid hr13; clear hr13)
        | (go_at_call 23; (with_reducible refine (bits_v (Ha.out.ext ((((((((((((hy1.out.trans hy2.out).trans hy3.out).trans hy4.out).trans hy5.out).trans hy6.out).trans hy7.out).trans hy8.out).trans hy9.out).trans hy10.out).trans hy11.out).trans hy12.out).trans hy13.out)) (by omega)).mono ?_); rintro Es14 ws14 ⟨rfl, rfl⟩)
        | (go_at_call 29; (with_reducible refine (dlimb_v (d := d) rfl (Ha.out.ext ((((((((((((hy1.out.trans hy2.out).trans hy3.out).trans hy4.out).trans hy5.out).trans hy6.out).trans hy7.out).trans hy8.out).trans hy9.out).trans hy10.out).trans hy11.out).trans hy12.out).trans hy13.out)) (by omega) hd0.out hd.out).mono ?_); rintro E14 w14 ⟨A14, n14, c14, rfl, o14, hr14⟩; have O14 := hid o14; clear o14; have X14 := hid (X13.out.trans hr14); have hy14 := hid hr14; clear hr14)
        | (go_at_call 21; (with_reducible refine (small_v (v := d) rfl (by have := hd.out; omega)).mono ?_); rintro E15 w15 ⟨A15, n15, c15, rfl, o15, hr15⟩; have O15 := hid o15; clear o15; have X15 := hid (X14.out.trans hr15); have hy15 := hid hr15; clear hr15)
        | (go_at_call 25; (with_reducible refine (divmod_v (Ha.out.ext ((((((((((((((hy1.out.trans hy2.out).trans hy3.out).trans hy4.out).trans hy5.out).trans hy6.out).trans hy7.out).trans hy8.out).trans hy9.out).trans hy10.out).trans hy11.out).trans hy12.out).trans hy13.out).trans hy14.out).trans hy15.out)) O15.out.nv (by omega) hd0.out).mono ?_); rintro E16 w16 ⟨A16, n16, c16, B16, m16, d16, rfl, o16, p16, hr16⟩; have O16 := hid o16; have P16 := hid p16; clear o16 p16; have X16 := hid (X15.out.trans hr16); have hy16 := hid hr16; clear hr16)
        | (go_at_call 14; (with_reducible refine (same_c (O14.out.ext (hy15.out.trans hy16.out)) O16.out (by omega) rfl).mono ?_); rintro E17 w17 ⟨rfl, hr17⟩; have X17 := hid (X16.out.trans hr17); have hy17 := hid hr17; clear hr17)
        | (go_at_call 21; (with_reducible refine (small_v (v := p % d) (V := IntKind.u64.wrap ((p : Int) % (d : Int))) (wrap_mod hd0.out hd.out) hmd.out).mono ?_); rintro E18 w18 ⟨A18, n18, c18, rfl, o18, hr18⟩; have O18 := hid o18; clear o18; have X18 := hid (X17.out.trans hr18); have hy18 := hid hr18; clear hr18)
        | (go_at_call 14; (with_reducible refine (same_c O18.out (P16.out.ext (hy17.out.trans hy18.out)) (by omega) rfl).mono ?_); rintro E19 w19 ⟨rfl, hr19⟩; have X19 := hid (X18.out.trans hr19); have hy19 := hid hr19; clear hr19)
        | (go_at_call 24; (with_reducible refine (known_any3).mono ?_); rintro E20 w20 ⟨rfl, hr20⟩; have X20 := hid (X19.out.trans hr20); have hy20 := hid hr20; clear hr20))
      go_ret
      exact ⟨rfl, X20.out⟩
  · have hp : Hid (0 < p) := (by show 0 < p; omega)
    have hb0 : (0 : Int) < (bl p : Int) := by have := (bl_bounds hp0).1; omega
    clear hp0
    by_cases hd0 : d = 0
    · subst hd0
      go_enter Try.func8, Try.ntmps8
      go_wp2_with (first
        | ((with_reducible refine wpl_lit1 (w0 := w) (Ext.refl _) rfl _ _ rfl 23 .u32 4 Try.underlying22 info_u32 _ 1 rfl rfl ?_); intro g1 w1 hg1 o1 hx1 hr1; have O1 := hid o1; have X1 := hid hx1; have hy1 := hid hr1; clear o1 hx1 hr1 hg1)
        | (go_at_call 19; (with_reducible refine (shl_v (v := n) rfl (lit_nv1 O1.out (by omega)) (by omega) (by omega)).mono ?_); rintro E2 w2 ⟨A2, n2, c2, rfl, o2, hr2⟩; have O2 := hid o2; clear o2; have X2 := hid (X1.out.trans hr2); have hy2 := hid hr2; clear hr2)
        | (go_at_call 25; (with_reducible refine (divmod_v (Ha.out.ext (hy1.out.trans hy2.out)) O2.out.nv (by omega) hpw.out).mono ?_); rintro E3 w3 ⟨A3, n3, c3, B3, m3, d3, rfl, o3, p3, hr3⟩; have O3 := hid o3; have P3 := hid p3; clear o3 p3; have X3 := hid (X2.out.trans hr3); have hy3 := hid hr3; clear hr3)
        | (go_at_call 30; (with_reducible refine (shr_v (v := n) rfl (Ha.out.ext ((hy1.out.trans hy2.out).trans hy3.out)) (by omega) (by omega)).mono ?_); rintro E4 w4 ⟨A4, n4, c4, rfl, o4, hr4⟩; have O4 := hid o4; clear o4; have X4 := hid (X3.out.trans hr4); have hy4 := hid hr4; clear hr4)
        | (go_at_call 19; (with_reducible refine (shl_v (v := n) rfl O4.out.nv (by omega) (by omega)).mono ?_); rintro E5 w5 ⟨A5, n5, c5, rfl, o5, hr5⟩; have O5 := hid o5; clear o5; have X5 := hid (X4.out.trans hr5); have hy5 := hid hr5; clear hr5)
        | (go_at_call 14; (with_reducible refine (same_c (O3.out.ext (hy4.out.trans hy5.out)) (O4.out.ext hy5.out) (by omega) hq1.out).mono ?_); rintro E6 w6 ⟨rfl, hr6⟩; have X6 := hid (X5.out.trans hr6); have hy6 := hid hr6; clear hr6)
        | (go_at_call 20; (with_reducible refine (add_v (O5.out.nv.ext hy6.out) (P3.out.nv.ext ((hy4.out.trans hy5.out).trans hy6.out)) (by omega)).mono ?_); rintro E7 w7 ⟨A7, n7, c7, rfl, o7, hr7⟩; have O7 := hid o7; clear o7; have X7 := hid (X6.out.trans hr7); have hy7 := hid hr7; clear hr7)
        | (go_at_call 22; (with_reducible refine (trim_v (Ha.out.ext ((((((hy1.out.trans hy2.out).trans hy3.out).trans hy4.out).trans hy5.out).trans hy6.out).trans hy7.out)) (by omega)).mono ?_); rintro E8 w8 ⟨A8, n8, c8, rfl, o8, hr8⟩; have O8 := hid o8; clear o8; have X8 := hid (X7.out.trans hr8); have hy8 := hid hr8; clear hr8)
        | (go_at_call 14; (with_reducible refine (same_c (O7.out.ext hy8.out) O8.out (by omega) hq2.out).mono ?_); rintro E9 w9 ⟨rfl, hr9⟩; have X9 := hid (X8.out.trans hr9); have hy9 := hid hr9; clear hr9)
        | ((with_reducible refine wpl_lit1 (w0 := w) X9.out rfl _ _ rfl 23 .u32 4 Try.underlying22 info_u32 _ 1 rfl rfl ?_); intro g10 w10 hg10 o10 hx10 hr10; have O10 := hid o10; have X10 := hid hx10; have hy10 := hid hr10; clear o10 hx10 hr10 hg10)
        | (go_at_call 26; (with_reducible refine (exact_yes (Ha.out.ext (((((((((hy1.out.trans hy2.out).trans hy3.out).trans hy4.out).trans hy5.out).trans hy6.out).trans hy7.out).trans hy8.out).trans hy9.out).trans hy10.out)) (lit_nv1 O10.out (by omega)) (by omega) (by omega) (Nat.mod_one _)).mono ?_); rintro E11 w11 ⟨A11, n11, c11, rfl, o11, hr11⟩; have O11 := hid o11; clear o11; have X11 := hid (X10.out.trans hr11); have hy11 := hid hr11; clear hr11)
        | (go_at_call 22; (with_reducible refine (trim_v (Ha.out.ext ((((((((((hy1.out.trans hy2.out).trans hy3.out).trans hy4.out).trans hy5.out).trans hy6.out).trans hy7.out).trans hy8.out).trans hy9.out).trans hy10.out).trans hy11.out)) (by omega)).mono ?_); rintro E12 w12 ⟨A12, n12, c12, rfl, o12, hr12⟩; have O12 := hid o12; clear o12; have X12 := hid (X11.out.trans hr12); have hy12 := hid hr12; clear hr12)
        | (go_at_call 14; (with_reducible refine (same_c (O11.out.ext hy12.out) O12.out (by omega) (Nat.div_one _)).mono ?_); rintro E13 w13 ⟨rfl, hr13⟩; have X13 := hid (X12.out.trans hr13); have hy13 := hid hr13; clear hr13)
        | (go_at_call 23; (with_reducible refine (bits_v (Ha.out.ext ((((((((((((hy1.out.trans hy2.out).trans hy3.out).trans hy4.out).trans hy5.out).trans hy6.out).trans hy7.out).trans hy8.out).trans hy9.out).trans hy10.out).trans hy11.out).trans hy12.out).trans hy13.out)) (by omega)).mono ?_); rintro Es14 ws14 ⟨rfl, rfl⟩)
        | (go_at_call 26; (with_reducible refine (exact_yes (Ha.out.ext ((((((((((((hy1.out.trans hy2.out).trans hy3.out).trans hy4.out).trans hy5.out).trans hy6.out).trans hy7.out).trans hy8.out).trans hy9.out).trans hy10.out).trans hy11.out).trans hy12.out).trans hy13.out)) (Ha.out.ext ((((((((((((hy1.out.trans hy2.out).trans hy3.out).trans hy4.out).trans hy5.out).trans hy6.out).trans hy7.out).trans hy8.out).trans hy9.out).trans hy10.out).trans hy11.out).trans hy12.out).trans hy13.out)) (by omega) hp.out (Nat.mod_self _)).mono ?_); rintro E14 w14 ⟨A14, n14, c14, rfl, o14, hr14⟩; have O14 := hid o14; clear o14; have X14 := hid (X13.out.trans hr14); have hy14 := hid hr14; clear hr14)
        | ((with_reducible refine wpl_lit1 (w0 := w) X14.out rfl _ _ rfl 23 .u32 4 Try.underlying22 info_u32 _ 1 rfl rfl ?_); intro g15 w15 hg15 o15 hx15 hr15; have O15 := hid o15; have X15 := hid hx15; have hy15 := hid hr15; clear o15 hx15 hr15 hg15)
        | (go_at_call 14; (with_reducible refine (same_c (O14.out.ext hy15.out) (lit_cn1 O15.out (by omega) (by omega)) (by omega) (Nat.div_self hp.out)).mono ?_); rintro E16 w16 ⟨rfl, hr16⟩; have X16 := hid (X15.out.trans hr16); have hy16 := hid hr16; clear hr16)
        | (go_at_call 29; (with_reducible refine (dlimb_no).mono ?_); rintro Es17 ws17 ⟨rfl, rfl⟩)
        | (go_at_call 21; (with_reducible refine (small_v (v := 0) (V := 0) (by omega) (by omega)).mono ?_); rintro E17 w17 ⟨A17, n17, c17, rfl, o17, hr17⟩; have O17 := hid o17; clear o17; have X17 := hid (X16.out.trans hr17); have hy17 := hid hr17; clear hr17)
        | (go_at_call 25; (with_reducible refine (divmod_zero (Ha.out.ext ((((((((((((((((hy1.out.trans hy2.out).trans hy3.out).trans hy4.out).trans hy5.out).trans hy6.out).trans hy7.out).trans hy8.out).trans hy9.out).trans hy10.out).trans hy11.out).trans hy12.out).trans hy13.out).trans hy14.out).trans hy15.out).trans hy16.out).trans hy17.out)) O17.out.nv (by omega)).mono ?_); rintro E18 w18 ⟨A18, n18, c18, B18, m18, d18, rfl, o18, p18, hr18⟩; have O18 := hid o18; have P18 := hid p18; clear o18 p18; have X18 := hid (X17.out.trans hr18); have hy18 := hid hr18; clear hr18)
        | (go_at_call 14; (with_reducible refine (same_c (Cn.none (lo := 0) (K := 0)) O18.out (by omega) rfl).mono ?_); rintro E19 w19 ⟨rfl, hr19⟩; have X19 := hid (X18.out.trans hr19); have hy19 := hid hr19; clear hr19)
        | (go_at_call 21; (with_reducible refine (small_v (v := 0) (V := 0) (by omega) (by omega)).mono ?_); rintro E20 w20 ⟨A20, n20, c20, rfl, o20, hr20⟩; have O20 := hid o20; clear o20; have X20 := hid (X19.out.trans hr20); have hy20 := hid hr20; clear hr20)
        | (go_at_call 14; (with_reducible refine (same_c O20.out (P18.out.ext (hy19.out.trans hy20.out)) (by omega) rfl).mono ?_); rintro E21 w21 ⟨rfl, hr21⟩; have X21 := hid (X20.out.trans hr21); have hy21 := hid hr21; clear hr21)
        | (go_at_call 24; (with_reducible refine (known_any3).mono ?_); rintro E22 w22 ⟨rfl, hr22⟩; have X22 := hid (X21.out.trans hr22); have hy22 := hid hr22; clear hr22))
      go_ret
      exact ⟨rfl, X22.out⟩
    · have hd0 : Hid (0 < d) := (by show 0 < d; omega)
      have hmd : Hid (p % d < 18446744073709551616) := (by show _ < _; have := Nat.mod_lt p hd0.out; have := hd.out; omega)
      go_enter Try.func8, Try.ntmps8
      go_wp2_with (first
        | ((with_reducible refine wpl_lit1 (w0 := w) (Ext.refl _) rfl _ _ rfl 23 .u32 4 Try.underlying22 info_u32 _ 1 rfl rfl ?_); intro g1 w1 hg1 o1 hx1 hr1; have O1 := hid o1; have X1 := hid hx1; have hy1 := hid hr1; clear o1 hx1 hr1 hg1)
        | (go_at_call 19; (with_reducible refine (shl_v (v := n) rfl (lit_nv1 O1.out (by omega)) (by omega) (by omega)).mono ?_); rintro E2 w2 ⟨A2, n2, c2, rfl, o2, hr2⟩; have O2 := hid o2; clear o2; have X2 := hid (X1.out.trans hr2); have hy2 := hid hr2; clear hr2)
        | (go_at_call 25; (with_reducible refine (divmod_v (Ha.out.ext (hy1.out.trans hy2.out)) O2.out.nv (by omega) hpw.out).mono ?_); rintro E3 w3 ⟨A3, n3, c3, B3, m3, d3, rfl, o3, p3, hr3⟩; have O3 := hid o3; have P3 := hid p3; clear o3 p3; have X3 := hid (X2.out.trans hr3); have hy3 := hid hr3; clear hr3)
        | (go_at_call 30; (with_reducible refine (shr_v (v := n) rfl (Ha.out.ext ((hy1.out.trans hy2.out).trans hy3.out)) (by omega) (by omega)).mono ?_); rintro E4 w4 ⟨A4, n4, c4, rfl, o4, hr4⟩; have O4 := hid o4; clear o4; have X4 := hid (X3.out.trans hr4); have hy4 := hid hr4; clear hr4)
        | (go_at_call 19; (with_reducible refine (shl_v (v := n) rfl O4.out.nv (by omega) (by omega)).mono ?_); rintro E5 w5 ⟨A5, n5, c5, rfl, o5, hr5⟩; have O5 := hid o5; clear o5; have X5 := hid (X4.out.trans hr5); have hy5 := hid hr5; clear hr5)
        | (go_at_call 14; (with_reducible refine (same_c (O3.out.ext (hy4.out.trans hy5.out)) (O4.out.ext hy5.out) (by omega) hq1.out).mono ?_); rintro E6 w6 ⟨rfl, hr6⟩; have X6 := hid (X5.out.trans hr6); have hy6 := hid hr6; clear hr6)
        | (go_at_call 20; (with_reducible refine (add_v (O5.out.nv.ext hy6.out) (P3.out.nv.ext ((hy4.out.trans hy5.out).trans hy6.out)) (by omega)).mono ?_); rintro E7 w7 ⟨A7, n7, c7, rfl, o7, hr7⟩; have O7 := hid o7; clear o7; have X7 := hid (X6.out.trans hr7); have hy7 := hid hr7; clear hr7)
        | (go_at_call 22; (with_reducible refine (trim_v (Ha.out.ext ((((((hy1.out.trans hy2.out).trans hy3.out).trans hy4.out).trans hy5.out).trans hy6.out).trans hy7.out)) (by omega)).mono ?_); rintro E8 w8 ⟨A8, n8, c8, rfl, o8, hr8⟩; have O8 := hid o8; clear o8; have X8 := hid (X7.out.trans hr8); have hy8 := hid hr8; clear hr8)
        | (go_at_call 14; (with_reducible refine (same_c (O7.out.ext hy8.out) O8.out (by omega) hq2.out).mono ?_); rintro E9 w9 ⟨rfl, hr9⟩; have X9 := hid (X8.out.trans hr9); have hy9 := hid hr9; clear hr9)
        | ((with_reducible refine wpl_lit1 (w0 := w) X9.out rfl _ _ rfl 23 .u32 4 Try.underlying22 info_u32 _ 1 rfl rfl ?_); intro g10 w10 hg10 o10 hx10 hr10; have O10 := hid o10; have X10 := hid hx10; have hy10 := hid hr10; clear o10 hx10 hr10 hg10)
        | (go_at_call 26; (with_reducible refine (exact_yes (Ha.out.ext (((((((((hy1.out.trans hy2.out).trans hy3.out).trans hy4.out).trans hy5.out).trans hy6.out).trans hy7.out).trans hy8.out).trans hy9.out).trans hy10.out)) (lit_nv1 O10.out (by omega)) (by omega) (by omega) (Nat.mod_one _)).mono ?_); rintro E11 w11 ⟨A11, n11, c11, rfl, o11, hr11⟩; have O11 := hid o11; clear o11; have X11 := hid (X10.out.trans hr11); have hy11 := hid hr11; clear hr11)
        | (go_at_call 22; (with_reducible refine (trim_v (Ha.out.ext ((((((((((hy1.out.trans hy2.out).trans hy3.out).trans hy4.out).trans hy5.out).trans hy6.out).trans hy7.out).trans hy8.out).trans hy9.out).trans hy10.out).trans hy11.out)) (by omega)).mono ?_); rintro E12 w12 ⟨A12, n12, c12, rfl, o12, hr12⟩; have O12 := hid o12; clear o12; have X12 := hid (X11.out.trans hr12); have hy12 := hid hr12; clear hr12)
        | (go_at_call 14; (with_reducible refine (same_c (O11.out.ext hy12.out) O12.out (by omega) (Nat.div_one _)).mono ?_); rintro E13 w13 ⟨rfl, hr13⟩; have X13 := hid (X12.out.trans hr13); have hy13 := hid hr13; clear hr13)
        | (go_at_call 23; (with_reducible refine (bits_v (Ha.out.ext ((((((((((((hy1.out.trans hy2.out).trans hy3.out).trans hy4.out).trans hy5.out).trans hy6.out).trans hy7.out).trans hy8.out).trans hy9.out).trans hy10.out).trans hy11.out).trans hy12.out).trans hy13.out)) (by omega)).mono ?_); rintro Es14 ws14 ⟨rfl, rfl⟩)
        | (go_at_call 26; (with_reducible refine (exact_yes (Ha.out.ext ((((((((((((hy1.out.trans hy2.out).trans hy3.out).trans hy4.out).trans hy5.out).trans hy6.out).trans hy7.out).trans hy8.out).trans hy9.out).trans hy10.out).trans hy11.out).trans hy12.out).trans hy13.out)) (Ha.out.ext ((((((((((((hy1.out.trans hy2.out).trans hy3.out).trans hy4.out).trans hy5.out).trans hy6.out).trans hy7.out).trans hy8.out).trans hy9.out).trans hy10.out).trans hy11.out).trans hy12.out).trans hy13.out)) (by omega) hp.out (Nat.mod_self _)).mono ?_); rintro E14 w14 ⟨A14, n14, c14, rfl, o14, hr14⟩; have O14 := hid o14; clear o14; have X14 := hid (X13.out.trans hr14); have hy14 := hid hr14; clear hr14)
        | ((with_reducible refine wpl_lit1 (w0 := w) X14.out rfl _ _ rfl 23 .u32 4 Try.underlying22 info_u32 _ 1 rfl rfl ?_); intro g15 w15 hg15 o15 hx15 hr15; have O15 := hid o15; have X15 := hid hx15; have hy15 := hid hr15; clear o15 hx15 hr15 hg15)
        | (go_at_call 14; (with_reducible refine (same_c (O14.out.ext hy15.out) (lit_cn1 O15.out (by omega) (by omega)) (by omega) (Nat.div_self hp.out)).mono ?_); rintro E16 w16 ⟨rfl, hr16⟩; have X16 := hid (X15.out.trans hr16); have hy16 := hid hr16; clear hr16)
        | (go_at_call 29; (with_reducible refine (dlimb_v (d := d) rfl (Ha.out.ext (((((((((((((((hy1.out.trans hy2.out).trans hy3.out).trans hy4.out).trans hy5.out).trans hy6.out).trans hy7.out).trans hy8.out).trans hy9.out).trans hy10.out).trans hy11.out).trans hy12.out).trans hy13.out).trans hy14.out).trans hy15.out).trans hy16.out)) (by omega) hd0.out hd.out).mono ?_); rintro E17 w17 ⟨A17, n17, c17, rfl, o17, hr17⟩; have O17 := hid o17; clear o17; have X17 := hid (X16.out.trans hr17); have hy17 := hid hr17; clear hr17)
        | (go_at_call 21; (with_reducible refine (small_v (v := d) rfl (by have := hd.out; omega)).mono ?_); rintro E18 w18 ⟨A18, n18, c18, rfl, o18, hr18⟩; have O18 := hid o18; clear o18; have X18 := hid (X17.out.trans hr18); have hy18 := hid hr18; clear hr18)
        | (go_at_call 25; (with_reducible refine (divmod_v (Ha.out.ext (((((((((((((((((hy1.out.trans hy2.out).trans hy3.out).trans hy4.out).trans hy5.out).trans hy6.out).trans hy7.out).trans hy8.out).trans hy9.out).trans hy10.out).trans hy11.out).trans hy12.out).trans hy13.out).trans hy14.out).trans hy15.out).trans hy16.out).trans hy17.out).trans hy18.out)) O18.out.nv (by omega) hd0.out).mono ?_); rintro E19 w19 ⟨A19, n19, c19, B19, m19, d19, rfl, o19, p19, hr19⟩; have O19 := hid o19; have P19 := hid p19; clear o19 p19; have X19 := hid (X18.out.trans hr19); have hy19 := hid hr19; clear hr19)
        | (go_at_call 14; (with_reducible refine (same_c (O17.out.ext (hy18.out.trans hy19.out)) O19.out (by omega) rfl).mono ?_); rintro E20 w20 ⟨rfl, hr20⟩; have X20 := hid (X19.out.trans hr20); have hy20 := hid hr20; clear hr20)
        | (go_at_call 21; (with_reducible refine (small_v (v := p % d) (V := IntKind.u64.wrap ((p : Int) % (d : Int))) (wrap_mod hd0.out hd.out) hmd.out).mono ?_); rintro E21 w21 ⟨A21, n21, c21, rfl, o21, hr21⟩; have O21 := hid o21; clear o21; have X21 := hid (X20.out.trans hr21); have hy21 := hid hr21; clear hr21)
        | (go_at_call 14; (with_reducible refine (same_c O21.out (P19.out.ext (hy20.out.trans hy21.out)) (by omega) rfl).mono ?_); rintro E22 w22 ⟨rfl, hr22⟩; have X22 := hid (X21.out.trans hr22); have hy22 := hid hr22; clear hr22)
        | (go_at_call 24; (with_reducible refine (known_any3).mono ?_); rintro E23 w23 ⟨rfl, hr23⟩; have X23 := hid (X22.out.trans hr23); have hy23 := hid hr23; clear hr23))
      go_ret
      exact ⟨rfl, X23.out⟩

set_option maxHeartbeats 6400000 in
set_option maxRecDepth 100000 in
theorem divideShifts_any {w : World} {Aa : Option Addr} {na ca : Nat} {xa : List Nat} (ha : Sl .u32 w Aa na ca xa) (la : Lim 4294967296 xa) {n d : Int} (k0 : 0 ≤ n) (m0 : 0 ≤ d) (m1 : d ≤ 4294967295) :
    Calls Try.prog 8 #[.slice Aa na ca, .int .u16 n, .int .u32 d] w (RetE (.bool true) w) := by
  obtain ⟨n, rfl⟩ := Int.eq_ofNat_of_zero_le k0
  obtain ⟨d, rfl⟩ := Int.eq_ofNat_of_zero_le m0
  by_cases ba : na ≤ 200
  · by_cases h2 : n ≤ 2000
    · exact divideShifts_small (Nv.mk ha la ba) ba h2 (by omega)
    · have h2' : (2000 : Int) < n := by omega
      clear ha la
      go_enter Try.func8, Try.ntmps8
      go_wp2_with (go_at_call 24; refine known_any3.mono ?_; rintro E1 w1 ⟨rfl, hx1⟩)
      go_ret
      exact ⟨rfl, hx1⟩
  · have ba' : (200 : Int) < na := by omega
    clear ha la
    go_enter Try.func8, Try.ntmps8
    go_wp2_with (go_at_call 24; refine known_any3.mono ?_; rintro E1 w1 ⟨rfl, hx1⟩)
    go_ret
    exact ⟨rfl, hx1⟩

end Go.Proofs.Ytacihclonpbngaa
