
/-
  The walk of the statement TimesLaws. Printed by wip/gen/law2.py.
-/
import Derived.Test.YtacihclonpbngaaKnownT
namespace Go.Proofs.Ytacihclonpbngaa
open Go.RowKit
open Go.Lib (hid)

theorem bl_mul {p q : Nat} (hp : p ≠ 0) (hq : q ≠ 0) : bl (p * q) = bl p + bl q ∨ bl (p * q) + 1 = bl p + bl q := by
  obtain ⟨b1, b2, b3⟩ := bl_bounds hp
  obtain ⟨c1, c2, c3⟩ := bl_bounds hq
  have h1 : 2 ^ (bl p - 1) * 2 ^ (bl q - 1) ≤ p * q := Nat.mul_le_mul b2 c2
  have h2 : p * q < 2 ^ bl p * 2 ^ bl q := Nat.mul_lt_mul_of_lt_of_le b3 (Nat.le_of_lt c3) (Nat.two_pow_pos _)
  rw [← Nat.pow_add] at h1 h2
  rcases Nat.lt_or_ge (p * q) (2 ^ (bl p + bl q - 1)) with h | h
  · refine .inr ?_
    have : bl (p * q) = bl p + bl q - 1 := bl_unique (by omega) (by rw [show bl p + bl q - 1 - 1 = bl p - 1 + (bl q - 1) from by omega]; exact h1) h
    omega
  · exact .inl (bl_unique (by omega) h h2)

set_option maxHeartbeats 6400000 in
set_option maxRecDepth 100000 in
theorem timesLaws_small {w : World} {Aa Ab Ac : Option Addr} {na ca p nb cb q nc cc r : Nat} (ha : Nv 100 w Aa na ca p) (ba : na ≤ 100) (hb : Nv 100 w Ab nb cb q) (bb : nb ≤ 100) (hc : Nv 100 w Ac nc cc r) (bc : nc ≤ 100) :
    Calls Try.prog 6 #[.slice Aa na ca, .slice Ab nb cb, .slice Ac nc cc] w (RetE (.bool true) w) := by
  have Ha := hid ha
  have Hb := hid hb
  have Hc := hid hc
  clear ha hb hc
  have hp1 := bl_bound Ha.out.bound
  have hq1 := bl_bound Hb.out.bound
  by_cases hz : p = 0
  · have e1 : bl p = 0 := by rw [hz]; rfl
    have e2 : bl (p * q) = 0 := by rw [hz, Nat.zero_mul]; rfl
    go_enter Try.func6, Try.ntmps6
    go_wp2_with (first
      | (go_at_call 17; (with_reducible refine (mul_v Ha.out Hb.out (by omega)).mono ?_); rintro E1 w1 ⟨A1, n1, c1, rfl, o1, hr1⟩; have O1 := hid o1; clear o1; have X1 := hid ((Ext.refl _).trans hr1); have hy1 := hid hr1; clear hr1)
      | (go_at_call 20; (with_reducible refine (add_v (Hb.out.ext hy1.out) (Hc.out.ext hy1.out) (by omega)).mono ?_); rintro E2 w2 ⟨A2, n2, c2, rfl, o2, hr2⟩; have O2 := hid o2; clear o2; have X2 := hid (X1.out.trans hr2); have hy2 := hid hr2; clear hr2)
      | (go_at_call 17; (with_reducible refine (mul_v (Ha.out.ext (hy1.out.trans hy2.out)) O2.out.nv (by omega)).mono ?_); rintro E3 w3 ⟨A3, n3, c3, rfl, o3, hr3⟩; have O3 := hid o3; clear o3; have X3 := hid (X2.out.trans hr3); have hy3 := hid hr3; clear hr3)
      | (go_at_call 17; (with_reducible refine (mul_v (Ha.out.ext ((hy1.out.trans hy2.out).trans hy3.out)) (Hc.out.ext ((hy1.out.trans hy2.out).trans hy3.out)) (by omega)).mono ?_); rintro E4 w4 ⟨A4, n4, c4, rfl, o4, hr4⟩; have O4 := hid o4; clear o4; have X4 := hid (X3.out.trans hr4); have hy4 := hid hr4; clear hr4)
      | (go_at_call 20; (with_reducible refine (add_v (O1.out.nv.ext ((hy2.out.trans hy3.out).trans hy4.out)) O4.out.nv (by omega)).mono ?_); rintro E5 w5 ⟨A5, n5, c5, rfl, o5, hr5⟩; have O5 := hid o5; clear o5; have X5 := hid (X4.out.trans hr5); have hy5 := hid hr5; clear hr5)
      | (go_at_call 14; (with_reducible refine (same_c (O3.out.ext (hy4.out.trans hy5.out)) O5.out (by omega) (Nat.mul_add _ _ _)).mono ?_); rintro E6 w6 ⟨rfl, hr6⟩; have X6 := hid (X5.out.trans hr6); have hy6 := hid hr6; clear hr6)
      | (go_at_call 17; (with_reducible refine (mul_v (O1.out.nv.ext ((((hy2.out.trans hy3.out).trans hy4.out).trans hy5.out).trans hy6.out)) (Hc.out.ext (((((hy1.out.trans hy2.out).trans hy3.out).trans hy4.out).trans hy5.out).trans hy6.out)) (by omega)).mono ?_); rintro E7 w7 ⟨A7, n7, c7, rfl, o7, hr7⟩; have O7 := hid o7; clear o7; have X7 := hid (X6.out.trans hr7); have hy7 := hid hr7; clear hr7)
      | (go_at_call 17; (with_reducible refine (mul_v (Hb.out.ext ((((((hy1.out.trans hy2.out).trans hy3.out).trans hy4.out).trans hy5.out).trans hy6.out).trans hy7.out)) (Hc.out.ext ((((((hy1.out.trans hy2.out).trans hy3.out).trans hy4.out).trans hy5.out).trans hy6.out).trans hy7.out)) (by omega)).mono ?_); rintro E8 w8 ⟨A8, n8, c8, rfl, o8, hr8⟩; have O8 := hid o8; clear o8; have X8 := hid (X7.out.trans hr8); have hy8 := hid hr8; clear hr8)
      | (go_at_call 17; (with_reducible refine (mul_v (Ha.out.ext (((((((hy1.out.trans hy2.out).trans hy3.out).trans hy4.out).trans hy5.out).trans hy6.out).trans hy7.out).trans hy8.out)) O8.out.nv (by omega)).mono ?_); rintro E9 w9 ⟨A9, n9, c9, rfl, o9, hr9⟩; have O9 := hid o9; clear o9; have X9 := hid (X8.out.trans hr9); have hy9 := hid hr9; clear hr9)
      | (go_at_call 14; (with_reducible refine (same_c (O7.out.ext (hy8.out.trans hy9.out)) O9.out (by omega) (Nat.mul_assoc _ _ _)).mono ?_); rintro E10 w10 ⟨rfl, hr10⟩; have X10 := hid (X9.out.trans hr10); have hy10 := hid hr10; clear hr10)
      | (go_at_call 17; (with_reducible refine (mul_v (Ha.out.ext (((((((((hy1.out.trans hy2.out).trans hy3.out).trans hy4.out).trans hy5.out).trans hy6.out).trans hy7.out).trans hy8.out).trans hy9.out).trans hy10.out)) Nv.none (by omega)).mono ?_); rintro E11 w11 ⟨A11, n11, c11, rfl, o11, hr11⟩; have O11 := hid o11; clear o11; have X11 := hid (X10.out.trans hr11); have hy11 := hid hr11; clear hr11; have hl11 := O11.out.len0 (Nat.mul_zero _); subst hl11)
      | ((with_reducible refine wpl_lit1 (w0 := w) X11.out rfl _ _ rfl 23 .u32 4 Try.underlying22 info_u32 _ 1 rfl rfl ?_); intro g12 w12 hg12 o12 hx12 hr12; have O12 := hid o12; have X12 := hid hx12; have hy12 := hid hr12; clear o12 hx12 hr12 hg12)
      | (go_at_call 17; (with_reducible refine (mul_v (Ha.out.ext (((((((((((hy1.out.trans hy2.out).trans hy3.out).trans hy4.out).trans hy5.out).trans hy6.out).trans hy7.out).trans hy8.out).trans hy9.out).trans hy10.out).trans hy11.out).trans hy12.out)) (lit_nv1 O12.out (by omega)) (by omega)).mono ?_); rintro E13 w13 ⟨A13, n13, c13, rfl, o13, hr13⟩; have O13 := hid o13; clear o13; have X13 := hid (X12.out.trans hr13); have hy13 := hid hr13; clear hr13)
      | (go_at_call 22; (with_reducible refine (trim_v (Ha.out.ext ((((((((((((hy1.out.trans hy2.out).trans hy3.out).trans hy4.out).trans hy5.out).trans hy6.out).trans hy7.out).trans hy8.out).trans hy9.out).trans hy10.out).trans hy11.out).trans hy12.out).trans hy13.out)) (by omega)).mono ?_); rintro E14 w14 ⟨A14, n14, c14, rfl, o14, hr14⟩; have O14 := hid o14; clear o14; have X14 := hid (X13.out.trans hr14); have hy14 := hid hr14; clear hr14)
      | (go_at_call 14; (with_reducible refine (same_c (O13.out.ext hy14.out) O14.out (by omega) (Nat.mul_one _)).mono ?_); rintro E15 w15 ⟨rfl, hr15⟩; have X15 := hid (X14.out.trans hr15); have hy15 := hid hr15; clear hr15)
      | (go_at_call 23; (with_reducible refine (bits_v (Ha.out.ext ((((((((((((((hy1.out.trans hy2.out).trans hy3.out).trans hy4.out).trans hy5.out).trans hy6.out).trans hy7.out).trans hy8.out).trans hy9.out).trans hy10.out).trans hy11.out).trans hy12.out).trans hy13.out).trans hy14.out).trans hy15.out)) (by omega)).mono ?_); rintro Es16 ws16 ⟨rfl, rfl⟩)
      | (go_at_call 23; (with_reducible refine (bits_v (Hb.out.ext ((((((((((((((hy1.out.trans hy2.out).trans hy3.out).trans hy4.out).trans hy5.out).trans hy6.out).trans hy7.out).trans hy8.out).trans hy9.out).trans hy10.out).trans hy11.out).trans hy12.out).trans hy13.out).trans hy14.out).trans hy15.out)) (by omega)).mono ?_); rintro Es16 ws16 ⟨rfl, rfl⟩)
      | (go_at_call 23; (with_reducible refine (bits_v (O1.out.nv.ext (((((((((((((hy2.out.trans hy3.out).trans hy4.out).trans hy5.out).trans hy6.out).trans hy7.out).trans hy8.out).trans hy9.out).trans hy10.out).trans hy11.out).trans hy12.out).trans hy13.out).trans hy14.out).trans hy15.out)) (by omega)).mono ?_); rintro Es16 ws16 ⟨rfl, rfl⟩)
      | (go_at_call 12; (with_reducible refine (known_any2).mono ?_); rintro E16 w16 ⟨rfl, hr16⟩; have X16 := hid (X15.out.trans hr16); have hy16 := hid hr16; clear hr16))
    go_ret
    exact ⟨rfl, X16.out⟩
  · by_cases hy : q = 0
    · have e1 : bl q = 0 := by rw [hy]; rfl
      have e2 : bl (p * q) = 0 := by rw [hy, Nat.mul_zero]; rfl
      have e3 : ((bl p : Int) == 0) = false := beq_eq_false_iff_ne.2 (by have := (bl_bounds hz).1; omega)
      go_enter Try.func6, Try.ntmps6
      go_wp2_with (first
        | (go_at_call 17; (with_reducible refine (mul_v Ha.out Hb.out (by omega)).mono ?_); rintro E1 w1 ⟨A1, n1, c1, rfl, o1, hr1⟩; have O1 := hid o1; clear o1; have X1 := hid ((Ext.refl _).trans hr1); have hy1 := hid hr1; clear hr1)
        | (go_at_call 20; (with_reducible refine (add_v (Hb.out.ext hy1.out) (Hc.out.ext hy1.out) (by omega)).mono ?_); rintro E2 w2 ⟨A2, n2, c2, rfl, o2, hr2⟩; have O2 := hid o2; clear o2; have X2 := hid (X1.out.trans hr2); have hy2 := hid hr2; clear hr2)
        | (go_at_call 17; (with_reducible refine (mul_v (Ha.out.ext (hy1.out.trans hy2.out)) O2.out.nv (by omega)).mono ?_); rintro E3 w3 ⟨A3, n3, c3, rfl, o3, hr3⟩; have O3 := hid o3; clear o3; have X3 := hid (X2.out.trans hr3); have hy3 := hid hr3; clear hr3)
        | (go_at_call 17; (with_reducible refine (mul_v (Ha.out.ext ((hy1.out.trans hy2.out).trans hy3.out)) (Hc.out.ext ((hy1.out.trans hy2.out).trans hy3.out)) (by omega)).mono ?_); rintro E4 w4 ⟨A4, n4, c4, rfl, o4, hr4⟩; have O4 := hid o4; clear o4; have X4 := hid (X3.out.trans hr4); have hy4 := hid hr4; clear hr4)
        | (go_at_call 20; (with_reducible refine (add_v (O1.out.nv.ext ((hy2.out.trans hy3.out).trans hy4.out)) O4.out.nv (by omega)).mono ?_); rintro E5 w5 ⟨A5, n5, c5, rfl, o5, hr5⟩; have O5 := hid o5; clear o5; have X5 := hid (X4.out.trans hr5); have hy5 := hid hr5; clear hr5)
        | (go_at_call 14; (with_reducible refine (same_c (O3.out.ext (hy4.out.trans hy5.out)) O5.out (by omega) (Nat.mul_add _ _ _)).mono ?_); rintro E6 w6 ⟨rfl, hr6⟩; have X6 := hid (X5.out.trans hr6); have hy6 := hid hr6; clear hr6)
        | (go_at_call 17; (with_reducible refine (mul_v (O1.out.nv.ext ((((hy2.out.trans hy3.out).trans hy4.out).trans hy5.out).trans hy6.out)) (Hc.out.ext (((((hy1.out.trans hy2.out).trans hy3.out).trans hy4.out).trans hy5.out).trans hy6.out)) (by omega)).mono ?_); rintro E7 w7 ⟨A7, n7, c7, rfl, o7, hr7⟩; have O7 := hid o7; clear o7; have X7 := hid (X6.out.trans hr7); have hy7 := hid hr7; clear hr7)
        | (go_at_call 17; (with_reducible refine (mul_v (Hb.out.ext ((((((hy1.out.trans hy2.out).trans hy3.out).trans hy4.out).trans hy5.out).trans hy6.out).trans hy7.out)) (Hc.out.ext ((((((hy1.out.trans hy2.out).trans hy3.out).trans hy4.out).trans hy5.out).trans hy6.out).trans hy7.out)) (by omega)).mono ?_); rintro E8 w8 ⟨A8, n8, c8, rfl, o8, hr8⟩; have O8 := hid o8; clear o8; have X8 := hid (X7.out.trans hr8); have hy8 := hid hr8; clear hr8)
        | (go_at_call 17; (with_reducible refine (mul_v (Ha.out.ext (((((((hy1.out.trans hy2.out).trans hy3.out).trans hy4.out).trans hy5.out).trans hy6.out).trans hy7.out).trans hy8.out)) O8.out.nv (by omega)).mono ?_); rintro E9 w9 ⟨A9, n9, c9, rfl, o9, hr9⟩; have O9 := hid o9; clear o9; have X9 := hid (X8.out.trans hr9); have hy9 := hid hr9; clear hr9)
        | (go_at_call 14; (with_reducible refine (same_c (O7.out.ext (hy8.out.trans hy9.out)) O9.out (by omega) (Nat.mul_assoc _ _ _)).mono ?_); rintro E10 w10 ⟨rfl, hr10⟩; have X10 := hid (X9.out.trans hr10); have hy10 := hid hr10; clear hr10)
        | (go_at_call 17; (with_reducible refine (mul_v (Ha.out.ext (((((((((hy1.out.trans hy2.out).trans hy3.out).trans hy4.out).trans hy5.out).trans hy6.out).trans hy7.out).trans hy8.out).trans hy9.out).trans hy10.out)) Nv.none (by omega)).mono ?_); rintro E11 w11 ⟨A11, n11, c11, rfl, o11, hr11⟩; have O11 := hid o11; clear o11; have X11 := hid (X10.out.trans hr11); have hy11 := hid hr11; clear hr11; have hl11 := O11.out.len0 (Nat.mul_zero _); subst hl11)
        | ((with_reducible refine wpl_lit1 (w0 := w) X11.out rfl _ _ rfl 23 .u32 4 Try.underlying22 info_u32 _ 1 rfl rfl ?_); intro g12 w12 hg12 o12 hx12 hr12; have O12 := hid o12; have X12 := hid hx12; have hy12 := hid hr12; clear o12 hx12 hr12 hg12)
        | (go_at_call 17; (with_reducible refine (mul_v (Ha.out.ext (((((((((((hy1.out.trans hy2.out).trans hy3.out).trans hy4.out).trans hy5.out).trans hy6.out).trans hy7.out).trans hy8.out).trans hy9.out).trans hy10.out).trans hy11.out).trans hy12.out)) (lit_nv1 O12.out (by omega)) (by omega)).mono ?_); rintro E13 w13 ⟨A13, n13, c13, rfl, o13, hr13⟩; have O13 := hid o13; clear o13; have X13 := hid (X12.out.trans hr13); have hy13 := hid hr13; clear hr13)
        | (go_at_call 22; (with_reducible refine (trim_v (Ha.out.ext ((((((((((((hy1.out.trans hy2.out).trans hy3.out).trans hy4.out).trans hy5.out).trans hy6.out).trans hy7.out).trans hy8.out).trans hy9.out).trans hy10.out).trans hy11.out).trans hy12.out).trans hy13.out)) (by omega)).mono ?_); rintro E14 w14 ⟨A14, n14, c14, rfl, o14, hr14⟩; have O14 := hid o14; clear o14; have X14 := hid (X13.out.trans hr14); have hy14 := hid hr14; clear hr14)
        | (go_at_call 14; (with_reducible refine (same_c (O13.out.ext hy14.out) O14.out (by omega) (Nat.mul_one _)).mono ?_); rintro E15 w15 ⟨rfl, hr15⟩; have X15 := hid (X14.out.trans hr15); have hy15 := hid hr15; clear hr15)
        | (go_at_call 23; (with_reducible refine (bits_v (Ha.out.ext ((((((((((((((hy1.out.trans hy2.out).trans hy3.out).trans hy4.out).trans hy5.out).trans hy6.out).trans hy7.out).trans hy8.out).trans hy9.out).trans hy10.out).trans hy11.out).trans hy12.out).trans hy13.out).trans hy14.out).trans hy15.out)) (by omega)).mono ?_); rintro Es16 ws16 ⟨rfl, rfl⟩)
        | (go_at_call 23; (with_reducible refine (bits_v (Hb.out.ext ((((((((((((((hy1.out.trans hy2.out).trans hy3.out).trans hy4.out).trans hy5.out).trans hy6.out).trans hy7.out).trans hy8.out).trans hy9.out).trans hy10.out).trans hy11.out).trans hy12.out).trans hy13.out).trans hy14.out).trans hy15.out)) (by omega)).mono ?_); rintro Es16 ws16 ⟨rfl, rfl⟩)
        | (go_at_call 23; (with_reducible refine (bits_v (O1.out.nv.ext (((((((((((((hy2.out.trans hy3.out).trans hy4.out).trans hy5.out).trans hy6.out).trans hy7.out).trans hy8.out).trans hy9.out).trans hy10.out).trans hy11.out).trans hy12.out).trans hy13.out).trans hy14.out).trans hy15.out)) (by omega)).mono ?_); rintro Es16 ws16 ⟨rfl, rfl⟩)
        | (go_at_call 12; (with_reducible refine (known_any2).mono ?_); rintro E16 w16 ⟨rfl, hr16⟩; have X16 := hid (X15.out.trans hr16); have hy16 := hid hr16; clear hr16))
      go_ret
      exact ⟨rfl, X16.out⟩
    · have e3 : ((bl p : Int) == 0) = false := beq_eq_false_iff_ne.2 (by have := (bl_bounds hz).1; omega)
      have e4 : ((bl q : Int) == 0) = false := beq_eq_false_iff_ne.2 (by have := (bl_bounds hy).1; omega)
      rcases bl_mul hz hy with h | h
      · have e5 : ((bl (p * q) : Int) == bl p + bl q) = true := by rw [beq_iff_eq]; omega
        clear hz hy h
        go_enter Try.func6, Try.ntmps6
        go_wp2_with (first
          | (go_at_call 17; (with_reducible refine (mul_v Ha.out Hb.out (by omega)).mono ?_); rintro E1 w1 ⟨A1, n1, c1, rfl, o1, hr1⟩; have O1 := hid o1; clear o1; have X1 := hid ((Ext.refl _).trans hr1); have hy1 := hid hr1; clear hr1)
          | (go_at_call 20; (with_reducible refine (add_v (Hb.out.ext hy1.out) (Hc.out.ext hy1.out) (by omega)).mono ?_); rintro E2 w2 ⟨A2, n2, c2, rfl, o2, hr2⟩; have O2 := hid o2; clear o2; have X2 := hid (X1.out.trans hr2); have hy2 := hid hr2; clear hr2)
          | (go_at_call 17; (with_reducible refine (mul_v (Ha.out.ext (hy1.out.trans hy2.out)) O2.out.nv (by omega)).mono ?_); rintro E3 w3 ⟨A3, n3, c3, rfl, o3, hr3⟩; have O3 := hid o3; clear o3; have X3 := hid (X2.out.trans hr3); have hy3 := hid hr3; clear hr3)
          | (go_at_call 17; (with_reducible refine (mul_v (Ha.out.ext ((hy1.out.trans hy2.out).trans hy3.out)) (Hc.out.ext ((hy1.out.trans hy2.out).trans hy3.out)) (by omega)).mono ?_); rintro E4 w4 ⟨A4, n4, c4, rfl, o4, hr4⟩; have O4 := hid o4; clear o4; have X4 := hid (X3.out.trans hr4); have hy4 := hid hr4; clear hr4)
          | (go_at_call 20; (with_reducible refine (add_v (O1.out.nv.ext ((hy2.out.trans hy3.out).trans hy4.out)) O4.out.nv (by omega)).mono ?_); rintro E5 w5 ⟨A5, n5, c5, rfl, o5, hr5⟩; have O5 := hid o5; clear o5; have X5 := hid (X4.out.trans hr5); have hy5 := hid hr5; clear hr5)
          | (go_at_call 14; (with_reducible refine (same_c (O3.out.ext (hy4.out.trans hy5.out)) O5.out (by omega) (Nat.mul_add _ _ _)).mono ?_); rintro E6 w6 ⟨rfl, hr6⟩; have X6 := hid (X5.out.trans hr6); have hy6 := hid hr6; clear hr6)
          | (go_at_call 17; (with_reducible refine (mul_v (O1.out.nv.ext ((((hy2.out.trans hy3.out).trans hy4.out).trans hy5.out).trans hy6.out)) (Hc.out.ext (((((hy1.out.trans hy2.out).trans hy3.out).trans hy4.out).trans hy5.out).trans hy6.out)) (by omega)).mono ?_); rintro E7 w7 ⟨A7, n7, c7, rfl, o7, hr7⟩; have O7 := hid o7; clear o7; have X7 := hid (X6.out.trans hr7); have hy7 := hid hr7; clear hr7)
          | (go_at_call 17; (with_reducible refine (mul_v (Hb.out.ext ((((((hy1.out.trans hy2.out).trans hy3.out).trans hy4.out).trans hy5.out).trans hy6.out).trans hy7.out)) (Hc.out.ext ((((((hy1.out.trans hy2.out).trans hy3.out).trans hy4.out).trans hy5.out).trans hy6.out).trans hy7.out)) (by omega)).mono ?_); rintro E8 w8 ⟨A8, n8, c8, rfl, o8, hr8⟩; have O8 := hid o8; clear o8; have X8 := hid (X7.out.trans hr8); have hy8 := hid hr8; clear hr8)
          | (go_at_call 17; (with_reducible refine (mul_v (Ha.out.ext (((((((hy1.out.trans hy2.out).trans hy3.out).trans hy4.out).trans hy5.out).trans hy6.out).trans hy7.out).trans hy8.out)) O8.out.nv (by omega)).mono ?_); rintro E9 w9 ⟨A9, n9, c9, rfl, o9, hr9⟩; have O9 := hid o9; clear o9; have X9 := hid (X8.out.trans hr9); have hy9 := hid hr9; clear hr9)
          | (go_at_call 14; (with_reducible refine (same_c (O7.out.ext (hy8.out.trans hy9.out)) O9.out (by omega) (Nat.mul_assoc _ _ _)).mono ?_); rintro E10 w10 ⟨rfl, hr10⟩; have X10 := hid (X9.out.trans hr10); have hy10 := hid hr10; clear hr10)
          | (go_at_call 17; (with_reducible refine (mul_v (Ha.out.ext (((((((((hy1.out.trans hy2.out).trans hy3.out).trans hy4.out).trans hy5.out).trans hy6.out).trans hy7.out).trans hy8.out).trans hy9.out).trans hy10.out)) Nv.none (by omega)).mono ?_); rintro E11 w11 ⟨A11, n11, c11, rfl, o11, hr11⟩; have O11 := hid o11; clear o11; have X11 := hid (X10.out.trans hr11); have hy11 := hid hr11; clear hr11; have hl11 := O11.out.len0 (Nat.mul_zero _); subst hl11)
          | ((with_reducible refine wpl_lit1 (w0 := w) X11.out rfl _ _ rfl 23 .u32 4 Try.underlying22 info_u32 _ 1 rfl rfl ?_); intro g12 w12 hg12 o12 hx12 hr12; have O12 := hid o12; have X12 := hid hx12; have hy12 := hid hr12; clear o12 hx12 hr12 hg12)
          | (go_at_call 17; (with_reducible refine (mul_v (Ha.out.ext (((((((((((hy1.out.trans hy2.out).trans hy3.out).trans hy4.out).trans hy5.out).trans hy6.out).trans hy7.out).trans hy8.out).trans hy9.out).trans hy10.out).trans hy11.out).trans hy12.out)) (lit_nv1 O12.out (by omega)) (by omega)).mono ?_); rintro E13 w13 ⟨A13, n13, c13, rfl, o13, hr13⟩; have O13 := hid o13; clear o13; have X13 := hid (X12.out.trans hr13); have hy13 := hid hr13; clear hr13)
          | (go_at_call 22; (with_reducible refine (trim_v (Ha.out.ext ((((((((((((hy1.out.trans hy2.out).trans hy3.out).trans hy4.out).trans hy5.out).trans hy6.out).trans hy7.out).trans hy8.out).trans hy9.out).trans hy10.out).trans hy11.out).trans hy12.out).trans hy13.out)) (by omega)).mono ?_); rintro E14 w14 ⟨A14, n14, c14, rfl, o14, hr14⟩; have O14 := hid o14; clear o14; have X14 := hid (X13.out.trans hr14); have hy14 := hid hr14; clear hr14)
          | (go_at_call 14; (with_reducible refine (same_c (O13.out.ext hy14.out) O14.out (by omega) (Nat.mul_one _)).mono ?_); rintro E15 w15 ⟨rfl, hr15⟩; have X15 := hid (X14.out.trans hr15); have hy15 := hid hr15; clear hr15)
          | (go_at_call 23; (with_reducible refine (bits_v (Ha.out.ext ((((((((((((((hy1.out.trans hy2.out).trans hy3.out).trans hy4.out).trans hy5.out).trans hy6.out).trans hy7.out).trans hy8.out).trans hy9.out).trans hy10.out).trans hy11.out).trans hy12.out).trans hy13.out).trans hy14.out).trans hy15.out)) (by omega)).mono ?_); rintro Es16 ws16 ⟨rfl, rfl⟩)
          | (go_at_call 23; (with_reducible refine (bits_v (Hb.out.ext ((((((((((((((hy1.out.trans hy2.out).trans hy3.out).trans hy4.out).trans hy5.out).trans hy6.out).trans hy7.out).trans hy8.out).trans hy9.out).trans hy10.out).trans hy11.out).trans hy12.out).trans hy13.out).trans hy14.out).trans hy15.out)) (by omega)).mono ?_); rintro Es16 ws16 ⟨rfl, rfl⟩)
          | (go_at_call 23; (with_reducible refine (bits_v (O1.out.nv.ext (((((((((((((hy2.out.trans hy3.out).trans hy4.out).trans hy5.out).trans hy6.out).trans hy7.out).trans hy8.out).trans hy9.out).trans hy10.out).trans hy11.out).trans hy12.out).trans hy13.out).trans hy14.out).trans hy15.out)) (by omega)).mono ?_); rintro Es16 ws16 ⟨rfl, rfl⟩)
          | (go_at_call 12; (with_reducible refine (known_any2).mono ?_); rintro E16 w16 ⟨rfl, hr16⟩; have X16 := hid (X15.out.trans hr16); have hy16 := hid hr16; clear hr16))
        go_ret
        exact ⟨rfl, X16.out⟩
      · have e5 : ((bl (p * q) : Int) == bl p + bl q) = false := by rw [beq_eq_false_iff_ne]; omega
        have e6 : ((bl (p * q) : Int) == bl p + bl q - 1) = true := by rw [beq_iff_eq]; omega
        clear hz hy h
        go_enter Try.func6, Try.ntmps6
        go_wp2_with (first
          | (go_at_call 17; (with_reducible refine (mul_v Ha.out Hb.out (by omega)).mono ?_); rintro E1 w1 ⟨A1, n1, c1, rfl, o1, hr1⟩; have O1 := hid o1; clear o1; have X1 := hid ((Ext.refl _).trans hr1); have hy1 := hid hr1; clear hr1)
          | (go_at_call 20; (with_reducible refine (add_v (Hb.out.ext hy1.out) (Hc.out.ext hy1.out) (by omega)).mono ?_); rintro E2 w2 ⟨A2, n2, c2, rfl, o2, hr2⟩; have O2 := hid o2; clear o2; have X2 := hid (X1.out.trans hr2); have hy2 := hid hr2; clear hr2)
          | (go_at_call 17; (with_reducible refine (mul_v (Ha.out.ext (hy1.out.trans hy2.out)) O2.out.nv (by omega)).mono ?_); rintro E3 w3 ⟨A3, n3, c3, rfl, o3, hr3⟩; have O3 := hid o3; clear o3; have X3 := hid (X2.out.trans hr3); have hy3 := hid hr3; clear hr3)
          | (go_at_call 17; (with_reducible refine (mul_v (Ha.out.ext ((hy1.out.trans hy2.out).trans hy3.out)) (Hc.out.ext ((hy1.out.trans hy2.out).trans hy3.out)) (by omega)).mono ?_); rintro E4 w4 ⟨A4, n4, c4, rfl, o4, hr4⟩; have O4 := hid o4; clear o4; have X4 := hid (X3.out.trans hr4); have hy4 := hid hr4; clear hr4)
          | (go_at_call 20; (with_reducible refine (add_v (O1.out.nv.ext ((hy2.out.trans hy3.out).trans hy4.out)) O4.out.nv (by omega)).mono ?_); rintro E5 w5 ⟨A5, n5, c5, rfl, o5, hr5⟩; have O5 := hid o5; clear o5; have X5 := hid (X4.out.trans hr5); have hy5 := hid hr5; clear hr5)
          | (go_at_call 14; (with_reducible refine (same_c (O3.out.ext (hy4.out.trans hy5.out)) O5.out (by omega) (Nat.mul_add _ _ _)).mono ?_); rintro E6 w6 ⟨rfl, hr6⟩; have X6 := hid (X5.out.trans hr6); have hy6 := hid hr6; clear hr6)
          | (go_at_call 17; (with_reducible refine (mul_v (O1.out.nv.ext ((((hy2.out.trans hy3.out).trans hy4.out).trans hy5.out).trans hy6.out)) (Hc.out.ext (((((hy1.out.trans hy2.out).trans hy3.out).trans hy4.out).trans hy5.out).trans hy6.out)) (by omega)).mono ?_); rintro E7 w7 ⟨A7, n7, c7, rfl, o7, hr7⟩; have O7 := hid o7; clear o7; have X7 := hid (X6.out.trans hr7); have hy7 := hid hr7; clear hr7)
          | (go_at_call 17; (with_reducible refine (mul_v (Hb.out.ext ((((((hy1.out.trans hy2.out).trans hy3.out).trans hy4.out).trans hy5.out).trans hy6.out).trans hy7.out)) (Hc.out.ext ((((((hy1.out.trans hy2.out).trans hy3.out).trans hy4.out).trans hy5.out).trans hy6.out).trans hy7.out)) (by omega)).mono ?_); rintro E8 w8 ⟨A8, n8, c8, rfl, o8, hr8⟩; have O8 := hid o8; clear o8; have X8 := hid (X7.out.trans hr8); have hy8 := hid hr8; clear hr8)
          | (go_at_call 17; (with_reducible refine (mul_v (Ha.out.ext (((((((hy1.out.trans hy2.out).trans hy3.out).trans hy4.out).trans hy5.out).trans hy6.out).trans hy7.out).trans hy8.out)) O8.out.nv (by omega)).mono ?_); rintro E9 w9 ⟨A9, n9, c9, rfl, o9, hr9⟩; have O9 := hid o9; clear o9; have X9 := hid (X8.out.trans hr9); have hy9 := hid hr9; clear hr9)
          | (go_at_call 14; (with_reducible refine (same_c (O7.out.ext (hy8.out.trans hy9.out)) O9.out (by omega) (Nat.mul_assoc _ _ _)).mono ?_); rintro E10 w10 ⟨rfl, hr10⟩; have X10 := hid (X9.out.trans hr10); have hy10 := hid hr10; clear hr10)
          | (go_at_call 17; (with_reducible refine (mul_v (Ha.out.ext (((((((((hy1.out.trans hy2.out).trans hy3.out).trans hy4.out).trans hy5.out).trans hy6.out).trans hy7.out).trans hy8.out).trans hy9.out).trans hy10.out)) Nv.none (by omega)).mono ?_); rintro E11 w11 ⟨A11, n11, c11, rfl, o11, hr11⟩; have O11 := hid o11; clear o11; have X11 := hid (X10.out.trans hr11); have hy11 := hid hr11; clear hr11; have hl11 := O11.out.len0 (Nat.mul_zero _); subst hl11)
          | ((with_reducible refine wpl_lit1 (w0 := w) X11.out rfl _ _ rfl 23 .u32 4 Try.underlying22 info_u32 _ 1 rfl rfl ?_); intro g12 w12 hg12 o12 hx12 hr12; have O12 := hid o12; have X12 := hid hx12; have hy12 := hid hr12; clear o12 hx12 hr12 hg12)
          | (go_at_call 17; (with_reducible refine (mul_v (Ha.out.ext (((((((((((hy1.out.trans hy2.out).trans hy3.out).trans hy4.out).trans hy5.out).trans hy6.out).trans hy7.out).trans hy8.out).trans hy9.out).trans hy10.out).trans hy11.out).trans hy12.out)) (lit_nv1 O12.out (by omega)) (by omega)).mono ?_); rintro E13 w13 ⟨A13, n13, c13, rfl, o13, hr13⟩; have O13 := hid o13; clear o13; have X13 := hid (X12.out.trans hr13); have hy13 := hid hr13; clear hr13)
          | (go_at_call 22; (with_reducible refine (trim_v (Ha.out.ext ((((((((((((hy1.out.trans hy2.out).trans hy3.out).trans hy4.out).trans hy5.out).trans hy6.out).trans hy7.out).trans hy8.out).trans hy9.out).trans hy10.out).trans hy11.out).trans hy12.out).trans hy13.out)) (by omega)).mono ?_); rintro E14 w14 ⟨A14, n14, c14, rfl, o14, hr14⟩; have O14 := hid o14; clear o14; have X14 := hid (X13.out.trans hr14); have hy14 := hid hr14; clear hr14)
          | (go_at_call 14; (with_reducible refine (same_c (O13.out.ext hy14.out) O14.out (by omega) (Nat.mul_one _)).mono ?_); rintro E15 w15 ⟨rfl, hr15⟩; have X15 := hid (X14.out.trans hr15); have hy15 := hid hr15; clear hr15)
          | (go_at_call 23; (with_reducible refine (bits_v (Ha.out.ext ((((((((((((((hy1.out.trans hy2.out).trans hy3.out).trans hy4.out).trans hy5.out).trans hy6.out).trans hy7.out).trans hy8.out).trans hy9.out).trans hy10.out).trans hy11.out).trans hy12.out).trans hy13.out).trans hy14.out).trans hy15.out)) (by omega)).mono ?_); rintro Es16 ws16 ⟨rfl, rfl⟩)
          | (go_at_call 23; (with_reducible refine (bits_v (Hb.out.ext ((((((((((((((hy1.out.trans hy2.out).trans hy3.out).trans hy4.out).trans hy5.out).trans hy6.out).trans hy7.out).trans hy8.out).trans hy9.out).trans hy10.out).trans hy11.out).trans hy12.out).trans hy13.out).trans hy14.out).trans hy15.out)) (by omega)).mono ?_); rintro Es16 ws16 ⟨rfl, rfl⟩)
          | (go_at_call 23; (with_reducible refine (bits_v (O1.out.nv.ext (((((((((((((hy2.out.trans hy3.out).trans hy4.out).trans hy5.out).trans hy6.out).trans hy7.out).trans hy8.out).trans hy9.out).trans hy10.out).trans hy11.out).trans hy12.out).trans hy13.out).trans hy14.out).trans hy15.out)) (by omega)).mono ?_); rintro Es16 ws16 ⟨rfl, rfl⟩)
          | (go_at_call 12; (with_reducible refine (known_any2).mono ?_); rintro E16 w16 ⟨rfl, hr16⟩; have X16 := hid (X15.out.trans hr16); have hy16 := hid hr16; clear hr16))
        go_ret
        exact ⟨rfl, X16.out⟩

set_option maxHeartbeats 6400000 in
set_option maxRecDepth 100000 in
theorem timesLaws_any {w : World} {Aa Ab Ac : Option Addr} {na ca nb cb nc cc : Nat} {xa xb xc : List Nat} (ha : Sl .u32 w Aa na ca xa) (la : Lim 4294967296 xa) (hb : Sl .u32 w Ab nb cb xb) (lb : Lim 4294967296 xb) (hc : Sl .u32 w Ac nc cc xc) (lc : Lim 4294967296 xc) :
    Calls Try.prog 6 #[.slice Aa na ca, .slice Ab nb cb, .slice Ac nc cc] w (RetE (.bool true) w) := by
  by_cases ba : na ≤ 100
  · by_cases bb : nb ≤ 100
    · by_cases bc : nc ≤ 100
      · exact timesLaws_small (Nv.mk ha la ba) ba (Nv.mk hb lb bb) bb (Nv.mk hc lc bc) bc
      · have bc' : (100 : Int) < nc := by omega
        clear ha hb hc la lb lc
        go_enter Try.func6, Try.ntmps6
        go_wp2_with (go_at_call 12; refine known_any2.mono ?_; rintro E1 w1 ⟨rfl, hx1⟩)
        go_ret
        exact ⟨rfl, hx1⟩
    · have bb' : (100 : Int) < nb := by omega
      clear ha hb hc la lb lc
      go_enter Try.func6, Try.ntmps6
      go_wp2_with (go_at_call 12; refine known_any2.mono ?_; rintro E1 w1 ⟨rfl, hx1⟩)
      go_ret
      exact ⟨rfl, hx1⟩
  · have ba' : (100 : Int) < na := by omega
    clear ha hb hc la lb lc
    go_enter Try.func6, Try.ntmps6
    go_wp2_with (go_at_call 12; refine known_any2.mono ?_; rintro E1 w1 ⟨rfl, hx1⟩)
    go_ret
    exact ⟨rfl, hx1⟩

end Go.Proofs.Ytacihclonpbngaa
