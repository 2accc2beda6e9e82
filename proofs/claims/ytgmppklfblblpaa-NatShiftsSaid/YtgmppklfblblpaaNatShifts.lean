/-
  The walk of the statement NatShifts. Printed by wip/gen/law1.py.
-/
import Derived.Test.YtgmppklfblblpaaKnown
import Derived.Test.YtgmppklfblblpaaNumD
import Derived.Test.YtgmppklfblblpaaCanon
import Derived.Test.YtgmppklfblblpaaNatAdds
namespace Go.Proofs.Ytgmppklfblblpaa
open Go.RowKit
open Go.Lib (hid)

set_option maxHeartbeats 6400000 in
set_option maxRecDepth 100000 in
theorem natShifts_bad {w : World} {P1 : Option Addr} {m1 d1 : Nat} {n u : Int} {xs : List Nat} (ha : Sl .u32 w P1 m1 d1 xs) (la : Lim 4294967296 xs) (h1 : m1 ≤ 40) (hb : n < 0 ∨ 1048576 < n) :
    Calls Try.prog 6 #[.slice P1 m1 d1, .int .i64 n, .int .u64 u] w (RetE (.bool true) w) := by
  have Ha := hid ha
  have Na := hid (Nv.mk' ha la h1 rfl)
  have Lx := hid la
  obtain ⟨p, hp⟩ : ∃ p, nv 4294967296 xs = p := ⟨_, rfl⟩
  have Vp := hid hp
  rw [hp] at Na
  clear ha la hp
  have hbad := hid hb
  rcases hb with hb | hb
  · have hb' : ¬ (400 : Int) < n := by omega
    go_enter Try.func6, Try.ntmps6
    go_wp2_with (first
      | (go_at_call 8; (with_reducible refine (great_no h1 (Nat.zero_le 40)).mono ?_); rintro Es1 ws1 ⟨rfl, rfl⟩)
      | ((with_reducible refine wpl_lit0 (w0 := w) (Ext.refl _) rfl _ rfl 38 .u32 4 Try.underlying22 info_u32 ?_); intro ga1 wa1 hga1 oa1 hxa1 hya1; have OA1 := hid oa1; have XA1 := hid hxa1; clear oa1 hxa1 hya1 hga1)
      | (at_builtin; refine wpl_append (w0 := w) rfl (.tmp 28) (.tmp 29) _ rfl 38 .u32 4 Try.underlying22 info_u32 rfl rfl OA1.out (Ha.out.ext XA1.out) XA1.out (by omega) (by simp only [maxLen]; omega) ?_; intro A1 n1 c1 w1 o1 hr1 hg1 hn1; have O1 : Hid (Own .u32 38 w1 w.heap.size A1 n1 c1 xs) := hid o1; have X1 := hid ((Ext.refl _).trans hr1); have hy1 := hid hr1; clear o1 hg1 OA1 XA1 hr1)
      | (go_at_call 10; (with_reducible refine (of_v (Na.out.ext hy1.out) (by omega)).mono ?_); rintro E2 w2 ⟨A2, n2, c2, rfl, o2, hr2⟩; have O2 := hid o2; clear o2; have X2 := hid (X1.out.trans hr2); have hy2 := hid hr2; clear hr2)
      | (go_at_call 22; (with_reducible refine (shl_no hbad.out).mono ?_); rintro E3 w3 ⟨rfl, hr3⟩; have X3 := hid (X2.out.trans hr3); have hy3 := hid hr3; clear hr3)
      | (go_at_call 23; (with_reducible refine (shr_no hbad.out).mono ?_); rintro E4 w4 ⟨rfl, hr4⟩; have X4 := hid (X3.out.trans hr4); have hy4 := hid hr4; clear hr4)
      | (go_at_call 9; (with_reducible refine (known_any).mono ?_); rintro E5 w5 ⟨rfl, hr5⟩; have X5 := hid (X4.out.trans hr5); have hy5 := hid hr5; clear hr5))
    go_ret
    exact ⟨rfl, X5.out⟩
  · have hb' : (400 : Int) < n := by omega
    have hb2 : ¬ n ≤ 1048576 := by omega
    have hb3 : ¬ n < 0 := by omega
    go_enter Try.func6, Try.ntmps6
    go_wp2_with (first
      | (go_at_call 8; (with_reducible refine (great_no h1 (Nat.zero_le 40)).mono ?_); rintro Es1 ws1 ⟨rfl, rfl⟩)
      | ((with_reducible refine wpl_lit0 (w0 := w) (Ext.refl _) rfl _ rfl 38 .u32 4 Try.underlying22 info_u32 ?_); intro ga1 wa1 hga1 oa1 hxa1 hya1; have OA1 := hid oa1; have XA1 := hid hxa1; clear oa1 hxa1 hya1 hga1)
      | (at_builtin; refine wpl_append (w0 := w) rfl (.tmp 28) (.tmp 29) _ rfl 38 .u32 4 Try.underlying22 info_u32 rfl rfl OA1.out (Ha.out.ext XA1.out) XA1.out (by omega) (by simp only [maxLen]; omega) ?_; intro A1 n1 c1 w1 o1 hr1 hg1 hn1; have O1 : Hid (Own .u32 38 w1 w.heap.size A1 n1 c1 xs) := hid o1; have X1 := hid ((Ext.refl _).trans hr1); have hy1 := hid hr1; clear o1 hg1 OA1 XA1 hr1)
      | (go_at_call 10; (with_reducible refine (of_v (Na.out.ext hy1.out) (by omega)).mono ?_); rintro E2 w2 ⟨A2, n2, c2, rfl, o2, hr2⟩; have O2 := hid o2; clear o2; have X2 := hid (X1.out.trans hr2); have hy2 := hid hr2; clear hr2)
      | (go_at_call 22; (with_reducible refine (shl_no hbad.out).mono ?_); rintro E3 w3 ⟨rfl, hr3⟩; have X3 := hid (X2.out.trans hr3); have hy3 := hid hr3; clear hr3)
      | (go_at_call 23; (with_reducible refine (shr_no hbad.out).mono ?_); rintro E4 w4 ⟨rfl, hr4⟩; have X4 := hid (X3.out.trans hr4); have hy4 := hid hr4; clear hr4)
      | (go_at_call 9; (with_reducible refine (known_any).mono ?_); rintro E5 w5 ⟨rfl, hr5⟩; have X5 := hid (X4.out.trans hr5); have hy5 := hid hr5; clear hr5))
    go_ret
    exact ⟨rfl, X5.out⟩

set_option maxHeartbeats 6400000 in
set_option maxRecDepth 100000 in
theorem natShifts_main {w : World} {P1 : Option Addr} {m1 d1 n u : Nat} {xs : List Nat} (ha : Sl .u32 w P1 m1 d1 xs) (la : Lim 4294967296 xs) (h1 : m1 ≤ 40) (h2 : n ≤ 400) (hu0 : u < 18446744073709551616) :
    Calls Try.prog 6 #[.slice P1 m1 d1, .int .i64 n, .int .u64 u] w (RetE (.bool true) w) := by
  have Ha := hid ha
  have Na := hid (Nv.mk' ha la h1 rfl)
  have Lx := hid la
  obtain ⟨p, hp⟩ : ∃ p, nv 4294967296 xs = p := ⟨_, rfl⟩
  have Vp := hid hp
  rw [hp] at Na
  clear ha la hp
  have hu := hid hu0
  clear hu0
  have hpos : Hid (0 < 2 ^ n) := Nat.two_pow_pos n
  have g64 : bl p ≤ 64 ↔ p < 18446744073709551616 := ⟨fun h => lt_of_bl (k := 64) h, fun h => bl_le (k := 64) h⟩
  by_cases hbig : p < 18446744073709551616
  · have hw := hid hbig
    have h64 : ¬ (64 : Int) < (bl p : Int) := by have := g64.2 hbig; omega
    clear hbig g64
    go_enter Try.func6, Try.ntmps6
    go_wp2_with (first
      | (go_at_call 8; (with_reducible refine (great_no h1 (Nat.zero_le 40)).mono ?_); rintro Es1 ws1 ⟨rfl, rfl⟩)
      | ((with_reducible refine wpl_lit0 (w0 := w) (Ext.refl _) rfl _ rfl 38 .u32 4 Try.underlying22 info_u32 ?_); intro ga1 wa1 hga1 oa1 hxa1 hya1; have OA1 := hid oa1; have XA1 := hid hxa1; clear oa1 hxa1 hya1 hga1)
      | (at_builtin; refine wpl_append (w0 := w) rfl (.tmp 28) (.tmp 29) _ rfl 38 .u32 4 Try.underlying22 info_u32 rfl rfl OA1.out (Ha.out.ext XA1.out) XA1.out (by omega) (by simp only [maxLen]; omega) ?_; intro A1 n1 c1 w1 o1 hr1 hg1 hn1; have O1 : Hid (Own .u32 38 w1 w.heap.size A1 n1 c1 xs) := hid o1; have X1 := hid ((Ext.refl _).trans hr1); have hy1 := hid hr1; clear o1 hg1 OA1 XA1 hr1)
      | (go_at_call 10; (with_reducible refine (of_v (Na.out.ext hy1.out) (by omega)).mono ?_); rintro E2 w2 ⟨A2, n2, c2, rfl, o2, hr2⟩; have O2 := hid o2; clear o2; have X2 := hid (X1.out.trans hr2); have hy2 := hid hr2; clear hr2)
      | (go_at_call 22; (with_reducible refine (shl_v (v := n) rfl ((Nv.mk' (K := 40) O1.out.sl Lx.out (by have := hn1.out; omega) Vp.out).ext hy2.out) (by omega) (by omega)).mono ?_); rintro E3 w3 ⟨A3, n3, c3, rfl, o3, hr3⟩; have O3 := hid o3; clear o3; have X3 := hid (X2.out.trans hr3); have hy3 := hid hr3; clear hr3)
      | (go_at_call 23; (with_reducible refine (shr_v (v := n) rfl ((Nv.mk' (K := 40) O1.out.sl Lx.out (by have := hn1.out; omega) Vp.out).ext (hy2.out.trans hy3.out)) (by omega) (by omega)).mono ?_); rintro E4 w4 ⟨A4, n4, c4, rfl, o4, hr4⟩; have O4 := hid o4; clear o4; have X4 := hid (X3.out.trans hr4); have hy4 := hid hr4; clear hr4)
      | (go_at_call 26; (with_reducible refine (rtwo_v (v := n) (N := 400) rfl (by omega) (by omega)).mono ?_); rintro E5 w5 ⟨A5, n5, c5, rfl, o5, hr5⟩; have O5 := hid o5; clear o5; have X5 := hid (X4.out.trans hr5); have hy5 := hid hr5; clear hr5)
      | (go_at_call 25; (with_reducible refine (rdivmod_v (O2.out.ext ((hy3.out.trans hy4.out).trans hy5.out)) O5.out (by omega) hpos.out).mono ?_); rintro E6 w6 ⟨A6, n6, c6, B6, m6, d6, rfl, o6, p6, ln6, lm6, hr6⟩; have O6 := hid (Dg.mk o6 ln6); have P6 := hid (Dg.mk p6 lm6); clear o6 p6 ln6 lm6; have X6 := hid (X5.out.trans hr6); have hy6 := hid hr6; clear hr6)
      | (go_at_call 26; (with_reducible refine (rtwo_v (v := n) (N := 400) rfl (by omega) (by omega)).mono ?_); rintro E7 w7 ⟨A7, n7, c7, rfl, o7, hr7⟩; have O7 := hid o7; clear o7; have X7 := hid (X6.out.trans hr7); have hy7 := hid hr7; clear hr7)
      | (go_at_call 27; (with_reducible refine (rmul_v (O2.out.ext ((((hy3.out.trans hy4.out).trans hy5.out).trans hy6.out).trans hy7.out)) O7.out (by omega)).mono ?_); rintro E8 w8 ⟨A8, n8, c8, rfl, o8, hr8⟩; have O8 := hid o8; clear o8; have X8 := hid (X7.out.trans hr8); have hy8 := hid hr8; clear hr8)
      | (go_at_call 15; (with_reducible refine (limbs_v O8.out (by omega)).mono ?_); rintro E9 w9 ⟨A9, n9, c9, rfl, o9, hr9⟩; have O9 := hid o9; clear o9; have X9 := hid (X8.out.trans hr9); have hy9 := hid hr9; clear hr9)
      | (go_at_call 13; (with_reducible refine (same_c (O3.out.ext (((((hy4.out.trans hy5.out).trans hy6.out).trans hy7.out).trans hy8.out).trans hy9.out)) O9.out (by omega) rfl).mono ?_); rintro E10 w10 ⟨rfl, hr10⟩; have X10 := hid (X9.out.trans hr10); have hy10 := hid hr10; clear hr10)
      | (go_at_call 15; (with_reducible refine (limbs_v (O6.out.ext (((hy7.out.trans hy8.out).trans hy9.out).trans hy10.out)) (by omega)).mono ?_); rintro E11 w11 ⟨A11, n11, c11, rfl, o11, hr11⟩; have O11 := hid o11; clear o11; have X11 := hid (X10.out.trans hr11); have hy11 := hid hr11; clear hr11)
      | (go_at_call 13; (with_reducible refine (same_c (O4.out.ext ((((((hy5.out.trans hy6.out).trans hy7.out).trans hy8.out).trans hy9.out).trans hy10.out).trans hy11.out)) O11.out (by omega) rfl).mono ?_); rintro E12 w12 ⟨rfl, hr12⟩; have X12 := hid (X11.out.trans hr12); have hy12 := hid hr12; clear hr12)
      | (go_at_call 24; (with_reducible refine (bits_v ((Nv.mk' (K := 40) O1.out.sl Lx.out (by have := hn1.out; omega) Vp.out).ext ((((((((((hy2.out.trans hy3.out).trans hy4.out).trans hy5.out).trans hy6.out).trans hy7.out).trans hy8.out).trans hy9.out).trans hy10.out).trans hy11.out).trans hy12.out)) (by omega)).mono ?_); rintro Es13 ws13 ⟨rfl, rfl⟩)
      | (go_at_call 28; (with_reducible refine (rbits_v (O2.out.ext (((((((((hy3.out.trans hy4.out).trans hy5.out).trans hy6.out).trans hy7.out).trans hy8.out).trans hy9.out).trans hy10.out).trans hy11.out).trans hy12.out)) (by omega)).mono ?_); rintro E13 w13 ⟨rfl, hr13⟩; have X13 := hid (X12.out.trans hr13); have hy13 := hid hr13; clear hr13)
      | (go_at_call 29; (with_reducible refine (small_v rfl hu.out).mono ?_); rintro E14 w14 ⟨A14, n14, c14, rfl, o14, hr14⟩; have O14 := hid o14; clear o14; have X14 := hid (X13.out.trans hr14); have hy14 := hid hr14; clear hr14)
      | (go_at_call 30; (with_reducible refine (rsmall_v rfl hu.out).mono ?_); rintro E15 w15 ⟨A15, n15, c15, rfl, o15, hr15⟩; have O15 := hid o15; clear o15; have X15 := hid (X14.out.trans hr15); have hy15 := hid hr15; clear hr15)
      | (go_at_call 15; (with_reducible refine (limbs_v O15.out (by omega)).mono ?_); rintro E16 w16 ⟨A16, n16, c16, rfl, o16, hr16⟩; have O16 := hid o16; clear o16; have X16 := hid (X15.out.trans hr16); have hy16 := hid hr16; clear hr16)
      | (go_at_call 13; (with_reducible refine (same_c (O14.out.ext (hy15.out.trans hy16.out)) O16.out (by omega) rfl).mono ?_); rintro E17 w17 ⟨rfl, hr17⟩; have X17 := hid (X16.out.trans hr17); have hy17 := hid hr17; clear hr17)
      | (go_at_call 19; (with_reducible refine (kept_v (O1.out.sl.ext (((((((((((((((hy2.out.trans hy3.out).trans hy4.out).trans hy5.out).trans hy6.out).trans hy7.out).trans hy8.out).trans hy9.out).trans hy10.out).trans hy11.out).trans hy12.out).trans hy13.out).trans hy14.out).trans hy15.out).trans hy16.out).trans hy17.out)) (Ha.out.ext ((((((((((((((((hy1.out.trans hy2.out).trans hy3.out).trans hy4.out).trans hy5.out).trans hy6.out).trans hy7.out).trans hy8.out).trans hy9.out).trans hy10.out).trans hy11.out).trans hy12.out).trans hy13.out).trans hy14.out).trans hy15.out).trans hy16.out).trans hy17.out)) (by have := hn1.out; omega)).mono ?_); rintro E18 w18 ⟨rfl, hr18⟩; have X18 := hid (X17.out.trans hr18); have hy18 := hid hr18; clear hr18)
      | (go_at_call 31; (with_reducible refine (word_v ((Nv.mk' (K := 40) O1.out.sl Lx.out (by have := hn1.out; omega) Vp.out).ext ((((((((((((((((hy2.out.trans hy3.out).trans hy4.out).trans hy5.out).trans hy6.out).trans hy7.out).trans hy8.out).trans hy9.out).trans hy10.out).trans hy11.out).trans hy12.out).trans hy13.out).trans hy14.out).trans hy15.out).trans hy16.out).trans hy17.out).trans hy18.out)) (by omega) hw.out).mono ?_); rintro Es19 ws19 ⟨rfl, rfl⟩)
      | (go_at_call 28; (with_reducible refine (rbits_v (O2.out.ext (((((((((((((((hy3.out.trans hy4.out).trans hy5.out).trans hy6.out).trans hy7.out).trans hy8.out).trans hy9.out).trans hy10.out).trans hy11.out).trans hy12.out).trans hy13.out).trans hy14.out).trans hy15.out).trans hy16.out).trans hy17.out).trans hy18.out)) (by omega)).mono ?_); rintro E19 w19 ⟨rfl, hr19⟩; have X19 := hid (X18.out.trans hr19); have hy19 := hid hr19; clear hr19)
      | (go_at_call 30; (with_reducible refine (rsmall_v rfl hw.out).mono ?_); rintro E20 w20 ⟨A20, n20, c20, rfl, o20, hr20⟩; have O20 := hid o20; clear o20; have X20 := hid (X19.out.trans hr20); have hy20 := hid hr20; clear hr20)
      | (go_at_call 15; (with_reducible refine (limbs_v O20.out (by omega)).mono ?_); rintro E21 w21 ⟨A21, n21, c21, rfl, o21, hr21⟩; have O21 := hid o21; clear o21; have X21 := hid (X20.out.trans hr21); have hy21 := hid hr21; clear hr21)
      | (go_at_call 15; (with_reducible refine (limbs_v (O2.out.ext ((((((((((((((((((hy3.out.trans hy4.out).trans hy5.out).trans hy6.out).trans hy7.out).trans hy8.out).trans hy9.out).trans hy10.out).trans hy11.out).trans hy12.out).trans hy13.out).trans hy14.out).trans hy15.out).trans hy16.out).trans hy17.out).trans hy18.out).trans hy19.out).trans hy20.out).trans hy21.out)) (by omega)).mono ?_); rintro E22 w22 ⟨A22, n22, c22, rfl, o22, hr22⟩; have O22 := hid o22; clear o22; have X22 := hid (X21.out.trans hr22); have hy22 := hid hr22; clear hr22)
      | (go_at_call 13; (with_reducible refine (same_c (O21.out.ext hy22.out) O22.out (by omega) rfl).mono ?_); rintro E23 w23 ⟨rfl, hr23⟩; have X23 := hid (X22.out.trans hr23); have hy23 := hid hr23; clear hr23)
      | (go_at_call 9; (with_reducible refine (known_any).mono ?_); rintro E24 w24 ⟨rfl, hr24⟩; have X24 := hid (X23.out.trans hr24); have hy24 := hid hr24; clear hr24))
    go_ret
    exact ⟨rfl, X24.out⟩
  · have hw := hid (Nat.le_of_not_lt hbig)
    have h64 : (64 : Int) < (bl p : Int) := by have := g64.1; omega
    clear hbig g64
    go_enter Try.func6, Try.ntmps6
    go_wp2_with (first
      | (go_at_call 8; (with_reducible refine (great_no h1 (Nat.zero_le 40)).mono ?_); rintro Es1 ws1 ⟨rfl, rfl⟩)
      | ((with_reducible refine wpl_lit0 (w0 := w) (Ext.refl _) rfl _ rfl 38 .u32 4 Try.underlying22 info_u32 ?_); intro ga1 wa1 hga1 oa1 hxa1 hya1; have OA1 := hid oa1; have XA1 := hid hxa1; clear oa1 hxa1 hya1 hga1)
      | (at_builtin; refine wpl_append (w0 := w) rfl (.tmp 28) (.tmp 29) _ rfl 38 .u32 4 Try.underlying22 info_u32 rfl rfl OA1.out (Ha.out.ext XA1.out) XA1.out (by omega) (by simp only [maxLen]; omega) ?_; intro A1 n1 c1 w1 o1 hr1 hg1 hn1; have O1 : Hid (Own .u32 38 w1 w.heap.size A1 n1 c1 xs) := hid o1; have X1 := hid ((Ext.refl _).trans hr1); have hy1 := hid hr1; clear o1 hg1 OA1 XA1 hr1)
      | (go_at_call 10; (with_reducible refine (of_v (Na.out.ext hy1.out) (by omega)).mono ?_); rintro E2 w2 ⟨A2, n2, c2, rfl, o2, hr2⟩; have O2 := hid o2; clear o2; have X2 := hid (X1.out.trans hr2); have hy2 := hid hr2; clear hr2)
      | (go_at_call 22; (with_reducible refine (shl_v (v := n) rfl ((Nv.mk' (K := 40) O1.out.sl Lx.out (by have := hn1.out; omega) Vp.out).ext hy2.out) (by omega) (by omega)).mono ?_); rintro E3 w3 ⟨A3, n3, c3, rfl, o3, hr3⟩; have O3 := hid o3; clear o3; have X3 := hid (X2.out.trans hr3); have hy3 := hid hr3; clear hr3)
      | (go_at_call 23; (with_reducible refine (shr_v (v := n) rfl ((Nv.mk' (K := 40) O1.out.sl Lx.out (by have := hn1.out; omega) Vp.out).ext (hy2.out.trans hy3.out)) (by omega) (by omega)).mono ?_); rintro E4 w4 ⟨A4, n4, c4, rfl, o4, hr4⟩; have O4 := hid o4; clear o4; have X4 := hid (X3.out.trans hr4); have hy4 := hid hr4; clear hr4)
      | (go_at_call 26; (with_reducible refine (rtwo_v (v := n) (N := 400) rfl (by omega) (by omega)).mono ?_); rintro E5 w5 ⟨A5, n5, c5, rfl, o5, hr5⟩; have O5 := hid o5; clear o5; have X5 := hid (X4.out.trans hr5); have hy5 := hid hr5; clear hr5)
      | (go_at_call 25; (with_reducible refine (rdivmod_v (O2.out.ext ((hy3.out.trans hy4.out).trans hy5.out)) O5.out (by omega) hpos.out).mono ?_); rintro E6 w6 ⟨A6, n6, c6, B6, m6, d6, rfl, o6, p6, ln6, lm6, hr6⟩; have O6 := hid (Dg.mk o6 ln6); have P6 := hid (Dg.mk p6 lm6); clear o6 p6 ln6 lm6; have X6 := hid (X5.out.trans hr6); have hy6 := hid hr6; clear hr6)
      | (go_at_call 26; (with_reducible refine (rtwo_v (v := n) (N := 400) rfl (by omega) (by omega)).mono ?_); rintro E7 w7 ⟨A7, n7, c7, rfl, o7, hr7⟩; have O7 := hid o7; clear o7; have X7 := hid (X6.out.trans hr7); have hy7 := hid hr7; clear hr7)
      | (go_at_call 27; (with_reducible refine (rmul_v (O2.out.ext ((((hy3.out.trans hy4.out).trans hy5.out).trans hy6.out).trans hy7.out)) O7.out (by omega)).mono ?_); rintro E8 w8 ⟨A8, n8, c8, rfl, o8, hr8⟩; have O8 := hid o8; clear o8; have X8 := hid (X7.out.trans hr8); have hy8 := hid hr8; clear hr8)
      | (go_at_call 15; (with_reducible refine (limbs_v O8.out (by omega)).mono ?_); rintro E9 w9 ⟨A9, n9, c9, rfl, o9, hr9⟩; have O9 := hid o9; clear o9; have X9 := hid (X8.out.trans hr9); have hy9 := hid hr9; clear hr9)
      | (go_at_call 13; (with_reducible refine (same_c (O3.out.ext (((((hy4.out.trans hy5.out).trans hy6.out).trans hy7.out).trans hy8.out).trans hy9.out)) O9.out (by omega) rfl).mono ?_); rintro E10 w10 ⟨rfl, hr10⟩; have X10 := hid (X9.out.trans hr10); have hy10 := hid hr10; clear hr10)
      | (go_at_call 15; (with_reducible refine (limbs_v (O6.out.ext (((hy7.out.trans hy8.out).trans hy9.out).trans hy10.out)) (by omega)).mono ?_); rintro E11 w11 ⟨A11, n11, c11, rfl, o11, hr11⟩; have O11 := hid o11; clear o11; have X11 := hid (X10.out.trans hr11); have hy11 := hid hr11; clear hr11)
      | (go_at_call 13; (with_reducible refine (same_c (O4.out.ext ((((((hy5.out.trans hy6.out).trans hy7.out).trans hy8.out).trans hy9.out).trans hy10.out).trans hy11.out)) O11.out (by omega) rfl).mono ?_); rintro E12 w12 ⟨rfl, hr12⟩; have X12 := hid (X11.out.trans hr12); have hy12 := hid hr12; clear hr12)
      | (go_at_call 24; (with_reducible refine (bits_v ((Nv.mk' (K := 40) O1.out.sl Lx.out (by have := hn1.out; omega) Vp.out).ext ((((((((((hy2.out.trans hy3.out).trans hy4.out).trans hy5.out).trans hy6.out).trans hy7.out).trans hy8.out).trans hy9.out).trans hy10.out).trans hy11.out).trans hy12.out)) (by omega)).mono ?_); rintro Es13 ws13 ⟨rfl, rfl⟩)
      | (go_at_call 28; (with_reducible refine (rbits_v (O2.out.ext (((((((((hy3.out.trans hy4.out).trans hy5.out).trans hy6.out).trans hy7.out).trans hy8.out).trans hy9.out).trans hy10.out).trans hy11.out).trans hy12.out)) (by omega)).mono ?_); rintro E13 w13 ⟨rfl, hr13⟩; have X13 := hid (X12.out.trans hr13); have hy13 := hid hr13; clear hr13)
      | (go_at_call 29; (with_reducible refine (small_v rfl hu.out).mono ?_); rintro E14 w14 ⟨A14, n14, c14, rfl, o14, hr14⟩; have O14 := hid o14; clear o14; have X14 := hid (X13.out.trans hr14); have hy14 := hid hr14; clear hr14)
      | (go_at_call 30; (with_reducible refine (rsmall_v rfl hu.out).mono ?_); rintro E15 w15 ⟨A15, n15, c15, rfl, o15, hr15⟩; have O15 := hid o15; clear o15; have X15 := hid (X14.out.trans hr15); have hy15 := hid hr15; clear hr15)
      | (go_at_call 15; (with_reducible refine (limbs_v O15.out (by omega)).mono ?_); rintro E16 w16 ⟨A16, n16, c16, rfl, o16, hr16⟩; have O16 := hid o16; clear o16; have X16 := hid (X15.out.trans hr16); have hy16 := hid hr16; clear hr16)
      | (go_at_call 13; (with_reducible refine (same_c (O14.out.ext (hy15.out.trans hy16.out)) O16.out (by omega) rfl).mono ?_); rintro E17 w17 ⟨rfl, hr17⟩; have X17 := hid (X16.out.trans hr17); have hy17 := hid hr17; clear hr17)
      | (go_at_call 19; (with_reducible refine (kept_v (O1.out.sl.ext (((((((((((((((hy2.out.trans hy3.out).trans hy4.out).trans hy5.out).trans hy6.out).trans hy7.out).trans hy8.out).trans hy9.out).trans hy10.out).trans hy11.out).trans hy12.out).trans hy13.out).trans hy14.out).trans hy15.out).trans hy16.out).trans hy17.out)) (Ha.out.ext ((((((((((((((((hy1.out.trans hy2.out).trans hy3.out).trans hy4.out).trans hy5.out).trans hy6.out).trans hy7.out).trans hy8.out).trans hy9.out).trans hy10.out).trans hy11.out).trans hy12.out).trans hy13.out).trans hy14.out).trans hy15.out).trans hy16.out).trans hy17.out)) (by have := hn1.out; omega)).mono ?_); rintro E18 w18 ⟨rfl, hr18⟩; have X18 := hid (X17.out.trans hr18); have hy18 := hid hr18; clear hr18)
      | (go_at_call 31; (with_reducible refine (word_n ((Nv.mk' (K := 40) O1.out.sl Lx.out (by have := hn1.out; omega) Vp.out).ext ((((((((((((((((hy2.out.trans hy3.out).trans hy4.out).trans hy5.out).trans hy6.out).trans hy7.out).trans hy8.out).trans hy9.out).trans hy10.out).trans hy11.out).trans hy12.out).trans hy13.out).trans hy14.out).trans hy15.out).trans hy16.out).trans hy17.out).trans hy18.out)) (by omega) hw.out).mono ?_); rintro Es19 ws19 ⟨rfl, rfl⟩)
      | (go_at_call 28; (with_reducible refine (rbits_v (O2.out.ext (((((((((((((((hy3.out.trans hy4.out).trans hy5.out).trans hy6.out).trans hy7.out).trans hy8.out).trans hy9.out).trans hy10.out).trans hy11.out).trans hy12.out).trans hy13.out).trans hy14.out).trans hy15.out).trans hy16.out).trans hy17.out).trans hy18.out)) (by omega)).mono ?_); rintro E19 w19 ⟨rfl, hr19⟩; have X19 := hid (X18.out.trans hr19); have hy19 := hid hr19; clear hr19)
      | (go_at_call 9; (with_reducible refine (known_any).mono ?_); rintro E20 w20 ⟨rfl, hr20⟩; have X20 := hid (X19.out.trans hr20); have hy20 := hid hr20; clear hr20))
    go_ret
    exact ⟨rfl, X20.out⟩

set_option maxHeartbeats 6400000 in
set_option maxRecDepth 100000 in
theorem natShifts_any {w : World} {A1 : Option Addr} {n1 c1 : Nat} {xs : List Nat} {n u : Int} (ha : Sl .u32 w A1 n1 c1 xs) (la : Lim 4294967296 xs) (u0 : 0 ≤ u) (u1 : u ≤ 18446744073709551615) :
    Calls Try.prog 6 #[.slice A1 n1 c1, .int .i64 n, .int .u64 u] w (RetE (.bool true) w) := by
  by_cases h1 : n1 ≤ 40
  · by_cases hb : n < 0 ∨ 1048576 < n
    · exact natShifts_bad ha la h1 hb
    · by_cases h2 : n ≤ 400
      · obtain ⟨n, rfl⟩ := Int.eq_ofNat_of_zero_le (show 0 ≤ n by omega)
        obtain ⟨u, rfl⟩ := Int.eq_ofNat_of_zero_le u0
        exact natShifts_main ha la h1 (by omega) (by omega)
      · have h2' : (400 : Int) < n := by omega
        have h3' : n ≤ 1048576 := by omega
        clear hb ha la u0 u1
        go_enter Try.func6, Try.ntmps6
        go_wp2_with (first
          | (go_at_call 8; refine (great_no h1 (Nat.zero_le 40)).mono ?_; rintro E0 w0 ⟨rfl, rfl⟩)
          | (go_at_call 9; refine known_any.mono ?_; rintro E1 w1 ⟨rfl, hx1⟩))
        go_ret
        exact ⟨rfl, hx1⟩
  · have hg : 40 < n1 ∨ 40 < 0 := by omega
    clear ha la u0 u1
    go_enter Try.func6, Try.ntmps6
    go_wp2_with (first
      | (go_at_call 8; refine (great_yes hg).mono ?_; rintro E0 w0 ⟨rfl, rfl⟩)
      | (go_at_call 9; refine known_any.mono ?_; rintro E1 w1 ⟨rfl, hx1⟩))
    go_ret
    exact ⟨rfl, hx1⟩

end Go.Proofs.Ytgmppklfblblpaa
