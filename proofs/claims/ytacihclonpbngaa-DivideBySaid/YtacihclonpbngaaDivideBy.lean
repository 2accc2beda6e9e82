
/-
  The walk of the statement DivideBy. Printed by wip/gen/law3.py.
-/
import Derived.Test.YtacihclonpbngaaKnownD
namespace Go.Proofs.Ytacihclonpbngaa
open Go.RowKit
open Go.Lib (hid)

set_option maxHeartbeats 6400000 in
set_option maxRecDepth 100000 in
theorem divideBy_zero {w : World} {P1 P2 : Option Addr} {m1 m2 d1 d2 p d : Nat} {xs ys : List Nat} (ha : Sl .u32 w P1 m1 d1 xs) (hb : Sl .u32 w P2 m2 d2 ys) (la : Lim 4294967296 xs) (lb : Lim 4294967296 ys) (h1 : m1 ≤ 40) (h2 : m2 ≤ 40) (hdB : d < 4294967296)
    (vp : nv 4294967296 xs = p) (vq : nv 4294967296 ys = 0) :
    Calls Try.prog 7 #[.slice P1 m1 d1, .slice P2 m2 d2, .int .u32 d] w (RetE (.bool true) w) := by
  have Ha := hid ha
  have Hb := hid hb
  have Na := hid (Nv.mk' ha la h1 vp)
  have Nb := hid (Nv.mk' hb lb h2 vq)
  have Lx := hid la
  have Ly := hid lb
  have Vp := hid vp
  have Vq := hid vq
  have hd := hid hdB
  clear ha hb la lb vp vq
  by_cases hd0 : d = 0
  · subst hd0
    go_enter Try.func7, Try.ntmps7
    go_wp2_with (first
      | ((with_reducible refine wpl_lit0 (w0 := w) (Ext.refl _) rfl _ rfl 23 .u32 4 Try.underlying22 info_u32 ?_); intro ga1 wa1 hga1 oa1 hxa1 hya1; have OA1 := hid oa1; have XA1 := hid hxa1; clear oa1 hxa1 hya1 hga1)
      | (at_builtin; refine wpl_append (w0 := w) rfl (.tmp 28) (.tmp 29) _ rfl 23 .u32 4 Try.underlying22 info_u32 rfl rfl OA1.out (Ha.out.ext XA1.out) XA1.out (by omega) (by simp only [maxLen]; omega) ?_; intro A1 n1 c1 w1 o1 hr1 hg1 hn1; have O1 : Hid (Own .u32 23 w1 w.heap.size A1 n1 c1 xs) := hid o1; have X1 := hid ((Ext.refl _).trans hr1); have hy1 := hid hr1; clear o1 hg1 OA1 XA1 hr1)
      | ((with_reducible refine wpl_lit0 (w0 := w1) (Ext.refl _) rfl _ rfl 23 .u32 4 Try.underlying22 info_u32 ?_); intro ga2 wa2 hga2 oa2 hxa2 hya2; have OA2 := hid oa2; have XA2 := hid hxa2; clear oa2 hxa2 hya2 hga2)
      | (at_builtin; refine wpl_append (w0 := w1) rfl (.tmp 31) (.tmp 32) _ rfl 23 .u32 4 Try.underlying22 info_u32 rfl rfl OA2.out ((Hb.out.ext hy1.out).ext XA2.out) XA2.out (by omega) (by simp only [maxLen]; omega) ?_; intro A2 n2 c2 w2 o2 hr2 hg2 hn2; have O2 : Hid (Own .u32 23 w2 w1.heap.size A2 n2 c2 ys) := hid o2; have X2 := hid (X1.out.trans hr2); have hy2 := hid hr2; clear o2 hg2 OA2 XA2 hr2)
      | (go_at_call 25; (with_reducible refine (divmod_zero ((Nv.mk' (K := 40) O1.out.sl Lx.out (by have := hn1.out; omega) Vp.out).ext hy2.out) (Nv.mk' (K := 40) O2.out.sl Ly.out (by have := hn2.out; omega) Vq.out) (by omega)).mono ?_); rintro E3 w3 ⟨A3, n3, c3, B3, m3, d3, rfl, o3, p3, hr3⟩; have O3 := hid o3; have P3 := hid p3; clear o3 p3; have X3 := hid (X2.out.trans hr3); have hy3 := hid hr3; clear hr3; have hl3 := O3.out.len0 rfl; have hm3 := P3.out.len0 rfl; subst hl3; subst hm3)
      | (go_at_call 26; (with_reducible refine (exact_zero ((Nv.mk' (K := 40) O1.out.sl Lx.out (by have := hn1.out; omega) Vp.out).ext (hy2.out.trans hy3.out)) ((Nv.mk' (K := 40) O2.out.sl Ly.out (by have := hn2.out; omega) Vq.out).ext hy3.out) (by omega)).mono ?_); rintro E4 w4 ⟨rfl, hr4⟩; have X4 := hid (X3.out.trans hr4); have hy4 := hid hr4; clear hr4)
      | (go_at_call 27; (with_reducible refine (rzero_yes (Nb.out.ext (((hy1.out.trans hy2.out).trans hy3.out).trans hy4.out)) (by omega)).mono ?_); rintro E5 w5 ⟨rfl, hr5⟩; have X5 := hid (X4.out.trans hr5); have hy5 := hid hr5; clear hr5)
      | (go_at_call 29; (with_reducible refine (dlimb_no).mono ?_); rintro Es6 ws6 ⟨rfl, rfl⟩)
      | (go_at_call 14; (with_reducible refine (same_yes (O1.out.sl.ext (((hy2.out.trans hy3.out).trans hy4.out).trans hy5.out)) (Ha.out.ext ((((hy1.out.trans hy2.out).trans hy3.out).trans hy4.out).trans hy5.out)) rfl (by have := hn1.out; omega)).mono ?_); rintro E6 w6 ⟨rfl, hr6⟩; have X6 := hid (X5.out.trans hr6); have hy6 := hid hr6; clear hr6)
      | (go_at_call 14; (with_reducible refine (same_yes (O2.out.sl.ext (((hy3.out.trans hy4.out).trans hy5.out).trans hy6.out)) (Hb.out.ext (((((hy1.out.trans hy2.out).trans hy3.out).trans hy4.out).trans hy5.out).trans hy6.out)) rfl (by have := hn2.out; omega)).mono ?_); rintro E7 w7 ⟨rfl, hr7⟩; have X7 := hid (X6.out.trans hr7); have hy7 := hid hr7; clear hr7)
      | (go_at_call 24; (with_reducible refine (known_any3).mono ?_); rintro E8 w8 ⟨rfl, hr8⟩; have X8 := hid (X7.out.trans hr8); have hy8 := hid hr8; clear hr8))
    go_ret
    exact ⟨rfl, X8.out⟩
  · have hdz : ((d : Int) == 0) = false := beq_eq_false_iff_ne.2 (by omega)
    have hd0 : Hid (0 < d) := (by show 0 < d; omega)
    have hmd : Hid (p % d < 18446744073709551616) := (by show _ < _; have := Nat.mod_lt p hd0.out; have := hd.out; omega)
    go_enter Try.func7, Try.ntmps7
    go_wp2_with (first
      | ((with_reducible refine wpl_lit0 (w0 := w) (Ext.refl _) rfl _ rfl 23 .u32 4 Try.underlying22 info_u32 ?_); intro ga1 wa1 hga1 oa1 hxa1 hya1; have OA1 := hid oa1; have XA1 := hid hxa1; clear oa1 hxa1 hya1 hga1)
      | (at_builtin; refine wpl_append (w0 := w) rfl (.tmp 28) (.tmp 29) _ rfl 23 .u32 4 Try.underlying22 info_u32 rfl rfl OA1.out (Ha.out.ext XA1.out) XA1.out (by omega) (by simp only [maxLen]; omega) ?_; intro A1 n1 c1 w1 o1 hr1 hg1 hn1; have O1 : Hid (Own .u32 23 w1 w.heap.size A1 n1 c1 xs) := hid o1; have X1 := hid ((Ext.refl _).trans hr1); have hy1 := hid hr1; clear o1 hg1 OA1 XA1 hr1)
      | ((with_reducible refine wpl_lit0 (w0 := w1) (Ext.refl _) rfl _ rfl 23 .u32 4 Try.underlying22 info_u32 ?_); intro ga2 wa2 hga2 oa2 hxa2 hya2; have OA2 := hid oa2; have XA2 := hid hxa2; clear oa2 hxa2 hya2 hga2)
      | (at_builtin; refine wpl_append (w0 := w1) rfl (.tmp 31) (.tmp 32) _ rfl 23 .u32 4 Try.underlying22 info_u32 rfl rfl OA2.out ((Hb.out.ext hy1.out).ext XA2.out) XA2.out (by omega) (by simp only [maxLen]; omega) ?_; intro A2 n2 c2 w2 o2 hr2 hg2 hn2; have O2 : Hid (Own .u32 23 w2 w1.heap.size A2 n2 c2 ys) := hid o2; have X2 := hid (X1.out.trans hr2); have hy2 := hid hr2; clear o2 hg2 OA2 XA2 hr2)
      | (go_at_call 25; (with_reducible refine (divmod_zero ((Nv.mk' (K := 40) O1.out.sl Lx.out (by have := hn1.out; omega) Vp.out).ext hy2.out) (Nv.mk' (K := 40) O2.out.sl Ly.out (by have := hn2.out; omega) Vq.out) (by omega)).mono ?_); rintro E3 w3 ⟨A3, n3, c3, B3, m3, d3, rfl, o3, p3, hr3⟩; have O3 := hid o3; have P3 := hid p3; clear o3 p3; have X3 := hid (X2.out.trans hr3); have hy3 := hid hr3; clear hr3; have hl3 := O3.out.len0 rfl; have hm3 := P3.out.len0 rfl; subst hl3; subst hm3)
      | (go_at_call 26; (with_reducible refine (exact_zero ((Nv.mk' (K := 40) O1.out.sl Lx.out (by have := hn1.out; omega) Vp.out).ext (hy2.out.trans hy3.out)) ((Nv.mk' (K := 40) O2.out.sl Ly.out (by have := hn2.out; omega) Vq.out).ext hy3.out) (by omega)).mono ?_); rintro E4 w4 ⟨rfl, hr4⟩; have X4 := hid (X3.out.trans hr4); have hy4 := hid hr4; clear hr4)
      | (go_at_call 27; (with_reducible refine (rzero_yes (Nb.out.ext (((hy1.out.trans hy2.out).trans hy3.out).trans hy4.out)) (by omega)).mono ?_); rintro E5 w5 ⟨rfl, hr5⟩; have X5 := hid (X4.out.trans hr5); have hy5 := hid hr5; clear hr5)
      | (go_at_call 29; (with_reducible refine (dlimb_v (d := d) rfl ((Nv.mk' (K := 40) O1.out.sl Lx.out (by have := hn1.out; omega) Vp.out).ext (((hy2.out.trans hy3.out).trans hy4.out).trans hy5.out)) (by omega) hd0.out hd.out).mono ?_); rintro E6 w6 ⟨A6, n6, c6, rfl, o6, hr6⟩; have O6 := hid o6; clear o6; have X6 := hid (X5.out.trans hr6); have hy6 := hid hr6; clear hr6)
      | ((with_reducible refine wpl_lit1 (w0 := w) X6.out rfl _ _ rfl 23 .u32 4 Try.underlying22 info_u32 _ d rfl rfl ?_); intro g7 w7 hg7 o7 hx7 hr7; have O7 := hid o7; have X7 := hid hx7; have hy7 := hid hr7; clear o7 hx7 hr7 hg7)
      | (go_at_call 28; (with_reducible refine (rdm_v (Na.out.ext ((((((hy1.out.trans hy2.out).trans hy3.out).trans hy4.out).trans hy5.out).trans hy6.out).trans hy7.out)) (lit_nv1 O7.out hd.out) (by omega) hd0.out).mono ?_); rintro E8 w8 ⟨A8, n8, c8, B8, m8, d8, rfl, o8, p8, hr8⟩; have O8 := hid o8; have P8 := hid p8; clear o8 p8; have X8 := hid (X7.out.trans hr8); have hy8 := hid hr8; clear hr8)
      | (go_at_call 14; (with_reducible refine (same_c (O6.out.ext (hy7.out.trans hy8.out)) O8.out (by omega) rfl).mono ?_); rintro E9 w9 ⟨rfl, hr9⟩; have X9 := hid (X8.out.trans hr9); have hy9 := hid hr9; clear hr9)
      | (go_at_call 21; (with_reducible refine (small_v (v := p % d) (V := IntKind.u64.wrap ((p : Int) % (d : Int))) (wrap_mod hd0.out hd.out) hmd.out).mono ?_); rintro E10 w10 ⟨A10, n10, c10, rfl, o10, hr10⟩; have O10 := hid o10; clear o10; have X10 := hid (X9.out.trans hr10); have hy10 := hid hr10; clear hr10)
      | (go_at_call 14; (with_reducible refine (same_c O10.out (P8.out.ext (hy9.out.trans hy10.out)) (by omega) rfl).mono ?_); rintro E11 w11 ⟨rfl, hr11⟩; have X11 := hid (X10.out.trans hr11); have hy11 := hid hr11; clear hr11)
      | (go_at_call 14; (with_reducible refine (same_yes (O1.out.sl.ext (((((((((hy2.out.trans hy3.out).trans hy4.out).trans hy5.out).trans hy6.out).trans hy7.out).trans hy8.out).trans hy9.out).trans hy10.out).trans hy11.out)) (Ha.out.ext ((((((((((hy1.out.trans hy2.out).trans hy3.out).trans hy4.out).trans hy5.out).trans hy6.out).trans hy7.out).trans hy8.out).trans hy9.out).trans hy10.out).trans hy11.out)) rfl (by have := hn1.out; omega)).mono ?_); rintro E12 w12 ⟨rfl, hr12⟩; have X12 := hid (X11.out.trans hr12); have hy12 := hid hr12; clear hr12)
      | (go_at_call 14; (with_reducible refine (same_yes (O2.out.sl.ext (((((((((hy3.out.trans hy4.out).trans hy5.out).trans hy6.out).trans hy7.out).trans hy8.out).trans hy9.out).trans hy10.out).trans hy11.out).trans hy12.out)) (Hb.out.ext (((((((((((hy1.out.trans hy2.out).trans hy3.out).trans hy4.out).trans hy5.out).trans hy6.out).trans hy7.out).trans hy8.out).trans hy9.out).trans hy10.out).trans hy11.out).trans hy12.out)) rfl (by have := hn2.out; omega)).mono ?_); rintro E13 w13 ⟨rfl, hr13⟩; have X13 := hid (X12.out.trans hr13); have hy13 := hid hr13; clear hr13)
      | (go_at_call 24; (with_reducible refine (known_any3).mono ?_); rintro E14 w14 ⟨rfl, hr14⟩; have X14 := hid (X13.out.trans hr14); have hy14 := hid hr14; clear hr14))
    go_ret
    exact ⟨rfl, X14.out⟩

set_option maxHeartbeats 6400000 in
set_option maxRecDepth 100000 in
theorem divideBy_yes {w : World} {P1 P2 : Option Addr} {m1 m2 d1 d2 p q d : Nat} {xs ys : List Nat} (ha : Sl .u32 w P1 m1 d1 xs) (hb : Sl .u32 w P2 m2 d2 ys) (la : Lim 4294967296 xs) (lb : Lim 4294967296 ys) (h1 : m1 ≤ 40) (h2 : m2 ≤ 40) (hdB : d < 4294967296)
    (vp : nv 4294967296 xs = p) (vq : nv 4294967296 ys = q) (hq0 : q ≠ 0) (hx : p % q = 0) :
    Calls Try.prog 7 #[.slice P1 m1 d1, .slice P2 m2 d2, .int .u32 d] w (RetE (.bool true) w) := by
  have Ha := hid ha
  have Hb := hid hb
  have Na := hid (Nv.mk' ha la h1 vp)
  have Nb := hid (Nv.mk' hb lb h2 vq)
  have Lx := hid la
  have Ly := hid lb
  have Vp := hid vp
  have Vq := hid vq
  have hd := hid hdB
  clear ha hb la lb vp vq
  have hqz := hid hq0
  have hq : Hid (0 < q) := (by show 0 < q; omega)
  have hex := hid hx
  clear hq0 hx
  by_cases hd0 : d = 0
  · subst hd0
    go_enter Try.func7, Try.ntmps7
    go_wp2_with (first
      | ((with_reducible refine wpl_lit0 (w0 := w) (Ext.refl _) rfl _ rfl 23 .u32 4 Try.underlying22 info_u32 ?_); intro ga1 wa1 hga1 oa1 hxa1 hya1; have OA1 := hid oa1; have XA1 := hid hxa1; clear oa1 hxa1 hya1 hga1)
      | (at_builtin; refine wpl_append (w0 := w) rfl (.tmp 28) (.tmp 29) _ rfl 23 .u32 4 Try.underlying22 info_u32 rfl rfl OA1.out (Ha.out.ext XA1.out) XA1.out (by omega) (by simp only [maxLen]; omega) ?_; intro A1 n1 c1 w1 o1 hr1 hg1 hn1; have O1 : Hid (Own .u32 23 w1 w.heap.size A1 n1 c1 xs) := hid o1; have X1 := hid ((Ext.refl _).trans hr1); have hy1 := hid hr1; clear o1 hg1 OA1 XA1 hr1)
      | ((with_reducible refine wpl_lit0 (w0 := w1) (Ext.refl _) rfl _ rfl 23 .u32 4 Try.underlying22 info_u32 ?_); intro ga2 wa2 hga2 oa2 hxa2 hya2; have OA2 := hid oa2; have XA2 := hid hxa2; clear oa2 hxa2 hya2 hga2)
      | (at_builtin; refine wpl_append (w0 := w1) rfl (.tmp 31) (.tmp 32) _ rfl 23 .u32 4 Try.underlying22 info_u32 rfl rfl OA2.out ((Hb.out.ext hy1.out).ext XA2.out) XA2.out (by omega) (by simp only [maxLen]; omega) ?_; intro A2 n2 c2 w2 o2 hr2 hg2 hn2; have O2 : Hid (Own .u32 23 w2 w1.heap.size A2 n2 c2 ys) := hid o2; have X2 := hid (X1.out.trans hr2); have hy2 := hid hr2; clear o2 hg2 OA2 XA2 hr2)
      | (go_at_call 25; (with_reducible refine (divmod_v ((Nv.mk' (K := 40) O1.out.sl Lx.out (by have := hn1.out; omega) Vp.out).ext hy2.out) (Nv.mk' (K := 40) O2.out.sl Ly.out (by have := hn2.out; omega) Vq.out) (by omega) hq.out).mono ?_); rintro E3 w3 ⟨A3, n3, c3, B3, m3, d3, rfl, o3, p3, hr3⟩; have O3 := hid o3; have P3 := hid p3; clear o3 p3; have X3 := hid (X2.out.trans hr3); have hy3 := hid hr3; clear hr3)
      | (go_at_call 26; (with_reducible refine (exact_yes ((Nv.mk' (K := 40) O1.out.sl Lx.out (by have := hn1.out; omega) Vp.out).ext (hy2.out.trans hy3.out)) ((Nv.mk' (K := 40) O2.out.sl Ly.out (by have := hn2.out; omega) Vq.out).ext hy3.out) (by omega) hq.out hex.out).mono ?_); rintro E4 w4 ⟨A4, n4, c4, rfl, o4, hr4⟩; have O4 := hid o4; clear o4; have X4 := hid (X3.out.trans hr4); have hy4 := hid hr4; clear hr4)
      | (go_at_call 27; (with_reducible refine (rzero_no (Nb.out.ext (((hy1.out.trans hy2.out).trans hy3.out).trans hy4.out)) (by omega) hqz.out).mono ?_); rintro E5 w5 ⟨rfl, hr5⟩; have X5 := hid (X4.out.trans hr5); have hy5 := hid hr5; clear hr5)
      | (go_at_call 28; (with_reducible refine (rdm_v (Na.out.ext ((((hy1.out.trans hy2.out).trans hy3.out).trans hy4.out).trans hy5.out)) (Nb.out.ext ((((hy1.out.trans hy2.out).trans hy3.out).trans hy4.out).trans hy5.out)) (by omega) hq.out).mono ?_); rintro E6 w6 ⟨A6, n6, c6, B6, m6, d6, rfl, o6, p6, hr6⟩; have O6 := hid o6; have P6 := hid p6; clear o6 p6; have X6 := hid (X5.out.trans hr6); have hy6 := hid hr6; clear hr6; have hm6 := P6.out.len0 hex.out; subst hm6)
      | (go_at_call 14; (with_reducible refine (same_c (O3.out.ext ((hy4.out.trans hy5.out).trans hy6.out)) O6.out (by omega) rfl).mono ?_); rintro E7 w7 ⟨rfl, hr7⟩; have X7 := hid (X6.out.trans hr7); have hy7 := hid hr7; clear hr7)
      | (go_at_call 14; (with_reducible refine (same_c (P3.out.ext (((hy4.out.trans hy5.out).trans hy6.out).trans hy7.out)) (P6.out.ext hy7.out) (by omega) rfl).mono ?_); rintro E8 w8 ⟨rfl, hr8⟩; have X8 := hid (X7.out.trans hr8); have hy8 := hid hr8; clear hr8)
      | (go_at_call 14; (with_reducible refine (same_c (O4.out.ext (((hy5.out.trans hy6.out).trans hy7.out).trans hy8.out)) (O6.out.ext (hy7.out.trans hy8.out)) (by omega) rfl).mono ?_); rintro E9 w9 ⟨rfl, hr9⟩; have X9 := hid (X8.out.trans hr9); have hy9 := hid hr9; clear hr9)
      | (go_at_call 29; (with_reducible refine (dlimb_no).mono ?_); rintro Es10 ws10 ⟨rfl, rfl⟩)
      | (go_at_call 14; (with_reducible refine (same_yes (O1.out.sl.ext (((((((hy2.out.trans hy3.out).trans hy4.out).trans hy5.out).trans hy6.out).trans hy7.out).trans hy8.out).trans hy9.out)) (Ha.out.ext ((((((((hy1.out.trans hy2.out).trans hy3.out).trans hy4.out).trans hy5.out).trans hy6.out).trans hy7.out).trans hy8.out).trans hy9.out)) rfl (by have := hn1.out; omega)).mono ?_); rintro E10 w10 ⟨rfl, hr10⟩; have X10 := hid (X9.out.trans hr10); have hy10 := hid hr10; clear hr10)
      | (go_at_call 14; (with_reducible refine (same_yes (O2.out.sl.ext (((((((hy3.out.trans hy4.out).trans hy5.out).trans hy6.out).trans hy7.out).trans hy8.out).trans hy9.out).trans hy10.out)) (Hb.out.ext (((((((((hy1.out.trans hy2.out).trans hy3.out).trans hy4.out).trans hy5.out).trans hy6.out).trans hy7.out).trans hy8.out).trans hy9.out).trans hy10.out)) rfl (by have := hn2.out; omega)).mono ?_); rintro E11 w11 ⟨rfl, hr11⟩; have X11 := hid (X10.out.trans hr11); have hy11 := hid hr11; clear hr11)
      | (go_at_call 24; (with_reducible refine (known_any3).mono ?_); rintro E12 w12 ⟨rfl, hr12⟩; have X12 := hid (X11.out.trans hr12); have hy12 := hid hr12; clear hr12))
    go_ret
    exact ⟨rfl, X12.out⟩
  · have hdz : ((d : Int) == 0) = false := beq_eq_false_iff_ne.2 (by omega)
    have hd0 : Hid (0 < d) := (by show 0 < d; omega)
    have hmd : Hid (p % d < 18446744073709551616) := (by show _ < _; have := Nat.mod_lt p hd0.out; have := hd.out; omega)
    go_enter Try.func7, Try.ntmps7
    go_wp2_with (first
      | ((with_reducible refine wpl_lit0 (w0 := w) (Ext.refl _) rfl _ rfl 23 .u32 4 Try.underlying22 info_u32 ?_); intro ga1 wa1 hga1 oa1 hxa1 hya1; have OA1 := hid oa1; have XA1 := hid hxa1; clear oa1 hxa1 hya1 hga1)
      | (at_builtin; refine wpl_append (w0 := w) rfl (.tmp 28) (.tmp 29) _ rfl 23 .u32 4 Try.underlying22 info_u32 rfl rfl OA1.out (Ha.out.ext XA1.out) XA1.out (by omega) (by simp only [maxLen]; omega) ?_; intro A1 n1 c1 w1 o1 hr1 hg1 hn1; have O1 : Hid (Own .u32 23 w1 w.heap.size A1 n1 c1 xs) := hid o1; have X1 := hid ((Ext.refl _).trans hr1); have hy1 := hid hr1; clear o1 hg1 OA1 XA1 hr1)
      | ((with_reducible refine wpl_lit0 (w0 := w1) (Ext.refl _) rfl _ rfl 23 .u32 4 Try.underlying22 info_u32 ?_); intro ga2 wa2 hga2 oa2 hxa2 hya2; have OA2 := hid oa2; have XA2 := hid hxa2; clear oa2 hxa2 hya2 hga2)
      | (at_builtin; refine wpl_append (w0 := w1) rfl (.tmp 31) (.tmp 32) _ rfl 23 .u32 4 Try.underlying22 info_u32 rfl rfl OA2.out ((Hb.out.ext hy1.out).ext XA2.out) XA2.out (by omega) (by simp only [maxLen]; omega) ?_; intro A2 n2 c2 w2 o2 hr2 hg2 hn2; have O2 : Hid (Own .u32 23 w2 w1.heap.size A2 n2 c2 ys) := hid o2; have X2 := hid (X1.out.trans hr2); have hy2 := hid hr2; clear o2 hg2 OA2 XA2 hr2)
      | (go_at_call 25; (with_reducible refine (divmod_v ((Nv.mk' (K := 40) O1.out.sl Lx.out (by have := hn1.out; omega) Vp.out).ext hy2.out) (Nv.mk' (K := 40) O2.out.sl Ly.out (by have := hn2.out; omega) Vq.out) (by omega) hq.out).mono ?_); rintro E3 w3 ⟨A3, n3, c3, B3, m3, d3, rfl, o3, p3, hr3⟩; have O3 := hid o3; have P3 := hid p3; clear o3 p3; have X3 := hid (X2.out.trans hr3); have hy3 := hid hr3; clear hr3)
      | (go_at_call 26; (with_reducible refine (exact_yes ((Nv.mk' (K := 40) O1.out.sl Lx.out (by have := hn1.out; omega) Vp.out).ext (hy2.out.trans hy3.out)) ((Nv.mk' (K := 40) O2.out.sl Ly.out (by have := hn2.out; omega) Vq.out).ext hy3.out) (by omega) hq.out hex.out).mono ?_); rintro E4 w4 ⟨A4, n4, c4, rfl, o4, hr4⟩; have O4 := hid o4; clear o4; have X4 := hid (X3.out.trans hr4); have hy4 := hid hr4; clear hr4)
      | (go_at_call 27; (with_reducible refine (rzero_no (Nb.out.ext (((hy1.out.trans hy2.out).trans hy3.out).trans hy4.out)) (by omega) hqz.out).mono ?_); rintro E5 w5 ⟨rfl, hr5⟩; have X5 := hid (X4.out.trans hr5); have hy5 := hid hr5; clear hr5)
      | (go_at_call 28; (with_reducible refine (rdm_v (Na.out.ext ((((hy1.out.trans hy2.out).trans hy3.out).trans hy4.out).trans hy5.out)) (Nb.out.ext ((((hy1.out.trans hy2.out).trans hy3.out).trans hy4.out).trans hy5.out)) (by omega) hq.out).mono ?_); rintro E6 w6 ⟨A6, n6, c6, B6, m6, d6, rfl, o6, p6, hr6⟩; have O6 := hid o6; have P6 := hid p6; clear o6 p6; have X6 := hid (X5.out.trans hr6); have hy6 := hid hr6; clear hr6; have hm6 := P6.out.len0 hex.out; subst hm6)
      | (go_at_call 14; (with_reducible refine (same_c (O3.out.ext ((hy4.out.trans hy5.out).trans hy6.out)) O6.out (by omega) rfl).mono ?_); rintro E7 w7 ⟨rfl, hr7⟩; have X7 := hid (X6.out.trans hr7); have hy7 := hid hr7; clear hr7)
      | (go_at_call 14; (with_reducible refine (same_c (P3.out.ext (((hy4.out.trans hy5.out).trans hy6.out).trans hy7.out)) (P6.out.ext hy7.out) (by omega) rfl).mono ?_); rintro E8 w8 ⟨rfl, hr8⟩; have X8 := hid (X7.out.trans hr8); have hy8 := hid hr8; clear hr8)
      | (go_at_call 14; (with_reducible refine (same_c (O4.out.ext (((hy5.out.trans hy6.out).trans hy7.out).trans hy8.out)) (O6.out.ext (hy7.out.trans hy8.out)) (by omega) rfl).mono ?_); rintro E9 w9 ⟨rfl, hr9⟩; have X9 := hid (X8.out.trans hr9); have hy9 := hid hr9; clear hr9)
      | (go_at_call 29; (with_reducible refine (dlimb_v (d := d) rfl ((Nv.mk' (K := 40) O1.out.sl Lx.out (by have := hn1.out; omega) Vp.out).ext (((((((hy2.out.trans hy3.out).trans hy4.out).trans hy5.out).trans hy6.out).trans hy7.out).trans hy8.out).trans hy9.out)) (by omega) hd0.out hd.out).mono ?_); rintro E10 w10 ⟨A10, n10, c10, rfl, o10, hr10⟩; have O10 := hid o10; clear o10; have X10 := hid (X9.out.trans hr10); have hy10 := hid hr10; clear hr10)
      | ((with_reducible refine wpl_lit1 (w0 := w) X10.out rfl _ _ rfl 23 .u32 4 Try.underlying22 info_u32 _ d rfl rfl ?_); intro g11 w11 hg11 o11 hx11 hr11; have O11 := hid o11; have X11 := hid hx11; have hy11 := hid hr11; clear o11 hx11 hr11 hg11)
      | (go_at_call 28; (with_reducible refine (rdm_v (Na.out.ext ((((((((((hy1.out.trans hy2.out).trans hy3.out).trans hy4.out).trans hy5.out).trans hy6.out).trans hy7.out).trans hy8.out).trans hy9.out).trans hy10.out).trans hy11.out)) (lit_nv1 O11.out hd.out) (by omega) hd0.out).mono ?_); rintro E12 w12 ⟨A12, n12, c12, B12, m12, d12, rfl, o12, p12, hr12⟩; have O12 := hid o12; have P12 := hid p12; clear o12 p12; have X12 := hid (X11.out.trans hr12); have hy12 := hid hr12; clear hr12)
      | (go_at_call 14; (with_reducible refine (same_c (O10.out.ext (hy11.out.trans hy12.out)) O12.out (by omega) rfl).mono ?_); rintro E13 w13 ⟨rfl, hr13⟩; have X13 := hid (X12.out.trans hr13); have hy13 := hid hr13; clear hr13)
      | (go_at_call 21; (with_reducible refine (small_v (v := p % d) (V := IntKind.u64.wrap ((p : Int) % (d : Int))) (wrap_mod hd0.out hd.out) hmd.out).mono ?_); rintro E14 w14 ⟨A14, n14, c14, rfl, o14, hr14⟩; have O14 := hid o14; clear o14; have X14 := hid (X13.out.trans hr14); have hy14 := hid hr14; clear hr14)
      | (go_at_call 14; (with_reducible refine (same_c O14.out (P12.out.ext (hy13.out.trans hy14.out)) (by omega) rfl).mono ?_); rintro E15 w15 ⟨rfl, hr15⟩; have X15 := hid (X14.out.trans hr15); have hy15 := hid hr15; clear hr15)
      | (go_at_call 14; (with_reducible refine (same_yes (O1.out.sl.ext (((((((((((((hy2.out.trans hy3.out).trans hy4.out).trans hy5.out).trans hy6.out).trans hy7.out).trans hy8.out).trans hy9.out).trans hy10.out).trans hy11.out).trans hy12.out).trans hy13.out).trans hy14.out).trans hy15.out)) (Ha.out.ext ((((((((((((((hy1.out.trans hy2.out).trans hy3.out).trans hy4.out).trans hy5.out).trans hy6.out).trans hy7.out).trans hy8.out).trans hy9.out).trans hy10.out).trans hy11.out).trans hy12.out).trans hy13.out).trans hy14.out).trans hy15.out)) rfl (by have := hn1.out; omega)).mono ?_); rintro E16 w16 ⟨rfl, hr16⟩; have X16 := hid (X15.out.trans hr16); have hy16 := hid hr16; clear hr16)
      | (go_at_call 14; (with_reducible refine (same_yes (O2.out.sl.ext (((((((((((((hy3.out.trans hy4.out).trans hy5.out).trans hy6.out).trans hy7.out).trans hy8.out).trans hy9.out).trans hy10.out).trans hy11.out).trans hy12.out).trans hy13.out).trans hy14.out).trans hy15.out).trans hy16.out)) (Hb.out.ext (((((((((((((((hy1.out.trans hy2.out).trans hy3.out).trans hy4.out).trans hy5.out).trans hy6.out).trans hy7.out).trans hy8.out).trans hy9.out).trans hy10.out).trans hy11.out).trans hy12.out).trans hy13.out).trans hy14.out).trans hy15.out).trans hy16.out)) rfl (by have := hn2.out; omega)).mono ?_); rintro E17 w17 ⟨rfl, hr17⟩; have X17 := hid (X16.out.trans hr17); have hy17 := hid hr17; clear hr17)
      | (go_at_call 24; (with_reducible refine (known_any3).mono ?_); rintro E18 w18 ⟨rfl, hr18⟩; have X18 := hid (X17.out.trans hr18); have hy18 := hid hr18; clear hr18))
    go_ret
    exact ⟨rfl, X18.out⟩

set_option maxHeartbeats 6400000 in
set_option maxRecDepth 100000 in
theorem divideBy_no {w : World} {P1 P2 : Option Addr} {m1 m2 d1 d2 p q d : Nat} {xs ys : List Nat} (ha : Sl .u32 w P1 m1 d1 xs) (hb : Sl .u32 w P2 m2 d2 ys) (la : Lim 4294967296 xs) (lb : Lim 4294967296 ys) (h1 : m1 ≤ 40) (h2 : m2 ≤ 40) (hdB : d < 4294967296)
    (vp : nv 4294967296 xs = p) (vq : nv 4294967296 ys = q) (hq0 : q ≠ 0) (hx : p % q ≠ 0) :
    Calls Try.prog 7 #[.slice P1 m1 d1, .slice P2 m2 d2, .int .u32 d] w (RetE (.bool true) w) := by
  have Ha := hid ha
  have Hb := hid hb
  have Na := hid (Nv.mk' ha la h1 vp)
  have Nb := hid (Nv.mk' hb lb h2 vq)
  have Lx := hid la
  have Ly := hid lb
  have Vp := hid vp
  have Vq := hid vq
  have hd := hid hdB
  clear ha hb la lb vp vq
  have hqz := hid hq0
  have hq : Hid (0 < q) := (by show 0 < q; omega)
  have hex := hid hx
  clear hq0 hx
  by_cases hd0 : d = 0
  · subst hd0
    go_enter Try.func7, Try.ntmps7
    go_wp2_with (first
      | ((with_reducible refine wpl_lit0 (w0 := w) (Ext.refl _) rfl _ rfl 23 .u32 4 Try.underlying22 info_u32 ?_); intro ga1 wa1 hga1 oa1 hxa1 hya1; have OA1 := hid oa1; have XA1 := hid hxa1; clear oa1 hxa1 hya1 hga1)
      | (at_builtin; refine wpl_append (w0 := w) rfl (.tmp 28) (.tmp 29) _ rfl 23 .u32 4 Try.underlying22 info_u32 rfl rfl OA1.out (Ha.out.ext XA1.out) XA1.out (by omega) (by simp only [maxLen]; omega) ?_; intro A1 n1 c1 w1 o1 hr1 hg1 hn1; have O1 : Hid (Own .u32 23 w1 w.heap.size A1 n1 c1 xs) := hid o1; have X1 := hid ((Ext.refl _).trans hr1); have hy1 := hid hr1; clear o1 hg1 OA1 XA1 hr1)
      | ((with_reducible refine wpl_lit0 (w0 := w1) (Ext.refl _) rfl _ rfl 23 .u32 4 Try.underlying22 info_u32 ?_); intro ga2 wa2 hga2 oa2 hxa2 hya2; have OA2 := hid oa2; have XA2 := hid hxa2; clear oa2 hxa2 hya2 hga2)
      | (at_builtin; refine wpl_append (w0 := w1) rfl (.tmp 31) (.tmp 32) _ rfl 23 .u32 4 Try.underlying22 info_u32 rfl rfl OA2.out ((Hb.out.ext hy1.out).ext XA2.out) XA2.out (by omega) (by simp only [maxLen]; omega) ?_; intro A2 n2 c2 w2 o2 hr2 hg2 hn2; have O2 : Hid (Own .u32 23 w2 w1.heap.size A2 n2 c2 ys) := hid o2; have X2 := hid (X1.out.trans hr2); have hy2 := hid hr2; clear o2 hg2 OA2 XA2 hr2)
      | (go_at_call 25; (with_reducible refine (divmod_v ((Nv.mk' (K := 40) O1.out.sl Lx.out (by have := hn1.out; omega) Vp.out).ext hy2.out) (Nv.mk' (K := 40) O2.out.sl Ly.out (by have := hn2.out; omega) Vq.out) (by omega) hq.out).mono ?_); rintro E3 w3 ⟨A3, n3, c3, B3, m3, d3, rfl, o3, p3, hr3⟩; have O3 := hid o3; have P3 := hid p3; clear o3 p3; have X3 := hid (X2.out.trans hr3); have hy3 := hid hr3; clear hr3)
      | (go_at_call 26; (with_reducible refine (exact_no ((Nv.mk' (K := 40) O1.out.sl Lx.out (by have := hn1.out; omega) Vp.out).ext (hy2.out.trans hy3.out)) ((Nv.mk' (K := 40) O2.out.sl Ly.out (by have := hn2.out; omega) Vq.out).ext hy3.out) (by omega) hq.out hex.out).mono ?_); rintro E4 w4 ⟨rfl, hr4⟩; have X4 := hid (X3.out.trans hr4); have hy4 := hid hr4; clear hr4)
      | (go_at_call 27; (with_reducible refine (rzero_no (Nb.out.ext (((hy1.out.trans hy2.out).trans hy3.out).trans hy4.out)) (by omega) hqz.out).mono ?_); rintro E5 w5 ⟨rfl, hr5⟩; have X5 := hid (X4.out.trans hr5); have hy5 := hid hr5; clear hr5)
      | (go_at_call 28; (with_reducible refine (rdm_v (Na.out.ext ((((hy1.out.trans hy2.out).trans hy3.out).trans hy4.out).trans hy5.out)) (Nb.out.ext ((((hy1.out.trans hy2.out).trans hy3.out).trans hy4.out).trans hy5.out)) (by omega) hq.out).mono ?_); rintro E6 w6 ⟨A6, n6, c6, B6, m6, d6, rfl, o6, p6, hr6⟩; have O6 := hid o6; have P6 := hid p6; clear o6 p6; have X6 := hid (X5.out.trans hr6); have hy6 := hid hr6; clear hr6; have hm6 : ((m6 : Int) == 0) = false := beq_eq_false_iff_ne.2 (by have := P6.out.lenp hex.out; omega))
      | (go_at_call 14; (with_reducible refine (same_c (O3.out.ext ((hy4.out.trans hy5.out).trans hy6.out)) O6.out (by omega) rfl).mono ?_); rintro E7 w7 ⟨rfl, hr7⟩; have X7 := hid (X6.out.trans hr7); have hy7 := hid hr7; clear hr7)
      | (go_at_call 14; (with_reducible refine (same_c (P3.out.ext (((hy4.out.trans hy5.out).trans hy6.out).trans hy7.out)) (P6.out.ext hy7.out) (by omega) rfl).mono ?_); rintro E8 w8 ⟨rfl, hr8⟩; have X8 := hid (X7.out.trans hr8); have hy8 := hid hr8; clear hr8)
      | (go_at_call 29; (with_reducible refine (dlimb_no).mono ?_); rintro Es9 ws9 ⟨rfl, rfl⟩)
      | (go_at_call 14; (with_reducible refine (same_yes (O1.out.sl.ext ((((((hy2.out.trans hy3.out).trans hy4.out).trans hy5.out).trans hy6.out).trans hy7.out).trans hy8.out)) (Ha.out.ext (((((((hy1.out.trans hy2.out).trans hy3.out).trans hy4.out).trans hy5.out).trans hy6.out).trans hy7.out).trans hy8.out)) rfl (by have := hn1.out; omega)).mono ?_); rintro E9 w9 ⟨rfl, hr9⟩; have X9 := hid (X8.out.trans hr9); have hy9 := hid hr9; clear hr9)
      | (go_at_call 14; (with_reducible refine (same_yes (O2.out.sl.ext ((((((hy3.out.trans hy4.out).trans hy5.out).trans hy6.out).trans hy7.out).trans hy8.out).trans hy9.out)) (Hb.out.ext ((((((((hy1.out.trans hy2.out).trans hy3.out).trans hy4.out).trans hy5.out).trans hy6.out).trans hy7.out).trans hy8.out).trans hy9.out)) rfl (by have := hn2.out; omega)).mono ?_); rintro E10 w10 ⟨rfl, hr10⟩; have X10 := hid (X9.out.trans hr10); have hy10 := hid hr10; clear hr10)
      | (go_at_call 24; (with_reducible refine (known_any3).mono ?_); rintro E11 w11 ⟨rfl, hr11⟩; have X11 := hid (X10.out.trans hr11); have hy11 := hid hr11; clear hr11))
    go_ret
    exact ⟨rfl, X11.out⟩
  · have hdz : ((d : Int) == 0) = false := beq_eq_false_iff_ne.2 (by omega)
    have hd0 : Hid (0 < d) := (by show 0 < d; omega)
    have hmd : Hid (p % d < 18446744073709551616) := (by show _ < _; have := Nat.mod_lt p hd0.out; have := hd.out; omega)
    go_enter Try.func7, Try.ntmps7
    go_wp2_with (first
      | ((with_reducible refine wpl_lit0 (w0 := w) (Ext.refl _) rfl _ rfl 23 .u32 4 Try.underlying22 info_u32 ?_); intro ga1 wa1 hga1 oa1 hxa1 hya1; have OA1 := hid oa1; have XA1 := hid hxa1; clear oa1 hxa1 hya1 hga1)
      | (at_builtin; refine wpl_append (w0 := w) rfl (.tmp 28) (.tmp 29) _ rfl 23 .u32 4 Try.underlying22 info_u32 rfl rfl OA1.out (Ha.out.ext XA1.out) XA1.out (by omega) (by simp only [maxLen]; omega) ?_; intro A1 n1 c1 w1 o1 hr1 hg1 hn1; have O1 : Hid (Own .u32 23 w1 w.heap.size A1 n1 c1 xs) := hid o1; have X1 := hid ((Ext.refl _).trans hr1); have hy1 := hid hr1; clear o1 hg1 OA1 XA1 hr1)
      | ((with_reducible refine wpl_lit0 (w0 := w1) (Ext.refl _) rfl _ rfl 23 .u32 4 Try.underlying22 info_u32 ?_); intro ga2 wa2 hga2 oa2 hxa2 hya2; have OA2 := hid oa2; have XA2 := hid hxa2; clear oa2 hxa2 hya2 hga2)
      | (at_builtin; refine wpl_append (w0 := w1) rfl (.tmp 31) (.tmp 32) _ rfl 23 .u32 4 Try.underlying22 info_u32 rfl rfl OA2.out ((Hb.out.ext hy1.out).ext XA2.out) XA2.out (by omega) (by simp only [maxLen]; omega) ?_; intro A2 n2 c2 w2 o2 hr2 hg2 hn2; have O2 : Hid (Own .u32 23 w2 w1.heap.size A2 n2 c2 ys) := hid o2; have X2 := hid (X1.out.trans hr2); have hy2 := hid hr2; clear o2 hg2 OA2 XA2 hr2)
      | (go_at_call 25; (with_reducible refine (divmod_v ((Nv.mk' (K := 40) O1.out.sl Lx.out (by have := hn1.out; omega) Vp.out).ext hy2.out) (Nv.mk' (K := 40) O2.out.sl Ly.out (by have := hn2.out; omega) Vq.out) (by omega) hq.out).mono ?_); rintro E3 w3 ⟨A3, n3, c3, B3, m3, d3, rfl, o3, p3, hr3⟩; have O3 := hid o3; have P3 := hid p3; clear o3 p3; have X3 := hid (X2.out.trans hr3); have hy3 := hid hr3; clear hr3)
      | (go_at_call 26; (with_reducible refine (exact_no ((Nv.mk' (K := 40) O1.out.sl Lx.out (by have := hn1.out; omega) Vp.out).ext (hy2.out.trans hy3.out)) ((Nv.mk' (K := 40) O2.out.sl Ly.out (by have := hn2.out; omega) Vq.out).ext hy3.out) (by omega) hq.out hex.out).mono ?_); rintro E4 w4 ⟨rfl, hr4⟩; have X4 := hid (X3.out.trans hr4); have hy4 := hid hr4; clear hr4)
      | (go_at_call 27; (with_reducible refine (rzero_no (Nb.out.ext (((hy1.out.trans hy2.out).trans hy3.out).trans hy4.out)) (by omega) hqz.out).mono ?_); rintro E5 w5 ⟨rfl, hr5⟩; have X5 := hid (X4.out.trans hr5); have hy5 := hid hr5; clear hr5)
      | (go_at_call 28; (with_reducible refine (rdm_v (Na.out.ext ((((hy1.out.trans hy2.out).trans hy3.out).trans hy4.out).trans hy5.out)) (Nb.out.ext ((((hy1.out.trans hy2.out).trans hy3.out).trans hy4.out).trans hy5.out)) (by omega) hq.out).mono ?_); rintro E6 w6 ⟨A6, n6, c6, B6, m6, d6, rfl, o6, p6, hr6⟩; have O6 := hid o6; have P6 := hid p6; clear o6 p6; have X6 := hid (X5.out.trans hr6); have hy6 := hid hr6; clear hr6; have hm6 : ((m6 : Int) == 0) = false := beq_eq_false_iff_ne.2 (by have := P6.out.lenp hex.out; omega))
      | (go_at_call 14; (with_reducible refine (same_c (O3.out.ext ((hy4.out.trans hy5.out).trans hy6.out)) O6.out (by omega) rfl).mono ?_); rintro E7 w7 ⟨rfl, hr7⟩; have X7 := hid (X6.out.trans hr7); have hy7 := hid hr7; clear hr7)
      | (go_at_call 14; (with_reducible refine (same_c (P3.out.ext (((hy4.out.trans hy5.out).trans hy6.out).trans hy7.out)) (P6.out.ext hy7.out) (by omega) rfl).mono ?_); rintro E8 w8 ⟨rfl, hr8⟩; have X8 := hid (X7.out.trans hr8); have hy8 := hid hr8; clear hr8)
      | (go_at_call 29; (with_reducible refine (dlimb_v (d := d) rfl ((Nv.mk' (K := 40) O1.out.sl Lx.out (by have := hn1.out; omega) Vp.out).ext ((((((hy2.out.trans hy3.out).trans hy4.out).trans hy5.out).trans hy6.out).trans hy7.out).trans hy8.out)) (by omega) hd0.out hd.out).mono ?_); rintro E9 w9 ⟨A9, n9, c9, rfl, o9, hr9⟩; have O9 := hid o9; clear o9; have X9 := hid (X8.out.trans hr9); have hy9 := hid hr9; clear hr9)
      | ((with_reducible refine wpl_lit1 (w0 := w) X9.out rfl _ _ rfl 23 .u32 4 Try.underlying22 info_u32 _ d rfl rfl ?_); intro g10 w10 hg10 o10 hx10 hr10; have O10 := hid o10; have X10 := hid hx10; have hy10 := hid hr10; clear o10 hx10 hr10 hg10)
      | (go_at_call 28; (with_reducible refine (rdm_v (Na.out.ext (((((((((hy1.out.trans hy2.out).trans hy3.out).trans hy4.out).trans hy5.out).trans hy6.out).trans hy7.out).trans hy8.out).trans hy9.out).trans hy10.out)) (lit_nv1 O10.out hd.out) (by omega) hd0.out).mono ?_); rintro E11 w11 ⟨A11, n11, c11, B11, m11, d11, rfl, o11, p11, hr11⟩; have O11 := hid o11; have P11 := hid p11; clear o11 p11; have X11 := hid (X10.out.trans hr11); have hy11 := hid hr11; clear hr11)
      | (go_at_call 14; (with_reducible refine (same_c (O9.out.ext (hy10.out.trans hy11.out)) O11.out (by omega) rfl).mono ?_); rintro E12 w12 ⟨rfl, hr12⟩; have X12 := hid (X11.out.trans hr12); have hy12 := hid hr12; clear hr12)
      | (go_at_call 21; (with_reducible refine (small_v (v := p % d) (V := IntKind.u64.wrap ((p : Int) % (d : Int))) (wrap_mod hd0.out hd.out) hmd.out).mono ?_); rintro E13 w13 ⟨A13, n13, c13, rfl, o13, hr13⟩; have O13 := hid o13; clear o13; have X13 := hid (X12.out.trans hr13); have hy13 := hid hr13; clear hr13)
      | (go_at_call 14; (with_reducible refine (same_c O13.out (P11.out.ext (hy12.out.trans hy13.out)) (by omega) rfl).mono ?_); rintro E14 w14 ⟨rfl, hr14⟩; have X14 := hid (X13.out.trans hr14); have hy14 := hid hr14; clear hr14)
      | (go_at_call 14; (with_reducible refine (same_yes (O1.out.sl.ext ((((((((((((hy2.out.trans hy3.out).trans hy4.out).trans hy5.out).trans hy6.out).trans hy7.out).trans hy8.out).trans hy9.out).trans hy10.out).trans hy11.out).trans hy12.out).trans hy13.out).trans hy14.out)) (Ha.out.ext (((((((((((((hy1.out.trans hy2.out).trans hy3.out).trans hy4.out).trans hy5.out).trans hy6.out).trans hy7.out).trans hy8.out).trans hy9.out).trans hy10.out).trans hy11.out).trans hy12.out).trans hy13.out).trans hy14.out)) rfl (by have := hn1.out; omega)).mono ?_); rintro E15 w15 ⟨rfl, hr15⟩; have X15 := hid (X14.out.trans hr15); have hy15 := hid hr15; clear hr15)
      | (go_at_call 14; (with_reducible refine (same_yes (O2.out.sl.ext ((((((((((((hy3.out.trans hy4.out).trans hy5.out).trans hy6.out).trans hy7.out).trans hy8.out).trans hy9.out).trans hy10.out).trans hy11.out).trans hy12.out).trans hy13.out).trans hy14.out).trans hy15.out)) (Hb.out.ext ((((((((((((((hy1.out.trans hy2.out).trans hy3.out).trans hy4.out).trans hy5.out).trans hy6.out).trans hy7.out).trans hy8.out).trans hy9.out).trans hy10.out).trans hy11.out).trans hy12.out).trans hy13.out).trans hy14.out).trans hy15.out)) rfl (by have := hn2.out; omega)).mono ?_); rintro E16 w16 ⟨rfl, hr16⟩; have X16 := hid (X15.out.trans hr16); have hy16 := hid hr16; clear hr16)
      | (go_at_call 24; (with_reducible refine (known_any3).mono ?_); rintro E17 w17 ⟨rfl, hr17⟩; have X17 := hid (X16.out.trans hr17); have hy17 := hid hr17; clear hr17))
    go_ret
    exact ⟨rfl, X17.out⟩

theorem divideBy_small {w : World} {P1 P2 : Option Addr} {m1 m2 d1 d2 p q d : Nat} {xs ys : List Nat} (ha : Sl .u32 w P1 m1 d1 xs) (hb : Sl .u32 w P2 m2 d2 ys) (la : Lim 4294967296 xs) (lb : Lim 4294967296 ys) (h1 : m1 ≤ 40) (h2 : m2 ≤ 40) (hdB : d < 4294967296)
    (vp : nv 4294967296 xs = p) (vq : nv 4294967296 ys = q) :
    Calls Try.prog 7 #[.slice P1 m1 d1, .slice P2 m2 d2, .int .u32 d] w (RetE (.bool true) w) := by
  by_cases hq : q = 0
  · subst hq; exact divideBy_zero ha hb la lb h1 h2 hdB vp vq
  · by_cases hx : p % q = 0
    · exact divideBy_yes ha hb la lb h1 h2 hdB vp vq hq hx
    · exact divideBy_no ha hb la lb h1 h2 hdB vp vq hq hx

set_option maxHeartbeats 6400000 in
set_option maxRecDepth 100000 in
theorem divideBy_any {w : World} {Aa Ab : Option Addr} {na ca nb cb : Nat} {xa xb : List Nat} (ha : Sl .u32 w Aa na ca xa) (la : Lim 4294967296 xa) (hb : Sl .u32 w Ab nb cb xb) (lb : Lim 4294967296 xb) {d : Int} (m0 : 0 ≤ d) (m1 : d ≤ 4294967295) :
    Calls Try.prog 7 #[.slice Aa na ca, .slice Ab nb cb, .int .u32 d] w (RetE (.bool true) w) := by
  obtain ⟨d, rfl⟩ := Int.eq_ofNat_of_zero_le m0
  by_cases ba : na ≤ 40
  · by_cases bb : nb ≤ 40
    · exact divideBy_small ha hb la lb ba bb (by omega) rfl rfl
    · have bb' : (40 : Int) < nb := by omega
      clear ha hb la lb
      go_enter Try.func7, Try.ntmps7
      go_wp2_with (go_at_call 24; refine known_any3.mono ?_; rintro E1 w1 ⟨rfl, hx1⟩)
      go_ret
      exact ⟨rfl, hx1⟩
  · have ba' : (40 : Int) < na := by omega
    clear ha hb la lb
    go_enter Try.func7, Try.ntmps7
    go_wp2_with (go_at_call 24; refine known_any3.mono ?_; rintro E1 w1 ⟨rfl, hx1⟩)
    go_ret
    exact ⟨rfl, hx1⟩

end Go.Proofs.Ytacihclonpbngaa
