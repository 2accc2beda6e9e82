/-
  The walk of the statement NatAdds. Printed by wip/gen/law1.py.
-/
import Derived.Test.YtgmppklfblblpaaKnown
import Derived.Test.YtgmppklfblblpaaNumD
namespace Go.Proofs.Ytgmppklfblblpaa
open Go.RowKit
open Go.Lib (hid)

theorem Nv.mk' {K : Nat} {w : World} {A : Option Addr} {n c m : Nat} {xs : List Nat} (h : Sl .u32 w A n c xs) (hl : Lim 4294967296 xs) (hK : n ≤ K) (hv : nv 4294967296 xs = m) : Nv K w A n c m := ⟨xs, h, hl, hv, hK⟩

set_option maxHeartbeats 6400000 in
set_option maxRecDepth 100000 in
theorem natAdds_lt {w : World} {P1 P2 : Option Addr} {m1 m2 d1 d2 p q : Nat} {xs ys : List Nat} (ha : Sl .u32 w P1 m1 d1 xs) (hb : Sl .u32 w P2 m2 d2 ys) (la : Lim 4294967296 xs) (lb : Lim 4294967296 ys) (h1 : m1 ≤ 40) (h2 : m2 ≤ 40)
    (vp : nv 4294967296 xs = p) (vq : nv 4294967296 ys = q) (hpq : p < q) :
    Calls Try.prog 3 #[.slice P1 m1 d1, .slice P2 m2 d2] w (RetE (.bool true) w) := by
  have Ha := hid ha
  have Hb := hid hb
  have Na := hid (Nv.mk' ha la h1 vp)
  have Nb := hid (Nv.mk' hb lb h2 vq)
  have Lx := hid la
  have Ly := hid lb
  have Vp := hid vp
  have Vq := hid vq
  have hv := hid (cmpN_lt hpq)
  clear ha hb la lb vp vq
  go_enter Try.func3, Try.ntmps3
  go_wp2_with (first
    | (go_at_call 8; (with_reducible refine (great_no h1 h2).mono ?_); rintro Es1 ws1 ⟨rfl, rfl⟩)
    | ((with_reducible refine wpl_lit0 (w0 := w) (Ext.refl _) rfl _ rfl 38 .u32 4 Try.underlying22 info_u32 ?_); intro ga1 wa1 hga1 oa1 hxa1 hya1; have OA1 := hid oa1; have XA1 := hid hxa1; clear oa1 hxa1 hya1 hga1)
    | (at_builtin; refine wpl_append (w0 := w) rfl (.tmp 19) (.tmp 20) _ rfl 38 .u32 4 Try.underlying22 info_u32 rfl rfl OA1.out (Ha.out.ext XA1.out) XA1.out (by omega) (by simp only [maxLen]; omega) ?_; intro A1 n1 c1 w1 o1 hr1 hg1 hn1; have O1 : Hid (Own .u32 38 w1 w.heap.size A1 n1 c1 xs) := hid o1; have X1 := hid ((Ext.refl _).trans hr1); have hy1 := hid hr1; clear o1 hg1 OA1 XA1 hr1)
    | ((with_reducible refine wpl_lit0 (w0 := w1) (Ext.refl _) rfl _ rfl 38 .u32 4 Try.underlying22 info_u32 ?_); intro ga2 wa2 hga2 oa2 hxa2 hya2; have OA2 := hid oa2; have XA2 := hid hxa2; clear oa2 hxa2 hya2 hga2)
    | (at_builtin; refine wpl_append (w0 := w1) rfl (.tmp 22) (.tmp 23) _ rfl 38 .u32 4 Try.underlying22 info_u32 rfl rfl OA2.out ((Hb.out.ext hy1.out).ext XA2.out) XA2.out (by omega) (by simp only [maxLen]; omega) ?_; intro A2 n2 c2 w2 o2 hr2 hg2 hn2; have O2 : Hid (Own .u32 38 w2 w1.heap.size A2 n2 c2 ys) := hid o2; have X2 := hid (X1.out.trans hr2); have hy2 := hid hr2; clear o2 hg2 OA2 XA2 hr2)
    | (go_at_call 10; (with_reducible refine (of_v (Na.out.ext (hy1.out.trans hy2.out)) (by omega)).mono ?_); rintro E3 w3 ⟨A3, n3, c3, rfl, o3, hr3⟩; have O3 := hid o3; clear o3; have X3 := hid (X2.out.trans hr3); have hy3 := hid hr3; clear hr3)
    | (go_at_call 10; (with_reducible refine (of_v (Nb.out.ext ((hy1.out.trans hy2.out).trans hy3.out)) (by omega)).mono ?_); rintro E4 w4 ⟨A4, n4, c4, rfl, o4, hr4⟩; have O4 := hid o4; clear o4; have X4 := hid (X3.out.trans hr4); have hy4 := hid hr4; clear hr4)
    | (go_at_call 11; (with_reducible refine (add_v ((Nv.mk' (K := 40) O1.out.sl Lx.out (by have := hn1.out; omega) Vp.out).ext ((hy2.out.trans hy3.out).trans hy4.out)) ((Nv.mk' (K := 40) O2.out.sl Ly.out (by have := hn2.out; omega) Vq.out).ext (hy3.out.trans hy4.out)) (by omega)).mono ?_); rintro E5 w5 ⟨A5, n5, c5, rfl, o5, hr5⟩; have O5 := hid o5; clear o5; have X5 := hid (X4.out.trans hr5); have hy5 := hid hr5; clear hr5)
    | (go_at_call 12; (with_reducible refine (sub_no ((Nv.mk' (K := 40) O1.out.sl Lx.out (by have := hn1.out; omega) Vp.out).ext (((hy2.out.trans hy3.out).trans hy4.out).trans hy5.out)) ((Nv.mk' (K := 40) O2.out.sl Ly.out (by have := hn2.out; omega) Vq.out).ext ((hy3.out.trans hy4.out).trans hy5.out)) (by omega) hpq).mono ?_); rintro E6 w6 ⟨rfl, hr6⟩; have X6 := hid (X5.out.trans hr6); have hy6 := hid hr6; clear hr6)
    | (go_at_call 14; (with_reducible refine (radd_v (O3.out.ext ((hy4.out.trans hy5.out).trans hy6.out)) (O4.out.ext (hy5.out.trans hy6.out)) (by omega)).mono ?_); rintro E7 w7 ⟨A7, n7, c7, rfl, o7, hr7⟩; have O7 := hid o7; clear o7; have X7 := hid (X6.out.trans hr7); have hy7 := hid hr7; clear hr7)
    | (go_at_call 15; (with_reducible refine (limbs_v O7.out (by omega)).mono ?_); rintro E8 w8 ⟨A8, n8, c8, rfl, o8, hr8⟩; have O8 := hid o8; clear o8; have X8 := hid (X7.out.trans hr8); have hy8 := hid hr8; clear hr8)
    | (go_at_call 13; (with_reducible refine (same_c (O5.out.ext ((hy6.out.trans hy7.out).trans hy8.out)) O8.out (by omega) rfl).mono ?_); rintro E9 w9 ⟨rfl, hr9⟩; have X9 := hid (X8.out.trans hr9); have hy9 := hid hr9; clear hr9)
    | (go_at_call 16; (with_reducible refine (cmp_is (v := -1) ((Nv.mk' (K := 40) O1.out.sl Lx.out (by have := hn1.out; omega) Vp.out).ext (((((((hy2.out.trans hy3.out).trans hy4.out).trans hy5.out).trans hy6.out).trans hy7.out).trans hy8.out).trans hy9.out)) ((Nv.mk' (K := 40) O2.out.sl Ly.out (by have := hn2.out; omega) Vq.out).ext ((((((hy3.out.trans hy4.out).trans hy5.out).trans hy6.out).trans hy7.out).trans hy8.out).trans hy9.out)) (by omega) hv.out).mono ?_); rintro E10 w10 ⟨rfl, hr10⟩; have X10 := hid (X9.out.trans hr10); have hy10 := hid hr10; clear hr10)
    | (go_at_call 17; (with_reducible refine (rcmp_is (v := -1) (O3.out.ext ((((((hy4.out.trans hy5.out).trans hy6.out).trans hy7.out).trans hy8.out).trans hy9.out).trans hy10.out)) (O4.out.ext (((((hy5.out.trans hy6.out).trans hy7.out).trans hy8.out).trans hy9.out).trans hy10.out)) (by omega) hv.out).mono ?_); rintro E11 w11 ⟨rfl, hr11⟩; have X11 := hid (X10.out.trans hr11); have hy11 := hid hr11; clear hr11)
    | (go_at_call 18; (with_reducible refine (trim_v ((Nv.mk' (K := 40) O1.out.sl Lx.out (by have := hn1.out; omega) Vp.out).ext (((((((((hy2.out.trans hy3.out).trans hy4.out).trans hy5.out).trans hy6.out).trans hy7.out).trans hy8.out).trans hy9.out).trans hy10.out).trans hy11.out)) (by omega)).mono ?_); rintro E12 w12 ⟨A12, n12, c12, rfl, o12, hr12⟩; have O12 := hid o12; clear o12; have X12 := hid (X11.out.trans hr12); have hy12 := hid hr12; clear hr12)
    | (go_at_call 15; (with_reducible refine (limbs_v (O3.out.ext ((((((((hy4.out.trans hy5.out).trans hy6.out).trans hy7.out).trans hy8.out).trans hy9.out).trans hy10.out).trans hy11.out).trans hy12.out)) (by omega)).mono ?_); rintro E13 w13 ⟨A13, n13, c13, rfl, o13, hr13⟩; have O13 := hid o13; clear o13; have X13 := hid (X12.out.trans hr13); have hy13 := hid hr13; clear hr13)
    | (go_at_call 13; (with_reducible refine (same_c (O12.out.ext hy13.out) O13.out (by omega) rfl).mono ?_); rintro E14 w14 ⟨rfl, hr14⟩; have X14 := hid (X13.out.trans hr14); have hy14 := hid hr14; clear hr14)
    | (go_at_call 17; (with_reducible refine (rcmp_is (v := -1) (O3.out.ext ((((((((((hy4.out.trans hy5.out).trans hy6.out).trans hy7.out).trans hy8.out).trans hy9.out).trans hy10.out).trans hy11.out).trans hy12.out).trans hy13.out).trans hy14.out)) (O4.out.ext (((((((((hy5.out.trans hy6.out).trans hy7.out).trans hy8.out).trans hy9.out).trans hy10.out).trans hy11.out).trans hy12.out).trans hy13.out).trans hy14.out)) (by omega) hv.out).mono ?_); rintro E15 w15 ⟨rfl, hr15⟩; have X15 := hid (X14.out.trans hr15); have hy15 := hid hr15; clear hr15)
    | (go_at_call 19; (with_reducible refine (kept_v (O1.out.sl.ext (((((((((((((hy2.out.trans hy3.out).trans hy4.out).trans hy5.out).trans hy6.out).trans hy7.out).trans hy8.out).trans hy9.out).trans hy10.out).trans hy11.out).trans hy12.out).trans hy13.out).trans hy14.out).trans hy15.out)) (Ha.out.ext ((((((((((((((hy1.out.trans hy2.out).trans hy3.out).trans hy4.out).trans hy5.out).trans hy6.out).trans hy7.out).trans hy8.out).trans hy9.out).trans hy10.out).trans hy11.out).trans hy12.out).trans hy13.out).trans hy14.out).trans hy15.out)) (by have := hn1.out; omega)).mono ?_); rintro E16 w16 ⟨rfl, hr16⟩; have X16 := hid (X15.out.trans hr16); have hy16 := hid hr16; clear hr16)
    | (go_at_call 19; (with_reducible refine (kept_v (O2.out.sl.ext (((((((((((((hy3.out.trans hy4.out).trans hy5.out).trans hy6.out).trans hy7.out).trans hy8.out).trans hy9.out).trans hy10.out).trans hy11.out).trans hy12.out).trans hy13.out).trans hy14.out).trans hy15.out).trans hy16.out)) (Hb.out.ext (((((((((((((((hy1.out.trans hy2.out).trans hy3.out).trans hy4.out).trans hy5.out).trans hy6.out).trans hy7.out).trans hy8.out).trans hy9.out).trans hy10.out).trans hy11.out).trans hy12.out).trans hy13.out).trans hy14.out).trans hy15.out).trans hy16.out)) (by have := hn2.out; omega)).mono ?_); rintro E17 w17 ⟨rfl, hr17⟩; have X17 := hid (X16.out.trans hr17); have hy17 := hid hr17; clear hr17)
    | (go_at_call 9; (with_reducible refine (known_any).mono ?_); rintro E18 w18 ⟨rfl, hr18⟩; have X18 := hid (X17.out.trans hr18); have hy18 := hid hr18; clear hr18))
  go_ret
  exact ⟨rfl, X18.out⟩

set_option maxHeartbeats 6400000 in
set_option maxRecDepth 100000 in
theorem natAdds_ge {w : World} {P1 P2 : Option Addr} {m1 m2 d1 d2 p q : Nat} {xs ys : List Nat} (ha : Sl .u32 w P1 m1 d1 xs) (hb : Sl .u32 w P2 m2 d2 ys) (la : Lim 4294967296 xs) (lb : Lim 4294967296 ys) (h1 : m1 ≤ 40) (h2 : m2 ≤ 40)
    (vp : nv 4294967296 xs = p) (vq : nv 4294967296 ys = q) (hpq : q ≤ p) :
    Calls Try.prog 3 #[.slice P1 m1 d1, .slice P2 m2 d2] w (RetE (.bool true) w) := by
  have Ha := hid ha
  have Hb := hid hb
  have Na := hid (Nv.mk' ha la h1 vp)
  have Nb := hid (Nv.mk' hb lb h2 vq)
  have Lx := hid la
  have Ly := hid lb
  have Vp := hid vp
  have Vq := hid vq
  have hv0 : cmpN p q = 0 ∨ cmpN p q = 1 := by
    rcases Nat.eq_or_lt_of_le hpq with h | h
    · subst h; exact .inl (cmpN_eq _)
    · exact .inr (cmpN_gt h)
  clear ha hb la lb vp vq
  rcases hv0 with hv | hv
  · have hv := hid hv
    go_enter Try.func3, Try.ntmps3
    go_wp2_with (first
      | (go_at_call 8; (with_reducible refine (great_no h1 h2).mono ?_); rintro Es1 ws1 ⟨rfl, rfl⟩)
      | ((with_reducible refine wpl_lit0 (w0 := w) (Ext.refl _) rfl _ rfl 38 .u32 4 Try.underlying22 info_u32 ?_); intro ga1 wa1 hga1 oa1 hxa1 hya1; have OA1 := hid oa1; have XA1 := hid hxa1; clear oa1 hxa1 hya1 hga1)
      | (at_builtin; refine wpl_append (w0 := w) rfl (.tmp 19) (.tmp 20) _ rfl 38 .u32 4 Try.underlying22 info_u32 rfl rfl OA1.out (Ha.out.ext XA1.out) XA1.out (by omega) (by simp only [maxLen]; omega) ?_; intro A1 n1 c1 w1 o1 hr1 hg1 hn1; have O1 : Hid (Own .u32 38 w1 w.heap.size A1 n1 c1 xs) := hid o1; have X1 := hid ((Ext.refl _).trans hr1); have hy1 := hid hr1; clear o1 hg1 OA1 XA1 hr1)
      | ((with_reducible refine wpl_lit0 (w0 := w1) (Ext.refl _) rfl _ rfl 38 .u32 4 Try.underlying22 info_u32 ?_); intro ga2 wa2 hga2 oa2 hxa2 hya2; have OA2 := hid oa2; have XA2 := hid hxa2; clear oa2 hxa2 hya2 hga2)
      | (at_builtin; refine wpl_append (w0 := w1) rfl (.tmp 22) (.tmp 23) _ rfl 38 .u32 4 Try.underlying22 info_u32 rfl rfl OA2.out ((Hb.out.ext hy1.out).ext XA2.out) XA2.out (by omega) (by simp only [maxLen]; omega) ?_; intro A2 n2 c2 w2 o2 hr2 hg2 hn2; have O2 : Hid (Own .u32 38 w2 w1.heap.size A2 n2 c2 ys) := hid o2; have X2 := hid (X1.out.trans hr2); have hy2 := hid hr2; clear o2 hg2 OA2 XA2 hr2)
      | (go_at_call 10; (with_reducible refine (of_v (Na.out.ext (hy1.out.trans hy2.out)) (by omega)).mono ?_); rintro E3 w3 ⟨A3, n3, c3, rfl, o3, hr3⟩; have O3 := hid o3; clear o3; have X3 := hid (X2.out.trans hr3); have hy3 := hid hr3; clear hr3)
      | (go_at_call 10; (with_reducible refine (of_v (Nb.out.ext ((hy1.out.trans hy2.out).trans hy3.out)) (by omega)).mono ?_); rintro E4 w4 ⟨A4, n4, c4, rfl, o4, hr4⟩; have O4 := hid o4; clear o4; have X4 := hid (X3.out.trans hr4); have hy4 := hid hr4; clear hr4)
      | (go_at_call 11; (with_reducible refine (add_v ((Nv.mk' (K := 40) O1.out.sl Lx.out (by have := hn1.out; omega) Vp.out).ext ((hy2.out.trans hy3.out).trans hy4.out)) ((Nv.mk' (K := 40) O2.out.sl Ly.out (by have := hn2.out; omega) Vq.out).ext (hy3.out.trans hy4.out)) (by omega)).mono ?_); rintro E5 w5 ⟨A5, n5, c5, rfl, o5, hr5⟩; have O5 := hid o5; clear o5; have X5 := hid (X4.out.trans hr5); have hy5 := hid hr5; clear hr5)
      | (go_at_call 12; (with_reducible refine (sub_yes ((Nv.mk' (K := 40) O1.out.sl Lx.out (by have := hn1.out; omega) Vp.out).ext (((hy2.out.trans hy3.out).trans hy4.out).trans hy5.out)) ((Nv.mk' (K := 40) O2.out.sl Ly.out (by have := hn2.out; omega) Vq.out).ext ((hy3.out.trans hy4.out).trans hy5.out)) (by omega) hpq).mono ?_); rintro E6 w6 ⟨A6, n6, c6, rfl, o6, hr6⟩; have O6 := hid o6; clear o6; have X6 := hid (X5.out.trans hr6); have hy6 := hid hr6; clear hr6)
      | (go_at_call 14; (with_reducible refine (radd_v (O3.out.ext ((hy4.out.trans hy5.out).trans hy6.out)) (O4.out.ext (hy5.out.trans hy6.out)) (by omega)).mono ?_); rintro E7 w7 ⟨A7, n7, c7, rfl, o7, hr7⟩; have O7 := hid o7; clear o7; have X7 := hid (X6.out.trans hr7); have hy7 := hid hr7; clear hr7)
      | (go_at_call 15; (with_reducible refine (limbs_v O7.out (by omega)).mono ?_); rintro E8 w8 ⟨A8, n8, c8, rfl, o8, hr8⟩; have O8 := hid o8; clear o8; have X8 := hid (X7.out.trans hr8); have hy8 := hid hr8; clear hr8)
      | (go_at_call 13; (with_reducible refine (same_c (O5.out.ext ((hy6.out.trans hy7.out).trans hy8.out)) O8.out (by omega) rfl).mono ?_); rintro E9 w9 ⟨rfl, hr9⟩; have X9 := hid (X8.out.trans hr9); have hy9 := hid hr9; clear hr9)
      | (go_at_call 16; (with_reducible refine (cmp_is (v := 0) ((Nv.mk' (K := 40) O1.out.sl Lx.out (by have := hn1.out; omega) Vp.out).ext (((((((hy2.out.trans hy3.out).trans hy4.out).trans hy5.out).trans hy6.out).trans hy7.out).trans hy8.out).trans hy9.out)) ((Nv.mk' (K := 40) O2.out.sl Ly.out (by have := hn2.out; omega) Vq.out).ext ((((((hy3.out.trans hy4.out).trans hy5.out).trans hy6.out).trans hy7.out).trans hy8.out).trans hy9.out)) (by omega) hv.out).mono ?_); rintro E10 w10 ⟨rfl, hr10⟩; have X10 := hid (X9.out.trans hr10); have hy10 := hid hr10; clear hr10)
      | (go_at_call 17; (with_reducible refine (rcmp_is (v := 0) (O3.out.ext ((((((hy4.out.trans hy5.out).trans hy6.out).trans hy7.out).trans hy8.out).trans hy9.out).trans hy10.out)) (O4.out.ext (((((hy5.out.trans hy6.out).trans hy7.out).trans hy8.out).trans hy9.out).trans hy10.out)) (by omega) hv.out).mono ?_); rintro E11 w11 ⟨rfl, hr11⟩; have X11 := hid (X10.out.trans hr11); have hy11 := hid hr11; clear hr11)
      | (go_at_call 18; (with_reducible refine (trim_v ((Nv.mk' (K := 40) O1.out.sl Lx.out (by have := hn1.out; omega) Vp.out).ext (((((((((hy2.out.trans hy3.out).trans hy4.out).trans hy5.out).trans hy6.out).trans hy7.out).trans hy8.out).trans hy9.out).trans hy10.out).trans hy11.out)) (by omega)).mono ?_); rintro E12 w12 ⟨A12, n12, c12, rfl, o12, hr12⟩; have O12 := hid o12; clear o12; have X12 := hid (X11.out.trans hr12); have hy12 := hid hr12; clear hr12)
      | (go_at_call 15; (with_reducible refine (limbs_v (O3.out.ext ((((((((hy4.out.trans hy5.out).trans hy6.out).trans hy7.out).trans hy8.out).trans hy9.out).trans hy10.out).trans hy11.out).trans hy12.out)) (by omega)).mono ?_); rintro E13 w13 ⟨A13, n13, c13, rfl, o13, hr13⟩; have O13 := hid o13; clear o13; have X13 := hid (X12.out.trans hr13); have hy13 := hid hr13; clear hr13)
      | (go_at_call 13; (with_reducible refine (same_c (O12.out.ext hy13.out) O13.out (by omega) rfl).mono ?_); rintro E14 w14 ⟨rfl, hr14⟩; have X14 := hid (X13.out.trans hr14); have hy14 := hid hr14; clear hr14)
      | (go_at_call 17; (with_reducible refine (rcmp_is (v := 0) (O3.out.ext ((((((((((hy4.out.trans hy5.out).trans hy6.out).trans hy7.out).trans hy8.out).trans hy9.out).trans hy10.out).trans hy11.out).trans hy12.out).trans hy13.out).trans hy14.out)) (O4.out.ext (((((((((hy5.out.trans hy6.out).trans hy7.out).trans hy8.out).trans hy9.out).trans hy10.out).trans hy11.out).trans hy12.out).trans hy13.out).trans hy14.out)) (by omega) hv.out).mono ?_); rintro E15 w15 ⟨rfl, hr15⟩; have X15 := hid (X14.out.trans hr15); have hy15 := hid hr15; clear hr15)
      | (go_at_call 20; (with_reducible refine (rsub_v (O3.out.ext (((((((((((hy4.out.trans hy5.out).trans hy6.out).trans hy7.out).trans hy8.out).trans hy9.out).trans hy10.out).trans hy11.out).trans hy12.out).trans hy13.out).trans hy14.out).trans hy15.out)) (O4.out.ext ((((((((((hy5.out.trans hy6.out).trans hy7.out).trans hy8.out).trans hy9.out).trans hy10.out).trans hy11.out).trans hy12.out).trans hy13.out).trans hy14.out).trans hy15.out)) (by omega) hpq).mono ?_); rintro E16 w16 ⟨A16, n16, c16, rfl, o16, hr16⟩; have O16 := hid o16; clear o16; have X16 := hid (X15.out.trans hr16); have hy16 := hid hr16; clear hr16)
      | (go_at_call 15; (with_reducible refine (limbs_v O16.out (by omega)).mono ?_); rintro E17 w17 ⟨A17, n17, c17, rfl, o17, hr17⟩; have O17 := hid o17; clear o17; have X17 := hid (X16.out.trans hr17); have hy17 := hid hr17; clear hr17)
      | (go_at_call 13; (with_reducible refine (same_c (O6.out.ext ((((((((((hy7.out.trans hy8.out).trans hy9.out).trans hy10.out).trans hy11.out).trans hy12.out).trans hy13.out).trans hy14.out).trans hy15.out).trans hy16.out).trans hy17.out)) O17.out (by omega) rfl).mono ?_); rintro E18 w18 ⟨rfl, hr18⟩; have X18 := hid (X17.out.trans hr18); have hy18 := hid hr18; clear hr18))
    have hne : ∀ g g', A5 = some ⟨g, 0, none⟩ → A6 = some ⟨g', 0, none⟩ → g ≠ g' := by
      rintro g g' rfl rfl
      have e1 := (O5.out.1.lo_le).2
      have e2 := (O6.out.1.lo_le).1
      omega
    have hsz : Hid (w4.heap.size ≤ w5.heap.size) := hy5.out.size
    have i0 : ∀ W, (Instr.index 37 (.agg #[.slice A5 n5 c5, .slice A6 n6 c6]) (.int .i64 0)).run Try.prog W = .ok (.slice A5 n5 c5) W := fun _ => by kernel_rfl
    have i1 : ∀ W, (Instr.index 37 (.agg #[.slice A5 n5 c5, .slice A6 n6 c6]) (.int .i64 1)).run Try.prog W = .ok (.slice A6 n6 c6) W := fun _ => by kernel_rfl
    have hk1 : n5 ≤ 1000 := by have := O5.out.2; omega
    have hk2 : n6 ≤ 1000 := by have := O6.out.2; omega
    have hkx : Hid (n1 ≤ 1099511627776) := by have := hn1.out; show _ ≤ _; omega
    have hky : Hid (n2 ≤ 1099511627776) := by have := hn2.out; show _ ≤ _; omega
    have BX := hid (X18.out)
    have KX := hid (O1.out.sl.ext (((hy2.out.trans hy3.out).trans hy4.out)))
    have KY := hid (O2.out.sl.ext ((hy3.out.trans hy4.out)))
    have KA := hid (Ha.out.ext X4.out)
    have KB := hid (Hb.out.ext X4.out)
    have XW := hid X4.out
    have S5 := hid (O5.out.1.ext ((((((((((((hy6.out.trans hy7.out).trans hy8.out).trans hy9.out).trans hy10.out).trans hy11.out).trans hy12.out).trans hy13.out).trans hy14.out).trans hy15.out).trans hy16.out).trans hy17.out).trans hy18.out))
    have S6 := hid (O6.out.1.ext (((((((((((hy7.out.trans hy8.out).trans hy9.out).trans hy10.out).trans hy11.out).trans hy12.out).trans hy13.out).trans hy14.out).trans hy15.out).trans hy16.out).trans hy17.out).trans hy18.out))
    have S7 := hid (((((((((((((hy5.out.trans hy6.out).trans hy7.out).trans hy8.out).trans hy9.out).trans hy10.out).trans hy11.out).trans hy12.out).trans hy13.out).trans hy14.out).trans hy15.out).trans hy16.out).trans hy17.out).trans hy18.out)
    clear O5 O6 hy1 X1 hy2 X2 hy3 X3 hy4 X4 hy5 X5 hy6 X6 hy7 X7 hy8 X8 hy9 X9 hy10 X10 hy11 X11 hy12 X12 hy13 X13 hy14 X14 hy15 X15 hy16 X16 hy17 X17 hy18 X18
    go_loopw [100] (fun sj wr => ∃ (j : Nat) (zs ys' : List Nat), j ≤ 2 ∧ sj = .int .i64 j ∧ Own .u32 38 wr w4.heap.size A5 n5 c5 zs ∧ Own .u32 38 wr w5.heap.size A6 n6 c6 ys' ∧ Ext w4 wr) (fun sj _ => 2 - (intOf sj).toNat)
    case atStart => exact ⟨0, _, _, by omega, rfl, S5.out, S6.out, S7.out⟩
    case round =>
      clear S5 S6 S7
      obtain ⟨j, us, ys', hj, rfl, q1, q2, q3⟩ := hrel
      have HS := hid q1
      have HD := hid q2
      have HX := hid q3
      clear q1 q2 q3
      rcases (show j = 0 ∨ j = 1 ∨ j = 2 by omega) with rfl | rfl | rfl
      · skip
        go_wp2_with fail
        obtain ⟨wo, rfl⟩ : ∃ wo : World, wo = wr := ⟨_, rfl⟩
        go_loopw [105] (fun si wr => ∃ (i : Nat) (zs : List Nat), i ≤ n5 ∧ si = .int .i64 i ∧ Own .u32 38 wr w4.heap.size A5 n5 c5 zs ∧ Own .u32 38 wr w5.heap.size A6 n6 c6 ys' ∧ Ext w4 wr) (fun si _ => n5 - (intOf si).toNat)
        case atStart => exact ⟨0, _, Nat.zero_le _, rfl, HS.out, HD.out, HX.out⟩
        case round =>
          obtain ⟨i, vs, hi, rfl, q1, q2, q3⟩ := hrel
          have Q1 := hid q1
          have Q2 := hid q2
          have Q3 := hid q3
          clear q1 q2 q3 HS HD HX
          by_cases hlt : i < n5
          · rcases Q1.out.form with ⟨_, h0, _⟩ | ⟨g, rfl, hg1, hg2⟩
            · omega
            · have g0 := Q1.out.cell hlt
              have gf := Q1.out.frozen i
              generalize vs[i]?.getD 0 = x at g0
              have hw : ((x : Int) + 1) % 4294967296 = (((x + 1) % 4294967296 : Nat) : Int) := by omega
              have HW := hid hw
              clear hw
              have hne' := hid hne
              clear hne
              go_wp2_with fail
              rw [HW.out]
              refine ⟨⟨i + 1, _, by omega, by go_num, Q1.out.set i _, Q2.out.far (fun g' e => ?_) _, Q3.out.setCell hg1 _⟩, by simp [intOf]; omega⟩
              exact fun e2 => hne'.out g g' rfl e e2.symm
          · obtain rfl : i = n5 := by omega
            go_wp2_with fail
            go_roundw
            case rel => exact ⟨1, _, _, by omega, rfl, Q1.out, Q2.out, Q3.out⟩
            case measure => simp [intOf]
      · skip
        go_wp2_with fail
        obtain ⟨wo, rfl⟩ : ∃ wo : World, wo = wr := ⟨_, rfl⟩
        go_loopw [105] (fun si wr => ∃ (i : Nat) (zs : List Nat), i ≤ n6 ∧ si = .int .i64 i ∧ Own .u32 38 wr w5.heap.size A6 n6 c6 zs ∧ Own .u32 38 wr w4.heap.size A5 n5 c5 us ∧ Ext w4 wr) (fun si _ => n6 - (intOf si).toNat)
        case atStart => exact ⟨0, _, Nat.zero_le _, rfl, HD.out, HS.out, HX.out⟩
        case round =>
          obtain ⟨i, vs, hi, rfl, q1, q2, q3⟩ := hrel
          have Q1 := hid q1
          have Q2 := hid q2
          have Q3 := hid q3
          clear q1 q2 q3 HS HD HX
          by_cases hlt : i < n6
          · rcases Q1.out.form with ⟨_, h0, _⟩ | ⟨g, rfl, hg1, hg2⟩
            · omega
            · have g0 := Q1.out.cell hlt
              have gf := Q1.out.frozen i
              generalize vs[i]?.getD 0 = x at g0
              have hw : ((x : Int) + 1) % 4294967296 = (((x + 1) % 4294967296 : Nat) : Int) := by omega
              have HW := hid hw
              clear hw
              have hne' := hid hne
              clear hne
              go_wp2_with fail
              rw [HW.out]
              refine ⟨⟨i + 1, _, by omega, by go_num, Q1.out.set i _, Q2.out.far (fun g' e => ?_) _, Q3.out.setCell (Nat.le_trans hsz.out hg1) _⟩, by simp [intOf]; omega⟩
              exact hne'.out g' g e rfl
          · obtain rfl : i = n6 := by omega
            go_wp2_with fail
            go_roundw
            case rel => exact ⟨2, _, _, by omega, rfl, Q2.out, Q1.out, Q3.out⟩
            case measure => simp [intOf]
      · go_wp2_with (first
          | (go_at_call 19; (with_reducible refine (kept_v (KX.out.ext HX.out) (KA.out.ext HX.out) hkx.out).mono ?_); rintro E1 z1 ⟨rfl, t1⟩; have T1 := hid (HX.out.trans t1); clear t1)
          | (go_at_call 19; (with_reducible refine (kept_v (KY.out.ext T1.out) (KB.out.ext T1.out) hky.out).mono ?_); rintro E2 z2 ⟨rfl, t2⟩; have T2 := hid (T1.out.trans t2); clear t2)
          | (go_at_call 9; refine known_any.mono ?_; rintro E3 z3 ⟨rfl, t3⟩; have T3 := hid (T2.out.trans t3); clear t3))
        go_ret
        exact ⟨rfl, XW.out.trans T3.out⟩
  · have hv := hid hv
    go_enter Try.func3, Try.ntmps3
    go_wp2_with (first
      | (go_at_call 8; (with_reducible refine (great_no h1 h2).mono ?_); rintro Es1 ws1 ⟨rfl, rfl⟩)
      | ((with_reducible refine wpl_lit0 (w0 := w) (Ext.refl _) rfl _ rfl 38 .u32 4 Try.underlying22 info_u32 ?_); intro ga1 wa1 hga1 oa1 hxa1 hya1; have OA1 := hid oa1; have XA1 := hid hxa1; clear oa1 hxa1 hya1 hga1)
      | (at_builtin; refine wpl_append (w0 := w) rfl (.tmp 19) (.tmp 20) _ rfl 38 .u32 4 Try.underlying22 info_u32 rfl rfl OA1.out (Ha.out.ext XA1.out) XA1.out (by omega) (by simp only [maxLen]; omega) ?_; intro A1 n1 c1 w1 o1 hr1 hg1 hn1; have O1 : Hid (Own .u32 38 w1 w.heap.size A1 n1 c1 xs) := hid o1; have X1 := hid ((Ext.refl _).trans hr1); have hy1 := hid hr1; clear o1 hg1 OA1 XA1 hr1)
      | ((with_reducible refine wpl_lit0 (w0 := w1) (Ext.refl _) rfl _ rfl 38 .u32 4 Try.underlying22 info_u32 ?_); intro ga2 wa2 hga2 oa2 hxa2 hya2; have OA2 := hid oa2; have XA2 := hid hxa2; clear oa2 hxa2 hya2 hga2)
      | (at_builtin; refine wpl_append (w0 := w1) rfl (.tmp 22) (.tmp 23) _ rfl 38 .u32 4 Try.underlying22 info_u32 rfl rfl OA2.out ((Hb.out.ext hy1.out).ext XA2.out) XA2.out (by omega) (by simp only [maxLen]; omega) ?_; intro A2 n2 c2 w2 o2 hr2 hg2 hn2; have O2 : Hid (Own .u32 38 w2 w1.heap.size A2 n2 c2 ys) := hid o2; have X2 := hid (X1.out.trans hr2); have hy2 := hid hr2; clear o2 hg2 OA2 XA2 hr2)
      | (go_at_call 10; (with_reducible refine (of_v (Na.out.ext (hy1.out.trans hy2.out)) (by omega)).mono ?_); rintro E3 w3 ⟨A3, n3, c3, rfl, o3, hr3⟩; have O3 := hid o3; clear o3; have X3 := hid (X2.out.trans hr3); have hy3 := hid hr3; clear hr3)
      | (go_at_call 10; (with_reducible refine (of_v (Nb.out.ext ((hy1.out.trans hy2.out).trans hy3.out)) (by omega)).mono ?_); rintro E4 w4 ⟨A4, n4, c4, rfl, o4, hr4⟩; have O4 := hid o4; clear o4; have X4 := hid (X3.out.trans hr4); have hy4 := hid hr4; clear hr4)
      | (go_at_call 11; (with_reducible refine (add_v ((Nv.mk' (K := 40) O1.out.sl Lx.out (by have := hn1.out; omega) Vp.out).ext ((hy2.out.trans hy3.out).trans hy4.out)) ((Nv.mk' (K := 40) O2.out.sl Ly.out (by have := hn2.out; omega) Vq.out).ext (hy3.out.trans hy4.out)) (by omega)).mono ?_); rintro E5 w5 ⟨A5, n5, c5, rfl, o5, hr5⟩; have O5 := hid o5; clear o5; have X5 := hid (X4.out.trans hr5); have hy5 := hid hr5; clear hr5)
      | (go_at_call 12; (with_reducible refine (sub_yes ((Nv.mk' (K := 40) O1.out.sl Lx.out (by have := hn1.out; omega) Vp.out).ext (((hy2.out.trans hy3.out).trans hy4.out).trans hy5.out)) ((Nv.mk' (K := 40) O2.out.sl Ly.out (by have := hn2.out; omega) Vq.out).ext ((hy3.out.trans hy4.out).trans hy5.out)) (by omega) hpq).mono ?_); rintro E6 w6 ⟨A6, n6, c6, rfl, o6, hr6⟩; have O6 := hid o6; clear o6; have X6 := hid (X5.out.trans hr6); have hy6 := hid hr6; clear hr6)
      | (go_at_call 14; (with_reducible refine (radd_v (O3.out.ext ((hy4.out.trans hy5.out).trans hy6.out)) (O4.out.ext (hy5.out.trans hy6.out)) (by omega)).mono ?_); rintro E7 w7 ⟨A7, n7, c7, rfl, o7, hr7⟩; have O7 := hid o7; clear o7; have X7 := hid (X6.out.trans hr7); have hy7 := hid hr7; clear hr7)
      | (go_at_call 15; (with_reducible refine (limbs_v O7.out (by omega)).mono ?_); rintro E8 w8 ⟨A8, n8, c8, rfl, o8, hr8⟩; have O8 := hid o8; clear o8; have X8 := hid (X7.out.trans hr8); have hy8 := hid hr8; clear hr8)
      | (go_at_call 13; (with_reducible refine (same_c (O5.out.ext ((hy6.out.trans hy7.out).trans hy8.out)) O8.out (by omega) rfl).mono ?_); rintro E9 w9 ⟨rfl, hr9⟩; have X9 := hid (X8.out.trans hr9); have hy9 := hid hr9; clear hr9)
      | (go_at_call 16; (with_reducible refine (cmp_is (v := 1) ((Nv.mk' (K := 40) O1.out.sl Lx.out (by have := hn1.out; omega) Vp.out).ext (((((((hy2.out.trans hy3.out).trans hy4.out).trans hy5.out).trans hy6.out).trans hy7.out).trans hy8.out).trans hy9.out)) ((Nv.mk' (K := 40) O2.out.sl Ly.out (by have := hn2.out; omega) Vq.out).ext ((((((hy3.out.trans hy4.out).trans hy5.out).trans hy6.out).trans hy7.out).trans hy8.out).trans hy9.out)) (by omega) hv.out).mono ?_); rintro E10 w10 ⟨rfl, hr10⟩; have X10 := hid (X9.out.trans hr10); have hy10 := hid hr10; clear hr10)
      | (go_at_call 17; (with_reducible refine (rcmp_is (v := 1) (O3.out.ext ((((((hy4.out.trans hy5.out).trans hy6.out).trans hy7.out).trans hy8.out).trans hy9.out).trans hy10.out)) (O4.out.ext (((((hy5.out.trans hy6.out).trans hy7.out).trans hy8.out).trans hy9.out).trans hy10.out)) (by omega) hv.out).mono ?_); rintro E11 w11 ⟨rfl, hr11⟩; have X11 := hid (X10.out.trans hr11); have hy11 := hid hr11; clear hr11)
      | (go_at_call 18; (with_reducible refine (trim_v ((Nv.mk' (K := 40) O1.out.sl Lx.out (by have := hn1.out; omega) Vp.out).ext (((((((((hy2.out.trans hy3.out).trans hy4.out).trans hy5.out).trans hy6.out).trans hy7.out).trans hy8.out).trans hy9.out).trans hy10.out).trans hy11.out)) (by omega)).mono ?_); rintro E12 w12 ⟨A12, n12, c12, rfl, o12, hr12⟩; have O12 := hid o12; clear o12; have X12 := hid (X11.out.trans hr12); have hy12 := hid hr12; clear hr12)
      | (go_at_call 15; (with_reducible refine (limbs_v (O3.out.ext ((((((((hy4.out.trans hy5.out).trans hy6.out).trans hy7.out).trans hy8.out).trans hy9.out).trans hy10.out).trans hy11.out).trans hy12.out)) (by omega)).mono ?_); rintro E13 w13 ⟨A13, n13, c13, rfl, o13, hr13⟩; have O13 := hid o13; clear o13; have X13 := hid (X12.out.trans hr13); have hy13 := hid hr13; clear hr13)
      | (go_at_call 13; (with_reducible refine (same_c (O12.out.ext hy13.out) O13.out (by omega) rfl).mono ?_); rintro E14 w14 ⟨rfl, hr14⟩; have X14 := hid (X13.out.trans hr14); have hy14 := hid hr14; clear hr14)
      | (go_at_call 17; (with_reducible refine (rcmp_is (v := 1) (O3.out.ext ((((((((((hy4.out.trans hy5.out).trans hy6.out).trans hy7.out).trans hy8.out).trans hy9.out).trans hy10.out).trans hy11.out).trans hy12.out).trans hy13.out).trans hy14.out)) (O4.out.ext (((((((((hy5.out.trans hy6.out).trans hy7.out).trans hy8.out).trans hy9.out).trans hy10.out).trans hy11.out).trans hy12.out).trans hy13.out).trans hy14.out)) (by omega) hv.out).mono ?_); rintro E15 w15 ⟨rfl, hr15⟩; have X15 := hid (X14.out.trans hr15); have hy15 := hid hr15; clear hr15)
      | (go_at_call 20; (with_reducible refine (rsub_v (O3.out.ext (((((((((((hy4.out.trans hy5.out).trans hy6.out).trans hy7.out).trans hy8.out).trans hy9.out).trans hy10.out).trans hy11.out).trans hy12.out).trans hy13.out).trans hy14.out).trans hy15.out)) (O4.out.ext ((((((((((hy5.out.trans hy6.out).trans hy7.out).trans hy8.out).trans hy9.out).trans hy10.out).trans hy11.out).trans hy12.out).trans hy13.out).trans hy14.out).trans hy15.out)) (by omega) hpq).mono ?_); rintro E16 w16 ⟨A16, n16, c16, rfl, o16, hr16⟩; have O16 := hid o16; clear o16; have X16 := hid (X15.out.trans hr16); have hy16 := hid hr16; clear hr16)
      | (go_at_call 15; (with_reducible refine (limbs_v O16.out (by omega)).mono ?_); rintro E17 w17 ⟨A17, n17, c17, rfl, o17, hr17⟩; have O17 := hid o17; clear o17; have X17 := hid (X16.out.trans hr17); have hy17 := hid hr17; clear hr17)
      | (go_at_call 13; (with_reducible refine (same_c (O6.out.ext ((((((((((hy7.out.trans hy8.out).trans hy9.out).trans hy10.out).trans hy11.out).trans hy12.out).trans hy13.out).trans hy14.out).trans hy15.out).trans hy16.out).trans hy17.out)) O17.out (by omega) rfl).mono ?_); rintro E18 w18 ⟨rfl, hr18⟩; have X18 := hid (X17.out.trans hr18); have hy18 := hid hr18; clear hr18))
    have hne : ∀ g g', A5 = some ⟨g, 0, none⟩ → A6 = some ⟨g', 0, none⟩ → g ≠ g' := by
      rintro g g' rfl rfl
      have e1 := (O5.out.1.lo_le).2
      have e2 := (O6.out.1.lo_le).1
      omega
    have hsz : Hid (w4.heap.size ≤ w5.heap.size) := hy5.out.size
    have i0 : ∀ W, (Instr.index 37 (.agg #[.slice A5 n5 c5, .slice A6 n6 c6]) (.int .i64 0)).run Try.prog W = .ok (.slice A5 n5 c5) W := fun _ => by kernel_rfl
    have i1 : ∀ W, (Instr.index 37 (.agg #[.slice A5 n5 c5, .slice A6 n6 c6]) (.int .i64 1)).run Try.prog W = .ok (.slice A6 n6 c6) W := fun _ => by kernel_rfl
    have hk1 : n5 ≤ 1000 := by have := O5.out.2; omega
    have hk2 : n6 ≤ 1000 := by have := O6.out.2; omega
    have hkx : Hid (n1 ≤ 1099511627776) := by have := hn1.out; show _ ≤ _; omega
    have hky : Hid (n2 ≤ 1099511627776) := by have := hn2.out; show _ ≤ _; omega
    have BX := hid (X18.out)
    have KX := hid (O1.out.sl.ext (((hy2.out.trans hy3.out).trans hy4.out)))
    have KY := hid (O2.out.sl.ext ((hy3.out.trans hy4.out)))
    have KA := hid (Ha.out.ext X4.out)
    have KB := hid (Hb.out.ext X4.out)
    have XW := hid X4.out
    have S5 := hid (O5.out.1.ext ((((((((((((hy6.out.trans hy7.out).trans hy8.out).trans hy9.out).trans hy10.out).trans hy11.out).trans hy12.out).trans hy13.out).trans hy14.out).trans hy15.out).trans hy16.out).trans hy17.out).trans hy18.out))
    have S6 := hid (O6.out.1.ext (((((((((((hy7.out.trans hy8.out).trans hy9.out).trans hy10.out).trans hy11.out).trans hy12.out).trans hy13.out).trans hy14.out).trans hy15.out).trans hy16.out).trans hy17.out).trans hy18.out))
    have S7 := hid (((((((((((((hy5.out.trans hy6.out).trans hy7.out).trans hy8.out).trans hy9.out).trans hy10.out).trans hy11.out).trans hy12.out).trans hy13.out).trans hy14.out).trans hy15.out).trans hy16.out).trans hy17.out).trans hy18.out)
    clear O5 O6 hy1 X1 hy2 X2 hy3 X3 hy4 X4 hy5 X5 hy6 X6 hy7 X7 hy8 X8 hy9 X9 hy10 X10 hy11 X11 hy12 X12 hy13 X13 hy14 X14 hy15 X15 hy16 X16 hy17 X17 hy18 X18
    go_loopw [100] (fun sj wr => ∃ (j : Nat) (zs ys' : List Nat), j ≤ 2 ∧ sj = .int .i64 j ∧ Own .u32 38 wr w4.heap.size A5 n5 c5 zs ∧ Own .u32 38 wr w5.heap.size A6 n6 c6 ys' ∧ Ext w4 wr) (fun sj _ => 2 - (intOf sj).toNat)
    case atStart => exact ⟨0, _, _, by omega, rfl, S5.out, S6.out, S7.out⟩
    case round =>
      clear S5 S6 S7
      obtain ⟨j, us, ys', hj, rfl, q1, q2, q3⟩ := hrel
      have HS := hid q1
      have HD := hid q2
      have HX := hid q3
      clear q1 q2 q3
      rcases (show j = 0 ∨ j = 1 ∨ j = 2 by omega) with rfl | rfl | rfl
      · skip
        go_wp2_with fail
        obtain ⟨wo, rfl⟩ : ∃ wo : World, wo = wr := ⟨_, rfl⟩
        go_loopw [105] (fun si wr => ∃ (i : Nat) (zs : List Nat), i ≤ n5 ∧ si = .int .i64 i ∧ Own .u32 38 wr w4.heap.size A5 n5 c5 zs ∧ Own .u32 38 wr w5.heap.size A6 n6 c6 ys' ∧ Ext w4 wr) (fun si _ => n5 - (intOf si).toNat)
        case atStart => exact ⟨0, _, Nat.zero_le _, rfl, HS.out, HD.out, HX.out⟩
        case round =>
          obtain ⟨i, vs, hi, rfl, q1, q2, q3⟩ := hrel
          have Q1 := hid q1
          have Q2 := hid q2
          have Q3 := hid q3
          clear q1 q2 q3 HS HD HX
          by_cases hlt : i < n5
          · rcases Q1.out.form with ⟨_, h0, _⟩ | ⟨g, rfl, hg1, hg2⟩
            · omega
            · have g0 := Q1.out.cell hlt
              have gf := Q1.out.frozen i
              generalize vs[i]?.getD 0 = x at g0
              have hw : ((x : Int) + 1) % 4294967296 = (((x + 1) % 4294967296 : Nat) : Int) := by omega
              have HW := hid hw
              clear hw
              have hne' := hid hne
              clear hne
              go_wp2_with fail
              rw [HW.out]
              refine ⟨⟨i + 1, _, by omega, by go_num, Q1.out.set i _, Q2.out.far (fun g' e => ?_) _, Q3.out.setCell hg1 _⟩, by simp [intOf]; omega⟩
              exact fun e2 => hne'.out g g' rfl e e2.symm
          · obtain rfl : i = n5 := by omega
            go_wp2_with fail
            go_roundw
            case rel => exact ⟨1, _, _, by omega, rfl, Q1.out, Q2.out, Q3.out⟩
            case measure => simp [intOf]
      · skip
        go_wp2_with fail
        obtain ⟨wo, rfl⟩ : ∃ wo : World, wo = wr := ⟨_, rfl⟩
        go_loopw [105] (fun si wr => ∃ (i : Nat) (zs : List Nat), i ≤ n6 ∧ si = .int .i64 i ∧ Own .u32 38 wr w5.heap.size A6 n6 c6 zs ∧ Own .u32 38 wr w4.heap.size A5 n5 c5 us ∧ Ext w4 wr) (fun si _ => n6 - (intOf si).toNat)
        case atStart => exact ⟨0, _, Nat.zero_le _, rfl, HD.out, HS.out, HX.out⟩
        case round =>
          obtain ⟨i, vs, hi, rfl, q1, q2, q3⟩ := hrel
          have Q1 := hid q1
          have Q2 := hid q2
          have Q3 := hid q3
          clear q1 q2 q3 HS HD HX
          by_cases hlt : i < n6
          · rcases Q1.out.form with ⟨_, h0, _⟩ | ⟨g, rfl, hg1, hg2⟩
            · omega
            · have g0 := Q1.out.cell hlt
              have gf := Q1.out.frozen i
              generalize vs[i]?.getD 0 = x at g0
              have hw : ((x : Int) + 1) % 4294967296 = (((x + 1) % 4294967296 : Nat) : Int) := by omega
              have HW := hid hw
              clear hw
              have hne' := hid hne
              clear hne
              go_wp2_with fail
              rw [HW.out]
              refine ⟨⟨i + 1, _, by omega, by go_num, Q1.out.set i _, Q2.out.far (fun g' e => ?_) _, Q3.out.setCell (Nat.le_trans hsz.out hg1) _⟩, by simp [intOf]; omega⟩
              exact hne'.out g' g e rfl
          · obtain rfl : i = n6 := by omega
            go_wp2_with fail
            go_roundw
            case rel => exact ⟨2, _, _, by omega, rfl, Q2.out, Q1.out, Q3.out⟩
            case measure => simp [intOf]
      · go_wp2_with (first
          | (go_at_call 19; (with_reducible refine (kept_v (KX.out.ext HX.out) (KA.out.ext HX.out) hkx.out).mono ?_); rintro E1 z1 ⟨rfl, t1⟩; have T1 := hid (HX.out.trans t1); clear t1)
          | (go_at_call 19; (with_reducible refine (kept_v (KY.out.ext T1.out) (KB.out.ext T1.out) hky.out).mono ?_); rintro E2 z2 ⟨rfl, t2⟩; have T2 := hid (T1.out.trans t2); clear t2)
          | (go_at_call 9; refine known_any.mono ?_; rintro E3 z3 ⟨rfl, t3⟩; have T3 := hid (T2.out.trans t3); clear t3))
        go_ret
        exact ⟨rfl, XW.out.trans T3.out⟩

set_option maxHeartbeats 6400000 in
set_option maxRecDepth 100000 in
theorem natAdds_any {w : World} {A1 A2 : Option Addr} {n1 n2 c1 c2 : Nat} {xs ys : List Nat} (ha : Sl .u32 w A1 n1 c1 xs) (hb : Sl .u32 w A2 n2 c2 ys) (la : Lim 4294967296 xs) (lb : Lim 4294967296 ys) :
    Calls Try.prog 3 #[.slice A1 n1 c1, .slice A2 n2 c2] w (RetE (.bool true) w) := by
  by_cases h : n1 ≤ 40 ∧ n2 ≤ 40
  · rcases Nat.lt_or_ge (nv 4294967296 xs) (nv 4294967296 ys) with hpq | hpq
    · exact natAdds_lt ha hb la lb h.1 h.2 rfl rfl hpq
    · exact natAdds_ge ha hb la lb h.1 h.2 rfl rfl hpq
  · have hg : 40 < n1 ∨ 40 < n2 := by omega
    clear h ha hb la lb
    go_enter Try.func3, Try.ntmps3
    go_wp2_with (first
      | (go_at_call 8; refine (great_yes hg).mono ?_; rintro E0 w0 ⟨rfl, rfl⟩)
      | (go_at_call 9; refine known_any.mono ?_; rintro E1 w1 ⟨rfl, hx1⟩))
    go_ret
    exact ⟨rfl, hx1⟩

end Go.Proofs.Ytgmppklfblblpaa
