/-
  The contract of 'known' of layer 1. Printed by wip/gen/law1.py.
-/
import Derived.Test.YtgmppklfblblpaaNum
namespace Go.Proofs.Ytgmppklfblblpaa
open Go.RowKit
open Go.Lib (hid)

set_option maxHeartbeats 6400000 in
set_option maxRecDepth 100000 in
theorem known_any {w : World} : Calls Try.prog 9 #[] w (RetE (.bool true) w) := by
  go_enter Try.func9, Try.ntmps9
  go_wp2_with (first
    | ((with_reducible refine wpl_lit1 (w0 := w) (Ext.refl _) rfl _ _ rfl 38 .u32 4 Try.underlying22 info_u32 _ 4294967295 rfl rfl ?_); intro g1 w1 hg1 o1 hx1 hr1; have O1 := hid o1; have X1 := hid hx1; have hy1 := hid hr1; clear o1 hx1 hr1 hg1)
    | ((with_reducible refine wpl_lit1 (w0 := w) X1.out rfl _ _ rfl 38 .u32 4 Try.underlying22 info_u32 _ 1 rfl rfl ?_); intro g2 w2 hg2 o2 hx2 hr2; have O2 := hid o2; have X2 := hid hx2; have hy2 := hid hr2; clear o2 hx2 hr2 hg2)
    | (go_at_call 11; (with_reducible refine (add_v ((lit_nv1 O1.out (by omega)).ext hy2.out) (lit_nv1 O2.out (by omega)) (by omega)).mono ?_); rintro E3 w3 ⟨A3, n3, c3, rfl, o3, hr3⟩; have O3 := hid o3; clear o3; have X3 := hid (X2.out.trans hr3); have hy3 := hid hr3; clear hr3)
    | ((with_reducible refine wpl_lit2 (w0 := w) X3.out rfl _ _ _ rfl 38 .u32 4 Try.underlying22 info_u32 _ _ 0 1 rfl rfl rfl rfl ?_); intro g4 w4 hg4 o4 hx4 hr4; have O4 := hid o4; have X4 := hid hx4; have hy4 := hid hr4; clear o4 hx4 hr4 hg4)
    | ((with_reducible refine wpl_lit2 (w0 := w) X4.out rfl _ _ _ rfl 38 .u32 4 Try.underlying22 info_u32 _ _ 1 0 rfl rfl rfl rfl ?_); intro g5 w5 hg5 o5 hx5 hr5; have O5 := hid o5; have X5 := hid hx5; have hy5 := hid hr5; clear o5 hx5 hr5 hg5)
    | (go_at_call 12; (with_reducible refine (sub_yes ((lit_nv2 O4.out (by omega) (by omega) rfl).ext hy5.out) (lit_nv2 O5.out (by omega) (by omega) rfl) (by omega) (by omega)).mono ?_); rintro E6 w6 ⟨A6, n6, c6, rfl, o6, hr6⟩; have O6 := hid o6; clear o6; have X6 := hid (X5.out.trans hr6); have hy6 := hid hr6; clear hr6)
    | ((with_reducible refine wpl_lit1 (w0 := w) X6.out rfl _ _ rfl 38 .u32 4 Try.underlying22 info_u32 _ 5 rfl rfl ?_); intro g7 w7 hg7 o7 hx7 hr7; have O7 := hid o7; have X7 := hid hx7; have hy7 := hid hr7; clear o7 hx7 hr7 hg7)
    | (go_at_call 22; (with_reducible refine (shl_v (v := 33) (V := 33) (by omega) (lit_nv1 O7.out (by omega)) (by omega) (by omega)).mono ?_); rintro E8 w8 ⟨A8, n8, c8, rfl, o8, hr8⟩; have O8 := hid o8; clear o8; have X8 := hid (X7.out.trans hr8); have hy8 := hid hr8; clear hr8)
    | (go_at_call 23; (with_reducible refine (shr_v (v := 34) (V := 34) (by omega) O8.out.nv (by omega) (by omega)).mono ?_); rintro E9 w9 ⟨A9, n9, c9, rfl, o9, hr9⟩; have O9 := hid o9; clear o9; have X9 := hid (X8.out.trans hr9); have hy9 := hid hr9; clear hr9)
    | ((with_reducible refine wpl_lit2 (w0 := w) X9.out rfl _ _ _ rfl 38 .u32 4 Try.underlying22 info_u32 _ _ 0 1 rfl rfl rfl rfl ?_); intro g10 w10 hg10 o10 hx10 hr10; have O10 := hid o10; have X10 := hid hx10; have hy10 := hid hr10; clear o10 hx10 hr10 hg10)
    | (go_at_call 13; (with_reducible refine (same_c (O3.out.ext ((((((hy4.out.trans hy5.out).trans hy6.out).trans hy7.out).trans hy8.out).trans hy9.out).trans hy10.out)) (lit_cn2 O10.out (by omega) (by omega) (by omega) rfl) (by omega) (by omega)).mono ?_); rintro E11 w11 ⟨rfl, hr11⟩; have X11 := hid (X10.out.trans hr11); have hy11 := hid hr11; clear hr11)
    | ((with_reducible refine wpl_lit1 (w0 := w) X11.out rfl _ _ rfl 38 .u32 4 Try.underlying22 info_u32 _ 4294967295 rfl rfl ?_); intro g12 w12 hg12 o12 hx12 hr12; have O12 := hid o12; have X12 := hid hx12; have hy12 := hid hr12; clear o12 hx12 hr12 hg12)
    | (go_at_call 13; (with_reducible refine (same_c (O6.out.ext (((((hy7.out.trans hy8.out).trans hy9.out).trans hy10.out).trans hy11.out).trans hy12.out)) (lit_cn1 O12.out (by omega) (by omega)) (by omega) (by omega)).mono ?_); rintro E13 w13 ⟨rfl, hr13⟩; have X13 := hid (X12.out.trans hr13); have hy13 := hid hr13; clear hr13)
    | ((with_reducible refine wpl_lit2 (w0 := w) X13.out rfl _ _ _ rfl 38 .u32 4 Try.underlying22 info_u32 _ _ 0 10 rfl rfl rfl rfl ?_); intro g14 w14 hg14 o14 hx14 hr14; have O14 := hid o14; have X14 := hid hx14; have hy14 := hid hr14; clear o14 hx14 hr14 hg14)
    | (go_at_call 13; (with_reducible refine (same_c (O8.out.ext (((((hy9.out.trans hy10.out).trans hy11.out).trans hy12.out).trans hy13.out).trans hy14.out)) (lit_cn2 O14.out (by omega) (by omega) (by omega) rfl) (by omega) (by omega)).mono ?_); rintro E15 w15 ⟨rfl, hr15⟩; have X15 := hid (X14.out.trans hr15); have hy15 := hid hr15; clear hr15)
    | ((with_reducible refine wpl_lit1 (w0 := w) X15.out rfl _ _ rfl 38 .u32 4 Try.underlying22 info_u32 _ 2 rfl rfl ?_); intro g16 w16 hg16 o16 hx16 hr16; have O16 := hid o16; have X16 := hid hx16; have hy16 := hid hr16; clear o16 hx16 hr16 hg16)
    | (go_at_call 13; (with_reducible refine (same_c (O9.out.ext ((((((hy10.out.trans hy11.out).trans hy12.out).trans hy13.out).trans hy14.out).trans hy15.out).trans hy16.out)) (lit_cn1 O16.out (by omega) (by omega)) (by omega) (by omega)).mono ?_); rintro E17 w17 ⟨rfl, hr17⟩; have X17 := hid (X16.out.trans hr17); have hy17 := hid hr17; clear hr17)
    | ((with_reducible refine wpl_lit2 (w0 := w) X17.out rfl _ _ _ rfl 38 .u32 4 Try.underlying22 info_u32 _ _ 1 0 rfl rfl rfl rfl ?_); intro g18 w18 hg18 o18 hx18 hr18; have O18 := hid o18; have X18 := hid hx18; have hy18 := hid hr18; clear o18 hx18 hr18 hg18)
    | ((with_reducible refine wpl_lit1 (w0 := w) X18.out rfl _ _ rfl 38 .u32 4 Try.underlying22 info_u32 _ 1 rfl rfl ?_); intro g19 w19 hg19 o19 hx19 hr19; have O19 := hid o19; have X19 := hid hx19; have hy19 := hid hr19; clear o19 hx19 hr19 hg19)
    | (go_at_call 16; (with_reducible refine (cmp_is (v := 0) ((lit_nv2 O18.out (by omega) (by omega) rfl).ext hy19.out) (lit_nv1 O19.out (by omega)) (by omega) rfl).mono ?_); rintro E20 w20 ⟨rfl, hr20⟩; have X20 := hid (X19.out.trans hr20); have hy20 := hid hr20; clear hr20))
  go_ret
  exact ⟨rfl, X20.out⟩

end Go.Proofs.Ytgmppklfblblpaa
