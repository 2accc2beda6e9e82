/-
  The walk of the statement NatBounds. Printed by wip/gen/law1.py.
-/
import Derived.Test.YtgmppklfblblpaaKnown
import Derived.Test.YtgmppklfblblpaaCanon
namespace Go.Proofs.Ytgmppklfblblpaa
open Go.RowKit
open Go.Lib (hid)

theorem len_zero' {K : Nat} {w : World} {lo : Nat} {A : Option Addr} {n c m : Nat} (h : Cn K w lo A n c m) (h0 : m = 0) : (n : Int) = 0 := by
  have := h.len; subst h0; rw [this]; rfl
set_option maxHeartbeats 6400000 in
set_option maxRecDepth 100000 in
theorem natBounds_small {w : World} {A1 : Option Addr} {n1 c1 p u : Nat} (ha : Nv 200 w A1 n1 c1 p) (h1 : n1 ≤ 200) (hu0 : u < 18446744073709551616) :
    Calls Try.prog 7 #[.slice A1 n1 c1, .int .u64 u] w (RetE (.bool true) w) := by
  have Ha := hid ha
  have hu := hid hu0
  clear ha hu0
  by_cases hp : p = 0
  · subst hp
    have hw : Hid (0 < 18446744073709551616) := by show _ < _; omega
    have hb0 : bl 0 = 0 := rfl
    go_enter Try.func7, Try.ntmps7
    go_wp2_with (first
      | (go_at_call 24; (with_reducible refine (bits_v Ha.out (by omega)).mono ?_); rintro Es1 ws1 ⟨rfl, rfl⟩)
      | (go_at_call 31; (with_reducible refine (word_v Ha.out (by omega) hw.out).mono ?_); rintro Es1 ws1 ⟨rfl, rfl⟩)
      | (go_at_call 18; (with_reducible refine (trim_v Ha.out (by omega)).mono ?_); rintro E1 w1 ⟨A1, n1, c1, rfl, o1, hy1⟩; have O1 := hid o1; clear o1; have X1 := hid ((Ext.refl _).trans hy1); have hy1 := hid hy1; have hr1 := len_zero' O1.out rfl)
      | (go_at_call 9; (with_reducible refine (known_any).mono ?_); rintro E2 w2 ⟨rfl, hy2⟩; have X2 := hid (X1.out.trans hy2); have hy2 := hid hy2))
    go_ret
    exact ⟨rfl, X2.out⟩
  · obtain ⟨b1, b2, b3⟩ := bl_bounds hp
    have hN : bl p ≤ 6400 := by have := bl_bound Ha.out.bound; omega
    have hbits := hid (bits_v Ha.out (by omega))
    have g64 : bl p ≤ 64 ↔ p < 18446744073709551616 := ⟨fun h => lt_of_bl (k := 64) h, fun h => bl_le (k := 64) h⟩
    have hu64 : (bl u : Int) ≤ 64 := by have := bl_le (n := u) (k := 64) hu.out; omega
    generalize bl p = N at *
    have hone : Hid (p / 2 ^ (N - 1) = 1) := by
      show _ = _
      refine Nat.div_eq_of_lt_le (by omega) ?_
      have e : 2 ^ N = 2 ^ (N - 1) * 2 := by rw [← Nat.pow_succ]; congr 1; omega
      omega
    have hnone : Hid (p / 2 ^ N = 0) := Nat.div_eq_of_lt b3
    have hhigh : Hid (cmpN p (1 * 2 ^ N) = -1) := cmpN_lt (by omega)
    have hlo : Hid (cmpN p (1 * 2 ^ (N - 1)) = 0) ∨ Hid (cmpN p (1 * 2 ^ (N - 1)) = 1) := by
      rcases Nat.eq_or_lt_of_le b2 with h | h
      · exact .inl (by show _ = _; rw [Nat.one_mul, h]; exact cmpN_eq _)
      · exact .inr (cmpN_gt (by omega))
    have hb : ((N : Int) == 0) = false := beq_eq_false_iff_ne.2 (by omega)
    clear b2 b3 hp
    by_cases hbig : p < 18446744073709551616
    · have hw := hid hbig
      have h64 : (N : Int) ≤ 64 := by have := g64.2 hbig; omega
      clear hbig g64
      rcases hlo with hlow | hlow
      · go_enter Try.func7, Try.ntmps7
        go_wp2_with (first
          | (go_at_call 24; (with_reducible refine (hbits.out).mono ?_); rintro Es1 ws1 ⟨rfl, rfl⟩)
          | ((with_reducible refine wpl_lit1 (w0 := w) (Ext.refl _) rfl _ _ rfl 38 .u32 4 Try.underlying22 info_u32 _ 1 rfl rfl ?_); intro g1 w1 hg1 o1 hx1 hy1; have O1 := hid o1; have X1 := hid hx1; have hy1 := hid hy1; clear o1 hx1)
          | (go_at_call 22; (with_reducible refine (shl_v (v := N - 1) (V := (N : Int) - 1) (by omega) (lit_nv1 O1.out (by omega)) (by omega) (by omega)).mono ?_); rintro E2 w2 ⟨A2, n2, c2, rfl, o2, hy2⟩; have O2 := hid o2; clear o2; have X2 := hid (X1.out.trans hy2); have hy2 := hid hy2)
          | ((with_reducible refine wpl_lit1 (w0 := w) X2.out rfl _ _ rfl 38 .u32 4 Try.underlying22 info_u32 _ 1 rfl rfl ?_); intro g3 w3 hg3 o3 hx3 hy3; have O3 := hid o3; have X3 := hid hx3; have hy3 := hid hy3; clear o3 hx3)
          | (go_at_call 22; (with_reducible refine (shl_v (v := N) rfl (lit_nv1 O3.out (by omega)) (by omega) (by omega)).mono ?_); rintro E4 w4 ⟨A4, n4, c4, rfl, o4, hy4⟩; have O4 := hid o4; clear o4; have X4 := hid (X3.out.trans hy4); have hy4 := hid hy4)
          | (go_at_call 23; (with_reducible refine (shr_v (v := N - 1) (V := (N : Int) - 1) (by omega) (Ha.out.ext (((hy1.out.trans hy2.out).trans hy3.out).trans hy4.out)) (by omega) (by omega)).mono ?_); rintro E5 w5 ⟨A5, n5, c5, rfl, o5, hy5⟩; have O5 := hid o5; clear o5; have X5 := hid (X4.out.trans hy5); have hy5 := hid hy5)
          | (go_at_call 23; (with_reducible refine (shr_v (v := N) rfl (Ha.out.ext ((((hy1.out.trans hy2.out).trans hy3.out).trans hy4.out).trans hy5.out)) (by omega) (by omega)).mono ?_); rintro E6 w6 ⟨A6, n6, c6, rfl, o6, hy6⟩; have O6 := hid o6; clear o6; have X6 := hid (X5.out.trans hy6); have hy6 := hid hy6; have hr6 := len_zero' O6.out hnone.out)
          | (go_at_call 16; (with_reducible refine (cmp_is (v := 0) (Ha.out.ext (((((hy1.out.trans hy2.out).trans hy3.out).trans hy4.out).trans hy5.out).trans hy6.out)) (O2.out.nv.ext (((hy3.out.trans hy4.out).trans hy5.out).trans hy6.out)) (by omega) hlow.out).mono ?_); rintro E7 w7 ⟨rfl, hy7⟩; have X7 := hid (X6.out.trans hy7); have hy7 := hid hy7)
          | (go_at_call 16; (with_reducible refine (cmp_is (v := -1) (Ha.out.ext ((((((hy1.out.trans hy2.out).trans hy3.out).trans hy4.out).trans hy5.out).trans hy6.out).trans hy7.out)) (O4.out.nv.ext ((hy5.out.trans hy6.out).trans hy7.out)) (by omega) hhigh.out).mono ?_); rintro E8 w8 ⟨rfl, hy8⟩; have X8 := hid (X7.out.trans hy8); have hy8 := hid hy8)
          | ((with_reducible refine wpl_lit1 (w0 := w) X8.out rfl _ _ rfl 38 .u32 4 Try.underlying22 info_u32 _ 1 rfl rfl ?_); intro g9 w9 hg9 o9 hx9 hy9; have O9 := hid o9; have X9 := hid hx9; have hy9 := hid hy9; clear o9 hx9)
          | (go_at_call 13; (with_reducible refine (same_c (O5.out.ext (((hy6.out.trans hy7.out).trans hy8.out).trans hy9.out)) (lit_cn1 O9.out (by omega) (by omega)) (by omega) hone.out).mono ?_); rintro E10 w10 ⟨rfl, hy10⟩; have X10 := hid (X9.out.trans hy10); have hy10 := hid hy10)
          | (go_at_call 31; (with_reducible refine (word_v (Ha.out.ext (((((((((hy1.out.trans hy2.out).trans hy3.out).trans hy4.out).trans hy5.out).trans hy6.out).trans hy7.out).trans hy8.out).trans hy9.out).trans hy10.out)) (by omega) hw.out).mono ?_); rintro Es11 ws11 ⟨rfl, rfl⟩)
          | (go_at_call 29; (with_reducible refine (small_v rfl hu.out).mono ?_); rintro E11 w11 ⟨A11, n11, c11, rfl, o11, hy11⟩; have O11 := hid o11; clear o11; have X11 := hid (X10.out.trans hy11); have hy11 := hid hy11)
          | (go_at_call 31; (with_reducible refine (word_v O11.out.nv (by omega) hu.out).mono ?_); rintro Es12 ws12 ⟨rfl, rfl⟩)
          | (go_at_call 29; (with_reducible refine (small_v rfl hw.out).mono ?_); rintro E12 w12 ⟨A12, n12, c12, rfl, o12, hy12⟩; have O12 := hid o12; clear o12; have X12 := hid (X11.out.trans hy12); have hy12 := hid hy12)
          | (go_at_call 18; (with_reducible refine (trim_v (Ha.out.ext (((((((((((hy1.out.trans hy2.out).trans hy3.out).trans hy4.out).trans hy5.out).trans hy6.out).trans hy7.out).trans hy8.out).trans hy9.out).trans hy10.out).trans hy11.out).trans hy12.out)) (by omega)).mono ?_); rintro E13 w13 ⟨A13, n13, c13, rfl, o13, hy13⟩; have O13 := hid o13; clear o13; have X13 := hid (X12.out.trans hy13); have hy13 := hid hy13)
          | (go_at_call 13; (with_reducible refine (same_c (O12.out.ext hy13.out) O13.out (by omega) rfl).mono ?_); rintro E14 w14 ⟨rfl, hy14⟩; have X14 := hid (X13.out.trans hy14); have hy14 := hid hy14)
          | (go_at_call 29; (with_reducible refine (small_v rfl hu.out).mono ?_); rintro E15 w15 ⟨A15, n15, c15, rfl, o15, hy15⟩; have O15 := hid o15; clear o15; have X15 := hid (X14.out.trans hy15); have hy15 := hid hy15)
          | (go_at_call 24; (with_reducible refine (bits_v O15.out.nv (by omega)).mono ?_); rintro Es16 ws16 ⟨rfl, rfl⟩)
          | (go_at_call 9; (with_reducible refine (known_any).mono ?_); rintro E16 w16 ⟨rfl, hy16⟩; have X16 := hid (X15.out.trans hy16); have hy16 := hid hy16))
        go_ret
        exact ⟨rfl, X16.out⟩
      · go_enter Try.func7, Try.ntmps7
        go_wp2_with (first
          | (go_at_call 24; (with_reducible refine (hbits.out).mono ?_); rintro Es1 ws1 ⟨rfl, rfl⟩)
          | ((with_reducible refine wpl_lit1 (w0 := w) (Ext.refl _) rfl _ _ rfl 38 .u32 4 Try.underlying22 info_u32 _ 1 rfl rfl ?_); intro g1 w1 hg1 o1 hx1 hy1; have O1 := hid o1; have X1 := hid hx1; have hy1 := hid hy1; clear o1 hx1)
          | (go_at_call 22; (with_reducible refine (shl_v (v := N - 1) (V := (N : Int) - 1) (by omega) (lit_nv1 O1.out (by omega)) (by omega) (by omega)).mono ?_); rintro E2 w2 ⟨A2, n2, c2, rfl, o2, hy2⟩; have O2 := hid o2; clear o2; have X2 := hid (X1.out.trans hy2); have hy2 := hid hy2)
          | ((with_reducible refine wpl_lit1 (w0 := w) X2.out rfl _ _ rfl 38 .u32 4 Try.underlying22 info_u32 _ 1 rfl rfl ?_); intro g3 w3 hg3 o3 hx3 hy3; have O3 := hid o3; have X3 := hid hx3; have hy3 := hid hy3; clear o3 hx3)
          | (go_at_call 22; (with_reducible refine (shl_v (v := N) rfl (lit_nv1 O3.out (by omega)) (by omega) (by omega)).mono ?_); rintro E4 w4 ⟨A4, n4, c4, rfl, o4, hy4⟩; have O4 := hid o4; clear o4; have X4 := hid (X3.out.trans hy4); have hy4 := hid hy4)
          | (go_at_call 23; (with_reducible refine (shr_v (v := N - 1) (V := (N : Int) - 1) (by omega) (Ha.out.ext (((hy1.out.trans hy2.out).trans hy3.out).trans hy4.out)) (by omega) (by omega)).mono ?_); rintro E5 w5 ⟨A5, n5, c5, rfl, o5, hy5⟩; have O5 := hid o5; clear o5; have X5 := hid (X4.out.trans hy5); have hy5 := hid hy5)
          | (go_at_call 23; (with_reducible refine (shr_v (v := N) rfl (Ha.out.ext ((((hy1.out.trans hy2.out).trans hy3.out).trans hy4.out).trans hy5.out)) (by omega) (by omega)).mono ?_); rintro E6 w6 ⟨A6, n6, c6, rfl, o6, hy6⟩; have O6 := hid o6; clear o6; have X6 := hid (X5.out.trans hy6); have hy6 := hid hy6; have hr6 := len_zero' O6.out hnone.out)
          | (go_at_call 16; (with_reducible refine (cmp_is (v := 1) (Ha.out.ext (((((hy1.out.trans hy2.out).trans hy3.out).trans hy4.out).trans hy5.out).trans hy6.out)) (O2.out.nv.ext (((hy3.out.trans hy4.out).trans hy5.out).trans hy6.out)) (by omega) hlow.out).mono ?_); rintro E7 w7 ⟨rfl, hy7⟩; have X7 := hid (X6.out.trans hy7); have hy7 := hid hy7)
          | (go_at_call 16; (with_reducible refine (cmp_is (v := -1) (Ha.out.ext ((((((hy1.out.trans hy2.out).trans hy3.out).trans hy4.out).trans hy5.out).trans hy6.out).trans hy7.out)) (O4.out.nv.ext ((hy5.out.trans hy6.out).trans hy7.out)) (by omega) hhigh.out).mono ?_); rintro E8 w8 ⟨rfl, hy8⟩; have X8 := hid (X7.out.trans hy8); have hy8 := hid hy8)
          | ((with_reducible refine wpl_lit1 (w0 := w) X8.out rfl _ _ rfl 38 .u32 4 Try.underlying22 info_u32 _ 1 rfl rfl ?_); intro g9 w9 hg9 o9 hx9 hy9; have O9 := hid o9; have X9 := hid hx9; have hy9 := hid hy9; clear o9 hx9)
          | (go_at_call 13; (with_reducible refine (same_c (O5.out.ext (((hy6.out.trans hy7.out).trans hy8.out).trans hy9.out)) (lit_cn1 O9.out (by omega) (by omega)) (by omega) hone.out).mono ?_); rintro E10 w10 ⟨rfl, hy10⟩; have X10 := hid (X9.out.trans hy10); have hy10 := hid hy10)
          | (go_at_call 31; (with_reducible refine (word_v (Ha.out.ext (((((((((hy1.out.trans hy2.out).trans hy3.out).trans hy4.out).trans hy5.out).trans hy6.out).trans hy7.out).trans hy8.out).trans hy9.out).trans hy10.out)) (by omega) hw.out).mono ?_); rintro Es11 ws11 ⟨rfl, rfl⟩)
          | (go_at_call 29; (with_reducible refine (small_v rfl hu.out).mono ?_); rintro E11 w11 ⟨A11, n11, c11, rfl, o11, hy11⟩; have O11 := hid o11; clear o11; have X11 := hid (X10.out.trans hy11); have hy11 := hid hy11)
          | (go_at_call 31; (with_reducible refine (word_v O11.out.nv (by omega) hu.out).mono ?_); rintro Es12 ws12 ⟨rfl, rfl⟩)
          | (go_at_call 29; (with_reducible refine (small_v rfl hw.out).mono ?_); rintro E12 w12 ⟨A12, n12, c12, rfl, o12, hy12⟩; have O12 := hid o12; clear o12; have X12 := hid (X11.out.trans hy12); have hy12 := hid hy12)
          | (go_at_call 18; (with_reducible refine (trim_v (Ha.out.ext (((((((((((hy1.out.trans hy2.out).trans hy3.out).trans hy4.out).trans hy5.out).trans hy6.out).trans hy7.out).trans hy8.out).trans hy9.out).trans hy10.out).trans hy11.out).trans hy12.out)) (by omega)).mono ?_); rintro E13 w13 ⟨A13, n13, c13, rfl, o13, hy13⟩; have O13 := hid o13; clear o13; have X13 := hid (X12.out.trans hy13); have hy13 := hid hy13)
          | (go_at_call 13; (with_reducible refine (same_c (O12.out.ext hy13.out) O13.out (by omega) rfl).mono ?_); rintro E14 w14 ⟨rfl, hy14⟩; have X14 := hid (X13.out.trans hy14); have hy14 := hid hy14)
          | (go_at_call 29; (with_reducible refine (small_v rfl hu.out).mono ?_); rintro E15 w15 ⟨A15, n15, c15, rfl, o15, hy15⟩; have O15 := hid o15; clear o15; have X15 := hid (X14.out.trans hy15); have hy15 := hid hy15)
          | (go_at_call 24; (with_reducible refine (bits_v O15.out.nv (by omega)).mono ?_); rintro Es16 ws16 ⟨rfl, rfl⟩)
          | (go_at_call 9; (with_reducible refine (known_any).mono ?_); rintro E16 w16 ⟨rfl, hy16⟩; have X16 := hid (X15.out.trans hy16); have hy16 := hid hy16))
        go_ret
        exact ⟨rfl, X16.out⟩
    · have hw := hid (Nat.le_of_not_lt hbig)
      have h64 : ¬ (N : Int) ≤ 64 := by have := g64.1; omega
      clear hbig g64
      rcases hlo with hlow | hlow
      · go_enter Try.func7, Try.ntmps7
        go_wp2_with (first
          | (go_at_call 24; (with_reducible refine (hbits.out).mono ?_); rintro Es1 ws1 ⟨rfl, rfl⟩)
          | ((with_reducible refine wpl_lit1 (w0 := w) (Ext.refl _) rfl _ _ rfl 38 .u32 4 Try.underlying22 info_u32 _ 1 rfl rfl ?_); intro g1 w1 hg1 o1 hx1 hy1; have O1 := hid o1; have X1 := hid hx1; have hy1 := hid hy1; clear o1 hx1)
          | (go_at_call 22; (with_reducible refine (shl_v (v := N - 1) (V := (N : Int) - 1) (by omega) (lit_nv1 O1.out (by omega)) (by omega) (by omega)).mono ?_); rintro E2 w2 ⟨A2, n2, c2, rfl, o2, hy2⟩; have O2 := hid o2; clear o2; have X2 := hid (X1.out.trans hy2); have hy2 := hid hy2)
          | ((with_reducible refine wpl_lit1 (w0 := w) X2.out rfl _ _ rfl 38 .u32 4 Try.underlying22 info_u32 _ 1 rfl rfl ?_); intro g3 w3 hg3 o3 hx3 hy3; have O3 := hid o3; have X3 := hid hx3; have hy3 := hid hy3; clear o3 hx3)
          | (go_at_call 22; (with_reducible refine (shl_v (v := N) rfl (lit_nv1 O3.out (by omega)) (by omega) (by omega)).mono ?_); rintro E4 w4 ⟨A4, n4, c4, rfl, o4, hy4⟩; have O4 := hid o4; clear o4; have X4 := hid (X3.out.trans hy4); have hy4 := hid hy4)
          | (go_at_call 23; (with_reducible refine (shr_v (v := N - 1) (V := (N : Int) - 1) (by omega) (Ha.out.ext (((hy1.out.trans hy2.out).trans hy3.out).trans hy4.out)) (by omega) (by omega)).mono ?_); rintro E5 w5 ⟨A5, n5, c5, rfl, o5, hy5⟩; have O5 := hid o5; clear o5; have X5 := hid (X4.out.trans hy5); have hy5 := hid hy5)
          | (go_at_call 23; (with_reducible refine (shr_v (v := N) rfl (Ha.out.ext ((((hy1.out.trans hy2.out).trans hy3.out).trans hy4.out).trans hy5.out)) (by omega) (by omega)).mono ?_); rintro E6 w6 ⟨A6, n6, c6, rfl, o6, hy6⟩; have O6 := hid o6; clear o6; have X6 := hid (X5.out.trans hy6); have hy6 := hid hy6; have hr6 := len_zero' O6.out hnone.out)
          | (go_at_call 16; (with_reducible refine (cmp_is (v := 0) (Ha.out.ext (((((hy1.out.trans hy2.out).trans hy3.out).trans hy4.out).trans hy5.out).trans hy6.out)) (O2.out.nv.ext (((hy3.out.trans hy4.out).trans hy5.out).trans hy6.out)) (by omega) hlow.out).mono ?_); rintro E7 w7 ⟨rfl, hy7⟩; have X7 := hid (X6.out.trans hy7); have hy7 := hid hy7)
          | (go_at_call 16; (with_reducible refine (cmp_is (v := -1) (Ha.out.ext ((((((hy1.out.trans hy2.out).trans hy3.out).trans hy4.out).trans hy5.out).trans hy6.out).trans hy7.out)) (O4.out.nv.ext ((hy5.out.trans hy6.out).trans hy7.out)) (by omega) hhigh.out).mono ?_); rintro E8 w8 ⟨rfl, hy8⟩; have X8 := hid (X7.out.trans hy8); have hy8 := hid hy8)
          | ((with_reducible refine wpl_lit1 (w0 := w) X8.out rfl _ _ rfl 38 .u32 4 Try.underlying22 info_u32 _ 1 rfl rfl ?_); intro g9 w9 hg9 o9 hx9 hy9; have O9 := hid o9; have X9 := hid hx9; have hy9 := hid hy9; clear o9 hx9)
          | (go_at_call 13; (with_reducible refine (same_c (O5.out.ext (((hy6.out.trans hy7.out).trans hy8.out).trans hy9.out)) (lit_cn1 O9.out (by omega) (by omega)) (by omega) hone.out).mono ?_); rintro E10 w10 ⟨rfl, hy10⟩; have X10 := hid (X9.out.trans hy10); have hy10 := hid hy10)
          | (go_at_call 31; (with_reducible refine (word_n (Ha.out.ext (((((((((hy1.out.trans hy2.out).trans hy3.out).trans hy4.out).trans hy5.out).trans hy6.out).trans hy7.out).trans hy8.out).trans hy9.out).trans hy10.out)) (by omega) hw.out).mono ?_); rintro Es11 ws11 ⟨rfl, rfl⟩)
          | (go_at_call 29; (with_reducible refine (small_v rfl hu.out).mono ?_); rintro E11 w11 ⟨A11, n11, c11, rfl, o11, hy11⟩; have O11 := hid o11; clear o11; have X11 := hid (X10.out.trans hy11); have hy11 := hid hy11)
          | (go_at_call 31; (with_reducible refine (word_v O11.out.nv (by omega) hu.out).mono ?_); rintro Es12 ws12 ⟨rfl, rfl⟩)
          | (go_at_call 29; (with_reducible refine (small_v rfl hu.out).mono ?_); rintro E12 w12 ⟨A12, n12, c12, rfl, o12, hy12⟩; have O12 := hid o12; clear o12; have X12 := hid (X11.out.trans hy12); have hy12 := hid hy12)
          | (go_at_call 24; (with_reducible refine (bits_v O12.out.nv (by omega)).mono ?_); rintro Es13 ws13 ⟨rfl, rfl⟩)
          | (go_at_call 9; (with_reducible refine (known_any).mono ?_); rintro E13 w13 ⟨rfl, hy13⟩; have X13 := hid (X12.out.trans hy13); have hy13 := hid hy13))
        go_ret
        exact ⟨rfl, X13.out⟩
      · go_enter Try.func7, Try.ntmps7
        go_wp2_with (first
          | (go_at_call 24; (with_reducible refine (hbits.out).mono ?_); rintro Es1 ws1 ⟨rfl, rfl⟩)
          | ((with_reducible refine wpl_lit1 (w0 := w) (Ext.refl _) rfl _ _ rfl 38 .u32 4 Try.underlying22 info_u32 _ 1 rfl rfl ?_); intro g1 w1 hg1 o1 hx1 hy1; have O1 := hid o1; have X1 := hid hx1; have hy1 := hid hy1; clear o1 hx1)
          | (go_at_call 22; (with_reducible refine (shl_v (v := N - 1) (V := (N : Int) - 1) (by omega) (lit_nv1 O1.out (by omega)) (by omega) (by omega)).mono ?_); rintro E2 w2 ⟨A2, n2, c2, rfl, o2, hy2⟩; have O2 := hid o2; clear o2; have X2 := hid (X1.out.trans hy2); have hy2 := hid hy2)
          | ((with_reducible refine wpl_lit1 (w0 := w) X2.out rfl _ _ rfl 38 .u32 4 Try.underlying22 info_u32 _ 1 rfl rfl ?_); intro g3 w3 hg3 o3 hx3 hy3; have O3 := hid o3; have X3 := hid hx3; have hy3 := hid hy3; clear o3 hx3)
          | (go_at_call 22; (with_reducible refine (shl_v (v := N) rfl (lit_nv1 O3.out (by omega)) (by omega) (by omega)).mono ?_); rintro E4 w4 ⟨A4, n4, c4, rfl, o4, hy4⟩; have O4 := hid o4; clear o4; have X4 := hid (X3.out.trans hy4); have hy4 := hid hy4)
          | (go_at_call 23; (with_reducible refine (shr_v (v := N - 1) (V := (N : Int) - 1) (by omega) (Ha.out.ext (((hy1.out.trans hy2.out).trans hy3.out).trans hy4.out)) (by omega) (by omega)).mono ?_); rintro E5 w5 ⟨A5, n5, c5, rfl, o5, hy5⟩; have O5 := hid o5; clear o5; have X5 := hid (X4.out.trans hy5); have hy5 := hid hy5)
          | (go_at_call 23; (with_reducible refine (shr_v (v := N) rfl (Ha.out.ext ((((hy1.out.trans hy2.out).trans hy3.out).trans hy4.out).trans hy5.out)) (by omega) (by omega)).mono ?_); rintro E6 w6 ⟨A6, n6, c6, rfl, o6, hy6⟩; have O6 := hid o6; clear o6; have X6 := hid (X5.out.trans hy6); have hy6 := hid hy6; have hr6 := len_zero' O6.out hnone.out)
          | (go_at_call 16; (with_reducible refine (cmp_is (v := 1) (Ha.out.ext (((((hy1.out.trans hy2.out).trans hy3.out).trans hy4.out).trans hy5.out).trans hy6.out)) (O2.out.nv.ext (((hy3.out.trans hy4.out).trans hy5.out).trans hy6.out)) (by omega) hlow.out).mono ?_); rintro E7 w7 ⟨rfl, hy7⟩; have X7 := hid (X6.out.trans hy7); have hy7 := hid hy7)
          | (go_at_call 16; (with_reducible refine (cmp_is (v := -1) (Ha.out.ext ((((((hy1.out.trans hy2.out).trans hy3.out).trans hy4.out).trans hy5.out).trans hy6.out).trans hy7.out)) (O4.out.nv.ext ((hy5.out.trans hy6.out).trans hy7.out)) (by omega) hhigh.out).mono ?_); rintro E8 w8 ⟨rfl, hy8⟩; have X8 := hid (X7.out.trans hy8); have hy8 := hid hy8)
          | ((with_reducible refine wpl_lit1 (w0 := w) X8.out rfl _ _ rfl 38 .u32 4 Try.underlying22 info_u32 _ 1 rfl rfl ?_); intro g9 w9 hg9 o9 hx9 hy9; have O9 := hid o9; have X9 := hid hx9; have hy9 := hid hy9; clear o9 hx9)
          | (go_at_call 13; (with_reducible refine (same_c (O5.out.ext (((hy6.out.trans hy7.out).trans hy8.out).trans hy9.out)) (lit_cn1 O9.out (by omega) (by omega)) (by omega) hone.out).mono ?_); rintro E10 w10 ⟨rfl, hy10⟩; have X10 := hid (X9.out.trans hy10); have hy10 := hid hy10)
          | (go_at_call 31; (with_reducible refine (word_n (Ha.out.ext (((((((((hy1.out.trans hy2.out).trans hy3.out).trans hy4.out).trans hy5.out).trans hy6.out).trans hy7.out).trans hy8.out).trans hy9.out).trans hy10.out)) (by omega) hw.out).mono ?_); rintro Es11 ws11 ⟨rfl, rfl⟩)
          | (go_at_call 29; (with_reducible refine (small_v rfl hu.out).mono ?_); rintro E11 w11 ⟨A11, n11, c11, rfl, o11, hy11⟩; have O11 := hid o11; clear o11; have X11 := hid (X10.out.trans hy11); have hy11 := hid hy11)
          | (go_at_call 31; (with_reducible refine (word_v O11.out.nv (by omega) hu.out).mono ?_); rintro Es12 ws12 ⟨rfl, rfl⟩)
          | (go_at_call 29; (with_reducible refine (small_v rfl hu.out).mono ?_); rintro E12 w12 ⟨A12, n12, c12, rfl, o12, hy12⟩; have O12 := hid o12; clear o12; have X12 := hid (X11.out.trans hy12); have hy12 := hid hy12)
          | (go_at_call 24; (with_reducible refine (bits_v O12.out.nv (by omega)).mono ?_); rintro Es13 ws13 ⟨rfl, rfl⟩)
          | (go_at_call 9; (with_reducible refine (known_any).mono ?_); rintro E13 w13 ⟨rfl, hy13⟩; have X13 := hid (X12.out.trans hy13); have hy13 := hid hy13))
        go_ret
        exact ⟨rfl, X13.out⟩

set_option maxHeartbeats 6400000 in
set_option maxRecDepth 100000 in
theorem natBounds_any {w : World} {A1 : Option Addr} {n1 c1 : Nat} {xs : List Nat} {u : Int} (ha : Sl .u32 w A1 n1 c1 xs) (la : Lim 4294967296 xs) (u0 : 0 ≤ u) (u1 : u ≤ 18446744073709551615) :
    Calls Try.prog 7 #[.slice A1 n1 c1, .int .u64 u] w (RetE (.bool true) w) := by
  obtain ⟨u, rfl⟩ := Int.eq_ofNat_of_zero_le u0
  have u2 : u < 18446744073709551616 := by omega
  clear u0 u1
  by_cases h1 : n1 ≤ 200
  · exact natBounds_small (Nv.mk ha la h1) h1 u2
  · have h1' : (200 : Int) < n1 := by omega
    clear ha la u2
    go_enter Try.func7, Try.ntmps7
    go_wp2_with (go_at_call 9; refine known_any.mono ?_; rintro E1 w1 ⟨rfl, hx1⟩)
    go_ret
    exact ⟨rfl, hx1⟩

end Go.Proofs.Ytgmppklfblblpaa
