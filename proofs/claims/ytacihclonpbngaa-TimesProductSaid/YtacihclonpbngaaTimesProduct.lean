
/-
  The walk of the statement TimesProduct. Printed by wip/gen/law2.py.
-/
import Derived.Test.YtacihclonpbngaaKnownT
namespace Go.Proofs.Ytacihclonpbngaa
open Go.RowKit
open Go.Lib (hid)

set_option maxHeartbeats 6400000 in
set_option maxRecDepth 100000 in
theorem timesProduct_small {w : World} {P1 P2 : Option Addr} {m1 m2 d1 d2 p q n : Nat} {xs ys : List Nat} (ha : Sl .u32 w P1 m1 d1 xs) (hb : Sl .u32 w P2 m2 d2 ys) (la : Lim 4294967296 xs) (lb : Lim 4294967296 ys) (h1 : m1 ≤ 60) (h2 : m2 ≤ 60) (hn0 : n < 4294967296)
    (vp : nv 4294967296 xs = p) (vq : nv 4294967296 ys = q) :
    Calls Try.prog 3 #[.slice P1 m1 d1, .slice P2 m2 d2, .int .u32 n] w (RetE (.bool true) w) := by
  have Ha := hid ha
  have Hb := hid hb
  have Na := hid (Nv.mk' ha la h1 vp)
  have Nb := hid (Nv.mk' hb lb h2 vq)
  have Lx := hid la
  have Ly := hid lb
  have Vp := hid vp
  have Vq := hid vq
  have hn := hid hn0
  clear ha hb la lb vp vq
  go_enter Try.func3, Try.ntmps3
  go_wp2_with (first
    | ((with_reducible refine wpl_lit0 (w0 := w) (Ext.refl _) rfl _ rfl 23 .u32 4 Try.underlying22 info_u32 ?_); intro ga1 wa1 hga1 oa1 hxa1 hya1; have OA1 := hid oa1; have XA1 := hid hxa1; clear oa1 hxa1 hya1 hga1)
    | (at_builtin; refine wpl_append (w0 := w) rfl (.tmp 21) (.tmp 22) _ rfl 23 .u32 4 Try.underlying22 info_u32 rfl rfl OA1.out (Ha.out.ext XA1.out) XA1.out (by omega) (by simp only [maxLen]; omega) ?_; intro A1 n1 c1 w1 o1 hr1 hg1 hn1; have O1 : Hid (Own .u32 23 w1 w.heap.size A1 n1 c1 xs) := hid o1; have X1 := hid ((Ext.refl _).trans hr1); have hy1 := hid hr1; clear o1 hg1 OA1 XA1 hr1)
    | ((with_reducible refine wpl_lit0 (w0 := w1) (Ext.refl _) rfl _ rfl 23 .u32 4 Try.underlying22 info_u32 ?_); intro ga2 wa2 hga2 oa2 hxa2 hya2; have OA2 := hid oa2; have XA2 := hid hxa2; clear oa2 hxa2 hya2 hga2)
    | (at_builtin; refine wpl_append (w0 := w1) rfl (.tmp 24) (.tmp 25) _ rfl 23 .u32 4 Try.underlying22 info_u32 rfl rfl OA2.out ((Hb.out.ext hy1.out).ext XA2.out) XA2.out (by omega) (by simp only [maxLen]; omega) ?_; intro A2 n2 c2 w2 o2 hr2 hg2 hn2; have O2 : Hid (Own .u32 23 w2 w1.heap.size A2 n2 c2 ys) := hid o2; have X2 := hid (X1.out.trans hr2); have hy2 := hid hr2; clear o2 hg2 OA2 XA2 hr2)
    | (go_at_call 13; (with_reducible refine (ref2_v (Na.out.ext (hy1.out.trans hy2.out)) (Nb.out.ext (hy1.out.trans hy2.out)) (by omega)).mono ?_); rintro E3 w3 ⟨A3, n3, c3, rfl, o3, hr3⟩; have O3 := hid o3; clear o3; have X3 := hid (X2.out.trans hr3); have hy3 := hid hr3; clear hr3)
    | (go_at_call 15; (with_reducible refine (trows_v ((Nv.mk' (K := 60) O1.out.sl Lx.out (by have := hn1.out; omega) Vp.out).ext (hy2.out.trans hy3.out)) ((Nv.mk' (K := 60) O2.out.sl Ly.out (by have := hn2.out; omega) Vq.out).ext hy3.out) (by omega)).mono ?_); rintro E4 w4 ⟨A4, n4, c4, rfl, o4, hr4⟩; have O4 := hid o4; clear o4; have X4 := hid (X3.out.trans hr4); have hy4 := hid hr4; clear hr4)
    | (go_at_call 14; (with_reducible refine (same_c O4.out (O3.out.ext hy4.out) (by omega) rfl).mono ?_); rintro E5 w5 ⟨rfl, hr5⟩; have X5 := hid (X4.out.trans hr5); have hy5 := hid hr5; clear hr5)
    | (go_at_call 16; (with_reducible refine (split_v ((Nv.mk' (K := 60) O1.out.sl Lx.out (by have := hn1.out; omega) Vp.out).ext (((hy2.out.trans hy3.out).trans hy4.out).trans hy5.out)) ((Nv.mk' (K := 60) O2.out.sl Ly.out (by have := hn2.out; omega) Vq.out).ext ((hy3.out.trans hy4.out).trans hy5.out)) (by omega)).mono ?_); rintro E6 w6 ⟨A6, n6, c6, rfl, o6, hr6⟩; have O6 := hid o6; clear o6; have X6 := hid (X5.out.trans hr6); have hy6 := hid hr6; clear hr6)
    | (go_at_call 14; (with_reducible refine (same_c O6.out (O3.out.ext ((hy4.out.trans hy5.out).trans hy6.out)) (by omega) rfl).mono ?_); rintro E7 w7 ⟨rfl, hr7⟩; have X7 := hid (X6.out.trans hr7); have hy7 := hid hr7; clear hr7)
    | (go_at_call 17; (with_reducible refine (mul_v ((Nv.mk' (K := 60) O1.out.sl Lx.out (by have := hn1.out; omega) Vp.out).ext (((((hy2.out.trans hy3.out).trans hy4.out).trans hy5.out).trans hy6.out).trans hy7.out)) ((Nv.mk' (K := 60) O2.out.sl Ly.out (by have := hn2.out; omega) Vq.out).ext ((((hy3.out.trans hy4.out).trans hy5.out).trans hy6.out).trans hy7.out)) (by omega)).mono ?_); rintro E8 w8 ⟨A8, n8, c8, rfl, o8, hr8⟩; have O8 := hid o8; clear o8; have X8 := hid (X7.out.trans hr8); have hy8 := hid hr8; clear hr8)
    | (go_at_call 14; (with_reducible refine (same_c O8.out (O3.out.ext ((((hy4.out.trans hy5.out).trans hy6.out).trans hy7.out).trans hy8.out)) (by omega) rfl).mono ?_); rintro E9 w9 ⟨rfl, hr9⟩; have X9 := hid (X8.out.trans hr9); have hy9 := hid hr9; clear hr9)
    | (go_at_call 18; (with_reducible refine (limb_v (v := n) rfl hn.out ((Nv.mk' (K := 60) O1.out.sl Lx.out (by have := hn1.out; omega) Vp.out).ext (((((((hy2.out.trans hy3.out).trans hy4.out).trans hy5.out).trans hy6.out).trans hy7.out).trans hy8.out).trans hy9.out)) (by omega)).mono ?_); rintro E10 w10 ⟨A10, n10, c10, rfl, o10, hr10⟩; have O10 := hid o10; clear o10; have X10 := hid (X9.out.trans hr10); have hy10 := hid hr10; clear hr10)
    | ((with_reducible refine wpl_lit1 (w0 := w) X10.out rfl _ _ rfl 23 .u32 4 Try.underlying22 info_u32 _ n rfl rfl ?_); intro g11 w11 hg11 o11 hx11 hr11; have O11 := hid o11; have X11 := hid hx11; have hy11 := hid hr11; clear o11 hx11 hr11 hg11)
    | (go_at_call 13; (with_reducible refine (ref2_v (Na.out.ext ((((((((((hy1.out.trans hy2.out).trans hy3.out).trans hy4.out).trans hy5.out).trans hy6.out).trans hy7.out).trans hy8.out).trans hy9.out).trans hy10.out).trans hy11.out)) (lit_nv1 O11.out hn.out) (by omega)).mono ?_); rintro E12 w12 ⟨A12, n12, c12, rfl, o12, hr12⟩; have O12 := hid o12; clear o12; have X12 := hid (X11.out.trans hr12); have hy12 := hid hr12; clear hr12)
    | (go_at_call 14; (with_reducible refine (same_c (O10.out.ext (hy11.out.trans hy12.out)) O12.out (by omega) rfl).mono ?_); rintro E13 w13 ⟨rfl, hr13⟩; have X13 := hid (X12.out.trans hr13); have hy13 := hid hr13; clear hr13)
    | (go_at_call 17; (with_reducible refine (mul_v ((Nv.mk' (K := 60) O1.out.sl Lx.out (by have := hn1.out; omega) Vp.out).ext (((((((((((hy2.out.trans hy3.out).trans hy4.out).trans hy5.out).trans hy6.out).trans hy7.out).trans hy8.out).trans hy9.out).trans hy10.out).trans hy11.out).trans hy12.out).trans hy13.out)) ((Nv.mk' (K := 60) O2.out.sl Ly.out (by have := hn2.out; omega) Vq.out).ext ((((((((((hy3.out.trans hy4.out).trans hy5.out).trans hy6.out).trans hy7.out).trans hy8.out).trans hy9.out).trans hy10.out).trans hy11.out).trans hy12.out).trans hy13.out)) (by omega)).mono ?_); rintro E14 w14 ⟨A14, n14, c14, rfl, o14, hr14⟩; have O14 := hid o14; clear o14; have X14 := hid (X13.out.trans hr14); have hy14 := hid hr14; clear hr14))
  have hk1 : n14 ≤ 1000 := by have := O14.out.2; omega
  have hkx : Hid (n1 ≤ 1099511627776) := by have := hn1.out; show _ ≤ _; omega
  have hky : Hid (n2 ≤ 1099511627776) := by have := hn2.out; show _ ≤ _; omega
  have KX := hid (O1.out.sl.ext ((((((((((((hy2.out.trans hy3.out).trans hy4.out).trans hy5.out).trans hy6.out).trans hy7.out).trans hy8.out).trans hy9.out).trans hy10.out).trans hy11.out).trans hy12.out).trans hy13.out)))
  have KY := hid (O2.out.sl.ext (((((((((((hy3.out.trans hy4.out).trans hy5.out).trans hy6.out).trans hy7.out).trans hy8.out).trans hy9.out).trans hy10.out).trans hy11.out).trans hy12.out).trans hy13.out)))
  have KA := hid (Ha.out.ext X13.out)
  have KB := hid (Hb.out.ext X13.out)
  have XW := hid X13.out
  have S5 := hid O14.out.1
  have S7 := hid hy14.out
  clear O14 hy1 X1 hy2 X2 hy3 X3 hy4 X4 hy5 X5 hy6 X6 hy7 X7 hy8 X8 hy9 X9 hy10 X10 hy11 X11 hy12 X12 hy13 X13 hy14 X14
  go_loopw [68] (fun si wr => ∃ (i : Nat) (zs : List Nat), i ≤ n14 ∧ si = .int .i64 i ∧ Own .u32 23 wr w13.heap.size A14 n14 c14 zs ∧ Ext w13 wr) (fun si _ => n14 - (intOf si).toNat)
  case atStart => exact ⟨0, _, Nat.zero_le _, rfl, S5.out, S7.out⟩
  case round =>
    clear S5 S7
    obtain ⟨i, vs, hi, rfl, q1, q3⟩ := hrel
    have Q1 := hid q1
    have Q3 := hid q3
    clear q1 q3
    by_cases hlt : i < n14
    · rcases Q1.out.form with ⟨_, h0, _⟩ | ⟨g, rfl, hg1, hg2⟩
      · omega
      · have g0 := Q1.out.cell hlt
        have gf := Q1.out.frozen i
        generalize vs[i]?.getD 0 = x at g0
        have hw : ((x : Int) + 1) % 4294967296 = (((x + 1) % 4294967296 : Nat) : Int) := by omega
        have HW := hid hw
        clear hw
        go_wp2_with (go_quiet (fail))
        rw [HW.out]
        exact ⟨⟨i + 1, _, by omega, by go_num, Q1.out.set i _, Q3.out.setCell hg1 _⟩, by simp [intOf]; omega⟩
    · obtain rfl : i = n14 := by omega
      go_wp2_with (first
        | (go_at_call 14; (with_reducible refine (same_yes (KX.out.ext Q3.out) (KA.out.ext Q3.out) rfl hkx.out).mono ?_); rintro E1 z1 ⟨rfl, t1⟩; have T1 := hid (Q3.out.trans t1); clear t1)
        | (go_at_call 14; (with_reducible refine (same_yes (KY.out.ext T1.out) (KB.out.ext T1.out) rfl hky.out).mono ?_); rintro E2 z2 ⟨rfl, t2⟩; have T2 := hid (T1.out.trans t2); clear t2)
        | (go_at_call 12; refine known_any2.mono ?_; rintro E3 z3 ⟨rfl, t3⟩; have T3 := hid (T2.out.trans t3); clear t3))
      go_ret
      exact ⟨rfl, XW.out.trans T3.out⟩

set_option maxHeartbeats 6400000 in
set_option maxRecDepth 100000 in
theorem timesProduct_any {w : World} {Aa Ab : Option Addr} {na ca nb cb : Nat} {xa xb : List Nat} (ha : Sl .u32 w Aa na ca xa) (la : Lim 4294967296 xa) (hb : Sl .u32 w Ab nb cb xb) (lb : Lim 4294967296 xb) {n : Int} (m0 : 0 ≤ n) (m1 : n ≤ 4294967295) :
    Calls Try.prog 3 #[.slice Aa na ca, .slice Ab nb cb, .int .u32 n] w (RetE (.bool true) w) := by
  obtain ⟨n, rfl⟩ := Int.eq_ofNat_of_zero_le m0
  by_cases ba : na ≤ 60
  · by_cases bb : nb ≤ 60
    · exact timesProduct_small ha hb la lb ba bb (by omega) rfl rfl
    · have bb' : (60 : Int) < nb := by omega
      clear ha hb la lb
      go_enter Try.func3, Try.ntmps3
      go_wp2_with (go_at_call 12; refine known_any2.mono ?_; rintro E1 w1 ⟨rfl, hx1⟩)
      go_ret
      exact ⟨rfl, hx1⟩
  · have ba' : (60 : Int) < na := by omega
    clear ha hb la lb
    go_enter Try.func3, Try.ntmps3
    go_wp2_with (go_at_call 12; refine known_any2.mono ?_; rintro E1 w1 ⟨rfl, hx1⟩)
    go_ret
    exact ⟨rfl, hx1⟩

end Go.Proofs.Ytacihclonpbngaa
