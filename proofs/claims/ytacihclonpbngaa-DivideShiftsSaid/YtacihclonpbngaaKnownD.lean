
/-
  The contracts of the document's quotient and of 'known' of layer 3. Printed by wip/gen/law3.py.
-/
import Derived.Test.YtacihclonpbngaaKnownT
import Derived.Test.YtacihclonpbngaaDivMain
import Derived.Test.YtacihclonpbngaaLit3
namespace Go.Proofs.Ytacihclonpbngaa
open Go.RowKit
open Go.Lib (hid)

def RetCC (K K' q r : Nat) (w : World) : Ending → World → Prop := fun E w' => ∃ A n c B n' c', E = .returned (.tuple #[.slice A n c, .slice B n' c']) ∧ Cn K w' w.heap.size A n c q ∧ Cn K' w' w.heap.size B n' c' r ∧ Ext w w'
theorem rdm_v {K K' : Nat} {w : World} {A B : Option Addr} {n c n' c' p q : Nat} (h : Nv K w A n c p) (h' : Nv K' w B n' c' q) (hK : 10 * K + 10 * K' ≤ 1048576) (hq : 0 < q) :
    Calls Try.prog 28 #[.slice A n c, .slice B n' c'] w (RetCC (10 * K) (10 * K') (p / q) (p % q) w) := by
  have H := hid h
  have H' := hid h'
  clear h h'
  go_enter Try.func28, Try.ntmps28
  go_wp2_with fail
  refine (of_v H.out (by omega)).mono ?_
  rintro E w1 ⟨A1, n1, c1, rfl, o1, x1⟩
  go_wp2_with fail
  refine (of_v (H'.out.ext x1) (by omega)).mono ?_
  rintro E w2 ⟨A2, n2, c2, rfl, o2, x2⟩
  go_wp2_with fail
  refine (rdivmod_v (o1.ext x2) o2 (by omega) hq).mono ?_
  rintro E w3 ⟨A3, n3, c3, B3, m3, d3, rfl, o3, p3, ln3, lm3, x3⟩
  have O3 := hid (Dg.mk o3 ln3)
  have P3 := hid (Dg.mk p3 lm3)
  clear o3 p3 ln3 lm3
  go_wp2_with fail
  refine (limbs_v O3.out (by omega)).mono ?_
  rintro E w4 ⟨A4, n4, c4, rfl, o4, x4⟩
  go_wp2_with fail
  refine (limbs_v (P3.out.ext x4) (by omega)).mono ?_
  rintro E w5 ⟨A5, n5, c5, rfl, o5, x5⟩
  go_wp2_with fail
  go_ret2
  have X := (x1.trans x2).trans x3
  exact ⟨_, _, _, _, _, _, rfl, ⟨(o4.ext x5).1.mono X.size, o4.2⟩, ⟨o5.1.mono (X.trans x4).size, o5.2⟩, (X.trans x4).trans x5⟩
theorem wrap_mod {p d : Nat} (h0 : 0 < d) (hd : d < 4294967296) : IntKind.u64.wrap ((p : Int) % (d : Int)) = ((p % d : Nat) : Int) := by
  have h1 := Nat.mod_lt p h0
  rw [IntKind.wrap_u64, ← Int.natCast_emod]
  generalize p % d = r at *
  omega
theorem rzero_yes {K : Nat} {w : World} {A : Option Addr} {n c : Nat} (h : Nv K w A n c 0) (hK : K ≤ 1048576) : Calls Try.prog 27 #[.slice A n c] w (RetE (.bool true) w) := by
  have H := hid h
  clear h
  go_enter Try.func27, Try.ntmps27
  go_wp2_with fail
  refine (of_v H.out (by omega)).mono ?_
  rintro E w1 ⟨A1, n1, c1, rfl, o1, x1⟩
  have h0 : n1 = 0 := by rw [← o1.1.len]; rfl
  subst h0
  go_wp2_with fail
  go_ret
  exact ⟨rfl, x1⟩
theorem rzero_no {K p : Nat} {w : World} {A : Option Addr} {n c : Nat} (h : Nv K w A n c p) (hK : K ≤ 1048576) (hp : p ≠ 0) : Calls Try.prog 27 #[.slice A n c] w (RetE (.bool false) w) := by
  have H := hid h
  clear h
  go_enter Try.func27, Try.ntmps27
  go_wp2_with fail
  refine (of_v H.out (by omega)).mono ?_
  rintro E w1 ⟨A1, n1, c1, rfl, o1, x1⟩
  have h1 : n1 ≠ 0 := fun e => hp ((nd_eq_nil (b := 10) (by omega)).1 (List.eq_nil_of_length_eq_zero (o1.1.len.trans e)))
  have h0 : ((n1 : Int) == 0) = false := beq_eq_false_iff_ne.2 (by omega)
  go_wp2_with fail
  go_ret
  exact ⟨rfl, x1⟩

set_option maxHeartbeats 6400000 in
set_option maxRecDepth 100000 in
theorem known_any3 {w : World} : Calls Try.prog 24 #[] w (RetE (.bool true) w) := by
  go_enter Try.func24, Try.ntmps24
  go_wp2_with (first
    | ((with_reducible refine wpl_lit3 (w0 := w) (Ext.refl _) rfl _ _ _ _ rfl 23 .u32 4 Try.underlying22 info_u32 _ _ _ 0 0 1 rfl rfl rfl rfl rfl rfl ?_); intro g1 w1 hg1 o1 hx1 hr1; have O1 := hid o1; have X1 := hid hx1; have hy1 := hid hr1; clear o1 hx1 hr1 hg1)
    | ((with_reducible refine wpl_lit1 (w0 := w) X1.out rfl _ _ rfl 23 .u32 4 Try.underlying22 info_u32 _ 4294967295 rfl rfl ?_); intro g2 w2 hg2 o2 hx2 hr2; have O2 := hid o2; have X2 := hid hx2; have hy2 := hid hr2; clear o2 hx2 hr2 hg2)
    | (go_at_call 25; (with_reducible refine (divmod_v ((lit_nv3 O1.out (by omega) (by omega) (by omega) rfl).ext hy2.out) (lit_nv1 O2.out (by omega)) (by omega) (by omega)).mono ?_); rintro E3 w3 ⟨A3, n3, c3, B3, m3, d3, rfl, o3, p3, hr3⟩; have O3 := hid o3; have P3 := hid p3; clear o3 p3; have X3 := hid (X2.out.trans hr3); have hy3 := hid hr3; clear hr3)
    | ((with_reducible refine wpl_lit2 (w0 := w) X3.out rfl _ _ _ rfl 23 .u32 4 Try.underlying22 info_u32 _ _ 0 1 rfl rfl rfl rfl ?_); intro g4 w4 hg4 o4 hx4 hr4; have O4 := hid o4; have X4 := hid hx4; have hy4 := hid hr4; clear o4 hx4 hr4 hg4)
    | (go_at_call 29; (with_reducible refine (dlimb_v (d := 10) (D := 10) (by omega) (lit_nv2 O4.out (by omega) (by omega) rfl) (by omega) (by omega) (by omega)).mono ?_); rintro E5 w5 ⟨A5, n5, c5, rfl, o5, hr5⟩; have O5 := hid o5; clear o5; have X5 := hid (X4.out.trans hr5); have hy5 := hid hr5; clear hr5)
    | ((with_reducible refine wpl_lit1 (w0 := w) X5.out rfl _ _ rfl 23 .u32 4 Try.underlying22 info_u32 _ 6 rfl rfl ?_); intro g6 w6 hg6 o6 hx6 hr6; have O6 := hid o6; have X6 := hid hx6; have hy6 := hid hr6; clear o6 hx6 hr6 hg6)
    | ((with_reducible refine wpl_lit1 (w0 := w) X6.out rfl _ _ rfl 23 .u32 4 Try.underlying22 info_u32 _ 4 rfl rfl ?_); intro g7 w7 hg7 o7 hx7 hr7; have O7 := hid o7; have X7 := hid hx7; have hy7 := hid hr7; clear o7 hx7 hr7 hg7)
    | (go_at_call 26; (with_reducible refine (exact_no ((lit_nv1 O6.out (by omega)).ext hy7.out) (lit_nv1 O7.out (by omega)) (by omega) (by omega) (by omega)).mono ?_); rintro E8 w8 ⟨rfl, hr8⟩; have X8 := hid (X7.out.trans hr8); have hy8 := hid hr8; clear hr8)
    | ((with_reducible refine wpl_lit2 (w0 := w) X8.out rfl _ _ _ rfl 23 .u32 4 Try.underlying22 info_u32 _ _ 1 1 rfl rfl rfl rfl ?_); intro g9 w9 hg9 o9 hx9 hr9; have O9 := hid o9; have X9 := hid hx9; have hy9 := hid hr9; clear o9 hx9 hr9 hg9)
    | (go_at_call 14; (with_reducible refine (same_c (O3.out.ext (((((hy4.out.trans hy5.out).trans hy6.out).trans hy7.out).trans hy8.out).trans hy9.out)) (lit_cn2 O9.out (by omega) (by omega) (by omega) rfl) (by omega) (by omega)).mono ?_); rintro E10 w10 ⟨rfl, hr10⟩; have X10 := hid (X9.out.trans hr10); have hy10 := hid hr10; clear hr10)
    | ((with_reducible refine wpl_lit1 (w0 := w) X10.out rfl _ _ rfl 23 .u32 4 Try.underlying22 info_u32 _ 1 rfl rfl ?_); intro g11 w11 hg11 o11 hx11 hr11; have O11 := hid o11; have X11 := hid hx11; have hy11 := hid hr11; clear o11 hx11 hr11 hg11)
    | (go_at_call 14; (with_reducible refine (same_c (P3.out.ext (((((((hy4.out.trans hy5.out).trans hy6.out).trans hy7.out).trans hy8.out).trans hy9.out).trans hy10.out).trans hy11.out)) (lit_cn1 O11.out (by omega) (by omega)) (by omega) (by omega)).mono ?_); rintro E12 w12 ⟨rfl, hr12⟩; have X12 := hid (X11.out.trans hr12); have hy12 := hid hr12; clear hr12)
    | ((with_reducible refine wpl_lit1 (w0 := w) X12.out rfl _ _ rfl 23 .u32 4 Try.underlying22 info_u32 _ 429496729 rfl rfl ?_); intro g13 w13 hg13 o13 hx13 hr13; have O13 := hid o13; have X13 := hid hx13; have hy13 := hid hr13; clear o13 hx13 hr13 hg13)
    | (go_at_call 14; (with_reducible refine (same_c (O5.out.ext (((((((hy6.out.trans hy7.out).trans hy8.out).trans hy9.out).trans hy10.out).trans hy11.out).trans hy12.out).trans hy13.out)) (lit_cn1 O13.out (by omega) (by omega)) (by omega) (by omega)).mono ?_); rintro E14 w14 ⟨rfl, hr14⟩; have X14 := hid (X13.out.trans hr14); have hy14 := hid hr14; clear hr14))
  go_ret
  exact ⟨rfl, X14.out⟩

end Go.Proofs.Ytacihclonpbngaa
