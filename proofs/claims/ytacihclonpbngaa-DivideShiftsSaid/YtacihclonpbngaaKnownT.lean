
/-
  The contracts of the document's product and of 'known' of layer 2. Printed by wip/gen/law2.py.
-/
import Derived.Test.YtacihclonpbngaaKara
import Derived.Test.YtacihclonpbngaaNumD
namespace Go.Proofs.Ytacihclonpbngaa
open Go.RowKit
open Go.Lib (hid)

theorem ref2_v {K K' : Nat} {w : World} {A B : Option Addr} {n c n' c' p q : Nat} (h : Nv K w A n c p) (h' : Nv K' w B n' c' q) (hK : 10 * K + 10 * K' ≤ 1048576) :
    Calls Try.prog 13 #[.slice A n c, .slice B n' c'] w (RetC (10 * K + 10 * K') (p * q) w) := by
  have H := hid h
  have H' := hid h'
  clear h h'
  go_enter Try.func13, Try.ntmps13
  go_wp2_with fail
  refine (of_v H.out (by omega)).mono ?_
  rintro E w1 ⟨A1, n1, c1, rfl, o1, x1⟩
  go_wp2_with fail
  refine (of_v (H'.out.ext x1) (by omega)).mono ?_
  rintro E w2 ⟨A2, n2, c2, rfl, o2, x2⟩
  go_wp2_with fail
  refine (rmul_v (o1.ext x2) o2 (by omega)).mono ?_
  rintro E w3 ⟨A3, n3, c3, rfl, o3, x3⟩
  go_wp2_with fail
  refine (limbs_v o3 (by omega)).mono ?_
  rintro E w4 ⟨A4, n4, c4, rfl, o4, x4⟩
  go_wp2_with fail
  go_ret
  have X := (x1.trans x2).trans x3
  exact ⟨_, _, _, rfl, ⟨o4.1.mono X.size, o4.2⟩, X.trans x4⟩

set_option maxHeartbeats 6400000 in
set_option maxRecDepth 100000 in
theorem known_any2 {w : World} : Calls Try.prog 12 #[] w (RetE (.bool true) w) := by
  go_enter Try.func12, Try.ntmps12
  go_wp2_with (first
    | ((with_reducible refine wpl_lit1 (w0 := w) (Ext.refl _) rfl _ _ rfl 23 .u32 4 Try.underlying22 info_u32 _ 4294967295 rfl rfl ?_); intro g1 w1 hg1 o1 hx1 hr1; have O1 := hid o1; have X1 := hid hx1; have hy1 := hid hr1; clear o1 hx1 hr1 hg1)
    | ((with_reducible refine wpl_lit1 (w0 := w) X1.out rfl _ _ rfl 23 .u32 4 Try.underlying22 info_u32 _ 4294967295 rfl rfl ?_); intro g2 w2 hg2 o2 hx2 hr2; have O2 := hid o2; have X2 := hid hx2; have hy2 := hid hr2; clear o2 hx2 hr2 hg2)
    | (go_at_call 15; (with_reducible refine (trows_v ((lit_nv1 O1.out (by omega)).ext hy2.out) (lit_nv1 O2.out (by omega)) (by omega)).mono ?_); rintro E3 w3 ⟨A3, n3, c3, rfl, o3, hr3⟩; have O3 := hid o3; clear o3; have X3 := hid (X2.out.trans hr3); have hy3 := hid hr3; clear hr3)
    | ((with_reducible refine wpl_lit2 (w0 := w) X3.out rfl _ _ _ rfl 23 .u32 4 Try.underlying22 info_u32 _ _ 1 4294967294 rfl rfl rfl rfl ?_); intro g4 w4 hg4 o4 hx4 hr4; have O4 := hid o4; have X4 := hid hx4; have hy4 := hid hr4; clear o4 hx4 hr4 hg4)
    | (go_at_call 14; (with_reducible refine (same_c (O3.out.ext hy4.out) (lit_cn2 O4.out (by omega) (by omega) (by omega) rfl) (by omega) (by omega)).mono ?_); rintro E5 w5 ⟨rfl, hr5⟩; have X5 := hid (X4.out.trans hr5); have hy5 := hid hr5; clear hr5)
    | ((with_reducible refine wpl_lit2 (w0 := w) X5.out rfl _ _ _ rfl 23 .u32 4 Try.underlying22 info_u32 _ _ 0 1 rfl rfl rfl rfl ?_); intro g6 w6 hg6 o6 hx6 hr6; have O6 := hid o6; have X6 := hid hx6; have hy6 := hid hr6; clear o6 hx6 hr6 hg6)
    | (go_at_call 18; (with_reducible refine (limb_v (v := 7) (V := 7) (by omega) (by omega) (lit_nv2 O6.out (by omega) (by omega) rfl) (by omega)).mono ?_); rintro E7 w7 ⟨A7, n7, c7, rfl, o7, hr7⟩; have O7 := hid o7; clear o7; have X7 := hid (X6.out.trans hr7); have hy7 := hid hr7; clear hr7)
    | ((with_reducible refine wpl_lit2 (w0 := w) X7.out rfl _ _ _ rfl 23 .u32 4 Try.underlying22 info_u32 _ _ 0 7 rfl rfl rfl rfl ?_); intro g8 w8 hg8 o8 hx8 hr8; have O8 := hid o8; have X8 := hid hx8; have hy8 := hid hr8; clear o8 hx8 hr8 hg8)
    | (go_at_call 14; (with_reducible refine (same_c (O7.out.ext hy8.out) (lit_cn2 O8.out (by omega) (by omega) (by omega) rfl) (by omega) (by omega)).mono ?_); rintro E9 w9 ⟨rfl, hr9⟩; have X9 := hid (X8.out.trans hr9); have hy9 := hid hr9; clear hr9))
  go_ret
  exact ⟨rfl, X9.out⟩

theorem Nv.mk' {K : Nat} {w : World} {A : Option Addr} {n c m : Nat} {xs : List Nat} (h : Sl .u32 w A n c xs) (hl : Lim 4294967296 xs) (hK : n ≤ K) (hv : nv 4294967296 xs = m) : Nv K w A n c m := ⟨xs, h, hl, hv, hK⟩
theorem Nv.none {w : World} : Nv 0 w none 0 0 0 := ⟨[], ⟨rfl, Nat.le_refl _, by simp [maxLen], fun h => absurd h (by omega)⟩, fun x hx => by simp at hx, rfl, Nat.le_refl _⟩
theorem Cn.len0 {K : Nat} {w : World} {lo : Nat} {A : Option Addr} {n c m : Nat} (h : Cn K w lo A n c m) (h0 : m = 0) : n = 0 := by
  have := h.len; subst h0; rw [this]; rfl
theorem Cn.lenp {K : Nat} {w : World} {lo : Nat} {A : Option Addr} {n c m : Nat} (h : Cn K w lo A n c m) (h0 : m ≠ 0) : 0 < n := by
  have h1 := h.len
  have : n ≠ 0 := fun e => h0 ((nd_eq_nil (b := 4294967296) (by omega)).1 (List.eq_nil_of_length_eq_zero (h1.symm.trans e)))
  omega
theorem Cn.top {K : Nat} {w : World} {lo : Nat} {A : Option Addr} {n c m : Nat} (h : Cn K w lo A n c m) (h0 : m ≠ 0) : ∃ j g x : Nat, n = j + 1 ∧ A = some ⟨g, 0, none⟩ ∧ x ≠ 0 ∧ ∀ w', Ext w w' → w'.cell? ⟨g, j, none⟩ = some (.int .u32 (x : Int)) := by
  have hp := h.lenp h0
  obtain ⟨j, rfl⟩ : ∃ j, n = j + 1 := ⟨n - 1, by omega⟩
  rcases h.1.form with ⟨_, h1, _⟩ | ⟨g, rfl, _, _⟩
  · omega
  · refine ⟨j, g, _, rfl, rfl, ?_, fun w' hx => (h.1.ext hx).cell (i := j) (by omega)⟩
    exact nd_top (by omega) (by rw [← h.len])

end Go.Proofs.Ytacihclonpbngaa
