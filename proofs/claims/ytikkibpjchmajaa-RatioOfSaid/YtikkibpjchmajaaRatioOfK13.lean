/-
  The contracts of layer 4's functions: whole.made, Neg, Sign ..
  The contracts of layer 4's Add, Sub, Mul, Cmp.
  The contracts of layer 4's Of, Small, May and of the document's Same.
  The contracts of layer 4's DivMod, Exact.
  Nine digits of a number (the function that digits.Text makes); bytes turned round (slices.Reverse).
-/
import Derived.Test.YtikkibpjchmajaaRatioOfK8
import Derived.Test.YtikkibpjchmajaaRatioOfK10
import Derived.Test.YtikkibpjchmajaaRatioOfK12
import Derived.Deep.RegionHeld3
import Derived.Test.YtikkibpjchmajaaRatioOfK1
import Derived.Test.YtikkibpjchmajaaRatioOfK2
namespace Go.Proofs.Ytikkibpjchmajaa
open Go.RowKit
open Go.Lib (hid)

theorem made_any {w : World} {s : Bool} {A : Option Addr} {n c m K : Nat} (h : Nv K w A n c m) (hK : K ≤ 1099511627776) :
    Calls Try.prog 60 #[.bool s, .slice A n c] w (RetI K (zv s m) w) := by
  have H := hid h
  clear h
  go_enter Try.func60, Try.ntmps60
  go_wp2_with fail
  have HB := hid (Bx.new w false none 0 0)
  refine (trim_v (H.out.ext ((Ext.refl w).alloc _)) hK).mono ?_
  rintro E w1 ⟨A1, n1, c1, rfl, o1, x1⟩
  have hB := HB.out.ext x1
  have hc0 := hB.c0
  have hc1 := hB.c1
  have hf0 := hB.fr 0
  have hf1 := hB.fr 1
  have HB1 := hid hB
  have O1 := hid o1
  have X1 := hid (((Ext.refl w).alloc _).trans x1)
  have hn := o1.len
  have hfin : (s && decide (0 < n1)) = decide (zv s m < 0) := by
    rw [zv_lt]
    congr 1
    by_cases h0 : m = 0
    · subst h0; rw [hn]; rfl
    · have h1 := (cn_lenp o1 (by omega)).1
      rw [decide_eq_true h1, decide_eq_true (show 0 < m by omega)]
  have HF := hid hfin
  have HZ := hid (zv_abs s m)
  clear o1 x1 hn hfin hB
  cases s
  · go_wp2_with fail
    refine ret_b rfl HB1.out.put rfl rfl (fin_i ⟨by rw [← HF.out]; rfl, by rw [HZ.out]; exact O1.out⟩ (by rw [size_alloc]; omega) (Nat.le_refl _) X1.out)
  · go_wp2_with fail
    refine ret_b rfl HB1.out.put rfl rfl (fin_i ⟨by rw [← HF.out, Bool.true_and], by rw [HZ.out]; exact O1.out⟩ (by rw [size_alloc]; omega) (Nat.le_refl _) X1.out)

theorem neg_v {w : World} {s : Bool} {A : Option Addr} {n c K : Nat} {z : Int} (h : Iz K w s A n c z) (hK : K ≤ 1099511627776) :
    Calls Try.prog 32 #[.agg #[.bool s, .slice A n c]] w (RetI K (-z) w) := by
  have H := hid h
  clear h
  go_enter Try.func32, Try.ntmps32
  go_wp2_with fail
  have hb := hid (Bx.new (w.alloc (.cells #[.bool s, .slice A n c] 24)) false none 0 0)
  rw [size_alloc] at hb
  have hX := hid (((Ext.refl w).alloc (.cells #[.bool s, .slice A n c] 24)).alloc (.cells #[.bool false, .slice none 0 0] 24))
  refine (made_any (s := !s) (H.out.nv.1.ext hX.out) hK).mono ?_
  rintro E w1 ⟨b1, A1, n1, c1, rfl, o1, x1⟩
  have hB := hb.out.ext x1
  have hc0 := hB.c0
  have hc1 := hB.c1
  have hf0 := hB.fr 0
  have hf1 := hB.fr 1
  have HB1 := hid hB
  have O1 := hid o1
  have X1 := hid (hX.out.trans x1)
  have HZ : Hid (zv (!s) z.natAbs = -z) := by show _ = _; rw [zv_neg, ← H.out.nv.2]
  clear o1 x1 hB
  rw [HZ.out] at O1
  go_wp2_with fail
  refine ret_b rfl HB1.out.put rfl rfl (fin_i O1.out (by rw [size_alloc, size_alloc]; omega) (by omega) X1.out)

theorem sign_v {w : World} {s : Bool} {A : Option Addr} {n c K : Nat} {z : Int} (h : Iz K w s A n c z) (hK : K ≤ 1099511627776) :
    Calls Try.prog 30 #[.agg #[.bool s, .slice A n c]] w (RetE (.int .i64 (sg z)) w) := by
  have hX := hid ((Ext.refl w).alloc (.cells #[.bool s, .slice A n c] 24))
  have bt := hid (bits_v (h.nv.1.ext hX.out) hK)
  have hs := h.sgn
  clear h
  by_cases h0 : z = 0
  · subst h0
    have hb : bl (0 : Int).natAbs = 0 := rfl
    rw [hb] at bt
    clear hs hb
    go_enter Try.func30, Try.ntmps30
    go_wp2_with (go_at_call 57; refine bt.out.mono ?_; rintro E w' ⟨rfl, rfl⟩)
    go_ret
    exact ⟨rfl, hX.out⟩
  · have hs := hs h0
    have hb := (bl_bounds (show z.natAbs ≠ 0 by omega)).1
    generalize bl z.natAbs = L at *
    have hL : ((L : Int) == 0) = false := beq_eq_false_iff_ne.2 (by omega)
    by_cases hz : z < 0
    · rw [sg_neg hz]
      rw [decide_eq_true hz] at hs
      subst hs
      clear h0 hz
      go_enter Try.func30, Try.ntmps30
      go_wp2_with (go_at_call 57; refine bt.out.mono ?_; rintro E w' ⟨rfl, rfl⟩)
      go_ret
      exact ⟨rfl, hX.out⟩
    · rw [sg_pos (by omega)]
      rw [decide_eq_false hz] at hs
      subst hs
      clear h0 hz
      go_enter Try.func30, Try.ntmps30
      go_wp2_with (go_at_call 57; refine bt.out.mono ?_; rintro E w' ⟨rfl, rfl⟩)
      go_ret
      exact ⟨rfl, hX.out⟩
end Go.Proofs.Ytikkibpjchmajaa

namespace Go.Proofs.Ytikkibpjchmajaa
open Go.RowKit
open Go.Lib (hid)

/-- Two structs that were handed over, and the result's, in three blocks behind one another. -/
structure Tri (w wA : World) (s : Bool) (A : Option Addr) (n c : Nat) (t : Bool) (B : Option Addr) (m d : Nat) : Prop where
  x : Ext w wA
  b0 : Bx wA w.heap.size s A n c
  b1 : Bx wA (w.heap.size + 1) t B m d
  b2 : Bx wA (w.heap.size + 1 + 1) false none 0 0
  sz : wA.heap.size = w.heap.size + 3
theorem Tri.mk' (w : World) (s : Bool) (A : Option Addr) (n c : Nat) (t : Bool) (B : Option Addr) (m d : Nat) :
    Tri w (((w.alloc (.cells #[.bool s, .slice A n c] 24)).alloc (.cells #[.bool t, .slice B m d] 24)).alloc (.cells #[.bool false, .slice none 0 0] 24)) s A n c t B m d := by
  have h0 := Bx.new w s A n c
  have h1 := Bx.new (w.alloc (.cells #[.bool s, .slice A n c] 24)) t B m d
  have h2 := Bx.new ((w.alloc (.cells #[.bool s, .slice A n c] 24)).alloc (.cells #[.bool t, .slice B m d] 24)) false none 0 0
  rw [size_alloc] at h1 h2
  rw [size_alloc] at h2
  exact ⟨(((Ext.refl w).alloc _).alloc _).alloc _, (h0.ext ((Ext.refl _).alloc _)).ext ((Ext.refl _).alloc _), h1.ext ((Ext.refl _).alloc _), h2, by rw [size_alloc, size_alloc, size_alloc]⟩
/-- What of them is read. -/
abbrev TriC (w : World) (g : Nat) (s : Bool) (A : Option Addr) (n c : Nat) (t : Bool) (B : Option Addr) (m d : Nat) : Prop :=
  w.cell? ⟨g, 0, none⟩ = some (.bool s) ∧ w.cell? ⟨g, 1, none⟩ = some (.slice A n c) ∧ w.cell? ⟨g + 1, 0, none⟩ = some (.bool t) ∧ w.cell? ⟨g + 1, 1, none⟩ = some (.slice B m d)
/-- The result's cell. -/
def TriR (w : World) (g : Nat) : Prop :=
  w.cell? ⟨g + 1 + 1, 0, none⟩ = some (.bool false) ∧ w.cell? ⟨g + 1 + 1, 1, none⟩ = some (.slice none 0 0) ∧ w.frozen? ⟨g + 1 + 1, 0, none⟩ = false ∧ w.frozen? ⟨g + 1 + 1, 1, none⟩ = false
section
variable {w wA wB : World} {s t : Bool} {A B : Option Addr} {n c m d : Nat}
theorem Tri.cs (h : Tri w wA s A n c t B m d) (hx : Ext wA wB) : TriC wB w.heap.size s A n c t B m d :=
  ⟨(h.b0.ext hx).c0, (h.b0.ext hx).c1, (h.b1.ext hx).c0, (h.b1.ext hx).c1⟩
theorem Tri.cr (h : Tri w wA s A n c t B m d) (hx : Ext wA wB) : TriR wB w.heap.size :=
  ⟨(h.b2.ext hx).c0, (h.b2.ext hx).c1, (h.b2.ext hx).fr 0, (h.b2.ext hx).fr 1⟩
theorem Tri.cp (h : Tri w wA s A n c t B m d) (hx : Ext wA wB) (u v : Value) : TriC ((wB.setCell ⟨w.heap.size + 1 + 1, 0, none⟩ u).setCell ⟨w.heap.size + 1 + 1, 1, none⟩ v) w.heap.size s A n c t B m d :=
  have p0 := (h.b0.ext hx).grown (put_gb wB (w.heap.size + 1 + 1) u v) (by simp; omega)
  have p1 := (h.b1.ext hx).grown (put_gb wB (w.heap.size + 1 + 1) u v) (by simp)
  ⟨p0.c0, p0.c1, p1.c0, p1.c1⟩
theorem Tri.fin {K : Nat} {z : Int} {lo : Nat} {b : Bool} {C : Option Addr} {k l : Nat} (h : Tri w wA s A n c t B m d) (hx : Ext wA wB) (ho : Ci K wB lo b C k l z) (hlo : wA.heap.size ≤ lo) :
    RetI K z w (.returned (.agg #[.bool b, .slice C k l])) ((wB.setCell ⟨w.heap.size + 1 + 1, 0, none⟩ (.bool b)).setCell ⟨w.heap.size + 1 + 1, 1, none⟩ (.slice C k l)) :=
  fin_i ho (by have := h.sz; omega) (by omega) (h.x.trans hx)
theorem Tri.put (h : Tri w wA s A n c t B m d) (hx : Ext wA wB) {b : Bool} {C : Option Addr} {k l : Nat} : Bx ((wB.setCell ⟨w.heap.size + 1 + 1, 0, none⟩ (.bool b)).setCell ⟨w.heap.size + 1 + 1, 1, none⟩ (.slice C k l)) (w.heap.size + 1 + 1) b C k l := (h.b2.ext hx).put
end

set_option maxHeartbeats 1600000 in
theorem wadd_same {w : World} {s : Bool} {A B : Option Addr} {n c m d K K' : Nat} {x y : Int} (h : Iz K w s A n c x) (h' : Iz K' w s B m d y) (hK : K + K' ≤ 1000000000) :
    Calls Try.prog 56 #[.agg #[.bool s, .slice A n c], .agg #[.bool s, .slice B m d]] w (RetI (K + K' + 1) (x + y) w) := by
  have T := hid (Tri.mk' w s A n c s B m d)
  have HZ : Hid (zv s (x.natAbs + y.natAbs) = x + y) := by show _ = _; rw [← zv_same, ← h.nv.2, ← h'.nv.2]
  have H := hid h
  have H' := hid h'
  clear h h'
  go_enter Try.func56, Try.ntmps56
  go_wp2_with fail
  generalize (((w.alloc (.cells #[.bool s, .slice A n c] 24)).alloc (.cells #[.bool s, .slice B m d] 24)).alloc (.cells #[.bool false, .slice none 0 0] 24)) = wA at *
  have t1 := hid (fun W (X : Ext wA W) => add_v (H.out.nv.1.ext (T.out.x.trans X)) (H'.out.nv.1.ext (T.out.x.trans X)) (by omega))
  have hk0 := T.out.cs (Ext.refl wA)
  go_region_held3 (fun w' => w'.cell? ⟨w.heap.size, 0, none⟩ = some (.bool s) ∧ w'.cell? ⟨w.heap.size, 1, none⟩ = some (.slice A n c) ∧ w'.cell? ⟨w.heap.size + 1, 0, none⟩ = some (.bool s) ∧ w'.cell? ⟨w.heap.size + 1, 1, none⟩ = some (.slice B m d)) (first | exact hk0 | exact hk1 | exact hk2 | exact hk3 _ _)
    (first
      | ((go_at_call 71); (with_reducible refine (t1.out _ (Ext.refl _).drew).mono ?_); rintro e w1 ⟨A1, n1, c1, rfl, o1, x1⟩; have hk1 := T.out.cs ((Ext.refl _).drew.trans x1); have O1 := hid o1; have X1 := hid ((Ext.refl _).drew.trans x1); clear o1 x1 t1)
      | ((go_at_call 60); (with_reducible refine (made_any O1.out.nv (by omega)).mono ?_); rintro e w2 ⟨b2, A2, n2, c2, rfl, o2, x2⟩; have hk2 := T.out.cs (X1.out.trans x2); have hk3 := fun u v => T.out.cp (X1.out.trans x2) u v; obtain ⟨hr0, hr1, hr2, hr3⟩ := T.out.cr (X1.out.trans x2); have O2 := hid o2; have X2 := hid (X1.out.trans x2); clear o2 x2))
  clear hk0 hk1 hk2 hk3 hr0 hr1 hr2 hr3
  rw [HZ.out] at O2
  go_wp2_with fail
  refine ret_b rfl (T.out.put X2.out) rfl rfl (T.out.fin X2.out O2.out X1.out.size)

set_option maxHeartbeats 1600000 in
theorem wadd_diff {w : World} {s t : Bool} {A B : Option Addr} {n c m d K K' : Nat} {x y : Int} (hst : s ≠ t) (h : Iz K w s A n c x) (h' : Iz K' w t B m d y) (hK : K + K' ≤ 1000000000) :
    Calls Try.prog 56 #[.agg #[.bool s, .slice A n c], .agg #[.bool t, .slice B m d]] w (RetI (K + K' + 1) (x + y) w) := by
  have T := hid (Tri.mk' w s A n c t B m d)
  have HX := hid h.nv.2
  have HY := hid h'.nv.2
  have H := hid h
  have H' := hid h'
  have hf : (s == t) = false := by cases s <;> cases t <;> simp_all
  have HST := hid hst
  clear h h' hst
  by_cases hle : y.natAbs ≤ x.natAbs
  · have HZ : Hid (zv s (x.natAbs - y.natAbs) = x + y) := by show _ = _; rw [← zv_diff HST.out hle, ← HX.out, ← HY.out]
    go_enter Try.func56, Try.ntmps56
    go_wp2_with fail
    generalize (((w.alloc (.cells #[.bool s, .slice A n c] 24)).alloc (.cells #[.bool t, .slice B m d] 24)).alloc (.cells #[.bool false, .slice none 0 0] 24)) = wA at *
    refine (sub_yes (H.out.nv.1.ext T.out.x) (H'.out.nv.1.ext T.out.x) (by omega) hle).mono ?_
    rintro E w1 ⟨A1, n1, c1, rfl, o1, x1⟩
    have O1 := hid o1
    have X1 := hid x1
    obtain ⟨hq0, hq1, hq2, hq3⟩ := T.out.cs x1
    clear o1 x1
    go_wp2_with fail
    refine (made_any O1.out.nv (by omega)).mono ?_
    rintro E w2 ⟨b2, A2, n2, c2, rfl, o2, x2⟩
    have X2 := hid (X1.out.trans x2)
    have O2 := hid o2
    obtain ⟨hr0, hr1, hr2, hr3⟩ := T.out.cr X2.out
    clear o2 x2 hq0 hq1 hq2 hq3
    rw [HZ.out] at O2
    go_wp2_with fail
    refine ret_b rfl (T.out.put X2.out) rfl rfl (T.out.fin X2.out ⟨O2.out.1, O2.out.2.1, Nat.le_trans O2.out.2.2 (by omega)⟩ X1.out.size)
  · have hlt : x.natAbs < y.natAbs := by omega
    have HZ : Hid (zv t (y.natAbs - x.natAbs) = x + y) := by show _ = _; rw [← zv_diff (fun e => HST.out e.symm) (by omega), ← HX.out, ← HY.out, Int.add_comm]
    go_enter Try.func56, Try.ntmps56
    go_wp2_with fail
    generalize (((w.alloc (.cells #[.bool s, .slice A n c] 24)).alloc (.cells #[.bool t, .slice B m d] 24)).alloc (.cells #[.bool false, .slice none 0 0] 24)) = wA at *
    refine (sub_no (H.out.nv.1.ext T.out.x) (H'.out.nv.1.ext T.out.x) (by omega) hlt).mono ?_
    rintro E w1 ⟨rfl, x1⟩
    have X1 := hid x1
    obtain ⟨hq0, hq1, hq2, hq3⟩ := T.out.cs x1
    clear x1
    go_wp2_with fail
    refine (sub_yes (H'.out.nv.1.ext (T.out.x.trans X1.out)) (H.out.nv.1.ext (T.out.x.trans X1.out)) (by omega) (Nat.le_of_lt hlt)).mono ?_
    rintro E w2 ⟨A2, n2, c2, rfl, o2, x2⟩
    have O2 := hid o2
    have X2 := hid (X1.out.trans x2)
    clear o2 x2 hq0 hq1 hq2 hq3
    obtain ⟨hq0, hq1, hq2, hq3⟩ := T.out.cs X2.out
    go_wp2_with fail
    refine (made_any O2.out.nv (by omega)).mono ?_
    rintro E w3 ⟨b3, A3, n3, c3, rfl, o3, x3⟩
    have X3 := hid (X2.out.trans x3)
    have O3 := hid o3
    obtain ⟨hr0, hr1, hr2, hr3⟩ := T.out.cr X3.out
    clear o3 x3 hq0 hq1 hq2 hq3
    rw [HZ.out] at O3
    go_wp2_with fail
    refine ret_b rfl (T.out.put X3.out) rfl rfl (T.out.fin X3.out ⟨O3.out.1, O3.out.2.1, Nat.le_trans O3.out.2.2 (by omega)⟩ X2.out.size)

theorem wadd_v {w : World} {s t : Bool} {A B : Option Addr} {n c m d K K' : Nat} {x y : Int} (h : Iz K w s A n c x) (h' : Iz K' w t B m d y) (hK : K + K' ≤ 1000000000) :
    Calls Try.prog 56 #[.agg #[.bool s, .slice A n c], .agg #[.bool t, .slice B m d]] w (RetI (K + K' + 1) (x + y) w) := by
  by_cases hst : s = t
  · subst hst; exact wadd_same h h' hK
  · exact wadd_diff hst h h' hK

set_option maxHeartbeats 1600000 in
theorem wsub_v {w : World} {s t : Bool} {A B : Option Addr} {n c m d K K' : Nat} {x y : Int} (h : Iz K w s A n c x) (h' : Iz K' w t B m d y) (hK : K + K' ≤ 1000000000) :
    Calls Try.prog 77 #[.agg #[.bool s, .slice A n c], .agg #[.bool t, .slice B m d]] w (RetI (K + K' + 1) (x - y) w) := by
  have T := hid (Tri.mk' w s A n c t B m d)
  have H := hid h
  have H' := hid h'
  clear h h'
  go_enter Try.func77, Try.ntmps77
  go_wp2_with fail
  generalize (((w.alloc (.cells #[.bool s, .slice A n c] 24)).alloc (.cells #[.bool t, .slice B m d] 24)).alloc (.cells #[.bool false, .slice none 0 0] 24)) = wA at *
  have t1 := hid (fun W (X : Ext wA W) => neg_v (H'.out.ext (T.out.x.trans X)) (by omega))
  have t2 := hid (fun W (X : Ext wA W) => H.out.ext (T.out.x.trans X))
  have hk0 := T.out.cs (Ext.refl wA)
  go_region_held3 (fun w' => w'.cell? ⟨w.heap.size, 0, none⟩ = some (.bool s) ∧ w'.cell? ⟨w.heap.size, 1, none⟩ = some (.slice A n c) ∧ w'.cell? ⟨w.heap.size + 1, 0, none⟩ = some (.bool t) ∧ w'.cell? ⟨w.heap.size + 1, 1, none⟩ = some (.slice B m d)) (first | exact hk0 | exact hk1 | exact hk2 | exact hk3 _ _)
    (first
      | ((go_at_call 32); (with_reducible refine (t1.out _ (Ext.refl _).drew).mono ?_); rintro e w1 ⟨b1, A1, n1, c1, rfl, o1, x1⟩; have hk1 := T.out.cs ((Ext.refl _).drew.trans x1); have O1 := hid o1; have X1 := hid ((Ext.refl _).drew.trans x1); clear o1 x1 t1)
      | ((go_at_call 56); (with_reducible refine (wadd_v (t2.out _ X1.out) O1.out.iz (by omega)).mono ?_); rintro e w2 ⟨b2, A2, n2, c2, rfl, o2, x2⟩; have hk2 := T.out.cs (X1.out.trans x2); have hk3 := fun u v => T.out.cp (X1.out.trans x2) u v; obtain ⟨hr0, hr1, hr2, hr3⟩ := T.out.cr (X1.out.trans x2); have O2 := hid o2; have X2 := hid (X1.out.trans x2); clear o2 x2))
  clear hk0 hk1 hk2 hk3 hr0 hr1 hr2 hr3
  rw [← Int.sub_eq_add_neg] at O2
  go_wp2_with fail
  refine ret_b rfl (T.out.put X2.out) rfl rfl (T.out.fin X2.out O2.out X1.out.size)

set_option maxHeartbeats 1600000 in
theorem wmul_v {w : World} {s t : Bool} {A B : Option Addr} {n c m d K K' : Nat} {x y : Int} (h : Iz K w s A n c x) (h' : Iz K' w t B m d y) (hK : K + K' ≤ 536870000) :
    Calls Try.prog 54 #[.agg #[.bool s, .slice A n c], .agg #[.bool t, .slice B m d]] w (RetI (K + K') (x * y) w) := by
  have T := hid (Tri.mk' w s A n c t B m d)
  have HZ : Hid (zv (!(s == t)) (x.natAbs * y.natAbs) = x * y) := by
    have e := zv_mul s t x.natAbs y.natAbs
    rw [← h.nv.2, ← h'.nv.2] at e
    exact e.symm
  have H := hid h
  have H' := hid h'
  clear h h'
  go_enter Try.func54, Try.ntmps54
  go_wp2_with fail
  generalize (((w.alloc (.cells #[.bool s, .slice A n c] 24)).alloc (.cells #[.bool t, .slice B m d] 24)).alloc (.cells #[.bool false, .slice none 0 0] 24)) = wA at *
  have t1 := hid (fun W (X : Ext wA W) => mul_v (H.out.nv.1.ext (T.out.x.trans X)) (H'.out.nv.1.ext (T.out.x.trans X)) (by omega))
  have hk0 := T.out.cs (Ext.refl wA)
  go_region_held3 (fun w' => w'.cell? ⟨w.heap.size, 0, none⟩ = some (.bool s) ∧ w'.cell? ⟨w.heap.size, 1, none⟩ = some (.slice A n c) ∧ w'.cell? ⟨w.heap.size + 1, 0, none⟩ = some (.bool t) ∧ w'.cell? ⟨w.heap.size + 1, 1, none⟩ = some (.slice B m d)) (first | exact hk0 | exact hk1 | exact hk2 | exact hk3 _ _)
    (first
      | ((go_at_call 78); (with_reducible refine (t1.out _ (Ext.refl _).drew).mono ?_); rintro e w1 ⟨A1, n1, c1, rfl, o1, x1⟩; have hk1 := T.out.cs ((Ext.refl _).drew.trans x1); have O1 := hid o1; have X1 := hid ((Ext.refl _).drew.trans x1); clear o1 x1 t1)
      | ((go_at_call 60); (with_reducible refine (made_any (s := !(s == t)) O1.out.nv (by omega)).mono ?_); rintro e w2 ⟨b2, A2, n2, c2, rfl, o2, x2⟩; have hk2 := T.out.cs (X1.out.trans x2); have hk3 := fun u v => T.out.cp (X1.out.trans x2) u v; obtain ⟨hr0, hr1, hr2, hr3⟩ := T.out.cr (X1.out.trans x2); have O2 := hid o2; have X2 := hid (X1.out.trans x2); clear o2 x2))
  clear hk0 hk1 hk2 hk3 hr0 hr1 hr2 hr3
  rw [HZ.out] at O2
  go_wp2_with fail
  refine ret_b rfl (T.out.put X2.out) rfl rfl (T.out.fin X2.out O2.out X1.out.size)

theorem wcmp_v {w : World} {s t : Bool} {A B : Option Addr} {n c m d K K' : Nat} {x y : Int} (h : Iz K w s A n c x) (h' : Iz K' w t B m d y) (hK : K + K' ≤ 1000000000) :
    Calls Try.prog 51 #[.agg #[.bool s, .slice A n c], .agg #[.bool t, .slice B m d]] w (RetE (.int .i64 (sg (x - y))) w) := by
  have X := hid (((Ext.refl w).alloc (.cells #[.bool s, .slice A n c] 24)).alloc (.cells #[.bool t, .slice B m d] 24))
  have H := hid h
  have H' := hid h'
  clear h h'
  go_enter Try.func51, Try.ntmps51
  go_wp2_with fail
  refine (wsub_v (H.out.ext X.out) (H'.out.ext X.out) hK).mono ?_
  rintro E w1 ⟨b1, A1, n1, c1, rfl, o1, x1⟩
  go_wp2_with fail
  refine (sign_v o1.iz (by omega)).mono ?_
  rintro E w2 ⟨rfl, x2⟩
  go_wp2_with fail
  go_ret
  exact ⟨rfl, (X.out.trans x1).trans x2⟩
end Go.Proofs.Ytikkibpjchmajaa

namespace Go.Proofs.Ytikkibpjchmajaa
open Go.RowKit
open Go.Lib (hid)

theorem zsame_of {w : World} {s t : Bool} {A B : Option Addr} {n c m d : Nat} (hst : s = t) (h : ∀ W, Ext w W → Calls Try.prog 66 #[.slice A n c, .slice B m d] W (RetE (.bool true) W)) :
    Calls Try.prog 38 #[.agg #[.bool s, .slice A n c], .agg #[.bool t, .slice B m d]] w (RetE (.bool true) w) := by
  subst hst
  have X := hid (((Ext.refl w).alloc (.cells #[.bool s, .slice A n c] 24)).alloc (.cells #[.bool s, .slice B m d] 24))
  have hc := hid (h _ X.out)
  clear h
  cases s
  · go_enter Try.func38, Try.ntmps38
    go_wp2_with fail
    refine hc.out.mono ?_
    rintro E w1 ⟨rfl, x1⟩
    go_wp2_with fail
    go_ret
    exact ⟨rfl, X.out.trans x1⟩
  · go_enter Try.func38, Try.ntmps38
    go_wp2_with fail
    refine hc.out.mono ?_
    rintro E w1 ⟨rfl, x1⟩
    go_wp2_with fail
    go_ret
    exact ⟨rfl, X.out.trans x1⟩
/-- Two canonical numbers that are one. -/
theorem zsame_v {w : World} {s t : Bool} {A B : Option Addr} {n c m d K K' lo lo' : Nat} {x y : Int} (h : Ci K w lo s A n c x) (h' : Ci K' w lo' t B m d y) (hK : K ≤ 1099511627776) (he : x = y) :
    Calls Try.prog 38 #[.agg #[.bool s, .slice A n c], .agg #[.bool t, .slice B m d]] w (RetE (.bool true) w) := by
  subst he
  exact zsame_of (h.1.trans h'.1.symm) fun W hx => same_c (h.2.ext hx) (h'.2.ext hx) hK rfl

theorem wof_v {w : World} {n : Int} (h0 : -9223372036854775808 ≤ n) (h1 : n ≤ 9223372036854775807) : Calls Try.prog 34 #[.int .i64 n] w (RetI 2 n w) := by
  have hb := hid (Bx.new w false none 0 0)
  have X := hid ((Ext.refl w).alloc (.cells #[.bool false, .slice none 0 0] 24))
  by_cases hn : n < 0
  · have HE : Hid (IntKind.u64.wrap (-IntKind.u64.wrap n) = (n.natAbs : Int)) := by show _ = _; rw [IntKind.wrap_u64, IntKind.wrap_u64]; omega
    have hz : Hid (zv true n.natAbs = n) := by show _ = _; simp [zv]; omega
    have hbd : n.natAbs < 18446744073709551616 := by omega
    go_enter Try.func34, Try.ntmps34
    go_wp2_with fail
    refine (small_v HE.out hbd).mono ?_
    rintro E w1 ⟨A1, n1, c1, rfl, o1, x1⟩
    go_wp2_with fail
    refine (made_any o1.nv (by omega)).mono ?_
    rintro E w2 ⟨b2, A2, n2, c2, rfl, o2, x2⟩
    have O2 := hid o2
    rw [hz.out] at O2
    have X1 := hid (X.out.trans x1)
    have X2 := hid (X1.out.trans x2)
    have hsz : (w.alloc (.cells #[.bool false, .slice none 0 0] 24)).heap.size ≤ w1.heap.size := x1.size
    rw [size_alloc] at hsz
    have HB := hid ((hb.out.ext x1).ext x2)
    have hc0 := HB.out.c0
    have hc1 := HB.out.c1
    have hf0 := HB.out.fr 0
    have hf1 := HB.out.fr 1
    clear o1 o2 x1 x2
    go_wp2_with fail
    refine ret_b rfl HB.out.put rfl rfl (fin_i O2.out (by omega) (Nat.le_refl _) X2.out)
  · have HE : Hid (IntKind.u64.wrap n = (n.natAbs : Int)) := by show _ = _; rw [IntKind.wrap_u64]; omega
    have HE' : Hid (n = (n.natAbs : Int)) := by show _ = _; omega
    have hz : Hid (zv false n.natAbs = n) := by show _ = _; simp [zv]; omega
    have hbd : n.natAbs < 18446744073709551616 := by omega
    go_enter Try.func34, Try.ntmps34
    go_wp2_with fail
    first | (with_reducible refine (small_v HE'.out hbd).mono ?_) | (with_reducible refine (small_v HE.out hbd).mono ?_)
    rintro E w1 ⟨A1, n1, c1, rfl, o1, x1⟩
    go_wp2_with fail
    refine (made_any o1.nv (by omega)).mono ?_
    rintro E w2 ⟨b2, A2, n2, c2, rfl, o2, x2⟩
    have O2 := hid o2
    rw [hz.out] at O2
    have X1 := hid (X.out.trans x1)
    have X2 := hid (X1.out.trans x2)
    have hsz : (w.alloc (.cells #[.bool false, .slice none 0 0] 24)).heap.size ≤ w1.heap.size := x1.size
    rw [size_alloc] at hsz
    have HB := hid ((hb.out.ext x1).ext x2)
    have hc0 := HB.out.c0
    have hc1 := HB.out.c1
    have hf0 := HB.out.fr 0
    have hf1 := HB.out.fr 1
    clear o1 o2 x1 x2
    go_wp2_with fail
    refine ret_b rfl HB.out.put rfl rfl (fin_i O2.out (by omega) (Nat.le_refl _) X2.out)

theorem may_c {w : World} {s : Bool} {A : Option Addr} {n c K lo : Nat} {z : Int} (h : Ci K w lo s A n c z) (hK : K ≤ 1099511627776) : Calls Try.prog 53 #[.agg #[.bool s, .slice A n c]] w (RetE (.bool true) w) := by
  have X := hid ((Ext.refl w).alloc (.cells #[.bool s, .slice A n c] 24))
  by_cases h0 : z = 0
  · subst h0
    have hn := h.2.len0 rfl
    subst hn
    have hs : s = false := h.1
    clear h
    subst hs
    go_enter Try.func53, Try.ntmps53
    go_wp2_with (go_quiet (fail))
    go_ret
    exact ⟨rfl, X.out⟩
  · obtain ⟨j, g, x, rfl, rfl, hx0, hc⟩ := h.2.top (show z.natAbs ≠ 0 by omega)
    have hg := hc _ X.out
    have hxn : ((x : Int) != 0) = true := by rw [bne_iff_ne]; omega
    have hne : ((j : Int) + 1 == 0) = false := beq_eq_false_iff_ne.2 (by omega)
    have hjb : j ≤ 1099511627776 := by have := h.2.2; omega
    clear h hc hx0
    go_enter Try.func53, Try.ntmps53
    go_wp2_with (go_quiet (fail))
    go_ret
    exact ⟨rfl, X.out⟩

end Go.Proofs.Ytikkibpjchmajaa

namespace Go.Proofs.Ytikkibpjchmajaa
open Go.RowKit
open Go.Lib (hid)

def RetIIE (K K' : Nat) (q r err : Int) (w : World) : Ending → World → Prop := fun E w' => ∃ b A n c b' B m d, E = .returned (.tuple #[.agg #[.bool b, .slice A n c], .agg #[.bool b', .slice B m d], .int .i64 err]) ∧ Ci K w' w.heap.size b A n c q ∧ Ci K' w' w.heap.size b' B m d r ∧ Ext w w'

theorem zv_tdiv (s t : Bool) (m n : Nat) : zv (!(s == t)) (m / n) = (zv s m).tdiv (zv t n) := by
  cases s <;> cases t <;> simp [zv, Int.neg_tdiv, Int.tdiv_neg, Int.ofNat_tdiv]
theorem zv_tmod (s t : Bool) (m n : Nat) : zv s (m % n) = (zv s m).tmod (zv t n) := by
  have e : (m : Int) % n = (m : Int).tmod n := (Int.tmod_eq_emod_of_nonneg (by omega)).symm
  cases s <;> cases t <;> simp [zv, Int.neg_tmod, Int.tmod_neg, e]

theorem Ci.put {K : Nat} {w : World} {lo g : Nat} {b : Bool} {A : Option Addr} {n c : Nat} {z : Int} {u v : Value} (h : Ci K w lo b A n c z) (hg : g < lo) : Ci K ((w.setCell ⟨g, 0, none⟩ u).setCell ⟨g, 1, none⟩ v) lo b A n c z := ⟨h.1, h.2.put hg⟩
theorem Bx.other {w : World} {g g' : Nat} {s : Bool} {A : Option Addr} {n c : Nat} {u v : Value} (h : Bx w g s A n c) (hne : g ≠ g') : Bx ((w.setCell ⟨g', 0, none⟩ u).setCell ⟨g', 1, none⟩ v) g s A n c := h.grown (put_gb w g' u v) (by simpa using hne)

theorem results_ce {fn : Func} {p u : Tmp} (h : fn.results = #[.cell p 24, .tmp u]) (tmps : Array Value) (w : World) {g : Nat} {s : Bool} {A : Option Addr} {n c : Nat} (hB : Bx w g s A n c) (hp : tmps.getD p undef = .pointer (some ⟨g, 0, none⟩)) :
    (results fn tmps).run Try.prog w = .ok (.tuple #[.agg #[.bool s, .slice A n c], tmps.getD u undef]) w := by
  rw [results_cell_tmp h, hp]
  have := run_loadVar_row (P := Try.prog) w g _ 24 _ _ _ hB Try.underlying24 rfl info_int_s
  simp [asAddr, this, Result.andThen]
theorem ret_be {fn : Func} {p u : Tmp} {R : Ending → World → Prop} {a : Act} {w : World} {g : Nat} {s : Bool} {A : Option Addr} {n c : Nat} {v : Value} (h : fn.results = #[.cell p 24, .tmp u]) (hB : Bx w g s A n c)
    (hp : a.tmps.getD p undef = .pointer (some ⟨g, 0, none⟩)) (hv : a.tmps.getD u undef = v) (hd : a.defers = []) (hR : R (.returned (.tuple #[.agg #[.bool s, .slice A n c], v])) w) : bodyPost Try.prog fn R .ret a w :=
  bodyPost_ret (results_ce h _ _ hB hp) hd (by rw [hv]; exact hR)
theorem results_cce {fn : Func} {p q u : Tmp} (h : fn.results = #[.cell p 24, .cell q 24, .tmp u]) (tmps : Array Value) (w : World) {g g' : Nat} {s s' : Bool} {A A' : Option Addr} {n c n' c' : Nat} (hB : Bx w g s A n c) (hp : tmps.getD p undef = .pointer (some ⟨g, 0, none⟩))
    (hB' : Bx w g' s' A' n' c') (hp' : tmps.getD q undef = .pointer (some ⟨g', 0, none⟩)) :
    (results fn tmps).run Try.prog w = .ok (.tuple #[.agg #[.bool s, .slice A n c], .agg #[.bool s', .slice A' n' c'], tmps.getD u undef]) w := by
  have e1 := run_loadVar_row (P := Try.prog) w g _ 24 _ _ _ hB Try.underlying24 rfl info_int_s
  have e2 := run_loadVar_row (P := Try.prog) w g' _ 24 _ _ _ hB' Try.underlying24 rfl info_int_s
  have hp : tmps[p]?.getD undef = .pointer (some ⟨g, 0, none⟩) := by simpa using hp
  have hp' : tmps[q]?.getD undef = .pointer (some ⟨g', 0, none⟩) := by simpa using hp'
  simp [results, h, hp, hp', asAddr, e1, e2, Result.andThen]
theorem ret_bbe {fn : Func} {p q u : Tmp} {R : Ending → World → Prop} {a : Act} {w : World} {g g' : Nat} {s s' : Bool} {A A' : Option Addr} {n c n' c' : Nat} {v : Value} (h : fn.results = #[.cell p 24, .cell q 24, .tmp u]) (hB : Bx w g s A n c)
    (hp : a.tmps.getD p undef = .pointer (some ⟨g, 0, none⟩)) (hB' : Bx w g' s' A' n' c') (hp' : a.tmps.getD q undef = .pointer (some ⟨g', 0, none⟩)) (hv : a.tmps.getD u undef = v) (hd : a.defers = []) (hR : R (.returned (.tuple #[.agg #[.bool s, .slice A n c], .agg #[.bool s', .slice A' n' c'], v])) w) : bodyPost Try.prog fn R .ret a w :=
  bodyPost_ret (results_cce h _ _ hB hp hB' hp') hd (by rw [hv]; exact hR)

theorem wexact_zero {w : World} {s t : Bool} {A B : Option Addr} {n c m d K K' : Nat} {x : Int} (h : Iz K w s A n c x) (h' : Iz K' w t B m d 0) (hK : K + K' ≤ 1000000000) :
    Calls Try.prog 33 #[.agg #[.bool s, .slice A n c], .agg #[.bool t, .slice B m d]] w (RetIE 0 0 7 w) := by
  have T := hid (Tri.mk' w s A n c t B m d)
  have H := hid h
  have H' := hid h'
  clear h h'
  go_enter Try.func33, Try.ntmps33
  go_wp2_with fail
  generalize (((w.alloc (.cells #[.bool s, .slice A n c] 24)).alloc (.cells #[.bool t, .slice B m d] 24)).alloc (.cells #[.bool false, .slice none 0 0] 24)) = wA at *
  refine (exact_zero (H.out.nv.1.ext T.out.x) (H'.out.nv.1.ext T.out.x) (by omega)).mono ?_
  rintro E w1 ⟨rfl, x1⟩
  have X1 := hid x1
  obtain ⟨hr0, hr1, hr2, hr3⟩ := T.out.cr x1
  clear x1
  go_wp2_with fail
  refine ret_be rfl (T.out.put X1.out) rfl rfl rfl ?_
  have hsz := T.out.sz
  exact ⟨_, _, _, _, rfl, ⟨by decide, Cn.none⟩, (T.out.x.trans X1.out).put (by omega) _ _⟩
theorem wexact_no {w : World} {s t : Bool} {A B : Option Addr} {n c m d K K' : Nat} {x y : Int} (h : Iz K w s A n c x) (h' : Iz K' w t B m d y) (hK : K + K' ≤ 1000000000) (hy : y ≠ 0) (hr : x.natAbs % y.natAbs ≠ 0) :
    Calls Try.prog 33 #[.agg #[.bool s, .slice A n c], .agg #[.bool t, .slice B m d]] w (RetIE 0 0 2 w) := by
  have T := hid (Tri.mk' w s A n c t B m d)
  have H := hid h
  have H' := hid h'
  have HR := hid hr
  clear h h' hr
  go_enter Try.func33, Try.ntmps33
  go_wp2_with fail
  generalize (((w.alloc (.cells #[.bool s, .slice A n c] 24)).alloc (.cells #[.bool t, .slice B m d] 24)).alloc (.cells #[.bool false, .slice none 0 0] 24)) = wA at *
  refine (exact_no (H.out.nv.1.ext T.out.x) (H'.out.nv.1.ext T.out.x) (by omega) (by omega) HR.out).mono ?_
  rintro E w1 ⟨rfl, x1⟩
  have X1 := hid x1
  obtain ⟨hr0, hr1, hr2, hr3⟩ := T.out.cr x1
  clear x1
  go_wp2_with fail
  refine ret_be rfl (T.out.put X1.out) rfl rfl rfl ?_
  have hsz := T.out.sz
  exact ⟨_, _, _, _, rfl, ⟨by decide, Cn.none⟩, (T.out.x.trans X1.out).put (by omega) _ _⟩
set_option maxHeartbeats 1600000 in
theorem wexact_yes {w : World} {s t : Bool} {A B : Option Addr} {n c m d K K' : Nat} {x y : Int} (h : Iz K w s A n c x) (h' : Iz K' w t B m d y) (hK : K + K' ≤ 1000000000) (hy : y ≠ 0) (hr : x.natAbs % y.natAbs = 0) :
    Calls Try.prog 33 #[.agg #[.bool s, .slice A n c], .agg #[.bool t, .slice B m d]] w (RetIE K (x.tdiv y) 0 w) := by
  have T := hid (Tri.mk' w s A n c t B m d)
  have HZ : Hid (zv (!(s == t)) (x.natAbs / y.natAbs) = x.tdiv y) := by
    have e := zv_tdiv s t x.natAbs y.natAbs
    rw [← h.nv.2, ← h'.nv.2] at e
    exact e
  have H := hid h
  have H' := hid h'
  have HR := hid hr
  clear h h' hr
  go_enter Try.func33, Try.ntmps33
  go_wp2_with fail
  generalize (((w.alloc (.cells #[.bool s, .slice A n c] 24)).alloc (.cells #[.bool t, .slice B m d] 24)).alloc (.cells #[.bool false, .slice none 0 0] 24)) = wA at *
  refine (exact_yes (H.out.nv.1.ext T.out.x) (H'.out.nv.1.ext T.out.x) (by omega) (by omega) HR.out).mono ?_
  rintro E w1 ⟨A1, n1, c1, rfl, o1, x1⟩
  have X1 := hid x1
  have O1 := hid o1
  obtain ⟨hq0, hq1, hq2, hq3⟩ := T.out.cs x1
  clear x1 o1
  go_wp2_with fail
  refine (made_any (s := !(s == t)) O1.out.nv (by omega)).mono ?_
  rintro E w2 ⟨b2, A2, n2, c2, rfl, o2, x2⟩
  have X2 := hid (X1.out.trans x2)
  have O2 := hid o2
  obtain ⟨hr0, hr1, hr2, hr3⟩ := T.out.cr X2.out
  clear o2 x2 hq0 hq1 hq2 hq3
  rw [HZ.out] at O2
  go_wp2_with fail
  refine ret_be rfl (T.out.put X2.out) rfl rfl rfl ?_
  obtain ⟨b, A, n, c, e, hr⟩ := T.out.fin X2.out O2.out X1.out.size
  injection e with e
  exact ⟨_, _, _, _, by rw [e]; rfl, hr⟩

/-- As Tri, with two results' cells. -/
structure Quad (w wA : World) (s : Bool) (A : Option Addr) (n c : Nat) (t : Bool) (B : Option Addr) (m d : Nat) : Prop where
  x : Ext w wA
  b0 : Bx wA w.heap.size s A n c
  b1 : Bx wA (w.heap.size + 1) t B m d
  b2 : Bx wA (w.heap.size + 1 + 1) false none 0 0
  b3 : Bx wA (w.heap.size + 1 + 1 + 1) false none 0 0
  sz : wA.heap.size = w.heap.size + 4
theorem Quad.mk' (w : World) (s : Bool) (A : Option Addr) (n c : Nat) (t : Bool) (B : Option Addr) (m d : Nat) :
    Quad w ((((w.alloc (.cells #[.bool s, .slice A n c] 24)).alloc (.cells #[.bool t, .slice B m d] 24)).alloc (.cells #[.bool false, .slice none 0 0] 24)).alloc (.cells #[.bool false, .slice none 0 0] 24)) s A n c t B m d := by
  have T := Tri.mk' w s A n c t B m d
  have h3 := Bx.new (((w.alloc (.cells #[.bool s, .slice A n c] 24)).alloc (.cells #[.bool t, .slice B m d] 24)).alloc (.cells #[.bool false, .slice none 0 0] 24)) false none 0 0
  rw [T.sz] at h3
  have e := (Ext.refl (((w.alloc (.cells #[.bool s, .slice A n c] 24)).alloc (.cells #[.bool t, .slice B m d] 24)).alloc (.cells #[.bool false, .slice none 0 0] 24))).alloc (.cells #[.bool false, .slice none 0 0] 24)
  exact ⟨T.x.trans e, T.b0.ext e, T.b1.ext e, T.b2.ext e, h3, by rw [size_alloc, T.sz]⟩
def QuadR (w : World) (g : Nat) : Prop :=
  (w.cell? ⟨g + 1 + 1, 0, none⟩ = some (.bool false) ∧ w.cell? ⟨g + 1 + 1, 1, none⟩ = some (.slice none 0 0) ∧ w.frozen? ⟨g + 1 + 1, 0, none⟩ = false ∧ w.frozen? ⟨g + 1 + 1, 1, none⟩ = false) ∧
  w.cell? ⟨g + 1 + 1 + 1, 0, none⟩ = some (.bool false) ∧ w.cell? ⟨g + 1 + 1 + 1, 1, none⟩ = some (.slice none 0 0) ∧ w.frozen? ⟨g + 1 + 1 + 1, 0, none⟩ = false ∧ w.frozen? ⟨g + 1 + 1 + 1, 1, none⟩ = false
section
variable {w wA wB : World} {s t : Bool} {A B : Option Addr} {n c m d : Nat}
theorem Quad.cs (h : Quad w wA s A n c t B m d) (hx : Ext wA wB) : TriC wB w.heap.size s A n c t B m d := ⟨(h.b0.ext hx).c0, (h.b0.ext hx).c1, (h.b1.ext hx).c0, (h.b1.ext hx).c1⟩
theorem Quad.cr (h : Quad w wA s A n c t B m d) (hx : Ext wA wB) : QuadR wB w.heap.size :=
  ⟨⟨(h.b2.ext hx).c0, (h.b2.ext hx).c1, (h.b2.ext hx).fr 0, (h.b2.ext hx).fr 1⟩, (h.b3.ext hx).c0, (h.b3.ext hx).c1, (h.b3.ext hx).fr 0, (h.b3.ext hx).fr 1⟩
/-- Behind the first store. -/
theorem Quad.cp (h : Quad w wA s A n c t B m d) (hx : Ext wA wB) (u v : Value) : TriC ((wB.setCell ⟨w.heap.size + 1 + 1, 0, none⟩ u).setCell ⟨w.heap.size + 1 + 1, 1, none⟩ v) w.heap.size s A n c t B m d :=
  have p0 := (h.b0.ext hx).other (g' := w.heap.size + 1 + 1) (u := u) (v := v) (by omega)
  have p1 := (h.b1.ext hx).other (g' := w.heap.size + 1 + 1) (u := u) (v := v) (by omega)
  ⟨p0.c0, p0.c1, p1.c0, p1.c1⟩
/-- Behind both. -/
theorem Quad.cp2 (h : Quad w wA s A n c t B m d) (hx : Ext wA wB) (u v u' v' : Value) : TriC ((((wB.setCell ⟨w.heap.size + 1 + 1, 0, none⟩ u).setCell ⟨w.heap.size + 1 + 1, 1, none⟩ v).setCell ⟨w.heap.size + 1 + 1 + 1, 0, none⟩ u').setCell ⟨w.heap.size + 1 + 1 + 1, 1, none⟩ v') w.heap.size s A n c t B m d :=
  have p0 := ((h.b0.ext hx).other (g' := w.heap.size + 1 + 1) (u := u) (v := v) (by omega)).other (g' := w.heap.size + 1 + 1 + 1) (u := u') (v := v') (by omega)
  have p1 := ((h.b1.ext hx).other (g' := w.heap.size + 1 + 1) (u := u) (v := v) (by omega)).other (g' := w.heap.size + 1 + 1 + 1) (u := u') (v := v') (by omega)
  ⟨p0.c0, p0.c1, p1.c0, p1.c1⟩
end

end Go.Proofs.Ytikkibpjchmajaa

namespace Go.Proofs.Ytikkibpjchmajaa
open Go.RowKit
open Go.Lib (hid)

/-- The block g is a variable of the type t that holds v. -/
def Sx (w : World) (g : Nat) (t : TypeId) (v : Value) : Prop := w.heap[g]? = some (.cells #[v] t (0, 0))
section
variable {w w' : World} {g : Nat} {t : TypeId} {v : Value}
theorem Sx.lt (h : Sx w g t v) : g < w.heap.size := (Array.getElem?_eq_some_iff.1 h).1
theorem Sx.ext (h : Sx w g t v) (hx : Ext w w') : Sx w' g t v := (hx.block g h.lt).trans h
theorem Sx.gb (h : Sx w g t v) {row : Option Nat} (hg : w.grownBy w' row) (hne : row ≠ some g) : Sx w' g t v := (hg.block g h.lt (fun e => hne e.symm)).trans h
theorem Sx.c0 (h : Sx w g t v) : w.cell? ⟨g, 0, none⟩ = some v := by
  have h : w.heap[g]? = _ := h
  simp [World.cell?, h]
theorem Sx.fr (h : Sx w g t v) (i : Nat) : w.frozen? ⟨g, i, none⟩ = false := by
  have h : w.heap[g]? = _ := h
  simp [World.frozen?, h]
theorem Sx.new (w : World) (t : TypeId) (v : Value) : Sx (w.alloc (.cells #[v] t)) w.heap.size t v := heap_alloc_new _ _
theorem Sx.put {u : Value} (h : Sx w g t v) : Sx (w.setCell ⟨g, 0, none⟩ u) g t u := by
  have h : w.heap[g]? = _ := h
  show (w.setCell ⟨g, 0, none⟩ u).heap[g]? = _
  simp [World.setCell, Array.getElem?_modify, h]
theorem Sx.other {g' : Nat} {u : Value} (h : Sx w g t v) (hne : g ≠ g') : Sx (w.setCell ⟨g', 0, none⟩ u) g t v := (Below.heap_setCell _ _ _ _ hne).trans h
variable {k k' : IntKind} {e e' : TypeId} {lo lo' : Nat} {A B : Option Addr} {n c m d : Nat} {zs ys : List Nat}
/-- A slice's array is no variable of another type. -/
theorem Own.sx (h : Own k e w lo A n c zs) (hs : Sx w g t v) (hne : e ≠ t) : ∀ g', A = some ⟨g', 0, none⟩ → g' ≠ g := fun g' hA hg => by
  subst hg
  rcases h.2 with ⟨h', _⟩ | ⟨g2, cap, cur, h1, _, h3, _⟩
  · injection h' with h'; rw [h'] at hA; cases hA
  · injection h1 with h1; rw [hA] at h1; injection h1 with h1; injection h1 with h1
    subst h1
    have hs : w.heap[g']? = _ := hs
    rw [h3] at hs
    injection hs with hs
    injection hs with _ hs
    exact hne hs
theorem Own.sxr (h : Own k e w lo A n c zs) (hs : Sx w g t v) (hne : e ≠ t) : A.map (·.block) ≠ some g := fun hA => by
  rcases h.form with ⟨rfl, _⟩ | ⟨g2, rfl, _⟩
  · simp at hA
  · exact h.sx hs hne g2 rfl (by simpa using hA)
theorem Own.var (h : Own k e w lo A n c zs) (hs : Sx w g t v) (hne : e ≠ t) (u : Value) : Own k e (w.setCell ⟨g, 0, none⟩ u) lo A n c zs := h.far (p := ⟨g, 0, none⟩) (h.sx hs hne) u
theorem Own.gb (h : Own k e w lo A n c zs) {row : Option Nat} (hg : w.grownBy w' row) (hne : ∀ g', A = some ⟨g', 0, none⟩ → row ≠ some g') : Own k e w' lo A n c zs :=
  ⟨h.1, by
    rcases h.2 with h' | ⟨g, cap, cur, h1, h2, h3, r⟩
    · exact .inl h'
    · injection h1 with h1a h1b h1c
      exact .inr ⟨g, cap, cur, by rw [h1a, h1c], h2, (hg.block g (Array.getElem?_eq_some_iff.1 h3).1 (fun e => hne g h1a e.symm)).trans h3, r⟩⟩
theorem Own.own_ne (h : Own k e w lo A n c zs) (h' : Own k' e' w lo' B m d ys) (hne : e ≠ e') : ∀ g', A = some ⟨g', 0, none⟩ → B.map (·.block) ≠ some g' := fun g' hA hB => by
  rcases h.2 with ⟨h1, _⟩ | ⟨g1, cap, cur, h1, _, h3, _⟩
  · injection h1 with h1; rw [h1] at hA; cases hA
  · injection h1 with h1; rw [hA] at h1; injection h1 with h1; injection h1 with h1
    subst h1
    rcases h'.2 with ⟨h4, _⟩ | ⟨g2, cap2, cur2, h4, _, h6, _⟩
    · injection h4 with h4; rw [h4] at hB; simp at hB
    · injection h4 with h4
      rw [h4] at hB
      have hB : g2 = g' := by simpa using hB
      subst hB
      rw [h3] at h6
      injection h6 with h6
      injection h6 with _ h6
      exact hne h6
end
section
variable {K : Nat} {w w' : World} {g lo : Nat} {t : TypeId} {v : Value} {A B : Option Addr} {n c p m d : Nat} {k : IntKind} {e : TypeId} {ys : List Nat}
theorem Cn.var (h : Cn K w lo A n c p) (hs : Sx w g t v) (hne : 100 ≠ t) (u : Value) : Cn K (w.setCell ⟨g, 0, Option.none⟩ u) lo A n c p := ⟨h.1.var hs hne u, h.2⟩
theorem Cn.app (h : Cn K w lo A n c p) (ho : Own k e w lo B m d ys) (hne : 100 ≠ e) (hg : w.grownBy w' (B.map (·.block))) : Cn K w' lo A n c p := ⟨h.1.gb hg (h.1.own_ne ho hne), h.2⟩
end

theorem info_u8 : (Try.prog.info? 5).map (fun i => (i.zero, i.size, i.bytes)) = some (some (.int .u8 0), 1, 1) := by kernel_rfl

/-- Nine digits more in the variable gb, the number in ga so much less. -/
def RetTake (K p ga gb : Nat) (ds : List Nat) (W : World) : Ending → World → Prop := fun E w' => E = .returned (.tuple #[]) ∧ ∃ (A : Option Addr) (n c : Nat) (B : Option Addr) (d : Nat) (es : List Nat),
  es.length = 9 ∧ Lim 10 es ∧ nv 10 es = p % 1000000000 ∧ Sx w' ga 22 (.slice A n c) ∧ Sx w' gb 99 (.slice B (ds.length + 9) d) ∧ Cn K w' W.heap.size A n c (p / 1000000000) ∧
  Own .u8 5 w' W.heap.size B (ds.length + 9) d ((ds ++ es).map (· + 48)) ∧ Ext W w'

theorem digit_step {i q r : Nat} {es : List Nat} (hl : es.length = i) (h : nv 10 es + 10 ^ i * q = r) : nv 10 (es ++ [q % 10]) + 10 ^ (i + 1) * (q / 10) = r := by
  rw [nv_append, hl, Nat.pow_succ, nv_cons, nv_nil, ← h]
  have := Nat.mod_add_div q 10
  generalize 10 ^ i = x at *
  have e : x * q = x * (q % 10) + x * 10 * (q / 10) := by rw [Nat.mul_assoc, ← Nat.mul_add, this]
  rw [e]; simp; omega

set_option maxHeartbeats 1600000 in
theorem take_v {W w : World} {ga gb K p n c m d : Nat} {A B : Option Addr} {ds : List Nat} (hx : Ext W w) (hga : W.heap.size ≤ ga) (hgb : W.heap.size ≤ gb) (hne : ga ≠ gb) (sa : Sx w ga 22 (.slice A n c)) (sb : Sx w gb 99 (.slice B m d))
    (hA : Cn K w W.heap.size A n c p) (hB : Own .u8 5 w W.heap.size B m d (ds.map (· + 48))) (hK : K ≤ 100000) (hm : m ≤ 2000000) :
    Calls Try.prog 74 #[.int .i64 9, .pointer (some ⟨ga, 0, none⟩), .pointer (some ⟨gb, 0, none⟩)] w (RetTake K p ga gb ds W) := by
  have hd := hid (dlimb_v (D := 1000000000) (d := 1000000000) rfl hA.nv (by omega) (by omega) (by omega))
  have a0 := sa.c0
  obtain rfl : m = ds.length := by have := hB.len; simpa using this.symm
  have HB := hid hB
  have SA := hid sa
  have SB := hid sb
  have X := hid hx
  have hls := hx.size
  clear hA hB sa sb hx
  go_enter Try.func74, Try.ntmps74
  go_wp2_with fail
  refine hd.out.mono ?_
  rintro E w1 ⟨A1, n1, c1, rfl, o1, x1⟩
  have SA1 := SA.out.ext x1
  have f0 := SA1.fr 0
  have a1 := SA1.c0
  have SA2 := hid (SA1.put (u := .slice A1 n1 c1))
  have SB2 := hid ((SB.out.ext x1).other (g' := ga) (u := .slice A1 n1 c1) (fun e => hne e.symm))
  have C2 := hid ((show Cn K w1 W.heap.size A1 n1 c1 (p / 1000000000) from ⟨o1.1.mono hls, o1.2⟩).var SA1 (by decide) (.slice A1 n1 c1))
  have B2 := hid ((HB.out.ext x1).var SA1 (by decide) (.slice A1 n1 c1))
  have X2 := hid ((X.out.trans x1).setCell (p := ⟨ga, 0, none⟩) hga (.slice A1 n1 c1))
  have hr : p % 1000000000 < 1000000000 := Nat.mod_lt _ (by omega)
  clear SA1 o1 x1 hd a0
  go_wp2_with fail
  clear a1 f0 SA SB HB X
  generalize w1.setCell ⟨ga, 0, none⟩ (.slice A1 n1 c1) = w2 at *
  generalize hq : p % 1000000000 = r at *
  have HQ := hid hq
  clear hq
  go_loopw [5, 15] (fun sr si wr => ∃ (i q : Nat) (es : List Nat) (B' : Option Addr) (d' : Nat), i ≤ 9 ∧ si = .int .i64 i ∧ sr = .int .u32 q ∧ q < 4294967296 ∧ es.length = i ∧ Lim 10 es ∧ nv 10 es + 10 ^ i * q = r ∧ Sx wr ga 22 (.slice A1 n1 c1) ∧ Sx wr gb 99 (.slice B' (ds.length + i) d') ∧
      Cn K wr W.heap.size A1 n1 c1 (p / 1000000000) ∧ Own .u8 5 wr W.heap.size B' (ds.length + i) d' ((ds ++ es).map (· + 48)) ∧ Ext W wr) (fun _ si _ => 9 - (intOf si).toNat)
  case atStart => exact ⟨0, r, [], B, d, by omega, rfl, by have := HQ.out; simp only [Value.int.injEq, true_and]; omega, by omega, rfl, fun y hy => by simp at hy, by simp [nv], SA2.out, SB2.out, C2.out, by rw [List.append_nil]; exact B2.out, X2.out⟩
  case round =>
    clear SA2 SB2 C2 B2 X2
    obtain ⟨i, q, es, B', d', hi, rfl, rfl, hq, hel, hes, hinv, sa, sb, ca, ob, hx⟩ := hrel
    have SA := hid sa
    have SB := hid sb
    have CA := hid ca
    have OB := hid ob
    have HX := hid hx
    have HI := hid hinv
    have HES := hid hes
    have HEL := hid hel
    have hb0 := sb.c0
    clear sa sb ca ob hx hinv hes hel
    by_cases hlt : i < 9
    · go_wp2_with (at_builtin; refine wpl_append1 (w0 := W) rfl _ _ _ rfl 5 .u8 1 Try.underlying99 info_u8 _ (q % 10 + 48) rfl rfl (by omega) OB.out HX.out (by omega) (by simp only [maxLen]; omega) ?_; intro B2 d2 w3 ho3 hx3 hg3; have SB3 := SB.out.gb hg3.out (OB.out.sxr SB.out (by decide)); have hc3 := SB3.c0; have hf3 := SB3.fr 0; have HS3 := hid SB3; clear SB3)
      go_roundw
      case rel =>
        refine ⟨i + 1, q / 10, es ++ [q % 10], B2, d2, by omega, ?_, ?_, by omega, by rw [List.length_append, HEL.out]; rfl, lim_append HES.out (lim_one (Nat.mod_lt _ (by omega))), digit_step HEL.out HI.out, ?_, HS3.out.put, ?_, ?_, ?_⟩
        · go_num
        · go_num
        · exact (SA.out.gb hg3.out (OB.out.sxr SA.out (by decide))).other hne
        · exact (CA.out.app OB.out (by decide) hg3.out).var HS3.out (by decide) _
        · have := ho3.var HS3.out (by decide) (.slice B2 (ds.length + i + 1) d2)
          rw [← List.append_assoc, List.map_append (f := fun x => x + 48) (l₁ := ds ++ es)]
          exact this
        · exact hx3.setCell (p := ⟨gb, 0, none⟩) hgb _
      case measure => simp [intOf]; omega
    · obtain rfl : i = 9 := by omega
      go_wp2_with fail
      go_end0
      refine ⟨rfl, A1, n1, c1, B', d', es, HEL.out, HES.out, ?_, SA.out, SB.out, CA.out, OB.out, HX.out⟩
      have h1 := HI.out
      have h2 := nv_lt (b := 10) (by omega) HES.out
      rw [HEL.out] at h2
      rw [HQ.out]
      omega
end Go.Proofs.Ytikkibpjchmajaa

