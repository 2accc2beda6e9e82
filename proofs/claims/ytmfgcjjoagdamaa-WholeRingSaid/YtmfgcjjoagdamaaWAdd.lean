
/-
  The contracts of layer 4's Add, Sub, Mul, Cmp.
-/
import Derived.Test.YtmfgcjjoagdamaaWhole
namespace Go.Proofs.Ytmfgcjjoagdamaa
open Go.RowKit
open Go.Lib (hid)

/-- Two structs that were handed over, and the result's, in three blocks behind one another. -/
structure Tri (w wA : World) (s : Bool) (A : Option Addr) (n c : Nat) (t : Bool) (B : Option Addr) (m d : Nat) : Prop where
  x : Ext w wA
  b0 : Bx wA w.heap.size s A n c
  b1 : Bx wA (w.heap.size + 1) t B m d
  b2 : Bx wA (w.heap.size + 1 + 1) false none 0 0
  sz : wA.heap.size = w.heap.size + 3
theorem Tri.mk' (w : World) (s : Bool) (A : Option Addr) (n c : Nat) (t : Bool) (B : Option Addr) (m d : Nat) :
    Tri w (((w.alloc (.cells #[.bool s, .slice A n c] 24)).alloc (.cells #[.bool t, .slice B m d] 24)).alloc (.cells #[.bool false, .slice none 0 0] 24)) s A n c t B m d := by
  have h0 := Bx.new w s A n c
  have h1 := Bx.new (w.alloc (.cells #[.bool s, .slice A n c] 24)) t B m d
  have h2 := Bx.new ((w.alloc (.cells #[.bool s, .slice A n c] 24)).alloc (.cells #[.bool t, .slice B m d] 24)) false none 0 0
  rw [size_alloc] at h1 h2
  rw [size_alloc] at h2
  exact ⟨(((Ext.refl w).alloc _).alloc _).alloc _, (h0.ext ((Ext.refl _).alloc _)).ext ((Ext.refl _).alloc _), h1.ext ((Ext.refl _).alloc _), h2, by rw [size_alloc, size_alloc, size_alloc]⟩
/-- What of them is read. -/
abbrev TriC (w : World) (g : Nat) (s : Bool) (A : Option Addr) (n c : Nat) (t : Bool) (B : Option Addr) (m d : Nat) : Prop :=
  w.cell? ⟨g, 0, none⟩ = some (.bool s) ∧ w.cell? ⟨g, 1, none⟩ = some (.slice A n c) ∧ w.cell? ⟨g + 1, 0, none⟩ = some (.bool t) ∧ w.cell? ⟨g + 1, 1, none⟩ = some (.slice B m d)
/-- The result's cell. -/
def TriR (w : World) (g : Nat) : Prop :=
  w.cell? ⟨g + 1 + 1, 0, none⟩ = some (.bool false) ∧ w.cell? ⟨g + 1 + 1, 1, none⟩ = some (.slice none 0 0) ∧ w.frozen? ⟨g + 1 + 1, 0, none⟩ = false ∧ w.frozen? ⟨g + 1 + 1, 1, none⟩ = false
section
variable {w wA wB : World} {s t : Bool} {A B : Option Addr} {n c m d : Nat}
theorem Tri.cs (h : Tri w wA s A n c t B m d) (hx : Ext wA wB) : TriC wB w.heap.size s A n c t B m d :=
  ⟨(h.b0.ext hx).c0, (h.b0.ext hx).c1, (h.b1.ext hx).c0, (h.b1.ext hx).c1⟩
theorem Tri.cr (h : Tri w wA s A n c t B m d) (hx : Ext wA wB) : TriR wB w.heap.size :=
  ⟨(h.b2.ext hx).c0, (h.b2.ext hx).c1, (h.b2.ext hx).fr 0, (h.b2.ext hx).fr 1⟩
theorem Tri.cp (h : Tri w wA s A n c t B m d) (hx : Ext wA wB) (u v : Value) : TriC ((wB.setCell ⟨w.heap.size + 1 + 1, 0, none⟩ u).setCell ⟨w.heap.size + 1 + 1, 1, none⟩ v) w.heap.size s A n c t B m d :=
  have p0 := (h.b0.ext hx).grown (put_gb wB (w.heap.size + 1 + 1) u v) (by simp; omega)
  have p1 := (h.b1.ext hx).grown (put_gb wB (w.heap.size + 1 + 1) u v) (by simp)
  ⟨p0.c0, p0.c1, p1.c0, p1.c1⟩
theorem Tri.fin {K : Nat} {z : Int} {lo : Nat} {b : Bool} {C : Option Addr} {k l : Nat} (h : Tri w wA s A n c t B m d) (hx : Ext wA wB) (ho : Ci K wB lo b C k l z) (hlo : wA.heap.size ≤ lo) :
    RetI K z w (.returned (.agg #[.bool b, .slice C k l])) ((wB.setCell ⟨w.heap.size + 1 + 1, 0, none⟩ (.bool b)).setCell ⟨w.heap.size + 1 + 1, 1, none⟩ (.slice C k l)) :=
  fin_i ho (by have := h.sz; omega) (by omega) (h.x.trans hx)
theorem Tri.put (h : Tri w wA s A n c t B m d) (hx : Ext wA wB) {b : Bool} {C : Option Addr} {k l : Nat} : Bx ((wB.setCell ⟨w.heap.size + 1 + 1, 0, none⟩ (.bool b)).setCell ⟨w.heap.size + 1 + 1, 1, none⟩ (.slice C k l)) (w.heap.size + 1 + 1) b C k l := (h.b2.ext hx).put
end

set_option maxHeartbeats 1600000 in
theorem wadd_same {w : World} {s : Bool} {A B : Option Addr} {n c m d K K' : Nat} {x y : Int} (h : Iz K w s A n c x) (h' : Iz K' w s B m d y) (hK : K + K' ≤ 1000000000) :
    Calls Try.prog 39 #[.agg #[.bool s, .slice A n c], .agg #[.bool s, .slice B m d]] w (RetI (K + K' + 1) (x + y) w) := by
  have T := hid (Tri.mk' w s A n c s B m d)
  have HZ : Hid (zv s (x.natAbs + y.natAbs) = x + y) := by show _ = _; rw [← zv_same, ← h.nv.2, ← h'.nv.2]
  have H := hid h
  have H' := hid h'
  clear h h'
  go_enter Try.func39, Try.ntmps39
  go_wp2_with fail
  generalize (((w.alloc (.cells #[.bool s, .slice A n c] 24)).alloc (.cells #[.bool s, .slice B m d] 24)).alloc (.cells #[.bool false, .slice none 0 0] 24)) = wA at *
  have t1 := hid (fun W (X : Ext wA W) => add_v (H.out.nv.1.ext (T.out.x.trans X)) (H'.out.nv.1.ext (T.out.x.trans X)) (by omega))
  have hk0 := T.out.cs (Ext.refl wA)
  go_region_held3 (fun w' => w'.cell? ⟨w.heap.size, 0, none⟩ = some (.bool s) ∧ w'.cell? ⟨w.heap.size, 1, none⟩ = some (.slice A n c) ∧ w'.cell? ⟨w.heap.size + 1, 0, none⟩ = some (.bool s) ∧ w'.cell? ⟨w.heap.size + 1, 1, none⟩ = some (.slice B m d)) (first | exact hk0 | exact hk1 | exact hk2 | exact hk3 _ _)
    (first
      | ((go_at_call 54); (with_reducible refine (t1.out _ (Ext.refl _).drew).mono ?_); rintro e w1 ⟨A1, n1, c1, rfl, o1, x1⟩; have hk1 := T.out.cs ((Ext.refl _).drew.trans x1); have O1 := hid o1; have X1 := hid ((Ext.refl _).drew.trans x1); clear o1 x1 t1)
      | ((go_at_call 70); (with_reducible refine (made_any O1.out.nv (by omega)).mono ?_); rintro e w2 ⟨b2, A2, n2, c2, rfl, o2, x2⟩; have hk2 := T.out.cs (X1.out.trans x2); have hk3 := fun u v => T.out.cp (X1.out.trans x2) u v; obtain ⟨hr0, hr1, hr2, hr3⟩ := T.out.cr (X1.out.trans x2); have O2 := hid o2; have X2 := hid (X1.out.trans x2); clear o2 x2))
  clear hk0 hk1 hk2 hk3 hr0 hr1 hr2 hr3
  rw [HZ.out] at O2
  go_wp2_with fail
  refine ret_b rfl (T.out.put X2.out) rfl rfl (T.out.fin X2.out O2.out X1.out.size)

set_option maxHeartbeats 1600000 in
theorem wadd_diff {w : World} {s t : Bool} {A B : Option Addr} {n c m d K K' : Nat} {x y : Int} (hst : s ≠ t) (h : Iz K w s A n c x) (h' : Iz K' w t B m d y) (hK : K + K' ≤ 1000000000) :
    Calls Try.prog 39 #[.agg #[.bool s, .slice A n c], .agg #[.bool t, .slice B m d]] w (RetI (K + K' + 1) (x + y) w) := by
  have T := hid (Tri.mk' w s A n c t B m d)
  have HX := hid h.nv.2
  have HY := hid h'.nv.2
  have H := hid h
  have H' := hid h'
  have hf : (s == t) = false := by cases s <;> cases t <;> simp_all
  have HST := hid hst
  clear h h' hst
  by_cases hle : y.natAbs ≤ x.natAbs
  · have HZ : Hid (zv s (x.natAbs - y.natAbs) = x + y) := by show _ = _; rw [← zv_diff HST.out hle, ← HX.out, ← HY.out]
    go_enter Try.func39, Try.ntmps39
    go_wp2_with fail
    generalize (((w.alloc (.cells #[.bool s, .slice A n c] 24)).alloc (.cells #[.bool t, .slice B m d] 24)).alloc (.cells #[.bool false, .slice none 0 0] 24)) = wA at *
    refine (sub_yes (H.out.nv.1.ext T.out.x) (H'.out.nv.1.ext T.out.x) (by omega) hle).mono ?_
    rintro E w1 ⟨A1, n1, c1, rfl, o1, x1⟩
    have O1 := hid o1
    have X1 := hid x1
    obtain ⟨hq0, hq1, hq2, hq3⟩ := T.out.cs x1
    clear o1 x1
    go_wp2_with fail
    refine (made_any O1.out.nv (by omega)).mono ?_
    rintro E w2 ⟨b2, A2, n2, c2, rfl, o2, x2⟩
    have X2 := hid (X1.out.trans x2)
    have O2 := hid o2
    obtain ⟨hr0, hr1, hr2, hr3⟩ := T.out.cr X2.out
    clear o2 x2 hq0 hq1 hq2 hq3
    rw [HZ.out] at O2
    go_wp2_with fail
    refine ret_b rfl (T.out.put X2.out) rfl rfl (T.out.fin X2.out ⟨O2.out.1, O2.out.2.1, Nat.le_trans O2.out.2.2 (by omega)⟩ X1.out.size)
  · have hlt : x.natAbs < y.natAbs := by omega
    have HZ : Hid (zv t (y.natAbs - x.natAbs) = x + y) := by show _ = _; rw [← zv_diff (fun e => HST.out e.symm) (by omega), ← HX.out, ← HY.out, Int.add_comm]
    go_enter Try.func39, Try.ntmps39
    go_wp2_with fail
    generalize (((w.alloc (.cells #[.bool s, .slice A n c] 24)).alloc (.cells #[.bool t, .slice B m d] 24)).alloc (.cells #[.bool false, .slice none 0 0] 24)) = wA at *
    refine (sub_no (H.out.nv.1.ext T.out.x) (H'.out.nv.1.ext T.out.x) (by omega) hlt).mono ?_
    rintro E w1 ⟨rfl, x1⟩
    have X1 := hid x1
    obtain ⟨hq0, hq1, hq2, hq3⟩ := T.out.cs x1
    clear x1
    go_wp2_with fail
    refine (sub_yes (H'.out.nv.1.ext (T.out.x.trans X1.out)) (H.out.nv.1.ext (T.out.x.trans X1.out)) (by omega) (Nat.le_of_lt hlt)).mono ?_
    rintro E w2 ⟨A2, n2, c2, rfl, o2, x2⟩
    have O2 := hid o2
    have X2 := hid (X1.out.trans x2)
    clear o2 x2 hq0 hq1 hq2 hq3
    obtain ⟨hq0, hq1, hq2, hq3⟩ := T.out.cs X2.out
    go_wp2_with fail
    refine (made_any O2.out.nv (by omega)).mono ?_
    rintro E w3 ⟨b3, A3, n3, c3, rfl, o3, x3⟩
    have X3 := hid (X2.out.trans x3)
    have O3 := hid o3
    obtain ⟨hr0, hr1, hr2, hr3⟩ := T.out.cr X3.out
    clear o3 x3 hq0 hq1 hq2 hq3
    rw [HZ.out] at O3
    go_wp2_with fail
    refine ret_b rfl (T.out.put X3.out) rfl rfl (T.out.fin X3.out ⟨O3.out.1, O3.out.2.1, Nat.le_trans O3.out.2.2 (by omega)⟩ X2.out.size)

theorem wadd_v {w : World} {s t : Bool} {A B : Option Addr} {n c m d K K' : Nat} {x y : Int} (h : Iz K w s A n c x) (h' : Iz K' w t B m d y) (hK : K + K' ≤ 1000000000) :
    Calls Try.prog 39 #[.agg #[.bool s, .slice A n c], .agg #[.bool t, .slice B m d]] w (RetI (K + K' + 1) (x + y) w) := by
  by_cases hst : s = t
  · subst hst; exact wadd_same h h' hK
  · exact wadd_diff hst h h' hK

set_option maxHeartbeats 1600000 in
theorem wsub_v {w : World} {s t : Bool} {A B : Option Addr} {n c m d K K' : Nat} {x y : Int} (h : Iz K w s A n c x) (h' : Iz K' w t B m d y) (hK : K + K' ≤ 1000000000) :
    Calls Try.prog 41 #[.agg #[.bool s, .slice A n c], .agg #[.bool t, .slice B m d]] w (RetI (K + K' + 1) (x - y) w) := by
  have T := hid (Tri.mk' w s A n c t B m d)
  have H := hid h
  have H' := hid h'
  clear h h'
  go_enter Try.func41, Try.ntmps41
  go_wp2_with fail
  generalize (((w.alloc (.cells #[.bool s, .slice A n c] 24)).alloc (.cells #[.bool t, .slice B m d] 24)).alloc (.cells #[.bool false, .slice none 0 0] 24)) = wA at *
  have t1 := hid (fun W (X : Ext wA W) => neg_v (H'.out.ext (T.out.x.trans X)) (by omega))
  have t2 := hid (fun W (X : Ext wA W) => H.out.ext (T.out.x.trans X))
  have hk0 := T.out.cs (Ext.refl wA)
  go_region_held3 (fun w' => w'.cell? ⟨w.heap.size, 0, none⟩ = some (.bool s) ∧ w'.cell? ⟨w.heap.size, 1, none⟩ = some (.slice A n c) ∧ w'.cell? ⟨w.heap.size + 1, 0, none⟩ = some (.bool t) ∧ w'.cell? ⟨w.heap.size + 1, 1, none⟩ = some (.slice B m d)) (first | exact hk0 | exact hk1 | exact hk2 | exact hk3 _ _)
    (first
      | ((go_at_call 43); (with_reducible refine (t1.out _ (Ext.refl _).drew).mono ?_); rintro e w1 ⟨b1, A1, n1, c1, rfl, o1, x1⟩; have hk1 := T.out.cs ((Ext.refl _).drew.trans x1); have O1 := hid o1; have X1 := hid ((Ext.refl _).drew.trans x1); clear o1 x1 t1)
      | ((go_at_call 39); (with_reducible refine (wadd_v (t2.out _ X1.out) O1.out.iz (by omega)).mono ?_); rintro e w2 ⟨b2, A2, n2, c2, rfl, o2, x2⟩; have hk2 := T.out.cs (X1.out.trans x2); have hk3 := fun u v => T.out.cp (X1.out.trans x2) u v; obtain ⟨hr0, hr1, hr2, hr3⟩ := T.out.cr (X1.out.trans x2); have O2 := hid o2; have X2 := hid (X1.out.trans x2); clear o2 x2))
  clear hk0 hk1 hk2 hk3 hr0 hr1 hr2 hr3
  rw [← Int.sub_eq_add_neg] at O2
  go_wp2_with fail
  refine ret_b rfl (T.out.put X2.out) rfl rfl (T.out.fin X2.out O2.out X1.out.size)

set_option maxHeartbeats 1600000 in
theorem wmul_v {w : World} {s t : Bool} {A B : Option Addr} {n c m d K K' : Nat} {x y : Int} (h : Iz K w s A n c x) (h' : Iz K' w t B m d y) (hK : K + K' ≤ 536870000) :
    Calls Try.prog 31 #[.agg #[.bool s, .slice A n c], .agg #[.bool t, .slice B m d]] w (RetI (K + K') (x * y) w) := by
  have T := hid (Tri.mk' w s A n c t B m d)
  have HZ : Hid (zv (!(s == t)) (x.natAbs * y.natAbs) = x * y) := by
    have e := zv_mul s t x.natAbs y.natAbs
    rw [← h.nv.2, ← h'.nv.2] at e
    exact e.symm
  have H := hid h
  have H' := hid h'
  clear h h'
  go_enter Try.func31, Try.ntmps31
  go_wp2_with fail
  generalize (((w.alloc (.cells #[.bool s, .slice A n c] 24)).alloc (.cells #[.bool t, .slice B m d] 24)).alloc (.cells #[.bool false, .slice none 0 0] 24)) = wA at *
  have t1 := hid (fun W (X : Ext wA W) => mul_v (H.out.nv.1.ext (T.out.x.trans X)) (H'.out.nv.1.ext (T.out.x.trans X)) (by omega))
  have hk0 := T.out.cs (Ext.refl wA)
  go_region_held3 (fun w' => w'.cell? ⟨w.heap.size, 0, none⟩ = some (.bool s) ∧ w'.cell? ⟨w.heap.size, 1, none⟩ = some (.slice A n c) ∧ w'.cell? ⟨w.heap.size + 1, 0, none⟩ = some (.bool t) ∧ w'.cell? ⟨w.heap.size + 1, 1, none⟩ = some (.slice B m d)) (first | exact hk0 | exact hk1 | exact hk2 | exact hk3 _ _)
    (first
      | ((go_at_call 71); (with_reducible refine (t1.out _ (Ext.refl _).drew).mono ?_); rintro e w1 ⟨A1, n1, c1, rfl, o1, x1⟩; have hk1 := T.out.cs ((Ext.refl _).drew.trans x1); have O1 := hid o1; have X1 := hid ((Ext.refl _).drew.trans x1); clear o1 x1 t1)
      | ((go_at_call 70); (with_reducible refine (made_any (s := !(s == t)) O1.out.nv (by omega)).mono ?_); rintro e w2 ⟨b2, A2, n2, c2, rfl, o2, x2⟩; have hk2 := T.out.cs (X1.out.trans x2); have hk3 := fun u v => T.out.cp (X1.out.trans x2) u v; obtain ⟨hr0, hr1, hr2, hr3⟩ := T.out.cr (X1.out.trans x2); have O2 := hid o2; have X2 := hid (X1.out.trans x2); clear o2 x2))
  clear hk0 hk1 hk2 hk3 hr0 hr1 hr2 hr3
  rw [HZ.out] at O2
  go_wp2_with fail
  refine ret_b rfl (T.out.put X2.out) rfl rfl (T.out.fin X2.out O2.out X1.out.size)

theorem wcmp_v {w : World} {s t : Bool} {A B : Option Addr} {n c m d K K' : Nat} {x y : Int} (h : Iz K w s A n c x) (h' : Iz K' w t B m d y) (hK : K + K' ≤ 1000000000) :
    Calls Try.prog 42 #[.agg #[.bool s, .slice A n c], .agg #[.bool t, .slice B m d]] w (RetE (.int .i64 (sg (x - y))) w) := by
  have X := hid (((Ext.refl w).alloc (.cells #[.bool s, .slice A n c] 24)).alloc (.cells #[.bool t, .slice B m d] 24))
  have H := hid h
  have H' := hid h'
  clear h h'
  go_enter Try.func42, Try.ntmps42
  go_wp2_with fail
  refine (wsub_v (H.out.ext X.out) (H'.out.ext X.out) hK).mono ?_
  rintro E w1 ⟨b1, A1, n1, c1, rfl, o1, x1⟩
  go_wp2_with fail
  refine (sign_v o1.iz (by omega)).mono ?_
  rintro E w2 ⟨rfl, x2⟩
  go_wp2_with fail
  go_ret
  exact ⟨rfl, (X.out.trans x1).trans x2⟩
end Go.Proofs.Ytmfgcjjoagdamaa
