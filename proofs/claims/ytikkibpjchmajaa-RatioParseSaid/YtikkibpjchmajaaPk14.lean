/-
  The contracts of layer 4's functions: whole.made, Neg, Sign ..
  The contracts of layer 4's Add, Sub, Mul, Cmp.
  The contracts of layer 4's Of, Small, May and of the document's Same.
  The contracts of layer 4's DivMod, Exact.
-/
import Derived.Test.YtikkibpjchmajaaPk8
import Derived.Test.YtikkibpjchmajaaPk11
import Derived.Test.YtikkibpjchmajaaPk13
import Derived.Deep.RegionHeld3
namespace Go.Proofs.Ytikkibpjchmajaa
open Go.RowKit
open Go.Lib (hid)

theorem made_any {w : World} {s : Bool} {A : Option Addr} {n c m K : Nat} (h : Nv K w A n c m) (hK : K ≤ 1099511627776) :
    Calls Try.prog 60 #[.bool s, .slice A n c] w (RetI K (zv s m) w) := by
  have H := hid h
  clear h
  go_enter Try.func60, Try.ntmps60
  go_wp2_with fail
  have HB := hid (Bx.new w false none 0 0)
  refine (trim_v (H.out.ext ((Ext.refl w).alloc _)) hK).mono ?_
  rintro E w1 ⟨A1, n1, c1, rfl, o1, x1⟩
  have hB := HB.out.ext x1
  have hc0 := hB.c0
  have hc1 := hB.c1
  have hf0 := hB.fr 0
  have hf1 := hB.fr 1
  have HB1 := hid hB
  have O1 := hid o1
  have X1 := hid (((Ext.refl w).alloc _).trans x1)
  have hn := o1.len
  have hfin : (s && decide (0 < n1)) = decide (zv s m < 0) := by
    rw [zv_lt]
    congr 1
    by_cases h0 : m = 0
    · subst h0; rw [hn]; rfl
    · have h1 := (cn_lenp o1 (by omega)).1
      rw [decide_eq_true h1, decide_eq_true (show 0 < m by omega)]
  have HF := hid hfin
  have HZ := hid (zv_abs s m)
  clear o1 x1 hn hfin hB
  cases s
  · go_wp2_with fail
    refine ret_b rfl HB1.out.put rfl rfl (fin_i ⟨by rw [← HF.out]; rfl, by rw [HZ.out]; exact O1.out⟩ (by rw [size_alloc]; omega) (Nat.le_refl _) X1.out)
  · go_wp2_with fail
    refine ret_b rfl HB1.out.put rfl rfl (fin_i ⟨by rw [← HF.out, Bool.true_and], by rw [HZ.out]; exact O1.out⟩ (by rw [size_alloc]; omega) (Nat.le_refl _) X1.out)

theorem neg_v {w : World} {s : Bool} {A : Option Addr} {n c K : Nat} {z : Int} (h : Iz K w s A n c z) (hK : K ≤ 1099511627776) :
    Calls Try.prog 32 #[.agg #[.bool s, .slice A n c]] w (RetI K (-z) w) := by
  have H := hid h
  clear h
  go_enter Try.func32, Try.ntmps32
  go_wp2_with fail
  have hb := hid (Bx.new (w.alloc (.cells #[.bool s, .slice A n c] 24)) false none 0 0)
  rw [size_alloc] at hb
  have hX := hid (((Ext.refl w).alloc (.cells #[.bool s, .slice A n c] 24)).alloc (.cells #[.bool false, .slice none 0 0] 24))
  refine (made_any (s := !s) (H.out.nv.1.ext hX.out) hK).mono ?_
  rintro E w1 ⟨b1, A1, n1, c1, rfl, o1, x1⟩
  have hB := hb.out.ext x1
  have hc0 := hB.c0
  have hc1 := hB.c1
  have hf0 := hB.fr 0
  have hf1 := hB.fr 1
  have HB1 := hid hB
  have O1 := hid o1
  have X1 := hid (hX.out.trans x1)
  have HZ : Hid (zv (!s) z.natAbs = -z) := by show _ = _; rw [zv_neg, ← H.out.nv.2]
  clear o1 x1 hB
  rw [HZ.out] at O1
  go_wp2_with fail
  refine ret_b rfl HB1.out.put rfl rfl (fin_i O1.out (by rw [size_alloc, size_alloc]; omega) (by omega) X1.out)

theorem sign_v {w : World} {s : Bool} {A : Option Addr} {n c K : Nat} {z : Int} (h : Iz K w s A n c z) (hK : K ≤ 1099511627776) :
    Calls Try.prog 30 #[.agg #[.bool s, .slice A n c]] w (RetE (.int .i64 (sg z)) w) := by
  have hX := hid ((Ext.refl w).alloc (.cells #[.bool s, .slice A n c] 24))
  have bt := hid (bits_v (h.nv.1.ext hX.out) hK)
  have hs := h.sgn
  clear h
  by_cases h0 : z = 0
  · subst h0
    have hb : bl (0 : Int).natAbs = 0 := rfl
    rw [hb] at bt
    clear hs hb
    go_enter Try.func30, Try.ntmps30
    go_wp2_with (go_at_call 57; refine bt.out.mono ?_; rintro E w' ⟨rfl, rfl⟩)
    go_ret
    exact ⟨rfl, hX.out⟩
  · have hs := hs h0
    have hb := (bl_bounds (show z.natAbs ≠ 0 by omega)).1
    generalize bl z.natAbs = L at *
    have hL : ((L : Int) == 0) = false := beq_eq_false_iff_ne.2 (by omega)
    by_cases hz : z < 0
    · rw [sg_neg hz]
      rw [decide_eq_true hz] at hs
      subst hs
      clear h0 hz
      go_enter Try.func30, Try.ntmps30
      go_wp2_with (go_at_call 57; refine bt.out.mono ?_; rintro E w' ⟨rfl, rfl⟩)
      go_ret
      exact ⟨rfl, hX.out⟩
    · rw [sg_pos (by omega)]
      rw [decide_eq_false hz] at hs
      subst hs
      clear h0 hz
      go_enter Try.func30, Try.ntmps30
      go_wp2_with (go_at_call 57; refine bt.out.mono ?_; rintro E w' ⟨rfl, rfl⟩)
      go_ret
      exact ⟨rfl, hX.out⟩
end Go.Proofs.Ytikkibpjchmajaa

namespace Go.Proofs.Ytikkibpjchmajaa
open Go.RowKit
open Go.Lib (hid)

/-- Two structs that were handed over, and the result's, in three blocks behind one another. -/
structure Tri (w wA : World) (s : Bool) (A : Option Addr) (n c : Nat) (t : Bool) (B : Option Addr) (m d : Nat) : Prop where
  x : Ext w wA
  b0 : Bx wA w.heap.size s A n c
  b1 : Bx wA (w.heap.size + 1) t B m d
  b2 : Bx wA (w.heap.size + 1 + 1) false none 0 0
  sz : wA.heap.size = w.heap.size + 3
theorem Tri.mk' (w : World) (s : Bool) (A : Option Addr) (n c : Nat) (t : Bool) (B : Option Addr) (m d : Nat) :
    Tri w (((w.alloc (.cells #[.bool s, .slice A n c] 24)).alloc (.cells #[.bool t, .slice B m d] 24)).alloc (.cells #[.bool false, .slice none 0 0] 24)) s A n c t B m d := by
  have h0 := Bx.new w s A n c
  have h1 := Bx.new (w.alloc (.cells #[.bool s, .slice A n c] 24)) t B m d
  have h2 := Bx.new ((w.alloc (.cells #[.bool s, .slice A n c] 24)).alloc (.cells #[.bool t, .slice B m d] 24)) false none 0 0
  rw [size_alloc] at h1 h2
  rw [size_alloc] at h2
  exact ⟨(((Ext.refl w).alloc _).alloc _).alloc _, (h0.ext ((Ext.refl _).alloc _)).ext ((Ext.refl _).alloc _), h1.ext ((Ext.refl _).alloc _), h2, by rw [size_alloc, size_alloc, size_alloc]⟩
/-- What of them is read. -/
abbrev TriC (w : World) (g : Nat) (s : Bool) (A : Option Addr) (n c : Nat) (t : Bool) (B : Option Addr) (m d : Nat) : Prop :=
  w.cell? ⟨g, 0, none⟩ = some (.bool s) ∧ w.cell? ⟨g, 1, none⟩ = some (.slice A n c) ∧ w.cell? ⟨g + 1, 0, none⟩ = some (.bool t) ∧ w.cell? ⟨g + 1, 1, none⟩ = some (.slice B m d)
/-- The result's cell. -/
def TriR (w : World) (g : Nat) : Prop :=
  w.cell? ⟨g + 1 + 1, 0, none⟩ = some (.bool false) ∧ w.cell? ⟨g + 1 + 1, 1, none⟩ = some (.slice none 0 0) ∧ w.frozen? ⟨g + 1 + 1, 0, none⟩ = false ∧ w.frozen? ⟨g + 1 + 1, 1, none⟩ = false
section
variable {w wA wB : World} {s t : Bool} {A B : Option Addr} {n c m d : Nat}
theorem Tri.cs (h : Tri w wA s A n c t B m d) (hx : Ext wA wB) : TriC wB w.heap.size s A n c t B m d :=
  ⟨(h.b0.ext hx).c0, (h.b0.ext hx).c1, (h.b1.ext hx).c0, (h.b1.ext hx).c1⟩
theorem Tri.cr (h : Tri w wA s A n c t B m d) (hx : Ext wA wB) : TriR wB w.heap.size :=
  ⟨(h.b2.ext hx).c0, (h.b2.ext hx).c1, (h.b2.ext hx).fr 0, (h.b2.ext hx).fr 1⟩
theorem Tri.cp (h : Tri w wA s A n c t B m d) (hx : Ext wA wB) (u v : Value) : TriC ((wB.setCell ⟨w.heap.size + 1 + 1, 0, none⟩ u).setCell ⟨w.heap.size + 1 + 1, 1, none⟩ v) w.heap.size s A n c t B m d :=
  have p0 := (h.b0.ext hx).grown (put_gb wB (w.heap.size + 1 + 1) u v) (by simp; omega)
  have p1 := (h.b1.ext hx).grown (put_gb wB (w.heap.size + 1 + 1) u v) (by simp)
  ⟨p0.c0, p0.c1, p1.c0, p1.c1⟩
theorem Tri.fin {K : Nat} {z : Int} {lo : Nat} {b : Bool} {C : Option Addr} {k l : Nat} (h : Tri w wA s A n c t B m d) (hx : Ext wA wB) (ho : Ci K wB lo b C k l z) (hlo : wA.heap.size ≤ lo) :
    RetI K z w (.returned (.agg #[.bool b, .slice C k l])) ((wB.setCell ⟨w.heap.size + 1 + 1, 0, none⟩ (.bool b)).setCell ⟨w.heap.size + 1 + 1, 1, none⟩ (.slice C k l)) :=
  fin_i ho (by have := h.sz; omega) (by omega) (h.x.trans hx)
theorem Tri.put (h : Tri w wA s A n c t B m d) (hx : Ext wA wB) {b : Bool} {C : Option Addr} {k l : Nat} : Bx ((wB.setCell ⟨w.heap.size + 1 + 1, 0, none⟩ (.bool b)).setCell ⟨w.heap.size + 1 + 1, 1, none⟩ (.slice C k l)) (w.heap.size + 1 + 1) b C k l := (h.b2.ext hx).put
end

set_option maxHeartbeats 1600000 in
theorem wadd_same {w : World} {s : Bool} {A B : Option Addr} {n c m d K K' : Nat} {x y : Int} (h : Iz K w s A n c x) (h' : Iz K' w s B m d y) (hK : K + K' ≤ 1000000000) :
    Calls Try.prog 56 #[.agg #[.bool s, .slice A n c], .agg #[.bool s, .slice B m d]] w (RetI (K + K' + 1) (x + y) w) := by
  have T := hid (Tri.mk' w s A n c s B m d)
  have HZ : Hid (zv s (x.natAbs + y.natAbs) = x + y) := by show _ = _; rw [← zv_same, ← h.nv.2, ← h'.nv.2]
  have H := hid h
  have H' := hid h'
  clear h h'
  go_enter Try.func56, Try.ntmps56
  go_wp2_with fail
  generalize (((w.alloc (.cells #[.bool s, .slice A n c] 24)).alloc (.cells #[.bool s, .slice B m d] 24)).alloc (.cells #[.bool false, .slice none 0 0] 24)) = wA at *
  have t1 := hid (fun W (X : Ext wA W) => add_v (H.out.nv.1.ext (T.out.x.trans X)) (H'.out.nv.1.ext (T.out.x.trans X)) (by omega))
  have hk0 := T.out.cs (Ext.refl wA)
  go_region_held3 (fun w' => w'.cell? ⟨w.heap.size, 0, none⟩ = some (.bool s) ∧ w'.cell? ⟨w.heap.size, 1, none⟩ = some (.slice A n c) ∧ w'.cell? ⟨w.heap.size + 1, 0, none⟩ = some (.bool s) ∧ w'.cell? ⟨w.heap.size + 1, 1, none⟩ = some (.slice B m d)) (first | exact hk0 | exact hk1 | exact hk2 | exact hk3 _ _)
    (first
      | ((go_at_call 71); (with_reducible refine (t1.out _ (Ext.refl _).drew).mono ?_); rintro e w1 ⟨A1, n1, c1, rfl, o1, x1⟩; have hk1 := T.out.cs ((Ext.refl _).drew.trans x1); have O1 := hid o1; have X1 := hid ((Ext.refl _).drew.trans x1); clear o1 x1 t1)
      | ((go_at_call 60); (with_reducible refine (made_any O1.out.nv (by omega)).mono ?_); rintro e w2 ⟨b2, A2, n2, c2, rfl, o2, x2⟩; have hk2 := T.out.cs (X1.out.trans x2); have hk3 := fun u v => T.out.cp (X1.out.trans x2) u v; obtain ⟨hr0, hr1, hr2, hr3⟩ := T.out.cr (X1.out.trans x2); have O2 := hid o2; have X2 := hid (X1.out.trans x2); clear o2 x2))
  clear hk0 hk1 hk2 hk3 hr0 hr1 hr2 hr3
  rw [HZ.out] at O2
  go_wp2_with fail
  refine ret_b rfl (T.out.put X2.out) rfl rfl (T.out.fin X2.out O2.out X1.out.size)

set_option maxHeartbeats 1600000 in
theorem wadd_diff {w : World} {s t : Bool} {A B : Option Addr} {n c m d K K' : Nat} {x y : Int} (hst : s ≠ t) (h : Iz K w s A n c x) (h' : Iz K' w t B m d y) (hK : K + K' ≤ 1000000000) :
    Calls Try.prog 56 #[.agg #[.bool s, .slice A n c], .agg #[.bool t, .slice B m d]] w (RetI (K + K' + 1) (x + y) w) := by
  have T := hid (Tri.mk' w s A n c t B m d)
  have HX := hid h.nv.2
  have HY := hid h'.nv.2
  have H := hid h
  have H' := hid h'
  have hf : (s == t) = false := by cases s <;> cases t <;> simp_all
  have HST := hid hst
  clear h h' hst
  by_cases hle : y.natAbs ≤ x.natAbs
  · have HZ : Hid (zv s (x.natAbs - y.natAbs) = x + y) := by show _ = _; rw [← zv_diff HST.out hle, ← HX.out, ← HY.out]
    go_enter Try.func56, Try.ntmps56
    go_wp2_with fail
    generalize (((w.alloc (.cells #[.bool s, .slice A n c] 24)).alloc (.cells #[.bool t, .slice B m d] 24)).alloc (.cells #[.bool false, .slice none 0 0] 24)) = wA at *
    refine (sub_yes (H.out.nv.1.ext T.out.x) (H'.out.nv.1.ext T.out.x) (by omega) hle).mono ?_
    rintro E w1 ⟨A1, n1, c1, rfl, o1, x1⟩
    have O1 := hid o1
    have X1 := hid x1
    obtain ⟨hq0, hq1, hq2, hq3⟩ := T.out.cs x1
    clear o1 x1
    go_wp2_with fail
    refine (made_any O1.out.nv (by omega)).mono ?_
    rintro E w2 ⟨b2, A2, n2, c2, rfl, o2, x2⟩
    have X2 := hid (X1.out.trans x2)
    have O2 := hid o2
    obtain ⟨hr0, hr1, hr2, hr3⟩ := T.out.cr X2.out
    clear o2 x2 hq0 hq1 hq2 hq3
    rw [HZ.out] at O2
    go_wp2_with fail
    refine ret_b rfl (T.out.put X2.out) rfl rfl (T.out.fin X2.out ⟨O2.out.1, O2.out.2.1, Nat.le_trans O2.out.2.2 (by omega)⟩ X1.out.size)
  · have hlt : x.natAbs < y.natAbs := by omega
    have HZ : Hid (zv t (y.natAbs - x.natAbs) = x + y) := by show _ = _; rw [← zv_diff (fun e => HST.out e.symm) (by omega), ← HX.out, ← HY.out, Int.add_comm]
    go_enter Try.func56, Try.ntmps56
    go_wp2_with fail
    generalize (((w.alloc (.cells #[.bool s, .slice A n c] 24)).alloc (.cells #[.bool t, .slice B m d] 24)).alloc (.cells #[.bool false, .slice none 0 0] 24)) = wA at *
    refine (sub_no (H.out.nv.1.ext T.out.x) (H'.out.nv.1.ext T.out.x) (by omega) hlt).mono ?_
    rintro E w1 ⟨rfl, x1⟩
    have X1 := hid x1
    obtain ⟨hq0, hq1, hq2, hq3⟩ := T.out.cs x1
    clear x1
    go_wp2_with fail
    refine (sub_yes (H'.out.nv.1.ext (T.out.x.trans X1.out)) (H.out.nv.1.ext (T.out.x.trans X1.out)) (by omega) (Nat.le_of_lt hlt)).mono ?_
    rintro E w2 ⟨A2, n2, c2, rfl, o2, x2⟩
    have O2 := hid o2
    have X2 := hid (X1.out.trans x2)
    clear o2 x2 hq0 hq1 hq2 hq3
    obtain ⟨hq0, hq1, hq2, hq3⟩ := T.out.cs X2.out
    go_wp2_with fail
    refine (made_any O2.out.nv (by omega)).mono ?_
    rintro E w3 ⟨b3, A3, n3, c3, rfl, o3, x3⟩
    have X3 := hid (X2.out.trans x3)
    have O3 := hid o3
    obtain ⟨hr0, hr1, hr2, hr3⟩ := T.out.cr X3.out
    clear o3 x3 hq0 hq1 hq2 hq3
    rw [HZ.out] at O3
    go_wp2_with fail
    refine ret_b rfl (T.out.put X3.out) rfl rfl (T.out.fin X3.out ⟨O3.out.1, O3.out.2.1, Nat.le_trans O3.out.2.2 (by omega)⟩ X2.out.size)

theorem wadd_v {w : World} {s t : Bool} {A B : Option Addr} {n c m d K K' : Nat} {x y : Int} (h : Iz K w s A n c x) (h' : Iz K' w t B m d y) (hK : K + K' ≤ 1000000000) :
    Calls Try.prog 56 #[.agg #[.bool s, .slice A n c], .agg #[.bool t, .slice B m d]] w (RetI (K + K' + 1) (x + y) w) := by
  by_cases hst : s = t
  · subst hst; exact wadd_same h h' hK
  · exact wadd_diff hst h h' hK

set_option maxHeartbeats 1600000 in
theorem wsub_v {w : World} {s t : Bool} {A B : Option Addr} {n c m d K K' : Nat} {x y : Int} (h : Iz K w s A n c x) (h' : Iz K' w t B m d y) (hK : K + K' ≤ 1000000000) :
    Calls Try.prog 77 #[.agg #[.bool s, .slice A n c], .agg #[.bool t, .slice B m d]] w (RetI (K + K' + 1) (x - y) w) := by
  have T := hid (Tri.mk' w s A n c t B m d)
  have H := hid h
  have H' := hid h'
  clear h h'
  go_enter Try.func77, Try.ntmps77
  go_wp2_with fail
  generalize (((w.alloc (.cells #[.bool s, .slice A n c] 24)).alloc (.cells #[.bool t, .slice B m d] 24)).alloc (.cells #[.bool false, .slice none 0 0] 24)) = wA at *
  have t1 := hid (fun W (X : Ext wA W) => neg_v (H'.out.ext (T.out.x.trans X)) (by omega))
  have t2 := hid (fun W (X : Ext wA W) => H.out.ext (T.out.x.trans X))
  have hk0 := T.out.cs (Ext.refl wA)
  go_region_held3 (fun w' => w'.cell? ⟨w.heap.size, 0, none⟩ = some (.bool s) ∧ w'.cell? ⟨w.heap.size, 1, none⟩ = some (.slice A n c) ∧ w'.cell? ⟨w.heap.size + 1, 0, none⟩ = some (.bool t) ∧ w'.cell? ⟨w.heap.size + 1, 1, none⟩ = some (.slice B m d)) (first | exact hk0 | exact hk1 | exact hk2 | exact hk3 _ _)
    (first
      | ((go_at_call 32); (with_reducible refine (t1.out _ (Ext.refl _).drew).mono ?_); rintro e w1 ⟨b1, A1, n1, c1, rfl, o1, x1⟩; have hk1 := T.out.cs ((Ext.refl _).drew.trans x1); have O1 := hid o1; have X1 := hid ((Ext.refl _).drew.trans x1); clear o1 x1 t1)
      | ((go_at_call 56); (with_reducible refine (wadd_v (t2.out _ X1.out) O1.out.iz (by omega)).mono ?_); rintro e w2 ⟨b2, A2, n2, c2, rfl, o2, x2⟩; have hk2 := T.out.cs (X1.out.trans x2); have hk3 := fun u v => T.out.cp (X1.out.trans x2) u v; obtain ⟨hr0, hr1, hr2, hr3⟩ := T.out.cr (X1.out.trans x2); have O2 := hid o2; have X2 := hid (X1.out.trans x2); clear o2 x2))
  clear hk0 hk1 hk2 hk3 hr0 hr1 hr2 hr3
  rw [← Int.sub_eq_add_neg] at O2
  go_wp2_with fail
  refine ret_b rfl (T.out.put X2.out) rfl rfl (T.out.fin X2.out O2.out X1.out.size)

set_option maxHeartbeats 1600000 in
theorem wmul_v {w : World} {s t : Bool} {A B : Option Addr} {n c m d K K' : Nat} {x y : Int} (h : Iz K w s A n c x) (h' : Iz K' w t B m d y) (hK : K + K' ≤ 536870000) :
    Calls Try.prog 54 #[.agg #[.bool s, .slice A n c], .agg #[.bool t, .slice B m d]] w (RetI (K + K') (x * y) w) := by
  have T := hid (Tri.mk' w s A n c t B m d)
  have HZ : Hid (zv (!(s == t)) (x.natAbs * y.natAbs) = x * y) := by
    have e := zv_mul s t x.natAbs y.natAbs
    rw [← h.nv.2, ← h'.nv.2] at e
    exact e.symm
  have H := hid h
  have H' := hid h'
  clear h h'
  go_enter Try.func54, Try.ntmps54
  go_wp2_with fail
  generalize (((w.alloc (.cells #[.bool s, .slice A n c] 24)).alloc (.cells #[.bool t, .slice B m d] 24)).alloc (.cells #[.bool false, .slice none 0 0] 24)) = wA at *
  have t1 := hid (fun W (X : Ext wA W) => mul_v (H.out.nv.1.ext (T.out.x.trans X)) (H'.out.nv.1.ext (T.out.x.trans X)) (by omega))
  have hk0 := T.out.cs (Ext.refl wA)
  go_region_held3 (fun w' => w'.cell? ⟨w.heap.size, 0, none⟩ = some (.bool s) ∧ w'.cell? ⟨w.heap.size, 1, none⟩ = some (.slice A n c) ∧ w'.cell? ⟨w.heap.size + 1, 0, none⟩ = some (.bool t) ∧ w'.cell? ⟨w.heap.size + 1, 1, none⟩ = some (.slice B m d)) (first | exact hk0 | exact hk1 | exact hk2 | exact hk3 _ _)
    (first
      | ((go_at_call 78); (with_reducible refine (t1.out _ (Ext.refl _).drew).mono ?_); rintro e w1 ⟨A1, n1, c1, rfl, o1, x1⟩; have hk1 := T.out.cs ((Ext.refl _).drew.trans x1); have O1 := hid o1; have X1 := hid ((Ext.refl _).drew.trans x1); clear o1 x1 t1)
      | ((go_at_call 60); (with_reducible refine (made_any (s := !(s == t)) O1.out.nv (by omega)).mono ?_); rintro e w2 ⟨b2, A2, n2, c2, rfl, o2, x2⟩; have hk2 := T.out.cs (X1.out.trans x2); have hk3 := fun u v => T.out.cp (X1.out.trans x2) u v; obtain ⟨hr0, hr1, hr2, hr3⟩ := T.out.cr (X1.out.trans x2); have O2 := hid o2; have X2 := hid (X1.out.trans x2); clear o2 x2))
  clear hk0 hk1 hk2 hk3 hr0 hr1 hr2 hr3
  rw [HZ.out] at O2
  go_wp2_with fail
  refine ret_b rfl (T.out.put X2.out) rfl rfl (T.out.fin X2.out O2.out X1.out.size)

theorem wcmp_v {w : World} {s t : Bool} {A B : Option Addr} {n c m d K K' : Nat} {x y : Int} (h : Iz K w s A n c x) (h' : Iz K' w t B m d y) (hK : K + K' ≤ 1000000000) :
    Calls Try.prog 51 #[.agg #[.bool s, .slice A n c], .agg #[.bool t, .slice B m d]] w (RetE (.int .i64 (sg (x - y))) w) := by
  have X := hid (((Ext.refl w).alloc (.cells #[.bool s, .slice A n c] 24)).alloc (.cells #[.bool t, .slice B m d] 24))
  have H := hid h
  have H' := hid h'
  clear h h'
  go_enter Try.func51, Try.ntmps51
  go_wp2_with fail
  refine (wsub_v (H.out.ext X.out) (H'.out.ext X.out) hK).mono ?_
  rintro E w1 ⟨b1, A1, n1, c1, rfl, o1, x1⟩
  go_wp2_with fail
  refine (sign_v o1.iz (by omega)).mono ?_
  rintro E w2 ⟨rfl, x2⟩
  go_wp2_with fail
  go_ret
  exact ⟨rfl, (X.out.trans x1).trans x2⟩
end Go.Proofs.Ytikkibpjchmajaa

namespace Go.Proofs.Ytikkibpjchmajaa
open Go.RowKit
open Go.Lib (hid)

theorem zsame_of {w : World} {s t : Bool} {A B : Option Addr} {n c m d : Nat} (hst : s = t) (h : ∀ W, Ext w W → Calls Try.prog 66 #[.slice A n c, .slice B m d] W (RetE (.bool true) W)) :
    Calls Try.prog 38 #[.agg #[.bool s, .slice A n c], .agg #[.bool t, .slice B m d]] w (RetE (.bool true) w) := by
  subst hst
  have X := hid (((Ext.refl w).alloc (.cells #[.bool s, .slice A n c] 24)).alloc (.cells #[.bool s, .slice B m d] 24))
  have hc := hid (h _ X.out)
  clear h
  cases s
  · go_enter Try.func38, Try.ntmps38
    go_wp2_with fail
    refine hc.out.mono ?_
    rintro E w1 ⟨rfl, x1⟩
    go_wp2_with fail
    go_ret
    exact ⟨rfl, X.out.trans x1⟩
  · go_enter Try.func38, Try.ntmps38
    go_wp2_with fail
    refine hc.out.mono ?_
    rintro E w1 ⟨rfl, x1⟩
    go_wp2_with fail
    go_ret
    exact ⟨rfl, X.out.trans x1⟩
/-- Two canonical numbers that are one. -/
theorem zsame_v {w : World} {s t : Bool} {A B : Option Addr} {n c m d K K' lo lo' : Nat} {x y : Int} (h : Ci K w lo s A n c x) (h' : Ci K' w lo' t B m d y) (hK : K ≤ 1099511627776) (he : x = y) :
    Calls Try.prog 38 #[.agg #[.bool s, .slice A n c], .agg #[.bool t, .slice B m d]] w (RetE (.bool true) w) := by
  subst he
  exact zsame_of (h.1.trans h'.1.symm) fun W hx => same_c (h.2.ext hx) (h'.2.ext hx) hK rfl

theorem wof_v {w : World} {n : Int} (h0 : -9223372036854775808 ≤ n) (h1 : n ≤ 9223372036854775807) : Calls Try.prog 34 #[.int .i64 n] w (RetI 2 n w) := by
  have hb := hid (Bx.new w false none 0 0)
  have X := hid ((Ext.refl w).alloc (.cells #[.bool false, .slice none 0 0] 24))
  by_cases hn : n < 0
  · have HE : Hid (IntKind.u64.wrap (-IntKind.u64.wrap n) = (n.natAbs : Int)) := by show _ = _; rw [IntKind.wrap_u64, IntKind.wrap_u64]; omega
    have hz : Hid (zv true n.natAbs = n) := by show _ = _; simp [zv]; omega
    have hbd : n.natAbs < 18446744073709551616 := by omega
    go_enter Try.func34, Try.ntmps34
    go_wp2_with fail
    refine (small_v HE.out hbd).mono ?_
    rintro E w1 ⟨A1, n1, c1, rfl, o1, x1⟩
    go_wp2_with fail
    refine (made_any o1.nv (by omega)).mono ?_
    rintro E w2 ⟨b2, A2, n2, c2, rfl, o2, x2⟩
    have O2 := hid o2
    rw [hz.out] at O2
    have X1 := hid (X.out.trans x1)
    have X2 := hid (X1.out.trans x2)
    have hsz : (w.alloc (.cells #[.bool false, .slice none 0 0] 24)).heap.size ≤ w1.heap.size := x1.size
    rw [size_alloc] at hsz
    have HB := hid ((hb.out.ext x1).ext x2)
    have hc0 := HB.out.c0
    have hc1 := HB.out.c1
    have hf0 := HB.out.fr 0
    have hf1 := HB.out.fr 1
    clear o1 o2 x1 x2
    go_wp2_with fail
    refine ret_b rfl HB.out.put rfl rfl (fin_i O2.out (by omega) (Nat.le_refl _) X2.out)
  · have HE : Hid (IntKind.u64.wrap n = (n.natAbs : Int)) := by show _ = _; rw [IntKind.wrap_u64]; omega
    have HE' : Hid (n = (n.natAbs : Int)) := by show _ = _; omega
    have hz : Hid (zv false n.natAbs = n) := by show _ = _; simp [zv]; omega
    have hbd : n.natAbs < 18446744073709551616 := by omega
    go_enter Try.func34, Try.ntmps34
    go_wp2_with fail
    first | (with_reducible refine (small_v HE'.out hbd).mono ?_) | (with_reducible refine (small_v HE.out hbd).mono ?_)
    rintro E w1 ⟨A1, n1, c1, rfl, o1, x1⟩
    go_wp2_with fail
    refine (made_any o1.nv (by omega)).mono ?_
    rintro E w2 ⟨b2, A2, n2, c2, rfl, o2, x2⟩
    have O2 := hid o2
    rw [hz.out] at O2
    have X1 := hid (X.out.trans x1)
    have X2 := hid (X1.out.trans x2)
    have hsz : (w.alloc (.cells #[.bool false, .slice none 0 0] 24)).heap.size ≤ w1.heap.size := x1.size
    rw [size_alloc] at hsz
    have HB := hid ((hb.out.ext x1).ext x2)
    have hc0 := HB.out.c0
    have hc1 := HB.out.c1
    have hf0 := HB.out.fr 0
    have hf1 := HB.out.fr 1
    clear o1 o2 x1 x2
    go_wp2_with fail
    refine ret_b rfl HB.out.put rfl rfl (fin_i O2.out (by omega) (Nat.le_refl _) X2.out)

theorem may_c {w : World} {s : Bool} {A : Option Addr} {n c K lo : Nat} {z : Int} (h : Ci K w lo s A n c z) (hK : K ≤ 1099511627776) : Calls Try.prog 53 #[.agg #[.bool s, .slice A n c]] w (RetE (.bool true) w) := by
  have X := hid ((Ext.refl w).alloc (.cells #[.bool s, .slice A n c] 24))
  by_cases h0 : z = 0
  · subst h0
    have hn := h.2.len0 rfl
    subst hn
    have hs : s = false := h.1
    clear h
    subst hs
    go_enter Try.func53, Try.ntmps53
    go_wp2_with (go_quiet (fail))
    go_ret
    exact ⟨rfl, X.out⟩
  · obtain ⟨j, g, x, rfl, rfl, hx0, hc⟩ := h.2.top (show z.natAbs ≠ 0 by omega)
    have hg := hc _ X.out
    have hxn : ((x : Int) != 0) = true := by rw [bne_iff_ne]; omega
    have hne : ((j : Int) + 1 == 0) = false := beq_eq_false_iff_ne.2 (by omega)
    have hjb : j ≤ 1099511627776 := by have := h.2.2; omega
    clear h hc hx0
    go_enter Try.func53, Try.ntmps53
    go_wp2_with (go_quiet (fail))
    go_ret
    exact ⟨rfl, X.out⟩

end Go.Proofs.Ytikkibpjchmajaa

namespace Go.Proofs.Ytikkibpjchmajaa
open Go.RowKit
open Go.Lib (hid)

def RetIIE (K K' : Nat) (q r err : Int) (w : World) : Ending → World → Prop := fun E w' => ∃ b A n c b' B m d, E = .returned (.tuple #[.agg #[.bool b, .slice A n c], .agg #[.bool b', .slice B m d], .int .i64 err]) ∧ Ci K w' w.heap.size b A n c q ∧ Ci K' w' w.heap.size b' B m d r ∧ Ext w w'

theorem zv_tdiv (s t : Bool) (m n : Nat) : zv (!(s == t)) (m / n) = (zv s m).tdiv (zv t n) := by
  cases s <;> cases t <;> simp [zv, Int.neg_tdiv, Int.tdiv_neg, Int.ofNat_tdiv]
theorem zv_tmod (s t : Bool) (m n : Nat) : zv s (m % n) = (zv s m).tmod (zv t n) := by
  have e : (m : Int) % n = (m : Int).tmod n := (Int.tmod_eq_emod_of_nonneg (by omega)).symm
  cases s <;> cases t <;> simp [zv, Int.neg_tmod, Int.tmod_neg, e]

theorem Ci.put {K : Nat} {w : World} {lo g : Nat} {b : Bool} {A : Option Addr} {n c : Nat} {z : Int} {u v : Value} (h : Ci K w lo b A n c z) (hg : g < lo) : Ci K ((w.setCell ⟨g, 0, none⟩ u).setCell ⟨g, 1, none⟩ v) lo b A n c z := ⟨h.1, h.2.put hg⟩
theorem Bx.other {w : World} {g g' : Nat} {s : Bool} {A : Option Addr} {n c : Nat} {u v : Value} (h : Bx w g s A n c) (hne : g ≠ g') : Bx ((w.setCell ⟨g', 0, none⟩ u).setCell ⟨g', 1, none⟩ v) g s A n c := h.grown (put_gb w g' u v) (by simpa using hne)

theorem results_ce {fn : Func} {p u : Tmp} (h : fn.results = #[.cell p 24, .tmp u]) (tmps : Array Value) (w : World) {g : Nat} {s : Bool} {A : Option Addr} {n c : Nat} (hB : Bx w g s A n c) (hp : tmps.getD p undef = .pointer (some ⟨g, 0, none⟩)) :
    (results fn tmps).run Try.prog w = .ok (.tuple #[.agg #[.bool s, .slice A n c], tmps.getD u undef]) w := by
  rw [results_cell_tmp h, hp]
  have := run_loadVar_row (P := Try.prog) w g _ 24 _ _ _ hB Try.underlying24 rfl info_int_s
  simp [asAddr, this, Result.andThen]
theorem ret_be {fn : Func} {p u : Tmp} {R : Ending → World → Prop} {a : Act} {w : World} {g : Nat} {s : Bool} {A : Option Addr} {n c : Nat} {v : Value} (h : fn.results = #[.cell p 24, .tmp u]) (hB : Bx w g s A n c)
    (hp : a.tmps.getD p undef = .pointer (some ⟨g, 0, none⟩)) (hv : a.tmps.getD u undef = v) (hd : a.defers = []) (hR : R (.returned (.tuple #[.agg #[.bool s, .slice A n c], v])) w) : bodyPost Try.prog fn R .ret a w :=
  bodyPost_ret (results_ce h _ _ hB hp) hd (by rw [hv]; exact hR)
theorem results_cce {fn : Func} {p q u : Tmp} (h : fn.results = #[.cell p 24, .cell q 24, .tmp u]) (tmps : Array Value) (w : World) {g g' : Nat} {s s' : Bool} {A A' : Option Addr} {n c n' c' : Nat} (hB : Bx w g s A n c) (hp : tmps.getD p undef = .pointer (some ⟨g, 0, none⟩))
    (hB' : Bx w g' s' A' n' c') (hp' : tmps.getD q undef = .pointer (some ⟨g', 0, none⟩)) :
    (results fn tmps).run Try.prog w = .ok (.tuple #[.agg #[.bool s, .slice A n c], .agg #[.bool s', .slice A' n' c'], tmps.getD u undef]) w := by
  have e1 := run_loadVar_row (P := Try.prog) w g _ 24 _ _ _ hB Try.underlying24 rfl info_int_s
  have e2 := run_loadVar_row (P := Try.prog) w g' _ 24 _ _ _ hB' Try.underlying24 rfl info_int_s
  have hp : tmps[p]?.getD undef = .pointer (some ⟨g, 0, none⟩) := by simpa using hp
  have hp' : tmps[q]?.getD undef = .pointer (some ⟨g', 0, none⟩) := by simpa using hp'
  simp [results, h, hp, hp', asAddr, e1, e2, Result.andThen]
theorem ret_bbe {fn : Func} {p q u : Tmp} {R : Ending → World → Prop} {a : Act} {w : World} {g g' : Nat} {s s' : Bool} {A A' : Option Addr} {n c n' c' : Nat} {v : Value} (h : fn.results = #[.cell p 24, .cell q 24, .tmp u]) (hB : Bx w g s A n c)
    (hp : a.tmps.getD p undef = .pointer (some ⟨g, 0, none⟩)) (hB' : Bx w g' s' A' n' c') (hp' : a.tmps.getD q undef = .pointer (some ⟨g', 0, none⟩)) (hv : a.tmps.getD u undef = v) (hd : a.defers = []) (hR : R (.returned (.tuple #[.agg #[.bool s, .slice A n c], .agg #[.bool s', .slice A' n' c'], v])) w) : bodyPost Try.prog fn R .ret a w :=
  bodyPost_ret (results_cce h _ _ hB hp hB' hp') hd (by rw [hv]; exact hR)

theorem wexact_zero {w : World} {s t : Bool} {A B : Option Addr} {n c m d K K' : Nat} {x : Int} (h : Iz K w s A n c x) (h' : Iz K' w t B m d 0) (hK : K + K' ≤ 1000000000) :
    Calls Try.prog 33 #[.agg #[.bool s, .slice A n c], .agg #[.bool t, .slice B m d]] w (RetIE 0 0 7 w) := by
  have T := hid (Tri.mk' w s A n c t B m d)
  have H := hid h
  have H' := hid h'
  clear h h'
  go_enter Try.func33, Try.ntmps33
  go_wp2_with fail
  generalize (((w.alloc (.cells #[.bool s, .slice A n c] 24)).alloc (.cells #[.bool t, .slice B m d] 24)).alloc (.cells #[.bool false, .slice none 0 0] 24)) = wA at *
  refine (exact_zero (H.out.nv.1.ext T.out.x) (H'.out.nv.1.ext T.out.x) (by omega)).mono ?_
  rintro E w1 ⟨rfl, x1⟩
  have X1 := hid x1
  obtain ⟨hr0, hr1, hr2, hr3⟩ := T.out.cr x1
  clear x1
  go_wp2_with fail
  refine ret_be rfl (T.out.put X1.out) rfl rfl rfl ?_
  have hsz := T.out.sz
  exact ⟨_, _, _, _, rfl, ⟨by decide, Cn.none⟩, (T.out.x.trans X1.out).put (by omega) _ _⟩
theorem wexact_no {w : World} {s t : Bool} {A B : Option Addr} {n c m d K K' : Nat} {x y : Int} (h : Iz K w s A n c x) (h' : Iz K' w t B m d y) (hK : K + K' ≤ 1000000000) (hy : y ≠ 0) (hr : x.natAbs % y.natAbs ≠ 0) :
    Calls Try.prog 33 #[.agg #[.bool s, .slice A n c], .agg #[.bool t, .slice B m d]] w (RetIE 0 0 2 w) := by
  have T := hid (Tri.mk' w s A n c t B m d)
  have H := hid h
  have H' := hid h'
  have HR := hid hr
  clear h h' hr
  go_enter Try.func33, Try.ntmps33
  go_wp2_with fail
  generalize (((w.alloc (.cells #[.bool s, .slice A n c] 24)).alloc (.cells #[.bool t, .slice B m d] 24)).alloc (.cells #[.bool false, .slice none 0 0] 24)) = wA at *
  refine (exact_no (H.out.nv.1.ext T.out.x) (H'.out.nv.1.ext T.out.x) (by omega) (by omega) HR.out).mono ?_
  rintro E w1 ⟨rfl, x1⟩
  have X1 := hid x1
  obtain ⟨hr0, hr1, hr2, hr3⟩ := T.out.cr x1
  clear x1
  go_wp2_with fail
  refine ret_be rfl (T.out.put X1.out) rfl rfl rfl ?_
  have hsz := T.out.sz
  exact ⟨_, _, _, _, rfl, ⟨by decide, Cn.none⟩, (T.out.x.trans X1.out).put (by omega) _ _⟩
set_option maxHeartbeats 1600000 in
theorem wexact_yes {w : World} {s t : Bool} {A B : Option Addr} {n c m d K K' : Nat} {x y : Int} (h : Iz K w s A n c x) (h' : Iz K' w t B m d y) (hK : K + K' ≤ 1000000000) (hy : y ≠ 0) (hr : x.natAbs % y.natAbs = 0) :
    Calls Try.prog 33 #[.agg #[.bool s, .slice A n c], .agg #[.bool t, .slice B m d]] w (RetIE K (x.tdiv y) 0 w) := by
  have T := hid (Tri.mk' w s A n c t B m d)
  have HZ : Hid (zv (!(s == t)) (x.natAbs / y.natAbs) = x.tdiv y) := by
    have e := zv_tdiv s t x.natAbs y.natAbs
    rw [← h.nv.2, ← h'.nv.2] at e
    exact e
  have H := hid h
  have H' := hid h'
  have HR := hid hr
  clear h h' hr
  go_enter Try.func33, Try.ntmps33
  go_wp2_with fail
  generalize (((w.alloc (.cells #[.bool s, .slice A n c] 24)).alloc (.cells #[.bool t, .slice B m d] 24)).alloc (.cells #[.bool false, .slice none 0 0] 24)) = wA at *
  refine (exact_yes (H.out.nv.1.ext T.out.x) (H'.out.nv.1.ext T.out.x) (by omega) (by omega) HR.out).mono ?_
  rintro E w1 ⟨A1, n1, c1, rfl, o1, x1⟩
  have X1 := hid x1
  have O1 := hid o1
  obtain ⟨hq0, hq1, hq2, hq3⟩ := T.out.cs x1
  clear x1 o1
  go_wp2_with fail
  refine (made_any (s := !(s == t)) O1.out.nv (by omega)).mono ?_
  rintro E w2 ⟨b2, A2, n2, c2, rfl, o2, x2⟩
  have X2 := hid (X1.out.trans x2)
  have O2 := hid o2
  obtain ⟨hr0, hr1, hr2, hr3⟩ := T.out.cr X2.out
  clear o2 x2 hq0 hq1 hq2 hq3
  rw [HZ.out] at O2
  go_wp2_with fail
  refine ret_be rfl (T.out.put X2.out) rfl rfl rfl ?_
  obtain ⟨b, A, n, c, e, hr⟩ := T.out.fin X2.out O2.out X1.out.size
  injection e with e
  exact ⟨_, _, _, _, by rw [e]; rfl, hr⟩

/-- As Tri, with two results' cells. -/
structure Quad (w wA : World) (s : Bool) (A : Option Addr) (n c : Nat) (t : Bool) (B : Option Addr) (m d : Nat) : Prop where
  x : Ext w wA
  b0 : Bx wA w.heap.size s A n c
  b1 : Bx wA (w.heap.size + 1) t B m d
  b2 : Bx wA (w.heap.size + 1 + 1) false none 0 0
  b3 : Bx wA (w.heap.size + 1 + 1 + 1) false none 0 0
  sz : wA.heap.size = w.heap.size + 4
theorem Quad.mk' (w : World) (s : Bool) (A : Option Addr) (n c : Nat) (t : Bool) (B : Option Addr) (m d : Nat) :
    Quad w ((((w.alloc (.cells #[.bool s, .slice A n c] 24)).alloc (.cells #[.bool t, .slice B m d] 24)).alloc (.cells #[.bool false, .slice none 0 0] 24)).alloc (.cells #[.bool false, .slice none 0 0] 24)) s A n c t B m d := by
  have T := Tri.mk' w s A n c t B m d
  have h3 := Bx.new (((w.alloc (.cells #[.bool s, .slice A n c] 24)).alloc (.cells #[.bool t, .slice B m d] 24)).alloc (.cells #[.bool false, .slice none 0 0] 24)) false none 0 0
  rw [T.sz] at h3
  have e := (Ext.refl (((w.alloc (.cells #[.bool s, .slice A n c] 24)).alloc (.cells #[.bool t, .slice B m d] 24)).alloc (.cells #[.bool false, .slice none 0 0] 24))).alloc (.cells #[.bool false, .slice none 0 0] 24)
  exact ⟨T.x.trans e, T.b0.ext e, T.b1.ext e, T.b2.ext e, h3, by rw [size_alloc, T.sz]⟩
def QuadR (w : World) (g : Nat) : Prop :=
  (w.cell? ⟨g + 1 + 1, 0, none⟩ = some (.bool false) ∧ w.cell? ⟨g + 1 + 1, 1, none⟩ = some (.slice none 0 0) ∧ w.frozen? ⟨g + 1 + 1, 0, none⟩ = false ∧ w.frozen? ⟨g + 1 + 1, 1, none⟩ = false) ∧
  w.cell? ⟨g + 1 + 1 + 1, 0, none⟩ = some (.bool false) ∧ w.cell? ⟨g + 1 + 1 + 1, 1, none⟩ = some (.slice none 0 0) ∧ w.frozen? ⟨g + 1 + 1 + 1, 0, none⟩ = false ∧ w.frozen? ⟨g + 1 + 1 + 1, 1, none⟩ = false
section
variable {w wA wB : World} {s t : Bool} {A B : Option Addr} {n c m d : Nat}
theorem Quad.cs (h : Quad w wA s A n c t B m d) (hx : Ext wA wB) : TriC wB w.heap.size s A n c t B m d := ⟨(h.b0.ext hx).c0, (h.b0.ext hx).c1, (h.b1.ext hx).c0, (h.b1.ext hx).c1⟩
theorem Quad.cr (h : Quad w wA s A n c t B m d) (hx : Ext wA wB) : QuadR wB w.heap.size :=
  ⟨⟨(h.b2.ext hx).c0, (h.b2.ext hx).c1, (h.b2.ext hx).fr 0, (h.b2.ext hx).fr 1⟩, (h.b3.ext hx).c0, (h.b3.ext hx).c1, (h.b3.ext hx).fr 0, (h.b3.ext hx).fr 1⟩
/-- Behind the first store. -/
theorem Quad.cp (h : Quad w wA s A n c t B m d) (hx : Ext wA wB) (u v : Value) : TriC ((wB.setCell ⟨w.heap.size + 1 + 1, 0, none⟩ u).setCell ⟨w.heap.size + 1 + 1, 1, none⟩ v) w.heap.size s A n c t B m d :=
  have p0 := (h.b0.ext hx).other (g' := w.heap.size + 1 + 1) (u := u) (v := v) (by omega)
  have p1 := (h.b1.ext hx).other (g' := w.heap.size + 1 + 1) (u := u) (v := v) (by omega)
  ⟨p0.c0, p0.c1, p1.c0, p1.c1⟩
/-- Behind both. -/
theorem Quad.cp2 (h : Quad w wA s A n c t B m d) (hx : Ext wA wB) (u v u' v' : Value) : TriC ((((wB.setCell ⟨w.heap.size + 1 + 1, 0, none⟩ u).setCell ⟨w.heap.size + 1 + 1, 1, none⟩ v).setCell ⟨w.heap.size + 1 + 1 + 1, 0, none⟩ u').setCell ⟨w.heap.size + 1 + 1 + 1, 1, none⟩ v') w.heap.size s A n c t B m d :=
  have p0 := ((h.b0.ext hx).other (g' := w.heap.size + 1 + 1) (u := u) (v := v) (by omega)).other (g' := w.heap.size + 1 + 1 + 1) (u := u') (v := v') (by omega)
  have p1 := ((h.b1.ext hx).other (g' := w.heap.size + 1 + 1) (u := u) (v := v) (by omega)).other (g' := w.heap.size + 1 + 1 + 1) (u := u') (v := v') (by omega)
  ⟨p0.c0, p0.c1, p1.c0, p1.c1⟩
end

end Go.Proofs.Ytikkibpjchmajaa

