
/-
  The contracts of layer 4's DivMod, Exact.
-/
import Derived.Test.YtmfgcjjoagdamaaWOf
namespace Go.Proofs.Ytmfgcjjoagdamaa
open Go.RowKit
open Go.Lib (hid)

def RetIIE (K K' : Nat) (q r err : Int) (w : World) : Ending → World → Prop := fun E w' => ∃ b A n c b' B m d, E = .returned (.tuple #[.agg #[.bool b, .slice A n c], .agg #[.bool b', .slice B m d], .int .i64 err]) ∧ Ci K w' w.heap.size b A n c q ∧ Ci K' w' w.heap.size b' B m d r ∧ Ext w w'

theorem zv_tdiv (s t : Bool) (m n : Nat) : zv (!(s == t)) (m / n) = (zv s m).tdiv (zv t n) := by
  cases s <;> cases t <;> simp [zv, Int.neg_tdiv, Int.tdiv_neg, Int.ofNat_tdiv]
theorem zv_tmod (s t : Bool) (m n : Nat) : zv s (m % n) = (zv s m).tmod (zv t n) := by
  have e : (m : Int) % n = (m : Int).tmod n := (Int.tmod_eq_emod_of_nonneg (by omega)).symm
  cases s <;> cases t <;> simp [zv, Int.neg_tmod, Int.tmod_neg, e]

theorem Ci.put {K : Nat} {w : World} {lo g : Nat} {b : Bool} {A : Option Addr} {n c : Nat} {z : Int} {u v : Value} (h : Ci K w lo b A n c z) (hg : g < lo) : Ci K ((w.setCell ⟨g, 0, none⟩ u).setCell ⟨g, 1, none⟩ v) lo b A n c z := ⟨h.1, h.2.put hg⟩
theorem Bx.other {w : World} {g g' : Nat} {s : Bool} {A : Option Addr} {n c : Nat} {u v : Value} (h : Bx w g s A n c) (hne : g ≠ g') : Bx ((w.setCell ⟨g', 0, none⟩ u).setCell ⟨g', 1, none⟩ v) g s A n c := h.grown (put_gb w g' u v) (by simpa using hne)

theorem results_ce {fn : Func} {p u : Tmp} (h : fn.results = #[.cell p 24, .tmp u]) (tmps : Array Value) (w : World) {g : Nat} {s : Bool} {A : Option Addr} {n c : Nat} (hB : Bx w g s A n c) (hp : tmps.getD p undef = .pointer (some ⟨g, 0, none⟩)) :
    (results fn tmps).run Try.prog w = .ok (.tuple #[.agg #[.bool s, .slice A n c], tmps.getD u undef]) w := by
  rw [results_cell_tmp h, hp]
  have := run_loadVar_row (P := Try.prog) w g _ 24 _ _ _ hB Try.underlying24 rfl info_int_s
  simp [asAddr, this, Result.andThen]
theorem ret_be {fn : Func} {p u : Tmp} {R : Ending → World → Prop} {a : Act} {w : World} {g : Nat} {s : Bool} {A : Option Addr} {n c : Nat} {v : Value} (h : fn.results = #[.cell p 24, .tmp u]) (hB : Bx w g s A n c)
    (hp : a.tmps.getD p undef = .pointer (some ⟨g, 0, none⟩)) (hv : a.tmps.getD u undef = v) (hd : a.defers = []) (hR : R (.returned (.tuple #[.agg #[.bool s, .slice A n c], v])) w) : bodyPost Try.prog fn R .ret a w :=
  bodyPost_ret (results_ce h _ _ hB hp) hd (by rw [hv]; exact hR)
theorem results_cce {fn : Func} {p q u : Tmp} (h : fn.results = #[.cell p 24, .cell q 24, .tmp u]) (tmps : Array Value) (w : World) {g g' : Nat} {s s' : Bool} {A A' : Option Addr} {n c n' c' : Nat} (hB : Bx w g s A n c) (hp : tmps.getD p undef = .pointer (some ⟨g, 0, none⟩))
    (hB' : Bx w g' s' A' n' c') (hp' : tmps.getD q undef = .pointer (some ⟨g', 0, none⟩)) :
    (results fn tmps).run Try.prog w = .ok (.tuple #[.agg #[.bool s, .slice A n c], .agg #[.bool s', .slice A' n' c'], tmps.getD u undef]) w := by
  have e1 := run_loadVar_row (P := Try.prog) w g _ 24 _ _ _ hB Try.underlying24 rfl info_int_s
  have e2 := run_loadVar_row (P := Try.prog) w g' _ 24 _ _ _ hB' Try.underlying24 rfl info_int_s
  have hp : tmps[p]?.getD undef = .pointer (some ⟨g, 0, none⟩) := by simpa using hp
  have hp' : tmps[q]?.getD undef = .pointer (some ⟨g', 0, none⟩) := by simpa using hp'
  simp [results, h, hp, hp', asAddr, e1, e2, Result.andThen]
theorem ret_bbe {fn : Func} {p q u : Tmp} {R : Ending → World → Prop} {a : Act} {w : World} {g g' : Nat} {s s' : Bool} {A A' : Option Addr} {n c n' c' : Nat} {v : Value} (h : fn.results = #[.cell p 24, .cell q 24, .tmp u]) (hB : Bx w g s A n c)
    (hp : a.tmps.getD p undef = .pointer (some ⟨g, 0, none⟩)) (hB' : Bx w g' s' A' n' c') (hp' : a.tmps.getD q undef = .pointer (some ⟨g', 0, none⟩)) (hv : a.tmps.getD u undef = v) (hd : a.defers = []) (hR : R (.returned (.tuple #[.agg #[.bool s, .slice A n c], .agg #[.bool s', .slice A' n' c'], v])) w) : bodyPost Try.prog fn R .ret a w :=
  bodyPost_ret (results_cce h _ _ hB hp hB' hp') hd (by rw [hv]; exact hR)

theorem wexact_zero {w : World} {s t : Bool} {A B : Option Addr} {n c m d K K' : Nat} {x : Int} (h : Iz K w s A n c x) (h' : Iz K' w t B m d 0) (hK : K + K' ≤ 1000000000) :
    Calls Try.prog 35 #[.agg #[.bool s, .slice A n c], .agg #[.bool t, .slice B m d]] w (RetIE 0 0 7 w) := by
  have T := hid (Tri.mk' w s A n c t B m d)
  have H := hid h
  have H' := hid h'
  clear h h'
  go_enter Try.func35, Try.ntmps35
  go_wp2_with fail
  generalize (((w.alloc (.cells #[.bool s, .slice A n c] 24)).alloc (.cells #[.bool t, .slice B m d] 24)).alloc (.cells #[.bool false, .slice none 0 0] 24)) = wA at *
  refine (exact_zero (H.out.nv.1.ext T.out.x) (H'.out.nv.1.ext T.out.x) (by omega)).mono ?_
  rintro E w1 ⟨rfl, x1⟩
  have X1 := hid x1
  obtain ⟨hr0, hr1, hr2, hr3⟩ := T.out.cr x1
  clear x1
  go_wp2_with fail
  refine ret_be rfl (T.out.put X1.out) rfl rfl rfl ?_
  have hsz := T.out.sz
  exact ⟨_, _, _, _, rfl, ⟨by decide, Cn.none⟩, (T.out.x.trans X1.out).put (by omega) _ _⟩
theorem wexact_no {w : World} {s t : Bool} {A B : Option Addr} {n c m d K K' : Nat} {x y : Int} (h : Iz K w s A n c x) (h' : Iz K' w t B m d y) (hK : K + K' ≤ 1000000000) (hy : y ≠ 0) (hr : x.natAbs % y.natAbs ≠ 0) :
    Calls Try.prog 35 #[.agg #[.bool s, .slice A n c], .agg #[.bool t, .slice B m d]] w (RetIE 0 0 2 w) := by
  have T := hid (Tri.mk' w s A n c t B m d)
  have H := hid h
  have H' := hid h'
  have HR := hid hr
  clear h h' hr
  go_enter Try.func35, Try.ntmps35
  go_wp2_with fail
  generalize (((w.alloc (.cells #[.bool s, .slice A n c] 24)).alloc (.cells #[.bool t, .slice B m d] 24)).alloc (.cells #[.bool false, .slice none 0 0] 24)) = wA at *
  refine (exact_no (H.out.nv.1.ext T.out.x) (H'.out.nv.1.ext T.out.x) (by omega) (by omega) HR.out).mono ?_
  rintro E w1 ⟨rfl, x1⟩
  have X1 := hid x1
  obtain ⟨hr0, hr1, hr2, hr3⟩ := T.out.cr x1
  clear x1
  go_wp2_with fail
  refine ret_be rfl (T.out.put X1.out) rfl rfl rfl ?_
  have hsz := T.out.sz
  exact ⟨_, _, _, _, rfl, ⟨by decide, Cn.none⟩, (T.out.x.trans X1.out).put (by omega) _ _⟩
set_option maxHeartbeats 1600000 in
theorem wexact_yes {w : World} {s t : Bool} {A B : Option Addr} {n c m d K K' : Nat} {x y : Int} (h : Iz K w s A n c x) (h' : Iz K' w t B m d y) (hK : K + K' ≤ 1000000000) (hy : y ≠ 0) (hr : x.natAbs % y.natAbs = 0) :
    Calls Try.prog 35 #[.agg #[.bool s, .slice A n c], .agg #[.bool t, .slice B m d]] w (RetIE K (x.tdiv y) 0 w) := by
  have T := hid (Tri.mk' w s A n c t B m d)
  have HZ : Hid (zv (!(s == t)) (x.natAbs / y.natAbs) = x.tdiv y) := by
    have e := zv_tdiv s t x.natAbs y.natAbs
    rw [← h.nv.2, ← h'.nv.2] at e
    exact e
  have H := hid h
  have H' := hid h'
  have HR := hid hr
  clear h h' hr
  go_enter Try.func35, Try.ntmps35
  go_wp2_with fail
  generalize (((w.alloc (.cells #[.bool s, .slice A n c] 24)).alloc (.cells #[.bool t, .slice B m d] 24)).alloc (.cells #[.bool false, .slice none 0 0] 24)) = wA at *
  refine (exact_yes (H.out.nv.1.ext T.out.x) (H'.out.nv.1.ext T.out.x) (by omega) (by omega) HR.out).mono ?_
  rintro E w1 ⟨A1, n1, c1, rfl, o1, x1⟩
  have X1 := hid x1
  have O1 := hid o1
  obtain ⟨hq0, hq1, hq2, hq3⟩ := T.out.cs x1
  clear x1 o1
  go_wp2_with fail
  refine (made_any (s := !(s == t)) O1.out.nv (by omega)).mono ?_
  rintro E w2 ⟨b2, A2, n2, c2, rfl, o2, x2⟩
  have X2 := hid (X1.out.trans x2)
  have O2 := hid o2
  obtain ⟨hr0, hr1, hr2, hr3⟩ := T.out.cr X2.out
  clear o2 x2 hq0 hq1 hq2 hq3
  rw [HZ.out] at O2
  go_wp2_with fail
  refine ret_be rfl (T.out.put X2.out) rfl rfl rfl ?_
  obtain ⟨b, A, n, c, e, hr⟩ := T.out.fin X2.out O2.out X1.out.size
  injection e with e
  exact ⟨_, _, _, _, by rw [e]; rfl, hr⟩

/-- As Tri, with two results' cells. -/
structure Quad (w wA : World) (s : Bool) (A : Option Addr) (n c : Nat) (t : Bool) (B : Option Addr) (m d : Nat) : Prop where
  x : Ext w wA
  b0 : Bx wA w.heap.size s A n c
  b1 : Bx wA (w.heap.size + 1) t B m d
  b2 : Bx wA (w.heap.size + 1 + 1) false none 0 0
  b3 : Bx wA (w.heap.size + 1 + 1 + 1) false none 0 0
  sz : wA.heap.size = w.heap.size + 4
theorem Quad.mk' (w : World) (s : Bool) (A : Option Addr) (n c : Nat) (t : Bool) (B : Option Addr) (m d : Nat) :
    Quad w ((((w.alloc (.cells #[.bool s, .slice A n c] 24)).alloc (.cells #[.bool t, .slice B m d] 24)).alloc (.cells #[.bool false, .slice none 0 0] 24)).alloc (.cells #[.bool false, .slice none 0 0] 24)) s A n c t B m d := by
  have T := Tri.mk' w s A n c t B m d
  have h3 := Bx.new (((w.alloc (.cells #[.bool s, .slice A n c] 24)).alloc (.cells #[.bool t, .slice B m d] 24)).alloc (.cells #[.bool false, .slice none 0 0] 24)) false none 0 0
  rw [T.sz] at h3
  have e := (Ext.refl (((w.alloc (.cells #[.bool s, .slice A n c] 24)).alloc (.cells #[.bool t, .slice B m d] 24)).alloc (.cells #[.bool false, .slice none 0 0] 24))).alloc (.cells #[.bool false, .slice none 0 0] 24)
  exact ⟨T.x.trans e, T.b0.ext e, T.b1.ext e, T.b2.ext e, h3, by rw [size_alloc, T.sz]⟩
def QuadR (w : World) (g : Nat) : Prop :=
  (w.cell? ⟨g + 1 + 1, 0, none⟩ = some (.bool false) ∧ w.cell? ⟨g + 1 + 1, 1, none⟩ = some (.slice none 0 0) ∧ w.frozen? ⟨g + 1 + 1, 0, none⟩ = false ∧ w.frozen? ⟨g + 1 + 1, 1, none⟩ = false) ∧
  w.cell? ⟨g + 1 + 1 + 1, 0, none⟩ = some (.bool false) ∧ w.cell? ⟨g + 1 + 1 + 1, 1, none⟩ = some (.slice none 0 0) ∧ w.frozen? ⟨g + 1 + 1 + 1, 0, none⟩ = false ∧ w.frozen? ⟨g + 1 + 1 + 1, 1, none⟩ = false
section
variable {w wA wB : World} {s t : Bool} {A B : Option Addr} {n c m d : Nat}
theorem Quad.cs (h : Quad w wA s A n c t B m d) (hx : Ext wA wB) : TriC wB w.heap.size s A n c t B m d := ⟨(h.b0.ext hx).c0, (h.b0.ext hx).c1, (h.b1.ext hx).c0, (h.b1.ext hx).c1⟩
theorem Quad.cr (h : Quad w wA s A n c t B m d) (hx : Ext wA wB) : QuadR wB w.heap.size :=
  ⟨⟨(h.b2.ext hx).c0, (h.b2.ext hx).c1, (h.b2.ext hx).fr 0, (h.b2.ext hx).fr 1⟩, (h.b3.ext hx).c0, (h.b3.ext hx).c1, (h.b3.ext hx).fr 0, (h.b3.ext hx).fr 1⟩
/-- Behind the first store. -/
theorem Quad.cp (h : Quad w wA s A n c t B m d) (hx : Ext wA wB) (u v : Value) : TriC ((wB.setCell ⟨w.heap.size + 1 + 1, 0, none⟩ u).setCell ⟨w.heap.size + 1 + 1, 1, none⟩ v) w.heap.size s A n c t B m d :=
  have p0 := (h.b0.ext hx).other (g' := w.heap.size + 1 + 1) (u := u) (v := v) (by omega)
  have p1 := (h.b1.ext hx).other (g' := w.heap.size + 1 + 1) (u := u) (v := v) (by omega)
  ⟨p0.c0, p0.c1, p1.c0, p1.c1⟩
/-- Behind both. -/
theorem Quad.cp2 (h : Quad w wA s A n c t B m d) (hx : Ext wA wB) (u v u' v' : Value) : TriC ((((wB.setCell ⟨w.heap.size + 1 + 1, 0, none⟩ u).setCell ⟨w.heap.size + 1 + 1, 1, none⟩ v).setCell ⟨w.heap.size + 1 + 1 + 1, 0, none⟩ u').setCell ⟨w.heap.size + 1 + 1 + 1, 1, none⟩ v') w.heap.size s A n c t B m d :=
  have p0 := ((h.b0.ext hx).other (g' := w.heap.size + 1 + 1) (u := u) (v := v) (by omega)).other (g' := w.heap.size + 1 + 1 + 1) (u := u') (v := v') (by omega)
  have p1 := ((h.b1.ext hx).other (g' := w.heap.size + 1 + 1) (u := u) (v := v) (by omega)).other (g' := w.heap.size + 1 + 1 + 1) (u := u') (v := v') (by omega)
  ⟨p0.c0, p0.c1, p1.c0, p1.c1⟩
end

set_option maxHeartbeats 3200000 in
theorem wdivmod_v {w : World} {s t : Bool} {A B : Option Addr} {n c m d K K' : Nat} {x y : Int} (h : Iz K w s A n c x) (h' : Iz K' w t B m d y) (hK : K + K' ≤ 1000000000) (hy : y ≠ 0) :
    Calls Try.prog 34 #[.agg #[.bool s, .slice A n c], .agg #[.bool t, .slice B m d]] w (RetIIE K K' (x.tdiv y) (x.tmod y) 0 w) := by
  have T := hid (Quad.mk' w s A n c t B m d)
  have HZ : Hid (zv (!(s == t)) (x.natAbs / y.natAbs) = x.tdiv y) := by
    have e := zv_tdiv s t x.natAbs y.natAbs
    rw [← h.nv.2, ← h'.nv.2] at e
    exact e
  have HZ2 : Hid (zv s (x.natAbs % y.natAbs) = x.tmod y) := by
    have e := zv_tmod s t x.natAbs y.natAbs
    rw [← h.nv.2, ← h'.nv.2] at e
    exact e
  have H := hid h
  have H' := hid h'
  clear h h'
  go_enter Try.func34, Try.ntmps34
  go_wp2_with fail
  generalize ((((w.alloc (.cells #[.bool s, .slice A n c] 24)).alloc (.cells #[.bool t, .slice B m d] 24)).alloc (.cells #[.bool false, .slice none 0 0] 24)).alloc (.cells #[.bool false, .slice none 0 0] 24)) = wA at *
  refine (divmod_v (H.out.nv.1.ext T.out.x) (H'.out.nv.1.ext T.out.x) (by omega) (by omega)).mono ?_
  rintro E w1 ⟨A1, n1, c1, B1, m1, d1, rfl, o1, p1, x1⟩
  have O1 := hid o1
  have P1 := hid p1
  have X1 := hid x1
  clear o1 p1 x1
  go_wp2_with fail
  have hk0 := T.out.cs X1.out
  have hkd := T.out.cs (X1.out.trans (Ext.refl _).drew)
  have t1 := hid (fun W (X : Ext w1 W) => made_any (s := !(s == t)) (O1.out.ext X).nv (by omega))
  have t2 := hid (fun W (X : Ext w1 W) => made_any (s := s) (P1.out.ext X).nv (by omega))
  rw [HZ.out] at t1
  rw [HZ2.out] at t2
  go_region_held3 (fun w' => w'.cell? ⟨w.heap.size, 0, none⟩ = some (.bool s) ∧ w'.cell? ⟨w.heap.size, 1, none⟩ = some (.slice A n c) ∧ w'.cell? ⟨w.heap.size + 1, 0, none⟩ = some (.bool t) ∧ w'.cell? ⟨w.heap.size + 1, 1, none⟩ = some (.slice B m d))
    (first | (with_reducible exact hk0) | (with_reducible exact hkd) | (with_reducible exact hk1) | (with_reducible exact hk2) | (with_reducible exact hk3 _ _) | (with_reducible exact hk4 _ _ _ _))
    (first
      | ((go_at_call 70); (with_reducible refine (t1.out _ (Ext.refl _).drew).mono ?_); rintro e w2 ⟨b2, A2, n2, c2, rfl, o2, x2⟩; have hk1 := T.out.cs (X1.out.trans ((Ext.refl _).drew.trans x2)); have O2 := hid o2; have Y2 := hid ((Ext.refl _).drew.trans x2); clear o2 x2 t1)
      | ((go_at_call 70); (with_reducible refine (t2.out _ Y2.out).mono ?_); rintro e w3 ⟨b3, A3, n3, c3, rfl, o3, x3⟩; have hk2 := T.out.cs (X1.out.trans (Y2.out.trans x3)); have hk3 := fun u v => T.out.cp (X1.out.trans (Y2.out.trans x3)) u v; have hk4 := fun u v u' v' => T.out.cp2 (X1.out.trans (Y2.out.trans x3)) u v u' v'; obtain ⟨⟨hr0, hr1, hr2, hr3⟩, hr4, hr5, hr6, hr7⟩ := T.out.cr (X1.out.trans (Y2.out.trans x3)); have O3 := hid o3; have Y3 := hid x3; clear o3 x3 t2))
  clear hk0 hkd hk1 hk2 hk3 hk4 hr0 hr1 hr2 hr3 hr4 hr5 hr6 hr7
  have Y := hid (X1.out.trans (Y2.out.trans Y3.out))
  have hsz := T.out.sz
  have hs1 := X1.out.size
  have hs2 := Y2.out.size
  have B2 := ((T.out.b2.ext Y.out).put (s' := b2) (A' := A2) (n' := n2) (c' := c2)).other (g' := w.heap.size + 1 + 1 + 1) (u := .bool b3) (v := .slice A3 n3 c3) (by omega)
  have B3 := ((T.out.b3.ext Y.out).other (g' := w.heap.size + 1 + 1) (u := .bool b2) (v := .slice A2 n2 c2) (by omega)).put (s' := b3) (A' := A3) (n' := n3) (c' := c3)
  have HB2 := hid B2
  have HB3 := hid B3
  have hl2 : w1.drew.heap.size = w1.heap.size := rfl
  have R2 := hid (((O2.out.ext Y3.out).put (g := w.heap.size + 1 + 1) (u := .bool b2) (v := .slice A2 n2 c2) (by omega)).put (g := w.heap.size + 1 + 1 + 1) (u := .bool b3) (v := .slice A3 n3 c3) (by omega))
  have R3 := hid ((O3.out.put (g := w.heap.size + 1 + 1) (u := .bool b2) (v := .slice A2 n2 c2) (by omega)).put (g := w.heap.size + 1 + 1 + 1) (u := .bool b3) (v := .slice A3 n3 c3) (by omega))
  clear B2 B3
  go_wp2_with fail
  refine ret_bbe rfl HB2.out rfl HB3.out rfl rfl rfl ?_
  exact ⟨_, _, _, _, _, _, _, _, rfl, R2.out.mono (by omega), R3.out.mono (by omega), ((T.out.x.trans Y.out).put (by omega) _ _).put (by omega) _ _⟩

set_option maxHeartbeats 1600000 in
theorem wdivmod_zero {w : World} {s t : Bool} {A B : Option Addr} {n c m d K K' : Nat} {x : Int} (h : Iz K w s A n c x) (h' : Iz K' w t B m d 0) (hK : K + K' ≤ 1000000000) :
    Calls Try.prog 34 #[.agg #[.bool s, .slice A n c], .agg #[.bool t, .slice B m d]] w (RetIIE 0 0 0 0 7 w) := by
  have T := hid (Quad.mk' w s A n c t B m d)
  have H := hid h
  have H' := hid h'
  clear h h'
  go_enter Try.func34, Try.ntmps34
  go_wp2_with fail
  generalize ((((w.alloc (.cells #[.bool s, .slice A n c] 24)).alloc (.cells #[.bool t, .slice B m d] 24)).alloc (.cells #[.bool false, .slice none 0 0] 24)).alloc (.cells #[.bool false, .slice none 0 0] 24)) = wA at *
  refine (divmod_zero (H.out.nv.1.ext T.out.x) (H'.out.nv.1.ext T.out.x) (by omega)).mono ?_
  rintro E w1 ⟨A1, n1, c1, B1, m1, d1, rfl, o1, p1, x1⟩
  have X1 := hid x1
  clear o1 p1
  obtain ⟨⟨hr0, hr1, hr2, hr3⟩, hr4, hr5, hr6, hr7⟩ := T.out.cr x1
  clear x1
  go_wp2_with fail
  go_region
  clear hr0 hr1 hr2 hr3 hr4 hr5 hr6 hr7
  have hsz := T.out.sz
  have B2 := (((T.out.b2.ext X1.out).put (s' := false) (A' := none) (n' := 0) (c' := 0)).other (g' := w.heap.size + 1 + 1 + 1) (u := .bool false) (v := .slice none 0 0) (by omega)).drew
  have B3 := (((T.out.b3.ext X1.out).other (g' := w.heap.size + 1 + 1) (u := .bool false) (v := .slice none 0 0) (by omega)).put (s' := false) (A' := none) (n' := 0) (c' := 0)).drew
  have HB2 := hid B2
  have HB3 := hid B3
  clear B2 B3
  go_wp2_with fail
  refine ret_bbe rfl HB2.out rfl HB3.out rfl rfl rfl ?_
  exact ⟨_, _, _, _, _, _, _, _, rfl, ⟨by decide, Cn.none⟩, ⟨by decide, Cn.none⟩, (((T.out.x.trans X1.out).put (by omega) _ _).put (by omega) _ _).drew⟩
end Go.Proofs.Ytmfgcjjoagdamaa
