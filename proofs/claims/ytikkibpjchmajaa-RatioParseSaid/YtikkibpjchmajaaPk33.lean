/-
  The contracts of the document's whole numbers: Neg, Sign, Mul.
  The contracts of the document's whole numbers: Add, Sub, Cmp, Small.
  Regions that make variables of the document's whole numbers.
-/
import Derived.Test.YtikkibpjchmajaaPk23
import Derived.Test.YtikkibpjchmajaaPk17
namespace Go.Proofs.Ytikkibpjchmajaa
open Go.RowKit
open Go.Lib (hid)

/-- Two structs that were handed over, and the result's, in three blocks behind one another. -/
structure TriZ (w wA : World) (s : Bool) (A : Option Addr) (n c : Nat) (t : Bool) (B : Option Addr) (m d : Nat) : Prop where
  x : Ext w wA
  b0 : Bz wA w.heap.size s A n c
  b1 : Bz wA (w.heap.size + 1) t B m d
  b2 : Bz wA (w.heap.size + 1 + 1) false none 0 0
  sz : wA.heap.size = w.heap.size + 3
theorem TriZ.mk' (w : World) (s : Bool) (A : Option Addr) (n c : Nat) (t : Bool) (B : Option Addr) (m d : Nat) :
    TriZ w (((w.alloc (.cells #[.bool s, .slice A n c] 35)).alloc (.cells #[.bool t, .slice B m d] 35)).alloc (.cells #[.bool false, .slice none 0 0] 35)) s A n c t B m d := by
  have h0 := Bz.new w s A n c
  have h1 := Bz.new (w.alloc (.cells #[.bool s, .slice A n c] 35)) t B m d
  have h2 := Bz.new ((w.alloc (.cells #[.bool s, .slice A n c] 35)).alloc (.cells #[.bool t, .slice B m d] 35)) false none 0 0
  rw [size_alloc] at h1 h2
  rw [size_alloc] at h2
  exact ⟨(((Ext.refl w).alloc _).alloc _).alloc _, (h0.ext ((Ext.refl _).alloc _)).ext ((Ext.refl _).alloc _), h1.ext ((Ext.refl _).alloc _), h2, by rw [size_alloc, size_alloc, size_alloc]⟩
section
variable {w wA wB : World} {s t : Bool} {A B : Option Addr} {n c m d : Nat}
theorem TriZ.cs (h : TriZ w wA s A n c t B m d) (hx : Ext wA wB) : (wB.cell? ⟨w.heap.size, 0, none⟩ = some (.bool s) ∧ wB.cell? ⟨w.heap.size, 1, none⟩ = some (.slice A n c) ∧ wB.cell? ⟨w.heap.size + 1, 0, none⟩ = some (.bool t) ∧ wB.cell? ⟨w.heap.size + 1, 1, none⟩ = some (.slice B m d)) :=
  ⟨(h.b0.ext hx).c0, (h.b0.ext hx).c1, (h.b1.ext hx).c0, (h.b1.ext hx).c1⟩
theorem TriZ.cr (h : TriZ w wA s A n c t B m d) (hx : Ext wA wB) : (wB.cell? ⟨w.heap.size + 1 + 1, 0, none⟩ = some (.bool false) ∧ wB.cell? ⟨w.heap.size + 1 + 1, 1, none⟩ = some (.slice none 0 0) ∧ wB.frozen? ⟨w.heap.size + 1 + 1, 0, none⟩ = false ∧ wB.frozen? ⟨w.heap.size + 1 + 1, 1, none⟩ = false) :=
  ⟨(h.b2.ext hx).c0, (h.b2.ext hx).c1, (h.b2.ext hx).fr 0, (h.b2.ext hx).fr 1⟩
theorem TriZ.cp (h : TriZ w wA s A n c t B m d) (hx : Ext wA wB) (u v : Value) : (((wB.setCell ⟨w.heap.size + 1 + 1, 0, none⟩ u).setCell ⟨w.heap.size + 1 + 1, 1, none⟩ v).cell? ⟨w.heap.size, 0, none⟩ = some (.bool s) ∧ ((wB.setCell ⟨w.heap.size + 1 + 1, 0, none⟩ u).setCell ⟨w.heap.size + 1 + 1, 1, none⟩ v).cell? ⟨w.heap.size, 1, none⟩ = some (.slice A n c) ∧ ((wB.setCell ⟨w.heap.size + 1 + 1, 0, none⟩ u).setCell ⟨w.heap.size + 1 + 1, 1, none⟩ v).cell? ⟨w.heap.size + 1, 0, none⟩ = some (.bool t) ∧ ((wB.setCell ⟨w.heap.size + 1 + 1, 0, none⟩ u).setCell ⟨w.heap.size + 1 + 1, 1, none⟩ v).cell? ⟨w.heap.size + 1, 1, none⟩ = some (.slice B m d)) :=
  have p0 := (h.b0.ext hx).other (g' := w.heap.size + 1 + 1) (u := u) (v := v) (by omega)
  have p1 := (h.b1.ext hx).other (g' := w.heap.size + 1 + 1) (u := u) (v := v) (by omega)
  ⟨p0.c0, p0.c1, p1.c0, p1.c1⟩
theorem TriZ.put (h : TriZ w wA s A n c t B m d) (hx : Ext wA wB) {b : Bool} {C : Option Addr} {k l : Nat} : Bz ((wB.setCell ⟨w.heap.size + 1 + 1, 0, none⟩ (.bool b)).setCell ⟨w.heap.size + 1 + 1, 1, none⟩ (.slice C k l)) (w.heap.size + 1 + 1) b C k l := (h.b2.ext hx).put
end
section
variable {K L p : Nat} {w w1 : World} {b s : Bool} {A B : Option Addr} {n c g m d : Nat} {z : Int}
theorem Zd.gbz (h : Zd K w b A n c z) (hb : Bz w g s B m d) (hg : w.grownBy w1 (some g)) : Zd K w1 b A n c z := ⟨h.1, h.2.1.gbx hb hg, h.2.2⟩
theorem fin_zx (hz : Zd K w1 b A n c z) (hB : Bz w1 g s B m d) (hwg : w.heap.size ≤ g) (hx : Ext w w1) :
    RetZ K z w (.returned (.agg #[.bool b, .slice A n c])) ((w1.setCell ⟨g, 0, none⟩ (.bool b)).setCell ⟨g, 1, none⟩ (.slice A n c)) :=
  ⟨_, _, _, _, rfl, hz.gbz hB (put_gb w1 g _ _), hx.put hwg _ _⟩
theorem TriZ.fin {wA : World} {t : Bool} {C : Option Addr} {k l : Nat} (h : TriZ w wA s A n c t B m d) (hx : Ext wA w1) (hz : Zd K w1 b C k l z) :
    RetZ K z w (.returned (.agg #[.bool b, .slice C k l])) ((w1.setCell ⟨w.heap.size + 1 + 1, 0, none⟩ (.bool b)).setCell ⟨w.heap.size + 1 + 1, 1, none⟩ (.slice C k l)) :=
  fin_zx hz (h.b2.ext hx) (by omega) (h.x.trans hx)
theorem Dg.pos (h : Dg K w A n c p) : decide (0 < n) = decide (p ≠ 0) := by
  have h1 := h.1.len
  by_cases h0 : p = 0
  · subst h0
    rw [decide_eq_false (show ¬ (0 : Nat) ≠ 0 by omega)]
    exact decide_eq_false (by rw [← h1]; simp [nd_zero])
  · rw [decide_eq_true h0]
    refine decide_eq_true ?_
    have : (nd 10 p) ≠ [] := fun e => h0 ((nd_eq_nil (by omega)).1 e)
    have := List.length_pos_iff.2 this
    omega
theorem Dg.zero (h : Dg K w A n c p) (h0 : p = 0) : n = 0 := by
  have h1 := h.1.len
  rw [← h1, h0, nd_zero]; rfl
theorem Dg.ne (h : Dg K w A n c p) (h0 : p ≠ 0) : 0 < n := by
  have := h.pos
  rw [decide_eq_true h0] at this
  exact of_decide_eq_true this
end

theorem zsign_v {w : World} {s : Bool} {A : Option Addr} {n c K : Nat} {z : Int} (h : Zd K w s A n c z) :
    Calls Try.prog 36 #[.agg #[.bool s, .slice A n c]] w (RetE (.int .i64 (sg z)) w) := by
  have X := hid ((Ext.refl w).alloc (.cells #[.bool s, .slice A n c] 35))
  have B0 := Bz.new w s A n c
  have h0 := B0.c0
  have h1 := B0.c1
  clear B0
  have hfl := h.1
  by_cases hz : z = 0
  · have hn := h.len0 hz
    subst hn
    have hs : Hid (sg z = 0) := by show _ = _; rw [hz]; rfl
    clear h hfl hz
    go_enter Try.func36, Try.ntmps36
    go_wp2_with fail
    go_ret
    exact ⟨by rw [hs.out]; rfl, X.out⟩
  · have hn := h.lenp hz
    have hne : ((n : Int) == 0) = false := beq_eq_false_iff_ne.2 (by omega)
    by_cases hl : z < 0
    · have hs : Hid (sg z = -1) := sg_neg hl
      have hb : s = true := by rw [hfl]; exact decide_eq_true hl
      subst hb
      clear h hfl hz hl
      go_enter Try.func36, Try.ntmps36
      go_wp2_with fail
      go_ret
      exact ⟨by rw [hs.out]; rfl, X.out⟩
    · have hs : Hid (sg z = 1) := sg_pos (by omega)
      have hb : s = false := by rw [hfl]; exact decide_eq_false hl
      subst hb
      clear h hfl hz hl
      go_enter Try.func36, Try.ntmps36
      go_wp2_with fail
      go_ret
      exact ⟨by rw [hs.out]; rfl, X.out⟩

theorem Bz.new2 (w : World) (o : Obj) (s : Bool) (A : Option Addr) (n c : Nat) : Bz ((w.alloc o).alloc (.cells #[.bool s, .slice A n c] 35)) (w.heap.size + 1) s A n c := by
  have h := Bz.new (w.alloc o) s A n c
  rw [size_alloc] at h; exact h
theorem zneg_v {w : World} {s : Bool} {A : Option Addr} {n c K : Nat} {z : Int} (h : Zd K w s A n c z) :
    Calls Try.prog 41 #[.agg #[.bool s, .slice A n c]] w (RetZ K (-z) w) := by
  have X := hid (((Ext.refl w).alloc (.cells #[.bool s, .slice A n c] 35)).alloc (.cells #[.bool false, .slice none 0 0] 35))
  have b0 := (Bz.new w s A n c).ext ((Ext.refl _).alloc (.cells #[.bool false, .slice none 0 0] 35))
  have b1 := Bz.new (w.alloc (.cells #[.bool s, .slice A n c] 35)) false none 0 0
  rw [size_alloc] at b1
  have hc0 := b0.c0
  have hc1 := b0.c1
  have hr0 := b1.c0
  have hr1 := b1.c1
  have hr2 := b1.fr 0
  have hr3 := b1.fr 1
  have HB1 := hid b1
  have HD := hid h.2
  have HF : Hid ((!s && decide (0 < n)) = decide (-z < 0)) := by
    show _ = _
    rw [h.2.pos, h.1]
    rcases Int.lt_trichotomy z 0 with h | h | h
    · rw [decide_eq_true h, decide_eq_false (show ¬ -z < 0 by omega)]; rfl
    · subst h; rfl
    · rw [decide_eq_false (show ¬ z < 0 by omega), decide_eq_true (show -z < 0 by omega), decide_eq_true (show z.natAbs ≠ 0 by omega)]; rfl
  clear b0 b1 h
  cases s
  · rcases Nat.eq_zero_or_pos n with hn | hn
    · subst hn
      go_enter Try.func41, Try.ntmps41
      go_wp2_with fail
      refine ret_z rfl (Bz.new2 _ _ _ _ _ _) rfl rfl ⟨_, _, _, _, rfl, ⟨by rw [← HF.out]; rfl, by rw [Int.natAbs_neg]; exact HD.out.ext (((Ext.refl w).alloc _).alloc _)⟩, ((Ext.refl w).alloc _).alloc _⟩
    · have hd : decide ((0 : Int) < (n : Int)) = true := decide_eq_true (by omega)
      go_enter Try.func41, Try.ntmps41
      go_wp2_with fail
      refine ret_z rfl (Bz.new2 _ _ _ _ _ _) rfl rfl ⟨_, _, _, _, rfl, ⟨by rw [← HF.out, decide_eq_true hn]; rfl, by rw [Int.natAbs_neg]; exact HD.out.ext (((Ext.refl w).alloc _).alloc _)⟩, ((Ext.refl w).alloc _).alloc _⟩
  · go_enter Try.func41, Try.ntmps41
    go_wp2_with fail
    refine ret_z rfl (Bz.new2 _ _ _ _ _ _) rfl rfl ⟨_, _, _, _, rfl, ⟨by rw [← HF.out]; rfl, by rw [Int.natAbs_neg]; exact HD.out.ext (((Ext.refl w).alloc _).alloc _)⟩, ((Ext.refl w).alloc _).alloc _⟩

set_option maxHeartbeats 1600000 in
theorem zmul_v {w : World} {s t : Bool} {A B : Option Addr} {n c m d K K' : Nat} {x y : Int} (h : Zd K w s A n c x) (h' : Zd K' w t B m d y) (hK : K + K' ≤ 1073741824) :
    Calls Try.prog 39 #[.agg #[.bool s, .slice A n c], .agg #[.bool t, .slice B m d]] w (RetZ (K + K') (x * y) w) := by
  have T := hid (TriZ.mk' w s A n c t B m d)
  have H := hid h
  have H' := hid h'
  have HM := hid (Int.natAbs_mul x y)
  have HF : Hid (∀ k C l, Dg (K + K') k C l m (x.natAbs * y.natAbs) → True) := fun _ _ _ _ => trivial
  have HZ : Hid (decide (x * y < 0) = ((!(s == t)) && decide (x.natAbs * y.natAbs ≠ 0))) := by
    show _ = _
    have e1 := h.1
    have e2 := h'.1
    rcases Int.lt_trichotomy x 0 with hx | hx | hx
    · rcases Int.lt_trichotomy y 0 with hy | hy | hy
      · rw [decide_eq_true hx] at e1; rw [decide_eq_true hy] at e2
        subst e1; subst e2
        exact decide_eq_false (by have := Int.mul_pos_of_neg_of_neg hx hy; omega)
      · subst hy; simp
      · rw [decide_eq_true hx] at e1; rw [decide_eq_false (show ¬ y < 0 by omega)] at e2
        subst e1; subst e2
        rw [decide_eq_true (Int.mul_neg_of_neg_of_pos hx hy), decide_eq_true (Nat.mul_ne_zero (by omega) (by omega))]; rfl
    · subst hx; simp
    · rcases Int.lt_trichotomy y 0 with hy | hy | hy
      · rw [decide_eq_false (show ¬ x < 0 by omega)] at e1; rw [decide_eq_true hy] at e2
        subst e1; subst e2
        rw [decide_eq_true (Int.mul_neg_of_pos_of_neg hx hy), decide_eq_true (Nat.mul_ne_zero (by omega) (by omega))]; rfl
      · subst hy; simp
      · rw [decide_eq_false (show ¬ x < 0 by omega)] at e1; rw [decide_eq_false (show ¬ y < 0 by omega)] at e2
        subst e1; subst e2
        exact decide_eq_false (by have := Int.mul_pos hx hy; omega)
  clear h h' HF
  have hcs := T.out.cs (Ext.refl _)
  obtain ⟨p0, p1, p2, p3⟩ := hcs
  go_enter Try.func39, Try.ntmps39
  go_wp2_with fail
  generalize (((w.alloc (.cells #[.bool s, .slice A n c] 35)).alloc (.cells #[.bool t, .slice B m d] 35)).alloc (.cells #[.bool false, .slice none 0 0] 35)) = wA at *
  clear p0 p1 p2 p3
  refine (rmul_v (H.out.2.ext T.out.x) (H'.out.2.ext T.out.x) hK).mono ?_
  rintro E w1 ⟨C, k, l, rfl, o1, x1⟩
  have X1 := hid x1
  have O1 := hid o1
  obtain ⟨q0, q1, q2, q3⟩ := T.out.cs x1
  obtain ⟨r0, r1, r2, r3⟩ := T.out.cr x1
  have HP := hid o1.pos
  clear o1 x1
  by_cases hst : s = t
  · subst hst
    have HZ' : Hid (decide (x * y < 0) = false) := by show _ = _; rw [HZ.out]; simp
    clear HZ
    go_wp2_with fail
    refine ret_z rfl (T.out.put X1.out) rfl rfl (T.out.fin X1.out ⟨HZ'.out.symm, by rw [HM.out]; exact O1.out⟩)
  · have hb : (s == t) = false := by cases s <;> cases t <;> simp_all
    by_cases hk : 0 < k
    · have hd : decide ((0 : Int) < (k : Int)) = true := decide_eq_true (by omega)
      have HZ' : Hid (decide (x * y < 0) = true) := by show _ = _; rw [HZ.out, ← HP.out, hb, decide_eq_true hk]; rfl
      clear HZ
      go_wp2_with fail
      refine ret_z rfl (T.out.put X1.out) rfl rfl (T.out.fin X1.out ⟨HZ'.out.symm, by rw [HM.out]; exact O1.out⟩)
    · have hk0 : k = 0 := by omega
      have HZ' : Hid (decide (x * y < 0) = false) := by show _ = _; rw [HZ.out, ← HP.out, decide_eq_false hk, Bool.and_false]
      subst hk0
      clear HZ
      go_wp2_with fail
      refine ret_z rfl (T.out.put X1.out) rfl rfl (T.out.fin X1.out ⟨HZ'.out.symm, by rw [HM.out]; exact O1.out⟩)
end Go.Proofs.Ytikkibpjchmajaa

namespace Go.Proofs.Ytikkibpjchmajaa
open Go.RowKit
open Go.Lib (hid)

theorem Zd.val {K : Nat} {w : World} {s : Bool} {A : Option Addr} {n c : Nat} {z : Int} (h : Zd K w s A n c z) : z = zv s z.natAbs := by
  rw [h.1]; exact (zv_of z).symm

/-- The difference's flag. -/
theorem diff_flag {s : Bool} {p : Nat} {z : Int} (hz : z = zv s p) : (s && decide (p ≠ 0)) = decide (z < 0) := by
  subst hz
  rw [zv_lt]
  congr 1
  by_cases h : p = 0
  · subst h; rfl
  · rw [decide_eq_true h, decide_eq_true (by omega)]

theorem zsign_is {w : World} {s : Bool} {A : Option Addr} {n c K : Nat} {z v : Int} (h : Zd K w s A n c z) (hv : sg z = v) :
    Calls Try.prog 36 #[.agg #[.bool s, .slice A n c]] w (RetE (.int .i64 v) w) := hv ▸ zsign_v h
end Go.Proofs.Ytikkibpjchmajaa

namespace Go.Proofs.Ytikkibpjchmajaa
open Go.RowKit
open Go.Lib (hid)

theorem alloc_z {o : Oper} {a : Act} {w : World} (ho : o.op = .alloc 35) : (execOp a.eval o).run Try.prog w = .ok (.value (.pointer (some ⟨w.heap.size, 0, none⟩))) (w.alloc (.cells #[.bool false, .slice none 0 0] 35)) := by
  unfold execOp
  simp only [ho]
  go_simp
end Go.Proofs.Ytikkibpjchmajaa

