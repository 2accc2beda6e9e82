
/-
  Whole numbers: a sign and a magnitude; what a struct of both stands for.
-/
import Derived.Test.YtmfgcjjoagdamaaNum
import Derived.Test.YtmfgcjjoagdamaaFrame
namespace Go.Proofs.Ytmfgcjjoagdamaa
open Go.RowKit
open Go.Lib (hid)

/-- The number of a sign and a magnitude. -/
def zv (s : Bool) (m : Nat) : Int := if s then -(m : Int) else m
/-- The struct's parts hold the number z, of at most K limbs, canonical or not. -/
def Iz (K : Nat) (w : World) (s : Bool) (A : Option Addr) (n c : Nat) (z : Int) : Prop := ∃ m, Nv K w A n c m ∧ z = zv s m
/-- The struct's parts hold the number z, canonical, at most K limbs of it, in memory from lo on. -/
def Ci (K : Nat) (w : World) (lo : Nat) (b : Bool) (A : Option Addr) (n c : Nat) (z : Int) : Prop := b = decide (z < 0) ∧ Cn K w lo A n c z.natAbs
/-- A new canonical number. -/
def RetI (K : Nat) (z : Int) (w : World) : Ending → World → Prop := fun E w' => ∃ b A n c, E = .returned (.agg #[.bool b, .slice A n c]) ∧ Ci K w' w.heap.size b A n c z ∧ Ext w w'
/-- A new canonical number, and an error's. -/
def RetIE (K : Nat) (z err : Int) (w : World) : Ending → World → Prop := fun E w' => ∃ b A n c, E = .returned (.tuple #[.agg #[.bool b, .slice A n c], .int .i64 err]) ∧ Ci K w' w.heap.size b A n c z ∧ Ext w w'

theorem zv_abs (s : Bool) (m : Nat) : (zv s m).natAbs = m := by cases s <;> simp [zv]
theorem zv_neg (s : Bool) (m : Nat) : zv (!s) m = -zv s m := by cases s <;> simp [zv]
theorem zv_of (z : Int) : zv (decide (z < 0)) z.natAbs = z := by
  unfold zv
  by_cases h : z < 0
  · rw [decide_eq_true h]; simp; omega
  · rw [decide_eq_false h]; simp; omega
theorem zv_lt {s : Bool} {m : Nat} : decide (zv s m < 0) = (s && decide (0 < m)) := by
  cases s
  · simp [zv]
  · simp only [zv, if_true, Bool.true_and]
    by_cases h : 0 < m
    · rw [decide_eq_true h, decide_eq_true (by omega)]
    · rw [decide_eq_false h, decide_eq_false (by omega)]
theorem zv_same (s : Bool) (m n : Nat) : zv s m + zv s n = zv s (m + n) := by cases s <;> simp [zv] <;> omega
theorem zv_diff {s t : Bool} {m n : Nat} (h : s ≠ t) (hle : n ≤ m) : zv s m + zv t n = zv s (m - n) := by
  cases s <;> cases t <;> simp_all [zv] <;> omega
theorem zv_mul (s t : Bool) (m n : Nat) : zv s m * zv t n = zv (s != t) (m * n) := by
  cases s <;> cases t <;> simp [zv, Int.neg_mul, Int.mul_neg]

section
variable {K K' : Nat} {w w' : World} {lo : Nat} {s : Bool} {A : Option Addr} {n c m : Nat} {z : Int}
theorem Iz.mk (h : Nv K w A n c m) : Iz K w s A n c (zv s m) := ⟨m, h, rfl⟩
theorem Iz.ext (h : Iz K w s A n c z) (hx : Ext w w') : Iz K w' s A n c z := let ⟨m, h1, h2⟩ := h; ⟨m, h1.ext hx, h2⟩
theorem Iz.nv (h : Iz K w s A n c z) : Nv K w A n c z.natAbs ∧ z = zv s z.natAbs := by
  obtain ⟨m, h1, rfl⟩ := h
  rw [zv_abs]; exact ⟨h1, rfl⟩
theorem Ci.iz (h : Ci K w lo s A n c z) : Iz K w s A n c z := ⟨_, h.2.nv, by rw [h.1]; exact (zv_of z).symm⟩
theorem Ci.ext (h : Ci K w lo s A n c z) (hx : Ext w w') : Ci K w' lo s A n c z := ⟨h.1, h.2.ext hx⟩
theorem Ci.mono {lo' : Nat} (h : Ci K w lo s A n c z) (hl : lo' ≤ lo) : Ci K w lo' s A n c z := ⟨h.1, h.2.1.mono hl, h.2.2⟩
theorem Iz.bound (h : Iz K w s A n c z) : z.natAbs < 4294967296 ^ K := h.nv.1.bound
/-- The sign, as the struct has it, of a number that is not 0. -/
theorem Iz.sgn (h : Iz K w s A n c z) (h0 : z ≠ 0) : s = decide (z < 0) := by
  obtain ⟨m, _, rfl⟩ := h
  rw [zv_lt]
  have : 0 < m := by
    rcases Nat.eq_zero_or_pos m with h | h
    · subst h; cases s <;> simp [zv] at h0
    · exact h
  rw [decide_eq_true this, Bool.and_true]
end

/-- The block g is a struct of a sign and limbs. -/
def Bx (w : World) (g : Nat) (s : Bool) (A : Option Addr) (n c : Nat) : Prop := w.heap[g]? = some (.cells #[.bool s, .slice A n c] 24 (0, 0))
section
variable {w w' : World} {g : Nat} {s : Bool} {A : Option Addr} {n c : Nat}
theorem Bx.lt (h : Bx w g s A n c) : g < w.heap.size := (Array.getElem?_eq_some_iff.1 h).1
theorem Bx.ext (h : Bx w g s A n c) (hx : Ext w w') : Bx w' g s A n c := (hx.block g h.lt).trans h
theorem Bx.drew (h : Bx w g s A n c) : Bx w.drew g s A n c := h
theorem Bx.drewN (h : Bx w g s A n c) (k : Nat) : Bx (w.drewN k) g s A n c := h
theorem Bx.grown (h : Bx w g s A n c) {row : Option Nat} (hg : w.grownBy w' row) (hne : some g ≠ row) : Bx w' g s A n c := (hg.block g h.lt hne).trans h
theorem Bx.c0 (h : Bx w g s A n c) : w.cell? ⟨g, 0, none⟩ = some (.bool s) := by
  have h : w.heap[g]? = _ := h
  simp [World.cell?, h]
theorem Bx.c1 (h : Bx w g s A n c) : w.cell? ⟨g, 1, none⟩ = some (.slice A n c) := by
  have h : w.heap[g]? = _ := h
  simp [World.cell?, h]
theorem Bx.fr (h : Bx w g s A n c) (i : Nat) : w.frozen? ⟨g, i, none⟩ = false := by
  have h : w.heap[g]? = _ := h
  simp [World.frozen?, h]
theorem Bx.new (w : World) (s : Bool) (A : Option Addr) (n c : Nat) : Bx (w.alloc (.cells #[.bool s, .slice A n c] 24)) w.heap.size s A n c := heap_alloc_new _ _
end

theorem heap_set {w : World} {g i : Nat} {u : Value} {cs : Array Value} {t : TypeId} {fr : Nat × Nat} (h : w.heap[g]? = some (.cells cs t fr)) : (w.setCell ⟨g, i, none⟩ u).heap[g]? = some (.cells (cs.setIfInBounds i u) t fr) := by
  simp [World.setCell, Array.getElem?_modify, h]
theorem Bx.put {w : World} {g : Nat} {s s' : Bool} {A A' : Option Addr} {n c n' c' : Nat} (h : Bx w g s A n c) : Bx ((w.setCell ⟨g, 0, none⟩ (.bool s')).setCell ⟨g, 1, none⟩ (.slice A' n' c')) g s' A' n' c' := by
  have h1 := heap_set (i := 1) (u := .slice A' n' c') (heap_set (i := 0) (u := .bool s') h)
  exact h1
/-- A store into the struct in block g: nothing else turns. -/
theorem put_gb (w : World) (g : Nat) (u v : Value) : w.grownBy ((w.setCell ⟨g, 0, none⟩ u).setCell ⟨g, 1, none⟩ v) (some g) := gb_set (gb_set (gb_refl _ _) _) _

/-- A struct handed back from its cell. -/
theorem ret_bx {P : Program} {fn : Func} {p : Tmp} {R : Ending → World → Prop} {a : Act} {w : World} {g : Nat} {s : Bool} {A : Option Addr} {n c : Nat} {fs : Array Field} (h : fn.results = #[.cell p 24]) (hB : Bx w g s A n c)
    (hp : a.tmps.getD p undef = .pointer (some ⟨g, 0, none⟩)) (hu : P.underlying 24 = some (.struct fs)) (hi : (P.info? 24).map (·.size) = some 2) (hd : a.defers = []) (hR : R (.returned (.agg #[.bool s, .slice A n c])) w) : bodyPost P fn R .ret a w :=
  bodyPost_ret (results_cell_row h _ _ g _ _ _ _ hp hB hu rfl hi) hd hR

theorem info_int_s : (Try.prog.info? 24).map (·.size) = some 2 := by kernel_rfl
theorem ret_b {fn : Func} {p : Tmp} {R : Ending → World → Prop} {a : Act} {w : World} {g : Nat} {s : Bool} {A : Option Addr} {n c : Nat} (h : fn.results = #[.cell p 24]) (hB : Bx w g s A n c)
    (hp : a.tmps.getD p undef = .pointer (some ⟨g, 0, none⟩)) (hd : a.defers = []) (hR : R (.returned (.agg #[.bool s, .slice A n c])) w) : bodyPost Try.prog fn R .ret a w :=
  ret_bx h hB hp Try.underlying24 info_int_s hd hR
theorem Cn.put {K : Nat} {w : World} {lo g : Nat} {A : Option Addr} {n c m : Nat} {u v : Value} (h : Cn K w lo A n c m) (hg : g < lo) : Cn K ((w.setCell ⟨g, 0, none⟩ u).setCell ⟨g, 1, none⟩ v) lo A n c m :=
  have far : ∀ g', A = some ⟨g', 0, none⟩ → g' ≠ g := fun g' e => by
    rcases h.1.form with ⟨e', _⟩ | ⟨g'', e', hl, _⟩
    · rw [e'] at e; cases e
    · rw [e'] at e; injection e with e; injection e with e; omega
  ⟨(h.1.far (p := ⟨g, 0, none⟩) far _).far (p := ⟨g, 1, none⟩) far _, h.2⟩
theorem Ext.put {a b : World} (h : Ext a b) {g : Nat} (hg : a.heap.size ≤ g) (u v : Value) : Ext a ((b.setCell ⟨g, 0, none⟩ u).setCell ⟨g, 1, none⟩ v) := (h.setCell (p := ⟨g, 0, none⟩) hg u).setCell (p := ⟨g, 1, none⟩) hg v
theorem Cn.mono {K : Nat} {w : World} {lo lo' : Nat} {A : Option Addr} {n c m : Nat} (h : Cn K w lo A n c m) (hl : lo' ≤ lo) : Cn K w lo' A n c m := ⟨h.1.mono hl, h.2⟩
theorem fin_i {K : Nat} {z : Int} {w w1 : World} {g lo : Nat} {b : Bool} {A : Option Addr} {n c : Nat} (ho : Ci K w1 lo b A n c z) (hgl : g < lo) (hwg : w.heap.size ≤ g) (hx : Ext w w1) :
    RetI K z w (.returned (.agg #[.bool b, .slice A n c])) ((w1.setCell ⟨g, 0, none⟩ (.bool b)).setCell ⟨g, 1, none⟩ (.slice A n c)) :=
  ⟨_, _, _, _, rfl, ⟨ho.1, (ho.2.put hgl).mono (by omega)⟩, hx.put hwg _ _⟩
theorem size_alloc (w : World) (o : Obj) : (w.alloc o).heap.size = w.heap.size + 1 := by simp

/-- The sign of a number as a number. -/
def sg (z : Int) : Int := if z < 0 then -1 else if z = 0 then 0 else 1
theorem sg_neg {z : Int} (h : z < 0) : sg z = -1 := by unfold sg; rw [if_pos h]
theorem sg_zero : sg 0 = 0 := rfl
theorem sg_pos {z : Int} (h : 0 < z) : sg z = 1 := by unfold sg; rw [if_neg (by omega), if_neg (by omega)]
theorem sg_cases (z : Int) : sg z = -1 ∧ z < 0 ∨ sg z = 0 ∧ z = 0 ∨ sg z = 1 ∧ 0 < z := by
  rcases Int.lt_trichotomy z 0 with h | h | h
  · exact .inl ⟨sg_neg h, h⟩
  · subst h; exact .inr (.inl ⟨rfl, rfl⟩)
  · exact .inr (.inr ⟨sg_pos h, h⟩)
end Go.Proofs.Ytmfgcjjoagdamaa
