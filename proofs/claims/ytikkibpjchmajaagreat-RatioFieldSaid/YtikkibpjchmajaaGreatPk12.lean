/-
  The document's numbers by their value: the contracts of its answers for layer 1, once more.
  The document's whole numbers: a struct of a sign and decimal digits.
-/
import Derived.Test.YtikkibpjchmajaaGreatPk8
import Derived.Test.YtikkibpjchmajaaGreatPk10
import Derived.Test.YtikkibpjchmajaaGreatPk9
import Derived.Test.YtikkibpjchmajaaGreatPk11
import Derived.Deep.RegionHeld3
namespace Go.Proofs.YtikkibpjchmajaaGreat
open Go.RowKit
open Go.Lib (hid)

/-- The slice holds the decimal digits of p, at most K of them. -/
def Dg (K : Nat) (w : World) (A : Option Addr) (n c p : Nat) : Prop := Sl .i64 w A n c (nd 10 p) ∧ n ≤ K
def RetD (K p : Nat) (w : World) : Ending → World → Prop := fun E w' => ∃ A n c, E = .returned (.slice A n c) ∧ Dg K w' A n c p ∧ Ext w w'

section
variable {K K' : Nat} {w w' : World} {lo lo' : Nat} {A B : Option Addr} {n c m n' c' p q : Nat}
theorem Dg.mk (h : Sl .i64 w A n c (nd 10 p)) (h' : n ≤ K) : Dg K w A n c p := ⟨h, h'⟩
theorem Dg.ext (h : Dg K w A n c p) (hx : Ext w w') : Dg K w' A n c p := ⟨h.1.ext hx, h.2⟩
theorem Dg.bound (h : Dg K w A n c p) : p < 10 ^ K := by
  rw [← nd_len_le (by omega), h.1.len]; exact h.2
theorem RetO.d {E : Ending} (h : RetO .i64 3 (nd 10 p) w E w') (hb : p < 10 ^ K) : RetD K p w E w' := by
  obtain ⟨A, c, h1, h2, h3⟩ := h
  exact ⟨A, _, c, h1, ⟨h2.sl, (nd_len_le (by omega)).2 hb⟩, h3⟩
theorem pow_10_32 (K : Nat) : (4294967296 : Nat) ^ K ≤ 10 ^ (10 * K) := by
  rw [Nat.pow_mul]; exact Nat.pow_le_pow_left (by omega) K
theorem of_v (h : Nv K w A n c m) (hK : K ≤ 1048576) : Calls Tryz.prog 58 #[.slice A n c] w (RetD (10 * K) m w) := by
  have hb := h.bound
  obtain ⟨xs, h1, h2, rfl, h3⟩ := h
  exact (rof_any h1 h2 (by omega)).mono fun E w' hr => hr.d (Nat.lt_of_lt_of_le hb (pow_10_32 K))
theorem radd_v (h : Dg K w A n c p) (h' : Dg K' w B n' c' q) (hK : K + K' ≤ 1099511627776) : Calls Tryz.prog 60 #[.slice A n c, .slice B n' c'] w (RetD (K + K' + 1) (p + q) w) :=
  (radd_any h.1 h'.1 (by have := h.2; omega) (by have := h'.2; omega)).mono fun _ _ hr => hr.d (bd_add (by omega) h.bound h'.bound)
theorem rsub_v (h : Dg K w A n c p) (h' : Dg K' w B n' c' q) (hK : K + K' ≤ 1099511627776) (hle : q ≤ p) : Calls Tryz.prog 67 #[.slice A n c, .slice B n' c'] w (RetD K (p - q) w) :=
  (rsub_any h.1 h'.1 (by have := h.2; omega) (by have := h'.2; omega) hle).mono fun _ _ hr => hr.d (by have := h.bound; omega)
theorem rcmp_is {v : Int} (h : Dg K w A n c p) (h' : Dg K' w B n' c' q) (hK : K + K' ≤ 1099511627776) (hv : cmpN p q = v) : Calls Tryz.prog 66 #[.slice A n c, .slice B n' c'] w (RetE (.int .i64 v) w) :=
  hv ▸ rcmp_any h.1 h'.1 (by have := h.2; omega) (by have := h'.2; omega)
theorem limbs_v (h : Dg K w A n c p) (hK : K ≤ 1099511627776) : Calls Tryz.prog 70 #[.slice A n c] w (RetC K p w) :=
  (rlimbs_any h.1 (by have := h.2; omega)).mono fun _ _ hr => hr.c (Nat.lt_of_lt_of_le h.bound (Nat.pow_le_pow_left (by omega) K))

theorem rmul_v (h : Dg K w A n c p) (h' : Dg K' w B n' c' q) (hK : K + K' ≤ 1073741824) : Calls Tryz.prog 68 #[.slice A n c, .slice B n' c'] w (RetD (K + K') (p * q) w) :=
  (rmul_any h.1 h'.1 (by have := h.2; omega) (by have := h'.2; omega)).mono fun _ _ hr => hr.d (by
    rw [Nat.pow_add]
    exact Nat.mul_lt_mul_of_lt_of_le h.bound (Nat.le_of_lt h'.bound) (Nat.pow_pos (by omega)))
theorem rdivmod_v (h : Dg K w A n c p) (h' : Dg K' w B n' c' q) (hK : K + K' ≤ 1073741824) (hq : 0 < q) : Calls Tryz.prog 69 #[.slice A n c, .slice B n' c'] w (RetQR K K' (p / q) (p % q) w) :=
  (rdivmod_any h.1 h'.1 (by have := h.2; omega) (by have := h'.2; omega) hq).mono fun _ _ ⟨A, n, c, B, m, d, e, s, t, hn, hm, hx⟩ => ⟨A, n, c, B, m, d, e, s, t, Nat.le_trans hn h.2, Nat.le_trans hm h'.2, hx⟩
theorem rsmall_v {v : Nat} {V : Int} (hV : V = v) (hv : v < 18446744073709551616) : Calls Tryz.prog 59 #[.int .u64 V] w (RetD 20 v w) := by
  subst hV
  exact (rsmall_any hv).mono fun _ _ hr => hr.d (by omega)
end
end Go.Proofs.YtikkibpjchmajaaGreat

namespace Go.Proofs.YtikkibpjchmajaaGreat
open Go.RowKit
open Go.Lib (hid)

/-- The block g is a struct of a sign and digits. -/
def Bz (w : World) (g : Nat) (s : Bool) (A : Option Addr) (n c : Nat) : Prop := w.heap[g]? = some (.cells #[.bool s, .slice A n c] 33 (0, 0))
section
variable {w w' : World} {g : Nat} {s : Bool} {A : Option Addr} {n c : Nat}
theorem Bz.lt (h : Bz w g s A n c) : g < w.heap.size := (Array.getElem?_eq_some_iff.1 h).1
theorem Bz.ext (h : Bz w g s A n c) (hx : Ext w w') : Bz w' g s A n c := (hx.block g h.lt).trans h
theorem Bz.grown (h : Bz w g s A n c) {row : Option Nat} (hg : w.grownBy w' row) (hne : some g ≠ row) : Bz w' g s A n c := (hg.block g h.lt hne).trans h
theorem Bz.c0 (h : Bz w g s A n c) : w.cell? ⟨g, 0, none⟩ = some (.bool s) := by
  have h : w.heap[g]? = _ := h
  simp [World.cell?, h]
theorem Bz.c1 (h : Bz w g s A n c) : w.cell? ⟨g, 1, none⟩ = some (.slice A n c) := by
  have h : w.heap[g]? = _ := h
  simp [World.cell?, h]
theorem Bz.fr (h : Bz w g s A n c) (i : Nat) : w.frozen? ⟨g, i, none⟩ = false := by
  have h : w.heap[g]? = _ := h
  simp [World.frozen?, h]
theorem Bz.new (w : World) (s : Bool) (A : Option Addr) (n c : Nat) : Bz (w.alloc (.cells #[.bool s, .slice A n c] 33)) w.heap.size s A n c := heap_alloc_new _ _
theorem Bz.put {s' : Bool} {A' : Option Addr} {n' c' : Nat} (h : Bz w g s A n c) : Bz ((w.setCell ⟨g, 0, none⟩ (.bool s')).setCell ⟨g, 1, none⟩ (.slice A' n' c')) g s' A' n' c' :=
  heap_set (i := 1) (u := .slice A' n' c') (heap_set (i := 0) (u := .bool s') h)
theorem Bz.other {g' : Nat} {u v : Value} (h : Bz w g s A n c) (hne : g ≠ g') : Bz ((w.setCell ⟨g', 0, none⟩ u).setCell ⟨g', 1, none⟩ v) g s A n c := h.grown (put_gb w g' u v) (by simpa using hne)
end
theorem info_z_s : (Tryz.prog.info? 33).map (·.size) = some 2 := by kernel_rfl
theorem ret_z {fn : Func} {p : Tmp} {R : Ending → World → Prop} {a : Act} {w : World} {g : Nat} {s : Bool} {A : Option Addr} {n c : Nat} (h : fn.results = #[.cell p 33]) (hB : Bz w g s A n c)
    (hp : a.tmps.getD p undef = .pointer (some ⟨g, 0, none⟩)) (hd : a.defers = []) (hR : R (.returned (.agg #[.bool s, .slice A n c])) w) : bodyPost Tryz.prog fn R .ret a w :=
  bodyPost_ret (results_cell_row h _ _ g _ _ _ _ hp hB Tryz.underlying33 rfl info_z_s) hd hR

/-- The limbs, or digits, lie in another block. -/
def OffA (A : Option Addr) (n g : Nat) : Prop := ∀ b o, A = some ⟨b, o, none⟩ → 0 < n → b ≠ g
theorem Sl.gb {k : IntKind} {w w' : World} {A : Option Addr} {n c g : Nat} {zs : List Nat} (h : Sl k w A n c zs) (hg : w.grownBy w' (some g)) (ho : OffA A n g) : Sl k w' A n c zs := by
  refine ⟨h.len, h.cap, h.max, fun hp => ?_⟩
  obtain ⟨b, o, e, hlt, hc⟩ := h.at_ hp
  have hne := ho b o e hp
  refine ⟨b, o, e, Nat.lt_of_lt_of_le hlt hg.size, fun j z hz => ?_⟩
  rw [World.cell?_of_block (a := ⟨b, o + j, none⟩) (hg.block b hlt (fun e => hne (by injection e)))]
  exact hc j z hz
theorem Sl.off {k : IntKind} {w : World} {A : Option Addr} {n c g : Nat} {zs : List Nat} (h : Sl k w A n c zs) (hg : w.heap.size ≤ g) : OffA A n g := fun b o e hp => by
  obtain ⟨b', o', e', hlt, _⟩ := h.at_ hp
  rw [e] at e'; injection e' with e'; injection e' with e'; omega
theorem Own.off {k : IntKind} {e : TypeId} {w : World} {lo g : Nat} {A : Option Addr} {n c : Nat} {zs : List Nat} (h : Own k e w lo A n c zs) (hg : g < lo) : OffA A n g := fun b o e hp => by
  rcases h.form with ⟨e', _, _⟩ | ⟨g', e', hl, _⟩
  · rw [e'] at e; cases e
  · rw [e'] at e; injection e with e; injection e with e; omega

/-- The struct's parts hold the number z, canonical, at most K digits of it. -/
def Zd (K : Nat) (w : World) (b : Bool) (A : Option Addr) (n c : Nat) (z : Int) : Prop := b = decide (z < 0) ∧ Dg K w A n c z.natAbs
def RetZ (K : Nat) (z : Int) (w : World) : Ending → World → Prop := fun E w' => ∃ b A n c, E = .returned (.agg #[.bool b, .slice A n c]) ∧ Zd K w' b A n c z ∧ Ext w w'
section
variable {K L : Nat} {w w' : World} {b : Bool} {A : Option Addr} {n c g : Nat} {z : Int}
theorem Zd.ext (h : Zd K w b A n c z) (hx : Ext w w') : Zd K w' b A n c z := ⟨h.1, h.2.ext hx⟩
theorem Zd.gb (h : Zd K w b A n c z) (hg : w.grownBy w' (some g)) (ho : OffA A n g) : Zd K w' b A n c z := ⟨h.1, h.2.1.gb hg ho, h.2.2⟩
theorem Zd.weak (h : Zd K w b A n c z) (hl : K ≤ L) : Zd L w b A n c z := ⟨h.1, h.2.1, Nat.le_trans h.2.2 hl⟩
theorem Zd.len0 (h : Zd K w b A n c z) (h0 : z = 0) : n = 0 := by subst h0; exact h.2.1.len.symm
theorem Zd.lenp (h : Zd K w b A n c z) (h0 : z ≠ 0) : 0 < n := by
  have h1 := h.2.1.len
  rcases Nat.eq_zero_or_pos n with h2 | h2
  · exfalso
    have := (nd_eq_nil (b := 10) (by omega)).1 (List.eq_nil_of_length_eq_zero (h1.trans h2))
    omega
  · exact h2
/-- The sign, as the struct tells it: neg and digits. -/
theorem Zd.flag (h : Zd K w b A n c z) : (b && decide (0 < n)) = decide (z < 0) := by
  rw [h.1]
  by_cases hz : z = 0
  · subst hz; rfl
  · rw [decide_eq_true (h.lenp hz), Bool.and_true]
theorem fin_z {w1 : World} (hz : Zd K w1 b A n c z) (ho : OffA A n g) (hwg : w.heap.size ≤ g) (hx : Ext w w1) :
    RetZ K z w (.returned (.agg #[.bool b, .slice A n c])) ((w1.setCell ⟨g, 0, none⟩ (.bool b)).setCell ⟨g, 1, none⟩ (.slice A n c)) :=
  ⟨_, _, _, _, rfl, hz.gb (put_gb w1 g _ _) ho, hx.put hwg _ _⟩
end

theorem zof_v {w : World} {s : Bool} {A : Option Addr} {n c K : Nat} {z : Int} (h : Iz K w s A n c z) (hK : K ≤ 100000) :
    Calls Tryz.prog 30 #[.agg #[.bool s, .slice A n c]] w (RetZ (10 * K) z w) := by
  have X := hid (((Ext.refl w).alloc (.cells #[.bool s, .slice A n c] 24)).alloc (.cells #[.bool false, .slice none 0 0] 33))
  have b0 := (Bx.new w s A n c).ext ((Ext.refl _).alloc (.cells #[.bool false, .slice none 0 0] 33))
  have b1 := Bz.new (w.alloc (.cells #[.bool s, .slice A n c] 24)) false none 0 0
  rw [size_alloc] at b1
  have HB0 := hid b0
  have HB1 := hid b1
  have hz := h.nv.2
  have hn := h.nv.1
  have hbd := hn.bound
  have hsz : ((w.alloc (.cells #[.bool s, .slice A n c] 24)).alloc (.cells #[.bool false, .slice none 0 0] 33)).heap.size = w.heap.size + 2 := by rw [size_alloc, size_alloc]
  clear b0 b1 h
  have HZ := hid hz
  obtain ⟨xs, h1, h2, h3, h4⟩ := hn
  have ro := hid (rof_any (h1.ext X.out) h2 (by omega))
  rw [h3] at ro
  clear hz h1 h2 h3 h4
  go_enter Tryz.func30, Tryz.ntmps30
  go_wp2_with fail
  generalize (w.alloc (.cells #[.bool s, .slice A n c] 24)).alloc (.cells #[.bool false, .slice none 0 0] 33) = wA at *
  refine ro.out.mono ?_
  rintro E w1 ⟨A1, c1, rfl, o1, x1⟩
  have hd : (nd 10 z.natAbs).length ≤ 10 * K := (nd_len_le (by omega)).2 (Nat.lt_of_lt_of_le hbd (pow_10_32 K))
  have O1 := hid o1
  have HF : Hid ((s && decide (0 < (nd 10 z.natAbs).length)) = decide (z < 0)) := by
    show _ = _
    by_cases h0 : z = 0
    · subst h0; simp [nd_zero]
    · have hp : 0 < (nd 10 z.natAbs).length := by
        rcases Nat.eq_zero_or_pos (nd 10 z.natAbs).length with h2 | h2
        · exfalso
          have := (nd_eq_nil (b := 10) (by omega)).1 (List.eq_nil_of_length_eq_zero h2)
          omega
        · exact h2
      rw [decide_eq_true hp, Bool.and_true]
      have e := HZ.out
      rw [e, zv_lt, decide_eq_true (show 0 < z.natAbs by omega), Bool.and_true]
  have HD := hid (show Dg (10 * K) w1 A1 (nd 10 z.natAbs).length c1 z.natAbs from ⟨o1.sl, hd⟩)
  have X1 := hid (X.out.trans x1)
  have HB := HB1.out.ext x1
  have hc0 := (HB0.out.ext x1).c0
  have hr0 := HB.c0
  have hr1 := HB.c1
  have hr2 := HB.fr 0
  have hr3 := HB.fr 1
  have HBB := hid HB
  have HO := hid (o1.off (g := w.heap.size + 1) (by omega))
  clear o1 x1 HB hd ro
  generalize (nd 10 z.natAbs).length = m at *
  cases s
  · go_wp2_with fail
    refine ret_z rfl HBB.out.put rfl rfl (fin_z ⟨by rw [← HF.out]; rfl, HD.out⟩ HO.out (by omega) X1.out)
  · go_wp2_with fail
    refine ret_z rfl HBB.out.put rfl rfl (fin_z ⟨by rw [← HF.out, Bool.true_and], HD.out⟩ HO.out (by omega) X1.out)
end Go.Proofs.YtikkibpjchmajaaGreat

