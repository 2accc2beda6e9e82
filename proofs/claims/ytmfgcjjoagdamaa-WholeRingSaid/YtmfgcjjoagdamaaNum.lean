
/-
  Numbers by their value: the contracts of layer 1 once more, for the walks above: a slice holds a number (Nv), or its canonical limbs in new memory (Cn).
-/
import Derived.Test.YtmfgcjjoagdamaaAdd
import Derived.Test.YtmfgcjjoagdamaaSame
import Derived.Test.YtmfgcjjoagdamaaBits
import Derived.Test.YtmfgcjjoagdamaaLit
namespace Go.Proofs.Ytmfgcjjoagdamaa
open Go.RowKit
open Go.Lib (hid)

/-- The slice holds limbs of the number m, at most K of them. -/
def Nv (K : Nat) (w : World) (A : Option Addr) (n c m : Nat) : Prop := ∃ xs, Sl .u32 w A n c xs ∧ Lim 4294967296 xs ∧ nv 4294967296 xs = m ∧ n ≤ K
/-- The slice holds the canonical limbs of the number m, at most K of them, in memory from lo on. -/
def Cn (K : Nat) (w : World) (lo : Nat) (A : Option Addr) (n c m : Nat) : Prop := Own .u32 39 w lo A n c (nd 4294967296 m) ∧ n ≤ K

section
variable {K K' : Nat} {w w' : World} {lo lo' : Nat} {A A' : Option Addr} {n c m n' c' m' : Nat}
theorem Nv.ext (h : Nv K w A n c m) (hx : Ext w w') : Nv K w' A n c m := let ⟨xs, h1, h2⟩ := h; ⟨xs, h1.ext hx, h2⟩
theorem Cn.ext (h : Cn K w lo A n c m) (hx : Ext w w') : Cn K w' lo A n c m := ⟨h.1.ext hx, h.2⟩
theorem Cn.nv (h : Cn K w lo A n c m) : Nv K w A n c m := ⟨_, h.1.sl, nd_lim (by omega) m, nv_nd (by omega) m, h.2⟩
theorem Cn.sl (h : Cn K w lo A n c m) : Sl .u32 w A n c (nd 4294967296 m) := h.1.sl
theorem Cn.len (h : Cn K w lo A n c m) : n = (nd 4294967296 m).length := h.1.len.symm
theorem Nv.mk {xs : List Nat} (h : Sl .u32 w A n c xs) (hl : Lim 4294967296 xs) (hK : n ≤ K) : Nv K w A n c (nv 4294967296 xs) := ⟨xs, h, hl, rfl, hK⟩
theorem Nv.bound (h : Nv K w A n c m) : m < 4294967296 ^ K := by
  obtain ⟨xs, h1, h2, rfl, h3⟩ := h
  have l := nv_lt (b := 4294967296) (by omega) h2
  rw [h1.len] at l
  have := Nat.pow_le_pow_right (n := 4294967296) (by omega) h3
  omega
end

/-- A new number. -/
def RetC (K m : Nat) (w : World) : Ending → World → Prop := fun E w' => ∃ A n c, E = .returned (.slice A n c) ∧ Cn K w' w.heap.size A n c m ∧ Ext w w'
/-- A new number, and an error's. -/
def RetCE (K m : Nat) (err : Int) (w : World) : Ending → World → Prop := fun E w' => ∃ A n c, E = .returned (.tuple #[.slice A n c, .int .i64 err]) ∧ Cn K w' w.heap.size A n c m ∧ Ext w w'

theorem RetO.c {K m : Nat} {w w' : World} {E : Ending} (h : RetO .u32 39 (nd 4294967296 m) w E w') (hb : m < 4294967296 ^ K) : RetC K m w E w' := by
  obtain ⟨A, c, h1, h2, h3⟩ := h
  exact ⟨A, _, c, h1, ⟨h2, (nd_len_le (by omega)).2 hb⟩, h3⟩
theorem RetOE.c {K m : Nat} {err : Int} {w w' : World} {E : Ending} (h : RetOE .u32 39 (nd 4294967296 m) err w E w') (hb : m < 4294967296 ^ K) : RetCE K m err w E w' := by
  obtain ⟨A, c, h1, h2, h3⟩ := h
  exact ⟨A, _, c, h1, ⟨h2, (nd_len_le (by omega)).2 hb⟩, h3⟩
theorem Ext.of_eq {w w' : World} (h : w = w') : Ext w w' := by subst h; exact Ext.refl _

theorem bd_add {b m n K K' : Nat} (hb : 2 ≤ b) (h : m < b ^ K) (h' : n < b ^ K') : m + n < b ^ (K + K' + 1) := by
  have h1 : b ^ K ≤ b ^ (K + K') := Nat.pow_le_pow_right (by omega) (by omega)
  have h2 : b ^ K' ≤ b ^ (K + K') := Nat.pow_le_pow_right (by omega) (by omega)
  have h3 : b ^ (K + K') * 2 ≤ b ^ (K + K' + 1) := by rw [Nat.pow_succ]; exact Nat.mul_le_mul_left _ hb
  generalize b ^ K = x at *
  generalize b ^ K' = y at *
  generalize b ^ (K + K') = z at *
  omega
theorem bd_shl {m K v : Nat} (h : m < 4294967296 ^ K) : m * 2 ^ v < 4294967296 ^ (K + v / 32 + 1) := by
  have h1 : 2 ^ v ≤ 4294967296 ^ (v / 32 + 1) := by
    rw [show (4294967296 : Nat) = 2 ^ 32 from rfl, ← Nat.pow_mul]
    exact Nat.pow_le_pow_right (by omega) (by omega)
  rw [Nat.add_assoc, Nat.pow_add]
  exact Nat.mul_lt_mul_of_lt_of_le h h1 (Nat.pow_pos (by omega))

section
variable {K K' : Nat} {w : World} {lo lo' : Nat} {A A' : Option Addr} {n c m n' c' m' : Nat}

theorem trim_v (h : Nv K w A n c m) (hK : K ≤ 1099511627776) : Calls Try.prog 50 #[.slice A n c] w (RetC K m w) := by
  have hb := h.bound
  obtain ⟨xs, h1, h2, rfl, h3⟩ := h
  exact (trim_any h1 h2 (by omega)).mono fun E w' hr => hr.c hb
theorem add_v (h : Nv K w A n c m) (h' : Nv K' w A' n' c' m') (hK : K + K' ≤ 1099511627776) : Calls Try.prog 54 #[.slice A n c, .slice A' n' c'] w (RetC (K + K' + 1) (m + m') w) := by
  have hb := h.bound
  have hb' := h'.bound
  obtain ⟨xs, h1, h2, rfl, h3⟩ := h
  obtain ⟨ys, h1', h2', rfl, h3'⟩ := h'
  exact (add_any h1 h2 h1' h2' (by omega) (by omega)).mono fun E w' hr => hr.c (bd_add (by omega) hb hb')
theorem cmp_v (h : Nv K w A n c m) (h' : Nv K' w A' n' c' m') (hK : K + K' ≤ 1099511627776) : Calls Try.prog 93 #[.slice A n c, .slice A' n' c'] w (RetE (.int .i64 (cmpN m m')) w) := by
  obtain ⟨xs, h1, h2, rfl, h3⟩ := h
  obtain ⟨ys, h1', h2', rfl, h3'⟩ := h'
  exact cmp_any h1 h2 h1' h2' (by omega) (by omega)
/-- Cmp, its answer given. -/
theorem cmp_is {v : Int} (h : Nv K w A n c m) (h' : Nv K' w A' n' c' m') (hK : K + K' ≤ 1099511627776) (hv : cmpN m m' = v) : Calls Try.prog 93 #[.slice A n c, .slice A' n' c'] w (RetE (.int .i64 v) w) := hv ▸ cmp_v h h' hK
theorem sub_yes (h : Nv K w A n c m) (h' : Nv K' w A' n' c' m') (hK : K + K' ≤ 1099511627776) (hle : m' ≤ m) : Calls Try.prog 76 #[.slice A n c, .slice A' n' c'] w (RetCE K (m - m') 0 w) := by
  have hb := h.bound
  obtain ⟨xs, h1, h2, rfl, h3⟩ := h
  obtain ⟨ys, h1', h2', rfl, h3'⟩ := h'
  exact (sub_any h1 h2 h1' h2' (by omega) (by omega) hle).mono fun E w' hr => hr.c (by omega)
theorem sub_no (h : Nv K w A n c m) (h' : Nv K' w A' n' c' m') (hK : K + K' ≤ 1099511627776) (hlt : m < m') : Calls Try.prog 76 #[.slice A n c, .slice A' n' c'] w (RetNE 2 w) := by
  obtain ⟨xs, h1, h2, rfl, h3⟩ := h
  obtain ⟨ys, h1', h2', rfl, h3'⟩ := h'
  exact sub_less h1 h2 h1' h2' (by omega) (by omega) hlt
theorem shl_v {v : Nat} {V : Int} (hV : V = v) (h : Nv K w A n c m) (hK : K ≤ 1099511627776) (hv : v ≤ 1048576) : Calls Try.prog 94 #[.slice A n c, .int .i64 V] w (RetCE (K + v / 32 + 1) (m * 2 ^ v) 0 w) := by
  have hb := h.bound
  obtain ⟨xs, h1, h2, rfl, h3⟩ := h
  subst hV
  exact (shl_any h1 h2 (by omega) hv).mono fun E w' hr => hr.c (bd_shl hb)
theorem shr_v {v : Nat} {V : Int} (hV : V = v) (h : Nv K w A n c m) (hK : K ≤ 1099511627776) (hv : v ≤ 1048576) : Calls Try.prog 98 #[.slice A n c, .int .i64 V] w (RetCE K (m / 2 ^ v) 0 w) := by
  have hb := h.bound
  obtain ⟨xs, h1, h2, rfl, h3⟩ := h
  subst hV
  exact (shr_any h1 h2 (by omega) hv).mono fun E w' hr => hr.c (Nat.lt_of_le_of_lt (Nat.div_le_self _ _) hb)
theorem bits_v (h : Nv K w A n c m) (hK : K ≤ 1099511627776) : Calls Try.prog 72 #[.slice A n c] w fun e w' => e = .returned (.int .i64 (bl m : Nat)) ∧ w = w' := by
  obtain ⟨xs, h1, h2, rfl, h3⟩ := h
  exact bits_any h1 h2 (by omega)
theorem small_v {v : Nat} {V : Int} (hV : V = v) (hv : v < 18446744073709551616) : Calls Try.prog 77 #[.int .u64 V] w (RetC 2 v w) := by
  subst hV
  exact (small_any hv).mono fun E w' hr => hr.c (by omega)
theorem word_v (h : Nv K w A n c m) (hK : K ≤ 1099511627776) (hv : m < 18446744073709551616) : Calls Try.prog 78 #[.slice A n c] w fun e w' => e = .returned (.tuple #[.int .u64 (m : Nat), .bool true]) ∧ w = w' := by
  obtain ⟨xs, h1, h2, rfl, h3⟩ := h
  exact word_yes h1 h2 (by omega) hv
theorem word_n (h : Nv K w A n c m) (hK : K ≤ 1099511627776) (hv : 18446744073709551616 ≤ m) : Calls Try.prog 78 #[.slice A n c] w fun e w' => e = .returned (.tuple #[.int .u64 0, .bool false]) ∧ w = w' := by
  obtain ⟨xs, h1, h2, rfl, h3⟩ := h
  exact word_no h1 h2 (by omega) hv
theorem same_c (h : Cn K w lo A n c m) (h' : Cn K' w lo' A' n' c' m') (hK : K ≤ 1099511627776) (he : m = m') : Calls Try.prog 56 #[.slice A n c, .slice A' n' c'] w (RetE (.bool true) w) :=
  same_yes h.sl h'.sl (by rw [he]) (by have := h.2; omega)
theorem same_cn (h : Cn K w lo A n c m) (h' : Cn K' w lo' A' n' c' m') (hK : K + K' ≤ 1099511627776) (he : m ≠ m') : Calls Try.prog 56 #[.slice A n c, .slice A' n' c'] w (RetE (.bool false) w) :=
  same_no h.sl h'.sl (fun e => he ((nd_inj (by omega)).1 e)) (by have := h.2; omega) (by have := h'.2; omega)

theorem lit_c {xs : List Nat} {g : Nat} (h : Own .u32 39 w lo (some ⟨g, 0, none⟩) n c xs) (he : Canon 4294967296 xs) (hv : nv 4294967296 xs = m) (hK : n ≤ K) : Cn K w lo (some ⟨g, 0, none⟩) n c m := by
  rw [eq_nd (by omega) he hv] at h
  exact ⟨h, hK⟩
theorem canon1 {x : Nat} (h : x < 4294967296) (h0 : x ≠ 0) : Canon 4294967296 [x] := ⟨lim_one h, by simpa using h0⟩
theorem canon2 {x y : Nat} (h : x < 4294967296) (h' : y < 4294967296) (h0 : y ≠ 0) : Canon 4294967296 [x, y] := ⟨fun z hz => by simp at hz; omega, by simpa using h0⟩
theorem lim1 {x : Nat} (h : x < 4294967296) : Lim 4294967296 [x] := lim_one h
theorem lim2 {x y : Nat} (h : x < 4294967296) (h' : y < 4294967296) : Lim 4294967296 [x, y] := fun z hz => by simp at hz; omega
theorem val1 (x : Nat) : nv 4294967296 [x] = x := by simp [nv]
theorem val2 (x y : Nat) : nv 4294967296 [x, y] = x + 4294967296 * y := by simp [nv]
theorem lit_nv1 {x g : Nat} (h : Own .u32 39 w lo (some ⟨g, 0, none⟩) 1 c [x]) (hx : x < 4294967296) : Nv 1 w (some ⟨g, 0, none⟩) 1 c x := ⟨_, h.sl, lim1 hx, val1 x, Nat.le_refl _⟩
theorem lit_nv2 {x y g : Nat} (h : Own .u32 39 w lo (some ⟨g, 0, none⟩) 2 c [x, y]) (hx : x < 4294967296) (hy : y < 4294967296) (hm : x + 4294967296 * y = m) : Nv 2 w (some ⟨g, 0, none⟩) 2 c m := ⟨_, h.sl, lim2 hx hy, (val2 x y).trans hm, Nat.le_refl _⟩
theorem lit_cn1 {x g : Nat} (h : Own .u32 39 w lo (some ⟨g, 0, none⟩) 1 c [x]) (hx : x < 4294967296) (h0 : x ≠ 0) : Cn 1 w lo (some ⟨g, 0, none⟩) 1 c x := lit_c h (canon1 hx h0) (val1 x) (Nat.le_refl _)
theorem lit_cn2 {x y g : Nat} (h : Own .u32 39 w lo (some ⟨g, 0, none⟩) 2 c [x, y]) (hx : x < 4294967296) (hy : y < 4294967296) (h0 : y ≠ 0) (hm : x + 4294967296 * y = m) : Cn 2 w lo (some ⟨g, 0, none⟩) 2 c m := lit_c h (canon2 hx hy h0) ((val2 x y).trans hm) (Nat.le_refl _)
end
end Go.Proofs.Ytmfgcjjoagdamaa
