
/-
  The document's numbers by their value: the contracts of its answers for layer 1, once more.
-/
import Derived.Test.YtmfgcjjoagdamaaNum
import Derived.Test.YtmfgcjjoagdamaaRef3
import Derived.Test.YtmfgcjjoagdamaaRef4
import Derived.Test.YtmfgcjjoagdamaaRef6
namespace Go.Proofs.Ytmfgcjjoagdamaa
open Go.RowKit
open Go.Lib (hid)

/-- The slice holds the decimal digits of p, at most K of them. -/
def Dg (K : Nat) (w : World) (A : Option Addr) (n c p : Nat) : Prop := Sl .i64 w A n c (nd 10 p) ∧ n ≤ K
def RetD (K p : Nat) (w : World) : Ending → World → Prop := fun E w' => ∃ A n c, E = .returned (.slice A n c) ∧ Dg K w' A n c p ∧ Ext w w'

section
variable {K K' : Nat} {w w' : World} {lo lo' : Nat} {A B : Option Addr} {n c m n' c' p q : Nat}
theorem Dg.mk (h : Sl .i64 w A n c (nd 10 p)) (h' : n ≤ K) : Dg K w A n c p := ⟨h, h'⟩
theorem Dg.ext (h : Dg K w A n c p) (hx : Ext w w') : Dg K w' A n c p := ⟨h.1.ext hx, h.2⟩
theorem Dg.bound (h : Dg K w A n c p) : p < 10 ^ K := by
  rw [← nd_len_le (by omega), h.1.len]; exact h.2
theorem RetO.d {E : Ending} (h : RetO .i64 3 (nd 10 p) w E w') (hb : p < 10 ^ K) : RetD K p w E w' := by
  obtain ⟨A, c, h1, h2, h3⟩ := h
  exact ⟨A, _, c, h1, ⟨h2.sl, (nd_len_le (by omega)).2 hb⟩, h3⟩
theorem pow_10_32 (K : Nat) : (4294967296 : Nat) ^ K ≤ 10 ^ (10 * K) := by
  rw [Nat.pow_mul]; exact Nat.pow_le_pow_left (by omega) K
theorem of_v (h : Nv K w A n c m) (hK : K ≤ 1048576) : Calls Try.prog 57 #[.slice A n c] w (RetD (10 * K) m w) := by
  have hb := h.bound
  obtain ⟨xs, h1, h2, rfl, h3⟩ := h
  exact (rof_any h1 h2 (by omega)).mono fun E w' hr => hr.d (Nat.lt_of_lt_of_le hb (pow_10_32 K))
theorem radd_v (h : Dg K w A n c p) (h' : Dg K' w B n' c' q) (hK : K + K' ≤ 1099511627776) : Calls Try.prog 67 #[.slice A n c, .slice B n' c'] w (RetD (K + K' + 1) (p + q) w) :=
  (radd_any h.1 h'.1 (by have := h.2; omega) (by have := h'.2; omega)).mono fun _ _ hr => hr.d (bd_add (by omega) h.bound h'.bound)
theorem rsub_v (h : Dg K w A n c p) (h' : Dg K' w B n' c' q) (hK : K + K' ≤ 1099511627776) (hle : q ≤ p) : Calls Try.prog 80 #[.slice A n c, .slice B n' c'] w (RetD K (p - q) w) :=
  (rsub_any h.1 h'.1 (by have := h.2; omega) (by have := h'.2; omega) hle).mono fun _ _ hr => hr.d (by have := h.bound; omega)
theorem rcmp_is {v : Int} (h : Dg K w A n c p) (h' : Dg K' w B n' c' q) (hK : K + K' ≤ 1099511627776) (hv : cmpN p q = v) : Calls Try.prog 79 #[.slice A n c, .slice B n' c'] w (RetE (.int .i64 v) w) :=
  hv ▸ rcmp_any h.1 h'.1 (by have := h.2; omega) (by have := h'.2; omega)
theorem limbs_v (h : Dg K w A n c p) (hK : K ≤ 1099511627776) : Calls Try.prog 58 #[.slice A n c] w (RetC K p w) :=
  (rlimbs_any h.1 (by have := h.2; omega)).mono fun _ _ hr => hr.c (Nat.lt_of_lt_of_le h.bound (Nat.pow_le_pow_left (by omega) K))

theorem rmul_v (h : Dg K w A n c p) (h' : Dg K' w B n' c' q) (hK : K + K' ≤ 1073741824) : Calls Try.prog 65 #[.slice A n c, .slice B n' c'] w (RetD (K + K') (p * q) w) :=
  (rmul_any h.1 h'.1 (by have := h.2; omega) (by have := h'.2; omega)).mono fun _ _ hr => hr.d (by
    rw [Nat.pow_add]
    exact Nat.mul_lt_mul_of_lt_of_le h.bound (Nat.le_of_lt h'.bound) (Nat.pow_pos (by omega)))
theorem rdivmod_v (h : Dg K w A n c p) (h' : Dg K' w B n' c' q) (hK : K + K' ≤ 1073741824) (hq : 0 < q) : Calls Try.prog 75 #[.slice A n c, .slice B n' c'] w (RetQR K K' (p / q) (p % q) w) :=
  (rdivmod_any h.1 h'.1 (by have := h.2; omega) (by have := h'.2; omega) hq).mono fun _ _ ⟨A, n, c, B, m, d, e, s, t, hn, hm, hx⟩ => ⟨A, n, c, B, m, d, e, s, t, Nat.le_trans hn h.2, Nat.le_trans hm h'.2, hx⟩
theorem rsmall_v {v : Nat} {V : Int} (hV : V = v) (hv : v < 18446744073709551616) : Calls Try.prog 66 #[.int .u64 V] w (RetD 20 v w) := by
  subst hV
  exact (rsmall_any hv).mono fun _ _ hr => hr.d (by omega)
end
end Go.Proofs.Ytmfgcjjoagdamaa
