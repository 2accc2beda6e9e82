/-
  The document's numbers by their value: the contracts of its answers for layer 1, once more.
-/
import Derived.Test.YtgmppklfblblpaaNum
import Derived.Test.YtgmppklfblblpaaRef3
import Derived.Test.YtgmppklfblblpaaRef4
import Derived.Test.YtgmppklfblblpaaRef6
namespace Go.Proofs.Ytgmppklfblblpaa
open Go.RowKit
open Go.Lib (hid)

/-- The slice holds the decimal digits of p, at most K of them. -/
def Dg (K : Nat) (w : World) (A : Option Addr) (n c p : Nat) : Prop := Sl .i64 w A n c (nd 10 p) ∧ n ≤ K
def RetD (K p : Nat) (w : World) : Ending → World → Prop := fun E w' => ∃ A n c, E = .returned (.slice A n c) ∧ Dg K w' A n c p ∧ Ext w w'

section
variable {K K' : Nat} {w w' : World} {lo lo' : Nat} {A B : Option Addr} {n c m n' c' p q : Nat}
theorem Dg.mk (h : Sl .i64 w A n c (nd 10 p)) (h' : n ≤ K) : Dg K w A n c p := ⟨h, h'⟩
theorem Dg.ext (h : Dg K w A n c p) (hx : Ext w w') : Dg K w' A n c p := ⟨h.1.ext hx, h.2⟩
theorem Dg.bound (h : Dg K w A n c p) : p < 10 ^ K := by
  rw [← nd_len_le (by omega), h.1.len]; exact h.2
theorem RetO.d {E : Ending} (h : RetO .i64 3 (nd 10 p) w E w') (hb : p < 10 ^ K) : RetD K p w E w' := by
  obtain ⟨A, c, h1, h2, h3⟩ := h
  exact ⟨A, _, c, h1, ⟨h2.sl, (nd_len_le (by omega)).2 hb⟩, h3⟩
theorem pow_10_32 (K : Nat) : (4294967296 : Nat) ^ K ≤ 10 ^ (10 * K) := by
  rw [Nat.pow_mul]; exact Nat.pow_le_pow_left (by omega) K
theorem of_v (h : Nv K w A n c m) (hK : K ≤ 1048576) : Calls Try.prog 10 #[.slice A n c] w (RetD (10 * K) m w) := by
  have hb := h.bound
  obtain ⟨xs, h1, h2, rfl, h3⟩ := h
  exact (rof_any h1 h2 (by omega)).mono fun E w' hr => hr.d (Nat.lt_of_lt_of_le hb (pow_10_32 K))
theorem radd_v (h : Dg K w A n c p) (h' : Dg K' w B n' c' q) (hK : K + K' ≤ 1099511627776) : Calls Try.prog 14 #[.slice A n c, .slice B n' c'] w (RetD (K + K' + 1) (p + q) w) :=
  (radd_any h.1 h'.1 (by have := h.2; omega) (by have := h'.2; omega)).mono fun _ _ hr => hr.d (bd_add (by omega) h.bound h'.bound)
theorem rsub_v (h : Dg K w A n c p) (h' : Dg K' w B n' c' q) (hK : K + K' ≤ 1099511627776) (hle : q ≤ p) : Calls Try.prog 20 #[.slice A n c, .slice B n' c'] w (RetD K (p - q) w) :=
  (rsub_any h.1 h'.1 (by have := h.2; omega) (by have := h'.2; omega) hle).mono fun _ _ hr => hr.d (by have := h.bound; omega)
theorem rcmp_is {v : Int} (h : Dg K w A n c p) (h' : Dg K' w B n' c' q) (hK : K + K' ≤ 1099511627776) (hv : cmpN p q = v) : Calls Try.prog 17 #[.slice A n c, .slice B n' c'] w (RetE (.int .i64 v) w) :=
  hv ▸ rcmp_any h.1 h'.1 (by have := h.2; omega) (by have := h'.2; omega)
theorem limbs_v (h : Dg K w A n c p) (hK : K ≤ 1099511627776) : Calls Try.prog 15 #[.slice A n c] w (RetC K p w) :=
  (rlimbs_any h.1 (by have := h.2; omega)).mono fun _ _ hr => hr.c (Nat.lt_of_lt_of_le h.bound (Nat.pow_le_pow_left (by omega) K))

theorem rtwo_v {v N : Nat} {V : Int} (hV : V = v) (hN : v ≤ N) (hv : v ≤ 1048576) : Calls Try.prog 26 #[.int .i64 V] w (RetD (N + 1) (2 ^ v) w) := by
  subst hV
  refine (rtwo_any hv).mono fun _ _ hr => hr.d ?_
  have h1 : 2 ^ v ≤ 10 ^ v := Nat.pow_le_pow_left (by omega) v
  have h2 : 10 ^ v < 10 ^ (v + 1) := Nat.pow_lt_pow_right (by omega) (by omega)
  have h3 : 10 ^ (v + 1) ≤ 10 ^ (N + 1) := Nat.pow_le_pow_right (by omega) (by omega)
  exact Nat.lt_of_le_of_lt h1 (Nat.lt_of_lt_of_le h2 h3)
theorem rmul_v (h : Dg K w A n c p) (h' : Dg K' w B n' c' q) (hK : K + K' ≤ 1073741824) : Calls Try.prog 27 #[.slice A n c, .slice B n' c'] w (RetD (K + K') (p * q) w) :=
  (rmul_any h.1 h'.1 (by have := h.2; omega) (by have := h'.2; omega)).mono fun _ _ hr => hr.d (by
    rw [Nat.pow_add]
    exact Nat.mul_lt_mul_of_lt_of_le h.bound (Nat.le_of_lt h'.bound) (Nat.pow_pos (by omega)))
theorem rdivmod_v (h : Dg K w A n c p) (h' : Dg K' w B n' c' q) (hK : K + K' ≤ 1073741824) (hq : 0 < q) : Calls Try.prog 25 #[.slice A n c, .slice B n' c'] w (RetQR K K' (p / q) (p % q) w) :=
  (rdivmod_any h.1 h'.1 (by have := h.2; omega) (by have := h'.2; omega) hq).mono fun _ _ ⟨A, n, c, B, m, d, e, s, t, hn, hm, hx⟩ => ⟨A, n, c, B, m, d, e, s, t, Nat.le_trans hn h.2, Nat.le_trans hm h'.2, hx⟩
theorem rbits_v (h : Dg K w A n c p) (hK : K ≤ 1048576) : Calls Try.prog 28 #[.slice A n c] w (RetE (.int .i64 (bl p : Nat)) w) :=
  rbits_any h.1 (by have := h.2; omega)
theorem rsmall_v {v : Nat} {V : Int} (hV : V = v) (hv : v < 18446744073709551616) : Calls Try.prog 30 #[.int .u64 V] w (RetD 20 v w) := by
  subst hV
  exact (rsmall_any hv).mono fun _ _ hr => hr.d (by omega)

/-- Two readings of one list. -/
theorem kept_v {xs : List Nat} (h : Sl .u32 w A n c xs) (h' : Sl .u32 w B n' c' xs) (hn : n ≤ 1099511627776) : Calls Try.prog 19 #[.slice A n c, .slice B n' c'] w (RetE (.bool true) w) := by
  have hs := hid (same_yes h h' rfl hn)
  clear h h'
  go_enter Try.func19, Try.ntmps19
  go_wp2_with fail
  refine hs.out.mono ?_
  rintro E w1 ⟨rfl, hx⟩
  go_wp2_with fail
  go_ret
  exact ⟨rfl, hx⟩
theorem great_no {A B : Option Addr} {n c n' c' : Nat} (h : n ≤ 40) (h' : n' ≤ 40) : Calls Try.prog 8 #[.slice A n c, .slice B n' c'] w fun e w' => e = .returned (.bool false) ∧ w = w' := by
  have h1 : ¬ (40 : Int) < n := by omega
  have h2 : ¬ (40 : Int) < n' := by omega
  go_enter Try.func8, Try.ntmps8
  go_wp2
  go_ret
  exact ⟨rfl, rfl⟩
theorem great_yes {A B : Option Addr} {n c n' c' : Nat} (h : 40 < n ∨ 40 < n') : Calls Try.prog 8 #[.slice A n c, .slice B n' c'] w fun e w' => e = .returned (.bool true) ∧ w = w' := by
  by_cases h1 : 40 < n
  · have h1' : (40 : Int) < n := by omega
    clear h
    go_enter Try.func8, Try.ntmps8
    go_wp2
    go_ret
    exact ⟨rfl, rfl⟩
  · have h1' : ¬ (40 : Int) < n := by omega
    have h2 : (40 : Int) < n' := by omega
    clear h
    go_enter Try.func8, Try.ntmps8
    go_wp2
    go_ret
    exact ⟨rfl, rfl⟩
end
end Go.Proofs.Ytgmppklfblblpaa
