/-
  Math5
-/
import Derived.Test.YtikkibpjchmajaaPk4
import Derived.Lib.BitFns
import Derived.Lib.ItoaNum
namespace Go.Proofs.Ytikkibpjchmajaa
open Go

/-- How many bits a number has. -/
def bl (n : Nat) : Nat := (nd 2 n).length

theorem bl_zero : bl 0 = 0 := rfl
theorem bl_bounds {n : Nat} (h : n ≠ 0) : 1 ≤ bl n ∧ 2 ^ (bl n - 1) ≤ n ∧ n < 2 ^ bl n := by
  have hne : nd 2 n ≠ [] := fun e => h ((nd_eq_nil (by omega)).1 e)
  have h1 := nv_ge_pow (b := 2) (by omega) (canon_nd (by omega) n) hne
  have h2 := nv_lt (b := 2) (by omega) (nd_lim (by omega) n)
  rw [nv_nd (by omega)] at h1 h2
  have : (nd 2 n).length ≠ 0 := fun e => hne (List.eq_nil_of_length_eq_zero e)
  exact ⟨by unfold bl; omega, h1, h2⟩
theorem bl_unique {n k : Nat} (hk : 1 ≤ k) (h1 : 2 ^ (k - 1) ≤ n) (h2 : n < 2 ^ k) : bl n = k := by
  have h0 : n ≠ 0 := by have := Nat.two_pow_pos (k - 1); omega
  obtain ⟨b1, b2, b3⟩ := bl_bounds h0
  have l1 : bl n - 1 < k := (Nat.pow_lt_pow_iff_right (a := 2) (by omega)).1 (Nat.lt_of_le_of_lt b2 h2)
  have l2 : k - 1 < bl n := (Nat.pow_lt_pow_iff_right (a := 2) (by omega)).1 (Nat.lt_of_le_of_lt h1 b3)
  omega
theorem bl_le {n k : Nat} (h : n < 2 ^ k) : bl n ≤ k := by
  by_cases h0 : n = 0
  · subst h0; rw [bl_zero]; omega
  · obtain ⟨b1, b2, b3⟩ := bl_bounds h0
    have := (Nat.pow_lt_pow_iff_right (a := 2) (by omega)).1 (Nat.lt_of_le_of_lt b2 h)
    omega
theorem lt_of_bl {n k : Nat} (h : bl n ≤ k) : n < 2 ^ k := by
  by_cases h0 : n = 0
  · subst h0; exact Nat.two_pow_pos k
  · obtain ⟨_, _, b3⟩ := bl_bounds h0
    exact Nat.lt_of_lt_of_le b3 (Nat.pow_le_pow_right (by omega) h)
theorem bl_bound {n K : Nat} (h : n < 4294967296 ^ K) : bl n ≤ 32 * K := bl_le (by rw [Nat.pow_mul]; exact h)
theorem bl_eq_zero {n : Nat} : bl n = 0 ↔ n = 0 := by
  constructor
  · intro h
    by_cases h0 : n = 0
    · exact h0
    · have := (bl_bounds h0).1; omega
  · rintro rfl; rfl

/-- The bits of limbs: those of the highest one, and 32 for each below. -/
theorem bl_top {xs : List Nat} {m : Nat} (hm : xs.length = m + 1) (hl : Lim 4294967296 xs) (ht : xs[m]?.getD 0 ≠ 0) : (bl (nv 4294967296 xs) = 32 * m + Lib.bitLen (xs[m]?.getD 0)) ∧ Lib.bitLen (xs[m]?.getD 0) ≤ 32 := by
  have hx := lim_getD (b := 4294967296) (by omega) hl m
  have e : nv 4294967296 xs = nv 4294967296 (xs.take m) + 4294967296 ^ m * xs[m]?.getD 0 := by
    rw [← nv_take_succ, List.take_of_length_le (by omega)]
  have l := nv_lt (b := 4294967296) (by omega) (lim_take hl m)
  rw [List.length_take, Nat.min_eq_left (by omega)] at l
  generalize xs[m]?.getD 0 = x at *
  obtain ⟨c1, c2, c3⟩ := Lib.bitLenAux_bounds 64 x (by omega) ht
  have c4 : Lib.bitLen x ≤ 32 := Lib.bitLen_le x 32 (by omega) (by omega)
  refine ⟨?_, c4⟩
  have hp : (4294967296 : Nat) ^ m = 2 ^ (32 * m) := by rw [Nat.pow_mul]
  rw [hp] at l
  rw [e, hp]
  change 1 ≤ Lib.bitLen x at c1
  change 2 ^ (Lib.bitLen x - 1) ≤ x at c2
  change x < 2 ^ Lib.bitLen x at c3
  refine bl_unique (by omega) ?_ ?_
  · rw [show 32 * m + Lib.bitLen x - 1 = 32 * m + (Lib.bitLen x - 1) from by omega, Nat.pow_add]
    exact Nat.le_trans (Nat.mul_le_mul_left _ c2) (Nat.le_add_left _ _)
  · rw [Nat.pow_add]
    have : 2 ^ (32 * m) * (x + 1) ≤ 2 ^ (32 * m) * 2 ^ Lib.bitLen x := Nat.mul_le_mul_left _ c3
    rw [Nat.mul_add, Nat.mul_one] at this
    omega

theorem nd_top {b n m : Nat} (hb : 2 ≤ b) (h : (nd b n).length = m + 1) : (nd b n)[m]?.getD 0 ≠ 0 := by
  have h1 := nd_last hb n
  rw [List.getLast?_eq_getElem?, h, Nat.add_sub_cancel] at h1
  rw [List.getElem?_eq_getElem (by omega)] at h1 ⊢
  simpa using h1

/-- More than so many limbs: from that power of the base on. -/
theorem nd_len_gt {b n k : Nat} (hb : 2 ≤ b) : k < (nd b n).length ↔ b ^ k ≤ n := by
  constructor
  · intro h
    have h1 := nv_ge_pow (b := b) hb (canon_nd hb n) (by intro e; rw [e] at h; simp at h)
    rw [nv_nd hb] at h1
    exact Nat.le_trans (Nat.pow_le_pow_right (by omega) (by omega)) h1
  · intro h
    rcases Nat.lt_or_ge k (nd b n).length with hlt | hge
    · exact hlt
    · have h2 := nv_lt (b := b) (by omega) (nd_lim hb n)
      rw [nv_nd hb] at h2
      have := Nat.pow_le_pow_right (n := b) (by omega) hge
      omega
theorem nd_len_le {b n k : Nat} (hb : 2 ≤ b) : (nd b n).length ≤ k ↔ n < b ^ k := by
  have := nd_len_gt (b := b) (n := n) (k := k) hb
  omega

theorem nd_len_mono {b m n : Nat} (hb : 2 ≤ b) (h : m ≤ n) : (nd b m).length ≤ (nd b n).length := by
  rw [nd_len_le hb]
  have := nv_lt (b := b) (by omega) (nd_lim hb n)
  rw [nv_nd hb] at this
  omega

/-- So many limbs make at most ten times as many digits. -/
theorem dec_len {xs : List Nat} {k : Nat} (hk : xs.length ≤ k) (hl : Lim 4294967296 xs) : (nd 10 (nv 4294967296 xs)).length ≤ 10 * k := by
  rw [nd_len_le (by omega)]
  have h1 := nv_lt (b := 4294967296) (by omega) hl
  have h2 : (4294967296 : Nat) ^ xs.length ≤ 4294967296 ^ k := Nat.pow_le_pow_right (by omega) hk
  have h3 : (4294967296 : Nat) ^ k ≤ (10 ^ 10) ^ k := Nat.pow_le_pow_left (by omega) k
  rw [← Nat.pow_mul] at h3
  omega

end Go.Proofs.Ytikkibpjchmajaa

