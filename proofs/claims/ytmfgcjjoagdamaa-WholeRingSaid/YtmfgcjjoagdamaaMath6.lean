
import Derived.Test.YtmfgcjjoagdamaaRef5
namespace Go.Proofs.Ytmfgcjjoagdamaa
open Go

/-- Above its value's size a list of digits is noughts. -/
theorem high_zero {b j : Nat} {O : List Nat} (hb : 1 ≤ b) (h : Lim b O) (hv : nv b O < b ^ j) : O[j]?.getD 0 = 0 := by
  have e := nv_div_pow hb h j
  rw [Nat.div_eq_of_lt hv] at e
  cases hd : O.drop j with
  | nil =>
    have h1 := List.drop_eq_nil_iff.1 hd
    rw [List.getElem?_eq_none h1]; rfl
  | cons x t =>
    have h1 := List.getElem?_drop (xs := O) (i := j) (j := 0)
    rw [hd] at h1 e
    simp only [List.getElem?_cons_zero, Nat.add_zero] at h1
    rw [← h1]
    simp only [nv] at e
    simp only [Option.getD_some]
    omega

/-- The rows so far have a product of so many digits. -/
theorem rows_lt {b i n' : Nat} {xs ys : List Nat} (hb : 2 ≤ b) (hys : ys.length = n') (hlx : Lim b xs) (hly : Lim b ys) (hi : i ≤ xs.length) : nv b (xs.take i) * nv b ys < b ^ (i + n') := by
  have l1 := nv_lt (b := b) (by omega) (lim_take hlx i)
  have l2 := nv_lt (b := b) (by omega) hly
  rw [List.length_take, Nat.min_eq_left hi] at l1
  rw [hys] at l2
  rw [Nat.pow_add]
  exact Nat.mul_lt_mul_of_lt_of_le l1 (Nat.le_of_lt l2) (Nat.pow_pos (by omega))

theorem rows_zero {b i n' : Nat} {O xs ys : List Nat} (hb : 2 ≤ b) (hys : ys.length = n') (hlx : Lim b xs) (hly : Lim b ys) (hi : i ≤ xs.length) (hO : Lim b O) (hinv : nv b O = nv b (xs.take i) * nv b ys) : O[i + n']?.getD 0 = 0 :=
  high_zero (by omega) hO (by rw [hinv]; exact rows_lt hb hys hlx hly hi)

/-- A row's end: its carry is stored. -/
theorem rows_end {b i k n' cy x P : Nat} {O xs ys : List Nat} (hk : i + k < O.length) (hys : ys.length = n') (hkn : k = n') (hx : xs[i]?.getD 0 = x) (hP : P = nv b (xs.take i) * nv b ys) (h0 : O[i + k]?.getD 0 = 0)
    (hinv : nv b O + b ^ (i + k) * cy = P + x * b ^ i * nv b (ys.take k)) : nv b (O.set (i + k) cy) = nv b (xs.take (i + 1)) * nv b ys := by
  have h1 := nv_set (b := b) (d := cy) hk
  rw [h0, Nat.mul_zero, Nat.add_zero] at h1
  rw [h1, hinv, List.take_of_length_le (by omega), nv_take_succ, hx, Nat.add_mul, ← hP, Nat.mul_comm (b ^ i) x]

theorem le_sq {x y : Nat} (hx : x < 4294967296) (hy : y < 4294967296) : x * y ≤ 18446744065119617025 :=
  Nat.mul_le_mul (show x ≤ 4294967295 by omega) (show y ≤ 4294967295 by omega)
theorem rows_cast (cy o x y : Nat) : ((cy : Int) + (x * y + o)) % 4294967296 = (((cy + o + x * y) % 4294967296 : Nat) : Int) ∧ ((cy : Int) + (x * y + o)) / 4294967296 = (((cy + o + x * y) / 4294967296 : Nat) : Int) := by
  rw [← Int.natCast_mul]; omega
theorem rows_carry {cy o x y : Nat} (hx : x < 4294967296) (hy : y < 4294967296) (hc : cy < 4294967296) (ho : o < 4294967296) : (cy + o + x * y) / 4294967296 < 4294967296 := by
  have := le_sq hx hy
  omega
end Go.Proofs.Ytmfgcjjoagdamaa
