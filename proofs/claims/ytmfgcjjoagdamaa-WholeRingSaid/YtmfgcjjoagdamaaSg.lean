
/-
  Signs of products and powers.
-/
import Derived.Test.YtmfgcjjoagdamaaInt
namespace Go.Proofs.Ytmfgcjjoagdamaa
open Go.RowKit

theorem sg_lim (z : Int) : sg z = -1 ∨ sg z = 0 ∨ sg z = 1 := by rcases sg_cases z with ⟨e, _⟩ | ⟨e, _⟩ | ⟨e, _⟩ <;> rw [e] <;> simp
theorem sg_times (x y : Int) : sg (x * y) = sg x * sg y := by
  rcases sg_cases x with ⟨e1, h1⟩ | ⟨e1, h1⟩ | ⟨e1, h1⟩ <;> rcases sg_cases y with ⟨e2, h2⟩ | ⟨e2, h2⟩ | ⟨e2, h2⟩ <;> rw [e1, e2]
  · exact sg_pos (Int.mul_pos_of_neg_of_neg h1 h2)
  · rw [h2, Int.mul_zero]; rfl
  · exact sg_neg (Int.mul_neg_of_neg_of_pos h1 h2)
  · rw [h1, Int.zero_mul]; rfl
  · rw [h1, Int.zero_mul]; rfl
  · rw [h1, Int.zero_mul]; rfl
  · exact sg_neg (Int.mul_neg_of_pos_of_neg h1 h2)
  · rw [h2, Int.mul_zero]; rfl
  · exact sg_pos (Int.mul_pos h1 h2)
theorem sg_power (x : Int) (n : Nat) : sg (x ^ n) = sg x ^ n := by
  induction n with
  | zero => rw [Int.pow_zero, Int.pow_zero]; rfl
  | succ n ih => rw [Int.pow_succ, Int.pow_succ, sg_times, ih]
theorem sg_power_lim (x : Int) (n : Nat) : -1 ≤ sg x ^ n ∧ sg x ^ n ≤ 1 := by
  rw [← sg_power]
  rcases sg_lim (x ^ n) with e | e | e <;> rw [e] <;> omega
theorem sg_power_wrap (x : Int) (n : Nat) : wrap64 (sg x ^ n * sg x) = sg x ^ (n + 1) := by
  rw [Int.pow_succ]
  have h1 := sg_power_lim x (n + 1)
  rw [Int.pow_succ] at h1
  unfold wrap64
  omega
end Go.Proofs.Ytmfgcjjoagdamaa
