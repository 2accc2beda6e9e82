
import Derived.Test.YtmfgcjjoagdamaaMath
namespace Go.Proofs.Ytmfgcjjoagdamaa

theorem sub_step {b i bw d bw' : Nat} {os xs ys : List Nat} (hol : os.length = i) (hinv : nv b os + nv b (ys.take i) = nv b (xs.take i) + b ^ i * bw) (he : d + ys[i]?.getD 0 + bw = xs[i]?.getD 0 + b * bw') :
    nv b (os ++ [d]) + nv b (ys.take (i + 1)) = nv b (xs.take (i + 1)) + b ^ (i + 1) * bw' := by
  rw [nv_append, hol, nv_take_succ, nv_take_succ, Nat.pow_succ]
  have h4 : b ^ i * (d + ys[i]?.getD 0 + bw) = b ^ i * (xs[i]?.getD 0 + b * bw') := by rw [he]
  simp only [nv, Nat.mul_zero, Nat.add_zero, Nat.mul_add] at h4 ⊢
  rw [Nat.mul_assoc]
  generalize b ^ i * bw = t1 at *
  generalize b ^ i * (b * bw') = t2 at *
  generalize b ^ i * d = t3 at *
  omega

theorem sub_end {b m bw : Nat} {os xs ys : List Nat} (hb : 2 ≤ b) (hx : xs.length = m) (hy : ys.length ≤ m) (ho : os.length = m) (hl : Lim b os) (hge : nv b ys ≤ nv b xs)
    (hinv : nv b os + nv b (ys.take m) = nv b (xs.take m) + b ^ m * bw) : nv b os = nv b xs - nv b ys := by
  rw [List.take_of_length_le (by omega), List.take_of_length_le (by omega)] at hinv
  have l1 := nv_lt (b := b) (by omega) hl
  rw [ho] at l1
  rcases Nat.eq_zero_or_pos bw with h0 | h0
  · subst h0; omega
  · have l5 : b ^ m * 1 ≤ b ^ m * bw := Nat.mul_le_mul_left _ h0
    generalize b ^ m * bw = t at *
    generalize b ^ m = t1 at *
    omega

end Go.Proofs.Ytmfgcjjoagdamaa
