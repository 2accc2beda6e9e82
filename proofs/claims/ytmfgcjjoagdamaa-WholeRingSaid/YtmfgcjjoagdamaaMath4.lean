
import Derived.Test.YtmfgcjjoagdamaaMath3
namespace Go.Proofs.Ytmfgcjjoagdamaa
open Go

theorem nv_div_pow {b : Nat} (hb : 1 ≤ b) {xs : List Nat} (h : Lim b xs) (k : Nat) : nv b xs / b ^ k = nv b (xs.drop k) := by
  by_cases hk : k ≤ xs.length
  · have e : nv b xs = nv b (xs.take k) + b ^ k * nv b (xs.drop k) := by
      conv => lhs; rw [← List.take_append_drop k xs, nv_append, List.length_take, Nat.min_eq_left hk]
    have l := nv_lt hb (lim_take h k)
    rw [List.length_take, Nat.min_eq_left hk] at l
    rw [e, Nat.add_mul_div_left _ _ (Nat.pow_pos (by omega)), Nat.div_eq_of_lt l, Nat.zero_add]
  · have l := nv_lt hb h
    have l2 : b ^ xs.length ≤ b ^ k := Nat.pow_le_pow_right (by omega) (by omega)
    rw [Nat.div_eq_of_lt (by omega), List.drop_eq_nil_of_le (by omega)]; rfl

theorem shr_val {xs : List Nat} {v k : Nat} (h : Lim 4294967296 xs) (hk : k = v / 32 ∨ (k = xs.length ∧ k < v / 32)) : nv 4294967296 xs / 2 ^ v = nv 4294967296 (xs.drop k) / 2 ^ (v % 32) := by
  rw [pow_32, ← Nat.div_div_eq_div_mul, nv_div_pow (by omega) h]
  rcases hk with rfl | ⟨rfl, hlt⟩
  · rfl
  · rw [List.drop_eq_nil_of_le (by omega), List.drop_eq_nil_of_le (by omega)]

theorem shr_nat {y z P q : Nat} (hP : 0 < P) (hq : 0 < q) (hy : y < P * q) : ((y + P * q * z) / P % (P * q)) * P + y % P = y + P * q * (z % P) := by
  have e1 : (y + P * q * z) / P = y / P + q * z := by rw [Nat.mul_assoc, Nat.add_mul_div_left _ _ hP]
  have h1 : y / P < q := by rw [Nat.div_lt_iff_lt_mul hP, Nat.mul_comm]; exact hy
  have e2 : (y / P + q * z) % (P * q) = y / P + q * (z % P) := by
    have e3 : y / P + q * z = (y / P + q * (z % P)) + P * q * (z / P) := by
      have := Nat.mod_add_div z P
      have h4 : q * z = q * (z % P) + P * q * (z / P) := by
        conv => lhs; rw [← this, Nat.mul_add, ← Nat.mul_assoc, Nat.mul_comm q P]
      omega
    rw [e3, Nat.add_mul_mod_self_left]
    apply Nat.mod_eq_of_lt
    have h5 : q * (z % P + 1) ≤ q * P := Nat.mul_le_mul_left _ (Nat.mod_lt _ hP)
    rw [Nat.mul_add, Nat.mul_one, Nat.mul_comm q P] at h5
    omega
  rw [e1, e2, Nat.add_mul]
  have h6 := Nat.div_add_mod y P
  have h7 : q * (z % P) * P = P * q * (z % P) := by rw [Nat.mul_comm, ← Nat.mul_assoc]
  rw [h7, Nat.mul_comm (y / P) P]
  omega

theorem shr_step {b i d P y0 : Nat} {os ys : List Nat} (hol : os.length = i) (hinv : nv b os * P + y0 = nv b (ys.take i) + b ^ i * (ys[i]?.getD 0 % P)) (he : d * P + ys[i]?.getD 0 % P = ys[i]?.getD 0 + b * (ys[i + 1]?.getD 0 % P)) :
    nv b (os ++ [d]) * P + y0 = nv b (ys.take (i + 1)) + b ^ (i + 1) * (ys[i + 1]?.getD 0 % P) := by
  rw [nv_append, hol, nv_take_succ, Nat.pow_succ, Nat.add_mul]
  have h4 : b ^ i * (d * P + ys[i]?.getD 0 % P) = b ^ i * (ys[i]?.getD 0 + b * (ys[i + 1]?.getD 0 % P)) := by rw [he]
  simp only [nv, Nat.mul_zero, Nat.add_zero, Nat.mul_add] at h4 ⊢
  rw [Nat.mul_assoc, Nat.mul_assoc]
  generalize b ^ i * (ys[i]?.getD 0 % P) = t1 at *
  generalize b ^ i * (b * (ys[i + 1]?.getD 0 % P)) = t2 at *
  generalize b ^ i * (d * P) = t3 at *
  generalize b ^ i * ys[i]?.getD 0 = t4 at *
  omega

theorem shr_end {m s : Nat} {os ys : List Nat} (hy : ys.length = m) (hinv : nv 4294967296 os * 2 ^ s + ys[0]?.getD 0 % 2 ^ s = nv 4294967296 (ys.take m) + 4294967296 ^ m * (ys[m]?.getD 0 % 2 ^ s)) :
    nv 4294967296 os = nv 4294967296 ys / 2 ^ s := by
  rw [List.take_of_length_le (by omega), List.getElem?_eq_none (l := ys) (i := m) (by omega)] at hinv
  simp only [Option.getD_none, Nat.zero_mod, Nat.mul_zero, Nat.add_zero] at hinv
  have hP : 0 < 2 ^ s := Nat.two_pow_pos s
  rw [← hinv, Nat.mul_comm, Nat.mul_add_div hP, Nat.div_eq_of_lt (Nat.mod_lt _ hP), Nat.add_zero]

end Go.Proofs.Ytmfgcjjoagdamaa
