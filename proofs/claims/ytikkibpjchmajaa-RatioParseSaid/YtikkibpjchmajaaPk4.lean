/-
  Math3
  Math4
-/
import Derived.Test.YtikkibpjchmajaaPk2
import Derived.Laws.BitsAllLaws
namespace Go.Proofs.Ytikkibpjchmajaa
open Go

theorem pow_cast (s : Nat) : (2 : Int) ^ s = ((2 ^ s : Nat) : Int) := by
  induction s with
  | zero => rfl
  | succ s ih => rw [Int.pow_succ, ih, Nat.pow_succ]; simp

theorem two_split {s : Nat} (hs : s < 32) : ∃ q : Nat, 0 < q ∧ (4294967296 : Nat) = 2 ^ s * q := by
  refine ⟨2 ^ (32 - s), Nat.two_pow_pos _, ?_⟩
  rw [← Nat.pow_add, show s + (32 - s) = 32 from by omega]

theorem shl_nat {x cy P q : Nat} (hP : 0 < P) (hq : 0 < q) (hx : x < P * q) (hc : cy < P) :
    cy + x * P % (P * q) < P * q ∧ x * P / (P * q) < P ∧ (x * P % (P * q)) % P = 0 ∧ cy + x * P % (P * q) + P * q * (x * P / (P * q)) = cy + x * P := by
  have e : x * P % (P * q) = P * (x % q) := by rw [Nat.mul_comm x P, Nat.mul_mod_mul_left]
  have e2 : x * P / (P * q) = x / q := by rw [Nat.mul_comm x P, Nat.mul_div_mul_left _ _ hP]
  have h1 : x % q < q := Nat.mod_lt _ hq
  have h2 : P * (x % q + 1) ≤ P * q := Nat.mul_le_mul_left _ h1
  rw [Nat.mul_add, Nat.mul_one] at h2
  refine ⟨by rw [e]; omega, ?_, by rw [e]; exact Nat.mul_mod_right _ _, ?_⟩
  · rw [e2]; rw [Nat.div_lt_iff_lt_mul hq]; exact hx
  · have := Nat.mod_add_div (x * P) (P * q)
    omega

theorem shl_form {x cy s : Nat} (hs : s < 32) (hx : x < 4294967296) (hc : cy < 2 ^ s) : ∃ d hi : Nat, d < 4294967296 ∧ hi < 2 ^ s ∧ d + 4294967296 * hi = cy + x * 2 ^ s ∧
    bits BinOp.or IntKind.u32 (cy : Int) (IntKind.u64.wrap ((x : Int) * 2 ^ s) % 4294967296) = (d : Int) ∧ IntKind.u64.wrap ((x : Int) * 2 ^ s) / 4294967296 % 4294967296 = (hi : Int) := by
  obtain ⟨q, hq, hB⟩ := two_split hs
  have hP : 0 < 2 ^ s := Nat.two_pow_pos s
  have hx' : x < 2 ^ s * q := by omega
  obtain ⟨h1, h2, h3, h4⟩ := shl_nat hP hq hx' hc
  rw [← hB] at h1 h2 h3 h4
  have hs2 : 2 ^ s ≤ 2147483648 := by
    have : 2 ^ s ≤ 2 ^ 31 := Nat.pow_le_pow_right (by omega) (by omega)
    simpa using this
  have hw : IntKind.u64.wrap ((x : Int) * 2 ^ s) = ((x * 2 ^ s : Nat) : Int) := by
    have hlt : x * 2 ^ s < 18446744073709551616 := by
      have := Nat.mul_le_mul (Nat.le_of_lt hx) hs2
      omega
    have e0 : (x : Int) * 2 ^ s = ((x * 2 ^ s : Nat) : Int) := by rw [pow_cast, Int.natCast_mul]
    rw [IntKind.wrap_u64, e0]
    generalize x * 2 ^ s = z at *
    omega
  rw [hw]
  generalize x * 2 ^ s = z at *
  have hl : z % 4294967296 < 4294967296 := Nat.mod_lt _ (by omega)
  refine ⟨cy + z % 4294967296, z / 4294967296, h1, h2, h4, ?_, ?_⟩
  · have e1 : ((z : Nat) : Int) % 4294967296 = ((z % 4294967296 : Nat) : Int) := by omega
    rw [e1, u32_or_nat _ _ (by omega) hl, Nat.or_comm, nat_join s _ _ h3 hc, Nat.add_comm]
  · have : z / 4294967296 < 4294967296 := by omega
    generalize hz : z / 4294967296 = y at *
    omega

theorem shl_step {b i cy d hi P : Nat} {os xs : List Nat} (hol : os.length = i) (hinv : nv b os + b ^ i * cy = nv b (xs.take i) * P) (he : d + b * hi = cy + xs[i]?.getD 0 * P) :
    nv b (os ++ [d]) + b ^ (i + 1) * hi = nv b (xs.take (i + 1)) * P := by
  rw [nv_append, hol, nv_take_succ, Nat.pow_succ, Nat.add_mul, ← hinv]
  have h4 : b ^ i * (d + b * hi) = b ^ i * (cy + xs[i]?.getD 0 * P) := by rw [he]
  simp only [nv, Nat.mul_zero, Nat.add_zero, Nat.mul_add] at h4 ⊢
  rw [Nat.mul_assoc, Nat.mul_assoc]
  generalize b ^ i * cy = t1 at *
  generalize b ^ i * (b * hi) = t2 at *
  generalize b ^ i * d = t3 at *
  generalize b ^ i * (xs[i]?.getD 0 * P) = t4 at *
  omega

theorem shl_set {A : List Nat} {j c d hi r : Nat} (hA : A.length = j) : ((A ++ [c] ++ List.replicate (r + 1) 0).set j d).set (j + 1) hi = A ++ [d] ++ [hi] ++ List.replicate r 0 := by
  subst hA
  rw [List.replicate_succ, List.append_assoc, List.set_append_right _ _ (by omega), Nat.sub_self]
  simp only [List.singleton_append, List.cons_append, List.nil_append, List.set_cons_zero, List.append_assoc]
  rw [List.set_append_right _ _ (by omega), Nat.add_sub_cancel_left]
  rfl

theorem pow_32 (v : Nat) : 2 ^ v = 4294967296 ^ (v / 32) * 2 ^ (v % 32) := by
  have h : 2 ^ v = 2 ^ (32 * (v / 32) + v % 32) := by rw [Nat.div_add_mod]
  rw [h, Nat.pow_add, Nat.pow_mul]

theorem shl_end {m k s cy : Nat} {os xs : List Nat} (hx : xs.length = m) (ho : os.length = m) (hinv : nv 4294967296 os + 4294967296 ^ m * cy = nv 4294967296 (xs.take m) * 2 ^ s) :
    nv 4294967296 (List.replicate k 0 ++ os ++ [cy]) = nv 4294967296 xs * (4294967296 ^ k * 2 ^ s) := by
  rw [List.take_of_length_le (by omega)] at hinv
  rw [List.append_assoc, nv_append, nv_append, nv_zeros, List.length_replicate, ho, Nat.zero_add]
  simp only [nv, Nat.mul_zero, Nat.add_zero]
  rw [hinv, ← Nat.mul_assoc, ← Nat.mul_assoc, Nat.mul_comm (4294967296 ^ k)]

end Go.Proofs.Ytikkibpjchmajaa

namespace Go.Proofs.Ytikkibpjchmajaa
open Go

theorem nv_div_pow {b : Nat} (hb : 1 ≤ b) {xs : List Nat} (h : Lim b xs) (k : Nat) : nv b xs / b ^ k = nv b (xs.drop k) := by
  by_cases hk : k ≤ xs.length
  · have e : nv b xs = nv b (xs.take k) + b ^ k * nv b (xs.drop k) := by
      conv => lhs; rw [← List.take_append_drop k xs, nv_append, List.length_take, Nat.min_eq_left hk]
    have l := nv_lt hb (lim_take h k)
    rw [List.length_take, Nat.min_eq_left hk] at l
    rw [e, Nat.add_mul_div_left _ _ (Nat.pow_pos (by omega)), Nat.div_eq_of_lt l, Nat.zero_add]
  · have l := nv_lt hb h
    have l2 : b ^ xs.length ≤ b ^ k := Nat.pow_le_pow_right (by omega) (by omega)
    rw [Nat.div_eq_of_lt (by omega), List.drop_eq_nil_of_le (by omega)]; rfl

theorem shr_val {xs : List Nat} {v k : Nat} (h : Lim 4294967296 xs) (hk : k = v / 32 ∨ (k = xs.length ∧ k < v / 32)) : nv 4294967296 xs / 2 ^ v = nv 4294967296 (xs.drop k) / 2 ^ (v % 32) := by
  rw [pow_32, ← Nat.div_div_eq_div_mul, nv_div_pow (by omega) h]
  rcases hk with rfl | ⟨rfl, hlt⟩
  · rfl
  · rw [List.drop_eq_nil_of_le (by omega), List.drop_eq_nil_of_le (by omega)]

theorem shr_nat {y z P q : Nat} (hP : 0 < P) (hq : 0 < q) (hy : y < P * q) : ((y + P * q * z) / P % (P * q)) * P + y % P = y + P * q * (z % P) := by
  have e1 : (y + P * q * z) / P = y / P + q * z := by rw [Nat.mul_assoc, Nat.add_mul_div_left _ _ hP]
  have h1 : y / P < q := by rw [Nat.div_lt_iff_lt_mul hP, Nat.mul_comm]; exact hy
  have e2 : (y / P + q * z) % (P * q) = y / P + q * (z % P) := by
    have e3 : y / P + q * z = (y / P + q * (z % P)) + P * q * (z / P) := by
      have := Nat.mod_add_div z P
      have h4 : q * z = q * (z % P) + P * q * (z / P) := by
        conv => lhs; rw [← this, Nat.mul_add, ← Nat.mul_assoc, Nat.mul_comm q P]
      omega
    rw [e3, Nat.add_mul_mod_self_left]
    apply Nat.mod_eq_of_lt
    have h5 : q * (z % P + 1) ≤ q * P := Nat.mul_le_mul_left _ (Nat.mod_lt _ hP)
    rw [Nat.mul_add, Nat.mul_one, Nat.mul_comm q P] at h5
    omega
  rw [e1, e2, Nat.add_mul]
  have h6 := Nat.div_add_mod y P
  have h7 : q * (z % P) * P = P * q * (z % P) := by rw [Nat.mul_comm, ← Nat.mul_assoc]
  rw [h7, Nat.mul_comm (y / P) P]
  omega

theorem shr_step {b i d P y0 : Nat} {os ys : List Nat} (hol : os.length = i) (hinv : nv b os * P + y0 = nv b (ys.take i) + b ^ i * (ys[i]?.getD 0 % P)) (he : d * P + ys[i]?.getD 0 % P = ys[i]?.getD 0 + b * (ys[i + 1]?.getD 0 % P)) :
    nv b (os ++ [d]) * P + y0 = nv b (ys.take (i + 1)) + b ^ (i + 1) * (ys[i + 1]?.getD 0 % P) := by
  rw [nv_append, hol, nv_take_succ, Nat.pow_succ, Nat.add_mul]
  have h4 : b ^ i * (d * P + ys[i]?.getD 0 % P) = b ^ i * (ys[i]?.getD 0 + b * (ys[i + 1]?.getD 0 % P)) := by rw [he]
  simp only [nv, Nat.mul_zero, Nat.add_zero, Nat.mul_add] at h4 ⊢
  rw [Nat.mul_assoc, Nat.mul_assoc]
  generalize b ^ i * (ys[i]?.getD 0 % P) = t1 at *
  generalize b ^ i * (b * (ys[i + 1]?.getD 0 % P)) = t2 at *
  generalize b ^ i * (d * P) = t3 at *
  generalize b ^ i * ys[i]?.getD 0 = t4 at *
  omega

theorem shr_end {m s : Nat} {os ys : List Nat} (hy : ys.length = m) (hinv : nv 4294967296 os * 2 ^ s + ys[0]?.getD 0 % 2 ^ s = nv 4294967296 (ys.take m) + 4294967296 ^ m * (ys[m]?.getD 0 % 2 ^ s)) :
    nv 4294967296 os = nv 4294967296 ys / 2 ^ s := by
  rw [List.take_of_length_le (by omega), List.getElem?_eq_none (l := ys) (i := m) (by omega)] at hinv
  simp only [Option.getD_none, Nat.zero_mod, Nat.mul_zero, Nat.add_zero] at hinv
  have hP : 0 < 2 ^ s := Nat.two_pow_pos s
  rw [← hinv, Nat.mul_comm, Nat.mul_add_div hP, Nat.div_eq_of_lt (Nat.mod_lt _ hP), Nat.add_zero]

end Go.Proofs.Ytikkibpjchmajaa

