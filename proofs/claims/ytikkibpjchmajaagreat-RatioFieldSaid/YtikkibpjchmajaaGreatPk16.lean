/-
  The arithmetic of long division: a limb of the quotient by the three and two highest limbs; its product taken off.
-/
import Derived.Test.YtikkibpjchmajaaGreatPk11
namespace Go.Proofs.YtikkibpjchmajaaGreat
open Go

theorem nv_drop_step {b : Nat} (xs : List Nat) (k : Nat) : nv b (xs.drop k) = xs[k]?.getD 0 + b * nv b (xs.drop (k + 1)) := by
  by_cases h : k < xs.length
  · rw [List.drop_eq_getElem_cons h, nv, List.getElem?_eq_getElem h]; rfl
  · rw [List.drop_eq_nil_of_le (by omega), List.drop_eq_nil_of_le (by omega), List.getElem?_eq_none (by omega)]
    simp [nv]

/-- Division by a limb: the next lower digit. -/
theorem dlimb_step {b d rest x t : Nat} {qs ds : List Nat} (ht : t = rest * b + x) (hinv : nv b ds = nv b qs * d + rest) : nv b (x :: ds) = nv b (t / d :: qs) * d + t % d := by
  have h1 := Nat.div_add_mod t d
  simp only [nv, hinv, Nat.add_mul, Nat.mul_add]
  rw [Nat.mul_comm (t / d) d, Nat.mul_assoc, Nat.mul_comm b rest]
  omega

/-- What a list's two, three highest limbs say. -/
theorem top_eq {b n : Nat} {X : List Nat} (hb : 1 ≤ b) (hX : Lim b X) (hl : X.length = n + 1) (h2 : 2 ≤ n) :
    nv b X / b ^ (n - 2) = X[n - 2]?.getD 0 + b * (X[n - 1]?.getD 0 + b * X[n]?.getD 0) ∧ nv b X / b ^ n = X[n]?.getD 0 := by
  have e0 : nv b (X.drop (n + 1)) = 0 := by rw [List.drop_eq_nil_of_le (by omega)]; rfl
  have e1 := nv_drop_step (b := b) X n
  have e2 := nv_drop_step (b := b) X (n - 1)
  have e3 := nv_drop_step (b := b) X (n - 2)
  rw [e0] at e1
  rw [show n - 1 + 1 = n from by omega, e1] at e2
  rw [show n - 2 + 1 = n - 1 from by omega, e2] at e3
  rw [nv_div_pow hb hX, nv_div_pow hb hX, e3, e1]
  simp
theorem top_eq' {b n : Nat} {Y : List Nat} (hb : 1 ≤ b) (hY : Lim b Y) (hl : Y.length = n) (h2 : 2 ≤ n) :
    nv b Y / b ^ (n - 2) = Y[n - 2]?.getD 0 + b * Y[n - 1]?.getD 0 ∧ nv b Y / b ^ (n - 1) = Y[n - 1]?.getD 0 := by
  have e0 : nv b (Y.drop n) = 0 := by rw [List.drop_eq_nil_of_le (by omega)]; rfl
  have e2 := nv_drop_step (b := b) Y (n - 1)
  have e3 := nv_drop_step (b := b) Y (n - 2)
  rw [show n - 1 + 1 = n from by omega, e0] at e2
  rw [show n - 2 + 1 = n - 1 from by omega, e2] at e3
  rw [nv_div_pow hb hY, nv_div_pow hb hY, e3, e2]
  simp

/-- What is known of the number U, n + 1 limbs, and of V, n limbs: by their highest limbs. -/
structure Tops (b C U V t1 u2 v1 v2 : Nat) : Prop where
  b2 : 2 ≤ b
  c : 0 < C
  v0 : 0 < v1
  ulo : (u2 + b * t1) * C ≤ U
  uhi : U < (u2 + b * t1 + 1) * C
  vlo : (v2 + b * v1) * C ≤ V
  vhi : V < (v2 + b * v1 + 1) * C
  small : U < V * b
  v2b : v2 < b
  u2b : u2 < b

theorem div_between {a c : Nat} (hc : 0 < c) : a / c * c ≤ a ∧ a < (a / c + 1) * c := by
  have h1 := Nat.div_add_mod a c
  have h2 := Nat.mod_lt a hc
  have h3 : c * (a / c) = a / c * c := Nat.mul_comm _ _
  rw [Nat.add_mul, Nat.one_mul]
  omega

theorem Tops.of {b n : Nat} {X Y : List Nat} (hb : 2 ≤ b) (hX : Lim b X) (hlx : X.length = n + 1) (hY : Lim b Y) (hly : Y.length = n) (h2 : 2 ≤ n) (hs : nv b X < nv b Y * b) (hv : 0 < Y[n - 1]?.getD 0) :
    Tops b (b ^ (n - 2)) (nv b X) (nv b Y) (X[n - 1]?.getD 0 + b * X[n]?.getD 0) (X[n - 2]?.getD 0) (Y[n - 1]?.getD 0) (Y[n - 2]?.getD 0) := by
  have hc : 0 < b ^ (n - 2) := Nat.pow_pos (by omega)
  have h1 := top_eq (by omega) hX hlx h2
  have h3 := top_eq' (by omega) hY hly h2
  have d1 := div_between (a := nv b X) hc
  have d2 := div_between (a := nv b Y) hc
  rw [h1.1] at d1
  rw [h3.1] at d2
  exact ⟨hb, hc, hv, d1.1, d1.2, d2.1, d2.2, hs, lim_getD (by omega) hY _, lim_getD (by omega) hX _⟩

section
variable {b C U V t1 u2 v1 v2 : Nat}
theorem Tops.vpos (h : Tops b C U V t1 u2 v1 v2) : 0 < V := by
  have h1 := h.vlo
  have h2 : 0 < (v2 + b * v1) * C := Nat.mul_pos (by have := Nat.mul_pos (show 0 < b by have := h.b2; omega) h.v0; omega) h.c
  omega
/-- The first guess is not too small. -/
theorem Tops.init (h : Tops b C U V t1 u2 v1 v2) : U / V ≤ t1 / v1 := by
  rw [Nat.le_div_iff_mul_le h.v0]
  have h1 : U / V * V ≤ U := Nat.div_mul_le_self _ _
  have h2 : U / V * (b * v1 * C) ≤ U / V * V := Nat.mul_le_mul_left _ (Nat.le_trans (Nat.mul_le_mul_right C (by omega)) h.vlo)
  have h3 : (u2 + b * t1 + 1) * C ≤ b * (t1 + 1) * C := Nat.mul_le_mul_right C (by have := h.u2b; rw [Nat.mul_add]; omega)
  have h4 : U / V * v1 * (b * C) < (t1 + 1) * (b * C) := by
    have e1 : U / V * v1 * (b * C) = U / V * (b * v1 * C) := by simp only [Nat.mul_assoc, Nat.mul_left_comm]
    have e2 : (t1 + 1) * (b * C) = b * (t1 + 1) * C := by rw [← Nat.mul_assoc, Nat.mul_comm (t1 + 1) b]
    have := h.uhi
    rw [e1, e2]
    omega
  have := Nat.lt_of_mul_lt_mul_right h4
  omega
/-- A guess that is found too great is too great. -/
theorem Tops.step (h : Tops b C U V t1 u2 v1 v2) {q r : Nat} (ht : t1 = q * v1 + r) (hc : b ≤ q ∨ r * b + u2 < q * v2) : U / V < q := by
  have hq : U / V < b := by rw [Nat.div_lt_iff_lt_mul h.vpos, Nat.mul_comm]; exact h.small
  rcases hc with hc | hc
  · omega
  · refine Nat.lt_of_not_le fun hle => ?_
    have h1 : U / V * V ≤ U := Nat.div_mul_le_self _ _
    have h2 : q * ((v2 + b * v1) * C) ≤ U / V * V := Nat.mul_le_mul hle h.vlo
    have h4 : q * (v2 + b * v1) * C < (u2 + b * t1 + 1) * C := by have := h.uhi; rw [Nat.mul_assoc]; omega
    have h5 := Nat.lt_of_mul_lt_mul_right h4
    rw [ht] at h5
    have e1 : q * (v2 + b * v1) = q * v2 + b * (q * v1) := by rw [Nat.mul_add, Nat.mul_left_comm]
    have e2 : b * (q * v1 + r) = b * (q * v1) + r * b := by rw [Nat.mul_add, Nat.mul_comm b r]
    rw [e1, e2] at h5
    omega
/-- A guess that is not found too great is at most one too great. -/
theorem Tops.done (h : Tops b C U V t1 u2 v1 v2) {q r : Nat} (hq : q < b) (ht : t1 = q * v1 + r) (hc : q * v2 ≤ r * b + u2) : q ≤ U / V + 1 := by
  rcases Nat.eq_zero_or_pos q with h0 | h0
  · rw [h0]; exact Nat.zero_le _
  · have e1 : q * (v2 + b * v1) = q * v2 + b * (q * v1) := by rw [Nat.mul_add, Nat.mul_left_comm]
    have e2 : b * (q * v1 + r) = b * (q * v1) + r * b := by rw [Nat.mul_add, Nat.mul_comm b r]
    have h1 : q * (v2 + b * v1) ≤ u2 + b * t1 := by rw [ht, e1, e2]; omega
    have h2 : q * V < q * ((v2 + b * v1 + 1) * C) := Nat.mul_lt_mul_of_pos_left h.vhi h0
    have e3 : q * ((v2 + b * v1 + 1) * C) = q * (v2 + b * v1) * C + q * C := by rw [← Nat.mul_assoc, Nat.mul_add q, Nat.mul_one, Nat.add_mul]
    have h3 : q * (v2 + b * v1) * C ≤ (u2 + b * t1) * C := Nat.mul_le_mul_right C h1
    have h4 : q * C ≤ (v2 + b * v1) * C := Nat.mul_le_mul_right C (by
      have := Nat.mul_le_mul_left b h.v0
      omega)
    have h5 := h.ulo
    have h6 := h.vlo
    obtain ⟨j, rfl⟩ : ∃ j, q = j + 1 := ⟨q - 1, by omega⟩
    have h7 : j * V ≤ U := by rw [Nat.add_mul, Nat.one_mul] at h2; omega
    have := (Nat.le_div_iff_mul_le h.vpos).2 h7
    omega
end

/-- The highest limb of U is at most V's. -/
theorem top_le {b n : Nat} {X Y : List Nat} (hb : 2 ≤ b) (hX : Lim b X) (hlx : X.length = n + 1) (hY : Lim b Y) (hly : Y.length = n) (h2 : 2 ≤ n) (hs : nv b X < nv b Y * b) : X[n]?.getD 0 ≤ Y[n - 1]?.getD 0 := by
  have h1 := (top_eq (by omega) hX hlx h2).2
  have h3 := (top_eq' (by omega) hY hly h2).2
  have d1 := div_between (a := nv b X) (show 0 < b ^ n from Nat.pow_pos (by omega))
  have d2 := div_between (a := nv b Y) (show 0 < b ^ (n - 1) from Nat.pow_pos (by omega))
  rw [h1] at d1
  rw [h3] at d2
  have e : b ^ n = b ^ (n - 1) * b := by rw [← Nat.pow_succ]; congr 1; omega
  have h4 : X[n]?.getD 0 * b ^ n < (Y[n - 1]?.getD 0 + 1) * b ^ n := by
    rw [e, ← Nat.mul_assoc, ← Nat.mul_assoc]
    have h5 : nv b Y * b ≤ (Y[n - 1]?.getD 0 + 1) * b ^ (n - 1) * b := Nat.mul_le_mul_right b (Nat.le_of_lt d2.2)
    rw [e, ← Nat.mul_assoc] at d1
    omega
  have := Nat.lt_of_mul_lt_mul_right h4
  omega

/-- One digit of what is taken off. -/
theorem off_step {b k i cy bw q x t u u' bw' N : Nat} {R ys : List Nat} (hk : k + i < R.length) (hinv : nv b R + b ^ k * (q * nv b (ys.take i)) = N + b ^ (k + i) * (cy + bw)) (hx : ys[i]?.getD 0 = x) (hu : R[k + i]?.getD 0 = u) (ht : t = cy + q * x) (he : u' + t % b + bw = u + b * bw') :
    nv b (R.set (k + i) u') + b ^ k * (q * nv b (ys.take (i + 1))) = N + b ^ (k + (i + 1)) * (t / b + bw') := by
  have h1 := nv_set (b := b) (d := u') hk
  rw [hu] at h1
  rw [nv_take_succ, hx, ← Nat.add_assoc k i 1, Nat.pow_succ]
  have h2 := Nat.mod_add_div t b
  have h3 : b ^ (k + i) * (u' + t + bw) = b ^ (k + i) * (u + b * (t / b + bw')) := by congr 1; rw [Nat.mul_add]; omega
  have h4 : b ^ k * (q * (nv b (ys.take i) + b ^ i * x)) = b ^ k * (q * nv b (ys.take i)) + b ^ (k + i) * (q * x) := by
    rw [Nat.pow_add]
    simp only [Nat.mul_add, Nat.mul_assoc, Nat.mul_left_comm]
  rw [h4, Nat.mul_assoc]
  rw [ht] at h3
  simp only [Nat.mul_add] at h3 hinv ⊢
  rw [← ht] at h3
  generalize b ^ (k + i) * u' = a1 at *
  generalize b ^ (k + i) * u = a2 at *
  generalize b ^ (k + i) * bw = a3 at *
  generalize b ^ (k + i) * cy = a4 at *
  generalize b ^ (k + i) * (q * x) = a5 at *
  generalize b ^ (k + i) * (b * (t / b)) = a6 at *
  generalize b ^ (k + i) * (b * bw') = a7 at *
  generalize b ^ k * (q * nv b (List.take i ys)) = a8 at *
  omega

/-- Noughts above, and so much at most. -/
theorem high_lt {b j : Nat} {R R' : List Nat} (hb : 1 ≤ b) (h : Lim b R) (h' : Lim b R') (hd : R'.drop j = R.drop j) (hv : nv b R < b ^ j) : nv b R' < b ^ j := by
  have e := nv_div_pow hb h j
  have e' := nv_div_pow hb h' j
  rw [Nat.div_eq_of_lt hv] at e
  rw [hd, ← e] at e'
  have d := div_between (a := nv b R') (show 0 < b ^ j from Nat.pow_pos hb)
  rw [e'] at d
  omega

/-- The window's number: the lower limbs taken away. -/
theorem window_val {b k l : Nat} {R : List Nat} (hb : 1 ≤ b) (h : Lim b R) (hv : nv b R < b ^ (k + l)) : nv b ((R.drop k).take l) = nv b R / b ^ k := by
  have e := nv_div_pow hb h k
  have hd : Lim b (R.drop k) := fun y hy => h y (List.mem_of_mem_drop hy)
  have e2 := nv_div_pow hb hd l
  have h0 : nv b (R.drop k) / b ^ l = 0 := by
    rw [← e, Nat.div_div_eq_div_mul, ← Nat.pow_add]; exact Nat.div_eq_of_lt hv
  rw [h0] at e2
  have hs : nv b (R.drop k) = nv b ((R.drop k).take l) + b ^ l * nv b ((R.drop k).drop l) := by
    conv => lhs; rw [← List.take_append_drop l (R.drop k), nv_append, List.length_take]
    rcases Nat.le_total l (R.drop k).length with h | h
    · rw [Nat.min_eq_left h]
    · rw [List.drop_eq_nil_of_le h]; simp [nv]
  rw [← e2] at hs
  rw [e, hs]
  simp

section
variable {b k l V r0 x N N' : Nat}
/-- Nothing was borrowed: the guess was right. -/
theorem off_no (hb : 2 ≤ b) (hV : 0 < V) (hlo : r0 / b ^ k / V ≤ x) (hoff : N + b ^ k * (x * V) = r0) : N < b ^ k * V ∧ N + b ^ k * (x * V) = r0 := by
  refine ⟨?_, hoff⟩
  have hk : 0 < b ^ k := Nat.pow_pos (by omega)
  rw [Nat.div_div_eq_div_mul] at hlo
  have h1 := (div_between (a := r0) (Nat.mul_pos hk hV)).2
  have h2 : (r0 / (b ^ k * V) + 1) * (b ^ k * V) ≤ (x + 1) * (b ^ k * V) := Nat.mul_le_mul_right _ (by omega)
  have e : (x + 1) * (b ^ k * V) = b ^ k * (x * V) + b ^ k * V := by rw [Nat.add_mul, Nat.one_mul, Nat.mul_left_comm]
  omega
/-- There was: it was one too great; the divisor is put on again. -/
theorem off_yes {cy : Nat} (hb : 2 ≤ b) (hV : 0 < V) (hVl : V < b ^ l) (hhi : x ≤ r0 / b ^ k / V + 1) (hN : N < b ^ (k + l)) (hN' : N' < b ^ (k + l)) (hr : r0 < b ^ (k + l)) (hoff : N + b ^ k * (x * V) = r0 + b ^ (k + l)) (hon : N' + b ^ (k + l) * cy = N + b ^ k * V) :
    0 < x ∧ N' < b ^ k * V ∧ N' + b ^ k * ((x - 1) * V) = r0 := by
  have hk : 0 < b ^ k := Nat.pow_pos (by omega)
  rw [Nat.div_div_eq_div_mul] at hhi
  have h1 := div_between (a := r0) (Nat.mul_pos hk hV)
  have hx : 0 < x := by
    rcases Nat.eq_zero_or_pos x with h | h
    · subst h; simp at hoff; omega
    · exact h
  obtain ⟨y, rfl⟩ : ∃ y, x = y + 1 := ⟨x - 1, by omega⟩
  have e : b ^ k * ((y + 1) * V) = b ^ k * (y * V) + b ^ k * V := by rw [Nat.add_mul, Nat.one_mul, Nat.mul_add]
  have hy : y * (b ^ k * V) ≤ r0 := Nat.le_trans (Nat.mul_le_mul_right _ (by omega)) h1.1
  have e2 : y * (b ^ k * V) = b ^ k * (y * V) := Nat.mul_left_comm _ _ _
  have hbl : b ^ k * V ≤ b ^ (k + l) := by rw [Nat.pow_add]; exact Nat.mul_le_mul_left _ (Nat.le_of_lt hVl)
  have hlow : r0 < b ^ k * (y * V) + b ^ k * V := by
    -- what was borrowed says that the guess was greater than the quotient
    have : r0 < b ^ k * ((y + 1) * V) := by omega
    omega
  have hcy : cy = 1 := by
    rcases Nat.lt_or_ge cy 1 with h | h
    · have : cy = 0 := by omega
      subst this; simp at hon; omega
    · rcases Nat.lt_or_ge 1 cy with h2 | h2
      · have := Nat.mul_le_mul_left (b ^ (k + l)) h2
        omega
      · omega
  subst hcy
  rw [Nat.mul_one] at hon
  refine ⟨by omega, ?_, ?_⟩
  · omega
  · rw [Nat.add_sub_cancel]; omega
/-- One limb of the quotient more. -/
theorem quo_step {P : Nat} {qs : List Nat} (hN : N' + b ^ k * (x * V) = N) (hinv : N + b ^ (k + 1) * (V * nv b qs) = P) : N' + b ^ k * (V * nv b (x :: qs)) = P := by
  have e : b ^ k * (V * nv b (x :: qs)) = b ^ k * (x * V) + b ^ (k + 1) * (V * nv b qs) := by
    simp only [nv, Nat.pow_succ, Nat.mul_add, Nat.mul_assoc, Nat.mul_left_comm, Nat.mul_comm]
  omega
end

/-- The end: quotient and rest of the numbers shifted are those of the numbers, the rest shifted. -/
theorem quo_end {p w s N Q : Nat} (hw : 0 < w) (hN : N < w * 2 ^ s) (hinv : N + w * 2 ^ s * Q = p * 2 ^ s) : Q = p / w ∧ N / 2 ^ s = p % w ∧ N = p % w * 2 ^ s := by
  have h2 : 0 < 2 ^ s := Nat.two_pow_pos s
  have e1 : p * 2 ^ s / (w * 2 ^ s) = p / w := Nat.mul_div_mul_right _ _ h2
  have e2 : p * 2 ^ s % (w * 2 ^ s) = p % w * 2 ^ s := Nat.mul_mod_mul_right _ _ _
  have h3 : p * 2 ^ s / (w * 2 ^ s) = Q := by
    rw [← hinv]; exact Nat.div_eq_of_lt_le (by rw [Nat.mul_comm]; omega) (by rw [Nat.add_mul, Nat.one_mul, Nat.mul_comm Q]; omega)
  have h4 : p * 2 ^ s % (w * 2 ^ s) = N := by
    rw [← hinv, Nat.add_mul_mod_self_left, Nat.mod_eq_of_lt hN]
  rw [h3] at e1
  rw [h4] at e2
  refine ⟨e1, ?_, e2⟩
  rw [e2]; exact Nat.mul_div_cancel _ h2

/-- The number shifted is below the divisor shifted, times a power: so many limbs has the quotient. -/
theorem quo_start {b p w s la n : Nat} (hb : 2 ^ s * 2 ≤ b) (hp : p < b ^ la) (hw : b ^ n ≤ w * 2 ^ s * 2) (hn : n ≤ la) : p * 2 ^ s < b ^ (la + 1 - n) * (w * 2 ^ s) := by
  have h2 : 0 < 2 ^ s := Nat.two_pow_pos s
  have h1 : p * 2 ^ s * 2 < b ^ la * b := by
    rw [Nat.mul_assoc]
    exact Nat.mul_lt_mul_of_lt_of_le hp hb (by omega)
  have h3 : b ^ la * b = b ^ (la + 1 - n) * b ^ n := by rw [← Nat.pow_succ, ← Nat.pow_add]; congr 1; omega
  have h4 : b ^ (la + 1 - n) * b ^ n ≤ b ^ (la + 1 - n) * (w * 2 ^ s * 2) := Nat.mul_le_mul_left _ hw
  have e : b ^ (la + 1 - n) * (w * 2 ^ s * 2) = b ^ (la + 1 - n) * (w * 2 ^ s) * 2 := (Nat.mul_assoc _ _ _).symm
  omega
end Go.Proofs.YtikkibpjchmajaaGreat

