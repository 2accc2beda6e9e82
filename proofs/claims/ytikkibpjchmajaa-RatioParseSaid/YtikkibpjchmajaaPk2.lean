/-
  Math
  Math2
  Fractions made shorter: the reduced numerator and denominator; two fractions are one just if they are so across. No program in sight.
  Texts of numbers: bytes, digits, values. No program in sight.
-/

namespace Go.Proofs.Ytikkibpjchmajaa

/-- The value of digits in base b, the lowest one first. -/
def nv (b : Nat) : List Nat → Nat
  | [] => 0
  | x :: xs => x + b * nv b xs

def ndF (b : Nat) : Nat → Nat → List Nat
  | 0, _ => []
  | f + 1, n => if n = 0 then [] else n % b :: ndF b f (n / b)

/-- The canonical digits of a number. -/
def nd (b n : Nat) : List Nat := ndF b n n

/-- Digits without noughts at the end. -/
def Canon (b : Nat) (xs : List Nat) : Prop := (∀ x ∈ xs, x < b) ∧ xs.getLast? ≠ some 0

def Lim (b : Nat) (xs : List Nat) : Prop := ∀ x ∈ xs, x < b

theorem nv_nil (b : Nat) : nv b [] = 0 := rfl
theorem nv_cons (b x : Nat) (xs : List Nat) : nv b (x :: xs) = x + b * nv b xs := rfl

theorem nv_append (b : Nat) (xs ys : List Nat) : nv b (xs ++ ys) = nv b xs + b ^ xs.length * nv b ys := by
  induction xs with
  | nil => simp [nv]
  | cons x xs ih => rw [List.cons_append, nv, nv, ih, List.length_cons, Nat.pow_succ, Nat.mul_add, Nat.add_assoc, Nat.mul_comm (b ^ xs.length) b, Nat.mul_assoc]

theorem ndF_zero (b f : Nat) : ndF b f 0 = [] := by cases f <;> simp [ndF]

theorem div_lt_self' {b n : Nat} (hb : 2 ≤ b) (hn : n ≠ 0) : n / b < n := Nat.div_lt_self (by omega) (by omega)

theorem ndF_mono {b : Nat} (hb : 2 ≤ b) : ∀ (f g n : Nat), n ≤ f → n ≤ g → ndF b f n = ndF b g n
  | 0, g, n, h, _ => by obtain rfl : n = 0 := by omega
                        rw [ndF_zero, ndF_zero]
  | f + 1, 0, n, _, h => by obtain rfl : n = 0 := by omega
                            rw [ndF_zero, ndF_zero]
  | f + 1, g + 1, n, h1, h2 => by
    by_cases hn : n = 0
    · simp [ndF, hn]
    · have := div_lt_self' hb hn
      simp only [ndF, hn, if_false, List.cons.injEq, true_and]
      exact ndF_mono hb f g (n / b) (by omega) (by omega)

theorem nd_zero (b : Nat) : nd b 0 = [] := rfl
theorem nd_pos {b n : Nat} (hb : 2 ≤ b) (hn : n ≠ 0) : nd b n = n % b :: nd b (n / b) := by
  have := div_lt_self' hb hn
  unfold nd
  obtain ⟨m, rfl⟩ : ∃ m, n = m + 1 := ⟨n - 1, by omega⟩
  rw [ndF, if_neg hn, ndF_mono hb m ((m + 1) / b) ((m + 1) / b) (by omega) (by omega)]

theorem nd_ind {b : Nat} (hb : 2 ≤ b) {P : Nat → Prop} (h0 : P 0) (h : ∀ n, n ≠ 0 → P (n / b) → P n) (n : Nat) : P n := by
  induction n using Nat.strongRecOn with
  | ind n ih =>
    by_cases hn : n = 0
    · subst hn; exact h0
    · exact h n hn (ih _ (div_lt_self' hb hn))

theorem nv_nd {b : Nat} (hb : 2 ≤ b) (n : Nat) : nv b (nd b n) = n := by
  induction n using nd_ind hb with
  | h0 => rfl
  | h n hn ih => rw [nd_pos hb hn, nv_cons, ih, Nat.mod_add_div]

theorem nd_lim {b : Nat} (hb : 2 ≤ b) (n : Nat) : Lim b (nd b n) := by
  induction n using nd_ind hb with
  | h0 => intro x hx; simp [nd_zero] at hx
  | h n hn ih =>
    rw [nd_pos hb hn]
    intro x hx
    rcases List.mem_cons.1 hx with rfl | hx
    · exact Nat.mod_lt _ (by omega)
    · exact ih x hx

theorem nd_eq_nil {b n : Nat} (hb : 2 ≤ b) : nd b n = [] ↔ n = 0 := by
  constructor
  · intro h
    rcases Nat.eq_zero_or_pos n with h0 | h0
    · exact h0
    · rw [nd_pos hb (by omega)] at h; simp at h
  · rintro rfl; rfl

theorem nd_last {b : Nat} (hb : 2 ≤ b) (n : Nat) : (nd b n).getLast? ≠ some 0 := by
  induction n using nd_ind hb with
  | h0 => simp [nd_zero]
  | h n hn ih =>
    rw [nd_pos hb hn, List.getLast?_cons]
    by_cases h : n / b = 0
    · rw [h, nd_zero]
      have : n % b = n := by
        have h2 := Nat.div_add_mod n b
        rw [h] at h2; omega
      simp [this]; omega
    · cases hl : (nd b (n / b)).getLast? with
      | none =>
        rw [List.getLast?_eq_none_iff, nd_eq_nil hb] at hl
        exact absurd hl h
      | some z =>
        rw [hl] at ih
        simpa using ih

theorem canon_nd {b : Nat} (hb : 2 ≤ b) (n : Nat) : Canon b (nd b n) := ⟨nd_lim hb n, nd_last hb n⟩

theorem canon_tail {b x : Nat} {xs : List Nat} (h : Canon b (x :: xs)) : Canon b xs := by
  refine ⟨fun y hy => h.1 y (List.mem_cons_of_mem _ hy), fun hl => h.2 ?_⟩
  rw [List.getLast?_cons, hl]; rfl

theorem nd_nv {b : Nat} (hb : 2 ≤ b) : ∀ {xs : List Nat}, Canon b xs → nd b (nv b xs) = xs
  | [], _ => rfl
  | x :: xs, h => by
    have ih := nd_nv hb (canon_tail h)
    have hx : x < b := h.1 x (by simp)
    have hn : nv b (x :: xs) ≠ 0 := by
      intro h0
      rw [nv_cons] at h0
      have hx0 : x = 0 := by omega
      have hm : b * nv b xs = 0 := by omega
      have hv : nv b xs = 0 := by
        rcases Nat.mul_eq_zero.1 hm with h | h
        · omega
        · exact h
      rw [hv, nd_zero] at ih
      subst ih; subst hx0
      exact h.2 rfl
    rw [nd_pos hb hn, nv_cons]
    have h1 : (x + b * nv b xs) % b = x := by rw [Nat.add_mul_mod_self_left, Nat.mod_eq_of_lt hx]
    have h2 : (x + b * nv b xs) / b = nv b xs := by
      rw [Nat.add_mul_div_left _ _ (by omega), Nat.div_eq_of_lt hx, Nat.zero_add]
    rw [h1, h2, ih]

/-- Digits that are canonical and have the value are the number's. -/
theorem eq_nd {b : Nat} (hb : 2 ≤ b) {xs : List Nat} {n : Nat} (h : Canon b xs) (hv : nv b xs = n) : xs = nd b n := by
  rw [← hv, nd_nv hb h]

theorem nd_inj {b m n : Nat} (hb : 2 ≤ b) : nd b m = nd b n ↔ m = n :=
  ⟨fun h => by have := congrArg (nv b) h; rwa [nv_nd hb, nv_nd hb] at this, fun h => by rw [h]⟩

theorem nv_lt {b : Nat} (hb : 1 ≤ b) : ∀ {xs : List Nat}, Lim b xs → nv b xs < b ^ xs.length
  | [], _ => by simp [nv]
  | x :: xs, h => by
    have ih := nv_lt hb (xs := xs) (fun y hy => h y (List.mem_cons_of_mem _ hy))
    have hx : x < b := h x (by simp)
    rw [nv_cons, List.length_cons, Nat.pow_succ]
    have h1 : b * (nv b xs + 1) ≤ b * b ^ xs.length := Nat.mul_le_mul_left b ih
    rw [Nat.mul_comm (b ^ xs.length) b]
    rw [Nat.mul_add, Nat.mul_one] at h1
    omega

theorem nv_zeros (b k : Nat) : nv b (List.replicate k 0) = 0 := by
  induction k with
  | zero => rfl
  | succ k ih => simp [List.replicate_succ, nv, ih]

theorem nv_of_zeros (b : Nat) : ∀ {xs : List Nat}, (∀ x ∈ xs, x = 0) → nv b xs = 0
  | [], _ => rfl
  | x :: xs, h => by
    rw [nv_cons, nv_of_zeros b (xs := xs) (fun y hy => h y (List.mem_cons_of_mem _ hy)), h x (by simp)]; simp

/-- Cutting off noughts: the first m, where all behind are 0 and the one before is none or not 0, are the canonical digits. -/
theorem take_short {b : Nat} (hb : 2 ≤ b) {xs : List Nat} (hl : Lim b xs) {m : Nat} (hm : m ≤ xs.length)
    (hz : ∀ j, m ≤ j → j < xs.length → xs[j]? = some 0) (hlast : m = 0 ∨ xs[m - 1]? ≠ some 0) : xs.take m = nd b (nv b xs) := by
  refine eq_nd hb ⟨fun x hx => hl x (List.mem_of_mem_take hx), ?_⟩ ?_
  · rcases hlast with rfl | h
    · simp
    · rcases Nat.eq_zero_or_pos m with h0 | h0
      · subst h0; simp
      · rw [List.getLast?_take, if_neg (by omega)]
        rw [List.getElem?_eq_getElem (show m - 1 < xs.length by omega)] at h ⊢
        simpa using h
  · conv => rhs; rw [← List.take_append_drop m xs, nv_append]
    rw [nv_of_zeros b (xs := xs.drop m), Nat.mul_zero, Nat.add_zero]
    intro x hx
    obtain ⟨i, hi, rfl⟩ := List.getElem_of_mem hx
    rw [List.length_drop] at hi
    have := hz (m + i) (by omega) (by omega)
    rw [List.getElem?_eq_getElem (by omega)] at this
    simpa [List.getElem_drop] using this

theorem nd_length_le {b : Nat} (hb : 2 ≤ b) {xs : List Nat} (hl : Lim b xs) : (nd b (nv b xs)).length ≤ xs.length := by
  have : ∀ (k : Nat) (n : Nat), n < b ^ k → (nd b n).length ≤ k := by
    intro k
    induction k with
    | zero => intro n hn; obtain rfl : n = 0 := by simpa using hn
              simp [nd_zero]
    | succ k ih =>
      intro n hn
      by_cases h : n = 0
      · subst h; simp [nd_zero]
      · rw [nd_pos hb h, List.length_cons]
        have : n / b < b ^ k := by rw [Nat.div_lt_iff_lt_mul (by omega)]; rwa [Nat.pow_succ] at hn
        have := ih _ this; omega
  exact this _ _ (nv_lt (by omega) hl)

theorem take_nd {b : Nat} (hb : 2 ≤ b) {xs : List Nat} (hl : Lim b xs) : xs.take (nd b (nv b xs)).length = nd b (nv b xs) := by
  -- the first m such that all behind are 0
  have : ∃ m, m ≤ xs.length ∧ (∀ j, m ≤ j → j < xs.length → xs[j]? = some 0) ∧ (m = 0 ∨ xs[m - 1]? ≠ some 0) := by
    have key : ∀ k, k ≤ xs.length → (∀ j, k ≤ j → j < xs.length → xs[j]? = some 0) → ∃ m, m ≤ xs.length ∧ (∀ j, m ≤ j → j < xs.length → xs[j]? = some 0) ∧ (m = 0 ∨ xs[m - 1]? ≠ some 0) := by
      intro k
      induction k with
      | zero => intro h0 h1; exact ⟨0, h0, h1, .inl rfl⟩
      | succ k ih =>
        intro h0 h1
        by_cases h : xs[k]? = some 0
        · refine ih (by omega) fun j hj hl => ?_
          by_cases e : j = k
          · rw [e, h]
          · exact h1 j (by omega) hl
        · exact ⟨k + 1, h0, h1, .inr (by simpa using h)⟩
    exact key xs.length (Nat.le_refl _) fun j h1 h2 => by omega
  obtain ⟨m, hm, hz, hlast⟩ := this
  have := take_short hb hl hm hz hlast
  rw [← this, List.length_take, List.take_eq_take_iff]
  omega

theorem nv_ge_pow {b : Nat} (hb : 2 ≤ b) : ∀ {xs : List Nat}, Canon b xs → xs ≠ [] → b ^ (xs.length - 1) ≤ nv b xs
  | [], _, h => absurd rfl h
  | [x], h, _ => by
    have : x ≠ 0 := fun e => h.2 (by simp [e])
    simp [nv]; omega
  | x :: y :: xs, h, _ => by
    have ih := nv_ge_pow hb (canon_tail h) (by simp)
    rw [nv_cons]
    simp only [List.length_cons, Nat.add_sub_cancel] at ih ⊢
    rw [Nat.pow_succ, Nat.mul_comm]
    exact Nat.le_trans (Nat.mul_le_mul_left b ih) (Nat.le_add_left _ _)

theorem nv_lt_len {b : Nat} (hb : 2 ≤ b) {xs ys : List Nat} (h : Lim b xs) (h' : Canon b ys) (hlt : xs.length < ys.length) : nv b xs < nv b ys := by
  have h1 := nv_lt (b := b) (by omega) h
  have h2 := nv_ge_pow hb h' (by intro e; rw [e] at hlt; simp at hlt)
  have h3 : b ^ xs.length ≤ b ^ (ys.length - 1) := Nat.pow_le_pow_right (by omega) (by omega)
  omega

theorem nv_take_succ (b : Nat) (xs : List Nat) (k : Nat) : nv b (xs.take (k + 1)) = nv b (xs.take k) + b ^ k * xs[k]?.getD 0 := by
  by_cases h : k < xs.length
  · rw [List.take_succ_eq_append_getElem h, nv_append, List.length_take, Nat.min_eq_left (by omega), List.getElem?_eq_getElem h]
    simp [nv]
  · rw [List.take_of_length_le (by omega), List.take_of_length_le (by omega), List.getElem?_eq_none (by omega)]
    simp

theorem lim_take {b : Nat} {xs : List Nat} (h : Lim b xs) (k : Nat) : Lim b (xs.take k) := fun x hx => h x (List.mem_of_mem_take hx)
theorem lim_getD {b : Nat} (hb : 1 ≤ b) {xs : List Nat} (h : Lim b xs) (k : Nat) : xs[k]?.getD 0 < b := by
  cases hk : xs[k]? with
  | none => simp; omega
  | some x => exact h x (List.mem_of_getElem? hk)
theorem lim_append {b : Nat} {xs ys : List Nat} (h : Lim b xs) (h' : Lim b ys) : Lim b (xs ++ ys) := fun x hx => by
  rcases List.mem_append.1 hx with hx | hx
  · exact h x hx
  · exact h' x hx
theorem lim_one {b x : Nat} (h : x < b) : Lim b [x] := fun y hy => by simp at hy; omega

/-- Two lists that agree above place k: the one with the smaller digit there is the smaller number. -/
theorem nv_lt_at {b : Nat} (hb : 2 ≤ b) {xs ys : List Nat} (h : Lim b xs) {k : Nat} (hd : xs.drop (k + 1) = ys.drop (k + 1)) (hlen : xs.length = ys.length) (hk : xs[k]?.getD 0 < ys[k]?.getD 0) : nv b xs < nv b ys := by
  by_cases hkl : k < ys.length
  · have e1 : nv b xs = nv b (xs.take (k + 1)) + b ^ (k + 1) * nv b (xs.drop (k + 1)) := by
      conv => lhs; rw [← List.take_append_drop (k + 1) xs, nv_append, List.length_take, Nat.min_eq_left (by omega)]
    have e2 : nv b ys = nv b (ys.take (k + 1)) + b ^ (k + 1) * nv b (ys.drop (k + 1)) := by
      conv => lhs; rw [← List.take_append_drop (k + 1) ys, nv_append, List.length_take, Nat.min_eq_left (by omega)]
    rw [e1, e2, hd, nv_take_succ, nv_take_succ]
    have h1 := nv_lt (b := b) (by omega) (lim_take h k)
    rw [List.length_take, Nat.min_eq_left (by omega)] at h1
    have h2 : b ^ k * (xs[k]?.getD 0 + 1) ≤ b ^ k * ys[k]?.getD 0 := Nat.mul_le_mul_left _ hk
    rw [Nat.mul_add, Nat.mul_one] at h2
    omega
  · rw [List.getElem?_eq_none (by omega), List.getElem?_eq_none (by omega)] at hk
    simp at hk

theorem drop_step {xs ys : List Nat} {k : Nat} (hlen : xs.length = ys.length) (hd : xs.drop (k + 1) = ys.drop (k + 1)) (hk : xs[k]?.getD 0 = ys[k]?.getD 0) : xs.drop k = ys.drop k := by
  by_cases h : k < ys.length
  · rw [List.getElem?_eq_getElem h, List.getElem?_eq_getElem (show k < xs.length by omega)] at hk
    rw [List.drop_eq_getElem_cons h, List.drop_eq_getElem_cons (show k < xs.length by omega), hd]
    exact congrArg (· :: ys.drop (k + 1)) (by simpa using hk)
  · rw [List.drop_eq_nil_of_le (by omega), List.drop_eq_nil_of_le (by omega)]

/-- The first nought of the rest turned into d. -/
theorem set_tail {os : List Nat} {i m d : Nat} (hl : os.length = i) (h : i < m) : (os ++ List.replicate (m - i) 0).set i d = os ++ [d] ++ List.replicate (m - (i + 1)) 0 := by
  obtain ⟨k, rfl⟩ : ∃ k, m = i + 1 + k := ⟨m - (i + 1), by omega⟩
  rw [List.set_append_right _ _ (by omega), hl, Nat.sub_self, show i + 1 + k - i = k + 1 from by omega, show i + 1 + k - (i + 1) = k from by omega, List.replicate_succ]
  simp

theorem add_step {b i cy d cy' : Nat} {os xs ys : List Nat} (hol : os.length = i) (hinv : nv b os + b ^ i * cy = nv b (xs.take i) + nv b (ys.take i)) (he : d + b * cy' = cy + xs[i]?.getD 0 + ys[i]?.getD 0) :
    nv b (os ++ [d]) + b ^ (i + 1) * cy' = nv b (xs.take (i + 1)) + nv b (ys.take (i + 1)) := by
  rw [nv_append, hol, nv_take_succ, nv_take_succ, Nat.pow_succ]
  have h4 : b ^ i * (d + b * cy') = b ^ i * (cy + xs[i]?.getD 0 + ys[i]?.getD 0) := by rw [he]
  simp only [nv, Nat.mul_zero, Nat.add_zero, Nat.mul_add] at h4 ⊢
  rw [Nat.mul_assoc]
  generalize b ^ i * cy = t1 at *
  generalize b ^ i * (b * cy') = t2 at *
  generalize b ^ i * d = t3 at *
  omega

theorem add_end {b n n' cy : Nat} {os xs ys : List Nat} (hb : 2 ≤ b) (hx : xs.length = n) (hy : ys.length = n') (hl : Lim b xs) (hl' : Lim b ys) (hge : n' ≤ n)
    (hinv : nv b os + b ^ (n + 1) * cy = nv b (xs.take (n + 1)) + nv b (ys.take (n + 1))) : nv b os = nv b xs + nv b ys := by
  rw [List.take_of_length_le (by omega), List.take_of_length_le (by omega)] at hinv
  have l1 := nv_lt (b := b) (by omega) hl
  have l2 := nv_lt (b := b) (by omega) hl'
  rw [hx] at l1
  rw [hy] at l2
  have l3 : b ^ n' ≤ b ^ n := Nat.pow_le_pow_right (by omega) hge
  have l4 : b ^ n * 2 ≤ b ^ (n + 1) := by rw [Nat.pow_succ]; exact Nat.mul_le_mul_left _ hb
  rcases Nat.eq_zero_or_pos cy with h0 | h0
  · subst h0; simpa using hinv
  · have l5 : b ^ (n + 1) * 1 ≤ b ^ (n + 1) * cy := Nat.mul_le_mul_left _ h0
    generalize b ^ (n + 1) * cy = t at *
    generalize b ^ (n + 1) = t1 at *
    generalize b ^ n = t2 at *
    generalize b ^ n' = t3 at *
    omega

end Go.Proofs.Ytikkibpjchmajaa

namespace Go.Proofs.Ytikkibpjchmajaa

theorem sub_step {b i bw d bw' : Nat} {os xs ys : List Nat} (hol : os.length = i) (hinv : nv b os + nv b (ys.take i) = nv b (xs.take i) + b ^ i * bw) (he : d + ys[i]?.getD 0 + bw = xs[i]?.getD 0 + b * bw') :
    nv b (os ++ [d]) + nv b (ys.take (i + 1)) = nv b (xs.take (i + 1)) + b ^ (i + 1) * bw' := by
  rw [nv_append, hol, nv_take_succ, nv_take_succ, Nat.pow_succ]
  have h4 : b ^ i * (d + ys[i]?.getD 0 + bw) = b ^ i * (xs[i]?.getD 0 + b * bw') := by rw [he]
  simp only [nv, Nat.mul_zero, Nat.add_zero, Nat.mul_add] at h4 ⊢
  rw [Nat.mul_assoc]
  generalize b ^ i * bw = t1 at *
  generalize b ^ i * (b * bw') = t2 at *
  generalize b ^ i * d = t3 at *
  omega

theorem sub_end {b m bw : Nat} {os xs ys : List Nat} (hb : 2 ≤ b) (hx : xs.length = m) (hy : ys.length ≤ m) (ho : os.length = m) (hl : Lim b os) (hge : nv b ys ≤ nv b xs)
    (hinv : nv b os + nv b (ys.take m) = nv b (xs.take m) + b ^ m * bw) : nv b os = nv b xs - nv b ys := by
  rw [List.take_of_length_le (by omega), List.take_of_length_le (by omega)] at hinv
  have l1 := nv_lt (b := b) (by omega) hl
  rw [ho] at l1
  rcases Nat.eq_zero_or_pos bw with h0 | h0
  · subst h0; omega
  · have l5 : b ^ m * 1 ≤ b ^ m * bw := Nat.mul_le_mul_left _ h0
    generalize b ^ m * bw = t at *
    generalize b ^ m = t1 at *
    omega

end Go.Proofs.Ytikkibpjchmajaa

namespace Go.Proofs.Ytikkibpjchmajaa

/-- The divisor of both parts, with the denominator's sign. -/
def fg (n d : Int) : Int := if d < 0 then -((Nat.gcd n.natAbs d.natAbs : Nat) : Int) else ((Nat.gcd n.natAbs d.natAbs : Nat) : Int)
def fn (n d : Int) : Int := n.tdiv (fg n d)
def fd (n d : Int) : Int := d.tdiv (fg n d)

theorem fg_abs (n d : Int) : (fg n d).natAbs = Nat.gcd n.natAbs d.natAbs := by
  unfold fg
  split
  · rw [Int.natAbs_neg, Int.natAbs_natCast]
  · rw [Int.natAbs_natCast]
theorem fg_pos {n d : Int} (h : d ≠ 0) : 0 < Nat.gcd n.natAbs d.natAbs := Nat.gcd_pos_of_pos_right _ (by omega)
theorem fg_ne {n d : Int} (h : d ≠ 0) : fg n d ≠ 0 := by
  have := fg_pos (n := n) h
  have := fg_abs n d
  omega
theorem fn_mul (n d : Int) : fn n d * fg n d = n := by
  unfold fn
  refine Int.tdiv_mul_cancel ?_
  rw [← Int.natAbs_dvd_natAbs, fg_abs]
  exact Nat.gcd_dvd_left _ _
theorem fd_mul (n d : Int) : fd n d * fg n d = d := by
  unfold fd
  refine Int.tdiv_mul_cancel ?_
  rw [← Int.natAbs_dvd_natAbs, fg_abs]
  exact Nat.gcd_dvd_right _ _
theorem fd_pos {n d : Int} (h : d ≠ 0) : 0 < fd n d := by
  have h1 := fd_mul n d
  have hg := fg_pos (n := n) h
  rcases Int.lt_trichotomy (fd n d) 0 with h2 | h2 | h2
  · exfalso
    unfold fg at h1
    split at h1
    · have := Int.mul_pos_of_neg_of_neg h2 (show -((Nat.gcd n.natAbs d.natAbs : Nat) : Int) < 0 by omega)
      omega
    · have := Int.mul_neg_of_neg_of_pos h2 (show 0 < ((Nat.gcd n.natAbs d.natAbs : Nat) : Int) by omega)
      omega
  · rw [h2, Int.zero_mul] at h1
    exact absurd h1.symm h
  · exact h2
theorem fn_abs (n d : Int) : (fn n d).natAbs = n.natAbs / Nat.gcd n.natAbs d.natAbs := by
  unfold fn
  rw [Int.natAbs_tdiv, fg_abs]; rfl
theorem fd_abs (n d : Int) : (fd n d).natAbs = d.natAbs / Nat.gcd n.natAbs d.natAbs := by
  unfold fd
  rw [Int.natAbs_tdiv, fg_abs]; rfl
theorem f_one {n d : Int} (h : d ≠ 0) : Nat.gcd (fn n d).natAbs (fd n d).natAbs = 1 := by
  rw [fn_abs, fd_abs, Nat.gcd_div (Nat.gcd_dvd_left _ _) (Nat.gcd_dvd_right _ _)]
  exact Nat.div_self (fg_pos h)
theorem f_cross {n d : Int} : fn n d * d = n * fd n d := by
  have h1 := fn_mul n d
  have h2 := fd_mul n d
  generalize fn n d = a at *
  generalize fd n d = b at *
  generalize fg n d = g at *
  rw [← h1, ← h2, Int.mul_comm b g, Int.mul_assoc]
/-- Fractions in lowest terms that are one across are one. -/
theorem low_unique {a b c e : Int} (hb : 0 < b) (he : 0 < e) (h1 : Nat.gcd a.natAbs b.natAbs = 1) (h2 : Nat.gcd c.natAbs e.natAbs = 1) (h : a * e = c * b) : a = c ∧ b = e := by
  have hn : a.natAbs * e.natAbs = c.natAbs * b.natAbs := by rw [← Int.natAbs_mul, ← Int.natAbs_mul, h]
  have d1 : b.natAbs ∣ e.natAbs := by
    have : b.natAbs ∣ a.natAbs * e.natAbs := by rw [hn]; exact Nat.dvd_mul_left _ _
    exact Nat.Coprime.dvd_of_dvd_mul_left (show Nat.gcd b.natAbs a.natAbs = 1 by rw [Nat.gcd_comm]; exact h1) this
  have d2 : e.natAbs ∣ b.natAbs := by
    have : e.natAbs ∣ c.natAbs * b.natAbs := by rw [← hn]; exact Nat.dvd_mul_left _ _
    exact Nat.Coprime.dvd_of_dvd_mul_left (show Nat.gcd e.natAbs c.natAbs = 1 by rw [Nat.gcd_comm]; exact h2) this
  have hbe : b = e := by
    have := Nat.dvd_antisymm d1 d2
    omega
  subst hbe
  exact ⟨Int.eq_of_mul_eq_mul_right (by omega) h, rfl⟩
theorem f_unique {n d a b : Int} (hd : d ≠ 0) (hb : 0 < b) (h1 : Nat.gcd a.natAbs b.natAbs = 1) (h : n * b = a * d) : fn n d = a ∧ fd n d = b := by
  refine low_unique (fd_pos hd) hb (f_one hd) h1 ?_
  have h2 := fn_mul n d
  have h3 := fd_mul n d
  have hg := fg_ne (n := n) hd
  generalize fn n d = x at *
  generalize fd n d = y at *
  generalize fg n d = g at *
  subst h2 h3
  refine Int.eq_of_mul_eq_mul_right hg ?_
  rw [Int.mul_right_comm, h, Int.mul_assoc]
/-- Two fractions have the same reduced parts just if they are one across. -/
theorem f_eq {n d m e : Int} (hd : d ≠ 0) (he : e ≠ 0) : (fn n d = fn m e ∧ fd n d = fd m e) ↔ n * e = m * d := by
  constructor
  · rintro ⟨h1, h2⟩
    have a1 := fn_mul n d
    have a2 := fd_mul n d
    have b1 := fn_mul m e
    have b2 := fd_mul m e
    rw [h1] at a1
    rw [h2] at a2
    generalize fn m e = x at *
    generalize fd m e = y at *
    generalize fg n d = g at *
    generalize fg m e = k at *
    subst a1 a2 b1 b2
    rw [Int.mul_assoc, Int.mul_assoc, Int.mul_left_comm g y k, Int.mul_left_comm k y g, Int.mul_comm g k]
  · intro h
    refine f_unique hd (fd_pos he) (f_one he) ?_
    have b1 := fn_mul m e
    have b2 := fd_mul m e
    have hk := fg_ne (n := m) he
    generalize fn m e = x at *
    generalize fd m e = y at *
    generalize fg m e = k at *
    subst b1 b2
    refine Int.eq_of_mul_eq_mul_right hk ?_
    rw [Int.mul_assoc, h, Int.mul_right_comm]

/-- p, q are the reduced parts of N over D. -/
def Isf (p q N D : Int) : Prop := D ≠ 0 ∧ p = fn N D ∧ q = fd N D
section
variable {p q N D p' q' N' D' : Int}
theorem Isf.pos (h : Isf p q N D) : 0 < q := by rw [h.2.2]; exact fd_pos h.1
theorem Isf.one (h : Isf p q N D) : Nat.gcd p.natAbs q.natAbs = 1 := by rw [h.2.1, h.2.2]; exact f_one h.1
theorem Isf.cross (h : Isf p q N D) : p * D = N * q := by rw [h.2.1, h.2.2]; exact f_cross
theorem Isf.mk' (hD : D ≠ 0) : Isf (fn N D) (fd N D) N D := ⟨hD, rfl, rfl⟩
/-- The same number, told by other parts. -/
theorem Isf.of (h : Isf p q N D) (hD : D' ≠ 0) (hc : N * D' = N' * D) : Isf p q N' D' := by
  have := (f_eq h.1 hD).2 hc
  exact ⟨hD, h.2.1.trans this.1, h.2.2.trans this.2⟩
theorem Isf.eq (h : Isf p q N D) (h' : Isf p' q' N' D') (hc : N * D' = N' * D) : p = p' ∧ q = q' := by
  have := (f_eq h.1 h'.1).2 hc
  exact ⟨h.2.1.trans (this.1.trans h'.2.1.symm), h.2.2.trans (this.2.trans h'.2.2.symm)⟩
theorem Isf.iff (h : Isf p q N D) (h' : Isf p' q' N' D') : (p = p' ∧ q = q') ↔ N * D' = N' * D := by
  rw [h.2.1, h.2.2, h'.2.1, h'.2.2]; exact f_eq h.1 h'.1
theorem Isf.self (hq : 0 < q) (h1 : Nat.gcd p.natAbs q.natAbs = 1) : Isf p q p q := by
  have := f_unique (n := p) (d := q) (by omega) hq h1 rfl
  exact ⟨by omega, this.1.symm, this.2.symm⟩
/-- Of one made of two: their parts, reduced already or not, make the same. -/
theorem Isf.add (h : Isf p q N D) (h' : Isf p' q' N' D') {r s : Int} (hr : Isf r s (p * q' + p' * q) (q * q')) : Isf r s (N * D' + N' * D) (D * D') := by
  have h1 := h.cross
  have h2 := h'.cross
  refine hr.of (Int.mul_ne_zero h.1 h'.1) ?_
  grind
theorem Isf.mul (h : Isf p q N D) (h' : Isf p' q' N' D') {r s : Int} (hr : Isf r s (p * p') (q * q')) : Isf r s (N * N') (D * D') := by
  have h1 := h.cross
  have h2 := h'.cross
  refine hr.of (Int.mul_ne_zero h.1 h'.1) ?_
  grind
theorem Isf.zero (h : Isf p q N D) : p = 0 ↔ N = 0 := by
  have h1 := h.cross
  have h2 := h.pos
  have h3 := h.1
  constructor
  · intro e
    rw [e, Int.zero_mul] at h1
    rcases Int.mul_eq_zero.1 h1.symm with h | h
    · exact h
    · omega
  · intro e
    rw [e, Int.zero_mul] at h1
    rcases Int.mul_eq_zero.1 h1 with h | h
    · exact h
    · exact absurd h h3
theorem Isf.div (h : Isf p q N D) (h' : Isf p' q' N' D') (h0 : N' ≠ 0) {r s : Int} (hr : Isf r s (p * q') (q * p')) : Isf r s (N * D') (D * N') := by
  have h1 := h.cross
  have h2 := h'.cross
  refine hr.of (Int.mul_ne_zero h.1 h0) ?_
  grind
theorem Isf.neg (h : Isf p q N D) : Isf (-p) q (-N) D := by
  have h1 := h.cross
  have h2 := f_unique (n := -N) (d := D) h.1 h.pos (a := -p) (by rw [Int.natAbs_neg]; exact h.one) (by grind)
  exact ⟨h.1, h2.1.symm, h2.2.symm⟩
end
end Go.Proofs.Ytikkibpjchmajaa

namespace Go.Proofs.Ytikkibpjchmajaa

/-- The bytes of a number's digits, the greatest first. -/
def dgs (m : Nat) : List Nat := ((nd 10 m).map (· + 48)).reverse
/-- The bytes of a whole number's text. -/
def tx (z : Int) : List Nat := if z = 0 then [48] else if z < 0 then 45 :: dgs z.natAbs else dgs z.natAbs
/-- The text of these bytes. -/
def bts (l : List Nat) : ByteArray := ⟨(l.map UInt8.ofNat).toArray⟩
/-- The bytes of a text. -/
def byt (s : ByteArray) : List Nat := s.data.toList.map UInt8.toNat
/-- The number of digits, the greatest first. -/
def vl (d : List Nat) : Nat := nv 10 (d.map (· - 48)).reverse
/-- What stands behind the sign. -/
def dd (l : List Nat) : List Nat := if l.head? = some 45 then l.drop 1 else l
/-- Digits, all of them. -/
def Dig (d : List Nat) : Prop := ∀ c ∈ d, 48 ≤ c ∧ c ≤ 57
/-- The text is a whole number's. -/
def Good (l : List Nat) : Prop := dd l ≠ [] ∧ ¬((dd l).head? = some 48 ∧ (1 < (dd l).length ∨ l.head? = some 45)) ∧ Dig (dd l)
open Classical in
/-- The number of a text, 0 if it is none. -/
noncomputable def pz (l : List Nat) : Int := if Good l then (if l.head? = some 45 then -(vl (dd l) : Int) else vl (dd l)) else 0
open Classical in
/-- The error's number of a text. -/
noncomputable def pe (l : List Nat) : Int := if Good l then 0 else 4

theorem vl_append (a b : List Nat) : vl (a ++ b) = vl a * 10 ^ b.length + vl b := by
  unfold vl
  rw [List.map_append, List.reverse_append, nv_append, List.length_reverse, List.length_map, Nat.mul_comm, Nat.add_comm]
theorem vl_one (c : Nat) : vl [c] = c - 48 := by simp [vl, nv]
theorem vl_nil : vl [] = 0 := rfl
theorem Dig.append {a b : List Nat} (h : Dig (a ++ b)) : Dig a ∧ Dig b := ⟨fun c hc => h c (List.mem_append.2 (.inl hc)), fun c hc => h c (List.mem_append.2 (.inr hc))⟩
theorem Dig.lim {d : List Nat} (h : Dig d) : Lim 10 (d.map (· - 48)) := fun x hx => by
  obtain ⟨c, hc, rfl⟩ := List.mem_map.1 hx
  have := h c hc
  omega
theorem Dig.back {d : List Nat} (h : Dig d) : (d.map (· - 48)).map (· + 48) = d := by
  rw [List.map_map]
  conv => rhs; rw [← List.map_id d]
  refine List.map_congr_left fun c hc => ?_
  have := h c hc
  simp; omega
theorem vl_lt {d : List Nat} (h : Dig d) : vl d < 10 ^ d.length := by
  have := nv_lt (b := 10) (by omega) (xs := (d.map (· - 48)).reverse) (fun x hx => h.lim x (List.mem_reverse.1 hx))
  simpa [vl] using this

theorem dgs_dig (m : Nat) : Dig (dgs m) := fun c hc => by
  obtain ⟨x, hx, rfl⟩ := List.mem_map.1 (List.mem_reverse.1 hc)
  have := nd_lim (b := 10) (by omega) m x hx
  omega
theorem vl_dgs (m : Nat) : vl (dgs m) = m := by
  unfold vl dgs
  rw [List.map_reverse, List.reverse_reverse, List.map_map]
  have : (nd 10 m).map ((fun x => x - 48) ∘ fun x => x + 48) = nd 10 m := by
    conv => rhs; rw [← List.map_id (nd 10 m)]
    exact List.map_congr_left fun x _ => by simp
  rw [this]
  exact nv_nd (by omega) m
theorem dgs_ne {m : Nat} (h : m ≠ 0) : dgs m ≠ [] := by
  intro e
  have : (nd 10 m) = [] := by simpa [dgs] using e
  exact h ((nd_eq_nil (by omega)).1 this)
theorem dgs_head (m : Nat) : (dgs m).head? ≠ some 48 := by
  intro h
  rw [dgs, List.head?_reverse, List.getLast?_map] at h
  have := nd_last (b := 10) (by omega) m
  cases e : (nd 10 m).getLast? with
  | none => rw [e] at h; simp at h
  | some v => rw [e] at h; simp at h; rw [e, h] at this; exact this rfl
theorem head_dig {d : List Nat} (h : Dig d) : d.head? ≠ some 45 := by
  intro e
  cases d with
  | nil => simp at e
  | cons c r => simp at e; have := h c (by simp); omega
/-- Digits that begin with no 0 are those of their number. -/
theorem dgs_vl {d : List Nat} (h : Dig d) (h0 : d.head? ≠ some 48) : dgs (vl d) = d := by
  have hc : Canon 10 (d.map (· - 48)).reverse := by
    refine ⟨fun x hx => h.lim x (List.mem_reverse.1 hx), ?_⟩
    rw [List.getLast?_reverse, List.head?_map]
    intro e
    cases d with
    | nil => simp at e
    | cons c r =>
      have := h c (by simp)
      simp at e h0
      omega
  unfold vl dgs
  rw [nd_nv (by omega) hc, List.map_reverse, List.reverse_reverse, h.back]
theorem vl_pos {d : List Nat} (h : Dig d) (h0 : d.head? ≠ some 48) (hn : d ≠ []) : vl d ≠ 0 := by
  intro e
  have := dgs_vl h h0
  rw [e] at this
  exact hn this.symm

theorem tx_good (z : Int) : Good (tx z) ∧ pz (tx z) = z := by
  have key : Good (tx z) ∧ (if (tx z).head? = some 45 then -(vl (dd (tx z)) : Int) else vl (dd (tx z))) = z := by
    by_cases h0 : z = 0
    · subst h0
      exact ⟨⟨by decide, by decide, by intro c hc; simp [tx, dd] at hc; omega⟩, by decide⟩
    · by_cases hn : z < 0
      · have e : tx z = 45 :: dgs z.natAbs := by unfold tx; rw [if_neg h0, if_pos hn]
        have e2 : dd (tx z) = dgs z.natAbs := by rw [e]; rfl
        refine ⟨⟨by rw [e2]; exact dgs_ne (by omega), ?_, by rw [e2]; exact dgs_dig _⟩, ?_⟩
        · rw [e2]; exact fun h => dgs_head _ h.1
        · rw [e2, vl_dgs, e]; simp; omega
      · have e : tx z = dgs z.natAbs := by unfold tx; rw [if_neg h0, if_neg hn]
        have hh := head_dig (dgs_dig z.natAbs)
        have e2 : dd (tx z) = dgs z.natAbs := by unfold dd; rw [e, if_neg hh]
        refine ⟨⟨by rw [e2]; exact dgs_ne (by omega), ?_, by rw [e2]; exact dgs_dig _⟩, ?_⟩
        · rw [e2]; exact fun h => dgs_head _ h.1
        · rw [e2, vl_dgs, e, if_neg hh]; omega
  exact ⟨key.1, by unfold pz; rw [if_pos key.1]; exact key.2⟩
theorem good_tx {l : List Nat} (h : Good l) : tx (pz l) = l := by
  obtain ⟨h1, h2, h3⟩ := h
  unfold pz
  rw [if_pos ⟨h1, h2, h3⟩]
  by_cases hn : l.head? = some 45
  · rw [if_pos hn]
    have h0 : (dd l).head? ≠ some 48 := fun e => h2 ⟨e, .inr hn⟩
    have hp := vl_pos h3 h0 h1
    unfold tx
    rw [if_neg (by omega), if_pos (by omega), Int.natAbs_neg, Int.natAbs_natCast, dgs_vl h3 h0]
    cases l with
    | nil => simp at hn
    | cons c r => simp at hn; subst hn; rfl
  · rw [if_neg hn]
    have e : dd l = l := by unfold dd; rw [if_neg hn]
    rw [e] at h1 h2 h3 ⊢
    by_cases h0 : l.head? = some 48
    · have hl : ¬ 1 < l.length := fun hl => h2 ⟨h0, .inl hl⟩
      cases l with
      | nil => simp at h0
      | cons c r =>
        simp at h0 hl
        subst h0
        subst hl
        decide
    · have hp := vl_pos h3 h0 h1
      unfold tx
      rw [if_neg (by omega), if_neg (by omega), Int.natAbs_natCast, dgs_vl h3 h0]
theorem pe_good {l : List Nat} (h : Good l) : pe l = 0 := by unfold pe; rw [if_pos h]
theorem pe_bad {l : List Nat} (h : ¬ Good l) : pe l = 4 ∧ pz l = 0 := by unfold pe pz; rw [if_neg h, if_neg h]; exact ⟨rfl, rfl⟩
/-- The number's flag is the text's sign. -/
theorem pz_neg {l : List Nat} (h : Good l) : decide (pz l < 0) = decide (l.head? = some 45) ∧ (pz l).natAbs = vl (dd l) := by
  obtain ⟨h1, h2, h3⟩ := h
  unfold pz
  rw [if_pos ⟨h1, h2, h3⟩]
  by_cases hn : l.head? = some 45
  · have hp := vl_pos h3 (fun e => h2 ⟨e, .inr hn⟩) h1
    rw [if_pos hn, decide_eq_true hn, decide_eq_true (by omega)]
    exact ⟨rfl, by omega⟩
  · rw [if_neg hn, decide_eq_false hn, decide_eq_false (by omega)]
    exact ⟨rfl, by omega⟩

theorem byt_len (s : ByteArray) : (byt s).length = s.size := by rw [byt, List.length_map, Array.length_toList]; rfl
theorem byt_lim (s : ByteArray) : Lim 256 (byt s) := fun x hx => by
  obtain ⟨b, _, rfl⟩ := List.mem_map.1 hx
  exact b.toNat_lt
theorem bts_byt (s : ByteArray) : bts (byt s) = s := by
  have key : ∀ l : List UInt8, List.map (UInt8.ofNat ∘ UInt8.toNat) l = l := fun l => by
    conv => rhs; rw [← List.map_id l]
    exact List.map_congr_left fun b _ => UInt8.ofNat_toNat
  unfold bts byt
  rw [List.map_map, key, Array.toArray_toList]
theorem byt_bts {l : List Nat} (h : Lim 256 l) : byt (bts l) = l := by
  unfold bts byt
  simp only [List.map_map]
  conv => rhs; rw [← List.map_id l]
  refine List.map_congr_left fun c hc => ?_
  have := h c hc
  simp; omega
theorem bts_len (l : List Nat) : (bts l).size = l.length := by show (l.map UInt8.ofNat).toArray.size = _; rw [List.size_toArray, List.length_map]
theorem tx_lim (z : Int) : Lim 256 (tx z) := fun c hc => by
  have hd := fun m (h : c ∈ dgs m) => dgs_dig m c h
  unfold tx at hc
  split at hc
  · simp at hc; omega
  · split at hc
    · rcases List.mem_cons.1 hc with rfl | h
      · omega
      · have := hd _ h; omega
    · have := hd _ hc; omega
theorem tx_len (z : Int) : (tx z).length ≤ (nd 10 z.natAbs).length + 1 := by
  unfold tx
  split
  · simp
  · split <;> simp [dgs]
/-- Noughts at the end of digits. -/
theorem nv_strip {b : Nat} {xs : List Nat} (h : xs.getLast? = some 0) : nv b (xs.take (xs.length - 1)) = nv b xs := by
  have hn : xs ≠ [] := by intro e; rw [e] at h; simp at h
  have e := List.dropLast_concat_getLast hn
  have hl : xs.getLast hn = 0 := by rw [List.getLast?_eq_some_getLast hn] at h; injection h
  rw [← List.dropLast_eq_take]
  conv => rhs; rw [← e, nv_append, hl]
  simp [nv]
end Go.Proofs.Ytikkibpjchmajaa

