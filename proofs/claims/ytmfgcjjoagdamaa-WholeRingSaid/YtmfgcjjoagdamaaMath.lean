
namespace Go.Proofs.Ytmfgcjjoagdamaa

/-- The value of digits in base b, the lowest one first. -/
def nv (b : Nat) : List Nat → Nat
  | [] => 0
  | x :: xs => x + b * nv b xs

def ndF (b : Nat) : Nat → Nat → List Nat
  | 0, _ => []
  | f + 1, n => if n = 0 then [] else n % b :: ndF b f (n / b)

/-- The canonical digits of a number. -/
def nd (b n : Nat) : List Nat := ndF b n n

/-- Digits without noughts at the end. -/
def Canon (b : Nat) (xs : List Nat) : Prop := (∀ x ∈ xs, x < b) ∧ xs.getLast? ≠ some 0

def Lim (b : Nat) (xs : List Nat) : Prop := ∀ x ∈ xs, x < b

theorem nv_nil (b : Nat) : nv b [] = 0 := rfl
theorem nv_cons (b x : Nat) (xs : List Nat) : nv b (x :: xs) = x + b * nv b xs := rfl

theorem nv_append (b : Nat) (xs ys : List Nat) : nv b (xs ++ ys) = nv b xs + b ^ xs.length * nv b ys := by
  induction xs with
  | nil => simp [nv]
  | cons x xs ih => rw [List.cons_append, nv, nv, ih, List.length_cons, Nat.pow_succ, Nat.mul_add, Nat.add_assoc, Nat.mul_comm (b ^ xs.length) b, Nat.mul_assoc]

theorem ndF_zero (b f : Nat) : ndF b f 0 = [] := by cases f <;> simp [ndF]

theorem div_lt_self' {b n : Nat} (hb : 2 ≤ b) (hn : n ≠ 0) : n / b < n := Nat.div_lt_self (by omega) (by omega)

theorem ndF_mono {b : Nat} (hb : 2 ≤ b) : ∀ (f g n : Nat), n ≤ f → n ≤ g → ndF b f n = ndF b g n
  | 0, g, n, h, _ => by obtain rfl : n = 0 := by omega
                        rw [ndF_zero, ndF_zero]
  | f + 1, 0, n, _, h => by obtain rfl : n = 0 := by omega
                            rw [ndF_zero, ndF_zero]
  | f + 1, g + 1, n, h1, h2 => by
    by_cases hn : n = 0
    · simp [ndF, hn]
    · have := div_lt_self' hb hn
      simp only [ndF, hn, if_false, List.cons.injEq, true_and]
      exact ndF_mono hb f g (n / b) (by omega) (by omega)

theorem nd_zero (b : Nat) : nd b 0 = [] := rfl
theorem nd_pos {b n : Nat} (hb : 2 ≤ b) (hn : n ≠ 0) : nd b n = n % b :: nd b (n / b) := by
  have := div_lt_self' hb hn
  unfold nd
  obtain ⟨m, rfl⟩ : ∃ m, n = m + 1 := ⟨n - 1, by omega⟩
  rw [ndF, if_neg hn, ndF_mono hb m ((m + 1) / b) ((m + 1) / b) (by omega) (by omega)]

theorem nd_ind {b : Nat} (hb : 2 ≤ b) {P : Nat → Prop} (h0 : P 0) (h : ∀ n, n ≠ 0 → P (n / b) → P n) (n : Nat) : P n := by
  induction n using Nat.strongRecOn with
  | ind n ih =>
    by_cases hn : n = 0
    · subst hn; exact h0
    · exact h n hn (ih _ (div_lt_self' hb hn))

theorem nv_nd {b : Nat} (hb : 2 ≤ b) (n : Nat) : nv b (nd b n) = n := by
  induction n using nd_ind hb with
  | h0 => rfl
  | h n hn ih => rw [nd_pos hb hn, nv_cons, ih, Nat.mod_add_div]

theorem nd_lim {b : Nat} (hb : 2 ≤ b) (n : Nat) : Lim b (nd b n) := by
  induction n using nd_ind hb with
  | h0 => intro x hx; simp [nd_zero] at hx
  | h n hn ih =>
    rw [nd_pos hb hn]
    intro x hx
    rcases List.mem_cons.1 hx with rfl | hx
    · exact Nat.mod_lt _ (by omega)
    · exact ih x hx

theorem nd_eq_nil {b n : Nat} (hb : 2 ≤ b) : nd b n = [] ↔ n = 0 := by
  constructor
  · intro h
    rcases Nat.eq_zero_or_pos n with h0 | h0
    · exact h0
    · rw [nd_pos hb (by omega)] at h; simp at h
  · rintro rfl; rfl

theorem nd_last {b : Nat} (hb : 2 ≤ b) (n : Nat) : (nd b n).getLast? ≠ some 0 := by
  induction n using nd_ind hb with
  | h0 => simp [nd_zero]
  | h n hn ih =>
    rw [nd_pos hb hn, List.getLast?_cons]
    by_cases h : n / b = 0
    · rw [h, nd_zero]
      have : n % b = n := by
        have h2 := Nat.div_add_mod n b
        rw [h] at h2; omega
      simp [this]; omega
    · cases hl : (nd b (n / b)).getLast? with
      | none =>
        rw [List.getLast?_eq_none_iff, nd_eq_nil hb] at hl
        exact absurd hl h
      | some z =>
        rw [hl] at ih
        simpa using ih

theorem canon_nd {b : Nat} (hb : 2 ≤ b) (n : Nat) : Canon b (nd b n) := ⟨nd_lim hb n, nd_last hb n⟩

theorem canon_tail {b x : Nat} {xs : List Nat} (h : Canon b (x :: xs)) : Canon b xs := by
  refine ⟨fun y hy => h.1 y (List.mem_cons_of_mem _ hy), fun hl => h.2 ?_⟩
  rw [List.getLast?_cons, hl]; rfl

theorem nd_nv {b : Nat} (hb : 2 ≤ b) : ∀ {xs : List Nat}, Canon b xs → nd b (nv b xs) = xs
  | [], _ => rfl
  | x :: xs, h => by
    have ih := nd_nv hb (canon_tail h)
    have hx : x < b := h.1 x (by simp)
    have hn : nv b (x :: xs) ≠ 0 := by
      intro h0
      rw [nv_cons] at h0
      have hx0 : x = 0 := by omega
      have hm : b * nv b xs = 0 := by omega
      have hv : nv b xs = 0 := by
        rcases Nat.mul_eq_zero.1 hm with h | h
        · omega
        · exact h
      rw [hv, nd_zero] at ih
      subst ih; subst hx0
      exact h.2 rfl
    rw [nd_pos hb hn, nv_cons]
    have h1 : (x + b * nv b xs) % b = x := by rw [Nat.add_mul_mod_self_left, Nat.mod_eq_of_lt hx]
    have h2 : (x + b * nv b xs) / b = nv b xs := by
      rw [Nat.add_mul_div_left _ _ (by omega), Nat.div_eq_of_lt hx, Nat.zero_add]
    rw [h1, h2, ih]

/-- Digits that are canonical and have the value are the number's. -/
theorem eq_nd {b : Nat} (hb : 2 ≤ b) {xs : List Nat} {n : Nat} (h : Canon b xs) (hv : nv b xs = n) : xs = nd b n := by
  rw [← hv, nd_nv hb h]

theorem nd_inj {b m n : Nat} (hb : 2 ≤ b) : nd b m = nd b n ↔ m = n :=
  ⟨fun h => by have := congrArg (nv b) h; rwa [nv_nd hb, nv_nd hb] at this, fun h => by rw [h]⟩

theorem nv_lt {b : Nat} (hb : 1 ≤ b) : ∀ {xs : List Nat}, Lim b xs → nv b xs < b ^ xs.length
  | [], _ => by simp [nv]
  | x :: xs, h => by
    have ih := nv_lt hb (xs := xs) (fun y hy => h y (List.mem_cons_of_mem _ hy))
    have hx : x < b := h x (by simp)
    rw [nv_cons, List.length_cons, Nat.pow_succ]
    have h1 : b * (nv b xs + 1) ≤ b * b ^ xs.length := Nat.mul_le_mul_left b ih
    rw [Nat.mul_comm (b ^ xs.length) b]
    rw [Nat.mul_add, Nat.mul_one] at h1
    omega

theorem nv_zeros (b k : Nat) : nv b (List.replicate k 0) = 0 := by
  induction k with
  | zero => rfl
  | succ k ih => simp [List.replicate_succ, nv, ih]

theorem nv_of_zeros (b : Nat) : ∀ {xs : List Nat}, (∀ x ∈ xs, x = 0) → nv b xs = 0
  | [], _ => rfl
  | x :: xs, h => by
    rw [nv_cons, nv_of_zeros b (xs := xs) (fun y hy => h y (List.mem_cons_of_mem _ hy)), h x (by simp)]; simp

/-- Cutting off noughts: the first m, where all behind are 0 and the one before is none or not 0, are the canonical digits. -/
theorem take_short {b : Nat} (hb : 2 ≤ b) {xs : List Nat} (hl : Lim b xs) {m : Nat} (hm : m ≤ xs.length)
    (hz : ∀ j, m ≤ j → j < xs.length → xs[j]? = some 0) (hlast : m = 0 ∨ xs[m - 1]? ≠ some 0) : xs.take m = nd b (nv b xs) := by
  refine eq_nd hb ⟨fun x hx => hl x (List.mem_of_mem_take hx), ?_⟩ ?_
  · rcases hlast with rfl | h
    · simp
    · rcases Nat.eq_zero_or_pos m with h0 | h0
      · subst h0; simp
      · rw [List.getLast?_take, if_neg (by omega)]
        rw [List.getElem?_eq_getElem (show m - 1 < xs.length by omega)] at h ⊢
        simpa using h
  · conv => rhs; rw [← List.take_append_drop m xs, nv_append]
    rw [nv_of_zeros b (xs := xs.drop m), Nat.mul_zero, Nat.add_zero]
    intro x hx
    obtain ⟨i, hi, rfl⟩ := List.getElem_of_mem hx
    rw [List.length_drop] at hi
    have := hz (m + i) (by omega) (by omega)
    rw [List.getElem?_eq_getElem (by omega)] at this
    simpa [List.getElem_drop] using this

theorem nd_length_le {b : Nat} (hb : 2 ≤ b) {xs : List Nat} (hl : Lim b xs) : (nd b (nv b xs)).length ≤ xs.length := by
  have : ∀ (k : Nat) (n : Nat), n < b ^ k → (nd b n).length ≤ k := by
    intro k
    induction k with
    | zero => intro n hn; obtain rfl : n = 0 := by simpa using hn
              simp [nd_zero]
    | succ k ih =>
      intro n hn
      by_cases h : n = 0
      · subst h; simp [nd_zero]
      · rw [nd_pos hb h, List.length_cons]
        have : n / b < b ^ k := by rw [Nat.div_lt_iff_lt_mul (by omega)]; rwa [Nat.pow_succ] at hn
        have := ih _ this; omega
  exact this _ _ (nv_lt (by omega) hl)

theorem take_nd {b : Nat} (hb : 2 ≤ b) {xs : List Nat} (hl : Lim b xs) : xs.take (nd b (nv b xs)).length = nd b (nv b xs) := by
  -- the first m such that all behind are 0
  have : ∃ m, m ≤ xs.length ∧ (∀ j, m ≤ j → j < xs.length → xs[j]? = some 0) ∧ (m = 0 ∨ xs[m - 1]? ≠ some 0) := by
    have key : ∀ k, k ≤ xs.length → (∀ j, k ≤ j → j < xs.length → xs[j]? = some 0) → ∃ m, m ≤ xs.length ∧ (∀ j, m ≤ j → j < xs.length → xs[j]? = some 0) ∧ (m = 0 ∨ xs[m - 1]? ≠ some 0) := by
      intro k
      induction k with
      | zero => intro h0 h1; exact ⟨0, h0, h1, .inl rfl⟩
      | succ k ih =>
        intro h0 h1
        by_cases h : xs[k]? = some 0
        · refine ih (by omega) fun j hj hl => ?_
          by_cases e : j = k
          · rw [e, h]
          · exact h1 j (by omega) hl
        · exact ⟨k + 1, h0, h1, .inr (by simpa using h)⟩
    exact key xs.length (Nat.le_refl _) fun j h1 h2 => by omega
  obtain ⟨m, hm, hz, hlast⟩ := this
  have := take_short hb hl hm hz hlast
  rw [← this, List.length_take, List.take_eq_take_iff]
  omega

theorem nv_ge_pow {b : Nat} (hb : 2 ≤ b) : ∀ {xs : List Nat}, Canon b xs → xs ≠ [] → b ^ (xs.length - 1) ≤ nv b xs
  | [], _, h => absurd rfl h
  | [x], h, _ => by
    have : x ≠ 0 := fun e => h.2 (by simp [e])
    simp [nv]; omega
  | x :: y :: xs, h, _ => by
    have ih := nv_ge_pow hb (canon_tail h) (by simp)
    rw [nv_cons]
    simp only [List.length_cons, Nat.add_sub_cancel] at ih ⊢
    rw [Nat.pow_succ, Nat.mul_comm]
    exact Nat.le_trans (Nat.mul_le_mul_left b ih) (Nat.le_add_left _ _)

theorem nv_lt_len {b : Nat} (hb : 2 ≤ b) {xs ys : List Nat} (h : Lim b xs) (h' : Canon b ys) (hlt : xs.length < ys.length) : nv b xs < nv b ys := by
  have h1 := nv_lt (b := b) (by omega) h
  have h2 := nv_ge_pow hb h' (by intro e; rw [e] at hlt; simp at hlt)
  have h3 : b ^ xs.length ≤ b ^ (ys.length - 1) := Nat.pow_le_pow_right (by omega) (by omega)
  omega

theorem nv_take_succ (b : Nat) (xs : List Nat) (k : Nat) : nv b (xs.take (k + 1)) = nv b (xs.take k) + b ^ k * xs[k]?.getD 0 := by
  by_cases h : k < xs.length
  · rw [List.take_succ_eq_append_getElem h, nv_append, List.length_take, Nat.min_eq_left (by omega), List.getElem?_eq_getElem h]
    simp [nv]
  · rw [List.take_of_length_le (by omega), List.take_of_length_le (by omega), List.getElem?_eq_none (by omega)]
    simp

theorem lim_take {b : Nat} {xs : List Nat} (h : Lim b xs) (k : Nat) : Lim b (xs.take k) := fun x hx => h x (List.mem_of_mem_take hx)
theorem lim_getD {b : Nat} (hb : 1 ≤ b) {xs : List Nat} (h : Lim b xs) (k : Nat) : xs[k]?.getD 0 < b := by
  cases hk : xs[k]? with
  | none => simp; omega
  | some x => exact h x (List.mem_of_getElem? hk)
theorem lim_append {b : Nat} {xs ys : List Nat} (h : Lim b xs) (h' : Lim b ys) : Lim b (xs ++ ys) := fun x hx => by
  rcases List.mem_append.1 hx with hx | hx
  · exact h x hx
  · exact h' x hx
theorem lim_one {b x : Nat} (h : x < b) : Lim b [x] := fun y hy => by simp at hy; omega

/-- Two lists that agree above place k: the one with the smaller digit there is the smaller number. -/
theorem nv_lt_at {b : Nat} (hb : 2 ≤ b) {xs ys : List Nat} (h : Lim b xs) {k : Nat} (hd : xs.drop (k + 1) = ys.drop (k + 1)) (hlen : xs.length = ys.length) (hk : xs[k]?.getD 0 < ys[k]?.getD 0) : nv b xs < nv b ys := by
  by_cases hkl : k < ys.length
  · have e1 : nv b xs = nv b (xs.take (k + 1)) + b ^ (k + 1) * nv b (xs.drop (k + 1)) := by
      conv => lhs; rw [← List.take_append_drop (k + 1) xs, nv_append, List.length_take, Nat.min_eq_left (by omega)]
    have e2 : nv b ys = nv b (ys.take (k + 1)) + b ^ (k + 1) * nv b (ys.drop (k + 1)) := by
      conv => lhs; rw [← List.take_append_drop (k + 1) ys, nv_append, List.length_take, Nat.min_eq_left (by omega)]
    rw [e1, e2, hd, nv_take_succ, nv_take_succ]
    have h1 := nv_lt (b := b) (by omega) (lim_take h k)
    rw [List.length_take, Nat.min_eq_left (by omega)] at h1
    have h2 : b ^ k * (xs[k]?.getD 0 + 1) ≤ b ^ k * ys[k]?.getD 0 := Nat.mul_le_mul_left _ hk
    rw [Nat.mul_add, Nat.mul_one] at h2
    omega
  · rw [List.getElem?_eq_none (by omega), List.getElem?_eq_none (by omega)] at hk
    simp at hk

theorem drop_step {xs ys : List Nat} {k : Nat} (hlen : xs.length = ys.length) (hd : xs.drop (k + 1) = ys.drop (k + 1)) (hk : xs[k]?.getD 0 = ys[k]?.getD 0) : xs.drop k = ys.drop k := by
  by_cases h : k < ys.length
  · rw [List.getElem?_eq_getElem h, List.getElem?_eq_getElem (show k < xs.length by omega)] at hk
    rw [List.drop_eq_getElem_cons h, List.drop_eq_getElem_cons (show k < xs.length by omega), hd]
    exact congrArg (· :: ys.drop (k + 1)) (by simpa using hk)
  · rw [List.drop_eq_nil_of_le (by omega), List.drop_eq_nil_of_le (by omega)]

/-- The first nought of the rest turned into d. -/
theorem set_tail {os : List Nat} {i m d : Nat} (hl : os.length = i) (h : i < m) : (os ++ List.replicate (m - i) 0).set i d = os ++ [d] ++ List.replicate (m - (i + 1)) 0 := by
  obtain ⟨k, rfl⟩ : ∃ k, m = i + 1 + k := ⟨m - (i + 1), by omega⟩
  rw [List.set_append_right _ _ (by omega), hl, Nat.sub_self, show i + 1 + k - i = k + 1 from by omega, show i + 1 + k - (i + 1) = k from by omega, List.replicate_succ]
  simp

theorem add_step {b i cy d cy' : Nat} {os xs ys : List Nat} (hol : os.length = i) (hinv : nv b os + b ^ i * cy = nv b (xs.take i) + nv b (ys.take i)) (he : d + b * cy' = cy + xs[i]?.getD 0 + ys[i]?.getD 0) :
    nv b (os ++ [d]) + b ^ (i + 1) * cy' = nv b (xs.take (i + 1)) + nv b (ys.take (i + 1)) := by
  rw [nv_append, hol, nv_take_succ, nv_take_succ, Nat.pow_succ]
  have h4 : b ^ i * (d + b * cy') = b ^ i * (cy + xs[i]?.getD 0 + ys[i]?.getD 0) := by rw [he]
  simp only [nv, Nat.mul_zero, Nat.add_zero, Nat.mul_add] at h4 ⊢
  rw [Nat.mul_assoc]
  generalize b ^ i * cy = t1 at *
  generalize b ^ i * (b * cy') = t2 at *
  generalize b ^ i * d = t3 at *
  omega

theorem add_end {b n n' cy : Nat} {os xs ys : List Nat} (hb : 2 ≤ b) (hx : xs.length = n) (hy : ys.length = n') (hl : Lim b xs) (hl' : Lim b ys) (hge : n' ≤ n)
    (hinv : nv b os + b ^ (n + 1) * cy = nv b (xs.take (n + 1)) + nv b (ys.take (n + 1))) : nv b os = nv b xs + nv b ys := by
  rw [List.take_of_length_le (by omega), List.take_of_length_le (by omega)] at hinv
  have l1 := nv_lt (b := b) (by omega) hl
  have l2 := nv_lt (b := b) (by omega) hl'
  rw [hx] at l1
  rw [hy] at l2
  have l3 : b ^ n' ≤ b ^ n := Nat.pow_le_pow_right (by omega) hge
  have l4 : b ^ n * 2 ≤ b ^ (n + 1) := by rw [Nat.pow_succ]; exact Nat.mul_le_mul_left _ hb
  rcases Nat.eq_zero_or_pos cy with h0 | h0
  · subst h0; simpa using hinv
  · have l5 : b ^ (n + 1) * 1 ≤ b ^ (n + 1) * cy := Nat.mul_le_mul_left _ h0
    generalize b ^ (n + 1) * cy = t at *
    generalize b ^ (n + 1) = t1 at *
    generalize b ^ n = t2 at *
    generalize b ^ n' = t3 at *
    omega

end Go.Proofs.Ytmfgcjjoagdamaa
