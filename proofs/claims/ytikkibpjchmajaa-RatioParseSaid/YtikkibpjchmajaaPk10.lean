/-
  The contracts of the document's answer for layer 1: Two, Bits, Mul.
  Math6
  The arithmetic of long division: a limb of the quotient by the three and two highest limbs; its product taken off.
-/
import Derived.Test.YtikkibpjchmajaaPk9
namespace Go.Proofs.Ytikkibpjchmajaa
open Go.RowKit
open Go.Lib (hid)

theorem bl_dec {m K : Nat} (h : m < 10 ^ K) : bl m ≤ 4 * K := bl_le (by
  have h2 : (10 : Nat) ^ K ≤ (2 ^ 4) ^ K := Nat.pow_le_pow_left (by omega) _
  rw [← Nat.pow_mul] at h2
  exact Nat.lt_of_lt_of_le h h2)

theorem nv_set {b : Nat} : ∀ {xs : List Nat} {j d : Nat}, j < xs.length → nv b (xs.set j d) + b ^ j * xs[j]?.getD 0 = nv b xs + b ^ j * d
  | [], _, _, h => by simp at h
  | x :: xs, 0, d, _ => by simp [nv]; omega
  | x :: xs, j + 1, d, h => by
    have ih := nv_set (b := b) (xs := xs) (j := j) (d := d) (by simpa using h)
    simp only [List.set_cons_succ, nv, List.getElem?_cons_succ, Nat.pow_succ]
    have e : b * (nv b (xs.set j d) + b ^ j * xs[j]?.getD 0) = b * (nv b xs + b ^ j * d) := by rw [ih]
    simp only [Nat.mul_add] at e
    have e1 : b ^ j * b * xs[j]?.getD 0 = b * (b ^ j * xs[j]?.getD 0) := by rw [Nat.mul_comm (b ^ j) b, Nat.mul_assoc]
    have e2 : b ^ j * b * d = b * (b ^ j * d) := by rw [Nat.mul_comm (b ^ j) b, Nat.mul_assoc]
    rw [e1, e2]
    omega
theorem lim_set {b : Nat} {xs : List Nat} {j d : Nat} (h : Lim b xs) (hd : d < b) : Lim b (xs.set j d) := fun x hx => by
  rcases List.mem_or_eq_of_mem_set hx with h1 | h1
  · exact h x h1
  · omega

/-- One digit of a row of a product: t = carry + out digit + x * y. -/
theorem mul_step {b i k cy x y t P : Nat} {O ys : List Nat} (hk : i + k < O.length) (hinv : nv b O + b ^ (i + k) * cy = P + x * b ^ i * nv b (ys.take k)) (hy : ys[k]?.getD 0 = y) (ht : t = cy + O[i + k]?.getD 0 + x * y) :
    nv b (O.set (i + k) (t % b)) + b ^ (i + (k + 1)) * (t / b) = P + x * b ^ i * nv b (ys.take (k + 1)) := by
  have h1 := nv_set (b := b) (d := t % b) hk
  rw [nv_take_succ, hy, ← Nat.add_assoc i k 1, Nat.pow_succ]
  have h2 : t % b + b * (t / b) = cy + O[i + k]?.getD 0 + x * y := by rw [Nat.mod_add_div, ht]
  have h3 : b ^ (i + k) * (t % b + b * (t / b)) = b ^ (i + k) * (cy + O[i + k]?.getD 0 + x * y) := by rw [h2]
  have h4 : x * b ^ i * (b ^ k * y) = b ^ (i + k) * (x * y) := by
    rw [Nat.pow_add]
    simp only [Nat.mul_assoc, Nat.mul_left_comm, Nat.mul_comm]
  simp only [Nat.mul_add] at h3 ⊢
  rw [h4, Nat.mul_assoc]
  generalize b ^ (i + k) * O[i + k]?.getD 0 = t1 at *
  generalize b ^ (i + k) * (t % b) = t2 at *
  generalize b ^ (i + k) * (b * (t / b)) = t3 at *
  generalize b ^ (i + k) * cy = t4 at *
  generalize b ^ (i + k) * (x * y) = t5 at *
  generalize x * b ^ i * nv b (List.take k ys) = t6 at *
  omega

/-- A carry is left only while there is room. -/
theorem mul_room {b i k cy x P n' : Nat} {O xs ys : List Nat} (hb : 2 ≤ b) (hys : ys.length = n') (hlx : Lim b xs) (hly : Lim b ys) (hx : xs[i]?.getD 0 = x) (hxl : i < xs.length) (hP : P = nv b (xs.take i) * nv b ys)
    (hinv : nv b O + b ^ (i + k) * cy = P + x * b ^ i * nv b (ys.take k)) (hk : n' ≤ k) (hc : 0 < cy) : k ≤ n' := by
  rcases Nat.lt_or_ge n' k with h | h
  · exfalso
    have e : P + x * b ^ i * nv b (ys.take k) = nv b (xs.take (i + 1)) * nv b ys := by
      rw [List.take_of_length_le (by omega), nv_take_succ, hx, hP, Nat.add_mul, Nat.mul_comm x (b ^ i)]
    have l1 := nv_lt (b := b) (by omega) (lim_take hlx (i + 1))
    have l2 := nv_lt (b := b) (by omega) hly
    rw [List.length_take, Nat.min_eq_left (by omega)] at l1
    rw [hys] at l2
    have l3 : nv b (xs.take (i + 1)) * nv b ys < b ^ (i + 1) * b ^ n' := Nat.mul_lt_mul_of_lt_of_le l1 (Nat.le_of_lt l2) (Nat.pow_pos (by omega))
    rw [← Nat.pow_add] at l3
    have l4 : b ^ (i + 1 + n') ≤ b ^ (i + k) := Nat.pow_le_pow_right (by omega) (by omega)
    have l5 : b ^ (i + k) * 1 ≤ b ^ (i + k) * cy := Nat.mul_le_mul_left _ hc
    rw [e] at hinv
    generalize b ^ (i + k) * cy = t1 at *
    generalize nv b (List.take (i + 1) xs) * nv b ys = t2 at *
    generalize b ^ (i + 1 + n') = t3 at *
    generalize b ^ (i + k) = t4 at *
    omega
  · exact h
theorem mul_row {b i k x P : Nat} {O xs ys : List Nat} (hx : xs[i]?.getD 0 = x) (hk : ys.length ≤ k) (hP : P = nv b (xs.take i) * nv b ys) (hinv : nv b O + b ^ (i + k) * 0 = P + x * b ^ i * nv b (ys.take k)) : nv b O = nv b (xs.take (i + 1)) * nv b ys := by
  rw [List.take_of_length_le hk] at hinv
  rw [nv_take_succ, hx, Nat.add_mul, ← hP, Nat.mul_comm (b ^ i) x]
  simpa using hinv
theorem mul_cast (cy o x y : Nat) : ((cy : Int) + o + x * y) % 10 = (((cy + o + x * y) % 10 : Nat) : Int) ∧ ((cy : Int) + o + x * y) / 10 = (((cy + o + x * y) / 10 : Nat) : Int) := by
  rw [← Int.natCast_mul]; omega
theorem le_81 {x y : Nat} (hx : x < 10) (hy : y < 10) : x * y ≤ 81 := Nat.mul_le_mul (show x ≤ 9 by omega) (show y ≤ 9 by omega)

set_option maxHeartbeats 3200000 in
theorem rmul_any {w : World} {A B : Option Addr} {n c n' c' p q : Nat} (h : Sl .i64 w A n c (nd 10 p)) (h' : Sl .i64 w B n' c' (nd 10 q)) (hn : n ≤ 1073741824) (hn' : n' ≤ 1073741824) :
    Calls Try.prog 67 #[.slice A n c, .slice B n' c'] w (RetO .i64 3 (nd 10 (p * q)) w) := by
  have e1 : nv 10 (nd 10 p) = p := nv_nd (by omega) p
  have e2 : nv 10 (nd 10 q) = q := nv_nd (by omega) q
  have k1 := hid (nd_lim (b := 10) (by omega) p)
  have k2 := hid (nd_lim (b := 10) (by omega) q)
  generalize nd 10 p = X at *
  generalize nd 10 q = Y at *
  subst e1
  subst e2
  have H := hid h
  have H' := hid h'
  clear h h'
  go_enter Try.func67, Try.ntmps67
  go_wp2_with (at_make; refine wpl_make (w0 := w) (Ext.refl _) rfl (.tmp 14) (.tmp 14) _ rfl 3 .i64 8 Try.underlying33 info_int _ (n + n' + 1) rfl rfl (by omega) (by omega) (by simp only [maxLen]; omega) ?_; intro g w1 hg1 ho1 hx1)
  have O1 := hid ho1
  have X1 := hid hx1
  clear ho1 hx1
  go_loopw [6] (fun si wr => ∃ (i : Nat) (O : List Nat), i ≤ n ∧ si = .int .i64 i ∧ Lim 10 O ∧ nv 10 O = nv 10 (X.take i) * nv 10 Y ∧ Own .i64 3 wr w.heap.size (some ⟨g, 0, none⟩) (n + n' + 1) (n + n' + 1) O ∧ Ext w wr) (fun si _ => n - (intOf si).toNat)
  case atStart => exact ⟨0, _, Nat.zero_le _, rfl, fun y hy => by have := (List.mem_replicate.1 hy).2; omega, by rw [nv_zeros]; simp [nv], O1.out, X1.out⟩
  case round =>
    clear O1 X1
    obtain ⟨i, O, hi, rfl, hO, hinv, ho, hx⟩ := hrel
    have HE := hid hx
    have HI := hid hinv
    have HO := hid ho
    have HL := hid hO
    clear hx hinv ho hO
    by_cases hlt : i < n
    · go_wp2_with fail
      obtain ⟨P, hP⟩ : ∃ P, P = nv 10 (X.take i) * nv 10 Y := ⟨_, rfl⟩
      have HP := hid hP
      have hxi : i < X.length := by rw [H.out.len]; exact hlt
      have HXI := hid hxi
      have bx := lim_getD (b := 10) (by omega) k1.out i
      obtain ⟨x, hxd⟩ : ∃ x, X[i]?.getD 0 = x := ⟨_, rfl⟩
      have HXD := hid hxd
      rw [hxd] at bx
      clear hP hxi hxd
      obtain ⟨wo, rfl⟩ : ∃ wo : World, wo = wr := ⟨_, rfl⟩
      go_loopw [7, 8] (fun sc sk wr => ∃ (k cy : Nat) (O : List Nat), k ≤ n' + 1 ∧ sc = .int .i64 cy ∧ sk = .int .i64 k ∧ cy ≤ 9 ∧ Lim 10 O ∧ nv 10 O + 10 ^ (i + k) * cy = P + x * 10 ^ i * nv 10 (Y.take k) ∧
        Own .i64 3 wr w.heap.size (some ⟨g, 0, none⟩) (n + n' + 1) (n + n' + 1) O ∧ Ext w wr) (fun _ sk _ => n' + 2 - (intOf sk).toNat)
      case atStart => exact ⟨0, 0, O, by omega, rfl, rfl, by omega, HL.out, by rw [HI.out, HP.out]; simp [nv], HO.out, HE.out⟩
      case round =>
        clear HI HO HL HE
        obtain ⟨k, cy, R, hk, rfl, rfl, hcy, hR, hinv, ho, hx⟩ := hrel
        have HE := hid hx
        have HI := hid hinv
        have HO := hid ho
        have HL := hid hR
        clear hx hinv ho hR
        have HR := hid (fun (hk : n' ≤ k) (hc : 0 < cy) => mul_room (b := 10) (by omega) H'.out.len k1.out k2.out HXD.out HXI.out HP.out HI.out hk hc)
        by_cases hkl : k < n'
        · have hik : i + k < n + n' + 1 := by omega
          obtain ⟨ba, oa, rfl, gx⟩ := (H.out.ext HE.out).get hlt
          obtain ⟨bb, ob, rfl, gy⟩ := (H'.out.ext HE.out).get hkl
          have gz := HO.out.cell (i := i + k) hik
          have gf := HO.out.frozen (i + k)
          have by' := lim_getD (b := 10) (by omega) k2.out k
          have bz := lim_getD (b := 10) (by omega) HL.out (i + k)
          rw [HXD.out] at gx
          have HST := hid (fun t ht => mul_step (b := 10) (t := t) (by rw [HO.out.len]; exact hik) HI.out rfl ht)
          generalize Y[k]?.getD 0 = y at *
          generalize R[i + k]?.getD 0 = o at *
          have hxy := le_81 bx by'
          have HC := hid (mul_cast cy o x y)
          go_wp2_with (go_quiet (fail))
          rw [HC.out.1, HC.out.2]
          exact ⟨⟨k + 1, (cy + o + x * y) / 10, _, by omega, rfl, by go_num, by omega, lim_set HL.out (Nat.mod_lt _ (by omega)), HST.out _ rfl, (HO.out.drewN _).set _ _, (HE.out.drewN _).setCell hg1 _⟩, by simp [intOf]; omega⟩
        · by_cases hc0 : 0 < cy
          · have hkn := HR.out (by omega) hc0
            have hik : i + k < n + n' + 1 := by omega
            have gz := HO.out.cell (i := i + k) hik
            have gf := HO.out.frozen (i + k)
            have bz := lim_getD (b := 10) (by omega) HL.out (i + k)
            have hy0 : Y[k]?.getD 0 = 0 := by rw [List.getElem?_eq_none (by rw [H'.out.len]; omega)]; rfl
            have HST := hid (fun t ht => mul_step (b := 10) (t := t) (y := 0) (by rw [HO.out.len]; exact hik) HI.out hy0 ht)
            generalize R[i + k]?.getD 0 = o at *
            have HC := hid (add_cast' cy o)
            clear hy0
            go_wp2_with (go_quiet (fail))
            rw [HC.out.1, HC.out.2]
            exact ⟨⟨k + 1, (cy + o) / 10, _, by omega, rfl, by go_num, by omega, lim_set HL.out (Nat.mod_lt _ (by omega)), HST.out _ (by omega), HO.out.set _ _, HE.out.setCell hg1 _⟩, by simp [intOf]; omega⟩
          · obtain rfl : cy = 0 := by omega
            have HV := hid (mul_row (b := 10) HXD.out (by rw [H'.out.len]; omega) HP.out HI.out)
            go_wp2_with fail
            go_roundw
            case rel => exact ⟨i + 1, R, by omega, by go_num, HL.out, HV.out, HO.out, HE.out⟩
            case measure => simp [intOf]; omega
    · obtain rfl : i = n := by omega
      have hv : nv 10 O = nv 10 X * nv 10 Y := by have := HI.out; rwa [List.take_of_length_le (by rw [H.out.len]; omega)] at this
      have hs := hid (rtrim_any HO.out.sl HL.out)
      have hsh := HO.out.rtrim HL.out
      rw [hv] at hs hsh
      have HS := hid hsh
      clear hsh hv
      go_wp2_with (go_at_call 89; refine hs.out.mono ?_; rintro e w' ⟨rfl, rfl⟩)
      go_ret
      exact ⟨_, _, rfl, HS.out, HE.out⟩
end Go.Proofs.Ytikkibpjchmajaa

namespace Go.Proofs.Ytikkibpjchmajaa
open Go

/-- Above its value's size a list of digits is noughts. -/
theorem high_zero {b j : Nat} {O : List Nat} (hb : 1 ≤ b) (h : Lim b O) (hv : nv b O < b ^ j) : O[j]?.getD 0 = 0 := by
  have e := nv_div_pow hb h j
  rw [Nat.div_eq_of_lt hv] at e
  cases hd : O.drop j with
  | nil =>
    have h1 := List.drop_eq_nil_iff.1 hd
    rw [List.getElem?_eq_none h1]; rfl
  | cons x t =>
    have h1 := List.getElem?_drop (xs := O) (i := j) (j := 0)
    rw [hd] at h1 e
    simp only [List.getElem?_cons_zero, Nat.add_zero] at h1
    rw [← h1]
    simp only [nv] at e
    simp only [Option.getD_some]
    omega

/-- The rows so far have a product of so many digits. -/
theorem rows_lt {b i n' : Nat} {xs ys : List Nat} (hb : 2 ≤ b) (hys : ys.length = n') (hlx : Lim b xs) (hly : Lim b ys) (hi : i ≤ xs.length) : nv b (xs.take i) * nv b ys < b ^ (i + n') := by
  have l1 := nv_lt (b := b) (by omega) (lim_take hlx i)
  have l2 := nv_lt (b := b) (by omega) hly
  rw [List.length_take, Nat.min_eq_left hi] at l1
  rw [hys] at l2
  rw [Nat.pow_add]
  exact Nat.mul_lt_mul_of_lt_of_le l1 (Nat.le_of_lt l2) (Nat.pow_pos (by omega))

theorem rows_zero {b i n' : Nat} {O xs ys : List Nat} (hb : 2 ≤ b) (hys : ys.length = n') (hlx : Lim b xs) (hly : Lim b ys) (hi : i ≤ xs.length) (hO : Lim b O) (hinv : nv b O = nv b (xs.take i) * nv b ys) : O[i + n']?.getD 0 = 0 :=
  high_zero (by omega) hO (by rw [hinv]; exact rows_lt hb hys hlx hly hi)

/-- A row's end: its carry is stored. -/
theorem rows_end {b i k n' cy x P : Nat} {O xs ys : List Nat} (hk : i + k < O.length) (hys : ys.length = n') (hkn : k = n') (hx : xs[i]?.getD 0 = x) (hP : P = nv b (xs.take i) * nv b ys) (h0 : O[i + k]?.getD 0 = 0)
    (hinv : nv b O + b ^ (i + k) * cy = P + x * b ^ i * nv b (ys.take k)) : nv b (O.set (i + k) cy) = nv b (xs.take (i + 1)) * nv b ys := by
  have h1 := nv_set (b := b) (d := cy) hk
  rw [h0, Nat.mul_zero, Nat.add_zero] at h1
  rw [h1, hinv, List.take_of_length_le (by omega), nv_take_succ, hx, Nat.add_mul, ← hP, Nat.mul_comm (b ^ i) x]

theorem le_sq {x y : Nat} (hx : x < 4294967296) (hy : y < 4294967296) : x * y ≤ 18446744065119617025 :=
  Nat.mul_le_mul (show x ≤ 4294967295 by omega) (show y ≤ 4294967295 by omega)
theorem rows_cast (cy o x y : Nat) : ((cy : Int) + (x * y + o)) % 4294967296 = (((cy + o + x * y) % 4294967296 : Nat) : Int) ∧ ((cy : Int) + (x * y + o)) / 4294967296 = (((cy + o + x * y) / 4294967296 : Nat) : Int) := by
  rw [← Int.natCast_mul]; omega
theorem rows_carry {cy o x y : Nat} (hx : x < 4294967296) (hy : y < 4294967296) (hc : cy < 4294967296) (ho : o < 4294967296) : (cy + o + x * y) / 4294967296 < 4294967296 := by
  have := le_sq hx hy
  omega
end Go.Proofs.Ytikkibpjchmajaa

namespace Go.Proofs.Ytikkibpjchmajaa
open Go

theorem nv_drop_step {b : Nat} (xs : List Nat) (k : Nat) : nv b (xs.drop k) = xs[k]?.getD 0 + b * nv b (xs.drop (k + 1)) := by
  by_cases h : k < xs.length
  · rw [List.drop_eq_getElem_cons h, nv, List.getElem?_eq_getElem h]; rfl
  · rw [List.drop_eq_nil_of_le (by omega), List.drop_eq_nil_of_le (by omega), List.getElem?_eq_none (by omega)]
    simp [nv]

/-- Division by a limb: the next lower digit. -/
theorem dlimb_step {b d rest x t : Nat} {qs ds : List Nat} (ht : t = rest * b + x) (hinv : nv b ds = nv b qs * d + rest) : nv b (x :: ds) = nv b (t / d :: qs) * d + t % d := by
  have h1 := Nat.div_add_mod t d
  simp only [nv, hinv, Nat.add_mul, Nat.mul_add]
  rw [Nat.mul_comm (t / d) d, Nat.mul_assoc, Nat.mul_comm b rest]
  omega

/-- What a list's two, three highest limbs say. -/
theorem top_eq {b n : Nat} {X : List Nat} (hb : 1 ≤ b) (hX : Lim b X) (hl : X.length = n + 1) (h2 : 2 ≤ n) :
    nv b X / b ^ (n - 2) = X[n - 2]?.getD 0 + b * (X[n - 1]?.getD 0 + b * X[n]?.getD 0) ∧ nv b X / b ^ n = X[n]?.getD 0 := by
  have e0 : nv b (X.drop (n + 1)) = 0 := by rw [List.drop_eq_nil_of_le (by omega)]; rfl
  have e1 := nv_drop_step (b := b) X n
  have e2 := nv_drop_step (b := b) X (n - 1)
  have e3 := nv_drop_step (b := b) X (n - 2)
  rw [e0] at e1
  rw [show n - 1 + 1 = n from by omega, e1] at e2
  rw [show n - 2 + 1 = n - 1 from by omega, e2] at e3
  rw [nv_div_pow hb hX, nv_div_pow hb hX, e3, e1]
  simp
theorem top_eq' {b n : Nat} {Y : List Nat} (hb : 1 ≤ b) (hY : Lim b Y) (hl : Y.length = n) (h2 : 2 ≤ n) :
    nv b Y / b ^ (n - 2) = Y[n - 2]?.getD 0 + b * Y[n - 1]?.getD 0 ∧ nv b Y / b ^ (n - 1) = Y[n - 1]?.getD 0 := by
  have e0 : nv b (Y.drop n) = 0 := by rw [List.drop_eq_nil_of_le (by omega)]; rfl
  have e2 := nv_drop_step (b := b) Y (n - 1)
  have e3 := nv_drop_step (b := b) Y (n - 2)
  rw [show n - 1 + 1 = n from by omega, e0] at e2
  rw [show n - 2 + 1 = n - 1 from by omega, e2] at e3
  rw [nv_div_pow hb hY, nv_div_pow hb hY, e3, e2]
  simp

/-- What is known of the number U, n + 1 limbs, and of V, n limbs: by their highest limbs. -/
structure Tops (b C U V t1 u2 v1 v2 : Nat) : Prop where
  b2 : 2 ≤ b
  c : 0 < C
  v0 : 0 < v1
  ulo : (u2 + b * t1) * C ≤ U
  uhi : U < (u2 + b * t1 + 1) * C
  vlo : (v2 + b * v1) * C ≤ V
  vhi : V < (v2 + b * v1 + 1) * C
  small : U < V * b
  v2b : v2 < b
  u2b : u2 < b

theorem div_between {a c : Nat} (hc : 0 < c) : a / c * c ≤ a ∧ a < (a / c + 1) * c := by
  have h1 := Nat.div_add_mod a c
  have h2 := Nat.mod_lt a hc
  have h3 : c * (a / c) = a / c * c := Nat.mul_comm _ _
  rw [Nat.add_mul, Nat.one_mul]
  omega

theorem Tops.of {b n : Nat} {X Y : List Nat} (hb : 2 ≤ b) (hX : Lim b X) (hlx : X.length = n + 1) (hY : Lim b Y) (hly : Y.length = n) (h2 : 2 ≤ n) (hs : nv b X < nv b Y * b) (hv : 0 < Y[n - 1]?.getD 0) :
    Tops b (b ^ (n - 2)) (nv b X) (nv b Y) (X[n - 1]?.getD 0 + b * X[n]?.getD 0) (X[n - 2]?.getD 0) (Y[n - 1]?.getD 0) (Y[n - 2]?.getD 0) := by
  have hc : 0 < b ^ (n - 2) := Nat.pow_pos (by omega)
  have h1 := top_eq (by omega) hX hlx h2
  have h3 := top_eq' (by omega) hY hly h2
  have d1 := div_between (a := nv b X) hc
  have d2 := div_between (a := nv b Y) hc
  rw [h1.1] at d1
  rw [h3.1] at d2
  exact ⟨hb, hc, hv, d1.1, d1.2, d2.1, d2.2, hs, lim_getD (by omega) hY _, lim_getD (by omega) hX _⟩

section
variable {b C U V t1 u2 v1 v2 : Nat}
theorem Tops.vpos (h : Tops b C U V t1 u2 v1 v2) : 0 < V := by
  have h1 := h.vlo
  have h2 : 0 < (v2 + b * v1) * C := Nat.mul_pos (by have := Nat.mul_pos (show 0 < b by have := h.b2; omega) h.v0; omega) h.c
  omega
/-- The first guess is not too small. -/
theorem Tops.init (h : Tops b C U V t1 u2 v1 v2) : U / V ≤ t1 / v1 := by
  rw [Nat.le_div_iff_mul_le h.v0]
  have h1 : U / V * V ≤ U := Nat.div_mul_le_self _ _
  have h2 : U / V * (b * v1 * C) ≤ U / V * V := Nat.mul_le_mul_left _ (Nat.le_trans (Nat.mul_le_mul_right C (by omega)) h.vlo)
  have h3 : (u2 + b * t1 + 1) * C ≤ b * (t1 + 1) * C := Nat.mul_le_mul_right C (by have := h.u2b; rw [Nat.mul_add]; omega)
  have h4 : U / V * v1 * (b * C) < (t1 + 1) * (b * C) := by
    have e1 : U / V * v1 * (b * C) = U / V * (b * v1 * C) := by simp only [Nat.mul_assoc, Nat.mul_left_comm]
    have e2 : (t1 + 1) * (b * C) = b * (t1 + 1) * C := by rw [← Nat.mul_assoc, Nat.mul_comm (t1 + 1) b]
    have := h.uhi
    rw [e1, e2]
    omega
  have := Nat.lt_of_mul_lt_mul_right h4
  omega
/-- A guess that is found too great is too great. -/
theorem Tops.step (h : Tops b C U V t1 u2 v1 v2) {q r : Nat} (ht : t1 = q * v1 + r) (hc : b ≤ q ∨ r * b + u2 < q * v2) : U / V < q := by
  have hq : U / V < b := by rw [Nat.div_lt_iff_lt_mul h.vpos, Nat.mul_comm]; exact h.small
  rcases hc with hc | hc
  · omega
  · refine Nat.lt_of_not_le fun hle => ?_
    have h1 : U / V * V ≤ U := Nat.div_mul_le_self _ _
    have h2 : q * ((v2 + b * v1) * C) ≤ U / V * V := Nat.mul_le_mul hle h.vlo
    have h4 : q * (v2 + b * v1) * C < (u2 + b * t1 + 1) * C := by have := h.uhi; rw [Nat.mul_assoc]; omega
    have h5 := Nat.lt_of_mul_lt_mul_right h4
    rw [ht] at h5
    have e1 : q * (v2 + b * v1) = q * v2 + b * (q * v1) := by rw [Nat.mul_add, Nat.mul_left_comm]
    have e2 : b * (q * v1 + r) = b * (q * v1) + r * b := by rw [Nat.mul_add, Nat.mul_comm b r]
    rw [e1, e2] at h5
    omega
/-- A guess that is not found too great is at most one too great. -/
theorem Tops.done (h : Tops b C U V t1 u2 v1 v2) {q r : Nat} (hq : q < b) (ht : t1 = q * v1 + r) (hc : q * v2 ≤ r * b + u2) : q ≤ U / V + 1 := by
  rcases Nat.eq_zero_or_pos q with h0 | h0
  · rw [h0]; exact Nat.zero_le _
  · have e1 : q * (v2 + b * v1) = q * v2 + b * (q * v1) := by rw [Nat.mul_add, Nat.mul_left_comm]
    have e2 : b * (q * v1 + r) = b * (q * v1) + r * b := by rw [Nat.mul_add, Nat.mul_comm b r]
    have h1 : q * (v2 + b * v1) ≤ u2 + b * t1 := by rw [ht, e1, e2]; omega
    have h2 : q * V < q * ((v2 + b * v1 + 1) * C) := Nat.mul_lt_mul_of_pos_left h.vhi h0
    have e3 : q * ((v2 + b * v1 + 1) * C) = q * (v2 + b * v1) * C + q * C := by rw [← Nat.mul_assoc, Nat.mul_add q, Nat.mul_one, Nat.add_mul]
    have h3 : q * (v2 + b * v1) * C ≤ (u2 + b * t1) * C := Nat.mul_le_mul_right C h1
    have h4 : q * C ≤ (v2 + b * v1) * C := Nat.mul_le_mul_right C (by
      have := Nat.mul_le_mul_left b h.v0
      omega)
    have h5 := h.ulo
    have h6 := h.vlo
    obtain ⟨j, rfl⟩ : ∃ j, q = j + 1 := ⟨q - 1, by omega⟩
    have h7 : j * V ≤ U := by rw [Nat.add_mul, Nat.one_mul] at h2; omega
    have := (Nat.le_div_iff_mul_le h.vpos).2 h7
    omega
end

/-- The highest limb of U is at most V's. -/
theorem top_le {b n : Nat} {X Y : List Nat} (hb : 2 ≤ b) (hX : Lim b X) (hlx : X.length = n + 1) (hY : Lim b Y) (hly : Y.length = n) (h2 : 2 ≤ n) (hs : nv b X < nv b Y * b) : X[n]?.getD 0 ≤ Y[n - 1]?.getD 0 := by
  have h1 := (top_eq (by omega) hX hlx h2).2
  have h3 := (top_eq' (by omega) hY hly h2).2
  have d1 := div_between (a := nv b X) (show 0 < b ^ n from Nat.pow_pos (by omega))
  have d2 := div_between (a := nv b Y) (show 0 < b ^ (n - 1) from Nat.pow_pos (by omega))
  rw [h1] at d1
  rw [h3] at d2
  have e : b ^ n = b ^ (n - 1) * b := by rw [← Nat.pow_succ]; congr 1; omega
  have h4 : X[n]?.getD 0 * b ^ n < (Y[n - 1]?.getD 0 + 1) * b ^ n := by
    rw [e, ← Nat.mul_assoc, ← Nat.mul_assoc]
    have h5 : nv b Y * b ≤ (Y[n - 1]?.getD 0 + 1) * b ^ (n - 1) * b := Nat.mul_le_mul_right b (Nat.le_of_lt d2.2)
    rw [e, ← Nat.mul_assoc] at d1
    omega
  have := Nat.lt_of_mul_lt_mul_right h4
  omega

/-- One digit of what is taken off. -/
theorem off_step {b k i cy bw q x t u u' bw' N : Nat} {R ys : List Nat} (hk : k + i < R.length) (hinv : nv b R + b ^ k * (q * nv b (ys.take i)) = N + b ^ (k + i) * (cy + bw)) (hx : ys[i]?.getD 0 = x) (hu : R[k + i]?.getD 0 = u) (ht : t = cy + q * x) (he : u' + t % b + bw = u + b * bw') :
    nv b (R.set (k + i) u') + b ^ k * (q * nv b (ys.take (i + 1))) = N + b ^ (k + (i + 1)) * (t / b + bw') := by
  have h1 := nv_set (b := b) (d := u') hk
  rw [hu] at h1
  rw [nv_take_succ, hx, ← Nat.add_assoc k i 1, Nat.pow_succ]
  have h2 := Nat.mod_add_div t b
  have h3 : b ^ (k + i) * (u' + t + bw) = b ^ (k + i) * (u + b * (t / b + bw')) := by congr 1; rw [Nat.mul_add]; omega
  have h4 : b ^ k * (q * (nv b (ys.take i) + b ^ i * x)) = b ^ k * (q * nv b (ys.take i)) + b ^ (k + i) * (q * x) := by
    rw [Nat.pow_add]
    simp only [Nat.mul_add, Nat.mul_assoc, Nat.mul_left_comm]
  rw [h4, Nat.mul_assoc]
  rw [ht] at h3
  simp only [Nat.mul_add] at h3 hinv ⊢
  rw [← ht] at h3
  generalize b ^ (k + i) * u' = a1 at *
  generalize b ^ (k + i) * u = a2 at *
  generalize b ^ (k + i) * bw = a3 at *
  generalize b ^ (k + i) * cy = a4 at *
  generalize b ^ (k + i) * (q * x) = a5 at *
  generalize b ^ (k + i) * (b * (t / b)) = a6 at *
  generalize b ^ (k + i) * (b * bw') = a7 at *
  generalize b ^ k * (q * nv b (List.take i ys)) = a8 at *
  omega

/-- Noughts above, and so much at most. -/
theorem high_lt {b j : Nat} {R R' : List Nat} (hb : 1 ≤ b) (h : Lim b R) (h' : Lim b R') (hd : R'.drop j = R.drop j) (hv : nv b R < b ^ j) : nv b R' < b ^ j := by
  have e := nv_div_pow hb h j
  have e' := nv_div_pow hb h' j
  rw [Nat.div_eq_of_lt hv] at e
  rw [hd, ← e] at e'
  have d := div_between (a := nv b R') (show 0 < b ^ j from Nat.pow_pos hb)
  rw [e'] at d
  omega

/-- The window's number: the lower limbs taken away. -/
theorem window_val {b k l : Nat} {R : List Nat} (hb : 1 ≤ b) (h : Lim b R) (hv : nv b R < b ^ (k + l)) : nv b ((R.drop k).take l) = nv b R / b ^ k := by
  have e := nv_div_pow hb h k
  have hd : Lim b (R.drop k) := fun y hy => h y (List.mem_of_mem_drop hy)
  have e2 := nv_div_pow hb hd l
  have h0 : nv b (R.drop k) / b ^ l = 0 := by
    rw [← e, Nat.div_div_eq_div_mul, ← Nat.pow_add]; exact Nat.div_eq_of_lt hv
  rw [h0] at e2
  have hs : nv b (R.drop k) = nv b ((R.drop k).take l) + b ^ l * nv b ((R.drop k).drop l) := by
    conv => lhs; rw [← List.take_append_drop l (R.drop k), nv_append, List.length_take]
    rcases Nat.le_total l (R.drop k).length with h | h
    · rw [Nat.min_eq_left h]
    · rw [List.drop_eq_nil_of_le h]; simp [nv]
  rw [← e2] at hs
  rw [e, hs]
  simp

section
variable {b k l V r0 x N N' : Nat}
/-- Nothing was borrowed: the guess was right. -/
theorem off_no (hb : 2 ≤ b) (hV : 0 < V) (hlo : r0 / b ^ k / V ≤ x) (hoff : N + b ^ k * (x * V) = r0) : N < b ^ k * V ∧ N + b ^ k * (x * V) = r0 := by
  refine ⟨?_, hoff⟩
  have hk : 0 < b ^ k := Nat.pow_pos (by omega)
  rw [Nat.div_div_eq_div_mul] at hlo
  have h1 := (div_between (a := r0) (Nat.mul_pos hk hV)).2
  have h2 : (r0 / (b ^ k * V) + 1) * (b ^ k * V) ≤ (x + 1) * (b ^ k * V) := Nat.mul_le_mul_right _ (by omega)
  have e : (x + 1) * (b ^ k * V) = b ^ k * (x * V) + b ^ k * V := by rw [Nat.add_mul, Nat.one_mul, Nat.mul_left_comm]
  omega
/-- There was: it was one too great; the divisor is put on again. -/
theorem off_yes {cy : Nat} (hb : 2 ≤ b) (hV : 0 < V) (hVl : V < b ^ l) (hhi : x ≤ r0 / b ^ k / V + 1) (hN : N < b ^ (k + l)) (hN' : N' < b ^ (k + l)) (hr : r0 < b ^ (k + l)) (hoff : N + b ^ k * (x * V) = r0 + b ^ (k + l)) (hon : N' + b ^ (k + l) * cy = N + b ^ k * V) :
    0 < x ∧ N' < b ^ k * V ∧ N' + b ^ k * ((x - 1) * V) = r0 := by
  have hk : 0 < b ^ k := Nat.pow_pos (by omega)
  rw [Nat.div_div_eq_div_mul] at hhi
  have h1 := div_between (a := r0) (Nat.mul_pos hk hV)
  have hx : 0 < x := by
    rcases Nat.eq_zero_or_pos x with h | h
    · subst h; simp at hoff; omega
    · exact h
  obtain ⟨y, rfl⟩ : ∃ y, x = y + 1 := ⟨x - 1, by omega⟩
  have e : b ^ k * ((y + 1) * V) = b ^ k * (y * V) + b ^ k * V := by rw [Nat.add_mul, Nat.one_mul, Nat.mul_add]
  have hy : y * (b ^ k * V) ≤ r0 := Nat.le_trans (Nat.mul_le_mul_right _ (by omega)) h1.1
  have e2 : y * (b ^ k * V) = b ^ k * (y * V) := Nat.mul_left_comm _ _ _
  have hbl : b ^ k * V ≤ b ^ (k + l) := by rw [Nat.pow_add]; exact Nat.mul_le_mul_left _ (Nat.le_of_lt hVl)
  have hlow : r0 < b ^ k * (y * V) + b ^ k * V := by
    -- what was borrowed says that the guess was greater than the quotient
    have : r0 < b ^ k * ((y + 1) * V) := by omega
    omega
  have hcy : cy = 1 := by
    rcases Nat.lt_or_ge cy 1 with h | h
    · have : cy = 0 := by omega
      subst this; simp at hon; omega
    · rcases Nat.lt_or_ge 1 cy with h2 | h2
      · have := Nat.mul_le_mul_left (b ^ (k + l)) h2
        omega
      · omega
  subst hcy
  rw [Nat.mul_one] at hon
  refine ⟨by omega, ?_, ?_⟩
  · omega
  · rw [Nat.add_sub_cancel]; omega
/-- One limb of the quotient more. -/
theorem quo_step {P : Nat} {qs : List Nat} (hN : N' + b ^ k * (x * V) = N) (hinv : N + b ^ (k + 1) * (V * nv b qs) = P) : N' + b ^ k * (V * nv b (x :: qs)) = P := by
  have e : b ^ k * (V * nv b (x :: qs)) = b ^ k * (x * V) + b ^ (k + 1) * (V * nv b qs) := by
    simp only [nv, Nat.pow_succ, Nat.mul_add, Nat.mul_assoc, Nat.mul_left_comm, Nat.mul_comm]
  omega
end

/-- The end: quotient and rest of the numbers shifted are those of the numbers, the rest shifted. -/
theorem quo_end {p w s N Q : Nat} (hw : 0 < w) (hN : N < w * 2 ^ s) (hinv : N + w * 2 ^ s * Q = p * 2 ^ s) : Q = p / w ∧ N / 2 ^ s = p % w ∧ N = p % w * 2 ^ s := by
  have h2 : 0 < 2 ^ s := Nat.two_pow_pos s
  have e1 : p * 2 ^ s / (w * 2 ^ s) = p / w := Nat.mul_div_mul_right _ _ h2
  have e2 : p * 2 ^ s % (w * 2 ^ s) = p % w * 2 ^ s := Nat.mul_mod_mul_right _ _ _
  have h3 : p * 2 ^ s / (w * 2 ^ s) = Q := by
    rw [← hinv]; exact Nat.div_eq_of_lt_le (by rw [Nat.mul_comm]; omega) (by rw [Nat.add_mul, Nat.one_mul, Nat.mul_comm Q]; omega)
  have h4 : p * 2 ^ s % (w * 2 ^ s) = N := by
    rw [← hinv, Nat.add_mul_mod_self_left, Nat.mod_eq_of_lt hN]
  rw [h3] at e1
  rw [h4] at e2
  refine ⟨e1, ?_, e2⟩
  rw [e2]; exact Nat.mul_div_cancel _ h2

/-- The number shifted is below the divisor shifted, times a power: so many limbs has the quotient. -/
theorem quo_start {b p w s la n : Nat} (hb : 2 ^ s * 2 ≤ b) (hp : p < b ^ la) (hw : b ^ n ≤ w * 2 ^ s * 2) (hn : n ≤ la) : p * 2 ^ s < b ^ (la + 1 - n) * (w * 2 ^ s) := by
  have h2 : 0 < 2 ^ s := Nat.two_pow_pos s
  have h1 : p * 2 ^ s * 2 < b ^ la * b := by
    rw [Nat.mul_assoc]
    exact Nat.mul_lt_mul_of_lt_of_le hp hb (by omega)
  have h3 : b ^ la * b = b ^ (la + 1 - n) * b ^ n := by rw [← Nat.pow_succ, ← Nat.pow_add]; congr 1; omega
  have h4 : b ^ (la + 1 - n) * b ^ n ≤ b ^ (la + 1 - n) * (w * 2 ^ s * 2) := Nat.mul_le_mul_left _ hw
  have e : b ^ (la + 1 - n) * (w * 2 ^ s * 2) = b ^ (la + 1 - n) * (w * 2 ^ s) * 2 := (Nat.mul_assoc _ _ _).symm
  omega
end Go.Proofs.Ytikkibpjchmajaa

