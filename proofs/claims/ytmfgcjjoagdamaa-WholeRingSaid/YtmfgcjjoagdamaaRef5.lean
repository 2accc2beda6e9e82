
/-
  The contracts of the document's answer for layer 1: Two, Bits, Mul.
-/
import Derived.Test.YtmfgcjjoagdamaaRef2
import Derived.Test.YtmfgcjjoagdamaaRef4
namespace Go.Proofs.Ytmfgcjjoagdamaa
open Go.RowKit
open Go.Lib (hid)

theorem bl_dec {m K : Nat} (h : m < 10 ^ K) : bl m ≤ 4 * K := bl_le (by
  have h2 : (10 : Nat) ^ K ≤ (2 ^ 4) ^ K := Nat.pow_le_pow_left (by omega) _
  rw [← Nat.pow_mul] at h2
  exact Nat.lt_of_lt_of_le h h2)

theorem nv_set {b : Nat} : ∀ {xs : List Nat} {j d : Nat}, j < xs.length → nv b (xs.set j d) + b ^ j * xs[j]?.getD 0 = nv b xs + b ^ j * d
  | [], _, _, h => by simp at h
  | x :: xs, 0, d, _ => by simp [nv]; omega
  | x :: xs, j + 1, d, h => by
    have ih := nv_set (b := b) (xs := xs) (j := j) (d := d) (by simpa using h)
    simp only [List.set_cons_succ, nv, List.getElem?_cons_succ, Nat.pow_succ]
    have e : b * (nv b (xs.set j d) + b ^ j * xs[j]?.getD 0) = b * (nv b xs + b ^ j * d) := by rw [ih]
    simp only [Nat.mul_add] at e
    have e1 : b ^ j * b * xs[j]?.getD 0 = b * (b ^ j * xs[j]?.getD 0) := by rw [Nat.mul_comm (b ^ j) b, Nat.mul_assoc]
    have e2 : b ^ j * b * d = b * (b ^ j * d) := by rw [Nat.mul_comm (b ^ j) b, Nat.mul_assoc]
    rw [e1, e2]
    omega
theorem lim_set {b : Nat} {xs : List Nat} {j d : Nat} (h : Lim b xs) (hd : d < b) : Lim b (xs.set j d) := fun x hx => by
  rcases List.mem_or_eq_of_mem_set hx with h1 | h1
  · exact h x h1
  · omega

/-- One digit of a row of a product: t = carry + out digit + x * y. -/
theorem mul_step {b i k cy x y t P : Nat} {O ys : List Nat} (hk : i + k < O.length) (hinv : nv b O + b ^ (i + k) * cy = P + x * b ^ i * nv b (ys.take k)) (hy : ys[k]?.getD 0 = y) (ht : t = cy + O[i + k]?.getD 0 + x * y) :
    nv b (O.set (i + k) (t % b)) + b ^ (i + (k + 1)) * (t / b) = P + x * b ^ i * nv b (ys.take (k + 1)) := by
  have h1 := nv_set (b := b) (d := t % b) hk
  rw [nv_take_succ, hy, ← Nat.add_assoc i k 1, Nat.pow_succ]
  have h2 : t % b + b * (t / b) = cy + O[i + k]?.getD 0 + x * y := by rw [Nat.mod_add_div, ht]
  have h3 : b ^ (i + k) * (t % b + b * (t / b)) = b ^ (i + k) * (cy + O[i + k]?.getD 0 + x * y) := by rw [h2]
  have h4 : x * b ^ i * (b ^ k * y) = b ^ (i + k) * (x * y) := by
    rw [Nat.pow_add]
    simp only [Nat.mul_assoc, Nat.mul_left_comm, Nat.mul_comm]
  simp only [Nat.mul_add] at h3 ⊢
  rw [h4, Nat.mul_assoc]
  generalize b ^ (i + k) * O[i + k]?.getD 0 = t1 at *
  generalize b ^ (i + k) * (t % b) = t2 at *
  generalize b ^ (i + k) * (b * (t / b)) = t3 at *
  generalize b ^ (i + k) * cy = t4 at *
  generalize b ^ (i + k) * (x * y) = t5 at *
  generalize x * b ^ i * nv b (List.take k ys) = t6 at *
  omega

/-- A carry is left only while there is room. -/
theorem mul_room {b i k cy x P n' : Nat} {O xs ys : List Nat} (hb : 2 ≤ b) (hys : ys.length = n') (hlx : Lim b xs) (hly : Lim b ys) (hx : xs[i]?.getD 0 = x) (hxl : i < xs.length) (hP : P = nv b (xs.take i) * nv b ys)
    (hinv : nv b O + b ^ (i + k) * cy = P + x * b ^ i * nv b (ys.take k)) (hk : n' ≤ k) (hc : 0 < cy) : k ≤ n' := by
  rcases Nat.lt_or_ge n' k with h | h
  · exfalso
    have e : P + x * b ^ i * nv b (ys.take k) = nv b (xs.take (i + 1)) * nv b ys := by
      rw [List.take_of_length_le (by omega), nv_take_succ, hx, hP, Nat.add_mul, Nat.mul_comm x (b ^ i)]
    have l1 := nv_lt (b := b) (by omega) (lim_take hlx (i + 1))
    have l2 := nv_lt (b := b) (by omega) hly
    rw [List.length_take, Nat.min_eq_left (by omega)] at l1
    rw [hys] at l2
    have l3 : nv b (xs.take (i + 1)) * nv b ys < b ^ (i + 1) * b ^ n' := Nat.mul_lt_mul_of_lt_of_le l1 (Nat.le_of_lt l2) (Nat.pow_pos (by omega))
    rw [← Nat.pow_add] at l3
    have l4 : b ^ (i + 1 + n') ≤ b ^ (i + k) := Nat.pow_le_pow_right (by omega) (by omega)
    have l5 : b ^ (i + k) * 1 ≤ b ^ (i + k) * cy := Nat.mul_le_mul_left _ hc
    rw [e] at hinv
    generalize b ^ (i + k) * cy = t1 at *
    generalize nv b (List.take (i + 1) xs) * nv b ys = t2 at *
    generalize b ^ (i + 1 + n') = t3 at *
    generalize b ^ (i + k) = t4 at *
    omega
  · exact h
theorem mul_row {b i k x P : Nat} {O xs ys : List Nat} (hx : xs[i]?.getD 0 = x) (hk : ys.length ≤ k) (hP : P = nv b (xs.take i) * nv b ys) (hinv : nv b O + b ^ (i + k) * 0 = P + x * b ^ i * nv b (ys.take k)) : nv b O = nv b (xs.take (i + 1)) * nv b ys := by
  rw [List.take_of_length_le hk] at hinv
  rw [nv_take_succ, hx, Nat.add_mul, ← hP, Nat.mul_comm (b ^ i) x]
  simpa using hinv
theorem mul_cast (cy o x y : Nat) : ((cy : Int) + o + x * y) % 10 = (((cy + o + x * y) % 10 : Nat) : Int) ∧ ((cy : Int) + o + x * y) / 10 = (((cy + o + x * y) / 10 : Nat) : Int) := by
  rw [← Int.natCast_mul]; omega
theorem le_81 {x y : Nat} (hx : x < 10) (hy : y < 10) : x * y ≤ 81 := Nat.mul_le_mul (show x ≤ 9 by omega) (show y ≤ 9 by omega)

set_option maxHeartbeats 3200000 in
theorem rmul_any {w : World} {A B : Option Addr} {n c n' c' p q : Nat} (h : Sl .i64 w A n c (nd 10 p)) (h' : Sl .i64 w B n' c' (nd 10 q)) (hn : n ≤ 1073741824) (hn' : n' ≤ 1073741824) :
    Calls Try.prog 65 #[.slice A n c, .slice B n' c'] w (RetO .i64 3 (nd 10 (p * q)) w) := by
  have e1 : nv 10 (nd 10 p) = p := nv_nd (by omega) p
  have e2 : nv 10 (nd 10 q) = q := nv_nd (by omega) q
  have k1 := hid (nd_lim (b := 10) (by omega) p)
  have k2 := hid (nd_lim (b := 10) (by omega) q)
  generalize nd 10 p = X at *
  generalize nd 10 q = Y at *
  subst e1
  subst e2
  have H := hid h
  have H' := hid h'
  clear h h'
  go_enter Try.func65, Try.ntmps65
  go_wp2_with (at_make; refine wpl_make (w0 := w) (Ext.refl _) rfl (.tmp 14) (.tmp 14) _ rfl 3 .i64 8 Try.underlying32 info_int _ (n + n' + 1) rfl rfl (by omega) (by omega) (by simp only [maxLen]; omega) ?_; intro g w1 hg1 ho1 hx1)
  have O1 := hid ho1
  have X1 := hid hx1
  clear ho1 hx1
  go_loopw [6] (fun si wr => ∃ (i : Nat) (O : List Nat), i ≤ n ∧ si = .int .i64 i ∧ Lim 10 O ∧ nv 10 O = nv 10 (X.take i) * nv 10 Y ∧ Own .i64 3 wr w.heap.size (some ⟨g, 0, none⟩) (n + n' + 1) (n + n' + 1) O ∧ Ext w wr) (fun si _ => n - (intOf si).toNat)
  case atStart => exact ⟨0, _, Nat.zero_le _, rfl, fun y hy => by have := (List.mem_replicate.1 hy).2; omega, by rw [nv_zeros]; simp [nv], O1.out, X1.out⟩
  case round =>
    clear O1 X1
    obtain ⟨i, O, hi, rfl, hO, hinv, ho, hx⟩ := hrel
    have HE := hid hx
    have HI := hid hinv
    have HO := hid ho
    have HL := hid hO
    clear hx hinv ho hO
    by_cases hlt : i < n
    · go_wp2_with fail
      obtain ⟨P, hP⟩ : ∃ P, P = nv 10 (X.take i) * nv 10 Y := ⟨_, rfl⟩
      have HP := hid hP
      have hxi : i < X.length := by rw [H.out.len]; exact hlt
      have HXI := hid hxi
      have bx := lim_getD (b := 10) (by omega) k1.out i
      obtain ⟨x, hxd⟩ : ∃ x, X[i]?.getD 0 = x := ⟨_, rfl⟩
      have HXD := hid hxd
      rw [hxd] at bx
      clear hP hxi hxd
      obtain ⟨wo, rfl⟩ : ∃ wo : World, wo = wr := ⟨_, rfl⟩
      go_loopw [7, 8] (fun sc sk wr => ∃ (k cy : Nat) (O : List Nat), k ≤ n' + 1 ∧ sc = .int .i64 cy ∧ sk = .int .i64 k ∧ cy ≤ 9 ∧ Lim 10 O ∧ nv 10 O + 10 ^ (i + k) * cy = P + x * 10 ^ i * nv 10 (Y.take k) ∧
        Own .i64 3 wr w.heap.size (some ⟨g, 0, none⟩) (n + n' + 1) (n + n' + 1) O ∧ Ext w wr) (fun _ sk _ => n' + 2 - (intOf sk).toNat)
      case atStart => exact ⟨0, 0, O, by omega, rfl, rfl, by omega, HL.out, by rw [HI.out, HP.out]; simp [nv], HO.out, HE.out⟩
      case round =>
        clear HI HO HL HE
        obtain ⟨k, cy, R, hk, rfl, rfl, hcy, hR, hinv, ho, hx⟩ := hrel
        have HE := hid hx
        have HI := hid hinv
        have HO := hid ho
        have HL := hid hR
        clear hx hinv ho hR
        have HR := hid (fun (hk : n' ≤ k) (hc : 0 < cy) => mul_room (b := 10) (by omega) H'.out.len k1.out k2.out HXD.out HXI.out HP.out HI.out hk hc)
        by_cases hkl : k < n'
        · have hik : i + k < n + n' + 1 := by omega
          obtain ⟨ba, oa, rfl, gx⟩ := (H.out.ext HE.out).get hlt
          obtain ⟨bb, ob, rfl, gy⟩ := (H'.out.ext HE.out).get hkl
          have gz := HO.out.cell (i := i + k) hik
          have gf := HO.out.frozen (i + k)
          have by' := lim_getD (b := 10) (by omega) k2.out k
          have bz := lim_getD (b := 10) (by omega) HL.out (i + k)
          rw [HXD.out] at gx
          have HST := hid (fun t ht => mul_step (b := 10) (t := t) (by rw [HO.out.len]; exact hik) HI.out rfl ht)
          generalize Y[k]?.getD 0 = y at *
          generalize R[i + k]?.getD 0 = o at *
          have hxy := le_81 bx by'
          have HC := hid (mul_cast cy o x y)
          go_wp2_with (go_quiet (fail))
          rw [HC.out.1, HC.out.2]
          exact ⟨⟨k + 1, (cy + o + x * y) / 10, _, by omega, rfl, by go_num, by omega, lim_set HL.out (Nat.mod_lt _ (by omega)), HST.out _ rfl, (HO.out.drewN _).set _ _, (HE.out.drewN _).setCell hg1 _⟩, by simp [intOf]; omega⟩
        · by_cases hc0 : 0 < cy
          · have hkn := HR.out (by omega) hc0
            have hik : i + k < n + n' + 1 := by omega
            have gz := HO.out.cell (i := i + k) hik
            have gf := HO.out.frozen (i + k)
            have bz := lim_getD (b := 10) (by omega) HL.out (i + k)
            have hy0 : Y[k]?.getD 0 = 0 := by rw [List.getElem?_eq_none (by rw [H'.out.len]; omega)]; rfl
            have HST := hid (fun t ht => mul_step (b := 10) (t := t) (y := 0) (by rw [HO.out.len]; exact hik) HI.out hy0 ht)
            generalize R[i + k]?.getD 0 = o at *
            have HC := hid (add_cast' cy o)
            clear hy0
            go_wp2_with (go_quiet (fail))
            rw [HC.out.1, HC.out.2]
            exact ⟨⟨k + 1, (cy + o) / 10, _, by omega, rfl, by go_num, by omega, lim_set HL.out (Nat.mod_lt _ (by omega)), HST.out _ (by omega), HO.out.set _ _, HE.out.setCell hg1 _⟩, by simp [intOf]; omega⟩
          · obtain rfl : cy = 0 := by omega
            have HV := hid (mul_row (b := 10) HXD.out (by rw [H'.out.len]; omega) HP.out HI.out)
            go_wp2_with fail
            go_roundw
            case rel => exact ⟨i + 1, R, by omega, by go_num, HL.out, HV.out, HO.out, HE.out⟩
            case measure => simp [intOf]; omega
    · obtain rfl : i = n := by omega
      have hv : nv 10 O = nv 10 X * nv 10 Y := by have := HI.out; rwa [List.take_of_length_le (by rw [H.out.len]; omega)] at this
      have hs := hid (rtrim_any HO.out.sl HL.out)
      have hsh := HO.out.rtrim HL.out
      rw [hv] at hs hsh
      have HS := hid hsh
      clear hsh hv
      go_wp2_with (go_at_call 90; refine hs.out.mono ?_; rintro e w' ⟨rfl, rfl⟩)
      go_ret
      exact ⟨_, _, rfl, HS.out, HE.out⟩
end Go.Proofs.Ytmfgcjjoagdamaa
