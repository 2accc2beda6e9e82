/-
  The contracts of the document's answer for layer 1: Two, Bits, Mul.
  The contract of the document's answer for layer 1: DivMod.
  Math6
-/
import Derived.Test.YtikkibpjchmajaaGreatPk9
import Derived.Test.YtikkibpjchmajaaGreatPk1
namespace Go.Proofs.YtikkibpjchmajaaGreat
open Go.RowKit
open Go.Lib (hid)

theorem bl_dec {m K : Nat} (h : m < 10 ^ K) : bl m ≤ 4 * K := bl_le (by
  have h2 : (10 : Nat) ^ K ≤ (2 ^ 4) ^ K := Nat.pow_le_pow_left (by omega) _
  rw [← Nat.pow_mul] at h2
  exact Nat.lt_of_lt_of_le h h2)

theorem nv_set {b : Nat} : ∀ {xs : List Nat} {j d : Nat}, j < xs.length → nv b (xs.set j d) + b ^ j * xs[j]?.getD 0 = nv b xs + b ^ j * d
  | [], _, _, h => by simp at h
  | x :: xs, 0, d, _ => by simp [nv]; omega
  | x :: xs, j + 1, d, h => by
    have ih := nv_set (b := b) (xs := xs) (j := j) (d := d) (by simpa using h)
    simp only [List.set_cons_succ, nv, List.getElem?_cons_succ, Nat.pow_succ]
    have e : b * (nv b (xs.set j d) + b ^ j * xs[j]?.getD 0) = b * (nv b xs + b ^ j * d) := by rw [ih]
    simp only [Nat.mul_add] at e
    have e1 : b ^ j * b * xs[j]?.getD 0 = b * (b ^ j * xs[j]?.getD 0) := by rw [Nat.mul_comm (b ^ j) b, Nat.mul_assoc]
    have e2 : b ^ j * b * d = b * (b ^ j * d) := by rw [Nat.mul_comm (b ^ j) b, Nat.mul_assoc]
    rw [e1, e2]
    omega
theorem lim_set {b : Nat} {xs : List Nat} {j d : Nat} (h : Lim b xs) (hd : d < b) : Lim b (xs.set j d) := fun x hx => by
  rcases List.mem_or_eq_of_mem_set hx with h1 | h1
  · exact h x h1
  · omega

/-- One digit of a row of a product: t = carry + out digit + x * y. -/
theorem mul_step {b i k cy x y t P : Nat} {O ys : List Nat} (hk : i + k < O.length) (hinv : nv b O + b ^ (i + k) * cy = P + x * b ^ i * nv b (ys.take k)) (hy : ys[k]?.getD 0 = y) (ht : t = cy + O[i + k]?.getD 0 + x * y) :
    nv b (O.set (i + k) (t % b)) + b ^ (i + (k + 1)) * (t / b) = P + x * b ^ i * nv b (ys.take (k + 1)) := by
  have h1 := nv_set (b := b) (d := t % b) hk
  rw [nv_take_succ, hy, ← Nat.add_assoc i k 1, Nat.pow_succ]
  have h2 : t % b + b * (t / b) = cy + O[i + k]?.getD 0 + x * y := by rw [Nat.mod_add_div, ht]
  have h3 : b ^ (i + k) * (t % b + b * (t / b)) = b ^ (i + k) * (cy + O[i + k]?.getD 0 + x * y) := by rw [h2]
  have h4 : x * b ^ i * (b ^ k * y) = b ^ (i + k) * (x * y) := by
    rw [Nat.pow_add]
    simp only [Nat.mul_assoc, Nat.mul_left_comm, Nat.mul_comm]
  simp only [Nat.mul_add] at h3 ⊢
  rw [h4, Nat.mul_assoc]
  generalize b ^ (i + k) * O[i + k]?.getD 0 = t1 at *
  generalize b ^ (i + k) * (t % b) = t2 at *
  generalize b ^ (i + k) * (b * (t / b)) = t3 at *
  generalize b ^ (i + k) * cy = t4 at *
  generalize b ^ (i + k) * (x * y) = t5 at *
  generalize x * b ^ i * nv b (List.take k ys) = t6 at *
  omega

/-- A carry is left only while there is room. -/
theorem mul_room {b i k cy x P n' : Nat} {O xs ys : List Nat} (hb : 2 ≤ b) (hys : ys.length = n') (hlx : Lim b xs) (hly : Lim b ys) (hx : xs[i]?.getD 0 = x) (hxl : i < xs.length) (hP : P = nv b (xs.take i) * nv b ys)
    (hinv : nv b O + b ^ (i + k) * cy = P + x * b ^ i * nv b (ys.take k)) (hk : n' ≤ k) (hc : 0 < cy) : k ≤ n' := by
  rcases Nat.lt_or_ge n' k with h | h
  · exfalso
    have e : P + x * b ^ i * nv b (ys.take k) = nv b (xs.take (i + 1)) * nv b ys := by
      rw [List.take_of_length_le (by omega), nv_take_succ, hx, hP, Nat.add_mul, Nat.mul_comm x (b ^ i)]
    have l1 := nv_lt (b := b) (by omega) (lim_take hlx (i + 1))
    have l2 := nv_lt (b := b) (by omega) hly
    rw [List.length_take, Nat.min_eq_left (by omega)] at l1
    rw [hys] at l2
    have l3 : nv b (xs.take (i + 1)) * nv b ys < b ^ (i + 1) * b ^ n' := Nat.mul_lt_mul_of_lt_of_le l1 (Nat.le_of_lt l2) (Nat.pow_pos (by omega))
    rw [← Nat.pow_add] at l3
    have l4 : b ^ (i + 1 + n') ≤ b ^ (i + k) := Nat.pow_le_pow_right (by omega) (by omega)
    have l5 : b ^ (i + k) * 1 ≤ b ^ (i + k) * cy := Nat.mul_le_mul_left _ hc
    rw [e] at hinv
    generalize b ^ (i + k) * cy = t1 at *
    generalize nv b (List.take (i + 1) xs) * nv b ys = t2 at *
    generalize b ^ (i + 1 + n') = t3 at *
    generalize b ^ (i + k) = t4 at *
    omega
  · exact h
theorem mul_row {b i k x P : Nat} {O xs ys : List Nat} (hx : xs[i]?.getD 0 = x) (hk : ys.length ≤ k) (hP : P = nv b (xs.take i) * nv b ys) (hinv : nv b O + b ^ (i + k) * 0 = P + x * b ^ i * nv b (ys.take k)) : nv b O = nv b (xs.take (i + 1)) * nv b ys := by
  rw [List.take_of_length_le hk] at hinv
  rw [nv_take_succ, hx, Nat.add_mul, ← hP, Nat.mul_comm (b ^ i) x]
  simpa using hinv
theorem mul_cast (cy o x y : Nat) : ((cy : Int) + o + x * y) % 10 = (((cy + o + x * y) % 10 : Nat) : Int) ∧ ((cy : Int) + o + x * y) / 10 = (((cy + o + x * y) / 10 : Nat) : Int) := by
  rw [← Int.natCast_mul]; omega
theorem le_81 {x y : Nat} (hx : x < 10) (hy : y < 10) : x * y ≤ 81 := Nat.mul_le_mul (show x ≤ 9 by omega) (show y ≤ 9 by omega)

set_option maxHeartbeats 3200000 in
theorem rmul_any {w : World} {A B : Option Addr} {n c n' c' p q : Nat} (h : Sl .i64 w A n c (nd 10 p)) (h' : Sl .i64 w B n' c' (nd 10 q)) (hn : n ≤ 1073741824) (hn' : n' ≤ 1073741824) :
    Calls Tryz.prog 68 #[.slice A n c, .slice B n' c'] w (RetO .i64 3 (nd 10 (p * q)) w) := by
  have e1 : nv 10 (nd 10 p) = p := nv_nd (by omega) p
  have e2 : nv 10 (nd 10 q) = q := nv_nd (by omega) q
  have k1 := hid (nd_lim (b := 10) (by omega) p)
  have k2 := hid (nd_lim (b := 10) (by omega) q)
  generalize nd 10 p = X at *
  generalize nd 10 q = Y at *
  subst e1
  subst e2
  have H := hid h
  have H' := hid h'
  clear h h'
  go_enter Tryz.func68, Tryz.ntmps68
  go_wp2_with (at_make; refine wpl_make (w0 := w) (Ext.refl _) rfl (.tmp 14) (.tmp 14) _ rfl 3 .i64 8 Tryz.underlying31 info_int _ (n + n' + 1) rfl rfl (by omega) (by omega) (by simp only [maxLen]; omega) ?_; intro g w1 hg1 ho1 hx1)
  have O1 := hid ho1
  have X1 := hid hx1
  clear ho1 hx1
  go_loopw [6] (fun si wr => ∃ (i : Nat) (O : List Nat), i ≤ n ∧ si = .int .i64 i ∧ Lim 10 O ∧ nv 10 O = nv 10 (X.take i) * nv 10 Y ∧ Own .i64 3 wr w.heap.size (some ⟨g, 0, none⟩) (n + n' + 1) (n + n' + 1) O ∧ Ext w wr) (fun si _ => n - (intOf si).toNat)
  case atStart => exact ⟨0, _, Nat.zero_le _, rfl, fun y hy => by have := (List.mem_replicate.1 hy).2; omega, by rw [nv_zeros]; simp [nv], O1.out, X1.out⟩
  case round =>
    clear O1 X1
    obtain ⟨i, O, hi, rfl, hO, hinv, ho, hx⟩ := hrel
    have HE := hid hx
    have HI := hid hinv
    have HO := hid ho
    have HL := hid hO
    clear hx hinv ho hO
    by_cases hlt : i < n
    · go_wp2_with fail
      obtain ⟨P, hP⟩ : ∃ P, P = nv 10 (X.take i) * nv 10 Y := ⟨_, rfl⟩
      have HP := hid hP
      have hxi : i < X.length := by rw [H.out.len]; exact hlt
      have HXI := hid hxi
      have bx := lim_getD (b := 10) (by omega) k1.out i
      obtain ⟨x, hxd⟩ : ∃ x, X[i]?.getD 0 = x := ⟨_, rfl⟩
      have HXD := hid hxd
      rw [hxd] at bx
      clear hP hxi hxd
      obtain ⟨wo, rfl⟩ : ∃ wo : World, wo = wr := ⟨_, rfl⟩
      go_loopw [7, 8] (fun sc sk wr => ∃ (k cy : Nat) (O : List Nat), k ≤ n' + 1 ∧ sc = .int .i64 cy ∧ sk = .int .i64 k ∧ cy ≤ 9 ∧ Lim 10 O ∧ nv 10 O + 10 ^ (i + k) * cy = P + x * 10 ^ i * nv 10 (Y.take k) ∧
        Own .i64 3 wr w.heap.size (some ⟨g, 0, none⟩) (n + n' + 1) (n + n' + 1) O ∧ Ext w wr) (fun _ sk _ => n' + 2 - (intOf sk).toNat)
      case atStart => exact ⟨0, 0, O, by omega, rfl, rfl, by omega, HL.out, by rw [HI.out, HP.out]; simp [nv], HO.out, HE.out⟩
      case round =>
        clear HI HO HL HE
        obtain ⟨k, cy, R, hk, rfl, rfl, hcy, hR, hinv, ho, hx⟩ := hrel
        have HE := hid hx
        have HI := hid hinv
        have HO := hid ho
        have HL := hid hR
        clear hx hinv ho hR
        have HR := hid (fun (hk : n' ≤ k) (hc : 0 < cy) => mul_room (b := 10) (by omega) H'.out.len k1.out k2.out HXD.out HXI.out HP.out HI.out hk hc)
        by_cases hkl : k < n'
        · have hik : i + k < n + n' + 1 := by omega
          obtain ⟨ba, oa, rfl, gx⟩ := (H.out.ext HE.out).get hlt
          obtain ⟨bb, ob, rfl, gy⟩ := (H'.out.ext HE.out).get hkl
          have gz := HO.out.cell (i := i + k) hik
          have gf := HO.out.frozen (i + k)
          have by' := lim_getD (b := 10) (by omega) k2.out k
          have bz := lim_getD (b := 10) (by omega) HL.out (i + k)
          rw [HXD.out] at gx
          have HST := hid (fun t ht => mul_step (b := 10) (t := t) (by rw [HO.out.len]; exact hik) HI.out rfl ht)
          generalize Y[k]?.getD 0 = y at *
          generalize R[i + k]?.getD 0 = o at *
          have hxy := le_81 bx by'
          have HC := hid (mul_cast cy o x y)
          go_wp2_with (go_quiet (fail))
          rw [HC.out.1, HC.out.2]
          exact ⟨⟨k + 1, (cy + o + x * y) / 10, _, by omega, rfl, by go_num, by omega, lim_set HL.out (Nat.mod_lt _ (by omega)), HST.out _ rfl, (HO.out.drewN _).set _ _, (HE.out.drewN _).setCell hg1 _⟩, by simp [intOf]; omega⟩
        · by_cases hc0 : 0 < cy
          · have hkn := HR.out (by omega) hc0
            have hik : i + k < n + n' + 1 := by omega
            have gz := HO.out.cell (i := i + k) hik
            have gf := HO.out.frozen (i + k)
            have bz := lim_getD (b := 10) (by omega) HL.out (i + k)
            have hy0 : Y[k]?.getD 0 = 0 := by rw [List.getElem?_eq_none (by rw [H'.out.len]; omega)]; rfl
            have HST := hid (fun t ht => mul_step (b := 10) (t := t) (y := 0) (by rw [HO.out.len]; exact hik) HI.out hy0 ht)
            generalize R[i + k]?.getD 0 = o at *
            have HC := hid (add_cast' cy o)
            clear hy0
            go_wp2_with (go_quiet (fail))
            rw [HC.out.1, HC.out.2]
            exact ⟨⟨k + 1, (cy + o) / 10, _, by omega, rfl, by go_num, by omega, lim_set HL.out (Nat.mod_lt _ (by omega)), HST.out _ (by omega), HO.out.set _ _, HE.out.setCell hg1 _⟩, by simp [intOf]; omega⟩
          · obtain rfl : cy = 0 := by omega
            have HV := hid (mul_row (b := 10) HXD.out (by rw [H'.out.len]; omega) HP.out HI.out)
            go_wp2_with fail
            go_roundw
            case rel => exact ⟨i + 1, R, by omega, by go_num, HL.out, HV.out, HO.out, HE.out⟩
            case measure => simp [intOf]; omega
    · obtain rfl : i = n := by omega
      have hv : nv 10 O = nv 10 X * nv 10 Y := by have := HI.out; rwa [List.take_of_length_le (by rw [H.out.len]; omega)] at this
      have hs := hid (rtrim_any HO.out.sl HL.out)
      have hsh := HO.out.rtrim HL.out
      rw [hv] at hs hsh
      have HS := hid hsh
      clear hsh hv
      go_wp2_with (go_at_call 82; refine hs.out.mono ?_; rintro e w' ⟨rfl, rfl⟩)
      go_ret
      exact ⟨_, _, rfl, HS.out, HE.out⟩
end Go.Proofs.YtikkibpjchmajaaGreat

namespace Go.Proofs.YtikkibpjchmajaaGreat
open Go.RowKit
open Go.Lib (hid)

/-- Quotient and rest. -/
def RetQR (K K' p q : Nat) (w : World) : Ending → World → Prop := fun E w' =>
  ∃ A n c B m d, E = .returned (.tuple #[.slice A n c, .slice B m d]) ∧ Sl .i64 w' A n c (nd 10 p) ∧ Sl .i64 w' B m d (nd 10 q) ∧ n ≤ K ∧ m ≤ K' ∧ Ext w w'

theorem div_row {i q r x t rr : Nat} {qs xs : List Nat} (hi : i < xs.length) (hx : xs[i]?.getD 0 = x) (hinv : nv 10 qs * q + r = nv 10 (xs.drop (i + 1))) (ht : rr + t * q = x + 10 * r) : nv 10 (t :: qs) * q + rr = nv 10 (xs.drop i) := by
  rw [List.drop_eq_getElem_cons hi, nv_cons, nv_cons, ← hinv]
  rw [List.getElem?_eq_getElem hi] at hx
  have hx : xs[i] = x := hx
  rw [hx, Nat.add_mul, Nat.mul_assoc]
  generalize nv 10 qs * q = t1 at *
  generalize t * q = t2 at *
  omega
theorem div_dig {q r x t rr : Nat} (hr : r < q) (hx : x < 10) (ht : rr + t * q = x + 10 * r) (hge : q ≤ rr) : t + 1 < 10 := by
  rcases Nat.lt_or_ge (t + 1) 10 with h | h
  · exact h
  · exfalso
    have h1 : 9 * q ≤ t * q := Nat.mul_le_mul_right _ (by omega)
    omega

theorem rtrim_own {w : World} {lo v : Nat} {A : Option Addr} {n c : Nat} {zs : List Nat} (h : Own .i64 3 w lo A n c zs) (hl : Lim 10 zs) (hv : nv 10 zs = v) :
    Calls Tryz.prog 82 #[.slice A n c] w fun e w' => ∃ z, e = .returned (.slice A z c) ∧ w = w' ∧ Hid (Own .i64 3 w lo A z c (nd 10 v)) := by
  subst hv
  exact (rtrim_any h.sl hl).mono fun e w' ⟨h1, h2⟩ => ⟨_, h1, h2, h.rtrim hl⟩

set_option maxHeartbeats 3200000 in
theorem rdivmod_any {w : World} {A B : Option Addr} {n c n' c' p q : Nat} (h : Sl .i64 w A n c (nd 10 p)) (h' : Sl .i64 w B n' c' (nd 10 q)) (hn : n ≤ 1073741824) (hn' : n' ≤ 1073741824) (hq : 0 < q) :
    Calls Tryz.prog 69 #[.slice A n c, .slice B n' c'] w (RetQR n n' (p / q) (p % q) w) := by
  have e1 : nv 10 (nd 10 p) = p := nv_nd (by omega) p
  have k1 := hid (nd_lim (b := 10) (by omega) p)
  generalize nd 10 p = X at *
  subst e1
  have H := hid h
  have H' := hid h'
  have HQ := hid (fun r (hr : r < q) => show (nd 10 r).length ≤ n' by rw [← h'.len]; exact nd_len_mono (by omega) (by omega))
  clear h h'
  go_enter Tryz.func69, Tryz.ntmps69
  go_wp2_with (at_make; refine wpl_make (w0 := w) (Ext.refl _) rfl (.tmp 10) (.tmp 10) _ rfl 3 .i64 8 Tryz.underlying31 info_int _ n rfl rfl (by omega) (by omega) (by simp only [maxLen]; omega) ?_; intro g w1 hg1 ho1 hx1)
  have O1 := hid ho1
  have X1 := hid hx1
  clear ho1 hx1
  go_loopw [7, 8] (fun sr si wr => ∃ (j r l : Nat) (R : Option Addr) (d : Nat) (qs : List Nat), j ≤ n ∧ si = .int .i64 ((j : Int) - 1) ∧ sr = .slice R l d ∧ r < q ∧ l ≤ n' ∧ qs.length = n - j ∧ Lim 10 qs ∧ nv 10 qs * q + r = nv 10 (X.drop j) ∧
      Sl .i64 wr R l d (nd 10 r) ∧ (∀ b o, R = some ⟨b, o, none⟩ → 0 < l → b ≠ g) ∧ Own .i64 3 wr w.heap.size (some ⟨g, 0, none⟩) n n (List.replicate j 0 ++ qs) ∧ Ext w wr) (fun _ si _ => (intOf si + 1).toNat)
  case atStart =>
    exact ⟨n, 0, 0, none, 0, [], Nat.le_refl _, rfl, rfl, hq, by omega, by simp, fun x hx => by simp at hx, by rw [List.drop_eq_nil_of_le (by rw [H.out.len]; omega)]; simp [nv],
      ⟨rfl, Nat.le_refl _, by simp [maxLen], fun h => absurd h (by omega)⟩, fun b o h => (by cases h), by simpa using O1.out, X1.out⟩
  case round =>
    clear O1 X1
    obtain ⟨j, r, l, R, d, qs, hj, rfl, rfl, hr, hl, hql, hqs, hinv, hsr, hne, ho, hx⟩ := hrel
    have HE := hid hx
    have HI := hid hinv
    have HO := hid ho
    have HL := hid hqs
    have HQL := hid hql
    have HR := hid hsr
    have HNE := hid hne
    clear hx hinv ho hqs hql hsr hne
    rcases Nat.eq_zero_or_pos j with h0 | h0
    · subst h0
      have ho := HO.out
      simp only [List.replicate_zero, List.nil_append] at ho
      have hv : nv 10 qs * q + r = nv 10 X := by have := HI.out; simpa using this
      have hqv : nv 10 qs = nv 10 X / q := by rw [← hv, Nat.mul_comm, Nat.mul_add_div hq, Nat.div_eq_of_lt hr, Nat.add_zero]
      have hm : r = nv 10 X % q := by rw [← hv, Nat.mul_comm, Nat.mul_add_mod, Nat.mod_eq_of_lt hr]
      have hs := hid (rtrim_any ho.sl HL.out)
      have hsh := ho.rtrim HL.out
      have hln := nd_length_le (b := 10) (by omega) HL.out
      rw [HQL.out, Nat.sub_zero] at hln
      rw [hqv] at hs hsh hln
      have HS := hid hsh
      have HM := hid hm
      have HLN := hid hln
      clear hsh hv hqv hm ho hln
      go_wp2_with (go_at_call 82; refine hs.out.mono ?_; rintro e w' ⟨rfl, rfl⟩)
      go_ret2
      exact ⟨_, _, _, _, _, _, rfl, HS.out.sl, HM.out ▸ HR.out, HLN.out, hl, HE.out⟩
    · obtain ⟨i, rfl⟩ : ∃ i, j = i + 1 := ⟨j - 1, by omega⟩
      obtain ⟨ba, oa, rfl, g1⟩ := (H.out.ext HE.out).get (i := i) (by omega)
      have b1 := lim_getD (b := 10) (by omega) k1.out i
      have hxi : i < X.length := by rw [H.out.len]; omega
      have HXI := hid hxi
      obtain ⟨x, hxd⟩ : ∃ x, X[i]?.getD 0 = x := ⟨_, rfl⟩
      have HXD := hid hxd
      rw [hxd] at b1 g1
      clear hxi hxd
      have hgl := HO.out.lo_le.2
      have hval : nv 10 ([x] ++ nd 10 r) = x + 10 * r := by rw [List.singleton_append, nv_cons, nv_nd (by omega)]
      have hlim : Lim 10 ([x] ++ nd 10 r) := lim_append (lim_one b1) (nd_lim (by omega) r)
      have HVL := hid hval
      have HLM := hid hlim
      clear hval hlim
      have hb0 : (0 : Int) ≤ (i : Int) := by omega
      have hb1 : (i : Int) < (n : Int) := by omega
      go_wp2_with (first
        | ((with_reducible refine wpl_lit1 (w0 := wr) (Ext.refl _) rfl _ _ rfl 3 .i64 8 Tryz.underlying31 info_int _ x rfl rfl ?_); intro ga wa hga oa hxa hya; have OA := hid oa; have XA := hid hxa; clear oa hxa hya)
        | (at_builtin; refine wpl_append (w0 := wr) rfl (.tmp 23) (.tmp 24) _ rfl 3 .i64 8 Tryz.underlying31 info_int rfl rfl OA.out (HR.out.ext XA.out) XA.out (by omega) (by simp only [maxLen]; omega) ?_; intro A2 n2 c2 w2 o2 hx2 hg2 hn2; have O2 : Hid (Own .i64 3 w2 wr.heap.size A2 n2 c2 ([x] ++ nd 10 r)) := hid o2; have X2 := hid hx2; clear o2 hx2 hg2 XA OA)
        | (go_at_call 82; (with_reducible refine (rtrim_own O2.out HLM.out HVL.out).mono ?_); rintro E3 w3 ⟨z, rfl, rfl, R1⟩))
      have hr1 := R1.out
      have ON := hid (HO.out.ext X2.out)
      have XN := hid (HE.out.trans X2.out)
      have hl2 : z ≤ n' + 1 := by
        rw [← hr1.len, nd_len_le (by omega)]
        have h1 : r < 10 ^ n' := by rw [← nd_len_le (by omega)]; exact HQ.out r hr
        rw [Nat.pow_succ]
        omega
      clear hr1 HO HE HR HNE
      obtain ⟨wo, rfl⟩ : ∃ wo : World, wo = wr := ⟨_, rfl⟩
      go_loopw [7] (fun sr wr => ∃ (t rr l : Nat) (R : Option Addr) (d : Nat), sr = .slice R l d ∧ rr + t * q = x + 10 * r ∧ t < 10 ∧ l ≤ n' + 1 ∧ Sl .i64 wr R l d (nd 10 rr) ∧ (∀ b o, R = some ⟨b, o, none⟩ → 0 < l → b ≠ g) ∧
          Own .i64 3 wr w.heap.size (some ⟨g, 0, none⟩) n n (List.replicate i 0 ++ t :: qs) ∧ Ext w wr) (fun _ wr => 10 - (((wr.cell? ⟨g, i, none⟩).elim 0 intOf)).toNat)
      case atStart =>
        refine ⟨0, x + 10 * r, z, A2, c2, rfl, by omega, by omega, hl2, R1.out.sl, fun b o hb hp => ?_, ?_, XN.out⟩
        · rcases R1.out.form with ⟨h1, h2, _⟩ | ⟨g', h1, h2, _⟩
          · omega
          · rw [h1] at hb
            injection hb with hb
            injection hb with hb
            omega
        · have := ON.out
          rw [← List.replicate_append_replicate, List.append_assoc] at this
          exact this
      case round =>
        clear R1 ON XN O2 X2 hl2
        obtain ⟨t, rr, l2, R2, d2, rfl, ht, ht10, hl2, hsr, hne, ho, hx⟩ := hrel
        have HE := hid hx
        have HO := hid ho
        have HR := hid hsr
        have HNE := hid hne
        have HT := hid ht
        clear hx ho hsr hne ht
        have gc := HO.out.cell (i := i) (by omega)
        have gf := HO.out.frozen i
        rw [List.getElem?_append_right (by simp), List.length_replicate, Nat.sub_self] at gc
        have gc : wr.cell? ⟨g, i, none⟩ = some (.int .i64 (t : Int)) := gc
        have cc := hid (rcmp_any HR.out (H'.out.ext HE.out) (by omega) (by omega))
        by_cases hge : q ≤ rr
        · have hv0 : 0 ≤ cmpN rr q := by unfold cmpN; rw [if_neg (by omega)]; split <;> omega
          generalize cmpN rr q = v at cc hv0
          have hd := div_dig hr b1 HT.out hge
          go_wp2_with fail
          refine cc.out.mono ?_
          rintro E w4 ⟨rfl, x4⟩
          have sc := hid (rsub_any (HR.out.ext x4) (H'.out.ext (HE.out.trans x4)) (by omega) (by omega) hge)
          have X4 := hid x4
          clear x4 cc
          go_wp2_with fail
          refine sc.out.mono ?_
          rintro E w5 ⟨A5, c5, rfl, o5, x5⟩
          have X5 := hid (X4.out.trans x5)
          have O5 := hid o5
          have gg := HO.out.lo_le.2
          have s4 := X4.out.size
          have OO := hid (HO.out.ext X5.out)
          have gc5 := (Below.cell X5.out (p := ⟨g, i, none⟩) gg).trans gc
          have gf5 := OO.out.frozen i
          have hl5 : (nd 10 (rr - q)).length ≤ n' + 1 := by
            have h1 := nd_len_mono (b := 10) (by omega) (Nat.sub_le rr q)
            have h2 := HR.out.len
            omega
          clear o5 x5 sc gc gf
          have hov : ((t : Int) + 1) = ((t + 1 : Nat) : Int) := by omega
          generalize hz2 : nd 10 (rr - q) = Z2 at *
          have HZ2 := hid hz2
          clear hz2
          generalize hz3 : Z2.length = z2 at *
          have HZ3 := hid hz3
          clear hz3 hov
          go_wp2_with fail
          have ht1 : rr - q + (t + 1) * q = x + 10 * r := by
            have := HT.out
            rw [Nat.add_mul, Nat.one_mul]
            omega
          have hset := OO.out.set i (t + 1)
          rw [List.set_append_right _ _ (by simp), List.length_replicate, Nat.sub_self, List.set_cons_zero] at hset
          have hcell2 : (w5.setCell ⟨g, i, none⟩ (.int .i64 ((t : Int) + 1))).cell? ⟨g, i, none⟩ = some (.int .i64 ((t + 1 : Nat) : Int)) := by
            have := hset.cell (i := i) (by omega)
            rw [List.getElem?_append_right (by simp), List.length_replicate, Nat.sub_self] at this
            exact this
          refine ⟨⟨t + 1, rr - q, z2, A5, c5, rfl, ht1, hd, hl5, ?_, fun b o hb hp => ?_, hset, (HE.out.trans X5.out).setCell hg1 _⟩, ?_⟩
          · rw [HZ2.out]
            refine (O5.out.far (p := ⟨g, i, none⟩) (fun g' e => ?_) _).sl
            subst e
            have := O5.out.lo_le.1
            show g' ≠ g
            omega
          · rcases O5.out.form with ⟨h1, h2, _⟩ | ⟨g', h1, h2, _⟩
            · omega
            · rw [h1] at hb
              injection hb with hb
              injection hb with hb
              omega
          · rw [hcell2]
            have gcw : wr.cell? ⟨g, i, none⟩ = some (.int .i64 (t : Int)) := by rw [← gc5]; exact (Below.cell X5.out (p := ⟨g, i, none⟩) gg).symm
            rw [gcw]
            simp [intOf]
            omega
        · have hlt : rr < q := by omega
          rw [cmpN_lt hlt] at cc
          have hrow := div_row HXI.out HXD.out HI.out HT.out
          have HRW := hid hrow
          have hl3 := HQ.out rr hlt
          have hl4 : l2 ≤ n' := by rw [← HR.out.len]; exact hl3
          clear hrow hl3
          go_wp2_with fail
          refine cc.out.mono ?_
          rintro E w4 ⟨rfl, x4⟩
          have X4 := hid x4
          clear x4 cc gc gf
          go_wp2_with fail
          go_roundw
          case rel => exact ⟨i, rr, l2, R2, d2, t :: qs, by omega, rfl, rfl, hlt, hl4, by rw [List.length_cons, HQL.out]; omega, fun y hy => by
            rcases List.mem_cons.1 hy with rfl | hy
            · exact ht10
            · exact HL.out y hy, HRW.out, HR.out.ext X4.out, HNE.out, HO.out.ext X4.out, HE.out.trans X4.out⟩
          case measure => simp [intOf]
end Go.Proofs.YtikkibpjchmajaaGreat

namespace Go.Proofs.YtikkibpjchmajaaGreat
open Go

/-- Above its value's size a list of digits is noughts. -/
theorem high_zero {b j : Nat} {O : List Nat} (hb : 1 ≤ b) (h : Lim b O) (hv : nv b O < b ^ j) : O[j]?.getD 0 = 0 := by
  have e := nv_div_pow hb h j
  rw [Nat.div_eq_of_lt hv] at e
  cases hd : O.drop j with
  | nil =>
    have h1 := List.drop_eq_nil_iff.1 hd
    rw [List.getElem?_eq_none h1]; rfl
  | cons x t =>
    have h1 := List.getElem?_drop (xs := O) (i := j) (j := 0)
    rw [hd] at h1 e
    simp only [List.getElem?_cons_zero, Nat.add_zero] at h1
    rw [← h1]
    simp only [nv] at e
    simp only [Option.getD_some]
    omega

/-- The rows so far have a product of so many digits. -/
theorem rows_lt {b i n' : Nat} {xs ys : List Nat} (hb : 2 ≤ b) (hys : ys.length = n') (hlx : Lim b xs) (hly : Lim b ys) (hi : i ≤ xs.length) : nv b (xs.take i) * nv b ys < b ^ (i + n') := by
  have l1 := nv_lt (b := b) (by omega) (lim_take hlx i)
  have l2 := nv_lt (b := b) (by omega) hly
  rw [List.length_take, Nat.min_eq_left hi] at l1
  rw [hys] at l2
  rw [Nat.pow_add]
  exact Nat.mul_lt_mul_of_lt_of_le l1 (Nat.le_of_lt l2) (Nat.pow_pos (by omega))

theorem rows_zero {b i n' : Nat} {O xs ys : List Nat} (hb : 2 ≤ b) (hys : ys.length = n') (hlx : Lim b xs) (hly : Lim b ys) (hi : i ≤ xs.length) (hO : Lim b O) (hinv : nv b O = nv b (xs.take i) * nv b ys) : O[i + n']?.getD 0 = 0 :=
  high_zero (by omega) hO (by rw [hinv]; exact rows_lt hb hys hlx hly hi)

/-- A row's end: its carry is stored. -/
theorem rows_end {b i k n' cy x P : Nat} {O xs ys : List Nat} (hk : i + k < O.length) (hys : ys.length = n') (hkn : k = n') (hx : xs[i]?.getD 0 = x) (hP : P = nv b (xs.take i) * nv b ys) (h0 : O[i + k]?.getD 0 = 0)
    (hinv : nv b O + b ^ (i + k) * cy = P + x * b ^ i * nv b (ys.take k)) : nv b (O.set (i + k) cy) = nv b (xs.take (i + 1)) * nv b ys := by
  have h1 := nv_set (b := b) (d := cy) hk
  rw [h0, Nat.mul_zero, Nat.add_zero] at h1
  rw [h1, hinv, List.take_of_length_le (by omega), nv_take_succ, hx, Nat.add_mul, ← hP, Nat.mul_comm (b ^ i) x]

theorem le_sq {x y : Nat} (hx : x < 4294967296) (hy : y < 4294967296) : x * y ≤ 18446744065119617025 :=
  Nat.mul_le_mul (show x ≤ 4294967295 by omega) (show y ≤ 4294967295 by omega)
theorem rows_cast (cy o x y : Nat) : ((cy : Int) + (x * y + o)) % 4294967296 = (((cy + o + x * y) % 4294967296 : Nat) : Int) ∧ ((cy : Int) + (x * y + o)) / 4294967296 = (((cy + o + x * y) / 4294967296 : Nat) : Int) := by
  rw [← Int.natCast_mul]; omega
theorem rows_carry {cy o x y : Nat} (hx : x < 4294967296) (hy : y < 4294967296) (hc : cy < 4294967296) (ho : o < 4294967296) : (cy + o + x * y) / 4294967296 < 4294967296 := by
  have := le_sq hx hy
  omega
end Go.Proofs.YtikkibpjchmajaaGreat

