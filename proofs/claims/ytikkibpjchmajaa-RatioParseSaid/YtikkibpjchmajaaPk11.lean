/-
  The contract of times.Rows: a slice that holds the product's canonical limbs, for any limbs.
  The contracts of times.cut and times.into.
  The contracts of times.karatsuba and (times.cutter).times.
  The contract of divide.Limb.
-/
import Derived.Test.YtikkibpjchmajaaPk8
import Derived.Test.YtikkibpjchmajaaPk10
import Derived.Test.YtikkibpjchmajaaPk5
namespace Go.Proofs.Ytikkibpjchmajaa
open Go.RowKit
open Go.Lib (hid)

set_option maxHeartbeats 3200000 in
theorem rows_any {w : World} {A B : Option Addr} {n c n' c' : Nat} {X Y : List Nat} (h : Sl .u32 w A n c X) (hl : Lim 4294967296 X) (h' : Sl .u32 w B n' c' Y) (hl' : Lim 4294967296 Y) (hn : n ≤ 1073741824) (hn' : n' ≤ 1073741824) :
    Calls Try.prog 94 #[.slice A n c, .slice B n' c'] w (RetO .u32 100 (nd 4294967296 (nv 4294967296 X * nv 4294967296 Y)) w) := by
  have k1 := hid hl
  have k2 := hid hl'
  have H := hid h
  have H' := hid h'
  clear h h' hl hl'
  go_enter Try.func94, Try.ntmps94
  go_wp2_with (at_make; refine wpl_make (w0 := w) (Ext.refl _) rfl (.tmp 15) (.tmp 15) _ rfl 100 .u32 4 Try.underlying22 info_u32 _ (n + n') rfl rfl (by omega) (by omega) (by simp only [maxLen]; omega) ?_; intro g w1 hg1 ho1 hx1)
  have O1 := hid ho1
  have X1 := hid hx1
  clear ho1 hx1
  go_loopw [19] (fun si wr => ∃ (i : Nat) (O : List Nat), i ≤ n ∧ si = .int .i64 i ∧ Lim 4294967296 O ∧ nv 4294967296 O = nv 4294967296 (X.take i) * nv 4294967296 Y ∧ Own .u32 100 wr w.heap.size (some ⟨g, 0, none⟩) (n + n') (n + n') O ∧ Ext w wr) (fun si _ => n - (intOf si).toNat)
  case atStart => exact ⟨0, _, Nat.zero_le _, rfl, fun y hy => by have := (List.mem_replicate.1 hy).2; omega, by rw [nv_zeros]; simp [nv], O1.out, X1.out⟩
  case round =>
    clear O1 X1
    obtain ⟨i, O, hi, rfl, hO, hinv, ho, hx⟩ := hrel
    have HE := hid hx
    have HI := hid hinv
    have HO := hid ho
    have HL := hid hO
    clear hx hinv ho hO
    by_cases hlt : i < n
    · obtain ⟨P, hP⟩ : ∃ P, P = nv 4294967296 (X.take i) * nv 4294967296 Y := ⟨_, rfl⟩
      have HP := hid hP
      have hxi : i < X.length := by rw [H.out.len]; exact hlt
      have HXI := hid hxi
      have bx := lim_getD (b := 4294967296) (by omega) k1.out i
      obtain ⟨x, hxd⟩ : ∃ x, X[i]?.getD 0 = x := ⟨_, rfl⟩
      have HXD := hid hxd
      rw [hxd] at bx
      have HZ := hid (rows_zero (b := 4294967296) (by omega) H'.out.len k1.out k2.out (by omega) HL.out HI.out)
      obtain ⟨ba, oa, rfl, gx⟩ := (H.out.ext HE.out).get hlt
      rw [hxd] at gx
      clear hP hxi hxd
      go_wp2_with fail
      clear gx
      obtain ⟨wo, rfl⟩ : ∃ wo : World, wo = wr := ⟨_, rfl⟩
      go_loopw [8, 26] (fun sc sk wr => ∃ (k cy : Nat) (O : List Nat), k ≤ n' ∧ sc = .int .u64 cy ∧ sk = .int .i64 k ∧ cy < 4294967296 ∧ Lim 4294967296 O ∧ nv 4294967296 O + 4294967296 ^ (i + k) * cy = P + x * 4294967296 ^ i * nv 4294967296 (Y.take k) ∧ O[i + n']?.getD 0 = 0 ∧
        Own .u32 100 wr w.heap.size (some ⟨g, 0, none⟩) (n + n') (n + n') O ∧ Ext w wr) (fun _ sk _ => n' - (intOf sk).toNat)
      case atStart => exact ⟨0, 0, O, by omega, rfl, rfl, by omega, HL.out, by rw [HI.out, HP.out]; simp [nv], HZ.out, HO.out, HE.out⟩
      case round =>
        clear HI HO HL HE HZ
        obtain ⟨k, cy, R, hk, rfl, rfl, hcy, hR, hinv, hz, ho, hx⟩ := hrel
        have HE := hid hx
        have HI := hid hinv
        have HO := hid ho
        have HL := hid hR
        have HZ := hid hz
        clear hx hinv ho hR hz
        by_cases hkl : k < n'
        · have hik : i + k < n + n' := by omega
          obtain ⟨bb, ob, rfl, gy⟩ := (H'.out.ext HE.out).get hkl
          have gz := HO.out.cell (i := i + k) hik
          have gf := HO.out.frozen (i + k)
          have by' := lim_getD (b := 4294967296) (by omega) k2.out k
          have bz := lim_getD (b := 4294967296) (by omega) HL.out (i + k)
          have HST := hid (fun t ht => mul_step (b := 4294967296) (t := t) (by rw [HO.out.len]; exact hik) HI.out rfl ht)
          have HNX := hid (fun d : Nat => (show (R.set (i + k) d)[i + n']?.getD 0 = 0 from by rw [List.getElem?_set_ne (by omega)]; exact HZ.out))
          generalize Y[k]?.getD 0 = y at *
          generalize R[i + k]?.getD 0 = o at *
          have hxy := le_sq bx by'
          have HC := hid (rows_cast cy o x y)
          have HK := hid (rows_carry bx by' hcy bz)
          go_wp2_with (go_quiet (fail))
          rw [HC.out.1, HC.out.2]
          exact ⟨⟨k + 1, (cy + o + x * y) / 4294967296, _, by omega, rfl, by go_num, HK.out, lim_set HL.out (Nat.mod_lt _ (by omega)), HST.out _ rfl, HNX.out _, HO.out.set _ _, HE.out.setCell hg1 _⟩, by simp [intOf]; omega⟩
        · have hkn : k = n' := by omega
          have HKN := hid hkn
          have HV := hid (rows_end (b := 4294967296) (i := i) (k := k) (n' := n') (by rw [HO.out.len]; omega) H'.out.len hkn HXD.out HP.out (by rw [hkn]; exact HZ.out) HI.out)
          have gf := HO.out.frozen (i + n')
          have gz := HO.out.cell (i := i + n') (by omega)
          rw [HZ.out] at gz
          rw [hkn] at HV
          clear hkn
          go_wp2_with (go_quiet (fail))
          exact ⟨⟨i + 1, _, by omega, by go_num, lim_set HL.out hcy, HV.out, HO.out.set _ _, HE.out.setCell hg1 _⟩, by simp [intOf]; omega⟩
    · obtain rfl : i = n := by omega
      have hv : nv 4294967296 O = nv 4294967296 X * nv 4294967296 Y := by have := HI.out; rwa [List.take_of_length_le (by rw [H.out.len]; omega)] at this
      have hs := hid (trim_any HO.out.sl HL.out (by omega))
      rw [hv] at hs
      have HEE := hid HE.out
      clear hv
      go_wp2_with (go_at_call 58; refine hs.out.mono ?_; rintro e w' ⟨A2, c2, rfl, o2, x2⟩)
      go_ret
      exact ⟨_, _, rfl, o2.mono HE.out.size, HE.out.trans x2⟩
end Go.Proofs.Ytikkibpjchmajaa

namespace Go.Proofs.Ytikkibpjchmajaa
open Go.RowKit
open Go.Lib (hid)

def RetCut (A : Option Addr) (k n c : Nat) (zs : List Nat) (w : World) : Ending → World → Prop := fun E w' =>
  ∃ A2 n2 c2, E = .returned (.tuple #[.slice A k c, .slice A2 n2 c2]) ∧ n2 = n - k ∧ Sl .u32 w' A2 n2 c2 zs ∧ Ext w w'

theorem cut_any {w : World} {A : Option Addr} {n c k : Nat} {K : Int} {xs : List Nat} (hK : K = k) (h : Sl .u32 w A n c xs) (hk : k ≤ 1099511627776) (hn : n ≤ 1099511627776) :
    Calls Try.prog 104 #[.slice A n c, .int .i64 K] w (RetCut A (min k n) n c (xs.drop (min k n)) w) := by
  subst hK
  have hd := h.drop (j := min k n) (by omega)
  have hcap := h.cap
  by_cases hkn : k ≤ n
  · rw [Nat.min_eq_left hkn] at *
    by_cases hcK : c = k
    · rw [if_pos hcK] at hd
      subst hcK
      have HD := hid hd
      clear hd h
      go_enter Try.func104, Try.ntmps104
      go_wp2_with (go_quiet (fail))
      go_ret2
      have e : (min (c : Int) n).toNat = c := by omega
      simp only [e]
      exact ⟨_, _, _, rfl, rfl, HD.out.drewN _, (Ext.refl _).drewN _⟩
    · rw [if_neg hcK] at hd
      have HD := hid hd
      clear hd h
      go_enter Try.func104, Try.ntmps104
      go_wp2_with (go_quiet (fail))
      go_ret2
      have e : (min (k : Int) n).toNat = k := by omega
      simp only [e]
      exact ⟨_, _, _, rfl, rfl, HD.out.drewN _, (Ext.refl _).drewN _⟩
  · rw [Nat.min_eq_right (by omega)] at *
    by_cases hcK : c = n
    · rw [if_pos hcK] at hd
      subst hcK
      have HD := hid hd
      clear hd h
      go_enter Try.func104, Try.ntmps104
      go_wp2_with (go_quiet (fail))
      go_ret2
      have e : (min (k : Int) c).toNat = c := by omega
      simp only [e]
      exact ⟨_, _, _, rfl, rfl, HD.out.drewN _, (Ext.refl _).drewN _⟩
    · rw [if_neg hcK] at hd
      have HD := hid hd
      clear hd h
      go_enter Try.func104, Try.ntmps104
      go_wp2_with (go_quiet (fail))
      go_ret2
      have e : (min (k : Int) n).toNat = n := by omega
      simp only [e]
      exact ⟨_, _, _, rfl, rfl, HD.out.drewN _, (Ext.refl _).drewN _⟩

theorem into_end {b at_ j m cy : Nat} {R R' Y : List Nat} (hb : 2 ≤ b) (hY : Lim b Y) (hm : at_ + j ≤ m) (hroom : nv b R + b ^ at_ * nv b Y < b ^ m) (hend : at_ + j = m ∨ Y.length ≤ j ∧ cy = 0)
    (hinv : nv b R' + b ^ (at_ + j) * cy = nv b R + 1 * b ^ at_ * nv b (Y.take j)) : nv b R' = nv b R + b ^ at_ * nv b Y := by
  rw [Nat.one_mul] at hinv
  have hsplit : nv b Y = nv b (Y.take j) + b ^ j * nv b (Y.drop j) := by
    conv => lhs; rw [← List.take_append_drop j Y, nv_append, List.length_take]
    rcases Nat.le_total j Y.length with h | h
    · rw [Nat.min_eq_left h]
    · rw [List.drop_eq_nil_of_le h]; simp [nv]
  rcases hend with h | ⟨h, rfl⟩
  · subst h
    have e : b ^ at_ * nv b Y = b ^ at_ * nv b (Y.take j) + b ^ (at_ + j) * nv b (Y.drop j) := by rw [hsplit, Nat.mul_add, Nat.pow_add, Nat.mul_assoc]
    have hd0 : nv b (Y.drop j) = 0 := by
      rcases Nat.eq_zero_or_pos (nv b (Y.drop j)) with h0 | h0
      · exact h0
      · have := Nat.mul_le_mul_left (b ^ (at_ + j)) h0
        omega
    have hc0 : cy = 0 := by
      rcases Nat.eq_zero_or_pos cy with h0 | h0
      · exact h0
      · have := Nat.mul_le_mul_left (b ^ (at_ + j)) h0
        omega
    rw [hd0] at e
    rw [hc0] at hinv
    omega
  · rw [List.take_of_length_le h] at hinv
    simpa using hinv

def RetInto (w0 : World) (g m v : Nat) : Ending → World → Prop := fun E w' =>
  ∃ R, E = .returned (.tuple #[]) ∧ Lim 4294967296 R ∧ nv 4294967296 R = v ∧ Own .u32 100 w' w0.heap.size (some ⟨g, 0, none⟩) m m R ∧ Ext w0 w'

theorem add_cast32 (cy o y : Nat) : ((cy : Int) + o + y) % 4294967296 = (((cy + o + 1 * y) % 4294967296 : Nat) : Int) ∧ ((cy : Int) + o + y) / 4294967296 = (((cy + o + 1 * y) / 4294967296 : Nat) : Int) := by omega
theorem add_cast32' (cy o : Nat) : ((cy : Int) + o) % 4294967296 = (((cy + o + 1 * 0) % 4294967296 : Nat) : Int) ∧ ((cy : Int) + o) / 4294967296 = (((cy + o + 1 * 0) / 4294967296 : Nat) : Int) := by omega

set_option maxHeartbeats 1600000 in
theorem into_any {w0 w : World} {A : Option Addr} {g m n' c' p : Nat} {T : Int} {R Y : List Nat} (hT : T = p) (hp : p ≤ m) (hx : Ext w0 w) (ho : Own .u32 100 w w0.heap.size (some ⟨g, 0, none⟩) m m R) (hl : Lim 4294967296 R)
    (h : Sl .u32 w0 A n' c' Y) (hY : Lim 4294967296 Y) (hm : m ≤ 1099511627776) (hn' : n' ≤ 1099511627776) (hroom : nv 4294967296 R + 4294967296 ^ p * nv 4294967296 Y < 4294967296 ^ m) :
    Calls Try.prog 105 #[.slice (some ⟨g, 0, none⟩) m m, .slice A n' c', .int .i64 T] w (RetInto w0 g m (nv 4294967296 R + 4294967296 ^ p * nv 4294967296 Y)) := by
  subst hT
  have hg1 : w0.heap.size ≤ g := (Own.lo_le ho).1
  have k2 := hid hY
  have H := hid h
  have O1 := hid ho
  have L1 := hid hl
  have X1 := hid hx
  have HRM := hid hroom
  clear h hY ho hl hx hroom
  go_enter Try.func105, Try.ntmps105
  go_wp2_with fail
  go_loopw [6, 7] (fun sc si wr => ∃ (j cy : Nat) (O : List Nat), p + j ≤ m ∧ sc = .int .u64 cy ∧ si = .int .i64 ((p : Int) + j) ∧ cy ≤ 1 ∧ Lim 4294967296 O ∧ nv 4294967296 O + 4294967296 ^ (p + j) * cy = nv 4294967296 R + 1 * 4294967296 ^ p * nv 4294967296 (Y.take j) ∧
      Own .u32 100 wr w0.heap.size (some ⟨g, 0, none⟩) m m O ∧ Ext w0 wr) (fun _ si _ => m - (intOf si).toNat)
  case atStart => exact ⟨0, 0, R, by omega, rfl, by go_num, by omega, L1.out, by simp [nv], O1.out, X1.out⟩
  case round =>
    clear O1 X1
    obtain ⟨j, cy, O, hj, rfl, rfl, hcy, hO, hinv, ho, hx⟩ := hrel
    have HE := hid hx
    have HI := hid hinv
    have HO := hid ho
    have HL := hid hO
    clear hx hinv ho hO
    by_cases hlt : p + j < m
    · have gz := HO.out.cell (i := p + j) hlt
      have gf := HO.out.frozen (p + j)
      have bz := lim_getD (b := 4294967296) (by omega) HL.out (p + j)
      by_cases hjn : j < n'
      · obtain ⟨bb, ob, rfl, gy⟩ := (H.out.ext HE.out).get hjn
        have by' := lim_getD (b := 4294967296) (by omega) k2.out j
        have HST := hid (fun t ht => mul_step (b := 4294967296) (x := 1) (t := t) (by rw [HO.out.len]; exact hlt) HI.out rfl ht)
        generalize Y[j]?.getD 0 = y at *
        generalize O[p + j]?.getD 0 = o at *
        have HC := hid (add_cast32 cy o y)
        go_wp2_with (go_quiet (fail))
        rw [HC.out.1, HC.out.2]
        exact ⟨⟨j + 1, (cy + o + 1 * y) / 4294967296, _, by omega, rfl, by go_num, by omega, lim_set HL.out (Nat.mod_lt _ (by omega)), HST.out _ rfl, HO.out.set _ _, HE.out.setCell hg1 _⟩, by simp [intOf]; omega⟩
      · by_cases hc0 : 0 < cy
        · have hy0 : Y[j]?.getD 0 = 0 := by rw [List.getElem?_eq_none (by rw [H.out.len]; omega)]; rfl
          have HST := hid (fun t ht => mul_step (b := 4294967296) (x := 1) (y := 0) (t := t) (by rw [HO.out.len]; exact hlt) HI.out hy0 ht)
          clear hy0
          generalize O[p + j]?.getD 0 = o at *
          have HC := hid (add_cast32' cy o)
          go_wp2_with (go_quiet (fail))
          rw [HC.out.1, HC.out.2]
          exact ⟨⟨j + 1, (cy + o + 1 * 0) / 4294967296, _, by omega, rfl, by go_num, by omega, lim_set HL.out (Nat.mod_lt _ (by omega)), HST.out _ rfl, HO.out.set _ _, HE.out.setCell hg1 _⟩, by simp [intOf]; omega⟩
        · have HV := hid (into_end (b := 4294967296) (by omega) k2.out hj HRM.out (.inr ⟨by rw [H.out.len]; omega, by omega⟩) HI.out)
          go_wp2_with (go_quiet (fail))
          go_end0
          exact ⟨_, rfl, HL.out, HV.out, HO.out, HE.out⟩
    · have HV := hid (into_end (b := 4294967296) (by omega) k2.out hj HRM.out (.inl (by omega)) HI.out)
      go_wp2_with (go_quiet (fail))
      go_end0
      exact ⟨_, rfl, HL.out, HV.out, HO.out, HE.out⟩
end Go.Proofs.Ytikkibpjchmajaa

namespace Go.Proofs.Ytikkibpjchmajaa
open Go.RowKit
open Go.Lib (hid)

theorem split_val {b : Nat} (xs : List Nat) (k : Nat) : nv b xs = nv b (xs.take (min k xs.length)) + b ^ k * nv b (xs.drop (min k xs.length)) := by
  rcases Nat.le_total k xs.length with h | h
  · rw [Nat.min_eq_left h]
    conv => lhs; rw [← List.take_append_drop k xs, nv_append, List.length_take, Nat.min_eq_left h]
  · rw [Nat.min_eq_right h, List.drop_length, List.take_length]; simp [nv]

theorem kara_val (B p0 p1 q0 q1 : Nat) : p0 * q0 + B * ((p0 + p1) * (q0 + q1) - p0 * q0 - p1 * q1) + B * B * (p1 * q1) = (p0 + B * p1) * (q0 + B * q1) ∧ p0 * q0 ≤ (p0 + p1) * (q0 + q1) ∧ p1 * q1 ≤ (p0 + p1) * (q0 + q1) - p0 * q0 := by
  have e : (p0 + p1) * (q0 + q1) = p0 * q0 + p1 * q1 + (p0 * q1 + p1 * q0) := by
    simp only [Nat.add_mul, Nat.mul_add]; omega
  have e2 : (p0 + p1) * (q0 + q1) - p0 * q0 - p1 * q1 = p0 * q1 + p1 * q0 := by omega
  refine ⟨?_, by omega, by omega⟩
  rw [e2]
  simp only [Nat.add_mul, Nat.mul_add]
  have h1 : B * (p1 * q0) = B * p1 * q0 := by rw [Nat.mul_assoc]
  have h2 : B * (p0 * q1) = p0 * (B * q1) := by rw [Nat.mul_left_comm]
  have h3 : B * B * (p1 * q1) = B * p1 * (B * q1) := by simp only [Nat.mul_assoc, Nat.mul_left_comm]
  omega

theorem mid_less {b k a0 a1 : Nat} (hb : 2 ≤ b) (hk : 0 < k) : a0 + a1 ≤ a0 + b ^ k * a1 ∧ (0 < a1 → a0 + a1 < a0 + b ^ k * a1) := by
  have h2 : 2 ≤ b ^ k := Nat.le_trans hb (by have := Nat.pow_le_pow_right (n := b) (by omega) hk; simpa using this)
  have h3 := Nat.mul_le_mul_right a1 h2
  omega

/-- What is asked of the products of smaller numbers. -/
def Rec (C : Int) (M V : Nat) : Prop := ∀ (L : Nat) (w : World) (A : Option Addr) (l c : Nat) (B : Option Addr) (l' c' p q : Nat), Nv L w A l c p → Nv L w B l' c' q → (L < M ∨ L ≤ M ∧ p + q < V) →
  Calls Try.prog 95 #[.int .i64 C, .slice A l c, .slice B l' c'] w (RetO .u32 100 (nd 4294967296 (p * q)) w)

theorem bd_mul {b m n K K' : Nat} (hb : 2 ≤ b) (h : m < b ^ K) (h' : n < b ^ K') : m * n < b ^ (K + K') := by
  rw [Nat.pow_add]
  exact Nat.mul_lt_mul_of_lt_of_le h (Nat.le_of_lt h') (Nat.pow_pos (by omega))
theorem Cn.lt {K L : Nat} {w : World} {lo : Nat} {A : Option Addr} {n c m : Nat} (h : Cn K w lo A n c m) (hb : m < 4294967296 ^ L) : Nv L w A n c m :=
  ⟨_, h.1.sl, nd_lim (by omega) m, nv_nd (by omega) m, by rw [h.len]; exact (nd_len_le (by omega)).2 hb⟩
theorem into_v {w0 w : World} {A : Option Addr} {g m n' c' p K v : Nat} {T : Int} {R : List Nat} (hT : T = p) (hp : p ≤ m) (hx : Ext w0 w) (ho : Own .u32 100 w w0.heap.size (some ⟨g, 0, none⟩) m m R) (hl : Lim 4294967296 R)
    (h : Nv K w0 A n' c' v) (hK : K ≤ 1099511627776) (hm : m ≤ 1099511627776) (hroom : nv 4294967296 R + 4294967296 ^ p * v < 4294967296 ^ m) :
    Calls Try.prog 105 #[.slice (some ⟨g, 0, none⟩) m m, .slice A n' c', .int .i64 T] w (RetInto w0 g m (nv 4294967296 R + 4294967296 ^ p * v)) := by
  obtain ⟨Y, h1, h2, rfl, h3⟩ := h
  exact into_any hT hp hx ho hl h1 h2 hm (by omega) hroom

/-- The product of the sums is a smaller product. -/
theorem Rec.mid {C : Int} {M p q : Nat} (IH : Rec C M (p + q)) {k p0 p1 q0 q1 : Nat} (hk : k < M) (hk0 : 0 < k) (hp : p = p0 + 4294967296 ^ k * p1) (hq : q = q0 + 4294967296 ^ k * q1) (bp : p0 < 4294967296 ^ k) (bq : q0 < 4294967296 ^ k) (bP : p < 4294967296 ^ M) (bQ : q < 4294967296 ^ M)
    {K K' : Nat} {w : World} {lo lo' : Nat} {A B : Option Addr} {l c l' c' : Nat} (h : Cn K w lo A l c (p0 + p1)) (h' : Cn K' w lo' B l' c' (q0 + q1)) :
    Calls Try.prog 95 #[.int .i64 C, .slice A l c, .slice B l' c'] w (RetC (M + M) ((p0 + p1) * (q0 + q1)) w) := by
  have m1 := mid_less (b := 4294967296) (a0 := p0) (a1 := p1) (by omega) hk0
  have m2 := mid_less (b := 4294967296) (a0 := q0) (a1 := q1) (by omega) hk0
  rw [← hp] at m1
  rw [← hq] at m2
  have hb : (p0 + p1) * (q0 + q1) < 4294967296 ^ (M + M) := bd_mul (by omega) (by omega) (by omega)
  by_cases hz : p1 + q1 = 0
  · have z1 : p1 = 0 := by omega
    have z2 : q1 = 0 := by omega
    exact (IH k w A l c B l' c' _ _ (h.lt (by omega)) (h'.lt (by omega)) (.inl hk)).mono fun _ _ hr => hr.c hb
  · exact (IH M w A l c B l' c' _ _ (h.lt (by omega)) (h'.lt (by omega)) (.inr ⟨Nat.le_refl _, by omega⟩)).mono fun _ _ hr => hr.c hb

set_option maxHeartbeats 3200000 in
theorem kara_any {w : World} {A B : Option Addr} {n c n' c' p q M : Nat} {C : Int} (hM : max n n' = M) (h : Nv n w A n c p) (h' : Nv n' w B n' c' q) (h2 : 2 ≤ n) (h2' : 2 ≤ n') (hn : n ≤ 1073741824) (hn' : n' ≤ 1073741824) (IH : Rec C M (p + q)) :
    Calls Try.prog 101 #[.slice A n c, .slice B n' c', .func (.func 95) #[.int .i64 C] #[]] w (RetO .u32 100 (nd 4294967296 (p * q)) w) := by
  obtain ⟨k, hk⟩ : ∃ k, k = (M + 1) / 2 := ⟨_, rfl⟩
  have hk1 : 0 < k ∧ k < M ∧ M ≤ 2 * k := by omega
  have hkl : k + k ≤ n + n' + 2 ∧ n - min k n ≤ k ∧ n' - min k n' ≤ k ∧ k ≤ 1073741824 ∧ M ≤ 1073741824 := by omega
  have HK := hid hk
  have bP := hid (Nat.lt_of_lt_of_le h.bound (Nat.pow_le_pow_right (n := 4294967296) (by omega) (show n ≤ M by omega)))
  have bQ := hid (Nat.lt_of_lt_of_le h'.bound (Nat.pow_le_pow_right (n := 4294967296) (by omega) (show n' ≤ M by omega)))
  have bPQ := hid (Nat.lt_of_lt_of_le (bd_mul (by omega) h.bound h'.bound) (Nat.pow_le_pow_right (n := 4294967296) (by omega) (show n + n' ≤ n + n' + 2 by omega)))
  obtain ⟨xs, s1, l1, e1, _⟩ := h
  obtain ⟨ys, s2, l2, e2, _⟩ := h'
  have v1 := split_val (b := 4294967296) xs k
  have v2 := split_val (b := 4294967296) ys k
  rw [s1.len, e1] at v1
  rw [s2.len, e2] at v2
  have Z1 := hid (Nv.mk (K := k) (s1.take (m := min k n) (by omega)) (lim_take l1 _) (by omega))
  have W1 := hid (Nv.mk (K := k) (s2.take (m := min k n') (by omega)) (lim_take l2 _) (by omega))
  obtain ⟨T, hT⟩ : ∃ T : Int, ((max (n : Int) n') + 1) / 2 = T := ⟨_, rfl⟩
  have hTk : T = k := by omega
  have HTK := hid hTk
  have c1 := hid (cut_any (k := k) (K := T) hTk s1 (by omega) (by omega))
  have c2 := hid (fun (w1 : World) (x1 : Ext w w1) => cut_any (w := w1) (k := k) (K := T) hTk (s2.ext x1) (by omega) (by omega))
  have d1 : Lim 4294967296 (xs.drop (min k n)) := fun y hy => l1 y (List.mem_of_mem_drop hy)
  have d2 : Lim 4294967296 (ys.drop (min k n')) := fun y hy => l2 y (List.mem_of_mem_drop hy)
  have D1 := hid d1
  have D2 := hid d2
  have hk2 : k ≤ n + n' + 2 := by omega
  clear s1 s2 l1 l2 e1 e2 hk d1 d2
  generalize xs.drop (min k n) = xd at *
  generalize ys.drop (min k n') = yd at *
  generalize nv 4294967296 (xs.take (min k n)) = p0 at *
  generalize nv 4294967296 (ys.take (min k n')) = q0 at *
  have V1 := hid v1
  have V2 := hid v2
  clear v1 v2
  generalize min k n = m1 at *
  generalize min k n' = m2 at *
  have HT := hid hT
  have hTb : 0 ≤ T ∧ T ≤ 1073741824 := by omega
  clear hT hTk
  have HR := hid IH
  clear IH
  have hMM := hid hM
  clear hM
  go_enter Try.func101, Try.ntmps101
  go_wp2_with fail
  rw [HT.out]
  refine c1.out.mono ?_
  rintro E w1 ⟨A1, n1, d1, rfl, hn1, t1, x1⟩
  have Z2 := hid (Nv.mk (K := k) t1 D1.out (by omega))
  have X1 := hid x1
  have c2 := hid (c2.out _ x1)
  clear t1 x1 hn1
  go_wp2_with fail
  refine c2.out.mono ?_
  rintro E w2 ⟨B1, n2, d2, rfl, hn2, t2, x2⟩
  have W2 := hid (Nv.mk (K := k) t2 D2.out (by omega))
  have Z2 := hid (Z2.out.ext x2)
  have X2 := hid (X1.out.trans x2)
  have Z1 := hid (Z1.out.ext X2.out)
  have W1 := hid (W1.out.ext X2.out)
  clear t2 x2 hn2 c1 X1
  generalize nv 4294967296 xd = p1 at *
  generalize nv 4294967296 yd = q1 at *
  have i1 := hid ((HR.out k w2 _ _ _ _ _ _ _ _ Z1.out W1.out (.inl hk1.2.1)).mono fun _ _ hr => hr.c (K := k + k) (bd_mul (by omega) Z1.out.bound W1.out.bound))
  go_wp2_with fail
  refine i1.out.mono ?_
  rintro E w3 ⟨L, nl, cl, rfl, ol, x3⟩
  have O1 := hid ol
  have X3 := hid x3
  have Z2 := hid (Z2.out.ext x3)
  have W2 := hid (W2.out.ext x3)
  clear ol x3 i1 c2
  have i2 := hid ((HR.out k w3 _ _ _ _ _ _ _ _ Z2.out W2.out (.inl hk1.2.1)).mono fun _ _ hr => hr.c (K := k + k) (bd_mul (by omega) Z2.out.bound W2.out.bound))
  go_wp2_with fail
  refine i2.out.mono ?_
  rintro E w4 ⟨H, nh, ch, rfl, oh, x4⟩
  have O2 := hid oh
  have X4 := hid (X3.out.trans x4)
  have O1 := hid (O1.out.ext x4)
  have Z1 := hid (Z1.out.ext X4.out)
  have W1 := hid (W1.out.ext X4.out)
  have Z2 := hid (Z2.out.ext x4)
  have W2 := hid (W2.out.ext x4)
  clear oh x4 i2 X3
  have a1 := hid (add_v Z1.out Z2.out (by omega))
  go_wp2_with fail
  refine a1.out.mono ?_
  rintro E w5 ⟨S1, u1, cs1, rfl, os1, x5⟩
  have OS1 := hid os1
  have X5 := hid x5
  have W1 := hid (W1.out.ext x5)
  have W2 := hid (W2.out.ext x5)
  clear os1 x5 a1
  have a2 := hid (add_v W1.out W2.out (by omega))
  go_wp2_with fail
  refine a2.out.mono ?_
  rintro E w6 ⟨S2, u2, cs2, rfl, os2, x6⟩
  have i3 := hid (HR.out.mid hk1.2.1 hk1.1 V1.out V2.out Z1.out.bound W1.out.bound bP.out bQ.out (OS1.out.ext x6) os2)
  have X6 := hid (X5.out.trans x6)
  clear os2 x6 a2 OS1
  go_wp2_with fail
  refine i3.out.mono ?_
  rintro E w7 ⟨S, u3, cs3, rfl, os3, x7⟩
  have X7 := hid (X6.out.trans x7)
  have KV := hid (kara_val (4294967296 ^ k) p0 p1 q0 q1)
  have O1 := hid (O1.out.ext X7.out)
  have O2 := hid (O2.out.ext X7.out)
  have b1 := hid (sub_yes os3.nv O1.out.nv (by omega) KV.out.2.1)
  clear os3 x7 i3 X6
  go_wp2_with fail
  refine b1.out.mono ?_
  rintro E w8 ⟨S3, u4, cs4, rfl, os4, x8⟩
  have O1 := hid (O1.out.ext x8)
  have O2 := hid (O2.out.ext x8)
  have X8 := hid (X7.out.trans x8)
  have b2 := hid (sub_yes os4.nv O2.out.nv (by omega) KV.out.2.2)
  clear os4 x8 b1 X7
  go_wp2_with fail
  refine b2.out.mono ?_
  rintro E w9 ⟨S4, u5, cs5, rfl, os5, x9⟩
  have O1 := hid (O1.out.ext x9).nv
  have O2 := hid (O2.out.ext x9).nv
  have O3 := hid os5.nv
  have X9 := hid ((X2.out.trans X4.out).trans (X8.out.trans x9))
  clear os5 x9 b2 X8
  generalize (p0 + p1) * (q0 + q1) - p0 * q0 - p1 * q1 = md at *
  have htot : p0 * q0 + 4294967296 ^ k * md + 4294967296 ^ (k + k) * (p1 * q1) = p * q := by rw [Nat.pow_add, KV.out.1, ← V1.out, ← V2.out]
  have HTOT := hid htot
  clear htot KV bP bQ V1 V2 Z1 Z2 W1 W2
  generalize p0 * q0 = v1 at *
  generalize p1 * q1 = v3 at *
  go_wp2_with (at_make; refine wpl_make (w0 := w9) (Ext.refl _) rfl (.tmp 68) (.tmp 68) _ rfl 100 .u32 4 Try.underlying22 info_u32 _ (n + n' + 2) rfl rfl (by omega) (by omega) (by simp only [maxLen]; omega) ?_; intro g w10 hg1 ho1 hx1)
  have HO := hid ho1
  have HX := hid hx1
  have room : v1 < 4294967296 ^ (n + n' + 2) ∧ v1 + 4294967296 ^ k * md < 4294967296 ^ (n + n' + 2) := by have e1 := HTOT.out; have e2 := bPQ.out; omega
  have ROOM := hid room
  clear ho1 hx1 room
  have n1 := hid (into_v (p := 0) (T := 0) rfl (by omega) HX.out HO.out (fun y hy => by have := (List.mem_replicate.1 hy).2; omega) O1.out (by omega) (by omega) (by rw [nv_zeros, Nat.pow_zero, Nat.one_mul, Nat.zero_add]; exact ROOM.out.1))
  rw [nv_zeros, Nat.pow_zero, Nat.one_mul, Nat.zero_add] at n1
  go_wp2_with fail
  refine n1.out.mono ?_
  rintro E w11 ⟨R1, rfl, hl1, e1, ho1, hx1⟩
  have n2 := hid (into_v (p := k) HTK.out hk2 hx1 ho1 hl1 O3.out (by omega) (by omega) (by rw [e1]; exact ROOM.out.2))
  rw [e1] at n2
  clear e1 hl1 ho1 hx1 n1 HO HX
  go_wp2_with fail
  refine n2.out.mono ?_
  rintro E w12 ⟨R2, rfl, hl2, e2, ho2, hx2⟩
  have n3 := hid (into_v (p := k + k) (T := 2 * T) (by have := HTK.out; omega) hkl.1 hx2 ho2 hl2 O2.out (by omega) (by omega) (by rw [e2, HTOT.out]; exact bPQ.out))
  rw [e2, HTOT.out] at n3
  clear e2 hl2 ho2 hx2 n2
  go_wp2_with fail
  refine n3.out.mono ?_
  rintro E w13 ⟨R3, rfl, hl3, e3, ho3, hx3⟩
  have tr := hid (trim_any ho3.sl hl3 (by omega))
  rw [e3] at tr
  have X13 := hid (X9.out.trans hx3)
  clear e3 hl3 ho3 hx3 n3
  go_wp2_with fail
  refine tr.out.mono ?_
  rintro E w14 ⟨A2, c2, rfl, o2, x2⟩
  go_wp2_with fail
  go_ret
  exact ⟨_, _, rfl, o2.mono X13.out.size, X13.out.trans x2⟩

theorem rows_v {w : World} {A B : Option Addr} {n c n' c' p q K K' : Nat} (h : Nv K w A n c p) (h' : Nv K' w B n' c' q) (hK : K + K' ≤ 1073741824) :
    Calls Try.prog 94 #[.slice A n c, .slice B n' c'] w (RetO .u32 100 (nd 4294967296 (p * q)) w) := by
  obtain ⟨xs, h1, h2, rfl, h3⟩ := h
  obtain ⟨ys, h1', h2', rfl, h3'⟩ := h'
  exact rows_any h1 h2 h1' h2' (by omega) (by omega)

set_option maxHeartbeats 1600000 in
theorem times_one {w : World} {A B : Option Addr} {n c n' c' p q M : Nat} {C : Int} (hC : 2 ≤ C) (hM : max n n' = M) (h : Nv n w A n c p) (h' : Nv n' w B n' c' q) (hn : n ≤ 536870912) (hn' : n' ≤ 536870912) (IH : Rec C M (p + q)) :
    Calls Try.prog 95 #[.int .i64 C, .slice A n c, .slice B n' c'] w (RetO .u32 100 (nd 4294967296 (p * q)) w) := by
  by_cases hlt : (min (n : Int) n') < C
  · have r1 := hid (rows_v h h' (by omega))
    clear IH hM h h'
    go_enter Try.func95, Try.ntmps95
    go_wp2_with fail
    refine r1.out.mono ?_
    rintro E w1 ⟨A1, c1, rfl, o1, x1⟩
    go_wp2_with fail
    go_ret
    exact ⟨_, _, rfl, o1, x1⟩
  · have r1 := hid (kara_any hM h h' (by omega) (by omega) (by omega) (by omega) IH)
    clear IH hM h h'
    have hmf : ∀ (fn : Fn) (first cap : Array Value) (w : World), (Instr.makeFunc fn first cap).run Try.prog w = .ok (.func fn first cap) w := fun _ _ _ _ => rfl
    go_enter Try.func95, Try.ntmps95
    go_wp2_with fail
    refine r1.out.mono ?_
    rintro E w1 ⟨A1, c1, rfl, o1, x1⟩
    go_wp2_with fail
    go_ret
    exact ⟨_, _, rfl, o1, x1⟩

theorem Nv.self {K : Nat} {w : World} {A : Option Addr} {n c m : Nat} (h : Nv K w A n c m) : Nv n w A n c m ∧ n ≤ K := by
  obtain ⟨xs, h1, h2, h3, h4⟩ := h
  exact ⟨⟨xs, h1, h2, h3, Nat.le_refl _⟩, h4⟩

/-- Products of all numbers: by induction on the greatest length, then on the sum of the two values. -/
theorem times_rec {C : Int} (hC : 2 ≤ C) : ∀ M : Nat, M ≤ 536870912 → ∀ V, Rec C M V
  | M, hM, V + 1 => by
    have ih := times_rec hC M hM V
    intro L w A l c B l' c' p q h h' hc
    rcases hc with hc | ⟨hc, hv⟩
    · exact ih L w A l c B l' c' p q h h' (.inl hc)
    · rcases Nat.lt_or_ge (p + q) V with hlt | hge
      · exact ih L w A l c B l' c' p q h h' (.inr ⟨hc, hlt⟩)
      · obtain rfl : p + q = V := by omega
        have h1 := h.self
        have h2 := h'.self
        refine times_one hC rfl h1.1 h2.1 (by omega) (by omega) ?_
        intro L w A l c B l' c' p q h h' hc
        exact ih L w A l c B l' c' p q h h' (by omega)
  | 0, _, 0 => fun L w A l c B l' c' p q h h' hc => by omega
  | M + 1, hM, 0 => fun L w A l c B l' c' p q h h' hc => times_rec hC M (by omega) (p + q + 1) L w A l c B l' c' p q h h' (.inr (by omega))
termination_by M _ V => (M, V)

theorem times_v {C : Int} (hC : 2 ≤ C) {w : World} {A B : Option Addr} {n c n' c' p q K K' : Nat} (h : Nv K w A n c p) (h' : Nv K' w B n' c' q) (hK : K + K' ≤ 536870912) :
    Calls Try.prog 95 #[.int .i64 C, .slice A n c, .slice B n' c'] w (RetC (K + K') (p * q) w) := by
  have hb := bd_mul (by omega) h.bound h'.bound
  have h1 := h.self
  have h2 := h'.self
  exact (times_one hC rfl h1.1 h2.1 (by omega) (by omega) (times_rec hC _ (by omega) _)).mono fun _ _ hr => hr.c hb
theorem trows_v {w : World} {A B : Option Addr} {n c n' c' p q K K' : Nat} (h : Nv K w A n c p) (h' : Nv K' w B n' c' q) (hK : K + K' ≤ 536870912) :
    Calls Try.prog 94 #[.slice A n c, .slice B n' c'] w (RetC (K + K') (p * q) w) :=
  (rows_v h h' (by omega)).mono fun _ _ hr => hr.c (bd_mul (by omega) h.bound h'.bound)

theorem mul_v {w : World} {A B : Option Addr} {n c n' c' p q K K' : Nat} (h : Nv K w A n c p) (h' : Nv K' w B n' c' q) (hK : K + K' ≤ 536870912) :
    Calls Try.prog 78 #[.slice A n c, .slice B n' c'] w (RetC (K + K') (p * q) w) := by
  go_enter Try.func78, Try.ntmps78
  go_wp2_with fail
  refine (trim_v h (by omega)).mono ?_
  rintro E w1 ⟨A1, n1, c1, rfl, o1, x1⟩
  go_wp2_with fail
  refine (trim_v (h'.ext x1) (by omega)).mono ?_
  rintro E w2 ⟨A2, n2, c2, rfl, o2, x2⟩
  go_wp2_with fail
  refine (times_v (by omega) (o1.ext x2).nv o2.nv hK).mono ?_
  rintro E w3 ⟨A3, n3, c3, rfl, o3, x3⟩
  go_wp2_with fail
  go_ret
  have X := (x1.trans x2).trans x3
  exact ⟨_, _, _, rfl, ⟨o3.1.mono (x1.trans x2).size, o3.2⟩, X⟩
theorem limb_v {w : World} {A : Option Addr} {n c p v K : Nat} {V : Int} (hV : V = v) (hv : v < 4294967296) (h : Nv K w A n c p) (hK : K ≤ 536870000) :
    Calls Try.prog 72 #[.slice A n c, .int .u32 V] w (RetC (K + 1) (p * v) w) := by
  subst hV
  go_enter Try.func72, Try.ntmps72
  go_wp2_with (refine wpl_lit1 (w0 := w) (Ext.refl _) (by first | rfl | decide) 22 _ rfl 100 .u32 4 Try.underlying22 info_u32 _ v rfl rfl ?_; intro g w1 hg1 ho1 hx1 hx2)
  refine (trows_v (h.ext hx1) (lit_nv1 ho1 hv) (by omega)).mono ?_
  rintro E w3 ⟨A3, n3, c3, rfl, o3, x3⟩
  go_wp2_with fail
  go_ret
  exact ⟨_, _, _, rfl, ⟨o3.1.mono hx1.size, o3.2⟩, hx1.trans x3⟩
end Go.Proofs.Ytikkibpjchmajaa

namespace Go.Proofs.Ytikkibpjchmajaa
open Go.RowKit
open Go.Lib (hid)

/-- A new number, a limb, and an error's number. -/
def RetCL (K m : Nat) (r err : Int) (w : World) : Ending → World → Prop := fun E w' =>
  ∃ A n c, E = .returned (.tuple #[.slice A n c, .int .u32 r, .int .i64 err]) ∧ Cn K w' w.heap.size A n c m ∧ Ext w w'

theorem dlimb_no {w : World} {A : Option Addr} {n c : Nat} : Calls Try.prog 75 #[.slice A n c, .int .u32 0] w fun e w' => e = .returned (.tuple #[.slice none 0 0, .int .u32 0, .int .i64 7]) ∧ w = w' := by
  go_enter Try.func75, Try.ntmps75
  go_wp2
  go_ret3
  exact ⟨rfl, rfl⟩

theorem or_hi {y z : Nat} (hy : y < 4294967296) (hz : z < 4294967296) : bits BinOp.or IntKind.u64 ((z : Int) * 4294967296) (y : Int) = ((z * 4294967296 + y : Nat) : Int) := by
  have e0 : (z : Int) * 4294967296 = ((z * 4294967296 : Nat) : Int) := by omega
  have e1 : z * 4294967296 ||| y = z * 4294967296 + y := nat_join 32 _ _ (by omega) (by omega)
  rw [e0, u64_or_nat _ _ (by omega) (by omega), e1]

theorem set_front {X qs : List Nat} {k z : Nat} (h : k < X.length) : (X.take (k + 1) ++ qs).set k z = X.take k ++ z :: qs := by
  rw [List.take_succ_eq_append_getElem h, List.append_assoc, List.set_append_right _ _ (by rw [List.length_take]; omega), List.length_take, Nat.min_eq_left (by omega), Nat.sub_self]
  rfl
theorem div_cast {T d : Nat} (h : T / d < 4294967296) : IntKind.u64.wrap ((T : Int).tdiv d) % 4294967296 = ((T / d : Nat) : Int) := by
  rw [IntKind.wrap_u64, ← Int.ofNat_tdiv]
  generalize T / d = q at *
  omega
theorem div_small {rest d x : Nat} (h : rest < d) (hx : x < 4294967296) : (rest * 4294967296 + x) / d < 4294967296 := by
  rw [Nat.div_lt_iff_lt_mul (by omega)]
  have := Nat.mul_le_mul_left 4294967296 h
  omega

set_option maxHeartbeats 1600000 in
theorem dlimb_v {w : World} {A : Option Addr} {n c p d K : Nat} {D : Int} (hD : D = d) (h : Nv K w A n c p) (hK : K ≤ 1099511627776) (hd : 0 < d) (hdB : d < 4294967296) :
    Calls Try.prog 75 #[.slice A n c, .int .u32 D] w (RetCL K (p / d) ((p % d : Nat) : Int) 0 w) := by
  subst hD
  have hb := h.bound
  have t1 := hid (trim_v h hK)
  clear h
  have hdi : ((d : Int) == 0) = false := beq_eq_false_iff_ne.2 (by omega)
  go_enter Try.func75, Try.ntmps75
  go_wp2_with fail
  refine t1.out.mono ?_
  rintro E w1 ⟨A1, m, c1, rfl, o1, x1⟩
  have hm := o1.2
  have HL := hid (nd_lim (b := 4294967296) (by omega) p)
  have HV := hid (nv_nd (b := 4294967296) (by omega) p)
  have O1 := hid o1.1
  have X1 := hid x1
  clear t1 o1 x1
  generalize nd 4294967296 p = X at *
  have HX := hid O1.out.len
  go_wp2_with fail
  go_loopw [7, 16] (fun sr si wr => ∃ (i rest : Nat) (qs : List Nat), i ≤ m ∧ sr = .int .u64 rest ∧ si = .int .i64 i ∧ rest < d ∧ qs.length = i ∧ Lim 4294967296 qs ∧ nv 4294967296 (X.drop (m - i)) = nv 4294967296 qs * d + rest ∧
      Own .u32 100 wr w.heap.size A1 m c1 (X.take (m - i) ++ qs) ∧ Ext w wr) (fun _ si _ => m - (intOf si).toNat)
  case atStart => exact ⟨0, 0, [], Nat.zero_le _, rfl, rfl, hd, rfl, fun y hy => by simp at hy, by rw [List.drop_eq_nil_of_le (by rw [HX.out]; omega)]; simp [nv], by rw [Nat.sub_zero, List.take_of_length_le (by rw [HX.out]; omega), List.append_nil]; exact O1.out, X1.out⟩
  case round =>
    clear O1 X1
    obtain ⟨i, rest, qs, hi, rfl, rfl, hr, hql, hqs, hinv, ho, hx⟩ := hrel
    have HE := hid hx
    have HI := hid hinv
    have HO := hid ho
    have HQ := hid hqs
    have HQL := hid hql
    clear hx hinv ho hqs hql
    by_cases hlt : i < m
    · rcases HO.out.form with ⟨_, h0, _⟩ | ⟨g, rfl, hg1, hg2⟩
      · omega
      · have hkm : m - 1 - i < m := by omega
        have gz := HO.out.cell hkm
        have gf := HO.out.frozen (m - 1 - i)
        have bz := lim_getD (b := 4294967296) (by omega) HL.out (m - 1 - i)
        have ez : (X.take (m - i) ++ qs)[m - 1 - i]?.getD 0 = X[m - 1 - i]?.getD 0 := by
          rw [List.getElem?_append_left (by rw [List.length_take, HX.out]; omega), List.getElem?_take, if_pos (by omega)]
        rw [ez] at gz
        clear ez
        have hst : nv 4294967296 (X.drop (m - 1 - i)) = X[m - 1 - i]?.getD 0 + 4294967296 * nv 4294967296 (X.drop (m - i)) := by
          have := nv_drop_step (b := 4294967296) X (m - 1 - i)
          rwa [show m - 1 - i + 1 = m - i from by omega] at this
        have HST := hid hst
        have HS := hid (fun z => set_front (qs := qs) (z := z) (show m - 1 - i < X.length by rw [HX.out]; omega))
        clear hst
        generalize X[m - 1 - i]?.getD 0 = x at *
        go_wp2_with (go_quiet (fail))
        have hor := or_hi bz (show rest < 4294967296 by omega)
        rw [hor]
        have hsm := div_small hr bz
        generalize hT : rest * 4294967296 + x = T at *
        rw [div_cast hsm, ← Int.ofNat_tmod]
        refine ⟨⟨i + 1, T % d, T / d :: qs, by omega, rfl, by go_num, Nat.mod_lt _ hd, by rw [List.length_cons, HQL.out], fun y hy => ?_, ?_, ?_, HE.out.setCell hg1 _⟩, by simp [intOf]; omega⟩
        · rcases List.mem_cons.1 hy with rfl | hy
          · exact hsm
          · exact HQ.out y hy
        · rw [show m - (i + 1) = m - 1 - i from by omega, HST.out]
          have := dlimb_step (b := 4294967296) (x := x) hT.symm HI.out
          rwa [nv] at this
        · have h2 := HO.out.set (m - 1 - i) (T / d)
          have h3 := HS.out (T / d)
          rw [show m - 1 - i + 1 = m - i from by omega] at h3
          rw [h3] at h2
          rw [show m - (i + 1) = m - 1 - i from by omega]
          exact h2
    · obtain rfl : i = m := by omega
      have ho := HO.out
      have hv := HI.out
      rw [Nat.sub_self] at ho hv
      rw [List.drop_zero, HV.out] at hv
      rw [List.take_zero, List.nil_append] at ho
      have hdm : p / d = nv 4294967296 qs ∧ p % d = rest := by
        rw [hv]
        refine ⟨?_, by rw [Nat.mul_comm, Nat.mul_add_mod, Nat.mod_eq_of_lt hr]⟩
        rw [Nat.mul_comm, Nat.mul_add_div hd, Nat.div_eq_of_lt hr, Nat.add_zero]
      have hs := hid (trim_any ho.sl HQ.out (by omega))
      rw [← hdm.1] at hs
      have HR := hid hdm.2
      have hkb := hid (Nat.lt_of_le_of_lt (Nat.div_le_self p d) hb)
      clear ho hv hdm
      go_wp2_with (go_at_call 58; refine hs.out.mono ?_; rintro e w' hr2; obtain ⟨A2, n2, c2, rfl, o2, x2⟩ := hr2.c hkb.out)
      go_ret3
      refine ⟨_, _, _, ?_, ⟨o2.1.mono HE.out.size, o2.2⟩, HE.out.trans x2⟩
      rw [HR.out]
      rfl
end Go.Proofs.Ytikkibpjchmajaa

