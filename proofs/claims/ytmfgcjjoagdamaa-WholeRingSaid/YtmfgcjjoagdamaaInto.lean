
/-
  The contracts of times.cut and times.into.
-/
import Derived.Test.YtmfgcjjoagdamaaTRows
import Derived.Test.YtmfgcjjoagdamaaShr
namespace Go.Proofs.Ytmfgcjjoagdamaa
open Go.RowKit
open Go.Lib (hid)

def RetCut (A : Option Addr) (k n c : Nat) (zs : List Nat) (w : World) : Ending → World → Prop := fun E w' =>
  ∃ A2 n2 c2, E = .returned (.tuple #[.slice A k c, .slice A2 n2 c2]) ∧ n2 = n - k ∧ Sl .u32 w' A2 n2 c2 zs ∧ Ext w w'

theorem cut_any {w : World} {A : Option Addr} {n c k : Nat} {K : Int} {xs : List Nat} (hK : K = k) (h : Sl .u32 w A n c xs) (hk : k ≤ 1099511627776) (hn : n ≤ 1099511627776) :
    Calls Try.prog 103 #[.slice A n c, .int .i64 K] w (RetCut A (min k n) n c (xs.drop (min k n)) w) := by
  subst hK
  have hd := h.drop (j := min k n) (by omega)
  have hcap := h.cap
  by_cases hkn : k ≤ n
  · rw [Nat.min_eq_left hkn] at *
    by_cases hcK : c = k
    · rw [if_pos hcK] at hd
      subst hcK
      have HD := hid hd
      clear hd h
      go_enter Try.func103, Try.ntmps103
      go_wp2_with (go_quiet (fail))
      go_ret2
      have e : (min (c : Int) n).toNat = c := by omega
      simp only [e]
      exact ⟨_, _, _, rfl, rfl, HD.out.drewN _, (Ext.refl _).drewN _⟩
    · rw [if_neg hcK] at hd
      have HD := hid hd
      clear hd h
      go_enter Try.func103, Try.ntmps103
      go_wp2_with (go_quiet (fail))
      go_ret2
      have e : (min (k : Int) n).toNat = k := by omega
      simp only [e]
      exact ⟨_, _, _, rfl, rfl, HD.out.drewN _, (Ext.refl _).drewN _⟩
  · rw [Nat.min_eq_right (by omega)] at *
    by_cases hcK : c = n
    · rw [if_pos hcK] at hd
      subst hcK
      have HD := hid hd
      clear hd h
      go_enter Try.func103, Try.ntmps103
      go_wp2_with (go_quiet (fail))
      go_ret2
      have e : (min (k : Int) c).toNat = c := by omega
      simp only [e]
      exact ⟨_, _, _, rfl, rfl, HD.out.drewN _, (Ext.refl _).drewN _⟩
    · rw [if_neg hcK] at hd
      have HD := hid hd
      clear hd h
      go_enter Try.func103, Try.ntmps103
      go_wp2_with (go_quiet (fail))
      go_ret2
      have e : (min (k : Int) n).toNat = n := by omega
      simp only [e]
      exact ⟨_, _, _, rfl, rfl, HD.out.drewN _, (Ext.refl _).drewN _⟩

theorem into_end {b at_ j m cy : Nat} {R R' Y : List Nat} (hb : 2 ≤ b) (hY : Lim b Y) (hm : at_ + j ≤ m) (hroom : nv b R + b ^ at_ * nv b Y < b ^ m) (hend : at_ + j = m ∨ Y.length ≤ j ∧ cy = 0)
    (hinv : nv b R' + b ^ (at_ + j) * cy = nv b R + 1 * b ^ at_ * nv b (Y.take j)) : nv b R' = nv b R + b ^ at_ * nv b Y := by
  rw [Nat.one_mul] at hinv
  have hsplit : nv b Y = nv b (Y.take j) + b ^ j * nv b (Y.drop j) := by
    conv => lhs; rw [← List.take_append_drop j Y, nv_append, List.length_take]
    rcases Nat.le_total j Y.length with h | h
    · rw [Nat.min_eq_left h]
    · rw [List.drop_eq_nil_of_le h]; simp [nv]
  rcases hend with h | ⟨h, rfl⟩
  · subst h
    have e : b ^ at_ * nv b Y = b ^ at_ * nv b (Y.take j) + b ^ (at_ + j) * nv b (Y.drop j) := by rw [hsplit, Nat.mul_add, Nat.pow_add, Nat.mul_assoc]
    have hd0 : nv b (Y.drop j) = 0 := by
      rcases Nat.eq_zero_or_pos (nv b (Y.drop j)) with h0 | h0
      · exact h0
      · have := Nat.mul_le_mul_left (b ^ (at_ + j)) h0
        omega
    have hc0 : cy = 0 := by
      rcases Nat.eq_zero_or_pos cy with h0 | h0
      · exact h0
      · have := Nat.mul_le_mul_left (b ^ (at_ + j)) h0
        omega
    rw [hd0] at e
    rw [hc0] at hinv
    omega
  · rw [List.take_of_length_le h] at hinv
    simpa using hinv

def RetInto (w0 : World) (g m v : Nat) : Ending → World → Prop := fun E w' =>
  ∃ R, E = .returned (.tuple #[]) ∧ Lim 4294967296 R ∧ nv 4294967296 R = v ∧ Own .u32 39 w' w0.heap.size (some ⟨g, 0, none⟩) m m R ∧ Ext w0 w'

theorem add_cast32 (cy o y : Nat) : ((cy : Int) + o + y) % 4294967296 = (((cy + o + 1 * y) % 4294967296 : Nat) : Int) ∧ ((cy : Int) + o + y) / 4294967296 = (((cy + o + 1 * y) / 4294967296 : Nat) : Int) := by omega
theorem add_cast32' (cy o : Nat) : ((cy : Int) + o) % 4294967296 = (((cy + o + 1 * 0) % 4294967296 : Nat) : Int) ∧ ((cy : Int) + o) / 4294967296 = (((cy + o + 1 * 0) / 4294967296 : Nat) : Int) := by omega

set_option maxHeartbeats 1600000 in
theorem into_any {w0 w : World} {A : Option Addr} {g m n' c' p : Nat} {T : Int} {R Y : List Nat} (hT : T = p) (hp : p ≤ m) (hx : Ext w0 w) (ho : Own .u32 39 w w0.heap.size (some ⟨g, 0, none⟩) m m R) (hl : Lim 4294967296 R)
    (h : Sl .u32 w0 A n' c' Y) (hY : Lim 4294967296 Y) (hm : m ≤ 1099511627776) (hn' : n' ≤ 1099511627776) (hroom : nv 4294967296 R + 4294967296 ^ p * nv 4294967296 Y < 4294967296 ^ m) :
    Calls Try.prog 104 #[.slice (some ⟨g, 0, none⟩) m m, .slice A n' c', .int .i64 T] w (RetInto w0 g m (nv 4294967296 R + 4294967296 ^ p * nv 4294967296 Y)) := by
  subst hT
  have hg1 : w0.heap.size ≤ g := (Own.lo_le ho).1
  have k2 := hid hY
  have H := hid h
  have O1 := hid ho
  have L1 := hid hl
  have X1 := hid hx
  have HRM := hid hroom
  clear h hY ho hl hx hroom
  go_enter Try.func104, Try.ntmps104
  go_wp2_with fail
  go_loopw [6, 7] (fun sc si wr => ∃ (j cy : Nat) (O : List Nat), p + j ≤ m ∧ sc = .int .u64 cy ∧ si = .int .i64 ((p : Int) + j) ∧ cy ≤ 1 ∧ Lim 4294967296 O ∧ nv 4294967296 O + 4294967296 ^ (p + j) * cy = nv 4294967296 R + 1 * 4294967296 ^ p * nv 4294967296 (Y.take j) ∧
      Own .u32 39 wr w0.heap.size (some ⟨g, 0, none⟩) m m O ∧ Ext w0 wr) (fun _ si _ => m - (intOf si).toNat)
  case atStart => exact ⟨0, 0, R, by omega, rfl, by go_num, by omega, L1.out, by simp [nv], O1.out, X1.out⟩
  case round =>
    clear O1 X1
    obtain ⟨j, cy, O, hj, rfl, rfl, hcy, hO, hinv, ho, hx⟩ := hrel
    have HE := hid hx
    have HI := hid hinv
    have HO := hid ho
    have HL := hid hO
    clear hx hinv ho hO
    by_cases hlt : p + j < m
    · have gz := HO.out.cell (i := p + j) hlt
      have gf := HO.out.frozen (p + j)
      have bz := lim_getD (b := 4294967296) (by omega) HL.out (p + j)
      by_cases hjn : j < n'
      · obtain ⟨bb, ob, rfl, gy⟩ := (H.out.ext HE.out).get hjn
        have by' := lim_getD (b := 4294967296) (by omega) k2.out j
        have HST := hid (fun t ht => mul_step (b := 4294967296) (x := 1) (t := t) (by rw [HO.out.len]; exact hlt) HI.out rfl ht)
        generalize Y[j]?.getD 0 = y at *
        generalize O[p + j]?.getD 0 = o at *
        have HC := hid (add_cast32 cy o y)
        go_wp2_with (go_quiet (fail))
        rw [HC.out.1, HC.out.2]
        exact ⟨⟨j + 1, (cy + o + 1 * y) / 4294967296, _, by omega, rfl, by go_num, by omega, lim_set HL.out (Nat.mod_lt _ (by omega)), HST.out _ rfl, HO.out.set _ _, HE.out.setCell hg1 _⟩, by simp [intOf]; omega⟩
      · by_cases hc0 : 0 < cy
        · have hy0 : Y[j]?.getD 0 = 0 := by rw [List.getElem?_eq_none (by rw [H.out.len]; omega)]; rfl
          have HST := hid (fun t ht => mul_step (b := 4294967296) (x := 1) (y := 0) (t := t) (by rw [HO.out.len]; exact hlt) HI.out hy0 ht)
          clear hy0
          generalize O[p + j]?.getD 0 = o at *
          have HC := hid (add_cast32' cy o)
          go_wp2_with (go_quiet (fail))
          rw [HC.out.1, HC.out.2]
          exact ⟨⟨j + 1, (cy + o + 1 * 0) / 4294967296, _, by omega, rfl, by go_num, by omega, lim_set HL.out (Nat.mod_lt _ (by omega)), HST.out _ rfl, HO.out.set _ _, HE.out.setCell hg1 _⟩, by simp [intOf]; omega⟩
        · have HV := hid (into_end (b := 4294967296) (by omega) k2.out hj HRM.out (.inr ⟨by rw [H.out.len]; omega, by omega⟩) HI.out)
          go_wp2_with (go_quiet (fail))
          go_end0
          exact ⟨_, rfl, HL.out, HV.out, HO.out, HE.out⟩
    · have HV := hid (into_end (b := 4294967296) (by omega) k2.out hj HRM.out (.inl (by omega)) HI.out)
      go_wp2_with (go_quiet (fail))
      go_end0
      exact ⟨_, rfl, HL.out, HV.out, HO.out, HE.out⟩
end Go.Proofs.Ytmfgcjjoagdamaa
