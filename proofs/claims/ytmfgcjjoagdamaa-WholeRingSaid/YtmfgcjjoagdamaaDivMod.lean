
/-
  The contract of divide.DivMod.
-/
import Derived.Test.YtmfgcjjoagdamaaOff
namespace Go.Proofs.Ytmfgcjjoagdamaa
open Go.RowKit
open Go.Lib (hid)

/-- Two new numbers, and an error's. -/
def RetCCE (K K' q r : Nat) (err : Int) (w : World) : Ending → World → Prop := fun E w' => ∃ A n c B n' c', E = .returned (.tuple #[.slice A n c, .slice B n' c', .int .i64 err]) ∧ Cn K w' w.heap.size A n c q ∧ Cn K' w' w.heap.size B n' c' r ∧ Ext w w'

theorem Cn.none {w : World} {lo : Nat} {K : Nat} : Cn K w lo none 0 0 0 := ⟨⟨rfl, .inl ⟨rfl, rfl⟩⟩, Nat.zero_le _⟩
theorem cn_len0 {K : Nat} {w : World} {lo : Nat} {A : Option Addr} {n c m : Nat} (h : Cn K w lo A n c m) (h0 : m = 0) : n = 0 := by
  have := h.len; subst h0; rw [this]; rfl
theorem cn_lenp {K : Nat} {w : World} {lo : Nat} {A : Option Addr} {n c m : Nat} (h : Cn K w lo A n c m) (h0 : 0 < m) : 0 < n ∧ 4294967296 ^ (n - 1) ≤ m ∧ m < 4294967296 ^ n := by
  have h1 := h.len
  have h2 : n ≠ 0 := fun e => absurd ((nd_eq_nil (b := 4294967296) (by omega)).1 (List.eq_nil_of_length_eq_zero (h1.symm.trans e))) (by omega)
  have h3 := nv_ge_pow (b := 4294967296) (by omega) (canon_nd (by omega) m) (fun e => h2 (by rw [h1, e]; rfl))
  have h4 := nv_lt (b := 4294967296) (by omega) (nd_lim (by omega) m)
  rw [nv_nd (by omega), ← h1] at h3 h4
  exact ⟨by omega, h3, h4⟩

/-- How far a number is shifted till its highest limb is great. -/
theorem shift_by {n w : Nat} (hn : 0 < n) (hlo : 4294967296 ^ (n - 1) ≤ w) (hhi : w < 4294967296 ^ n) : bl w ≤ 32 * n ∧ 32 * n - bl w ≤ 31 ∧ 4294967296 ^ n ≤ w * 2 ^ (32 * n - bl w) * 2 ∧ w * 2 ^ (32 * n - bl w) < 4294967296 ^ n := by
  have e32 : ∀ j : Nat, (4294967296 : Nat) ^ j = 2 ^ (32 * j) := fun j => by rw [show (4294967296 : Nat) = 2 ^ 32 from rfl, ← Nat.pow_mul]
  rw [e32] at hlo hhi ⊢
  have hw : w ≠ 0 := by have := Nat.two_pow_pos (32 * (n - 1)); omega
  obtain ⟨b1, b2, b3⟩ := bl_bounds hw
  have h1 : bl w ≤ 32 * n := bl_le hhi
  have h2 : 32 * (n - 1) < bl w := by
    refine Nat.lt_of_not_le fun h => ?_
    have := Nat.pow_le_pow_right (n := 2) (by omega) h
    omega
  have e1 : 2 ^ (32 * n) = 2 ^ (bl w - 1) * 2 ^ (32 * n - bl w) * 2 := by rw [← Nat.pow_add, ← Nat.pow_succ]; congr 1; omega
  have e2 : 2 ^ (32 * n) = 2 ^ bl w * 2 ^ (32 * n - bl w) := by rw [← Nat.pow_add]; congr 1; omega
  refine ⟨h1, by omega, ?_, ?_⟩
  · rw [e1]; exact Nat.mul_le_mul_right 2 (Nat.mul_le_mul_right _ b2)
  · rw [e2]; exact Nat.mul_lt_mul_of_pos_right b3 (Nat.two_pow_pos _)

theorem Own.part {w : World} {lo g m c k l cc : Nat} {R : List Nat} (h : Own .u32 39 w lo (some ⟨g, 0, none⟩) m c R) (hkl : k + l ≤ m) (hl : l ≤ cc) (hcc : cc ≤ maxLen) : Sl .u32 w (some ⟨g, k, none⟩) l cc ((R.drop k).take l) :=
  ⟨by rw [List.length_take, List.length_drop, h.len]; omega, hl, hcc, fun _ => ⟨g, k, rfl, h.lo_le.2, fun j z hz => by
    have hj : j < l := by
      have := (List.getElem?_eq_some_iff.1 hz).1
      rw [List.length_take] at this; omega
    rw [List.getElem?_take, if_pos hj, List.getElem?_drop] at hz
    rw [h.cell (by omega), hz]; rfl⟩⟩

theorem take_small {b n : Nat} {R : List Nat} (hb : 1 ≤ b) (h : Lim b R) (hv : nv b R < b ^ n) : nv b (R.take n) = nv b R := by
  have := window_val (k := 0) (l := n) hb h (by rwa [Nat.zero_add])
  simpa using this

set_option maxHeartbeats 1600000 in
theorem divmod_zero {w : World} {A B : Option Addr} {n c n' c' p K K' : Nat} (h : Nv K w A n c p) (h' : Nv K' w B n' c' 0) (hK : K + K' ≤ 1099511627776) :
    Calls Try.prog 73 #[.slice A n c, .slice B n' c'] w (RetCCE 0 0 0 0 7 w) := by
  have t1 := hid (trim_v h (by omega))
  have t2 := hid (fun (w1 : World) (x1 : Ext w w1) => trim_v (h'.ext x1) (by omega))
  clear h h'
  go_enter Try.func73, Try.ntmps73
  go_wp2_with fail
  refine t1.out.mono ?_
  rintro E w1 ⟨A1, n1, c1, rfl, o1, x1⟩
  have t2 := hid (t2.out _ x1)
  go_wp2_with fail
  refine t2.out.mono ?_
  rintro E w2 ⟨B1, n2, c2, rfl, o2, x2⟩
  have h0 := cn_len0 o2 rfl
  subst h0
  have X := x1.trans x2
  clear t1 t2 o1 o2 x1 x2
  go_wp2_with fail
  go_ret3
  exact ⟨_, _, _, _, _, _, rfl, Cn.none, Cn.none, X⟩

set_option maxHeartbeats 1600000 in
theorem divmod_less {w : World} {A B : Option Addr} {n c n' c' p q K K' : Nat} (h : Nv K w A n c p) (h' : Nv K' w B n' c' q) (hK : K + K' ≤ 1099511627776) (hlt : p < q) :
    Calls Try.prog 73 #[.slice A n c, .slice B n' c'] w (RetCCE K K' 0 p 0 w) := by
  have t1 := hid (trim_v h (by omega))
  have t2 := hid (fun (w1 : World) (x1 : Ext w w1) => trim_v (h'.ext x1) (by omega))
  clear h h'
  go_enter Try.func73, Try.ntmps73
  go_wp2_with fail
  refine t1.out.mono ?_
  rintro E w1 ⟨A1, n1, c1, rfl, o1, x1⟩
  have t2 := hid (t2.out _ x1)
  go_wp2_with fail
  refine t2.out.mono ?_
  rintro E w2 ⟨B1, n2, c2, rfl, o2, x2⟩
  have h0 := cn_lenp o2 (by omega)
  have hp := h0.1
  have hb2 := o2.2
  have hd : ((n2 : Int) == 0) = false := beq_eq_false_iff_ne.2 (by omega)
  have O1 := hid (o1.ext x2)
  have cm := hid (cmp_is (v := -1) O1.out.nv o2.nv (by omega) (cmpN_lt hlt))
  have hpb := hid (o2.nv.bound)
  have X := hid (x1.trans x2)
  have h00 := hid h0
  clear t1 t2 o1 o2 x1 x2 h0
  go_wp2_with fail
  refine cm.out.mono ?_
  rintro E w3 ⟨rfl, x3⟩
  go_wp2_with fail
  go_ret3
  refine ⟨_, _, _, _, _, _, rfl, Cn.none, ⟨(O1.out.ext x3).1, ?_⟩, X.out.trans x3⟩
  have := (nd_len_le (b := 4294967296) (by omega)).2 (show p < 4294967296 ^ K' from Nat.lt_trans hlt hpb.out)
  rw [O1.out.len]; exact this

set_option maxHeartbeats 1600000 in
theorem divmod_limb {w : World} {A B : Option Addr} {n c n' c' p q K K' : Nat} (h : Nv K w A n c p) (h' : Nv K' w B n' c' q) (hK : K + K' ≤ 1099511627776) (hq : 0 < q) (hqB : q < 4294967296) (hle : q ≤ p) :
    Calls Try.prog 73 #[.slice A n c, .slice B n' c'] w (RetCCE K K' (p / q) (p % q) 0 w) := by
  have t1 := hid (trim_v h (by omega))
  have t2 := hid (fun (w1 : World) (x1 : Ext w w1) => trim_v (h'.ext x1) (by omega))
  clear h h'
  go_enter Try.func73, Try.ntmps73
  go_wp2_with fail
  refine t1.out.mono ?_
  rintro E w1 ⟨A1, n1, c1, rfl, o1, x1⟩
  have t2 := hid (t2.out _ x1)
  go_wp2_with fail
  refine t2.out.mono ?_
  rintro E w2 ⟨B1, n2, c2, rfl, o2, x2⟩
  have h0 := cn_lenp o2 hq
  have hn2 : n2 = 1 := by
    have h1 := o2.len
    have h2 := (nd_len_le (b := 4294967296) (n := q) (k := 1) (by omega)).2 (by omega)
    omega
  subst hn2
  have hpb := hid (o2.nv.bound)
  have hb2 := o2.2
  have O1 := hid (o1.ext x2)
  have hlist : nd 4294967296 q = [q] := by
    have hc : Canon 4294967296 [q] := canon1 hqB (by omega)
    exact (eq_nd (by omega) hc (val1 q)).symm
  have hsl := o2.sl
  rw [hlist] at hsl
  obtain ⟨b, o, rfl, hcell⟩ := hsl.gets (by omega)
  have HC := hid hcell
  have X := hid (x1.trans x2)
  have hv0 : ∃ v : Int, (v = 0 ∨ v = 1) ∧ cmpN p q = v := by
    rcases Nat.eq_or_lt_of_le hle with h | h
    · subst h; exact ⟨0, .inl rfl, cmpN_eq _⟩
    · exact ⟨1, .inr rfl, cmpN_gt h⟩
  obtain ⟨v, hv, hcv⟩ := hv0
  have hv' : 0 ≤ v := by omega
  have cm := hid (cmp_is (v := v) O1.out.nv o2.nv (by omega) hcv)
  clear t1 t2 o1 o2 x1 x2 h0 hlist hsl hcell hv hcv
  go_wp2_with fail
  refine cm.out.mono ?_
  rintro E w3 ⟨rfl, x3⟩
  have g0 : w3.cell? ⟨b, o, none⟩ = some (.int .u32 (q : Int)) := by
    have := HC.out w3 x3 0 (by omega)
    simpa using this
  have dl := hid (dlimb_v (D := (q : Int)) rfl (O1.out.ext x3).nv (by omega) hq hqB)
  go_wp2_with fail
  refine dl.out.mono ?_
  rintro E w4 ⟨A4, n4, c4, rfl, o4, x4⟩
  have hrb : p % q < 4294967296 := Nat.lt_trans (Nat.mod_lt _ hq) hqB
  have sm := hid (small_v (w := w4) (v := p % q) (V := ((p % q : Nat) : Int)) rfl (by omega))
  have X4 := hid (X.out.trans (x3.trans x4))
  have O4 := hid o4
  have hmod := hid (Nat.mod_lt p hq)
  have X3 := hid (X.out.trans x3)
  clear dl o4 x4 g0 cm x3
  generalize p % q = r at *
  go_wp2_with fail
  refine sm.out.mono ?_
  rintro E w5 ⟨A5, n5, c5, rfl, o5, x5⟩
  go_wp2_with fail
  go_ret3
  refine ⟨_, _, _, _, _, _, rfl, ⟨(O4.out.ext x5).1.mono X3.out.size, (O4.out.ext x5).2⟩, ⟨o5.1.mono X4.out.size, ?_⟩, X4.out.trans x5⟩
  have := (nd_len_le (b := 4294967296) (by omega)).2 (show r < 4294967296 ^ K' from Nat.lt_trans hmod.out hpb.out)
  rw [o5.len]; exact this
end Go.Proofs.Ytmfgcjjoagdamaa
