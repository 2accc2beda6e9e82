/-
  The walk of the statement NatBack. Printed by wip/gen/law1.py.
-/
import Derived.Test.YtgmppklfblblpaaKnown
import Derived.Test.YtgmppklfblblpaaCanon
namespace Go.Proofs.Ytgmppklfblblpaa
open Go.RowKit
open Go.Lib (hid)

theorem back_val (p n : Nat) : p * 2 ^ n / 2 ^ n = p := Nat.mul_div_cancel _ (Nat.two_pow_pos n)
theorem twice_val (p n m : Nat) : p * 2 ^ (n + m) = p * 2 ^ n * 2 ^ m := by rw [Nat.pow_add, Nat.mul_assoc]
theorem bl_shl {p : Nat} (h : p ≠ 0) (n : Nat) : bl (p * 2 ^ n) = bl p + n := by
  obtain ⟨b1, b2, b3⟩ := bl_bounds h
  refine bl_unique (by omega) ?_ ?_
  · rw [show bl p + n - 1 = (bl p - 1) + n from by omega, Nat.pow_add]; exact Nat.mul_le_mul_right _ b2
  · rw [Nat.pow_add]; exact Nat.mul_lt_mul_of_pos_right b3 (Nat.two_pow_pos n)
theorem len_zero {K : Nat} {w : World} {lo : Nat} {A : Option Addr} {n c m : Nat} (h : Cn K w lo A n c m) (h0 : m = 0) : (n : Int) = 0 := by
  have := h.len; subst h0; rw [this]; rfl
theorem len_pos {K : Nat} {w : World} {lo : Nat} {A : Option Addr} {n c m : Nat} (h : Cn K w lo A n c m) (h0 : m ≠ 0) : (0 : Int) < n ∧ ((n : Int) == 0) = false := by
  have h1 := h.len
  have : n ≠ 0 := fun e => h0 ((nd_eq_nil (b := 4294967296) (by omega)).1 (List.eq_nil_of_length_eq_zero (h1.symm.trans e)))
  exact ⟨by omega, beq_eq_false_iff_ne.2 (by omega)⟩

set_option maxHeartbeats 6400000 in
set_option maxRecDepth 100000 in
theorem natBack_small {w : World} {A1 : Option Addr} {n1 c1 p n m : Nat} (ha : Nv 100 w A1 n1 c1 p) (h1 : n1 ≤ 100) (h2 : n ≤ 2000) (h3 : m ≤ 2000) :
    Calls Try.prog 5 #[.slice A1 n1 c1, .int .i64 n, .int .i64 m] w (RetE (.bool true) w) := by
  have Ha := hid ha
  clear ha
  have hback := hid (back_val p n)
  have htwo := hid (twice_val p n m)
  by_cases hp : p = 0
  · have hz : Hid (p * 2 ^ n / 2 ^ n = 0) := by show _ = _; rw [back_val]; exact hp
    have hb0 : bl (p * 2 ^ n) = 0 := by rw [hp, Nat.zero_mul]; rfl
    clear hp
    go_enter Try.func5, Try.ntmps5
    go_wp2_with (first
      | (go_at_call 22; (with_reducible refine (shl_v (v := n) rfl Ha.out (by omega) (by omega)).mono ?_); rintro E1 w1 ⟨A1, n1, c1, rfl, o1, hy1⟩; have O1 := hid o1; clear o1; have X1 := hid ((Ext.refl _).trans hy1); have hy1 := hid hy1)
      | (go_at_call 23; (with_reducible refine (shr_v (v := n) rfl O1.out.nv (by omega) (by omega)).mono ?_); rintro E2 w2 ⟨A2, n2, c2, rfl, o2, hy2⟩; have O2 := hid o2; clear o2; have X2 := hid (X1.out.trans hy2); have hy2 := hid hy2; have hr2 := len_zero O2.out hz.out)
      | (go_at_call 22; (with_reducible refine (shl_v (v := m) rfl (O1.out.nv.ext hy2.out) (by omega) (by omega)).mono ?_); rintro E3 w3 ⟨A3, n3, c3, rfl, o3, hy3⟩; have O3 := hid o3; clear o3; have X3 := hid (X2.out.trans hy3); have hy3 := hid hy3)
      | (go_at_call 22; (with_reducible refine (shl_v (v := n + m) (V := (n : Int) + (m : Int)) (by omega) (Ha.out.ext ((hy1.out.trans hy2.out).trans hy3.out)) (by omega) (by omega)).mono ?_); rintro E4 w4 ⟨A4, n4, c4, rfl, o4, hy4⟩; have O4 := hid o4; clear o4; have X4 := hid (X3.out.trans hy4); have hy4 := hid hy4)
      | (go_at_call 18; (with_reducible refine (trim_v (Ha.out.ext (((hy1.out.trans hy2.out).trans hy3.out).trans hy4.out)) (by omega)).mono ?_); rintro E5 w5 ⟨A5, n5, c5, rfl, o5, hy5⟩; have O5 := hid o5; clear o5; have X5 := hid (X4.out.trans hy5); have hy5 := hid hy5)
      | (go_at_call 13; (with_reducible refine (same_c (O2.out.ext ((hy3.out.trans hy4.out).trans hy5.out)) O5.out (by omega) hback.out).mono ?_); rintro E6 w6 ⟨rfl, hy6⟩; have X6 := hid (X5.out.trans hy6); have hy6 := hid hy6)
      | (go_at_call 13; (with_reducible refine (same_c (O4.out.ext (hy5.out.trans hy6.out)) (O3.out.ext ((hy4.out.trans hy5.out).trans hy6.out)) (by omega) htwo.out).mono ?_); rintro E7 w7 ⟨rfl, hy7⟩; have X7 := hid (X6.out.trans hy7); have hy7 := hid hy7)
      | (go_at_call 21; (with_reducible refine (canonical_c (O4.out.ext ((hy5.out.trans hy6.out).trans hy7.out)) (by omega)).mono ?_); rintro E8 w8 ⟨rfl, hy8⟩; have X8 := hid (X7.out.trans hy8); have hy8 := hid hy8)
      | (go_at_call 24; (with_reducible refine (bits_v (O1.out.nv.ext ((((((hy2.out.trans hy3.out).trans hy4.out).trans hy5.out).trans hy6.out).trans hy7.out).trans hy8.out)) (by omega)).mono ?_); rintro Es9 ws9 ⟨rfl, rfl⟩)
      | (go_at_call 9; (with_reducible refine (known_any).mono ?_); rintro E9 w9 ⟨rfl, hy9⟩; have X9 := hid (X8.out.trans hy9); have hy9 := hid hy9))
    go_ret
    exact ⟨rfl, X9.out⟩
  · have hz : Hid (p * 2 ^ n / 2 ^ n ≠ 0) := by show _ ≠ _; rw [back_val]; exact hp
    have hb0 : ((bl (p * 2 ^ n) : Int) == (bl p : Int) + n) = true := by rw [bl_shl hp, beq_iff_eq]; omega
    have hb1 : bl p ≤ 3200 := by have := bl_bound Ha.out.bound; omega
    clear hp
    go_enter Try.func5, Try.ntmps5
    go_wp2_with (first
      | (go_at_call 22; (with_reducible refine (shl_v (v := n) rfl Ha.out (by omega) (by omega)).mono ?_); rintro E1 w1 ⟨A1, n1, c1, rfl, o1, hy1⟩; have O1 := hid o1; clear o1; have X1 := hid ((Ext.refl _).trans hy1); have hy1 := hid hy1)
      | (go_at_call 23; (with_reducible refine (shr_v (v := n) rfl O1.out.nv (by omega) (by omega)).mono ?_); rintro E2 w2 ⟨A2, n2, c2, rfl, o2, hy2⟩; have O2 := hid o2; clear o2; have X2 := hid (X1.out.trans hy2); have hy2 := hid hy2; have hr2 := len_pos O2.out hz.out)
      | (go_at_call 22; (with_reducible refine (shl_v (v := m) rfl (O1.out.nv.ext hy2.out) (by omega) (by omega)).mono ?_); rintro E3 w3 ⟨A3, n3, c3, rfl, o3, hy3⟩; have O3 := hid o3; clear o3; have X3 := hid (X2.out.trans hy3); have hy3 := hid hy3)
      | (go_at_call 22; (with_reducible refine (shl_v (v := n + m) (V := (n : Int) + (m : Int)) (by omega) (Ha.out.ext ((hy1.out.trans hy2.out).trans hy3.out)) (by omega) (by omega)).mono ?_); rintro E4 w4 ⟨A4, n4, c4, rfl, o4, hy4⟩; have O4 := hid o4; clear o4; have X4 := hid (X3.out.trans hy4); have hy4 := hid hy4)
      | (go_at_call 18; (with_reducible refine (trim_v (Ha.out.ext (((hy1.out.trans hy2.out).trans hy3.out).trans hy4.out)) (by omega)).mono ?_); rintro E5 w5 ⟨A5, n5, c5, rfl, o5, hy5⟩; have O5 := hid o5; clear o5; have X5 := hid (X4.out.trans hy5); have hy5 := hid hy5)
      | (go_at_call 13; (with_reducible refine (same_c (O2.out.ext ((hy3.out.trans hy4.out).trans hy5.out)) O5.out (by omega) hback.out).mono ?_); rintro E6 w6 ⟨rfl, hy6⟩; have X6 := hid (X5.out.trans hy6); have hy6 := hid hy6)
      | (go_at_call 13; (with_reducible refine (same_c (O4.out.ext (hy5.out.trans hy6.out)) (O3.out.ext ((hy4.out.trans hy5.out).trans hy6.out)) (by omega) htwo.out).mono ?_); rintro E7 w7 ⟨rfl, hy7⟩; have X7 := hid (X6.out.trans hy7); have hy7 := hid hy7)
      | (go_at_call 21; (with_reducible refine (canonical_c (O4.out.ext ((hy5.out.trans hy6.out).trans hy7.out)) (by omega)).mono ?_); rintro E8 w8 ⟨rfl, hy8⟩; have X8 := hid (X7.out.trans hy8); have hy8 := hid hy8)
      | (go_at_call 24; (with_reducible refine (bits_v (O1.out.nv.ext ((((((hy2.out.trans hy3.out).trans hy4.out).trans hy5.out).trans hy6.out).trans hy7.out).trans hy8.out)) (by omega)).mono ?_); rintro Es9 ws9 ⟨rfl, rfl⟩)
      | (go_at_call 24; (with_reducible refine (bits_v (Ha.out.ext (((((((hy1.out.trans hy2.out).trans hy3.out).trans hy4.out).trans hy5.out).trans hy6.out).trans hy7.out).trans hy8.out)) (by omega)).mono ?_); rintro Es9 ws9 ⟨rfl, rfl⟩)
      | (go_at_call 9; (with_reducible refine (known_any).mono ?_); rintro E9 w9 ⟨rfl, hy9⟩; have X9 := hid (X8.out.trans hy9); have hy9 := hid hy9))
    go_ret
    exact ⟨rfl, X9.out⟩

set_option maxHeartbeats 6400000 in
set_option maxRecDepth 100000 in
theorem natBack_any {w : World} {A1 : Option Addr} {n1 c1 : Nat} {xs : List Nat} {n m : Int} (ha : Sl .u32 w A1 n1 c1 xs) (la : Lim 4294967296 xs) :
    Calls Try.prog 5 #[.slice A1 n1 c1, .int .i64 n, .int .i64 m] w (RetE (.bool true) w) := by
  by_cases h1 : n1 ≤ 100
  · by_cases h2 : 0 ≤ n
    · by_cases h3 : n ≤ 2000
      · by_cases h4 : 0 ≤ m
        · by_cases h5 : m ≤ 2000
          · obtain ⟨n, rfl⟩ := Int.eq_ofNat_of_zero_le h2; obtain ⟨m, rfl⟩ := Int.eq_ofNat_of_zero_le h4; exact natBack_small (Nv.mk ha la h1) h1 (by omega) (by omega)
          · have h5' : 2000 < m := by omega
            clear ha la
            go_enter Try.func5, Try.ntmps5
            go_wp2_with (go_at_call 9; refine known_any.mono ?_; rintro E1 w1 ⟨rfl, hx1⟩)
            go_ret
            exact ⟨rfl, hx1⟩
        · have h4' : m < 0 := by omega
          clear ha la
          go_enter Try.func5, Try.ntmps5
          go_wp2_with (go_at_call 9; refine known_any.mono ?_; rintro E1 w1 ⟨rfl, hx1⟩)
          go_ret
          exact ⟨rfl, hx1⟩
      · have h3' : 2000 < n := by omega
        clear ha la
        go_enter Try.func5, Try.ntmps5
        go_wp2_with (go_at_call 9; refine known_any.mono ?_; rintro E1 w1 ⟨rfl, hx1⟩)
        go_ret
        exact ⟨rfl, hx1⟩
    · have h2' : n < 0 := by omega
      clear ha la
      go_enter Try.func5, Try.ntmps5
      go_wp2_with (go_at_call 9; refine known_any.mono ?_; rintro E1 w1 ⟨rfl, hx1⟩)
      go_ret
      exact ⟨rfl, hx1⟩
  · have h1' : (100 : Int) < n1 := by omega
    clear ha la
    go_enter Try.func5, Try.ntmps5
    go_wp2_with (go_at_call 9; refine known_any.mono ?_; rintro E1 w1 ⟨rfl, hx1⟩)
    go_ret
    exact ⟨rfl, hx1⟩

end Go.Proofs.Ytgmppklfblblpaa
