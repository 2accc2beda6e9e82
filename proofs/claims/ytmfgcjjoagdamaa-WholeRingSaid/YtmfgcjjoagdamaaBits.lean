
/-
  The contracts of nat.Bits, nat.Small, nat.Word.
-/
import Derived.Test.YtmfgcjjoagdamaaShr
import Derived.Test.YtmfgcjjoagdamaaMath5
import Derived.Test.YtmfgcjjoagdamaaShelf
namespace Go.Proofs.Ytmfgcjjoagdamaa
open Go.RowKit
open Go.Lib (hid)

set_option maxHeartbeats 800000 in
theorem bits_any {w : World} {A : Option Addr} {n c : Nat} {xs : List Nat} (h : Sl .u32 w A n c xs) (hl : Lim 4294967296 xs) (hn : n ≤ 1099511627776) :
    Calls Try.prog 72 #[.slice A n c] w fun e w' => e = .returned (.int .i64 (bl (nv 4294967296 xs) : Nat)) ∧ w = w' := by
  have h1 := h.short hl
  have s1 := hid (short_any h hl)
  have q1 : (nd 4294967296 (nv 4294967296 xs)).length ≤ 1099511627776 := by have := nd_length_le (b := 4294967296) (by omega) hl; have := h.len; omega
  clear h hl
  generalize nv 4294967296 xs = p at *
  have e1 : nv 4294967296 (nd 4294967296 p) = p := nv_nd (by omega) p
  have k1 := nd_lim (b := 4294967296) (by omega) p
  have k2 : ∀ m, (nd 4294967296 p).length = m + 1 → (nd 4294967296 p)[m]?.getD 0 ≠ 0 := fun m hm => nd_top (by omega) hm
  generalize nd 4294967296 p = X at h1 s1 q1 e1 k1 k2
  subst e1
  generalize hm : X.length = m at *
  rcases Nat.eq_zero_or_pos m with h0 | h0
  · subst h0
    have hX : X = [] := List.eq_nil_of_length_eq_zero hm
    subst hX
    have hb : bl (nv 4294967296 []) = 0 := rfl
    rw [hb]
    clear hb k1 k2 hm
    go_enter Try.func72, Try.ntmps72
    go_wp2_with (go_at_call 81; refine s1.out.mono ?_; rintro e w' ⟨rfl, rfl⟩)
    go_ret
    exact ⟨rfl, rfl⟩
  · obtain ⟨j, rfl⟩ : ∃ j, m = j + 1 := ⟨m - 1, by omega⟩
    obtain ⟨t1, t2⟩ := bl_top hm k1 (k2 j rfl)
    obtain ⟨b, o, rfl, g1⟩ := h1.get (i := j) (by omega)
    have b1 := lim_getD (b := 4294967296) (by omega) k1 j
    rw [t1]
    clear k1 k2 hm h0 t1
    generalize X[j]?.getD 0 = x at *
    have hL := hid (fun W => Try.bits_Len32 (x : Int) W (by omega) (by omega))
    simp only [Int.toNat_natCast] at hL
    have hne : ((j : Int) + 1 == 0) = false := beq_eq_false_iff_ne.2 (by omega)
    go_enter Try.func72, Try.ntmps72
    go_wp2_with (first
      | (go_at_call 81; refine s1.out.mono ?_; rintro e w' ⟨rfl, rfl⟩)
      | (go_at_call 92; refine (hL.out _).mono ?_; rintro e w' ⟨rfl, rfl⟩))
    go_ret
    exact ⟨ret_int (by omega), rfl⟩

set_option maxHeartbeats 800000 in
theorem small_any {w : World} {n : Nat} (hn : n < 18446744073709551616) : Calls Try.prog 77 #[.int .u64 n] w (RetO .u32 39 (nd 4294967296 n) w) := by
  go_enter Try.func77, Try.ntmps77
  go_wp2_with fail
  have hv : nv 4294967296 [n % 4294967296, n / 4294967296] = n := by simp only [nv]; omega
  have hl : Lim 4294967296 [n % 4294967296, n / 4294967296] := fun y hy => by simp at hy; omega
  have ht := trim_any (Own.lit (k := .u32) (e := 39) w [n % 4294967296, n / 4294967296] 2 rfl (by simp [maxLen])).sl hl (by omega)
  rw [hv] at ht
  rw [show ((n : Int) % 4294967296) = ((n % 4294967296 : Nat) : Int) from by omega, show ((n : Int) / 4294967296) = ((n / 4294967296 : Nat) : Int) from by omega]
  refine ht.mono ?_
  intro E w' hr
  obtain ⟨A, c, rfl, ho, hx⟩ := hr.mono ((Ext.refl w).alloc _)
  clear ht hv hl
  go_wp2_with fail
  go_ret
  exact ⟨_, _, rfl, ho, hx⟩

theorem or_zero_u64 (x : Nat) (h : x < 4294967296) : bits BinOp.or IntKind.u64 0 (x : Int) = (x : Int) := by
  have := u64_or_nat 0 x (by omega) (by omega)
  simpa using this
theorem or_hi_u64 (x y : Nat) (h : x < 4294967296) (hy : y < 4294967296) : bits BinOp.or IntKind.u64 (x : Int) ((y : Int) * 4294967296) = ((x + 4294967296 * y : Nat) : Int) := by
  have e0 : (y : Int) * 4294967296 = ((y * 4294967296 : Nat) : Int) := by omega
  have e1 : y * 4294967296 ||| x = y * 4294967296 + x := nat_join 32 _ _ (by omega) (by omega)
  rw [e0, u64_or_nat _ _ (by omega) (by omega), Nat.or_comm, e1]
  congr 1
  omega

set_option maxHeartbeats 800000 in
theorem word_yes {w : World} {A : Option Addr} {n c : Nat} {xs : List Nat} (h : Sl .u32 w A n c xs) (hl : Lim 4294967296 xs) (hn : n ≤ 1099511627776) (hv : nv 4294967296 xs < 18446744073709551616) :
    Calls Try.prog 78 #[.slice A n c] w fun e w' => e = .returned (.tuple #[.int .u64 (nv 4294967296 xs : Nat), .bool true]) ∧ w = w' := by
  have h1 := h.short hl
  have s1 := hid (short_any h hl)
  clear h hl
  generalize nv 4294967296 xs = p at *
  have e1 : nv 4294967296 (nd 4294967296 p) = p := nv_nd (by omega) p
  have k1 := nd_lim (b := 4294967296) (by omega) p
  have k2 : (nd 4294967296 p).length ≤ 2 := (nd_len_le (by omega)).2 (by omega)
  clear hv
  generalize nd 4294967296 p = X at h1 s1 e1 k1 k2
  subst e1
  match X, k2, h1, k1, s1 with
  | [], _, h1, k1, s1 =>
    go_enter Try.func78, Try.ntmps78
    go_wp2_with (go_at_call 81; refine s1.out.mono ?_; rintro e w' ⟨rfl, rfl⟩)
    go_loop [4, 10] (fun sn si => sn = .int .u64 0 ∧ si = .int .i64 0) (fun _ si => 0)
    case atStart => exact ⟨rfl, rfl⟩
    case round =>
      obtain ⟨rfl, rfl⟩ := hrel
      go_wp2_with fail
      go_ret2
      exact ⟨rfl, rfl⟩
  | [x], _, h1, k1, s1 =>
    obtain ⟨b, o, rfl, g1⟩ := h1.get (i := 0) (by simp)
    have b1 : x < 4294967296 := k1 x (by simp)
    have g1 : w.cell? ⟨b, o, none⟩ = some (.int .u32 (x : Int)) := g1
    have e0 := or_zero_u64 x b1
    have hvv : nv 4294967296 [x] = x := by simp [nv]
    rw [hvv]
    clear hvv k1
    go_enter Try.func78, Try.ntmps78
    go_wp2_with (go_at_call 81; refine s1.out.mono ?_; rintro e w' ⟨rfl, rfl⟩)
    go_loop [4, 10] (fun sn si => ∃ i : Nat, i ≤ 1 ∧ si = .int .i64 i ∧ sn = .int .u64 ((if i = 0 then 0 else x : Nat) : Int)) (fun _ si => 1 - (intOf si).toNat)
    case atStart => exact ⟨0, by omega, rfl, rfl⟩
    case round =>
      obtain ⟨i, hi, rfl, rfl⟩ := hrel
      by_cases h0 : i = 0
      · subst h0
        go_wp2_with fail
        exact ⟨⟨1, by omega, rfl, rfl⟩, by simp [intOf]⟩
      · obtain rfl : i = 1 := by omega
        go_wp2_with fail
        go_ret2
        exact ⟨rfl, rfl⟩
  | [x, y], _, h1, k1, s1 =>
    obtain ⟨b, o, rfl, g1⟩ := h1.get (i := 0) (by simp)
    obtain ⟨b', o', hb, g2⟩ := h1.get (i := 1) (by simp)
    injection hb with hb
    injection hb with hb hb2
    subst hb; subst hb2
    have b1 : x < 4294967296 := k1 x (by simp)
    have b2 : y < 4294967296 := k1 y (by simp)
    have g1 : w.cell? ⟨b, o, none⟩ = some (.int .u32 (x : Int)) := g1
    have g2 : w.cell? ⟨b, o + 1, none⟩ = some (.int .u32 (y : Int)) := g2
    have e0 := or_zero_u64 x b1
    have e1 := or_hi_u64 x y b1 b2
    have hvv : nv 4294967296 [x, y] = x + 4294967296 * y := by simp [nv]
    rw [hvv]
    clear hvv k1
    go_enter Try.func78, Try.ntmps78
    go_wp2_with (go_at_call 81; refine s1.out.mono ?_; rintro e w' ⟨rfl, rfl⟩)
    go_loop [4, 10] (fun sn si => ∃ i : Nat, i ≤ 2 ∧ si = .int .i64 i ∧ sn = .int .u64 ((if i = 0 then 0 else if i = 1 then x else x + 4294967296 * y : Nat) : Int)) (fun _ si => 2 - (intOf si).toNat)
    case atStart => exact ⟨0, by omega, rfl, rfl⟩
    case round =>
      obtain ⟨i, hi, rfl, rfl⟩ := hrel
      by_cases h0 : i = 0
      · subst h0
        go_wp2_with fail
        exact ⟨⟨1, by omega, rfl, rfl⟩, by simp [intOf]⟩
      · by_cases h00 : i = 1
        · subst h00
          go_wp2_with fail
          exact ⟨⟨2, by omega, rfl, rfl⟩, by simp [intOf]⟩
        · obtain rfl : i = 2 := by omega
          go_wp2_with fail
          go_ret2
          exact ⟨rfl, rfl⟩

set_option maxHeartbeats 800000 in
theorem word_no {w : World} {A : Option Addr} {n c : Nat} {xs : List Nat} (h : Sl .u32 w A n c xs) (hl : Lim 4294967296 xs) (hn : n ≤ 1099511627776) (hv : 18446744073709551616 ≤ nv 4294967296 xs) :
    Calls Try.prog 78 #[.slice A n c] w fun e w' => e = .returned (.tuple #[.int .u64 0, .bool false]) ∧ w = w' := by
  have h1 := h.short hl
  have s1 := hid (short_any h hl)
  have q1 : (nd 4294967296 (nv 4294967296 xs)).length ≤ 1099511627776 := by have := nd_length_le (b := 4294967296) (by omega) hl; have := h.len; omega
  clear h hl
  generalize nv 4294967296 xs = p at *
  have k1 := nd_lim (b := 4294967296) (by omega) p
  have k2 : 2 < (nd 4294967296 p).length := (nd_len_gt (by omega)).2 (by omega)
  clear hv
  generalize nd 4294967296 p = X at h1 s1 k1 k2 q1
  generalize X.length = m at *
  go_enter Try.func78, Try.ntmps78
  go_wp2_with (go_at_call 81; refine s1.out.mono ?_; rintro e w' ⟨rfl, rfl⟩)
  go_loop [4, 10] (fun sn si => ∃ (i : Nat) (z : Int), i ≤ 2 ∧ si = .int .i64 i ∧ sn = .int .u64 z) (fun _ si => 2 - (intOf si).toNat)
  case atStart => exact ⟨0, _, by omega, rfl, rfl⟩
  case round =>
    obtain ⟨i, z, hi, rfl, rfl⟩ := hrel
    obtain ⟨b, o, rfl, g1⟩ := h1.get (i := i) (by omega)
    have b1 := lim_getD (b := 4294967296) (by omega) k1 i
    generalize X[i]?.getD 0 = x at *
    by_cases h0 : i = 0
    · subst h0
      have g1 : w.cell? ⟨b, o, none⟩ = some (.int .u32 (x : Int)) := g1
      go_wp2_with fail
      exact ⟨⟨1, _, by omega, rfl, rfl⟩, by simp [intOf]⟩
    · by_cases h00 : i = 1
      · subst h00
        go_wp2_with fail
        exact ⟨⟨2, _, by omega, rfl, rfl⟩, by simp [intOf]⟩
      · obtain rfl : i = 2 := by omega
        go_wp2_with fail
        go_ret2
        exact ⟨rfl, rfl⟩
end Go.Proofs.Ytmfgcjjoagdamaa
