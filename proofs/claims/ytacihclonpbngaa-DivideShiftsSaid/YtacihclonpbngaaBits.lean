
/-
  The contracts of nat.Bits, nat.Small, nat.Word.
-/
import Derived.Test.YtacihclonpbngaaShr
import Derived.Test.YtacihclonpbngaaMath5
import Derived.Test.YtacihclonpbngaaShelf
namespace Go.Proofs.Ytacihclonpbngaa
open Go.RowKit
open Go.Lib (hid)

set_option maxHeartbeats 800000 in
theorem bits_any {w : World} {A : Option Addr} {n c : Nat} {xs : List Nat} (h : Sl .u32 w A n c xs) (hl : Lim 4294967296 xs) (hn : n ≤ 1099511627776) :
    Calls Try.prog 23 #[.slice A n c] w fun e w' => e = .returned (.int .i64 (bl (nv 4294967296 xs) : Nat)) ∧ w = w' := by
  have h1 := h.short hl
  have s1 := hid (short_any h hl)
  have q1 : (nd 4294967296 (nv 4294967296 xs)).length ≤ 1099511627776 := by have := nd_length_le (b := 4294967296) (by omega) hl; have := h.len; omega
  clear h hl
  generalize nv 4294967296 xs = p at *
  have e1 : nv 4294967296 (nd 4294967296 p) = p := nv_nd (by omega) p
  have k1 := nd_lim (b := 4294967296) (by omega) p
  have k2 : ∀ m, (nd 4294967296 p).length = m + 1 → (nd 4294967296 p)[m]?.getD 0 ≠ 0 := fun m hm => nd_top (by omega) hm
  generalize nd 4294967296 p = X at h1 s1 q1 e1 k1 k2
  subst e1
  generalize hm : X.length = m at *
  rcases Nat.eq_zero_or_pos m with h0 | h0
  · subst h0
    have hX : X = [] := List.eq_nil_of_length_eq_zero hm
    subst hX
    have hb : bl (nv 4294967296 []) = 0 := rfl
    rw [hb]
    clear hb k1 k2 hm
    go_enter Try.func23, Try.ntmps23
    go_wp2_with (go_at_call 37; refine s1.out.mono ?_; rintro e w' ⟨rfl, rfl⟩)
    go_ret
    exact ⟨rfl, rfl⟩
  · obtain ⟨j, rfl⟩ : ∃ j, m = j + 1 := ⟨m - 1, by omega⟩
    obtain ⟨t1, t2⟩ := bl_top hm k1 (k2 j rfl)
    obtain ⟨b, o, rfl, g1⟩ := h1.get (i := j) (by omega)
    have b1 := lim_getD (b := 4294967296) (by omega) k1 j
    rw [t1]
    clear k1 k2 hm h0 t1
    generalize X[j]?.getD 0 = x at *
    have hL := hid (fun W => Try.bits_Len32 (x : Int) W (by omega) (by omega))
    simp only [Int.toNat_natCast] at hL
    have hne : ((j : Int) + 1 == 0) = false := beq_eq_false_iff_ne.2 (by omega)
    go_enter Try.func23, Try.ntmps23
    go_wp2_with (first
      | (go_at_call 37; refine s1.out.mono ?_; rintro e w' ⟨rfl, rfl⟩)
      | (go_at_call 38; refine (hL.out _).mono ?_; rintro e w' ⟨rfl, rfl⟩))
    go_ret
    exact ⟨ret_int (by omega), rfl⟩

set_option maxHeartbeats 800000 in
theorem small_any {w : World} {n : Nat} (hn : n < 18446744073709551616) : Calls Try.prog 21 #[.int .u64 n] w (RetO .u32 23 (nd 4294967296 n) w) := by
  go_enter Try.func21, Try.ntmps21
  go_wp2_with fail
  have hv : nv 4294967296 [n % 4294967296, n / 4294967296] = n := by simp only [nv]; omega
  have hl : Lim 4294967296 [n % 4294967296, n / 4294967296] := fun y hy => by simp at hy; omega
  have ht := trim_any (Own.lit (k := .u32) (e := 23) w [n % 4294967296, n / 4294967296] 2 rfl (by simp [maxLen])).sl hl (by omega)
  rw [hv] at ht
  rw [show ((n : Int) % 4294967296) = ((n % 4294967296 : Nat) : Int) from by omega, show ((n : Int) / 4294967296) = ((n / 4294967296 : Nat) : Int) from by omega]
  refine ht.mono ?_
  intro E w' hr
  obtain ⟨A, c, rfl, ho, hx⟩ := hr.mono ((Ext.refl w).alloc _)
  clear ht hv hl
  go_wp2_with fail
  go_ret
  exact ⟨_, _, rfl, ho, hx⟩

theorem or_zero_u64 (x : Nat) (h : x < 4294967296) : bits BinOp.or IntKind.u64 0 (x : Int) = (x : Int) := by
  have := u64_or_nat 0 x (by omega) (by omega)
  simpa using this
theorem or_hi_u64 (x y : Nat) (h : x < 4294967296) (hy : y < 4294967296) : bits BinOp.or IntKind.u64 (x : Int) ((y : Int) * 4294967296) = ((x + 4294967296 * y : Nat) : Int) := by
  have e0 : (y : Int) * 4294967296 = ((y * 4294967296 : Nat) : Int) := by omega
  have e1 : y * 4294967296 ||| x = y * 4294967296 + x := nat_join 32 _ _ (by omega) (by omega)
  rw [e0, u64_or_nat _ _ (by omega) (by omega), Nat.or_comm, e1]
  congr 1
  omega

end Go.Proofs.Ytacihclonpbngaa
