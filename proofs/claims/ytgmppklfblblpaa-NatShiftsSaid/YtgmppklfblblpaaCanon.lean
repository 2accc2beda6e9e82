/-
  The contract of 'canonical' of layer 1's statements.
-/
import Derived.Test.YtgmppklfblblpaaNum
namespace Go.Proofs.Ytgmppklfblblpaa
open Go.RowKit
open Go.Lib (hid)

set_option maxHeartbeats 800000 in
theorem canonical_c {K : Nat} {w : World} {lo : Nat} {A : Option Addr} {n c m : Nat} (h : Cn K w lo A n c m) (hK : K ≤ 1099511627776) : Calls Try.prog 21 #[.slice A n c] w (RetE (.bool true) w) := by
  have hs := h.sl
  have hl := h.len
  have hn := h.2
  have ht : ∀ j, n = j + 1 → (nd 4294967296 m)[j]?.getD 0 ≠ 0 := fun j hj => nd_top (by omega) (by rw [← hl, hj])
  clear h hl
  generalize nd 4294967296 m = X at *
  rcases Nat.eq_zero_or_pos n with h0 | h0
  · subst h0
    clear ht
    go_enter Try.func21, Try.ntmps21
    go_wp2_with (go_quiet (fail))
    go_ret
    exact ⟨rfl, Ext.refl _⟩
  · obtain ⟨j, rfl⟩ : ∃ j, n = j + 1 := ⟨n - 1, by omega⟩
    obtain ⟨b, o, rfl, g1⟩ := hs.get (i := j) (by omega)
    have hx := ht j rfl
    generalize X[j]?.getD 0 = x at *
    have hne : ((j : Int) + 1 == 0) = false := beq_eq_false_iff_ne.2 (by omega)
    have hxn : ((x : Int) != 0) = true := by rw [bne_iff_ne]; omega
    clear ht hx
    go_enter Try.func21, Try.ntmps21
    go_wp2_with (go_quiet (fail))
    go_ret
    exact ⟨rfl, Ext.refl _⟩
end Go.Proofs.Ytgmppklfblblpaa
