
/-
  The contracts of the references' Same.
-/
import Derived.Test.YtmfgcjjoagdamaaCmp
namespace Go.Proofs.Ytmfgcjjoagdamaa
open Go.RowKit
open Go.Lib (hid)

theorem ne_of_digit {xs ys : List Nat} {i : Nat} (h : xs[i]?.getD 0 ≠ ys[i]?.getD 0) : xs ≠ ys := fun e => h (by rw [e])

set_option maxHeartbeats 800000 in
theorem same_yes {w : World} {A A' : Option Addr} {n c n' c' : Nat} {xs ys : List Nat} (h : Sl .u32 w A n c xs) (h' : Sl .u32 w A' n' c' ys) (he : xs = ys) (hn : n ≤ 1099511627776) :
    Calls Try.prog 56 #[.slice A n c, .slice A' n' c'] w (RetE (.bool true) w) := by
  subst he
  have e1 : n' = n := h'.len.symm.trans h.len
  subst e1
  go_enter Try.func56, Try.ntmps56
  go_wp2_with fail
  go_loopw [5] (fun s wr => ∃ i : Nat, i ≤ n' ∧ s = .int .i64 i ∧ Ext w wr) (fun s _ => n' - (intOf s).toNat)
  case atStart => exact ⟨0, Nat.zero_le _, rfl, Ext.refl _⟩
  case round =>
    obtain ⟨i, hi, rfl, hx⟩ := hrel
    have H1 := hid (h.ext hx)
    have H2 := hid (h'.ext hx)
    have HE := hid hx
    clear hx h h'
    by_cases hlt : i < n'
    · obtain ⟨b1, o1, rfl, g1⟩ := H1.out.get hlt
      obtain ⟨b2, o2, rfl, g2⟩ := H2.out.get hlt
      generalize xs[i]?.getD 0 = x at *
      go_wp2_with (go_quiet (fail))
      go_roundw
      case rel => exact ⟨i + 1, by omega, by go_num, HE.out.drewN _⟩
      case measure => simp [intOf]; omega
    · go_wp2_with (go_quiet (fail))
      go_ret
      exact ⟨rfl, HE.out⟩

set_option maxHeartbeats 800000 in
theorem same_no {w : World} {A A' : Option Addr} {n c n' c' : Nat} {xs ys : List Nat} (h : Sl .u32 w A n c xs) (h' : Sl .u32 w A' n' c' ys) (he : xs ≠ ys) (hn : n ≤ 1099511627776) (hn' : n' ≤ 1099511627776) :
    Calls Try.prog 56 #[.slice A n c, .slice A' n' c'] w (RetE (.bool false) w) := by
  by_cases e1 : n = n'
  · subst e1
    go_enter Try.func56, Try.ntmps56
    go_wp2_with fail
    go_loopw [5] (fun s wr => ∃ i : Nat, i ≤ n ∧ s = .int .i64 i ∧ xs.take i = ys.take i ∧ Ext w wr) (fun s _ => n - (intOf s).toNat)
    case atStart => exact ⟨0, Nat.zero_le _, rfl, by simp, Ext.refl _⟩
    case round =>
      obtain ⟨i, hi, rfl, ht, hx⟩ := hrel
      have H1 := hid (h.ext hx)
      have H2 := hid (h'.ext hx)
      have HE := hid hx
      have HT := hid ht
      have HN := hid he
      clear hx h h' ht he
      by_cases hlt : i < n
      · obtain ⟨b1, o1, rfl, g1⟩ := H1.out.get hlt
        obtain ⟨b2, o2, rfl, g2⟩ := H2.out.get hlt
        have hstep : xs[i]?.getD 0 = ys[i]?.getD 0 → xs.take (i + 1) = ys.take (i + 1) := fun e => by
          have l1 := H1.out.len
          have l2 := H2.out.len
          rw [List.getElem?_eq_getElem (by omega), List.getElem?_eq_getElem (by omega)] at e
          rw [List.take_succ_eq_append_getElem (by omega), List.take_succ_eq_append_getElem (by omega), HT.out]
          exact congrArg (fun z => ys.take i ++ [z]) (by simpa using e)
        have HS := hid hstep
        clear hstep
        generalize xs[i]?.getD 0 = x at *
        generalize ys[i]?.getD 0 = y at *
        by_cases hxy : x = y
        · subst hxy
          have hs := hid (HS.out rfl)
          clear HS
          go_wp2_with (go_quiet (fail))
          go_roundw
          case rel => exact ⟨i + 1, by omega, by go_num, hs.out, HE.out.drewN _⟩
          case measure => simp [intOf]; omega
        · have hb : ((x : Int) != (y : Int)) = true := by rw [bne_iff_ne]; omega
          go_wp2_with (go_quiet (fail))
          go_ret
          exact ⟨rfl, HE.out.drewN _⟩
      · exfalso
        have l1 := H1.out.len
        have l2 := H2.out.len
        apply HN.out
        have := HT.out
        rwa [List.take_of_length_le (by omega), List.take_of_length_le (by omega)] at this
  · have hb : ((n : Int) != (n' : Int)) = true := by rw [bne_iff_ne]; omega
    go_enter Try.func56, Try.ntmps56
    go_wp2_with fail
    go_ret
    exact ⟨rfl, Ext.refl _⟩
end Go.Proofs.Ytmfgcjjoagdamaa
