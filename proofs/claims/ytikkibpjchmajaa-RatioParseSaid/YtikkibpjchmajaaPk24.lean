/-
  Bytes turned round: slices.Reverse.
-/
import Derived.Test.YtikkibpjchmajaaPk23
import Derived.Shelf.RegionOpenPlain
namespace Go.Proofs.Ytikkibpjchmajaa
open Go.RowKit
open Go.Lib (hid)

/-- The list half turned round. -/
def Half (n i : Nat) (zs l : List Nat) : Prop := ∀ k, k < n → l[k]?.getD 0 = if k < i ∨ n ≤ k + i then zs[n - 1 - k]?.getD 0 else zs[k]?.getD 0
theorem half_step {n i : Nat} {zs l : List Nat} (hl : l.length = n) (h : Half n i zs l) (hi : i + i + 1 < n) : Half n (i + 1) zs ((l.set i (l[n - 1 - i]?.getD 0)).set (n - 1 - i) (l[i]?.getD 0)) := by
  intro k hk
  have h1 := h i (by omega)
  have h2 := h (n - 1 - i) (by omega)
  rw [if_neg (by omega)] at h1 h2
  by_cases e1 : k = n - 1 - i
  · subst e1
    rw [List.getElem?_set_self (by rw [List.length_set]; omega), if_pos (by omega), Option.getD_some, h1]
    congr 2; omega
  · rw [List.getElem?_set_ne (by omega)]
    by_cases e2 : k = i
    · subst e2
      rw [List.getElem?_set_self (by omega), if_pos (by omega), Option.getD_some, h2]
    · rw [List.getElem?_set_ne (by omega), h k hk]
      by_cases e3 : k < i ∨ n ≤ k + i
      · rw [if_pos e3, if_pos (by omega)]
      · rw [if_neg e3, if_neg (by omega)]
theorem half_end {n i : Nat} {zs l : List Nat} (hz : zs.length = n) (hl : l.length = n) (h : Half n i zs l) (hi : n ≤ i + i + 1) : l = zs.reverse := by
  apply List.ext_getElem
  · rw [List.length_reverse, hl, hz]
  · intro k h1 h2
    have h3 := h k (by omega)
    rw [List.getElem?_eq_getElem h1, Option.getD_some] at h3
    rw [h3, List.getElem_reverse]
    split
    · rw [List.getElem?_eq_getElem (by omega), Option.getD_some]
      congr 1; omega
    · rw [List.getElem?_eq_getElem (by omega), Option.getD_some]
      congr 1; omega
theorem gb_drew {a b : World} {row : Option Nat} (h : a.grownBy b row) : a.grownBy b.drew row := ⟨h.os, h.tape, h.output, h.size, h.block⟩

set_option maxHeartbeats 1600000 in
theorem rev_v {w : World} {lo : Nat} {B : Option Addr} {n c : Nat} {zs : List Nat} (h : Own .u8 5 w lo B n c zs) :
    Calls Try.prog 76 #[.slice B n c] w fun E w' => E = .returned (.tuple #[]) ∧ Own .u8 5 w' lo B n c zs.reverse ∧ w.grownBy w' (B.map (·.block)) := by
  have HZ := hid h.len
  have H := hid h
  have hcap : n ≤ maxLen := Nat.le_trans h.cap.1 h.cap.2
  simp only [maxLen] at hcap
  clear h
  go_enter Try.func76, Try.ntmps76
  go_wp2_with fail
  go_loopw [2, 3] (fun si sj wr => ∃ (i : Nat) (jz : Int) (l : List Nat), i ≤ n ∧ si = .int .i64 i ∧ sj = .int .i64 jz ∧ jz = (n : Int) - 1 - i ∧ l.length = n ∧ Half n i zs l ∧ Own .u8 5 wr lo B n c l ∧ w.grownBy wr (B.map (·.block))) (fun si _ _ => n - (intOf si).toNat)
  case atStart => exact ⟨0, _, zs, by omega, rfl, rfl, by omega, HZ.out, fun k hk => by rw [if_neg (by omega)], H.out, gb_refl _ _⟩
  case round =>
    obtain ⟨i, jz, l, hi, rfl, rfl, hj, hl, hh, ho, hg⟩ := hrel
    have HH := hid hh
    have HO := hid ho
    have HG := hid hg
    have HL := hid hl
    clear hh ho hg hl
    by_cases hlt : i + i + 1 < n
    · rcases HO.out.form with ⟨_, h0, _⟩ | ⟨g, rfl, hg1, hg2⟩
      · omega
      · obtain ⟨j, hje⟩ : ∃ j, j = n - 1 - i := ⟨_, rfl⟩
        have hjn : j < n := by omega
        obtain rfl : jz = (j : Int) := by omega
        have ci := HO.out.drew.cell (i := i) (by omega)
        have cj := HO.out.drew.cell (i := j) hjn
        have fi := HO.out.drew.frozen i
        have fj := HO.out.drew.frozen j
        have ci0 := HO.out.cell (i := i) (by omega)
        have cj0 := HO.out.cell (i := j) hjn
        have fi0 := HO.out.frozen i
        have fj0 := HO.out.frozen j
        have hmx : Try.prog.follows .mixedOrders = true := by kernel_rfl
        have hij : i < j := by omega
        have hin : i < n := by omega
        clear hj
        have HJ := hid hje
        clear hje
        go_wp2_with fail
        go_region_o
        go_wp2
        go_roundw
        case rel =>
          refine ⟨i + 1, (j : Int) - 1, _, by omega, by go_num, by go_num, by have := HJ.out; omega, ?_, half_step HL.out HH.out (by omega), ?_, ?_⟩
          · rw [List.length_set, List.length_set]; exact HL.out
          · rw [← HJ.out]; exact (HO.out.drew.set i _).set j _
          · exact gb_set (gb_set (gb_drew HG.out) _) _
        case measure => simp [intOf]; omega
    · go_wp2_with fail
      go_end0
      rw [← half_end HZ.out HL.out HH.out (by omega)]
      exact ⟨rfl, HO.out, HG.out⟩
end Go.Proofs.Ytikkibpjchmajaa

