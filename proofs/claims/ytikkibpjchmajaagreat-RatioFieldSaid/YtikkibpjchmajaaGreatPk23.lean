/-
  What WholeRing needs beside: a copy of one's own; May of any number, the layer's and the document's.
-/
import Derived.Test.YtikkibpjchmajaaGreatPk21
import Derived.Test.YtikkibpjchmajaaGreatPk13
import Derived.Test.YtikkibpjchmajaaGreatPk22
import Derived.Test.YtikkibpjchmajaaGreatPk14
import Derived.Test.YtikkibpjchmajaaGreatPk8
namespace Go.Proofs.YtikkibpjchmajaaGreat
open Go.RowKit
open Go.Lib (hid)

/-- Canonical, as May asks it. -/
def mayB (s : Bool) (xs : List Nat) : Bool := if xs = [] then !s else decide (xs.getLast? ≠ some 0)

theorem may_any {w : World} {s : Bool} {A : Option Addr} {n c : Nat} {xs : List Nat} (h : Sl .u32 w A n c xs) (hn : n ≤ 1000000) : Calls Tryz.prog 48 #[.agg #[.bool s, .slice A n c]] w (RetE (.bool (mayB s xs)) w) := by
  have X := hid ((Ext.refl w).alloc (.cells #[.bool s, .slice A n c] 24))
  by_cases h0 : xs = []
  · have hn0 : n = 0 := by rw [← h.len, h0]; rfl
    have HM : Hid (mayB s xs = !s) := by show _ = _; unfold mayB; rw [if_pos h0]
    subst hn0
    clear h h0
    cases s
    · go_enter Tryz.func48, Tryz.ntmps48
      go_wp2_with (go_quiet (fail))
      go_ret
      exact ⟨by rw [HM.out]; rfl, X.out⟩
    · go_enter Tryz.func48, Tryz.ntmps48
      go_wp2_with (go_quiet (fail))
      go_ret
      exact ⟨by rw [HM.out]; rfl, X.out⟩
  · obtain ⟨j, rfl⟩ : ∃ j, n = j + 1 := by
      have := h.len
      have := List.length_pos_iff.2 h0
      exact ⟨n - 1, by omega⟩
    have hlen := h.len
    obtain ⟨b, o, rfl, _, hc⟩ := (h.ext X.out).at_ (by omega)
    have hlast : xs[j]? = some (xs.getLast h0) := by rw [List.getLast_eq_getElem, List.getElem?_eq_getElem (by omega)]; congr 1; congr 1; omega
    have hg := hc j _ hlast
    have hcap := h.cap
    have HM : Hid (mayB s xs = decide (xs.getLast h0 ≠ 0)) := by
      show _ = _
      unfold mayB
      rw [if_neg h0, List.getLast?_eq_some_getLast h0]
      simp
    generalize xs.getLast h0 = x at *
    have hne : ((j : Int) + 1 == 0) = false := beq_eq_false_iff_ne.2 (by omega)
    have hpos : (0 : Int) < (j : Int) + 1 := by omega
    clear hlast hc h hlen h0
    by_cases hx : x = 0
    · subst hx
      have HM' : Hid (mayB s xs = false) := by show _ = _; rw [HM.out]; rfl
      clear HM
      go_enter Tryz.func48, Tryz.ntmps48
      go_wp2_with (go_quiet (fail))
      go_ret
      exact ⟨by rw [HM'.out]; rfl, X.out⟩
    · have hxn : ((x : Int) != 0) = true := by rw [bne_iff_ne]; omega
      have HM' : Hid (mayB s xs = true) := by show _ = _; rw [HM.out]; exact decide_eq_true hx
      clear HM
      go_enter Tryz.func48, Tryz.ntmps48
      go_wp2_with (go_quiet (fail))
      go_ret
      exact ⟨by rw [HM'.out]; rfl, X.out⟩

theorem zsame_ne {w : World} {s t : Bool} {A B : Option Addr} {n c m d : Nat} (hst : s ≠ t) :
    Calls Tryz.prog 33 #[.agg #[.bool s, .slice A n c], .agg #[.bool t, .slice B m d]] w (RetE (.bool false) w) := by
  have X := hid (((Ext.refl w).alloc (.cells #[.bool s, .slice A n c] 24)).alloc (.cells #[.bool t, .slice B m d] 24))
  cases s <;> cases t
  · exact absurd rfl hst
  · clear hst
    go_enter Tryz.func33, Tryz.ntmps33
    go_wp2_with fail
    go_ret
    exact ⟨rfl, X.out⟩
  · clear hst
    go_enter Tryz.func33, Tryz.ntmps33
    go_wp2_with fail
    go_ret
    exact ⟨rfl, X.out⟩
  · exact absurd rfl hst
theorem zsame_no {w : World} {s : Bool} {A B : Option Addr} {n c m d : Nat} (h : ∀ W, Ext w W → Calls Tryz.prog 53 #[.slice A n c, .slice B m d] W (RetE (.bool false) W)) :
    Calls Tryz.prog 33 #[.agg #[.bool s, .slice A n c], .agg #[.bool s, .slice B m d]] w (RetE (.bool false) w) := by
  have X := hid (((Ext.refl w).alloc (.cells #[.bool s, .slice A n c] 24)).alloc (.cells #[.bool s, .slice B m d] 24))
  have hc := hid (h _ X.out)
  clear h
  cases s
  · go_enter Tryz.func33, Tryz.ntmps33
    go_wp2_with fail
    refine hc.out.mono ?_
    rintro E w1 ⟨rfl, x1⟩
    go_wp2_with fail
    go_ret
    exact ⟨rfl, X.out.trans x1⟩
  · go_enter Tryz.func33, Tryz.ntmps33
    go_wp2_with fail
    refine hc.out.mono ?_
    rintro E w1 ⟨rfl, x1⟩
    go_wp2_with fail
    go_ret
    exact ⟨rfl, X.out.trans x1⟩
/-- A number against its canonical form. -/
theorem zsame_may {w : World} {s t : Bool} {A B : Option Addr} {n c m d K lo : Nat} {xs : List Nat} (h : Sl .u32 w A n c xs) (hx : Lim 4294967296 xs) (hn : n ≤ 1000000) (h' : Ci K w lo t B m d (zv s (nv 4294967296 xs))) (hK : K ≤ 1000000) :
    Calls Tryz.prog 33 #[.agg #[.bool s, .slice A n c], .agg #[.bool t, .slice B m d]] w (RetE (.bool (mayB s xs)) w) := by
  have ht := h'.1
  have hc := h'.2
  rw [zv_abs] at hc
  rw [zv_lt] at ht
  by_cases h0 : xs = []
  · subst h0
    have hM : mayB s [] = !s := rfl
    rw [hM]
    have ht : t = false := by rw [ht]; cases s <;> rfl
    subst ht
    cases s
    · exact zsame_of rfl fun W hW => same_yes (h.ext hW) (hc.sl.ext hW) (by rfl) (by omega)
    · exact zsame_ne (by decide)
  · by_cases hl : xs.getLast? = some 0
    · have hM : mayB s xs = false := by unfold mayB; rw [if_neg h0]; exact decide_eq_false (fun e => e hl)
      rw [hM]
      by_cases hst : s = t
      · subst hst
        refine zsame_no fun W hW => same_no (h.ext hW) (hc.sl.ext hW) (fun e => ?_) (by omega) (by have := hc.2; omega)
        have := nd_last (b := 4294967296) (by omega) (nv 4294967296 xs)
        rw [← e] at this
        exact this hl
      · exact zsame_ne hst
    · have hM : mayB s xs = true := by unfold mayB; rw [if_neg h0]; exact decide_eq_true hl
      have he : xs = nd 4294967296 (nv 4294967296 xs) := eq_nd (by omega) ⟨hx, hl⟩ rfl
      have hp : 0 < nv 4294967296 xs := by
        rcases Nat.eq_zero_or_pos (nv 4294967296 xs) with h1 | h1
        · rw [h1, nd_zero] at he; exact absurd he h0
        · exact h1
      rw [hM]
      have hst : s = t := by rw [ht, decide_eq_true hp, Bool.and_true]
      exact zsame_of hst fun W hW => same_yes (h.ext hW) (hc.sl.ext hW) he (by omega)
end Go.Proofs.YtikkibpjchmajaaGreat

