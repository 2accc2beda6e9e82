
/-
  The walk of DigitsOnly.
-/
import Derived.Test.YtmfgcjjoagdamaaKnown5
namespace Go.Proofs.Ytmfgcjjoagdamaa
open Go.RowKit
open Go.Lib (hid)

/-- The highest limb of a canonical number is not 0. -/
theorem cn_hi {K : Nat} {w : World} {lo : Nat} {A : Option Addr} {n c m : Nat} (h : Cn K w lo A n c m) (h0 : m ≠ 0) : ∃ g y, A = some ⟨g, 0, none⟩ ∧ 0 < n ∧ (∀ w', Ext w w' → w'.cell? ⟨g, n - 1, none⟩ = some (.int .u32 ((y : Nat) : Int))) ∧ y ≠ 0 := by
  have hn := h.lenp h0
  rcases h.1.form with ⟨_, e, _⟩ | ⟨g, rfl, _, _⟩
  · omega
  · refine ⟨g, _, rfl, hn, fun w' hx => (h.1.ext hx).cell (i := n - 1) (by omega), fun e => ?_⟩
    have hl := h.1.len
    have := nd_last (b := 4294967296) (by omega) m
    rw [List.getLast?_eq_getElem?, hl] at this
    rw [List.getElem?_eq_getElem (by omega)] at this e
    simp at e
    rw [e] at this
    exact this rfl

set_option maxHeartbeats 3200000 in
set_option maxRecDepth 100000 in
theorem digitsOnly_any {w : World} {s : ByteArray} : Calls Try.prog 5 #[.string s] w (RetE (.bool true) w) := by
  by_cases hs : 2000 < s.size
  · have hs' : (2000 : Int) < (s.size : Int) := by omega
    clear hs
    go_enter Try.func5, Try.ntmps5
    go_wp2_with fail
    refine known_any5.mono ?_
    rintro E w1 ⟨rfl, x1⟩
    go_wp2_with fail
    go_ret
    exact ⟨rfl, x1⟩
  · have hs' : ¬ (2000 : Int) < (s.size : Int) := by omega
    have HS := hid hs
    clear hs
    by_cases hg : Good (byt s)
    · have hE : bts (tx (pz (byt s))) = s := by rw [good_tx hg, bts_byt]
      have pv := hid (parse_is (w := w) (s := s) (by have := HS.out; omega) rfl (pe_good hg))
      have HE := hid hE
      clear hg hE
      generalize pz (byt s) = z at *
      go_enter Try.func5, Try.ntmps5
      go_wp2_with fail
      refine pv.out.mono ?_
      rintro E w1 ⟨b, A, n, c, rfl, hc, x1⟩
      have HB := hid (Bx.new w1 b A n c)
      have hc0 := HB.out.c0
      have hc1 := HB.out.c1
      have X2 := hid (x1.alloc (.cells #[.bool b, .slice A n c] 24))
      have HC := hid (hc.ext ((Ext.refl w1).alloc (.cells #[.bool b, .slice A n c] 24)))
      clear hc x1 pv
      go_wp2_with fail
      generalize w1.alloc (.cells #[.bool b, .slice A n c] 24) = w2 at *
      refine (text_is HC.out.iz (by have := HS.out; omega) HE.out).mono ?_
      rintro E w3 ⟨rfl, x3⟩
      have hd0 := (HB.out.ext x3).c0
      have hd1 := (HB.out.ext x3).c1
      clear hc0 hc1
      by_cases h0 : z = 0
      · obtain ⟨hb, hn⟩ := HC.out
        have hn0 : n = 0 := hn.len0 (by rw [h0]; rfl)
        have hb0 : b = false := by rw [hb, h0]; rfl
        subst hn0 hb0
        have X3 := hid (X2.out.trans x3)
        clear hb hn x3
        go_wp2_with fail
        refine known_any5.mono ?_
        rintro E w4 ⟨rfl, x4⟩
        go_wp2_with fail
        go_ret
        exact ⟨rfl, X3.out.trans x4⟩
      · obtain ⟨g, y, rfl, hn, hya, hy0⟩ := cn_hi HC.out.2 (by omega)
        have hy := hya w3 x3
        have hmx := HC.out.2.1.cap.2
        simp only [maxLen] at hmx
        have X3 := hid (X2.out.trans x3)
        have hyb : ((y : Int) == 0) = false := beq_eq_false_iff_ne.2 (by omega)
        have hyc : ((y : Int) != 0) = true := by rw [bne, hyb]; rfl
        have hyd : ¬ y = 0 := hy0
        have hnb : ((n : Int) == 0) = false := beq_eq_false_iff_ne.2 (by omega)
        have hnc : n ≤ c := HC.out.2.sl.cap
        have hnp : (0 : Int) < (n : Int) := by omega
        have hnn : n - 1 < n := by omega
        clear x3 hy0 hya
        go_wp2_with fail
        refine known_any5.mono ?_
        rintro E w4 ⟨rfl, x4⟩
        go_wp2_with fail
        go_ret
        exact ⟨rfl, X3.out.trans x4⟩
    · have pv := hid (parse_is (w := w) (s := s) (by have := HS.out; omega) (pe_bad hg).2 (pe_bad hg).1)
      clear hg
      go_enter Try.func5, Try.ntmps5
      go_wp2_with fail
      refine pv.out.mono ?_
      rintro E w1 ⟨b, A, n, c, rfl, hc, x1⟩
      obtain rfl : n = 0 := hc.2.len0 rfl
      have HB := hid (Bx.new w1 b A 0 c)
      have hc1 := HB.out.c1
      have X2 := hid (x1.alloc (.cells #[.bool b, .slice A 0 c] 24))
      clear hc x1 pv
      go_wp2_with fail
      refine known_any5.mono ?_
      rintro E w4 ⟨rfl, x4⟩
      go_wp2_with fail
      go_ret
      exact ⟨rfl, X2.out.trans x4⟩
end Go.Proofs.Ytmfgcjjoagdamaa
