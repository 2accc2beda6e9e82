
/-
  The walk of DigitsParse.
-/
import Derived.Test.YtmfgcjjoagdamaaKnown5
import Derived.Test.YtmfgcjjoagdamaaRParse
namespace Go.Proofs.Ytmfgcjjoagdamaa
open Go.RowKit
open Go.Lib (hid)

set_option maxHeartbeats 3200000 in
set_option maxRecDepth 100000 in
theorem digitsParse_any {w : World} {s : ByteArray} : Calls Try.prog 4 #[.string s] w (RetE (.bool true) w) := by
  by_cases h1 : 300 < s.size ∧ s.size ≤ 20000
  · have q1 : (300 : Int) < (s.size : Int) := by omega
    have q2 : (s.size : Int) ≤ 20000 := by omega
    clear h1
    go_enter Try.func4, Try.ntmps4
    go_wp2_with fail
    refine known_any5.mono ?_
    rintro E w1 ⟨rfl, x1⟩
    go_wp2_with fail
    go_ret
    exact ⟨rfl, x1⟩
  by_cases h2 : 20010 < s.size
  · have q1 : (300 : Int) < (s.size : Int) := by omega
    have q2 : ¬ (s.size : Int) ≤ 20000 := by omega
    have q3 : (20010 : Int) < (s.size : Int) := by omega
    clear h1 h2
    go_enter Try.func4, Try.ntmps4
    go_wp2_with fail
    refine known_any5.mono ?_
    rintro E w1 ⟨rfl, x1⟩
    go_wp2_with fail
    go_ret
    exact ⟨rfl, x1⟩
  by_cases h3 : 20000 < s.size
  · have pv := hid (parse_long (w := w) h3)
    have rv := hid (fun w' => rparse_long (w := w') h3)
    have HS := hid (show s.size ≤ 20010 by omega)
    have q1 : (300 : Int) < (s.size : Int) := by omega
    have q2 : ¬ (s.size : Int) ≤ 20000 := by omega
    have q3 : ¬ (20010 : Int) < (s.size : Int) := by omega
    clear h1 h2 h3
    go_enter Try.func4, Try.ntmps4
    go_wp2_with fail
    refine pv.out.mono ?_
    rintro E w1 ⟨b, A, n, c, rfl, hc, x1⟩
    have HB := hid (Bx.new w1 b A n c)
    have X2 := hid (x1.alloc (.cells #[.bool b, .slice A n c] 24))
    have HC := hid (hc.ext ((Ext.refl w1).alloc (.cells #[.bool b, .slice A n c] 24)))
    clear hc x1 pv
    go_wp2_with fail
    generalize w1.alloc (.cells #[.bool b, .slice A n c] 24) = w2 at *
    refine (rv.out w2).mono ?_
    rintro E w3 ⟨b', A', n', c', rfl, hc', x3⟩
    have x3' := x3.alloc (.cells #[.bool b', .slice A' n' c'] 24)
    have B2 := HB.out.ext x3'
    have B3 := Bx.new w3 b' A' n' c'
    have HC2 := hid (HC.out.ext x3')
    have HC3 := hid (hc'.ext ((Ext.refl w3).alloc (.cells #[.bool b', .slice A' n' c'] 24)))
    have X3 := hid (X2.out.trans x3')
    have hc0 := B2.c0
    have hc1 := B2.c1
    have hd0 := B3.c0
    have hd1 := B3.c1
    clear hc' x3 x3' B2 B3 HC HB X2 rv
    go_wp2_with fail
    generalize w3.alloc (.cells #[.bool b', .slice A' n' c'] 24) = w4 at *
    clear hc0 hc1 hd0 hd1
    refine (zsame_v HC2.out HC3.out (by have := HS.out; omega) rfl).mono ?_
    rintro E w5 ⟨rfl, x5⟩
    go_wp2_with fail
    refine known_any5.mono ?_
    rintro E w6 ⟨rfl, x6⟩
    go_wp2_with fail
    go_ret
    exact ⟨rfl, (X3.out.trans x5).trans x6⟩
  · have pv := hid (parse_v (w := w) (s := s) (by omega))
    have rv := hid (fun w' => rparse_v (w := w') (s := s) (by omega))
    have HS := hid (show s.size ≤ 20010 by omega)
    have q1 : ¬ (300 : Int) < (s.size : Int) := by omega
    have q3 : ¬ (20010 : Int) < (s.size : Int) := by omega
    clear h1 h2 h3
    generalize pz (byt s) = z at *
    generalize pe (byt s) = e at *
    go_enter Try.func4, Try.ntmps4
    go_wp2_with fail
    refine pv.out.mono ?_
    rintro E w1 ⟨b, A, n, c, rfl, hc, x1⟩
    have HB := hid (Bx.new w1 b A n c)
    have X2 := hid (x1.alloc (.cells #[.bool b, .slice A n c] 24))
    have HC := hid (hc.ext ((Ext.refl w1).alloc (.cells #[.bool b, .slice A n c] 24)))
    clear hc x1 pv
    go_wp2_with fail
    generalize w1.alloc (.cells #[.bool b, .slice A n c] 24) = w2 at *
    refine (rv.out w2).mono ?_
    rintro E w3 ⟨b', A', n', c', rfl, hc', x3⟩
    have x3' := x3.alloc (.cells #[.bool b', .slice A' n' c'] 24)
    have B2 := HB.out.ext x3'
    have B3 := Bx.new w3 b' A' n' c'
    have HC2 := hid (HC.out.ext x3')
    have HC3 := hid (hc'.ext ((Ext.refl w3).alloc (.cells #[.bool b', .slice A' n' c'] 24)))
    have X3 := hid (X2.out.trans x3')
    have hc0 := B2.c0
    have hc1 := B2.c1
    have hd0 := B3.c0
    have hd1 := B3.c1
    clear hc' x3 x3' B2 B3 HC HB X2 rv
    go_wp2_with fail
    generalize w3.alloc (.cells #[.bool b', .slice A' n' c'] 24) = w4 at *
    clear hc0 hc1 hd0 hd1
    refine (zsame_v HC2.out HC3.out (by have := HS.out; omega) rfl).mono ?_
    rintro E w5 ⟨rfl, x5⟩
    go_wp2_with fail
    refine known_any5.mono ?_
    rintro E w6 ⟨rfl, x6⟩
    go_wp2_with fail
    go_ret
    exact ⟨rfl, (X3.out.trans x5).trans x6⟩
end Go.Proofs.Ytmfgcjjoagdamaa
