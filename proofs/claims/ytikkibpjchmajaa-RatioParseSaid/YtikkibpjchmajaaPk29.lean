/-
  The contract of ratio.Parse. Printed by wip/gen/rat.py.
-/
import Derived.Test.YtikkibpjchmajaaPk27
import Derived.Test.YtikkibpjchmajaaPk28
namespace Go.Proofs.Ytikkibpjchmajaa
open Go.RowKit
open Go.Lib (hid)

set_option maxHeartbeats 6400000 in
set_option maxRecDepth 100000 in
theorem qparse_long {w : World} {s : ByteArray} (hs : 20000 < s.size) : Calls Try.prog 18 #[.string s] w (RetRN 3 w) := by
  have hs' : (20000 : Int) < (s.size : Int) := by omega
  clear hs
  go_enter Try.func18, Try.ntmps18
  go_upto_region 1 with fail
  have hy1 := hid ((Ext.refl w).alloc (.cells #[.bool false, .slice none 0 0, .bool false, .slice none 0 0] 27))
  have Bo_ := (Bk.new w 27 #[.bool false, .slice none 0 0, .bool false, .slice none 0 0])
  have Bo := hid Bo_
  clear Bo_
  generalize (w.alloc (.cells #[.bool false, .slice none 0 0, .bool false, .slice none 0 0] 27)) = w1 at *
  have X1 := hid ((Ext.refl _).trans hy1.out)
  obtain ⟨f2_0, f2_1, f2_2, f2_3, f2_4, f2_5, f2_6, f2_7⟩ : w1.cell? ⟨w.heap.size, 0, none⟩ = some (.bool false) ∧ w1.cell? ⟨w.heap.size, 1, none⟩ = some (.slice none 0 0) ∧ w1.cell? ⟨w.heap.size, 2, none⟩ = some (.bool false) ∧ w1.cell? ⟨w.heap.size, 3, none⟩ = some (.slice none 0 0) ∧ w1.frozen? ⟨w.heap.size, 0, none⟩ = false ∧ w1.frozen? ⟨w.heap.size, 1, none⟩ = false ∧ w1.frozen? ⟨w.heap.size, 2, none⟩ = false ∧ w1.frozen? ⟨w.heap.size, 3, none⟩ = false := ⟨Bo.out.c 0, Bo.out.c 1, Bo.out.c 2, Bo.out.c 3, Bo.out.fr 0, Bo.out.fr 1, Bo.out.fr 2, Bo.out.fr 3⟩
  go_wp2_with fail
  clear f2_0 f2_1 f2_2 f2_3 f2_4 f2_5 f2_6 f2_7
  have HG2 := hid (show w1.grownBy ((((w1.setCell ⟨w.heap.size, 0, none⟩ (.bool false)).setCell ⟨w.heap.size, 1, none⟩ (.slice none 0 0)).setCell ⟨w.heap.size, 2, none⟩ (.bool false)).setCell ⟨w.heap.size, 3, none⟩ (.slice none 0 0)) (some (w.heap.size)) from gb4 w1 (w.heap.size) (.bool false) (.slice none 0 0) (.bool false) (.slice none 0 0))
  have HO2 := hid Bo.out
  have HP2 := hid (show Bk 27 ((((w1.setCell ⟨w.heap.size, 0, none⟩ (.bool false)).setCell ⟨w.heap.size, 1, none⟩ (.slice none 0 0)).setCell ⟨w.heap.size, 2, none⟩ (.bool false)).setCell ⟨w.heap.size, 3, none⟩ (.slice none 0 0)) (w.heap.size) #[.bool false, .slice none 0 0, .bool false, .slice none 0 0] from Bo.out.put4 (.bool false) (.slice none 0 0) (.bool false) (.slice none 0 0))
  generalize ((((w1.setCell ⟨w.heap.size, 0, none⟩ (.bool false)).setCell ⟨w.heap.size, 1, none⟩ (.slice none 0 0)).setCell ⟨w.heap.size, 2, none⟩ (.bool false)).setCell ⟨w.heap.size, 3, none⟩ (.slice none 0 0)) = w2 at *
  have X2 := hid (X1.out.gb HG2.out (by omega))
  refine ret_re rfl HP2.out rfl rfl rfl ⟨rfl, X2.out⟩

set_option maxHeartbeats 6400000 in
set_option maxRecDepth 100000 in
theorem qparse_nA {w : World} {s d e : ByteArray} {K : Nat} {N D v2 : Int} (hs : s.size ≤ 20000) (hK : K ≤ 80000) (hc : ∀ w, Calls Try.prog 45 #[.string s, .string ⟨#[47]⟩] w (RetE (.tuple #[.string d, .string e, .bool false]) w))
    (h1 : ∀ w, Calls Try.prog 46 #[.string d] w (RetIE K N 4 w)) (h2 : ∀ w, Calls Try.prog 46 #[.string ⟨#[49]⟩] w (RetIE K D v2 w)) :
    Calls Try.prog 18 #[.string s] w (RetRN 4 w) := by
  have hs' : ¬ (20000 : Int) < (s.size : Int) := by omega
  have HC := hid hc
  have H1 := hid h1
  have H2 := hid h2
  clear hc h1 h2 hs
  go_enter Try.func18, Try.ntmps18
  go_upto_region 1 with fail
  have hy1 := hid ((Ext.refl w).alloc (.cells #[.bool false, .slice none 0 0, .bool false, .slice none 0 0] 27))
  have Bo_ := (Bk.new w 27 #[.bool false, .slice none 0 0, .bool false, .slice none 0 0])
  have Bo := hid Bo_
  clear Bo_
  generalize (w.alloc (.cells #[.bool false, .slice none 0 0, .bool false, .slice none 0 0] 27)) = w1 at *
  have X1 := hid ((Ext.refl _).trans hy1.out)
  go_upto_region 7 with (first
    | ((go_at_call 45); (with_reducible refine (HC.out _).mono ?_); rintro E2 w2 ⟨rfl, hr2⟩; have X2 := hid (X1.out.trans hr2); have hy2 := hid hr2; clear hr2)
    | ((go_at_call 46); (with_reducible refine (H1.out _).mono ?_); rintro E3 w3 ⟨b3, A3, n3, c3, rfl, o3, hr3⟩; have X3 := hid (X2.out.trans hr3); have hy3 := hid hr3; clear hr3; have O3 := hid (o3.mono X2.out.size); clear o3))
  have hy4 := hid ((Ext.refl w3).alloc (.cells #[.bool b3, .slice A3 n3 c3] 24))
  have Bn_ := (Bk.new w3 24 #[.bool b3, .slice A3 n3 c3])
  have Bn := hid Bn_
  clear Bn_
  generalize (w3.alloc (.cells #[.bool b3, .slice A3 n3 c3] 24)) = w4 at *
  have X4 := hid (X3.out.trans hy4.out)
  go_upto_region 8 with (first
    | ((go_at_call 46); (with_reducible refine (H2.out _).mono ?_); rintro E5 w5 ⟨b5, A5, n5, c5, rfl, o5, hr5⟩; have X5 := hid (X4.out.trans hr5); have hy5 := hid hr5; clear hr5; have O5 := hid (o5.mono X4.out.size); clear o5))
  have hy6 := hid ((Ext.refl w5).alloc (.cells #[.bool b5, .slice A5 n5 c5] 24))
  have Bm_ := (Bk.new w5 24 #[.bool b5, .slice A5 n5 c5])
  have Bm := hid Bm_
  clear Bm_
  generalize (w5.alloc (.cells #[.bool b5, .slice A5 n5 c5] 24)) = w6 at *
  have X6 := hid (X5.out.trans hy6.out)
  obtain ⟨f4_0, f4_1, f4_2, f4_3⟩ : w6.cell? ⟨w3.heap.size, 0, none⟩ = some (.bool b3) ∧ w6.cell? ⟨w3.heap.size, 1, none⟩ = some (.slice A3 n3 c3) ∧ w6.cell? ⟨w5.heap.size, 0, none⟩ = some (.bool b5) ∧ w6.cell? ⟨w5.heap.size, 1, none⟩ = some (.slice A5 n5 c5) := ⟨(Bn.out.ext (hy5.out.trans hy6.out)).c 0, (Bn.out.ext (hy5.out.trans hy6.out)).c 1, Bm.out.c 0, Bm.out.c 1⟩
  go_upto_region 9 with fail
  clear f4_0 f4_1 f4_2 f4_3
  have hy7 := hid ((Ext.refl w6).alloc (.cells #[.bool b3, .slice A3 n3 c3, .bool b5, .slice A5 n5 c5] 27))
  have Bx_ := (Bk.new w6 27 #[.bool b3, .slice A3 n3 c3, .bool b5, .slice A5 n5 c5])
  have Bx := hid Bx_
  clear Bx_
  generalize (w6.alloc (.cells #[.bool b3, .slice A3 n3 c3, .bool b5, .slice A5 n5 c5] 27)) = w7 at *
  have X7 := hid (X6.out.trans hy7.out)
  obtain ⟨f6_0, f6_1, f6_2, f6_3, f6_4, f6_5, f6_6, f6_7, f6_8, f6_9, f6_10, f6_11⟩ : w7.cell? ⟨w6.heap.size, 0, none⟩ = some (.bool b3) ∧ w7.cell? ⟨w6.heap.size, 1, none⟩ = some (.slice A3 n3 c3) ∧ w7.cell? ⟨w6.heap.size, 2, none⟩ = some (.bool b5) ∧ w7.cell? ⟨w6.heap.size, 3, none⟩ = some (.slice A5 n5 c5) ∧ w7.cell? ⟨w.heap.size, 0, none⟩ = some (.bool false) ∧ w7.cell? ⟨w.heap.size, 1, none⟩ = some (.slice none 0 0) ∧ w7.cell? ⟨w.heap.size, 2, none⟩ = some (.bool false) ∧ w7.cell? ⟨w.heap.size, 3, none⟩ = some (.slice none 0 0) ∧ w7.frozen? ⟨w.heap.size, 0, none⟩ = false ∧ w7.frozen? ⟨w.heap.size, 1, none⟩ = false ∧ w7.frozen? ⟨w.heap.size, 2, none⟩ = false ∧ w7.frozen? ⟨w.heap.size, 3, none⟩ = false := ⟨Bx.out.c 0, Bx.out.c 1, Bx.out.c 2, Bx.out.c 3, (Bo.out.ext (((((hy2.out.trans hy3.out).trans hy4.out).trans hy5.out).trans hy6.out).trans hy7.out)).c 0, (Bo.out.ext (((((hy2.out.trans hy3.out).trans hy4.out).trans hy5.out).trans hy6.out).trans hy7.out)).c 1, (Bo.out.ext (((((hy2.out.trans hy3.out).trans hy4.out).trans hy5.out).trans hy6.out).trans hy7.out)).c 2, (Bo.out.ext (((((hy2.out.trans hy3.out).trans hy4.out).trans hy5.out).trans hy6.out).trans hy7.out)).c 3, (Bo.out.ext (((((hy2.out.trans hy3.out).trans hy4.out).trans hy5.out).trans hy6.out).trans hy7.out)).fr 0, (Bo.out.ext (((((hy2.out.trans hy3.out).trans hy4.out).trans hy5.out).trans hy6.out).trans hy7.out)).fr 1, (Bo.out.ext (((((hy2.out.trans hy3.out).trans hy4.out).trans hy5.out).trans hy6.out).trans hy7.out)).fr 2, (Bo.out.ext (((((hy2.out.trans hy3.out).trans hy4.out).trans hy5.out).trans hy6.out).trans hy7.out)).fr 3⟩
  go_wp2_with fail
  clear f6_0 f6_1 f6_2 f6_3 f6_4 f6_5 f6_6 f6_7 f6_8 f6_9 f6_10 f6_11
  have HG8 := hid (show w7.grownBy ((((w7.setCell ⟨w.heap.size, 0, none⟩ (.bool false)).setCell ⟨w.heap.size, 1, none⟩ (.slice none 0 0)).setCell ⟨w.heap.size, 2, none⟩ (.bool false)).setCell ⟨w.heap.size, 3, none⟩ (.slice none 0 0)) (some (w.heap.size)) from gb4 w7 (w.heap.size) (.bool false) (.slice none 0 0) (.bool false) (.slice none 0 0))
  have HO8 := hid (Bo.out.ext (((((hy2.out.trans hy3.out).trans hy4.out).trans hy5.out).trans hy6.out).trans hy7.out))
  have HP8 := hid (show Bk 27 ((((w7.setCell ⟨w.heap.size, 0, none⟩ (.bool false)).setCell ⟨w.heap.size, 1, none⟩ (.slice none 0 0)).setCell ⟨w.heap.size, 2, none⟩ (.bool false)).setCell ⟨w.heap.size, 3, none⟩ (.slice none 0 0)) (w.heap.size) #[.bool false, .slice none 0 0, .bool false, .slice none 0 0] from (Bo.out.ext (((((hy2.out.trans hy3.out).trans hy4.out).trans hy5.out).trans hy6.out).trans hy7.out)).put4 (.bool false) (.slice none 0 0) (.bool false) (.slice none 0 0))
  generalize ((((w7.setCell ⟨w.heap.size, 0, none⟩ (.bool false)).setCell ⟨w.heap.size, 1, none⟩ (.slice none 0 0)).setCell ⟨w.heap.size, 2, none⟩ (.bool false)).setCell ⟨w.heap.size, 3, none⟩ (.slice none 0 0)) = w8 at *
  have X8 := hid (X7.out.gb HG8.out (by omega))
  refine ret_re rfl HP8.out rfl rfl rfl ⟨rfl, X8.out⟩

set_option maxHeartbeats 6400000 in
set_option maxRecDepth 100000 in
theorem qparse_nE {w : World} {s d e : ByteArray} {K : Nat} {N D : Int} (hs : s.size ≤ 20000) (hK : K ≤ 80000) (hc : ∀ w, Calls Try.prog 45 #[.string s, .string ⟨#[47]⟩] w (RetE (.tuple #[.string d, .string e, .bool false]) w))
    (h1 : ∀ w, Calls Try.prog 46 #[.string d] w (RetIE K N 0 w)) (h2 : ∀ w, Calls Try.prog 46 #[.string ⟨#[49]⟩] w (RetIE K D 0 w)) {x : Rat} (hN : x.num = N) (hD : (x.den : Int) = D) (ht : byt s = txr x) :
    Calls Try.prog 18 #[.string s] w (RetRE K x 0 w) := by
  have hs' : ¬ (20000 : Int) < (s.size : Int) := by omega
  obtain ⟨T, hT⟩ : ∃ T, bts (txr x) = T := ⟨_, rfl⟩
  have HT := hid hT
  have hDp := hid (show 0 < D by have := den_pos x; omega)
  have hg := hid (show Nat.gcd N.natAbs D.natAbs = 1 by rw [← hN, ← hD, Int.natAbs_natCast]; exact x.reduced)
  have hr := hid (show x = (N : Rat) / (dn D : Rat) by rw [dn_of (by have := hDp.out; omega), ← hN, ← hD, rat_self])
  have he : (T.toList == s.toList) = true := seq6 (by rw [← hT, ← ht, bts_byt])
  have HN := hid hN
  have HD := hid hD
  clear hT hN hD ht
  have HC := hid hc
  have H1 := hid h1
  have H2 := hid h2
  clear hc h1 h2 hs
  go_enter Try.func18, Try.ntmps18
  go_upto_region 1 with fail
  have hy1 := hid ((Ext.refl w).alloc (.cells #[.bool false, .slice none 0 0, .bool false, .slice none 0 0] 27))
  have Bo_ := (Bk.new w 27 #[.bool false, .slice none 0 0, .bool false, .slice none 0 0])
  have Bo := hid Bo_
  clear Bo_
  generalize (w.alloc (.cells #[.bool false, .slice none 0 0, .bool false, .slice none 0 0] 27)) = w1 at *
  have X1 := hid ((Ext.refl _).trans hy1.out)
  go_upto_region 7 with (first
    | ((go_at_call 45); (with_reducible refine (HC.out _).mono ?_); rintro E2 w2 ⟨rfl, hr2⟩; have X2 := hid (X1.out.trans hr2); have hy2 := hid hr2; clear hr2)
    | ((go_at_call 46); (with_reducible refine (H1.out _).mono ?_); rintro E3 w3 ⟨b3, A3, n3, c3, rfl, o3, hr3⟩; have X3 := hid (X2.out.trans hr3); have hy3 := hid hr3; clear hr3; have O3 := hid (o3.mono X2.out.size); clear o3))
  have hy4 := hid ((Ext.refl w3).alloc (.cells #[.bool b3, .slice A3 n3 c3] 24))
  have Bn_ := (Bk.new w3 24 #[.bool b3, .slice A3 n3 c3])
  have Bn := hid Bn_
  clear Bn_
  generalize (w3.alloc (.cells #[.bool b3, .slice A3 n3 c3] 24)) = w4 at *
  have X4 := hid (X3.out.trans hy4.out)
  go_upto_region 8 with (first
    | ((go_at_call 46); (with_reducible refine (H2.out _).mono ?_); rintro E5 w5 ⟨b5, A5, n5, c5, rfl, o5, hr5⟩; have X5 := hid (X4.out.trans hr5); have hy5 := hid hr5; clear hr5; have O5 := hid (o5.mono X4.out.size); clear o5))
  have hy6 := hid ((Ext.refl w5).alloc (.cells #[.bool b5, .slice A5 n5 c5] 24))
  have Bm_ := (Bk.new w5 24 #[.bool b5, .slice A5 n5 c5])
  have Bm := hid Bm_
  clear Bm_
  generalize (w5.alloc (.cells #[.bool b5, .slice A5 n5 c5] 24)) = w6 at *
  have X6 := hid (X5.out.trans hy6.out)
  obtain ⟨f4_0, f4_1, f4_2, f4_3⟩ : w6.cell? ⟨w3.heap.size, 0, none⟩ = some (.bool b3) ∧ w6.cell? ⟨w3.heap.size, 1, none⟩ = some (.slice A3 n3 c3) ∧ w6.cell? ⟨w5.heap.size, 0, none⟩ = some (.bool b5) ∧ w6.cell? ⟨w5.heap.size, 1, none⟩ = some (.slice A5 n5 c5) := ⟨(Bn.out.ext (hy5.out.trans hy6.out)).c 0, (Bn.out.ext (hy5.out.trans hy6.out)).c 1, Bm.out.c 0, Bm.out.c 1⟩
  go_upto_region 9 with fail
  clear f4_0 f4_1 f4_2 f4_3
  have hy7 := hid ((Ext.refl w6).alloc (.cells #[.bool b3, .slice A3 n3 c3, .bool b5, .slice A5 n5 c5] 27))
  have Bx_ := (Bk.new w6 27 #[.bool b3, .slice A3 n3 c3, .bool b5, .slice A5 n5 c5])
  have Bx := hid Bx_
  clear Bx_
  generalize (w6.alloc (.cells #[.bool b3, .slice A3 n3 c3, .bool b5, .slice A5 n5 c5] 27)) = w7 at *
  have X7 := hid (X6.out.trans hy7.out)
  obtain ⟨f6_0, f6_1, f6_2, f6_3, f6_4, f6_5, f6_6, f6_7, f6_8, f6_9, f6_10, f6_11⟩ : w7.cell? ⟨w6.heap.size, 0, none⟩ = some (.bool b3) ∧ w7.cell? ⟨w6.heap.size, 1, none⟩ = some (.slice A3 n3 c3) ∧ w7.cell? ⟨w6.heap.size, 2, none⟩ = some (.bool b5) ∧ w7.cell? ⟨w6.heap.size, 3, none⟩ = some (.slice A5 n5 c5) ∧ w7.cell? ⟨w.heap.size, 0, none⟩ = some (.bool false) ∧ w7.cell? ⟨w.heap.size, 1, none⟩ = some (.slice none 0 0) ∧ w7.cell? ⟨w.heap.size, 2, none⟩ = some (.bool false) ∧ w7.cell? ⟨w.heap.size, 3, none⟩ = some (.slice none 0 0) ∧ w7.frozen? ⟨w.heap.size, 0, none⟩ = false ∧ w7.frozen? ⟨w.heap.size, 1, none⟩ = false ∧ w7.frozen? ⟨w.heap.size, 2, none⟩ = false ∧ w7.frozen? ⟨w.heap.size, 3, none⟩ = false := ⟨Bx.out.c 0, Bx.out.c 1, Bx.out.c 2, Bx.out.c 3, (Bo.out.ext (((((hy2.out.trans hy3.out).trans hy4.out).trans hy5.out).trans hy6.out).trans hy7.out)).c 0, (Bo.out.ext (((((hy2.out.trans hy3.out).trans hy4.out).trans hy5.out).trans hy6.out).trans hy7.out)).c 1, (Bo.out.ext (((((hy2.out.trans hy3.out).trans hy4.out).trans hy5.out).trans hy6.out).trans hy7.out)).c 2, (Bo.out.ext (((((hy2.out.trans hy3.out).trans hy4.out).trans hy5.out).trans hy6.out).trans hy7.out)).c 3, (Bo.out.ext (((((hy2.out.trans hy3.out).trans hy4.out).trans hy5.out).trans hy6.out).trans hy7.out)).fr 0, (Bo.out.ext (((((hy2.out.trans hy3.out).trans hy4.out).trans hy5.out).trans hy6.out).trans hy7.out)).fr 1, (Bo.out.ext (((((hy2.out.trans hy3.out).trans hy4.out).trans hy5.out).trans hy6.out).trans hy7.out)).fr 2, (Bo.out.ext (((((hy2.out.trans hy3.out).trans hy4.out).trans hy5.out).trans hy6.out).trans hy7.out)).fr 3⟩
  go_wp2_with (first
    | ((go_at_call 21); (with_reducible refine (rmay_ci (O3.out.ext (((hy4.out.trans hy5.out).trans hy6.out).trans hy7.out)) (O5.out.ext (hy6.out.trans hy7.out)) (by omega) hDp.out hg.out).mono ?_); rintro E8 w8 ⟨rfl, hr8⟩; have X8 := hid (X7.out.trans hr8); have hy8 := hid hr8; clear hr8; obtain ⟨f7_0, f7_1, f7_2, f7_3, f7_4, f7_5, f7_6, f7_7, f7_8, f7_9, f7_10, f7_11⟩ : w8.cell? ⟨w6.heap.size, 0, none⟩ = some (.bool b3) ∧ w8.cell? ⟨w6.heap.size, 1, none⟩ = some (.slice A3 n3 c3) ∧ w8.cell? ⟨w6.heap.size, 2, none⟩ = some (.bool b5) ∧ w8.cell? ⟨w6.heap.size, 3, none⟩ = some (.slice A5 n5 c5) ∧ w8.cell? ⟨w.heap.size, 0, none⟩ = some (.bool false) ∧ w8.cell? ⟨w.heap.size, 1, none⟩ = some (.slice none 0 0) ∧ w8.cell? ⟨w.heap.size, 2, none⟩ = some (.bool false) ∧ w8.cell? ⟨w.heap.size, 3, none⟩ = some (.slice none 0 0) ∧ w8.frozen? ⟨w.heap.size, 0, none⟩ = false ∧ w8.frozen? ⟨w.heap.size, 1, none⟩ = false ∧ w8.frozen? ⟨w.heap.size, 2, none⟩ = false ∧ w8.frozen? ⟨w.heap.size, 3, none⟩ = false := ⟨(Bx.out.ext hy8.out).c 0, (Bx.out.ext hy8.out).c 1, (Bx.out.ext hy8.out).c 2, (Bx.out.ext hy8.out).c 3, (Bo.out.ext ((((((hy2.out.trans hy3.out).trans hy4.out).trans hy5.out).trans hy6.out).trans hy7.out).trans hy8.out)).c 0, (Bo.out.ext ((((((hy2.out.trans hy3.out).trans hy4.out).trans hy5.out).trans hy6.out).trans hy7.out).trans hy8.out)).c 1, (Bo.out.ext ((((((hy2.out.trans hy3.out).trans hy4.out).trans hy5.out).trans hy6.out).trans hy7.out).trans hy8.out)).c 2, (Bo.out.ext ((((((hy2.out.trans hy3.out).trans hy4.out).trans hy5.out).trans hy6.out).trans hy7.out).trans hy8.out)).c 3, (Bo.out.ext ((((((hy2.out.trans hy3.out).trans hy4.out).trans hy5.out).trans hy6.out).trans hy7.out).trans hy8.out)).fr 0, (Bo.out.ext ((((((hy2.out.trans hy3.out).trans hy4.out).trans hy5.out).trans hy6.out).trans hy7.out).trans hy8.out)).fr 1, (Bo.out.ext ((((((hy2.out.trans hy3.out).trans hy4.out).trans hy5.out).trans hy6.out).trans hy7.out).trans hy8.out)).fr 2, (Bo.out.ext ((((((hy2.out.trans hy3.out).trans hy4.out).trans hy5.out).trans hy6.out).trans hy7.out).trans hy8.out)).fr 3⟩)
    | ((go_at_call 20); (with_reducible refine (rtext_qis (Rv.mk (O3.out.ext ((((hy4.out.trans hy5.out).trans hy6.out).trans hy7.out).trans hy8.out)).iz (O5.out.ext ((hy6.out.trans hy7.out).trans hy8.out)).iz hr.out) (by omega) HT.out).mono ?_); rintro E9 w9 ⟨rfl, hr9⟩; have X9 := hid (X8.out.trans hr9); have hy9 := hid hr9; clear hr9; obtain ⟨f8_0, f8_1, f8_2, f8_3, f8_4, f8_5, f8_6, f8_7, f8_8, f8_9, f8_10, f8_11⟩ : w9.cell? ⟨w6.heap.size, 0, none⟩ = some (.bool b3) ∧ w9.cell? ⟨w6.heap.size, 1, none⟩ = some (.slice A3 n3 c3) ∧ w9.cell? ⟨w6.heap.size, 2, none⟩ = some (.bool b5) ∧ w9.cell? ⟨w6.heap.size, 3, none⟩ = some (.slice A5 n5 c5) ∧ w9.cell? ⟨w.heap.size, 0, none⟩ = some (.bool false) ∧ w9.cell? ⟨w.heap.size, 1, none⟩ = some (.slice none 0 0) ∧ w9.cell? ⟨w.heap.size, 2, none⟩ = some (.bool false) ∧ w9.cell? ⟨w.heap.size, 3, none⟩ = some (.slice none 0 0) ∧ w9.frozen? ⟨w.heap.size, 0, none⟩ = false ∧ w9.frozen? ⟨w.heap.size, 1, none⟩ = false ∧ w9.frozen? ⟨w.heap.size, 2, none⟩ = false ∧ w9.frozen? ⟨w.heap.size, 3, none⟩ = false := ⟨(Bx.out.ext (hy8.out.trans hy9.out)).c 0, (Bx.out.ext (hy8.out.trans hy9.out)).c 1, (Bx.out.ext (hy8.out.trans hy9.out)).c 2, (Bx.out.ext (hy8.out.trans hy9.out)).c 3, (Bo.out.ext (((((((hy2.out.trans hy3.out).trans hy4.out).trans hy5.out).trans hy6.out).trans hy7.out).trans hy8.out).trans hy9.out)).c 0, (Bo.out.ext (((((((hy2.out.trans hy3.out).trans hy4.out).trans hy5.out).trans hy6.out).trans hy7.out).trans hy8.out).trans hy9.out)).c 1, (Bo.out.ext (((((((hy2.out.trans hy3.out).trans hy4.out).trans hy5.out).trans hy6.out).trans hy7.out).trans hy8.out).trans hy9.out)).c 2, (Bo.out.ext (((((((hy2.out.trans hy3.out).trans hy4.out).trans hy5.out).trans hy6.out).trans hy7.out).trans hy8.out).trans hy9.out)).c 3, (Bo.out.ext (((((((hy2.out.trans hy3.out).trans hy4.out).trans hy5.out).trans hy6.out).trans hy7.out).trans hy8.out).trans hy9.out)).fr 0, (Bo.out.ext (((((((hy2.out.trans hy3.out).trans hy4.out).trans hy5.out).trans hy6.out).trans hy7.out).trans hy8.out).trans hy9.out)).fr 1, (Bo.out.ext (((((((hy2.out.trans hy3.out).trans hy4.out).trans hy5.out).trans hy6.out).trans hy7.out).trans hy8.out).trans hy9.out)).fr 2, (Bo.out.ext (((((((hy2.out.trans hy3.out).trans hy4.out).trans hy5.out).trans hy6.out).trans hy7.out).trans hy8.out).trans hy9.out)).fr 3⟩))
  clear f6_0 f6_1 f6_2 f6_3 f6_4 f6_5 f6_6 f6_7 f6_8 f6_9 f6_10 f6_11 f7_0 f7_1 f7_2 f7_3 f7_4 f7_5 f7_6 f7_7 f7_8 f7_9 f7_10 f7_11 f8_0 f8_1 f8_2 f8_3 f8_4 f8_5 f8_6 f8_7 f8_8 f8_9 f8_10 f8_11
  have HG10 := hid (show w9.grownBy ((((w9.setCell ⟨w.heap.size, 0, none⟩ (.bool b3)).setCell ⟨w.heap.size, 1, none⟩ (.slice A3 n3 c3)).setCell ⟨w.heap.size, 2, none⟩ (.bool b5)).setCell ⟨w.heap.size, 3, none⟩ (.slice A5 n5 c5)) (some (w.heap.size)) from gb4 w9 (w.heap.size) (.bool b3) (.slice A3 n3 c3) (.bool b5) (.slice A5 n5 c5))
  have HO10 := hid (Bo.out.ext (((((((hy2.out.trans hy3.out).trans hy4.out).trans hy5.out).trans hy6.out).trans hy7.out).trans hy8.out).trans hy9.out))
  have HP10 := hid (show Bk 27 ((((w9.setCell ⟨w.heap.size, 0, none⟩ (.bool b3)).setCell ⟨w.heap.size, 1, none⟩ (.slice A3 n3 c3)).setCell ⟨w.heap.size, 2, none⟩ (.bool b5)).setCell ⟨w.heap.size, 3, none⟩ (.slice A5 n5 c5)) (w.heap.size) #[.bool b3, .slice A3 n3 c3, .bool b5, .slice A5 n5 c5] from (Bo.out.ext (((((((hy2.out.trans hy3.out).trans hy4.out).trans hy5.out).trans hy6.out).trans hy7.out).trans hy8.out).trans hy9.out)).put4 (.bool b3) (.slice A3 n3 c3) (.bool b5) (.slice A5 n5 c5))
  generalize ((((w9.setCell ⟨w.heap.size, 0, none⟩ (.bool b3)).setCell ⟨w.heap.size, 1, none⟩ (.slice A3 n3 c3)).setCell ⟨w.heap.size, 2, none⟩ (.bool b5)).setCell ⟨w.heap.size, 3, none⟩ (.slice A5 n5 c5)) = w10 at *
  have X10 := hid (X9.out.gb HG10.out (by omega))
  refine ret_re rfl HP10.out rfl rfl rfl ⟨_, _, _, _, _, _, _, _, rfl, ⟨((O3.out.ext (((((hy4.out.trans hy5.out).trans hy6.out).trans hy7.out).trans hy8.out).trans hy9.out)).gbk HO10.out (by decide) HG10.out).cast HN.out.symm, ((O5.out.ext (((hy6.out.trans hy7.out).trans hy8.out).trans hy9.out)).gbk HO10.out (by decide) HG10.out).cast HD.out.symm⟩, X10.out⟩

set_option maxHeartbeats 6400000 in
set_option maxRecDepth 100000 in
theorem qparse_cA {w : World} {s d e : ByteArray} {K : Nat} {N D v2 : Int} (hs : s.size ≤ 20000) (hK : K ≤ 80000) (hc : ∀ w, Calls Try.prog 45 #[.string s, .string ⟨#[47]⟩] w (RetE (.tuple #[.string d, .string e, .bool true]) w))
    (h1 : ∀ w, Calls Try.prog 46 #[.string d] w (RetIE K N 4 w)) (h2 : ∀ w, Calls Try.prog 46 #[.string e] w (RetIE K D v2 w)) :
    Calls Try.prog 18 #[.string s] w (RetRN 4 w) := by
  have hs' : ¬ (20000 : Int) < (s.size : Int) := by omega
  have HC := hid hc
  have H1 := hid h1
  have H2 := hid h2
  clear hc h1 h2 hs
  go_enter Try.func18, Try.ntmps18
  go_upto_region 1 with fail
  have hy1 := hid ((Ext.refl w).alloc (.cells #[.bool false, .slice none 0 0, .bool false, .slice none 0 0] 27))
  have Bo_ := (Bk.new w 27 #[.bool false, .slice none 0 0, .bool false, .slice none 0 0])
  have Bo := hid Bo_
  clear Bo_
  generalize (w.alloc (.cells #[.bool false, .slice none 0 0, .bool false, .slice none 0 0] 27)) = w1 at *
  have X1 := hid ((Ext.refl _).trans hy1.out)
  go_upto_region 7 with (first
    | ((go_at_call 45); (with_reducible refine (HC.out _).mono ?_); rintro E2 w2 ⟨rfl, hr2⟩; have X2 := hid (X1.out.trans hr2); have hy2 := hid hr2; clear hr2)
    | ((go_at_call 46); (with_reducible refine (H1.out _).mono ?_); rintro E3 w3 ⟨b3, A3, n3, c3, rfl, o3, hr3⟩; have X3 := hid (X2.out.trans hr3); have hy3 := hid hr3; clear hr3; have O3 := hid (o3.mono X2.out.size); clear o3))
  have hy4 := hid ((Ext.refl w3).alloc (.cells #[.bool b3, .slice A3 n3 c3] 24))
  have Bn_ := (Bk.new w3 24 #[.bool b3, .slice A3 n3 c3])
  have Bn := hid Bn_
  clear Bn_
  generalize (w3.alloc (.cells #[.bool b3, .slice A3 n3 c3] 24)) = w4 at *
  have X4 := hid (X3.out.trans hy4.out)
  go_upto_region 8 with (first
    | ((go_at_call 46); (with_reducible refine (H2.out _).mono ?_); rintro E5 w5 ⟨b5, A5, n5, c5, rfl, o5, hr5⟩; have X5 := hid (X4.out.trans hr5); have hy5 := hid hr5; clear hr5; have O5 := hid (o5.mono X4.out.size); clear o5))
  have hy6 := hid ((Ext.refl w5).alloc (.cells #[.bool b5, .slice A5 n5 c5] 24))
  have Bm_ := (Bk.new w5 24 #[.bool b5, .slice A5 n5 c5])
  have Bm := hid Bm_
  clear Bm_
  generalize (w5.alloc (.cells #[.bool b5, .slice A5 n5 c5] 24)) = w6 at *
  have X6 := hid (X5.out.trans hy6.out)
  obtain ⟨f4_0, f4_1, f4_2, f4_3⟩ : w6.cell? ⟨w3.heap.size, 0, none⟩ = some (.bool b3) ∧ w6.cell? ⟨w3.heap.size, 1, none⟩ = some (.slice A3 n3 c3) ∧ w6.cell? ⟨w5.heap.size, 0, none⟩ = some (.bool b5) ∧ w6.cell? ⟨w5.heap.size, 1, none⟩ = some (.slice A5 n5 c5) := ⟨(Bn.out.ext (hy5.out.trans hy6.out)).c 0, (Bn.out.ext (hy5.out.trans hy6.out)).c 1, Bm.out.c 0, Bm.out.c 1⟩
  go_upto_region 9 with fail
  clear f4_0 f4_1 f4_2 f4_3
  have hy7 := hid ((Ext.refl w6).alloc (.cells #[.bool b3, .slice A3 n3 c3, .bool b5, .slice A5 n5 c5] 27))
  have Bx_ := (Bk.new w6 27 #[.bool b3, .slice A3 n3 c3, .bool b5, .slice A5 n5 c5])
  have Bx := hid Bx_
  clear Bx_
  generalize (w6.alloc (.cells #[.bool b3, .slice A3 n3 c3, .bool b5, .slice A5 n5 c5] 27)) = w7 at *
  have X7 := hid (X6.out.trans hy7.out)
  obtain ⟨f6_0, f6_1, f6_2, f6_3, f6_4, f6_5, f6_6, f6_7, f6_8, f6_9, f6_10, f6_11⟩ : w7.cell? ⟨w6.heap.size, 0, none⟩ = some (.bool b3) ∧ w7.cell? ⟨w6.heap.size, 1, none⟩ = some (.slice A3 n3 c3) ∧ w7.cell? ⟨w6.heap.size, 2, none⟩ = some (.bool b5) ∧ w7.cell? ⟨w6.heap.size, 3, none⟩ = some (.slice A5 n5 c5) ∧ w7.cell? ⟨w.heap.size, 0, none⟩ = some (.bool false) ∧ w7.cell? ⟨w.heap.size, 1, none⟩ = some (.slice none 0 0) ∧ w7.cell? ⟨w.heap.size, 2, none⟩ = some (.bool false) ∧ w7.cell? ⟨w.heap.size, 3, none⟩ = some (.slice none 0 0) ∧ w7.frozen? ⟨w.heap.size, 0, none⟩ = false ∧ w7.frozen? ⟨w.heap.size, 1, none⟩ = false ∧ w7.frozen? ⟨w.heap.size, 2, none⟩ = false ∧ w7.frozen? ⟨w.heap.size, 3, none⟩ = false := ⟨Bx.out.c 0, Bx.out.c 1, Bx.out.c 2, Bx.out.c 3, (Bo.out.ext (((((hy2.out.trans hy3.out).trans hy4.out).trans hy5.out).trans hy6.out).trans hy7.out)).c 0, (Bo.out.ext (((((hy2.out.trans hy3.out).trans hy4.out).trans hy5.out).trans hy6.out).trans hy7.out)).c 1, (Bo.out.ext (((((hy2.out.trans hy3.out).trans hy4.out).trans hy5.out).trans hy6.out).trans hy7.out)).c 2, (Bo.out.ext (((((hy2.out.trans hy3.out).trans hy4.out).trans hy5.out).trans hy6.out).trans hy7.out)).c 3, (Bo.out.ext (((((hy2.out.trans hy3.out).trans hy4.out).trans hy5.out).trans hy6.out).trans hy7.out)).fr 0, (Bo.out.ext (((((hy2.out.trans hy3.out).trans hy4.out).trans hy5.out).trans hy6.out).trans hy7.out)).fr 1, (Bo.out.ext (((((hy2.out.trans hy3.out).trans hy4.out).trans hy5.out).trans hy6.out).trans hy7.out)).fr 2, (Bo.out.ext (((((hy2.out.trans hy3.out).trans hy4.out).trans hy5.out).trans hy6.out).trans hy7.out)).fr 3⟩
  go_wp2_with fail
  clear f6_0 f6_1 f6_2 f6_3 f6_4 f6_5 f6_6 f6_7 f6_8 f6_9 f6_10 f6_11
  have HG8 := hid (show w7.grownBy ((((w7.setCell ⟨w.heap.size, 0, none⟩ (.bool false)).setCell ⟨w.heap.size, 1, none⟩ (.slice none 0 0)).setCell ⟨w.heap.size, 2, none⟩ (.bool false)).setCell ⟨w.heap.size, 3, none⟩ (.slice none 0 0)) (some (w.heap.size)) from gb4 w7 (w.heap.size) (.bool false) (.slice none 0 0) (.bool false) (.slice none 0 0))
  have HO8 := hid (Bo.out.ext (((((hy2.out.trans hy3.out).trans hy4.out).trans hy5.out).trans hy6.out).trans hy7.out))
  have HP8 := hid (show Bk 27 ((((w7.setCell ⟨w.heap.size, 0, none⟩ (.bool false)).setCell ⟨w.heap.size, 1, none⟩ (.slice none 0 0)).setCell ⟨w.heap.size, 2, none⟩ (.bool false)).setCell ⟨w.heap.size, 3, none⟩ (.slice none 0 0)) (w.heap.size) #[.bool false, .slice none 0 0, .bool false, .slice none 0 0] from (Bo.out.ext (((((hy2.out.trans hy3.out).trans hy4.out).trans hy5.out).trans hy6.out).trans hy7.out)).put4 (.bool false) (.slice none 0 0) (.bool false) (.slice none 0 0))
  generalize ((((w7.setCell ⟨w.heap.size, 0, none⟩ (.bool false)).setCell ⟨w.heap.size, 1, none⟩ (.slice none 0 0)).setCell ⟨w.heap.size, 2, none⟩ (.bool false)).setCell ⟨w.heap.size, 3, none⟩ (.slice none 0 0)) = w8 at *
  have X8 := hid (X7.out.gb HG8.out (by omega))
  refine ret_re rfl HP8.out rfl rfl rfl ⟨rfl, X8.out⟩

set_option maxHeartbeats 6400000 in
set_option maxRecDepth 100000 in
theorem qparse_cB {w : World} {s d e : ByteArray} {K : Nat} {N D : Int} (hs : s.size ≤ 20000) (hK : K ≤ 80000) (hc : ∀ w, Calls Try.prog 45 #[.string s, .string ⟨#[47]⟩] w (RetE (.tuple #[.string d, .string e, .bool true]) w))
    (h1 : ∀ w, Calls Try.prog 46 #[.string d] w (RetIE K N 0 w)) (h2 : ∀ w, Calls Try.prog 46 #[.string e] w (RetIE K D 4 w)) :
    Calls Try.prog 18 #[.string s] w (RetRN 4 w) := by
  have hs' : ¬ (20000 : Int) < (s.size : Int) := by omega
  have HC := hid hc
  have H1 := hid h1
  have H2 := hid h2
  clear hc h1 h2 hs
  go_enter Try.func18, Try.ntmps18
  go_upto_region 1 with fail
  have hy1 := hid ((Ext.refl w).alloc (.cells #[.bool false, .slice none 0 0, .bool false, .slice none 0 0] 27))
  have Bo_ := (Bk.new w 27 #[.bool false, .slice none 0 0, .bool false, .slice none 0 0])
  have Bo := hid Bo_
  clear Bo_
  generalize (w.alloc (.cells #[.bool false, .slice none 0 0, .bool false, .slice none 0 0] 27)) = w1 at *
  have X1 := hid ((Ext.refl _).trans hy1.out)
  go_upto_region 7 with (first
    | ((go_at_call 45); (with_reducible refine (HC.out _).mono ?_); rintro E2 w2 ⟨rfl, hr2⟩; have X2 := hid (X1.out.trans hr2); have hy2 := hid hr2; clear hr2)
    | ((go_at_call 46); (with_reducible refine (H1.out _).mono ?_); rintro E3 w3 ⟨b3, A3, n3, c3, rfl, o3, hr3⟩; have X3 := hid (X2.out.trans hr3); have hy3 := hid hr3; clear hr3; have O3 := hid (o3.mono X2.out.size); clear o3))
  have hy4 := hid ((Ext.refl w3).alloc (.cells #[.bool b3, .slice A3 n3 c3] 24))
  have Bn_ := (Bk.new w3 24 #[.bool b3, .slice A3 n3 c3])
  have Bn := hid Bn_
  clear Bn_
  generalize (w3.alloc (.cells #[.bool b3, .slice A3 n3 c3] 24)) = w4 at *
  have X4 := hid (X3.out.trans hy4.out)
  go_upto_region 8 with (first
    | ((go_at_call 46); (with_reducible refine (H2.out _).mono ?_); rintro E5 w5 ⟨b5, A5, n5, c5, rfl, o5, hr5⟩; have X5 := hid (X4.out.trans hr5); have hy5 := hid hr5; clear hr5; have O5 := hid (o5.mono X4.out.size); clear o5))
  have hy6 := hid ((Ext.refl w5).alloc (.cells #[.bool b5, .slice A5 n5 c5] 24))
  have Bm_ := (Bk.new w5 24 #[.bool b5, .slice A5 n5 c5])
  have Bm := hid Bm_
  clear Bm_
  generalize (w5.alloc (.cells #[.bool b5, .slice A5 n5 c5] 24)) = w6 at *
  have X6 := hid (X5.out.trans hy6.out)
  obtain ⟨f4_0, f4_1, f4_2, f4_3⟩ : w6.cell? ⟨w3.heap.size, 0, none⟩ = some (.bool b3) ∧ w6.cell? ⟨w3.heap.size, 1, none⟩ = some (.slice A3 n3 c3) ∧ w6.cell? ⟨w5.heap.size, 0, none⟩ = some (.bool b5) ∧ w6.cell? ⟨w5.heap.size, 1, none⟩ = some (.slice A5 n5 c5) := ⟨(Bn.out.ext (hy5.out.trans hy6.out)).c 0, (Bn.out.ext (hy5.out.trans hy6.out)).c 1, Bm.out.c 0, Bm.out.c 1⟩
  go_upto_region 9 with fail
  clear f4_0 f4_1 f4_2 f4_3
  have hy7 := hid ((Ext.refl w6).alloc (.cells #[.bool b3, .slice A3 n3 c3, .bool b5, .slice A5 n5 c5] 27))
  have Bx_ := (Bk.new w6 27 #[.bool b3, .slice A3 n3 c3, .bool b5, .slice A5 n5 c5])
  have Bx := hid Bx_
  clear Bx_
  generalize (w6.alloc (.cells #[.bool b3, .slice A3 n3 c3, .bool b5, .slice A5 n5 c5] 27)) = w7 at *
  have X7 := hid (X6.out.trans hy7.out)
  obtain ⟨f6_0, f6_1, f6_2, f6_3, f6_4, f6_5, f6_6, f6_7, f6_8, f6_9, f6_10, f6_11⟩ : w7.cell? ⟨w6.heap.size, 0, none⟩ = some (.bool b3) ∧ w7.cell? ⟨w6.heap.size, 1, none⟩ = some (.slice A3 n3 c3) ∧ w7.cell? ⟨w6.heap.size, 2, none⟩ = some (.bool b5) ∧ w7.cell? ⟨w6.heap.size, 3, none⟩ = some (.slice A5 n5 c5) ∧ w7.cell? ⟨w.heap.size, 0, none⟩ = some (.bool false) ∧ w7.cell? ⟨w.heap.size, 1, none⟩ = some (.slice none 0 0) ∧ w7.cell? ⟨w.heap.size, 2, none⟩ = some (.bool false) ∧ w7.cell? ⟨w.heap.size, 3, none⟩ = some (.slice none 0 0) ∧ w7.frozen? ⟨w.heap.size, 0, none⟩ = false ∧ w7.frozen? ⟨w.heap.size, 1, none⟩ = false ∧ w7.frozen? ⟨w.heap.size, 2, none⟩ = false ∧ w7.frozen? ⟨w.heap.size, 3, none⟩ = false := ⟨Bx.out.c 0, Bx.out.c 1, Bx.out.c 2, Bx.out.c 3, (Bo.out.ext (((((hy2.out.trans hy3.out).trans hy4.out).trans hy5.out).trans hy6.out).trans hy7.out)).c 0, (Bo.out.ext (((((hy2.out.trans hy3.out).trans hy4.out).trans hy5.out).trans hy6.out).trans hy7.out)).c 1, (Bo.out.ext (((((hy2.out.trans hy3.out).trans hy4.out).trans hy5.out).trans hy6.out).trans hy7.out)).c 2, (Bo.out.ext (((((hy2.out.trans hy3.out).trans hy4.out).trans hy5.out).trans hy6.out).trans hy7.out)).c 3, (Bo.out.ext (((((hy2.out.trans hy3.out).trans hy4.out).trans hy5.out).trans hy6.out).trans hy7.out)).fr 0, (Bo.out.ext (((((hy2.out.trans hy3.out).trans hy4.out).trans hy5.out).trans hy6.out).trans hy7.out)).fr 1, (Bo.out.ext (((((hy2.out.trans hy3.out).trans hy4.out).trans hy5.out).trans hy6.out).trans hy7.out)).fr 2, (Bo.out.ext (((((hy2.out.trans hy3.out).trans hy4.out).trans hy5.out).trans hy6.out).trans hy7.out)).fr 3⟩
  go_wp2_with fail
  clear f6_0 f6_1 f6_2 f6_3 f6_4 f6_5 f6_6 f6_7 f6_8 f6_9 f6_10 f6_11
  have HG8 := hid (show w7.grownBy ((((w7.setCell ⟨w.heap.size, 0, none⟩ (.bool false)).setCell ⟨w.heap.size, 1, none⟩ (.slice none 0 0)).setCell ⟨w.heap.size, 2, none⟩ (.bool false)).setCell ⟨w.heap.size, 3, none⟩ (.slice none 0 0)) (some (w.heap.size)) from gb4 w7 (w.heap.size) (.bool false) (.slice none 0 0) (.bool false) (.slice none 0 0))
  have HO8 := hid (Bo.out.ext (((((hy2.out.trans hy3.out).trans hy4.out).trans hy5.out).trans hy6.out).trans hy7.out))
  have HP8 := hid (show Bk 27 ((((w7.setCell ⟨w.heap.size, 0, none⟩ (.bool false)).setCell ⟨w.heap.size, 1, none⟩ (.slice none 0 0)).setCell ⟨w.heap.size, 2, none⟩ (.bool false)).setCell ⟨w.heap.size, 3, none⟩ (.slice none 0 0)) (w.heap.size) #[.bool false, .slice none 0 0, .bool false, .slice none 0 0] from (Bo.out.ext (((((hy2.out.trans hy3.out).trans hy4.out).trans hy5.out).trans hy6.out).trans hy7.out)).put4 (.bool false) (.slice none 0 0) (.bool false) (.slice none 0 0))
  generalize ((((w7.setCell ⟨w.heap.size, 0, none⟩ (.bool false)).setCell ⟨w.heap.size, 1, none⟩ (.slice none 0 0)).setCell ⟨w.heap.size, 2, none⟩ (.bool false)).setCell ⟨w.heap.size, 3, none⟩ (.slice none 0 0)) = w8 at *
  have X8 := hid (X7.out.gb HG8.out (by omega))
  refine ret_re rfl HP8.out rfl rfl rfl ⟨rfl, X8.out⟩

set_option maxHeartbeats 6400000 in
set_option maxRecDepth 100000 in
theorem qparse_cC {w : World} {s d e : ByteArray} {K : Nat} {N D : Int} (hs : s.size ≤ 20000) (hK : K ≤ 80000) (hc : ∀ w, Calls Try.prog 45 #[.string s, .string ⟨#[47]⟩] w (RetE (.tuple #[.string d, .string e, .bool true]) w))
    (h1 : ∀ w, Calls Try.prog 46 #[.string d] w (RetIE K N 0 w)) (h2 : ∀ w, Calls Try.prog 46 #[.string e] w (RetIE K D 0 w)) (h0 : ¬ (0 < D ∧ Nat.gcd N.natAbs D.natAbs = 1)) :
    Calls Try.prog 18 #[.string s] w (RetRN 4 w) := by
  have hs' : ¬ (20000 : Int) < (s.size : Int) := by omega
  have h0' := hid h0
  clear h0
  have HC := hid hc
  have H1 := hid h1
  have H2 := hid h2
  clear hc h1 h2 hs
  go_enter Try.func18, Try.ntmps18
  go_upto_region 1 with fail
  have hy1 := hid ((Ext.refl w).alloc (.cells #[.bool false, .slice none 0 0, .bool false, .slice none 0 0] 27))
  have Bo_ := (Bk.new w 27 #[.bool false, .slice none 0 0, .bool false, .slice none 0 0])
  have Bo := hid Bo_
  clear Bo_
  generalize (w.alloc (.cells #[.bool false, .slice none 0 0, .bool false, .slice none 0 0] 27)) = w1 at *
  have X1 := hid ((Ext.refl _).trans hy1.out)
  go_upto_region 7 with (first
    | ((go_at_call 45); (with_reducible refine (HC.out _).mono ?_); rintro E2 w2 ⟨rfl, hr2⟩; have X2 := hid (X1.out.trans hr2); have hy2 := hid hr2; clear hr2)
    | ((go_at_call 46); (with_reducible refine (H1.out _).mono ?_); rintro E3 w3 ⟨b3, A3, n3, c3, rfl, o3, hr3⟩; have X3 := hid (X2.out.trans hr3); have hy3 := hid hr3; clear hr3; have O3 := hid (o3.mono X2.out.size); clear o3))
  have hy4 := hid ((Ext.refl w3).alloc (.cells #[.bool b3, .slice A3 n3 c3] 24))
  have Bn_ := (Bk.new w3 24 #[.bool b3, .slice A3 n3 c3])
  have Bn := hid Bn_
  clear Bn_
  generalize (w3.alloc (.cells #[.bool b3, .slice A3 n3 c3] 24)) = w4 at *
  have X4 := hid (X3.out.trans hy4.out)
  go_upto_region 8 with (first
    | ((go_at_call 46); (with_reducible refine (H2.out _).mono ?_); rintro E5 w5 ⟨b5, A5, n5, c5, rfl, o5, hr5⟩; have X5 := hid (X4.out.trans hr5); have hy5 := hid hr5; clear hr5; have O5 := hid (o5.mono X4.out.size); clear o5))
  have hy6 := hid ((Ext.refl w5).alloc (.cells #[.bool b5, .slice A5 n5 c5] 24))
  have Bm_ := (Bk.new w5 24 #[.bool b5, .slice A5 n5 c5])
  have Bm := hid Bm_
  clear Bm_
  generalize (w5.alloc (.cells #[.bool b5, .slice A5 n5 c5] 24)) = w6 at *
  have X6 := hid (X5.out.trans hy6.out)
  obtain ⟨f4_0, f4_1, f4_2, f4_3⟩ : w6.cell? ⟨w3.heap.size, 0, none⟩ = some (.bool b3) ∧ w6.cell? ⟨w3.heap.size, 1, none⟩ = some (.slice A3 n3 c3) ∧ w6.cell? ⟨w5.heap.size, 0, none⟩ = some (.bool b5) ∧ w6.cell? ⟨w5.heap.size, 1, none⟩ = some (.slice A5 n5 c5) := ⟨(Bn.out.ext (hy5.out.trans hy6.out)).c 0, (Bn.out.ext (hy5.out.trans hy6.out)).c 1, Bm.out.c 0, Bm.out.c 1⟩
  go_upto_region 9 with fail
  clear f4_0 f4_1 f4_2 f4_3
  have hy7 := hid ((Ext.refl w6).alloc (.cells #[.bool b3, .slice A3 n3 c3, .bool b5, .slice A5 n5 c5] 27))
  have Bx_ := (Bk.new w6 27 #[.bool b3, .slice A3 n3 c3, .bool b5, .slice A5 n5 c5])
  have Bx := hid Bx_
  clear Bx_
  generalize (w6.alloc (.cells #[.bool b3, .slice A3 n3 c3, .bool b5, .slice A5 n5 c5] 27)) = w7 at *
  have X7 := hid (X6.out.trans hy7.out)
  obtain ⟨f6_0, f6_1, f6_2, f6_3, f6_4, f6_5, f6_6, f6_7, f6_8, f6_9, f6_10, f6_11⟩ : w7.cell? ⟨w6.heap.size, 0, none⟩ = some (.bool b3) ∧ w7.cell? ⟨w6.heap.size, 1, none⟩ = some (.slice A3 n3 c3) ∧ w7.cell? ⟨w6.heap.size, 2, none⟩ = some (.bool b5) ∧ w7.cell? ⟨w6.heap.size, 3, none⟩ = some (.slice A5 n5 c5) ∧ w7.cell? ⟨w.heap.size, 0, none⟩ = some (.bool false) ∧ w7.cell? ⟨w.heap.size, 1, none⟩ = some (.slice none 0 0) ∧ w7.cell? ⟨w.heap.size, 2, none⟩ = some (.bool false) ∧ w7.cell? ⟨w.heap.size, 3, none⟩ = some (.slice none 0 0) ∧ w7.frozen? ⟨w.heap.size, 0, none⟩ = false ∧ w7.frozen? ⟨w.heap.size, 1, none⟩ = false ∧ w7.frozen? ⟨w.heap.size, 2, none⟩ = false ∧ w7.frozen? ⟨w.heap.size, 3, none⟩ = false := ⟨Bx.out.c 0, Bx.out.c 1, Bx.out.c 2, Bx.out.c 3, (Bo.out.ext (((((hy2.out.trans hy3.out).trans hy4.out).trans hy5.out).trans hy6.out).trans hy7.out)).c 0, (Bo.out.ext (((((hy2.out.trans hy3.out).trans hy4.out).trans hy5.out).trans hy6.out).trans hy7.out)).c 1, (Bo.out.ext (((((hy2.out.trans hy3.out).trans hy4.out).trans hy5.out).trans hy6.out).trans hy7.out)).c 2, (Bo.out.ext (((((hy2.out.trans hy3.out).trans hy4.out).trans hy5.out).trans hy6.out).trans hy7.out)).c 3, (Bo.out.ext (((((hy2.out.trans hy3.out).trans hy4.out).trans hy5.out).trans hy6.out).trans hy7.out)).fr 0, (Bo.out.ext (((((hy2.out.trans hy3.out).trans hy4.out).trans hy5.out).trans hy6.out).trans hy7.out)).fr 1, (Bo.out.ext (((((hy2.out.trans hy3.out).trans hy4.out).trans hy5.out).trans hy6.out).trans hy7.out)).fr 2, (Bo.out.ext (((((hy2.out.trans hy3.out).trans hy4.out).trans hy5.out).trans hy6.out).trans hy7.out)).fr 3⟩
  go_wp2_with (first
    | ((go_at_call 21); (with_reducible refine (rmay_no (O3.out.ext (((hy4.out.trans hy5.out).trans hy6.out).trans hy7.out)) (O5.out.ext (hy6.out.trans hy7.out)) (by omega) h0'.out).mono ?_); rintro E8 w8 ⟨rfl, hr8⟩; have X8 := hid (X7.out.trans hr8); have hy8 := hid hr8; clear hr8; obtain ⟨f7_0, f7_1, f7_2, f7_3, f7_4, f7_5, f7_6, f7_7, f7_8, f7_9, f7_10, f7_11⟩ : w8.cell? ⟨w6.heap.size, 0, none⟩ = some (.bool b3) ∧ w8.cell? ⟨w6.heap.size, 1, none⟩ = some (.slice A3 n3 c3) ∧ w8.cell? ⟨w6.heap.size, 2, none⟩ = some (.bool b5) ∧ w8.cell? ⟨w6.heap.size, 3, none⟩ = some (.slice A5 n5 c5) ∧ w8.cell? ⟨w.heap.size, 0, none⟩ = some (.bool false) ∧ w8.cell? ⟨w.heap.size, 1, none⟩ = some (.slice none 0 0) ∧ w8.cell? ⟨w.heap.size, 2, none⟩ = some (.bool false) ∧ w8.cell? ⟨w.heap.size, 3, none⟩ = some (.slice none 0 0) ∧ w8.frozen? ⟨w.heap.size, 0, none⟩ = false ∧ w8.frozen? ⟨w.heap.size, 1, none⟩ = false ∧ w8.frozen? ⟨w.heap.size, 2, none⟩ = false ∧ w8.frozen? ⟨w.heap.size, 3, none⟩ = false := ⟨(Bx.out.ext hy8.out).c 0, (Bx.out.ext hy8.out).c 1, (Bx.out.ext hy8.out).c 2, (Bx.out.ext hy8.out).c 3, (Bo.out.ext ((((((hy2.out.trans hy3.out).trans hy4.out).trans hy5.out).trans hy6.out).trans hy7.out).trans hy8.out)).c 0, (Bo.out.ext ((((((hy2.out.trans hy3.out).trans hy4.out).trans hy5.out).trans hy6.out).trans hy7.out).trans hy8.out)).c 1, (Bo.out.ext ((((((hy2.out.trans hy3.out).trans hy4.out).trans hy5.out).trans hy6.out).trans hy7.out).trans hy8.out)).c 2, (Bo.out.ext ((((((hy2.out.trans hy3.out).trans hy4.out).trans hy5.out).trans hy6.out).trans hy7.out).trans hy8.out)).c 3, (Bo.out.ext ((((((hy2.out.trans hy3.out).trans hy4.out).trans hy5.out).trans hy6.out).trans hy7.out).trans hy8.out)).fr 0, (Bo.out.ext ((((((hy2.out.trans hy3.out).trans hy4.out).trans hy5.out).trans hy6.out).trans hy7.out).trans hy8.out)).fr 1, (Bo.out.ext ((((((hy2.out.trans hy3.out).trans hy4.out).trans hy5.out).trans hy6.out).trans hy7.out).trans hy8.out)).fr 2, (Bo.out.ext ((((((hy2.out.trans hy3.out).trans hy4.out).trans hy5.out).trans hy6.out).trans hy7.out).trans hy8.out)).fr 3⟩))
  clear f6_0 f6_1 f6_2 f6_3 f6_4 f6_5 f6_6 f6_7 f6_8 f6_9 f6_10 f6_11 f7_0 f7_1 f7_2 f7_3 f7_4 f7_5 f7_6 f7_7 f7_8 f7_9 f7_10 f7_11
  have HG9 := hid (show w8.grownBy ((((w8.setCell ⟨w.heap.size, 0, none⟩ (.bool false)).setCell ⟨w.heap.size, 1, none⟩ (.slice none 0 0)).setCell ⟨w.heap.size, 2, none⟩ (.bool false)).setCell ⟨w.heap.size, 3, none⟩ (.slice none 0 0)) (some (w.heap.size)) from gb4 w8 (w.heap.size) (.bool false) (.slice none 0 0) (.bool false) (.slice none 0 0))
  have HO9 := hid (Bo.out.ext ((((((hy2.out.trans hy3.out).trans hy4.out).trans hy5.out).trans hy6.out).trans hy7.out).trans hy8.out))
  have HP9 := hid (show Bk 27 ((((w8.setCell ⟨w.heap.size, 0, none⟩ (.bool false)).setCell ⟨w.heap.size, 1, none⟩ (.slice none 0 0)).setCell ⟨w.heap.size, 2, none⟩ (.bool false)).setCell ⟨w.heap.size, 3, none⟩ (.slice none 0 0)) (w.heap.size) #[.bool false, .slice none 0 0, .bool false, .slice none 0 0] from (Bo.out.ext ((((((hy2.out.trans hy3.out).trans hy4.out).trans hy5.out).trans hy6.out).trans hy7.out).trans hy8.out)).put4 (.bool false) (.slice none 0 0) (.bool false) (.slice none 0 0))
  generalize ((((w8.setCell ⟨w.heap.size, 0, none⟩ (.bool false)).setCell ⟨w.heap.size, 1, none⟩ (.slice none 0 0)).setCell ⟨w.heap.size, 2, none⟩ (.bool false)).setCell ⟨w.heap.size, 3, none⟩ (.slice none 0 0)) = w9 at *
  have X9 := hid (X8.out.gb HG9.out (by omega))
  refine ret_re rfl HP9.out rfl rfl rfl ⟨rfl, X9.out⟩

set_option maxHeartbeats 6400000 in
set_option maxRecDepth 100000 in
theorem qparse_cD {w : World} {s d e : ByteArray} {K : Nat} {N D : Int} (hs : s.size ≤ 20000) (hK : K ≤ 80000) (hc : ∀ w, Calls Try.prog 45 #[.string s, .string ⟨#[47]⟩] w (RetE (.tuple #[.string d, .string e, .bool true]) w))
    (h1 : ∀ w, Calls Try.prog 46 #[.string d] w (RetIE K N 0 w)) (h2 : ∀ w, Calls Try.prog 46 #[.string e] w (RetIE K D 0 w)) {x : Rat} (hN : x.num = N) (hD : (x.den : Int) = D) (ht : byt s ≠ txr x) :
    Calls Try.prog 18 #[.string s] w (RetRN 4 w) := by
  have hs' : ¬ (20000 : Int) < (s.size : Int) := by omega
  obtain ⟨T, hT⟩ : ∃ T, bts (txr x) = T := ⟨_, rfl⟩
  have HT := hid hT
  have hDp := hid (show 0 < D by have := den_pos x; omega)
  have hg := hid (show Nat.gcd N.natAbs D.natAbs = 1 by rw [← hN, ← hD, Int.natAbs_natCast]; exact x.reduced)
  have hr := hid (show x = (N : Rat) / (dn D : Rat) by rw [dn_of (by have := hDp.out; omega), ← hN, ← hD, rat_self])
  have he : (T.toList == s.toList) = false := sne6 (by rw [← hT, byt_bts (txr_lim x)]; exact fun e => ht e.symm)
  have HN := hid hN
  have HD := hid hD
  clear hT hN hD ht
  have HC := hid hc
  have H1 := hid h1
  have H2 := hid h2
  clear hc h1 h2 hs
  go_enter Try.func18, Try.ntmps18
  go_upto_region 1 with fail
  have hy1 := hid ((Ext.refl w).alloc (.cells #[.bool false, .slice none 0 0, .bool false, .slice none 0 0] 27))
  have Bo_ := (Bk.new w 27 #[.bool false, .slice none 0 0, .bool false, .slice none 0 0])
  have Bo := hid Bo_
  clear Bo_
  generalize (w.alloc (.cells #[.bool false, .slice none 0 0, .bool false, .slice none 0 0] 27)) = w1 at *
  have X1 := hid ((Ext.refl _).trans hy1.out)
  go_upto_region 7 with (first
    | ((go_at_call 45); (with_reducible refine (HC.out _).mono ?_); rintro E2 w2 ⟨rfl, hr2⟩; have X2 := hid (X1.out.trans hr2); have hy2 := hid hr2; clear hr2)
    | ((go_at_call 46); (with_reducible refine (H1.out _).mono ?_); rintro E3 w3 ⟨b3, A3, n3, c3, rfl, o3, hr3⟩; have X3 := hid (X2.out.trans hr3); have hy3 := hid hr3; clear hr3; have O3 := hid (o3.mono X2.out.size); clear o3))
  have hy4 := hid ((Ext.refl w3).alloc (.cells #[.bool b3, .slice A3 n3 c3] 24))
  have Bn_ := (Bk.new w3 24 #[.bool b3, .slice A3 n3 c3])
  have Bn := hid Bn_
  clear Bn_
  generalize (w3.alloc (.cells #[.bool b3, .slice A3 n3 c3] 24)) = w4 at *
  have X4 := hid (X3.out.trans hy4.out)
  go_upto_region 8 with (first
    | ((go_at_call 46); (with_reducible refine (H2.out _).mono ?_); rintro E5 w5 ⟨b5, A5, n5, c5, rfl, o5, hr5⟩; have X5 := hid (X4.out.trans hr5); have hy5 := hid hr5; clear hr5; have O5 := hid (o5.mono X4.out.size); clear o5))
  have hy6 := hid ((Ext.refl w5).alloc (.cells #[.bool b5, .slice A5 n5 c5] 24))
  have Bm_ := (Bk.new w5 24 #[.bool b5, .slice A5 n5 c5])
  have Bm := hid Bm_
  clear Bm_
  generalize (w5.alloc (.cells #[.bool b5, .slice A5 n5 c5] 24)) = w6 at *
  have X6 := hid (X5.out.trans hy6.out)
  obtain ⟨f4_0, f4_1, f4_2, f4_3⟩ : w6.cell? ⟨w3.heap.size, 0, none⟩ = some (.bool b3) ∧ w6.cell? ⟨w3.heap.size, 1, none⟩ = some (.slice A3 n3 c3) ∧ w6.cell? ⟨w5.heap.size, 0, none⟩ = some (.bool b5) ∧ w6.cell? ⟨w5.heap.size, 1, none⟩ = some (.slice A5 n5 c5) := ⟨(Bn.out.ext (hy5.out.trans hy6.out)).c 0, (Bn.out.ext (hy5.out.trans hy6.out)).c 1, Bm.out.c 0, Bm.out.c 1⟩
  go_upto_region 9 with fail
  clear f4_0 f4_1 f4_2 f4_3
  have hy7 := hid ((Ext.refl w6).alloc (.cells #[.bool b3, .slice A3 n3 c3, .bool b5, .slice A5 n5 c5] 27))
  have Bx_ := (Bk.new w6 27 #[.bool b3, .slice A3 n3 c3, .bool b5, .slice A5 n5 c5])
  have Bx := hid Bx_
  clear Bx_
  generalize (w6.alloc (.cells #[.bool b3, .slice A3 n3 c3, .bool b5, .slice A5 n5 c5] 27)) = w7 at *
  have X7 := hid (X6.out.trans hy7.out)
  obtain ⟨f6_0, f6_1, f6_2, f6_3, f6_4, f6_5, f6_6, f6_7, f6_8, f6_9, f6_10, f6_11⟩ : w7.cell? ⟨w6.heap.size, 0, none⟩ = some (.bool b3) ∧ w7.cell? ⟨w6.heap.size, 1, none⟩ = some (.slice A3 n3 c3) ∧ w7.cell? ⟨w6.heap.size, 2, none⟩ = some (.bool b5) ∧ w7.cell? ⟨w6.heap.size, 3, none⟩ = some (.slice A5 n5 c5) ∧ w7.cell? ⟨w.heap.size, 0, none⟩ = some (.bool false) ∧ w7.cell? ⟨w.heap.size, 1, none⟩ = some (.slice none 0 0) ∧ w7.cell? ⟨w.heap.size, 2, none⟩ = some (.bool false) ∧ w7.cell? ⟨w.heap.size, 3, none⟩ = some (.slice none 0 0) ∧ w7.frozen? ⟨w.heap.size, 0, none⟩ = false ∧ w7.frozen? ⟨w.heap.size, 1, none⟩ = false ∧ w7.frozen? ⟨w.heap.size, 2, none⟩ = false ∧ w7.frozen? ⟨w.heap.size, 3, none⟩ = false := ⟨Bx.out.c 0, Bx.out.c 1, Bx.out.c 2, Bx.out.c 3, (Bo.out.ext (((((hy2.out.trans hy3.out).trans hy4.out).trans hy5.out).trans hy6.out).trans hy7.out)).c 0, (Bo.out.ext (((((hy2.out.trans hy3.out).trans hy4.out).trans hy5.out).trans hy6.out).trans hy7.out)).c 1, (Bo.out.ext (((((hy2.out.trans hy3.out).trans hy4.out).trans hy5.out).trans hy6.out).trans hy7.out)).c 2, (Bo.out.ext (((((hy2.out.trans hy3.out).trans hy4.out).trans hy5.out).trans hy6.out).trans hy7.out)).c 3, (Bo.out.ext (((((hy2.out.trans hy3.out).trans hy4.out).trans hy5.out).trans hy6.out).trans hy7.out)).fr 0, (Bo.out.ext (((((hy2.out.trans hy3.out).trans hy4.out).trans hy5.out).trans hy6.out).trans hy7.out)).fr 1, (Bo.out.ext (((((hy2.out.trans hy3.out).trans hy4.out).trans hy5.out).trans hy6.out).trans hy7.out)).fr 2, (Bo.out.ext (((((hy2.out.trans hy3.out).trans hy4.out).trans hy5.out).trans hy6.out).trans hy7.out)).fr 3⟩
  go_wp2_with (first
    | ((go_at_call 21); (with_reducible refine (rmay_ci (O3.out.ext (((hy4.out.trans hy5.out).trans hy6.out).trans hy7.out)) (O5.out.ext (hy6.out.trans hy7.out)) (by omega) hDp.out hg.out).mono ?_); rintro E8 w8 ⟨rfl, hr8⟩; have X8 := hid (X7.out.trans hr8); have hy8 := hid hr8; clear hr8; obtain ⟨f7_0, f7_1, f7_2, f7_3, f7_4, f7_5, f7_6, f7_7, f7_8, f7_9, f7_10, f7_11⟩ : w8.cell? ⟨w6.heap.size, 0, none⟩ = some (.bool b3) ∧ w8.cell? ⟨w6.heap.size, 1, none⟩ = some (.slice A3 n3 c3) ∧ w8.cell? ⟨w6.heap.size, 2, none⟩ = some (.bool b5) ∧ w8.cell? ⟨w6.heap.size, 3, none⟩ = some (.slice A5 n5 c5) ∧ w8.cell? ⟨w.heap.size, 0, none⟩ = some (.bool false) ∧ w8.cell? ⟨w.heap.size, 1, none⟩ = some (.slice none 0 0) ∧ w8.cell? ⟨w.heap.size, 2, none⟩ = some (.bool false) ∧ w8.cell? ⟨w.heap.size, 3, none⟩ = some (.slice none 0 0) ∧ w8.frozen? ⟨w.heap.size, 0, none⟩ = false ∧ w8.frozen? ⟨w.heap.size, 1, none⟩ = false ∧ w8.frozen? ⟨w.heap.size, 2, none⟩ = false ∧ w8.frozen? ⟨w.heap.size, 3, none⟩ = false := ⟨(Bx.out.ext hy8.out).c 0, (Bx.out.ext hy8.out).c 1, (Bx.out.ext hy8.out).c 2, (Bx.out.ext hy8.out).c 3, (Bo.out.ext ((((((hy2.out.trans hy3.out).trans hy4.out).trans hy5.out).trans hy6.out).trans hy7.out).trans hy8.out)).c 0, (Bo.out.ext ((((((hy2.out.trans hy3.out).trans hy4.out).trans hy5.out).trans hy6.out).trans hy7.out).trans hy8.out)).c 1, (Bo.out.ext ((((((hy2.out.trans hy3.out).trans hy4.out).trans hy5.out).trans hy6.out).trans hy7.out).trans hy8.out)).c 2, (Bo.out.ext ((((((hy2.out.trans hy3.out).trans hy4.out).trans hy5.out).trans hy6.out).trans hy7.out).trans hy8.out)).c 3, (Bo.out.ext ((((((hy2.out.trans hy3.out).trans hy4.out).trans hy5.out).trans hy6.out).trans hy7.out).trans hy8.out)).fr 0, (Bo.out.ext ((((((hy2.out.trans hy3.out).trans hy4.out).trans hy5.out).trans hy6.out).trans hy7.out).trans hy8.out)).fr 1, (Bo.out.ext ((((((hy2.out.trans hy3.out).trans hy4.out).trans hy5.out).trans hy6.out).trans hy7.out).trans hy8.out)).fr 2, (Bo.out.ext ((((((hy2.out.trans hy3.out).trans hy4.out).trans hy5.out).trans hy6.out).trans hy7.out).trans hy8.out)).fr 3⟩)
    | ((go_at_call 20); (with_reducible refine (rtext_qis (Rv.mk (O3.out.ext ((((hy4.out.trans hy5.out).trans hy6.out).trans hy7.out).trans hy8.out)).iz (O5.out.ext ((hy6.out.trans hy7.out).trans hy8.out)).iz hr.out) (by omega) HT.out).mono ?_); rintro E9 w9 ⟨rfl, hr9⟩; have X9 := hid (X8.out.trans hr9); have hy9 := hid hr9; clear hr9; obtain ⟨f8_0, f8_1, f8_2, f8_3, f8_4, f8_5, f8_6, f8_7, f8_8, f8_9, f8_10, f8_11⟩ : w9.cell? ⟨w6.heap.size, 0, none⟩ = some (.bool b3) ∧ w9.cell? ⟨w6.heap.size, 1, none⟩ = some (.slice A3 n3 c3) ∧ w9.cell? ⟨w6.heap.size, 2, none⟩ = some (.bool b5) ∧ w9.cell? ⟨w6.heap.size, 3, none⟩ = some (.slice A5 n5 c5) ∧ w9.cell? ⟨w.heap.size, 0, none⟩ = some (.bool false) ∧ w9.cell? ⟨w.heap.size, 1, none⟩ = some (.slice none 0 0) ∧ w9.cell? ⟨w.heap.size, 2, none⟩ = some (.bool false) ∧ w9.cell? ⟨w.heap.size, 3, none⟩ = some (.slice none 0 0) ∧ w9.frozen? ⟨w.heap.size, 0, none⟩ = false ∧ w9.frozen? ⟨w.heap.size, 1, none⟩ = false ∧ w9.frozen? ⟨w.heap.size, 2, none⟩ = false ∧ w9.frozen? ⟨w.heap.size, 3, none⟩ = false := ⟨(Bx.out.ext (hy8.out.trans hy9.out)).c 0, (Bx.out.ext (hy8.out.trans hy9.out)).c 1, (Bx.out.ext (hy8.out.trans hy9.out)).c 2, (Bx.out.ext (hy8.out.trans hy9.out)).c 3, (Bo.out.ext (((((((hy2.out.trans hy3.out).trans hy4.out).trans hy5.out).trans hy6.out).trans hy7.out).trans hy8.out).trans hy9.out)).c 0, (Bo.out.ext (((((((hy2.out.trans hy3.out).trans hy4.out).trans hy5.out).trans hy6.out).trans hy7.out).trans hy8.out).trans hy9.out)).c 1, (Bo.out.ext (((((((hy2.out.trans hy3.out).trans hy4.out).trans hy5.out).trans hy6.out).trans hy7.out).trans hy8.out).trans hy9.out)).c 2, (Bo.out.ext (((((((hy2.out.trans hy3.out).trans hy4.out).trans hy5.out).trans hy6.out).trans hy7.out).trans hy8.out).trans hy9.out)).c 3, (Bo.out.ext (((((((hy2.out.trans hy3.out).trans hy4.out).trans hy5.out).trans hy6.out).trans hy7.out).trans hy8.out).trans hy9.out)).fr 0, (Bo.out.ext (((((((hy2.out.trans hy3.out).trans hy4.out).trans hy5.out).trans hy6.out).trans hy7.out).trans hy8.out).trans hy9.out)).fr 1, (Bo.out.ext (((((((hy2.out.trans hy3.out).trans hy4.out).trans hy5.out).trans hy6.out).trans hy7.out).trans hy8.out).trans hy9.out)).fr 2, (Bo.out.ext (((((((hy2.out.trans hy3.out).trans hy4.out).trans hy5.out).trans hy6.out).trans hy7.out).trans hy8.out).trans hy9.out)).fr 3⟩))
  clear f6_0 f6_1 f6_2 f6_3 f6_4 f6_5 f6_6 f6_7 f6_8 f6_9 f6_10 f6_11 f7_0 f7_1 f7_2 f7_3 f7_4 f7_5 f7_6 f7_7 f7_8 f7_9 f7_10 f7_11 f8_0 f8_1 f8_2 f8_3 f8_4 f8_5 f8_6 f8_7 f8_8 f8_9 f8_10 f8_11
  have HG10 := hid (show w9.grownBy ((((w9.setCell ⟨w.heap.size, 0, none⟩ (.bool false)).setCell ⟨w.heap.size, 1, none⟩ (.slice none 0 0)).setCell ⟨w.heap.size, 2, none⟩ (.bool false)).setCell ⟨w.heap.size, 3, none⟩ (.slice none 0 0)) (some (w.heap.size)) from gb4 w9 (w.heap.size) (.bool false) (.slice none 0 0) (.bool false) (.slice none 0 0))
  have HO10 := hid (Bo.out.ext (((((((hy2.out.trans hy3.out).trans hy4.out).trans hy5.out).trans hy6.out).trans hy7.out).trans hy8.out).trans hy9.out))
  have HP10 := hid (show Bk 27 ((((w9.setCell ⟨w.heap.size, 0, none⟩ (.bool false)).setCell ⟨w.heap.size, 1, none⟩ (.slice none 0 0)).setCell ⟨w.heap.size, 2, none⟩ (.bool false)).setCell ⟨w.heap.size, 3, none⟩ (.slice none 0 0)) (w.heap.size) #[.bool false, .slice none 0 0, .bool false, .slice none 0 0] from (Bo.out.ext (((((((hy2.out.trans hy3.out).trans hy4.out).trans hy5.out).trans hy6.out).trans hy7.out).trans hy8.out).trans hy9.out)).put4 (.bool false) (.slice none 0 0) (.bool false) (.slice none 0 0))
  generalize ((((w9.setCell ⟨w.heap.size, 0, none⟩ (.bool false)).setCell ⟨w.heap.size, 1, none⟩ (.slice none 0 0)).setCell ⟨w.heap.size, 2, none⟩ (.bool false)).setCell ⟨w.heap.size, 3, none⟩ (.slice none 0 0)) = w10 at *
  have X10 := hid (X9.out.gb HG10.out (by omega))
  refine ret_re rfl HP10.out rfl rfl rfl ⟨rfl, X10.out⟩

set_option maxHeartbeats 6400000 in
set_option maxRecDepth 100000 in
theorem qparse_cE {w : World} {s d e : ByteArray} {K : Nat} {N D : Int} (hs : s.size ≤ 20000) (hK : K ≤ 80000) (hc : ∀ w, Calls Try.prog 45 #[.string s, .string ⟨#[47]⟩] w (RetE (.tuple #[.string d, .string e, .bool true]) w))
    (h1 : ∀ w, Calls Try.prog 46 #[.string d] w (RetIE K N 0 w)) (h2 : ∀ w, Calls Try.prog 46 #[.string e] w (RetIE K D 0 w)) {x : Rat} (hN : x.num = N) (hD : (x.den : Int) = D) (ht : byt s = txr x) :
    Calls Try.prog 18 #[.string s] w (RetRE K x 0 w) := by
  have hs' : ¬ (20000 : Int) < (s.size : Int) := by omega
  obtain ⟨T, hT⟩ : ∃ T, bts (txr x) = T := ⟨_, rfl⟩
  have HT := hid hT
  have hDp := hid (show 0 < D by have := den_pos x; omega)
  have hg := hid (show Nat.gcd N.natAbs D.natAbs = 1 by rw [← hN, ← hD, Int.natAbs_natCast]; exact x.reduced)
  have hr := hid (show x = (N : Rat) / (dn D : Rat) by rw [dn_of (by have := hDp.out; omega), ← hN, ← hD, rat_self])
  have he : (T.toList == s.toList) = true := seq6 (by rw [← hT, ← ht, bts_byt])
  have HN := hid hN
  have HD := hid hD
  clear hT hN hD ht
  have HC := hid hc
  have H1 := hid h1
  have H2 := hid h2
  clear hc h1 h2 hs
  go_enter Try.func18, Try.ntmps18
  go_upto_region 1 with fail
  have hy1 := hid ((Ext.refl w).alloc (.cells #[.bool false, .slice none 0 0, .bool false, .slice none 0 0] 27))
  have Bo_ := (Bk.new w 27 #[.bool false, .slice none 0 0, .bool false, .slice none 0 0])
  have Bo := hid Bo_
  clear Bo_
  generalize (w.alloc (.cells #[.bool false, .slice none 0 0, .bool false, .slice none 0 0] 27)) = w1 at *
  have X1 := hid ((Ext.refl _).trans hy1.out)
  go_upto_region 7 with (first
    | ((go_at_call 45); (with_reducible refine (HC.out _).mono ?_); rintro E2 w2 ⟨rfl, hr2⟩; have X2 := hid (X1.out.trans hr2); have hy2 := hid hr2; clear hr2)
    | ((go_at_call 46); (with_reducible refine (H1.out _).mono ?_); rintro E3 w3 ⟨b3, A3, n3, c3, rfl, o3, hr3⟩; have X3 := hid (X2.out.trans hr3); have hy3 := hid hr3; clear hr3; have O3 := hid (o3.mono X2.out.size); clear o3))
  have hy4 := hid ((Ext.refl w3).alloc (.cells #[.bool b3, .slice A3 n3 c3] 24))
  have Bn_ := (Bk.new w3 24 #[.bool b3, .slice A3 n3 c3])
  have Bn := hid Bn_
  clear Bn_
  generalize (w3.alloc (.cells #[.bool b3, .slice A3 n3 c3] 24)) = w4 at *
  have X4 := hid (X3.out.trans hy4.out)
  go_upto_region 8 with (first
    | ((go_at_call 46); (with_reducible refine (H2.out _).mono ?_); rintro E5 w5 ⟨b5, A5, n5, c5, rfl, o5, hr5⟩; have X5 := hid (X4.out.trans hr5); have hy5 := hid hr5; clear hr5; have O5 := hid (o5.mono X4.out.size); clear o5))
  have hy6 := hid ((Ext.refl w5).alloc (.cells #[.bool b5, .slice A5 n5 c5] 24))
  have Bm_ := (Bk.new w5 24 #[.bool b5, .slice A5 n5 c5])
  have Bm := hid Bm_
  clear Bm_
  generalize (w5.alloc (.cells #[.bool b5, .slice A5 n5 c5] 24)) = w6 at *
  have X6 := hid (X5.out.trans hy6.out)
  obtain ⟨f4_0, f4_1, f4_2, f4_3⟩ : w6.cell? ⟨w3.heap.size, 0, none⟩ = some (.bool b3) ∧ w6.cell? ⟨w3.heap.size, 1, none⟩ = some (.slice A3 n3 c3) ∧ w6.cell? ⟨w5.heap.size, 0, none⟩ = some (.bool b5) ∧ w6.cell? ⟨w5.heap.size, 1, none⟩ = some (.slice A5 n5 c5) := ⟨(Bn.out.ext (hy5.out.trans hy6.out)).c 0, (Bn.out.ext (hy5.out.trans hy6.out)).c 1, Bm.out.c 0, Bm.out.c 1⟩
  go_upto_region 9 with fail
  clear f4_0 f4_1 f4_2 f4_3
  have hy7 := hid ((Ext.refl w6).alloc (.cells #[.bool b3, .slice A3 n3 c3, .bool b5, .slice A5 n5 c5] 27))
  have Bx_ := (Bk.new w6 27 #[.bool b3, .slice A3 n3 c3, .bool b5, .slice A5 n5 c5])
  have Bx := hid Bx_
  clear Bx_
  generalize (w6.alloc (.cells #[.bool b3, .slice A3 n3 c3, .bool b5, .slice A5 n5 c5] 27)) = w7 at *
  have X7 := hid (X6.out.trans hy7.out)
  obtain ⟨f6_0, f6_1, f6_2, f6_3, f6_4, f6_5, f6_6, f6_7, f6_8, f6_9, f6_10, f6_11⟩ : w7.cell? ⟨w6.heap.size, 0, none⟩ = some (.bool b3) ∧ w7.cell? ⟨w6.heap.size, 1, none⟩ = some (.slice A3 n3 c3) ∧ w7.cell? ⟨w6.heap.size, 2, none⟩ = some (.bool b5) ∧ w7.cell? ⟨w6.heap.size, 3, none⟩ = some (.slice A5 n5 c5) ∧ w7.cell? ⟨w.heap.size, 0, none⟩ = some (.bool false) ∧ w7.cell? ⟨w.heap.size, 1, none⟩ = some (.slice none 0 0) ∧ w7.cell? ⟨w.heap.size, 2, none⟩ = some (.bool false) ∧ w7.cell? ⟨w.heap.size, 3, none⟩ = some (.slice none 0 0) ∧ w7.frozen? ⟨w.heap.size, 0, none⟩ = false ∧ w7.frozen? ⟨w.heap.size, 1, none⟩ = false ∧ w7.frozen? ⟨w.heap.size, 2, none⟩ = false ∧ w7.frozen? ⟨w.heap.size, 3, none⟩ = false := ⟨Bx.out.c 0, Bx.out.c 1, Bx.out.c 2, Bx.out.c 3, (Bo.out.ext (((((hy2.out.trans hy3.out).trans hy4.out).trans hy5.out).trans hy6.out).trans hy7.out)).c 0, (Bo.out.ext (((((hy2.out.trans hy3.out).trans hy4.out).trans hy5.out).trans hy6.out).trans hy7.out)).c 1, (Bo.out.ext (((((hy2.out.trans hy3.out).trans hy4.out).trans hy5.out).trans hy6.out).trans hy7.out)).c 2, (Bo.out.ext (((((hy2.out.trans hy3.out).trans hy4.out).trans hy5.out).trans hy6.out).trans hy7.out)).c 3, (Bo.out.ext (((((hy2.out.trans hy3.out).trans hy4.out).trans hy5.out).trans hy6.out).trans hy7.out)).fr 0, (Bo.out.ext (((((hy2.out.trans hy3.out).trans hy4.out).trans hy5.out).trans hy6.out).trans hy7.out)).fr 1, (Bo.out.ext (((((hy2.out.trans hy3.out).trans hy4.out).trans hy5.out).trans hy6.out).trans hy7.out)).fr 2, (Bo.out.ext (((((hy2.out.trans hy3.out).trans hy4.out).trans hy5.out).trans hy6.out).trans hy7.out)).fr 3⟩
  go_wp2_with (first
    | ((go_at_call 21); (with_reducible refine (rmay_ci (O3.out.ext (((hy4.out.trans hy5.out).trans hy6.out).trans hy7.out)) (O5.out.ext (hy6.out.trans hy7.out)) (by omega) hDp.out hg.out).mono ?_); rintro E8 w8 ⟨rfl, hr8⟩; have X8 := hid (X7.out.trans hr8); have hy8 := hid hr8; clear hr8; obtain ⟨f7_0, f7_1, f7_2, f7_3, f7_4, f7_5, f7_6, f7_7, f7_8, f7_9, f7_10, f7_11⟩ : w8.cell? ⟨w6.heap.size, 0, none⟩ = some (.bool b3) ∧ w8.cell? ⟨w6.heap.size, 1, none⟩ = some (.slice A3 n3 c3) ∧ w8.cell? ⟨w6.heap.size, 2, none⟩ = some (.bool b5) ∧ w8.cell? ⟨w6.heap.size, 3, none⟩ = some (.slice A5 n5 c5) ∧ w8.cell? ⟨w.heap.size, 0, none⟩ = some (.bool false) ∧ w8.cell? ⟨w.heap.size, 1, none⟩ = some (.slice none 0 0) ∧ w8.cell? ⟨w.heap.size, 2, none⟩ = some (.bool false) ∧ w8.cell? ⟨w.heap.size, 3, none⟩ = some (.slice none 0 0) ∧ w8.frozen? ⟨w.heap.size, 0, none⟩ = false ∧ w8.frozen? ⟨w.heap.size, 1, none⟩ = false ∧ w8.frozen? ⟨w.heap.size, 2, none⟩ = false ∧ w8.frozen? ⟨w.heap.size, 3, none⟩ = false := ⟨(Bx.out.ext hy8.out).c 0, (Bx.out.ext hy8.out).c 1, (Bx.out.ext hy8.out).c 2, (Bx.out.ext hy8.out).c 3, (Bo.out.ext ((((((hy2.out.trans hy3.out).trans hy4.out).trans hy5.out).trans hy6.out).trans hy7.out).trans hy8.out)).c 0, (Bo.out.ext ((((((hy2.out.trans hy3.out).trans hy4.out).trans hy5.out).trans hy6.out).trans hy7.out).trans hy8.out)).c 1, (Bo.out.ext ((((((hy2.out.trans hy3.out).trans hy4.out).trans hy5.out).trans hy6.out).trans hy7.out).trans hy8.out)).c 2, (Bo.out.ext ((((((hy2.out.trans hy3.out).trans hy4.out).trans hy5.out).trans hy6.out).trans hy7.out).trans hy8.out)).c 3, (Bo.out.ext ((((((hy2.out.trans hy3.out).trans hy4.out).trans hy5.out).trans hy6.out).trans hy7.out).trans hy8.out)).fr 0, (Bo.out.ext ((((((hy2.out.trans hy3.out).trans hy4.out).trans hy5.out).trans hy6.out).trans hy7.out).trans hy8.out)).fr 1, (Bo.out.ext ((((((hy2.out.trans hy3.out).trans hy4.out).trans hy5.out).trans hy6.out).trans hy7.out).trans hy8.out)).fr 2, (Bo.out.ext ((((((hy2.out.trans hy3.out).trans hy4.out).trans hy5.out).trans hy6.out).trans hy7.out).trans hy8.out)).fr 3⟩)
    | ((go_at_call 20); (with_reducible refine (rtext_qis (Rv.mk (O3.out.ext ((((hy4.out.trans hy5.out).trans hy6.out).trans hy7.out).trans hy8.out)).iz (O5.out.ext ((hy6.out.trans hy7.out).trans hy8.out)).iz hr.out) (by omega) HT.out).mono ?_); rintro E9 w9 ⟨rfl, hr9⟩; have X9 := hid (X8.out.trans hr9); have hy9 := hid hr9; clear hr9; obtain ⟨f8_0, f8_1, f8_2, f8_3, f8_4, f8_5, f8_6, f8_7, f8_8, f8_9, f8_10, f8_11⟩ : w9.cell? ⟨w6.heap.size, 0, none⟩ = some (.bool b3) ∧ w9.cell? ⟨w6.heap.size, 1, none⟩ = some (.slice A3 n3 c3) ∧ w9.cell? ⟨w6.heap.size, 2, none⟩ = some (.bool b5) ∧ w9.cell? ⟨w6.heap.size, 3, none⟩ = some (.slice A5 n5 c5) ∧ w9.cell? ⟨w.heap.size, 0, none⟩ = some (.bool false) ∧ w9.cell? ⟨w.heap.size, 1, none⟩ = some (.slice none 0 0) ∧ w9.cell? ⟨w.heap.size, 2, none⟩ = some (.bool false) ∧ w9.cell? ⟨w.heap.size, 3, none⟩ = some (.slice none 0 0) ∧ w9.frozen? ⟨w.heap.size, 0, none⟩ = false ∧ w9.frozen? ⟨w.heap.size, 1, none⟩ = false ∧ w9.frozen? ⟨w.heap.size, 2, none⟩ = false ∧ w9.frozen? ⟨w.heap.size, 3, none⟩ = false := ⟨(Bx.out.ext (hy8.out.trans hy9.out)).c 0, (Bx.out.ext (hy8.out.trans hy9.out)).c 1, (Bx.out.ext (hy8.out.trans hy9.out)).c 2, (Bx.out.ext (hy8.out.trans hy9.out)).c 3, (Bo.out.ext (((((((hy2.out.trans hy3.out).trans hy4.out).trans hy5.out).trans hy6.out).trans hy7.out).trans hy8.out).trans hy9.out)).c 0, (Bo.out.ext (((((((hy2.out.trans hy3.out).trans hy4.out).trans hy5.out).trans hy6.out).trans hy7.out).trans hy8.out).trans hy9.out)).c 1, (Bo.out.ext (((((((hy2.out.trans hy3.out).trans hy4.out).trans hy5.out).trans hy6.out).trans hy7.out).trans hy8.out).trans hy9.out)).c 2, (Bo.out.ext (((((((hy2.out.trans hy3.out).trans hy4.out).trans hy5.out).trans hy6.out).trans hy7.out).trans hy8.out).trans hy9.out)).c 3, (Bo.out.ext (((((((hy2.out.trans hy3.out).trans hy4.out).trans hy5.out).trans hy6.out).trans hy7.out).trans hy8.out).trans hy9.out)).fr 0, (Bo.out.ext (((((((hy2.out.trans hy3.out).trans hy4.out).trans hy5.out).trans hy6.out).trans hy7.out).trans hy8.out).trans hy9.out)).fr 1, (Bo.out.ext (((((((hy2.out.trans hy3.out).trans hy4.out).trans hy5.out).trans hy6.out).trans hy7.out).trans hy8.out).trans hy9.out)).fr 2, (Bo.out.ext (((((((hy2.out.trans hy3.out).trans hy4.out).trans hy5.out).trans hy6.out).trans hy7.out).trans hy8.out).trans hy9.out)).fr 3⟩))
  clear f6_0 f6_1 f6_2 f6_3 f6_4 f6_5 f6_6 f6_7 f6_8 f6_9 f6_10 f6_11 f7_0 f7_1 f7_2 f7_3 f7_4 f7_5 f7_6 f7_7 f7_8 f7_9 f7_10 f7_11 f8_0 f8_1 f8_2 f8_3 f8_4 f8_5 f8_6 f8_7 f8_8 f8_9 f8_10 f8_11
  have HG10 := hid (show w9.grownBy ((((w9.setCell ⟨w.heap.size, 0, none⟩ (.bool b3)).setCell ⟨w.heap.size, 1, none⟩ (.slice A3 n3 c3)).setCell ⟨w.heap.size, 2, none⟩ (.bool b5)).setCell ⟨w.heap.size, 3, none⟩ (.slice A5 n5 c5)) (some (w.heap.size)) from gb4 w9 (w.heap.size) (.bool b3) (.slice A3 n3 c3) (.bool b5) (.slice A5 n5 c5))
  have HO10 := hid (Bo.out.ext (((((((hy2.out.trans hy3.out).trans hy4.out).trans hy5.out).trans hy6.out).trans hy7.out).trans hy8.out).trans hy9.out))
  have HP10 := hid (show Bk 27 ((((w9.setCell ⟨w.heap.size, 0, none⟩ (.bool b3)).setCell ⟨w.heap.size, 1, none⟩ (.slice A3 n3 c3)).setCell ⟨w.heap.size, 2, none⟩ (.bool b5)).setCell ⟨w.heap.size, 3, none⟩ (.slice A5 n5 c5)) (w.heap.size) #[.bool b3, .slice A3 n3 c3, .bool b5, .slice A5 n5 c5] from (Bo.out.ext (((((((hy2.out.trans hy3.out).trans hy4.out).trans hy5.out).trans hy6.out).trans hy7.out).trans hy8.out).trans hy9.out)).put4 (.bool b3) (.slice A3 n3 c3) (.bool b5) (.slice A5 n5 c5))
  generalize ((((w9.setCell ⟨w.heap.size, 0, none⟩ (.bool b3)).setCell ⟨w.heap.size, 1, none⟩ (.slice A3 n3 c3)).setCell ⟨w.heap.size, 2, none⟩ (.bool b5)).setCell ⟨w.heap.size, 3, none⟩ (.slice A5 n5 c5)) = w10 at *
  have X10 := hid (X9.out.gb HG10.out (by omega))
  refine ret_re rfl HP10.out rfl rfl rfl ⟨_, _, _, _, _, _, _, _, rfl, ⟨((O3.out.ext (((((hy4.out.trans hy5.out).trans hy6.out).trans hy7.out).trans hy8.out).trans hy9.out)).gbk HO10.out (by decide) HG10.out).cast HN.out.symm, ((O5.out.ext (((hy6.out.trans hy7.out).trans hy8.out).trans hy9.out)).gbk HO10.out (by decide) HG10.out).cast HD.out.symm⟩, X10.out⟩

theorem one_text : pz [49] = 1 ∧ pe [49] = 0 := by
  have e : nd 10 1 = [1] := (eq_nd (by omega) ⟨by decide, by decide⟩ (by decide)).symm
  have e2 : tx 1 = [49] := by unfold tx; rw [if_neg (by decide), if_neg (by decide)]; show dgs 1 = _; rw [dgs, e]; decide
  have h := tx_good 1
  rw [e2] at h
  exact ⟨h.2, pe_good h.1⟩
theorem parse_l {w : World} {s : ByteArray} {l : List Nat} {K : Nat} {z e : Int} (hl : byt s = l) (hK : 3 * l.length ≤ K) (hs : l.length ≤ 20000) (hz : pz l = z) (he : pe l = e) : Calls Try.prog 46 #[.string s] w (RetIE K z e w) := by
  subst hz he hl
  rw [byt_len] at hK hs
  refine (parse_v hs).mono ?_
  rintro E w' ⟨b, A, n, c, rfl, h1, h2⟩
  exact ⟨b, A, n, c, rfl, h1.weak hK, h2⟩
/-- A text that is a number's. -/
theorem qparse_yes {w : World} {s : ByteArray} {r : Rat} (hs : s.size ≤ 20000) (h : byt s = txr r) : Calls Try.prog 18 #[.string s] w (RetRE (3 * s.size + 3) r 0 w) := by
  have hl := byt_len s
  by_cases hr : r.den = 1
  · have e : byt s = tx r.num := by rw [h, txr_whole hr]
    have ht := tx_good r.num
    refine qparse_nE (d := s) (e := ⟨#[]⟩) (N := r.num) (D := 1) hs (by omega) (fun w => cut_no (by rw [e]; exact tx_no)) (fun w => parse_l e (by rw [← e]; omega) (by rw [← e]; omega) ht.2 (pe_good ht.1)) (fun w => parse_l (l := [49]) rfl (by simp) (by simp) one_text.1 one_text.2) rfl (by rw [hr]; rfl) h
  · have e : byt s = tx r.num ++ 47 :: tx (r.den : Int) := by rw [h, txr_part hr]
    have hl2 : (tx r.num).length + ((tx (r.den : Int)).length + 1) = s.size := by rw [← hl, e, List.length_append, List.length_cons]
    obtain ⟨d, f, h1, h2, h3⟩ := cut_yes tx_no e (by omega)
    have g1 := tx_good r.num
    have g2 := tx_good (r.den : Int)
    exact qparse_cE hs (by omega) h3 (fun w => parse_l h1 (by omega) (by omega) g1.2 (pe_good g1.1)) (fun w => parse_l h2 (by omega) (by omega) g2.2 (pe_good g2.1)) rfl rfl h
/-- A text that is no number's. -/
theorem qparse_no {w : World} {s : ByteArray} (hs : s.size ≤ 20000) (h : ∀ r, byt s ≠ txr r) : Calls Try.prog 18 #[.string s] w (RetRN 4 w) := by
  have hl := byt_len s
  by_cases h47 : 47 ∈ byt s
  · obtain ⟨a, b, ha, e⟩ := cut_some h47
    have hl2 : a.length + (b.length + 1) = s.size := by rw [← hl, e, List.length_append, List.length_cons]
    obtain ⟨d, f, h1, h2, h3⟩ := cut_yes ha e (by omega)
    have pb : ∀ {z v : Int} (w : World), pz b = z → pe b = v → Calls Try.prog 46 #[.string f] w (RetIE (3 * s.size + 3) z v w) := fun w hz hv => parse_l h2 (by omega) (by omega) hz hv
    have pa : ∀ {z v : Int} (w : World), pz a = z → pe a = v → Calls Try.prog 46 #[.string d] w (RetIE (3 * s.size + 3) z v w) := fun w hz hv => parse_l h1 (by omega) (by omega) hz hv
    by_cases ga : Good a
    · by_cases gb : Good b
      · by_cases hm : 0 < pz b ∧ Nat.gcd (pz a).natAbs (pz b).natAbs = 1
        · obtain ⟨r1, r2⟩ := rat_of hm.1 hm.2
          exact qparse_cD hs (by omega) h3 (fun w => pa w rfl (pe_good ga)) (fun w => pb w rfl (pe_good gb)) r1 r2 (h _)
        · exact qparse_cC hs (by omega) h3 (fun w => pa w rfl (pe_good ga)) (fun w => pb w rfl (pe_good gb)) hm
      · exact qparse_cB hs (by omega) h3 (fun w => pa w rfl (pe_good ga)) (fun w => pb w (pe_bad gb).2 (pe_bad gb).1)
    · exact qparse_cA hs (by omega) h3 (fun w => pa w (pe_bad ga).2 (pe_bad ga).1) (fun w => pb w rfl rfl)
  · have hg : ¬ Good (byt s) := fun hg => h _ (txr_int hg).symm
    exact qparse_nA (K := 3 * s.size + 3) hs (by omega) (fun w => cut_no h47) (fun w => parse_l rfl (by omega) (by omega) (pe_bad hg).2 (pe_bad hg).1) (fun w => parse_l (l := [49]) rfl (by simp) (by simp) one_text.1 one_text.2)

end Go.Proofs.Ytikkibpjchmajaa

