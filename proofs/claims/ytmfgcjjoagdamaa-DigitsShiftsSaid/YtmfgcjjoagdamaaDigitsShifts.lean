
/-
  The walk of DigitsShifts. Printed by wip/gen/dshift.py.
-/
import Derived.Test.YtmfgcjjoagdamaaKnown5
import Derived.Test.YtmfgcjjoagdamaaRParse
import Derived.Test.YtmfgcjjoagdamaaStr
import Derived.Test.YtmfgcjjoagdamaaZA
namespace Go.Proofs.Ytmfgcjjoagdamaa
open Go.RowKit
open Go.Lib (hid)

theorem slice_to1 {s : ByteArray} (h : 1 ≤ s.size) : ∃ d : ByteArray, byt d = (byt s).take 1 ∧ ∀ w, (Instr.slice 9 (.string s) none (some (.int .i64 1)) none).run Try.prog w = .ok (.string d) w := by
  refine ⟨s.extract 0 1, ?_, fun w => ?_⟩
  · unfold byt
    rw [Go.Lib.extract_data, List.drop_zero, List.map_take]
  · rw [run_slice_string_to_if w 9 s .i64 _ Try.underlying9, if_pos ⟨by omega, by omega⟩]
    rfl
theorem take1 {l : List Nat} (h : 1 ≤ l.length) : (decide (l.take 1 = [45])) = decide (l.head? = some 45) := by
  cases l with
  | nil => simp at h
  | cons c r => simp
theorem hasPrefix_v {w : World} {s : ByteArray} (hs : 1 ≤ s.size) : Calls Try.prog 87 #[.string s, .string ⟨#[45]⟩] w (RetE (.bool (decide ((byt s).head? = some 45))) w) := by
  obtain ⟨d, hd, hsl⟩ := slice_to1 hs
  have hs' : (1 : Int) ≤ (s.size : Int) := by omega
  have ht := take1 (l := byt s) (by rw [byt_len]; exact hs)
  rw [← hd] at ht
  by_cases hc : byt d = [45]
  · have he : (d.toList == [45]) = true := str_eq (l := [45]) (by rw [hc]; rfl)
    have HT : Hid (decide ((byt s).head? = some 45) = true) := by show _ = _; rw [← ht]; exact decide_eq_true hc
    clear ht hc hd
    go_enter Try.func87, Try.ntmps87
    go_wp2_with fail
    go_ret
    exact ⟨by rw [HT.out]; rfl, Ext.refl _⟩
  · have he : (d.toList == [45]) = false := str_ne (l := [45]) (by intro e; exact hc (by rw [e]; rfl))
    have HT : Hid (decide ((byt s).head? = some 45) = false) := by show _ = _; rw [← ht]; exact decide_eq_false hc
    clear ht hc hd
    go_enter Try.func87, Try.ntmps87
    go_wp2_with fail
    go_ret
    exact ⟨by rw [HT.out]; rfl, Ext.refl _⟩
theorem hasPrefix_is {w : World} {s : ByteArray} {b : Bool} (hs : 1 ≤ s.size) (hb : decide ((byt s).head? = some 45) = b) : Calls Try.prog 87 #[.string s, .string ⟨#[45]⟩] w (RetE (.bool b) w) := hb ▸ hasPrefix_v hs
theorem cutL_yes {w : World} {s : ByteArray} (hs : 1 ≤ s.size) (hb : (byt s).head? = some 45) : ∃ d : ByteArray, byt d = (byt s).drop 1 ∧ Calls Try.prog 68 #[.string s, .string ⟨#[45]⟩] w (RetE (.tuple #[.string d, .bool true]) w) := by
  obtain ⟨d, hd, _, hsl⟩ := slice1 (s := s) hs
  refine ⟨d, hd, ?_⟩
  have hp := hid (hasPrefix_is (w := w) hs (decide_eq_true hb))
  clear hd hb
  go_enter Try.func68, Try.ntmps68
  go_wp2_with fail
  refine hp.out.mono ?_
  rintro E w1 ⟨rfl, x1⟩
  go_wp2_with fail
  go_ret2
  exact ⟨rfl, x1⟩
theorem cutL_no {w : World} {s : ByteArray} (hs : 1 ≤ s.size) (hb : (byt s).head? ≠ some 45) : Calls Try.prog 68 #[.string s, .string ⟨#[45]⟩] w (RetE (.tuple #[.string s, .bool false]) w) := by
  have hp := hid (hasPrefix_is (w := w) hs (decide_eq_false hb))
  clear hb
  go_enter Try.func68, Try.ntmps68
  go_wp2_with fail
  refine hp.out.mono ?_
  rintro E w1 ⟨rfl, x1⟩
  go_wp2_with fail
  go_ret2
  exact ⟨rfl, x1⟩
theorem cut_up {w : World} {s d : ByteArray} {b : Bool} (h : ∀ w, Calls Try.prog 68 #[.string s, .string ⟨#[45]⟩] w (RetE (.tuple #[.string d, .bool b]) w)) : Calls Try.prog 27 #[.string s, .string ⟨#[45]⟩] w (RetE (.tuple #[.string d, .bool b]) w) := by
  have H := hid h
  clear h
  go_enter Try.func27, Try.ntmps27
  go_wp2_with fail
  refine (H.out w).mono ?_
  rintro E w1 ⟨rfl, x1⟩
  go_wp2_with fail
  go_ret2
  exact ⟨rfl, x1⟩
/-- The sign of a number's text, cut off. -/
theorem cut_tx {w : World} {z : Int} (hz : z ≠ 0) : Calls Try.prog 27 #[.string (bts (tx z)), .string ⟨#[45]⟩] w (RetE (.tuple #[.string (bts (dgs z.natAbs)), .bool (decide (z < 0))]) w) := by
  have hb := byt_bts (tx_lim z)
  have hne := dgs_ne (m := z.natAbs) (by omega)
  have hlp := List.length_pos_iff.2 hne
  by_cases hn : z < 0
  · have e : tx z = 45 :: dgs z.natAbs := by unfold tx; rw [if_neg hz, if_pos hn]
    rw [decide_eq_true hn]
    refine cut_up fun w => ?_
    obtain ⟨d, hd, hc⟩ := cutL_yes (w := w) (s := bts (tx z)) (by rw [bts_len, e]; simp) (by rw [hb, e]; rfl)
    rw [hb, e] at hd
    have : d = bts (dgs z.natAbs) := by rw [← bts_byt d, hd]; rfl
    rw [this] at hc
    exact hc
  · have e : tx z = dgs z.natAbs := by unfold tx; rw [if_neg hz, if_neg hn]
    rw [decide_eq_false hn]
    refine cut_up fun w => ?_
    have := cutL_no (w := w) (s := bts (tx z)) (by rw [bts_len, e]; exact hlp) (by rw [hb, e]; exact head_dig (dgs_dig _))
    rw [e] at this ⊢
    exact this

theorem nd_shift {m n : Nat} (h : m ≠ 0) : nd 10 (m * 10 ^ n) = List.replicate n 0 ++ nd 10 m := by
  have hne : nd 10 m ≠ [] := fun e => h ((nd_eq_nil (by omega)).1 e)
  refine (eq_nd (by omega) ⟨?_, ?_⟩ ?_).symm
  · intro x hx
    rcases List.mem_append.1 hx with hx | hx
    · have := List.eq_of_mem_replicate hx; omega
    · exact nd_lim (by omega) m x hx
  · have e : (List.replicate n 0 ++ nd 10 m).getLast? = (nd 10 m).getLast? := by
      rw [List.getLast?_append, List.getLast?_eq_some_getLast hne]; rfl
    rw [e]
    exact nd_last (by omega) m
  · rw [nv_append, nv_nd (by omega), List.length_replicate]
    have : nv 10 (List.replicate n 0) = 0 := by
      induction n with
      | zero => rfl
      | succ n ih => rw [List.replicate_succ, nv_cons, ih]
    rw [this, Nat.zero_add, Nat.mul_comm]
theorem dgs_shift {m n : Nat} (h : m ≠ 0) : dgs (m * 10 ^ n) = dgs m ++ List.replicate n 48 := by
  unfold dgs
  rw [nd_shift h, List.map_append, List.reverse_append, List.map_replicate, List.reverse_replicate]
theorem tx_shift {z : Int} {n : Nat} (h : z ≠ 0) : tx (z * 10 ^ n) = tx z ++ List.replicate n 48 := by
  have hp : (0 : Int) < 10 ^ n := Int.pow_pos (by omega)
  have h1 : (z * 10 ^ n).natAbs = z.natAbs * 10 ^ n := by
    rw [Int.natAbs_mul, Int.natAbs_pow]; rfl
  have h0 : z * 10 ^ n ≠ 0 := Int.mul_ne_zero h (by omega)
  unfold tx
  rw [if_neg h, if_neg h0, h1, dgs_shift (by omega)]
  by_cases hn : z < 0
  · rw [if_pos hn, if_pos (Int.mul_neg_of_neg_of_pos hn hp)]; rfl
  · rw [if_neg hn, if_neg (by have := Int.mul_pos (show 0 < z by omega) hp; omega)]
theorem tx_nat {m : Nat} (h : m ≠ 0) : tx (m : Int) = dgs m ∧ tx (-(m : Int)) = 45 :: dgs m := by
  constructor
  · unfold tx; rw [if_neg (by omega), if_neg (by omega), Int.natAbs_natCast]
  · unfold tx; rw [if_neg (by omega), if_pos (by omega), Int.natAbs_neg, Int.natAbs_natCast]
theorem tx_inj {x y : Int} (h : tx x = tx y) : x = y := by rw [← (tx_good x).2, ← (tx_good y).2, h]
theorem bts_inj {a b : List Nat} (ha : Lim 256 a) (hb : Lim 256 b) (h : bts a = bts b) : a = b := by rw [← byt_bts ha, ← byt_bts hb, h]
end Go.Proofs.Ytmfgcjjoagdamaa
namespace Go.Proofs.Ytmfgcjjoagdamaa
open Go.RowKit
open Go.Lib (hid)

theorem bts_app (a b : List Nat) : bts a ++ bts b = bts (a ++ b) := by
  unfold bts
  rw [ByteArray.mk_append_mk, List.map_append]
/-- The text of a number is read again. -/
theorem parse_text {w : World} {z : Int} {N : Nat} (hz : z.natAbs < 10 ^ N) (hN : N ≤ 10000) : Calls Try.prog 15 #[.string (bts (tx z))] w (RetIE (3 * N + 3) z 0 w) := by
  have hl : (bts (tx z)).size ≤ N + 1 := by
    rw [bts_len]
    have := tx_len z
    have := (nd_len_le (b := 10) (by omega)).2 hz
    omega
  have hb := byt_bts (tx_lim z)
  refine (parse_is (s := bts (tx z)) (z := z) (e := 0) (by omega) (by rw [hb]; exact (tx_good z).2) (by rw [hb]; exact pe_good (tx_good z).1)).mono ?_
  rintro E w' ⟨b, A, n, c, rfl, hc, hx⟩
  exact ⟨b, A, n, c, rfl, ⟨hc.1, hc.2.1, Nat.le_trans hc.2.2 (by omega)⟩, hx⟩
theorem repeatL_one_byte (n : Nat) : Go.Lib.repeatL [48] n = (List.replicate n 48).map UInt8.ofNat := by
  induction n with
  | zero => rfl
  | succ n ih => rw [List.replicate_succ, List.map_cons, ← ih]; rfl
theorem repeat_is {w : World} {n : Nat} {V : ByteArray} (hn : n ≤ 30) (hV : bts (List.replicate n 48) = V) : Calls Try.prog 23 #[.string ⟨#[48]⟩, .int .i64 (n : Int)] w (RetE (.string V) w) := by
  subst hV
  refine (Try.strings_Repeat ⟨#[48]⟩ n w (by omega) (by show 1 * n ≤ _; omega)).mono ?_
  rintro E w' ⟨rfl, hx⟩
  refine ⟨?_, hx⟩
  have e : (ByteArray.mk #[48]).data.toList = [48] := rfl
  rw [e, repeatL_one_byte]; rfl
theorem wrap_small {n : Nat} (h : n ≤ 30) : IntKind.i64.wrap (n : Int) = n := by
  rw [IntKind.wrap_i64]; omega
theorem cut_is {w : World} {z : Int} {s d : ByteArray} {b : Bool} (hz : z ≠ 0) (hs : bts (tx z) = s) (hd : bts (dgs z.natAbs) = d) (hb : decide (z < 0) = b) : Calls Try.prog 27 #[.string s, .string ⟨#[45]⟩] w (RetE (.tuple #[.string d, .bool b]) w) := by
  subst hs hd hb; exact cut_tx hz
theorem parse_t {w : World} {s : ByteArray} {z : Int} {N : Nat} (hs : s = bts (tx z)) (hz : z.natAbs < 10 ^ N) (hN : N ≤ 10000) : Calls Try.prog 15 #[.string s] w (RetIE (3 * N + 3) z 0 w) := by
  subst hs; exact parse_text hz hN
theorem parse_cat {w : World} {s : ByteArray} {z : Int} {N : Nat} (hs : s = bts (tx z)) (hz : z.natAbs < 10 ^ N) (hN : N ≤ 10000) : Calls Try.prog 15 #[.string s] w (RetIE (3 * N + 3) z 0 w) := parse_t hs hz hN
set_option maxHeartbeats 1600000 in
set_option maxRecDepth 100000 in
theorem digitsShifts_big {w : World} {sx sy : Bool} {Px Py : Option Addr} {lx kx ly ky n : Nat} (hb : 20 < lx ∨ 20 < ly ∨ 30 < n) : Calls Try.prog 6 #[.agg #[.bool sx, .slice Px lx kx], .agg #[.bool sy, .slice Py ly ky], .int .u8 (n : Int)] w (RetE (.bool true) w) := by
  have X0 := hid (((Ext.refl w).alloc (.cells #[.bool sx, .slice Px lx kx] 24)).alloc (.cells #[.bool sy, .slice Py ly ky] 24))
  have b0 := (Bx.new w sx Px lx kx).ext ((Ext.refl _).alloc (.cells #[.bool sy, .slice Py ly ky] 24))
  have b1 := Bx.new (w.alloc (.cells #[.bool sx, .slice Px lx kx] 24)) sy Py ly ky
  rw [size_alloc] at b1
  have c0 := b0.c1
  have c1 := b1.c1
  clear b0 b1
  by_cases q1 : 20 < lx
  · have r1 : (20 : Int) < (lx : Int) := by omega
    clear hb
    go_enter Try.func6, Try.ntmps6
    go_wp2_with fail
    refine known_any5.mono ?_
    rintro E w1 ⟨rfl, x1⟩
    go_wp2_with fail
    go_ret
    exact ⟨rfl, X0.out.trans x1⟩
  have r1 : ¬ (20 : Int) < (lx : Int) := by omega
  by_cases q2 : 20 < ly
  · have r2 : (20 : Int) < (ly : Int) := by omega
    clear hb
    go_enter Try.func6, Try.ntmps6
    go_wp2_with fail
    refine known_any5.mono ?_
    rintro E w1 ⟨rfl, x1⟩
    go_wp2_with fail
    go_ret
    exact ⟨rfl, X0.out.trans x1⟩
  have r2 : ¬ (20 : Int) < (ly : Int) := by omega
  have r3 : (30 : Int) < (n : Int) := by omega
  clear hb
  go_enter Try.func6, Try.ntmps6
  go_wp2_with fail
  refine known_any5.mono ?_
  rintro E w1 ⟨rfl, x1⟩
  go_wp2_with fail
  go_ret
  exact ⟨rfl, X0.out.trans x1⟩

set_option maxHeartbeats 6400000 in
set_option maxRecDepth 100000 in
theorem digitsShifts_zero {w : World} {sx sy : Bool} {Px Py : Option Addr} {lx kx ly ky n : Nat} {x y : Int} (hx : Iz 20 w sx Px lx kx x) (hy : Iz 20 w sy Py ly ky y) (bx : lx ≤ 20) (bY : ly ≤ 20) (bn : n ≤ 30) (hx0 : x = 0) : Calls Try.prog 6 #[.agg #[.bool sx, .slice Px lx kx], .agg #[.bool sy, .slice Py ly ky], .int .u8 (n : Int)] w (RetE (.bool true) w) := by
  have X0 := hid (((Ext.refl w).alloc (.cells #[.bool sx, .slice Px lx kx] 24)).alloc (.cells #[.bool sy, .slice Py ly ky] 24))
  have b0 := (Bx.new w sx Px lx kx).ext ((Ext.refl _).alloc (.cells #[.bool sy, .slice Py ly ky] 24))
  have b1 := Bx.new (w.alloc (.cells #[.bool sx, .slice Px lx kx] 24)) sy Py ly ky
  rw [size_alloc] at b1
  have HB0 := hid b0
  have HB1 := hid b1
  have c00 := b0.c0
  have c01 := b0.c1
  have c11 := b1.c1
  have HIx := hid (hx.ext X0.out)
  have HIy := hid (hy.ext X0.out)
  have HN := hid (Nat.lt_of_lt_of_le hx.bound (pow_10_32 20))
  have r1 : ¬ (20 : Int) < (lx : Int) := by omega
  have r2 : ¬ (20 : Int) < (ly : Int) := by omega
  have r3 : ¬ (30 : Int) < (n : Int) := by omega
  obtain ⟨T, hT⟩ : ∃ T, bts (tx x) = T := ⟨_, rfl⟩
  obtain ⟨U, hU⟩ : ∃ U, bts (tx y) = U := ⟨_, rfl⟩
  obtain ⟨v, hv⟩ : ∃ v, sg (x - y) = v := ⟨_, rfl⟩
  obtain ⟨e, hE1⟩ : ∃ e, (T.toList == U.toList) = e := ⟨_, rfl⟩
  have hE2 : (v == 0) = e := by
    rw [← hE1, ← hv, ← hT, ← hU]
    by_cases hxy : x = y
    · subst hxy; rw [Int.sub_self, sg_zero]; simp
    · have h1 : (sg (x - y) == 0) = false := by
        rw [beq_eq_false_iff_ne]
        rcases sg_cases (x - y) with ⟨e, _⟩ | ⟨_, e⟩ | ⟨e, _⟩
        · rw [e]; omega
        · omega
        · rw [e]; omega
      have h2 : ((bts (tx x)).toList == (bts (tx y)).toList) = false := by
        rw [beq_eq_false_iff_ne]
        intro h
        rw [ByteArray.toList_eq, ByteArray.toList_eq] at h
        have h3 : byt (bts (tx x)) = byt (bts (tx y)) := by unfold byt; rw [h]
        rw [byt_bts (tx_lim x), byt_bts (tx_lim y)] at h3
        exact hxy (tx_inj h3)
      rw [h1, h2]
  have HT := hid hT
  have HU := hid hU
  have HV := hid hv
  have hs0 : Hid (sg x = 0) := by show _ = _; rw [hx0]; rfl
  have hT0 : (T.toList == [48]) = true := str_eq (l := [48]) (by rw [← hT, hx0, byt_bts (tx_lim 0)]; rfl)
  clear hx hy b0 b1 bx bY bn hT hU hv hx0
  go_enter Try.func6, Try.ntmps6
  go_wp2_with fail
  clear c11
  generalize ((w.alloc (.cells #[.bool sx, .slice Px lx kx] 24)).alloc (.cells #[.bool sy, .slice Py ly ky] 24)) = W at *
  refine (text_is HIx.out (by omega) HT.out).mono ?_
  rintro E w1 ⟨rfl, x1⟩
  have Y1 := hid x1
  have d00 := (HB0.out.ext x1).c0
  have d01 := (HB0.out.ext x1).c1
  clear c00 c01 x1
  go_wp2_with fail
  refine (zof_v (HIx.out.ext Y1.out) (by omega)).mono ?_
  rintro E w2 ⟨b2, A2, n2, c2, rfl, o2, x2⟩
  have e2 := x2.alloc (.cells #[.bool b2, .slice A2 n2 c2] 34)
  have HB8 := hid (Bz.new w2 b2 A2 n2 c2)
  have HZ8 := hid (o2.ext ((Ext.refl w2).alloc (.cells #[.bool b2, .slice A2 n2 c2] 34)))
  have Y2 := hid (Y1.out.trans e2)
  clear d00 d01 o2 x2 e2
  go_upto_region 5 with fail
  generalize w2.alloc (.cells #[.bool b2, .slice A2 n2 c2] 34) = w3 at *
  generalize w2.heap.size = g8 at *
  have hk0 : w3.cell? ⟨w.heap.size + 1, 0, none⟩ = some (.bool sy) ∧ w3.cell? ⟨w.heap.size + 1, 1, none⟩ = some (.slice Py ly ky) ∧ w3.cell? ⟨g8, 0, none⟩ = some (.bool b2) ∧ w3.cell? ⟨g8, 1, none⟩ = some (.slice A2 n2 c2) := ⟨(HB1.out.ext (Y2.out.trans (Ext.refl _))).c0, (HB1.out.ext (Y2.out.trans (Ext.refl _))).c1, (HB8.out.ext (Ext.refl _)).c0, (HB8.out.ext (Ext.refl _)).c1⟩
  have hkd : w3.drew.cell? ⟨w.heap.size + 1, 0, none⟩ = some (.bool sy) ∧ w3.drew.cell? ⟨w.heap.size + 1, 1, none⟩ = some (.slice Py ly ky) ∧ w3.drew.cell? ⟨g8, 0, none⟩ = some (.bool b2) ∧ w3.drew.cell? ⟨g8, 1, none⟩ = some (.slice A2 n2 c2) := ⟨(HB1.out.ext (Y2.out.trans (Ext.refl _).drew)).c0, (HB1.out.ext (Y2.out.trans (Ext.refl _).drew)).c1, (HB8.out.ext (Ext.refl _).drew).c0, (HB8.out.ext (Ext.refl _).drew).c1⟩
  go_region_held3 (fun w' => w'.cell? ⟨w.heap.size + 1, 0, none⟩ = some (.bool sy) ∧ w'.cell? ⟨w.heap.size + 1, 1, none⟩ = some (.slice Py ly ky) ∧ w'.cell? ⟨g8, 0, none⟩ = some (.bool b2) ∧ w'.cell? ⟨g8, 1, none⟩ = some (.slice A2 n2 c2))
    (first | (with_reducible exact hk0) | (with_reducible exact hkd) | (with_reducible exact hk11) | (with_reducible exact hk12) | (with_reducible exact hk13))
    (first
      | ((go_at_call 14); (with_reducible refine (text_is (HIy.out.ext (Y2.out.trans (Ext.refl _).drew)) (by omega) HU.out).mono ?_); rintro E11 v11 ⟨rfl, hr11⟩; have F11 := hid (Ext.trans (Ext.refl w3).drew hr11); have hk11 : v11.cell? ⟨w.heap.size + 1, 0, none⟩ = some (.bool sy) ∧ v11.cell? ⟨w.heap.size + 1, 1, none⟩ = some (.slice Py ly ky) ∧ v11.cell? ⟨g8, 0, none⟩ = some (.bool b2) ∧ v11.cell? ⟨g8, 1, none⟩ = some (.slice A2 n2 c2) := ⟨(HB1.out.ext (Y2.out.trans F11.out)).c0, (HB1.out.ext (Y2.out.trans F11.out)).c1, (HB8.out.ext F11.out).c0, (HB8.out.ext F11.out).c1⟩; clear hr11)
      | ((go_at_call 18); (with_reducible refine (zof_v (HIy.out.ext (Y2.out.trans F11.out)) (by omega)).mono ?_); rintro E12 v12 ⟨b12, A12, n12, c12, rfl, o12, hr12⟩; have O12 := hid o12; clear o12; have F12 := hid (Ext.trans F11.out hr12); have hk12 : v12.cell? ⟨w.heap.size + 1, 0, none⟩ = some (.bool sy) ∧ v12.cell? ⟨w.heap.size + 1, 1, none⟩ = some (.slice Py ly ky) ∧ v12.cell? ⟨g8, 0, none⟩ = some (.bool b2) ∧ v12.cell? ⟨g8, 1, none⟩ = some (.slice A2 n2 c2) := ⟨(HB1.out.ext (Y2.out.trans F12.out)).c0, (HB1.out.ext (Y2.out.trans F12.out)).c1, (HB8.out.ext F12.out).c0, (HB8.out.ext F12.out).c1⟩; clear hr12)
      | ((go_at_call 21); (with_reducible refine (zcmp_is (HZ8.out.ext F12.out) O12.out (by omega) HV.out).mono ?_); rintro E13 v13 ⟨rfl, hr13⟩; have F13 := hid (Ext.trans F12.out hr13); have hk13 : v13.cell? ⟨w.heap.size + 1, 0, none⟩ = some (.bool sy) ∧ v13.cell? ⟨w.heap.size + 1, 1, none⟩ = some (.slice Py ly ky) ∧ v13.cell? ⟨g8, 0, none⟩ = some (.bool b2) ∧ v13.cell? ⟨g8, 1, none⟩ = some (.slice A2 n2 c2) := ⟨(HB1.out.ext (Y2.out.trans F13.out)).c0, (HB1.out.ext (Y2.out.trans F13.out)).c1, (HB8.out.ext F13.out).c0, (HB8.out.ext F13.out).c1⟩; clear hr13))
  clear hk0 hkd hk11 hk12 hk13
  have f0 := (HB8.out.ext F13.out).c0
  have f1 := (HB8.out.ext F13.out).c1
  go_wp2_with (first
    | ((go_at_call 22); (with_reducible refine (zsign_is (HZ8.out.ext F13.out) hs0.out).mono ?_); rintro E14 v14 ⟨rfl, hr14⟩; have F14 := hid (F13.out.trans hr14); clear hr14)
    | ((go_at_call 13); (with_reducible refine (known_any5).mono ?_); rintro E15 v15 ⟨rfl, hr15⟩; have F15 := hid (F14.out.trans hr15); clear hr15))
  go_ret
  exact ⟨rfl, X0.out.trans (Y2.out.trans F15.out)⟩

set_option maxHeartbeats 6400000 in
set_option maxRecDepth 100000 in
theorem digitsShifts_neg {w : World} {sx sy : Bool} {Px Py : Option Addr} {lx kx ly ky n : Nat} {x y : Int} (hx : Iz 20 w sx Px lx kx x) (hy : Iz 20 w sy Py ly ky y) (bx : lx ≤ 20) (bY : ly ≤ 20) (bn : n ≤ 30) (hx0 : x < 0) : Calls Try.prog 6 #[.agg #[.bool sx, .slice Px lx kx], .agg #[.bool sy, .slice Py ly ky], .int .u8 (n : Int)] w (RetE (.bool true) w) := by
  have X0 := hid (((Ext.refl w).alloc (.cells #[.bool sx, .slice Px lx kx] 24)).alloc (.cells #[.bool sy, .slice Py ly ky] 24))
  have b0 := (Bx.new w sx Px lx kx).ext ((Ext.refl _).alloc (.cells #[.bool sy, .slice Py ly ky] 24))
  have b1 := Bx.new (w.alloc (.cells #[.bool sx, .slice Px lx kx] 24)) sy Py ly ky
  rw [size_alloc] at b1
  have HB0 := hid b0
  have HB1 := hid b1
  have c00 := b0.c0
  have c01 := b0.c1
  have c11 := b1.c1
  have HIx := hid (hx.ext X0.out)
  have HIy := hid (hy.ext X0.out)
  have HN := hid (Nat.lt_of_lt_of_le hx.bound (pow_10_32 20))
  have r1 : ¬ (20 : Int) < (lx : Int) := by omega
  have r2 : ¬ (20 : Int) < (ly : Int) := by omega
  have r3 : ¬ (30 : Int) < (n : Int) := by omega
  obtain ⟨T, hT⟩ : ∃ T, bts (tx x) = T := ⟨_, rfl⟩
  obtain ⟨U, hU⟩ : ∃ U, bts (tx y) = U := ⟨_, rfl⟩
  obtain ⟨v, hv⟩ : ∃ v, sg (x - y) = v := ⟨_, rfl⟩
  obtain ⟨e, hE1⟩ : ∃ e, (T.toList == U.toList) = e := ⟨_, rfl⟩
  have hE2 : (v == 0) = e := by
    rw [← hE1, ← hv, ← hT, ← hU]
    by_cases hxy : x = y
    · subst hxy; rw [Int.sub_self, sg_zero]; simp
    · have h1 : (sg (x - y) == 0) = false := by
        rw [beq_eq_false_iff_ne]
        rcases sg_cases (x - y) with ⟨e, _⟩ | ⟨_, e⟩ | ⟨e, _⟩
        · rw [e]; omega
        · omega
        · rw [e]; omega
      have h2 : ((bts (tx x)).toList == (bts (tx y)).toList) = false := by
        rw [beq_eq_false_iff_ne]
        intro h
        rw [ByteArray.toList_eq, ByteArray.toList_eq] at h
        have h3 : byt (bts (tx x)) = byt (bts (tx y)) := by unfold byt; rw [h]
        rw [byt_bts (tx_lim x), byt_bts (tx_lim y)] at h3
        exact hxy (tx_inj h3)
      rw [h1, h2]
  have HT := hid hT
  have HU := hid hU
  have HV := hid hv
  have hs0 : Hid (sg x = -1) := sg_neg hx0
  have hxn : x ≠ 0 := by omega
  have HXN := hid hxn
  have hlt := tx_len x
  have hl2 := (nd_len_le (b := 10) (by omega)).2 HN.out
  have HLT : Hid ((tx x).length ≤ 201) := by show _ ≤ _; omega
  obtain ⟨V, hVd⟩ : ∃ V, bts (List.replicate n 48) = V := ⟨_, rfl⟩
  have HVd := hid hVd
  have hcat : T ++ V = bts (tx (x * 10 ^ n)) := by rw [← hT, ← hVd, bts_app, tx_shift hxn]
  have HCAT := hid hcat
  obtain ⟨R, hR⟩ : ∃ R, bts (dgs x.natAbs) = R := ⟨_, rfl⟩
  have HR := hid hR
  have hm : x.natAbs ≠ 0 := by omega
  have hdl : (dgs x.natAbs).length ≤ 200 := by unfold dgs; rw [List.length_reverse, List.length_map]; exact hl2
  have hsumR : ¬ 9223372036854775807 < 1 + R.size := by rw [← hR, bts_len]; omega
  have hneg : (ByteArray.mk #[45]) ++ R = bts (tx (-(x.natAbs : Int))) := by rw [(tx_nat hm).2, ← hR]; exact bts_app [45] (dgs x.natAbs)
  have HNEG := hid hneg
  have HPOS := hid (show R = bts (tx (x.natAbs : Int)) by rw [(tx_nat hm).1, ← hR])
  have HCUT := hid (fun w => cut_is (w := w) hxn HT.out HR.out (decide_eq_true hx0))
  have HMN := hid (show (x.natAbs : Int).natAbs < 10 ^ (10 * 20) by rw [Int.natAbs_natCast]; exact HN.out)
  have HMM := hid (show (-(x.natAbs : Int)).natAbs < 10 ^ (10 * 20) by rw [Int.natAbs_neg, Int.natAbs_natCast]; exact HN.out)
  have HPN := hid (show (x * 10 ^ n).natAbs < 10 ^ (10 * 20 + n) by
    rw [Int.natAbs_mul, Int.natAbs_pow, Nat.pow_add]
    exact Nat.mul_lt_mul_of_lt_of_le HN.out (Nat.le_refl _) (Nat.pow_pos (by omega)))
  have HBN := hid bn
  have hsum : ¬ 9223372036854775807 < T.size + V.size := by rw [← hT, ← hVd, bts_len, bts_len, List.length_replicate]; have := HLT.out; omega
  clear hx hy b0 b1 bx bY hT hU hv hx0 hxn hlt hl2 hVd hcat hR hm hneg hdl
  go_enter Try.func6, Try.ntmps6
  go_wp2_with fail
  clear c11
  generalize ((w.alloc (.cells #[.bool sx, .slice Px lx kx] 24)).alloc (.cells #[.bool sy, .slice Py ly ky] 24)) = W at *
  refine (text_is HIx.out (by omega) HT.out).mono ?_
  rintro E w1 ⟨rfl, x1⟩
  have Y1 := hid x1
  have d00 := (HB0.out.ext x1).c0
  have d01 := (HB0.out.ext x1).c1
  clear c00 c01 x1
  go_wp2_with fail
  refine (zof_v (HIx.out.ext Y1.out) (by omega)).mono ?_
  rintro E w2 ⟨b2, A2, n2, c2, rfl, o2, x2⟩
  have e2 := x2.alloc (.cells #[.bool b2, .slice A2 n2 c2] 34)
  have HB8 := hid (Bz.new w2 b2 A2 n2 c2)
  have HZ8 := hid (o2.ext ((Ext.refl w2).alloc (.cells #[.bool b2, .slice A2 n2 c2] 34)))
  have Y2 := hid (Y1.out.trans e2)
  clear d00 d01 o2 x2 e2
  go_upto_region 5 with fail
  generalize w2.alloc (.cells #[.bool b2, .slice A2 n2 c2] 34) = w3 at *
  generalize w2.heap.size = g8 at *
  have hk0 : w3.cell? ⟨w.heap.size + 1, 0, none⟩ = some (.bool sy) ∧ w3.cell? ⟨w.heap.size + 1, 1, none⟩ = some (.slice Py ly ky) ∧ w3.cell? ⟨g8, 0, none⟩ = some (.bool b2) ∧ w3.cell? ⟨g8, 1, none⟩ = some (.slice A2 n2 c2) := ⟨(HB1.out.ext (Y2.out.trans (Ext.refl _))).c0, (HB1.out.ext (Y2.out.trans (Ext.refl _))).c1, (HB8.out.ext (Ext.refl _)).c0, (HB8.out.ext (Ext.refl _)).c1⟩
  have hkd : w3.drew.cell? ⟨w.heap.size + 1, 0, none⟩ = some (.bool sy) ∧ w3.drew.cell? ⟨w.heap.size + 1, 1, none⟩ = some (.slice Py ly ky) ∧ w3.drew.cell? ⟨g8, 0, none⟩ = some (.bool b2) ∧ w3.drew.cell? ⟨g8, 1, none⟩ = some (.slice A2 n2 c2) := ⟨(HB1.out.ext (Y2.out.trans (Ext.refl _).drew)).c0, (HB1.out.ext (Y2.out.trans (Ext.refl _).drew)).c1, (HB8.out.ext (Ext.refl _).drew).c0, (HB8.out.ext (Ext.refl _).drew).c1⟩
  go_region_held3 (fun w' => w'.cell? ⟨w.heap.size + 1, 0, none⟩ = some (.bool sy) ∧ w'.cell? ⟨w.heap.size + 1, 1, none⟩ = some (.slice Py ly ky) ∧ w'.cell? ⟨g8, 0, none⟩ = some (.bool b2) ∧ w'.cell? ⟨g8, 1, none⟩ = some (.slice A2 n2 c2))
    (first | (with_reducible exact hk0) | (with_reducible exact hkd) | (with_reducible exact hk11) | (with_reducible exact hk12) | (with_reducible exact hk13))
    (first
      | ((go_at_call 14); (with_reducible refine (text_is (HIy.out.ext (Y2.out.trans (Ext.refl _).drew)) (by omega) HU.out).mono ?_); rintro E11 v11 ⟨rfl, hr11⟩; have F11 := hid (Ext.trans (Ext.refl w3).drew hr11); have hk11 : v11.cell? ⟨w.heap.size + 1, 0, none⟩ = some (.bool sy) ∧ v11.cell? ⟨w.heap.size + 1, 1, none⟩ = some (.slice Py ly ky) ∧ v11.cell? ⟨g8, 0, none⟩ = some (.bool b2) ∧ v11.cell? ⟨g8, 1, none⟩ = some (.slice A2 n2 c2) := ⟨(HB1.out.ext (Y2.out.trans F11.out)).c0, (HB1.out.ext (Y2.out.trans F11.out)).c1, (HB8.out.ext F11.out).c0, (HB8.out.ext F11.out).c1⟩; clear hr11)
      | ((go_at_call 18); (with_reducible refine (zof_v (HIy.out.ext (Y2.out.trans F11.out)) (by omega)).mono ?_); rintro E12 v12 ⟨b12, A12, n12, c12, rfl, o12, hr12⟩; have O12 := hid o12; clear o12; have F12 := hid (Ext.trans F11.out hr12); have hk12 : v12.cell? ⟨w.heap.size + 1, 0, none⟩ = some (.bool sy) ∧ v12.cell? ⟨w.heap.size + 1, 1, none⟩ = some (.slice Py ly ky) ∧ v12.cell? ⟨g8, 0, none⟩ = some (.bool b2) ∧ v12.cell? ⟨g8, 1, none⟩ = some (.slice A2 n2 c2) := ⟨(HB1.out.ext (Y2.out.trans F12.out)).c0, (HB1.out.ext (Y2.out.trans F12.out)).c1, (HB8.out.ext F12.out).c0, (HB8.out.ext F12.out).c1⟩; clear hr12)
      | ((go_at_call 21); (with_reducible refine (zcmp_is (HZ8.out.ext F12.out) O12.out (by omega) HV.out).mono ?_); rintro E13 v13 ⟨rfl, hr13⟩; have F13 := hid (Ext.trans F12.out hr13); have hk13 : v13.cell? ⟨w.heap.size + 1, 0, none⟩ = some (.bool sy) ∧ v13.cell? ⟨w.heap.size + 1, 1, none⟩ = some (.slice Py ly ky) ∧ v13.cell? ⟨g8, 0, none⟩ = some (.bool b2) ∧ v13.cell? ⟨g8, 1, none⟩ = some (.slice A2 n2 c2) := ⟨(HB1.out.ext (Y2.out.trans F13.out)).c0, (HB1.out.ext (Y2.out.trans F13.out)).c1, (HB8.out.ext F13.out).c0, (HB8.out.ext F13.out).c1⟩; clear hr13))
  clear hk0 hkd hk11 hk12 hk13
  have f0 := (HB8.out.ext F13.out).c0
  have f1 := (HB8.out.ext F13.out).c1
  go_upto_region 10 with (first
    | ((go_at_call 22); (with_reducible refine (zsign_is (HZ8.out.ext F13.out) hs0.out).mono ?_); rintro E14 v14 ⟨rfl, hr14⟩; have F14 := hid (F13.out.trans hr14); clear hr14)
    | ((go_at_call 23); (with_reducible refine (repeat_is HBN.out HVd.out).mono ?_); rintro E15 v15 ⟨rfl, hr15⟩; have F15 := hid (F14.out.trans hr15); clear hr15)
    | ((go_at_call 15); (with_reducible refine (parse_cat HCAT.out HPN.out (by have := HBN.out; omega)).mono ?_); rintro E16 v16 ⟨b16, A16, n16, c16, rfl, o16, hr16⟩; have F16 := hid (F15.out.trans hr16); have O16 := hid (o16.ext ((Ext.refl v16).alloc (.cells #[.bool b16, .slice A16 n16 c16] 24))); have HB9 := hid (Bx.new v16 b16 A16 n16 c16); have G16 := hid ((Ext.refl v16).alloc (.cells #[.bool b16, .slice A16 n16 c16] 24)); clear o16 hr16))
  clear f0 f1
  have F17 := hid (F16.out.trans G16.out)
  generalize v16.alloc (.cells #[.bool b16, .slice A16 n16 c16] 24) = w17 at *
  generalize v16.heap.size = g9 at *
  go_cut [11] (fun v11 wx => ∃ (g11 : Nat) (b11 : Bool) (A11 : Option Addr) (n11 c11 : Nat), v11 = .pointer (some ⟨g11, 0, none⟩) ∧ Bz wx g11 b11 A11 n11 c11 ∧ Zd (10 * 20 + (22 + 22 * n)) wx b11 A11 n11 c11 (x * 10 ^ n) ∧ Ext w17 wx)
  case first =>
    refine wp_region_held_drew (S := fun w' => Ext w17 w') (by kernel_rfl) (Ext.refl _).drew (fun hS0 => ?_)
    change wpAnyH _ _ _ _ _ 8 #[false, false, false, false, false, false, false, false] _ _
    refine drawn_load 0 64 34 (.tmp 8) (g8) 34 #[.bool b2, .slice A2 n2 c2] (0, 0) _ (by kernel_rfl) rfl (fun w' hS => (HB8.out.ext F17.out).ext hS) Try.underlying34 rfl info_z_s (by kernel_rfl) (by kernel_rfl) (by kernel_rfl) (fun _ _ _ _ h => h) hS0 ?_
    simp only [Act.put, List.setIfInBounds_toArray, List.set_cons_zero, List.set_cons_succ]
    refine drawn_free 2 66 (v := ?v2_1) (.move (.tmp 2)) (by kernel_rfl) ?hy2_1 (by kernel_rfl) (by kernel_rfl) (by kernel_rfl) (fun _ _ _ _ h => h) hS0 ?hr2_1
    case hy2_1 => (intro o ho w' hS; unfold execOp; simp only [ho]; go_simp; try with_reducible rfl)
    simp only [Act.put, List.setIfInBounds_toArray, List.set_cons_zero, List.set_cons_succ]
    refine drawn_free 3 67 (v := .int .i64 (n : Int)) (.convert 5 3 (.tmp 66)) (by kernel_rfl) ?hy3_2 (by kernel_rfl) (by kernel_rfl) (by kernel_rfl) (fun _ _ _ _ h => h) hS0 ?hr3_2
    case hy3_2 => (intro o ho w' hS; unfold execOp; simp only [ho]; go_simp; exact wrap_small HBN.out)
    simp only [Act.put, List.setIfInBounds_toArray, List.set_cons_zero, List.set_cons_succ]
    refine wpAnyH_ready (rs := [1, 6]) (by kernel_rfl) (by simp) ?_
    refine drawn_call1 1 (some 65) (.const (.int .i64 10)) (ts := #[2]) (by kernel_rfl) (enters_of Try.func26 (by kernel_rfl) rfl) rfl (zsmall_v (n := 10) (by omega) (by omega)) (fun E v1 hh => ?_) ?_
    · skip
      obtain ⟨b1, A1, n1, c1, rfl, o1, hx1⟩ := hh
      refine ⟨_, rfl, hS0.trans hx1, ?_⟩
      simp only [Act.put, List.setIfInBounds_toArray, List.set_cons_zero, List.set_cons_succ]
      have S1 := hS0.trans hx1
      refine wpAnyH_ready (rs := [4, 6]) (by kernel_rfl) (by simp) ?_
      refine drawn_call2 4 (some 68) (.tmp 65) (.tmp 67) (ts := #[34, 3]) (by kernel_rfl) (enters_of Try.func25 (by kernel_rfl) rfl) rfl rfl (zpow_v (N := n) o1 (by omega) (by have := HBN.out; omega)) (fun E v4 hh => ?_) ?_
      · skip
        obtain ⟨b4, A4, n4, c4, rfl, o4, hx4⟩ := hh
        refine ⟨_, rfl, S1.trans hx4, ?_⟩
        simp only [Act.put, List.setIfInBounds_toArray, List.set_cons_zero, List.set_cons_succ]
        have S4 := S1.trans hx4
        refine wpAnyH_ready (rs := [5, 6]) (by kernel_rfl) (by simp) ?_
        refine drawn_call2 5 (some 69) (.tmp 64) (.tmp 68) (ts := #[34, 34]) (by kernel_rfl) (enters_of Try.func24 (by kernel_rfl) rfl) rfl rfl (zmul_v (HZ8.out.ext (F17.out.trans S4)) o4 (by have := HBN.out; omega)) (fun E v5 hh => ?_) ?_
        · skip
          obtain ⟨b5, A5, n5, c5, rfl, o5, hx5⟩ := hh
          refine ⟨_, rfl, S4.trans hx5, ?_⟩
          simp only [Act.put, List.setIfInBounds_toArray, List.set_cons_zero, List.set_cons_succ]
          have S5 := S4.trans hx5
          refine wpAnyH_ready (rs := [6]) (by kernel_rfl) (by simp) ?_
          refine drawn_alloc 6 (some 11) (by kernel_rfl) alloc_z (fun g6 v6 hb6 hx6 hg6 => ⟨S5.trans hx6, ?_⟩) ?_
          · skip
            simp only [Act.put, List.setIfInBounds_toArray, List.set_cons_zero, List.set_cons_succ]
            have S6 := S5.trans hx6
            have ge6 := Nat.le_trans S5.size hg6
            refine wpAnyH_ready (rs := [7]) (by kernel_rfl) (by simp) ?_
            refine drawn_store 7 34 (.tmp 11) (.tmp 69) g6 #[.bool b5, .slice A5 n5 c5] #[.bool false, .slice none 0 0] 34 (by kernel_rfl) rfl rfl (show Bz v6 g6 false none 0 0 from hb6) info_z_s rfl one_two (fun v7 hb7 hg7 => ⟨S6.gb hg7 ge6, ?_⟩) ?_
            · skip
              simp only [Act.put, List.setIfInBounds_toArray, List.set_cons_zero, List.set_cons_succ]
              have hq7 := (show Bz v6 g6 false none 0 0 from hb6)
              have S7 := S6.gb hg7 ge6
              refine wpAnyH_done (by kernel_rfl) ?_ _
              go_step
              go_step
              go_meet
              case rel => exact ⟨_, _, _, _, _, rfl, (show Bz v7 g6 b5 A5 n5 c5 from hb7), ((o5.ext hx6).gbz hq7 hg7), S7⟩
            exact drawn_nil
          exact drawn_nil
        refine drawn_alloc 6 (some 11) (by kernel_rfl) alloc_z (fun g6 v6 hb6 hx6 hg6 => ⟨S4.trans hx6, ?_⟩) ?_
        · skip
          simp only [Act.put, List.setIfInBounds_toArray, List.set_cons_zero, List.set_cons_succ]
          have S6 := S4.trans hx6
          have ge6 := Nat.le_trans S4.size hg6
          refine wpAnyH_ready (rs := [5]) (by kernel_rfl) (by simp) ?_
          refine drawn_call2 5 (some 69) (.tmp 64) (.tmp 68) (ts := #[34, 34]) (by kernel_rfl) (enters_of Try.func24 (by kernel_rfl) rfl) rfl rfl (zmul_v (HZ8.out.ext (F17.out.trans S6)) (o4.ext hx6) (by have := HBN.out; omega)) (fun E v5 hh => ?_) ?_
          · skip
            obtain ⟨b5, A5, n5, c5, rfl, o5, hx5⟩ := hh
            refine ⟨_, rfl, S6.trans hx5, ?_⟩
            simp only [Act.put, List.setIfInBounds_toArray, List.set_cons_zero, List.set_cons_succ]
            have S5 := S6.trans hx5
            refine wpAnyH_ready (rs := [7]) (by kernel_rfl) (by simp) ?_
            refine drawn_store 7 34 (.tmp 11) (.tmp 69) g6 #[.bool b5, .slice A5 n5 c5] #[.bool false, .slice none 0 0] 34 (by kernel_rfl) rfl rfl ((show Bz v6 g6 false none 0 0 from hb6).ext hx5) info_z_s rfl one_two (fun v7 hb7 hg7 => ⟨S5.gb hg7 ge6, ?_⟩) ?_
            · skip
              simp only [Act.put, List.setIfInBounds_toArray, List.set_cons_zero, List.set_cons_succ]
              have hq7 := ((show Bz v6 g6 false none 0 0 from hb6).ext hx5)
              have S7 := S5.gb hg7 ge6
              refine wpAnyH_done (by kernel_rfl) ?_ _
              go_step
              go_step
              go_meet
              case rel => exact ⟨_, _, _, _, _, rfl, (show Bz v7 g6 b5 A5 n5 c5 from hb7), (o5.gbz hq7 hg7), S7⟩
            exact drawn_nil
          exact drawn_nil
        exact drawn_nil
      refine drawn_alloc 6 (some 11) (by kernel_rfl) alloc_z (fun g6 v6 hb6 hx6 hg6 => ⟨S1.trans hx6, ?_⟩) ?_
      · skip
        simp only [Act.put, List.setIfInBounds_toArray, List.set_cons_zero, List.set_cons_succ]
        have S6 := S1.trans hx6
        have ge6 := Nat.le_trans S1.size hg6
        refine wpAnyH_ready (rs := [4]) (by kernel_rfl) (by simp) ?_
        refine drawn_call2 4 (some 68) (.tmp 65) (.tmp 67) (ts := #[34, 3]) (by kernel_rfl) (enters_of Try.func25 (by kernel_rfl) rfl) rfl rfl (zpow_v (N := n) (o1.ext hx6) (by omega) (by have := HBN.out; omega)) (fun E v4 hh => ?_) ?_
        · skip
          obtain ⟨b4, A4, n4, c4, rfl, o4, hx4⟩ := hh
          refine ⟨_, rfl, S6.trans hx4, ?_⟩
          simp only [Act.put, List.setIfInBounds_toArray, List.set_cons_zero, List.set_cons_succ]
          have S4 := S6.trans hx4
          refine wpAnyH_ready (rs := [5]) (by kernel_rfl) (by simp) ?_
          refine drawn_call2 5 (some 69) (.tmp 64) (.tmp 68) (ts := #[34, 34]) (by kernel_rfl) (enters_of Try.func24 (by kernel_rfl) rfl) rfl rfl (zmul_v (HZ8.out.ext (F17.out.trans S4)) o4 (by have := HBN.out; omega)) (fun E v5 hh => ?_) ?_
          · skip
            obtain ⟨b5, A5, n5, c5, rfl, o5, hx5⟩ := hh
            refine ⟨_, rfl, S4.trans hx5, ?_⟩
            simp only [Act.put, List.setIfInBounds_toArray, List.set_cons_zero, List.set_cons_succ]
            have S5 := S4.trans hx5
            refine wpAnyH_ready (rs := [7]) (by kernel_rfl) (by simp) ?_
            refine drawn_store 7 34 (.tmp 11) (.tmp 69) g6 #[.bool b5, .slice A5 n5 c5] #[.bool false, .slice none 0 0] 34 (by kernel_rfl) rfl rfl (((show Bz v6 g6 false none 0 0 from hb6).ext hx4).ext hx5) info_z_s rfl one_two (fun v7 hb7 hg7 => ⟨S5.gb hg7 ge6, ?_⟩) ?_
            · skip
              simp only [Act.put, List.setIfInBounds_toArray, List.set_cons_zero, List.set_cons_succ]
              have hq7 := (((show Bz v6 g6 false none 0 0 from hb6).ext hx4).ext hx5)
              have S7 := S5.gb hg7 ge6
              refine wpAnyH_done (by kernel_rfl) ?_ _
              go_step
              go_step
              go_meet
              case rel => exact ⟨_, _, _, _, _, rfl, (show Bz v7 g6 b5 A5 n5 c5 from hb7), (o5.gbz hq7 hg7), S7⟩
            exact drawn_nil
          exact drawn_nil
        exact drawn_nil
      exact drawn_nil
    refine drawn_alloc 6 (some 11) (by kernel_rfl) alloc_z (fun g6 v6 hb6 hx6 hg6 => ⟨hS0.trans hx6, ?_⟩) ?_
    · skip
      simp only [Act.put, List.setIfInBounds_toArray, List.set_cons_zero, List.set_cons_succ]
      have S6 := hS0.trans hx6
      have ge6 := Nat.le_trans hS0.size hg6
      refine wpAnyH_ready (rs := [1]) (by kernel_rfl) (by simp) ?_
      refine drawn_call1 1 (some 65) (.const (.int .i64 10)) (ts := #[2]) (by kernel_rfl) (enters_of Try.func26 (by kernel_rfl) rfl) rfl (zsmall_v (n := 10) (by omega) (by omega)) (fun E v1 hh => ?_) ?_
      · skip
        obtain ⟨b1, A1, n1, c1, rfl, o1, hx1⟩ := hh
        refine ⟨_, rfl, S6.trans hx1, ?_⟩
        simp only [Act.put, List.setIfInBounds_toArray, List.set_cons_zero, List.set_cons_succ]
        have S1 := S6.trans hx1
        refine wpAnyH_ready (rs := [4]) (by kernel_rfl) (by simp) ?_
        refine drawn_call2 4 (some 68) (.tmp 65) (.tmp 67) (ts := #[34, 3]) (by kernel_rfl) (enters_of Try.func25 (by kernel_rfl) rfl) rfl rfl (zpow_v (N := n) o1 (by omega) (by have := HBN.out; omega)) (fun E v4 hh => ?_) ?_
        · skip
          obtain ⟨b4, A4, n4, c4, rfl, o4, hx4⟩ := hh
          refine ⟨_, rfl, S1.trans hx4, ?_⟩
          simp only [Act.put, List.setIfInBounds_toArray, List.set_cons_zero, List.set_cons_succ]
          have S4 := S1.trans hx4
          refine wpAnyH_ready (rs := [5]) (by kernel_rfl) (by simp) ?_
          refine drawn_call2 5 (some 69) (.tmp 64) (.tmp 68) (ts := #[34, 34]) (by kernel_rfl) (enters_of Try.func24 (by kernel_rfl) rfl) rfl rfl (zmul_v (HZ8.out.ext (F17.out.trans S4)) o4 (by have := HBN.out; omega)) (fun E v5 hh => ?_) ?_
          · skip
            obtain ⟨b5, A5, n5, c5, rfl, o5, hx5⟩ := hh
            refine ⟨_, rfl, S4.trans hx5, ?_⟩
            simp only [Act.put, List.setIfInBounds_toArray, List.set_cons_zero, List.set_cons_succ]
            have S5 := S4.trans hx5
            refine wpAnyH_ready (rs := [7]) (by kernel_rfl) (by simp) ?_
            refine drawn_store 7 34 (.tmp 11) (.tmp 69) g6 #[.bool b5, .slice A5 n5 c5] #[.bool false, .slice none 0 0] 34 (by kernel_rfl) rfl rfl ((((show Bz v6 g6 false none 0 0 from hb6).ext hx1).ext hx4).ext hx5) info_z_s rfl one_two (fun v7 hb7 hg7 => ⟨S5.gb hg7 ge6, ?_⟩) ?_
            · skip
              simp only [Act.put, List.setIfInBounds_toArray, List.set_cons_zero, List.set_cons_succ]
              have hq7 := ((((show Bz v6 g6 false none 0 0 from hb6).ext hx1).ext hx4).ext hx5)
              have S7 := S5.gb hg7 ge6
              refine wpAnyH_done (by kernel_rfl) ?_ _
              go_step
              go_step
              go_meet
              case rel => exact ⟨_, _, _, _, _, rfl, (show Bz v7 g6 b5 A5 n5 c5 from hb7), (o5.gbz hq7 hg7), S7⟩
            exact drawn_nil
          exact drawn_nil
        exact drawn_nil
      exact drawn_nil
    exact drawn_nil
  case rest =>
  obtain ⟨g11, b11, A11, n11, c11, rfl, B11, O11, Z17⟩ := hcut
  obtain ⟨w18, hw18⟩ : ∃ w18, w18 = wc := ⟨_, rfl⟩
  subst hw18
  have HB11 := hid B11
  have HO11 := hid O11
  have F18 := hid (F17.out.trans Z17)
  have G18 := hid Z17
  clear B11 O11 Z17
  go_upto_region 11 with fail
  have hk0 : w18.cell? ⟨g9, 0, none⟩ = some (.bool b16) ∧ w18.cell? ⟨g9, 1, none⟩ = some (.slice A16 n16 c16) ∧ w18.cell? ⟨g11, 0, none⟩ = some (.bool b11) ∧ w18.cell? ⟨g11, 1, none⟩ = some (.slice A11 n11 c11) := ⟨(HB9.out.ext (G18.out.trans (Ext.refl _))).c0, (HB9.out.ext (G18.out.trans (Ext.refl _))).c1, (HB11.out.ext (Ext.refl _)).c0, (HB11.out.ext (Ext.refl _)).c1⟩
  have hkd : w18.drew.cell? ⟨g9, 0, none⟩ = some (.bool b16) ∧ w18.drew.cell? ⟨g9, 1, none⟩ = some (.slice A16 n16 c16) ∧ w18.drew.cell? ⟨g11, 0, none⟩ = some (.bool b11) ∧ w18.drew.cell? ⟨g11, 1, none⟩ = some (.slice A11 n11 c11) := ⟨(HB9.out.ext (G18.out.trans (Ext.refl _).drew)).c0, (HB9.out.ext (G18.out.trans (Ext.refl _).drew)).c1, (HB11.out.ext (Ext.refl _).drew).c0, (HB11.out.ext (Ext.refl _).drew).c1⟩
  go_region_held3 (fun w' => w'.cell? ⟨g9, 0, none⟩ = some (.bool b16) ∧ w'.cell? ⟨g9, 1, none⟩ = some (.slice A16 n16 c16) ∧ w'.cell? ⟨g11, 0, none⟩ = some (.bool b11) ∧ w'.cell? ⟨g11, 1, none⟩ = some (.slice A11 n11 c11))
    (first | (with_reducible exact hk0) | (with_reducible exact hkd) | (with_reducible exact hk21) | (with_reducible exact hk22))
    (first
      | ((go_at_call 19); (with_reducible refine (zint_v (HO11.out.ext (Ext.refl _).drew) (by have := HBN.out; omega)).mono ?_); rintro E21 v21 ⟨b21, A21, n21, c21, rfl, o21, hr21⟩; have O21 := hid o21; clear o21; have K21 := hid (Ext.trans (Ext.refl w18).drew hr21); have hk21 : v21.cell? ⟨g9, 0, none⟩ = some (.bool b16) ∧ v21.cell? ⟨g9, 1, none⟩ = some (.slice A16 n16 c16) ∧ v21.cell? ⟨g11, 0, none⟩ = some (.bool b11) ∧ v21.cell? ⟨g11, 1, none⟩ = some (.slice A11 n11 c11) := ⟨(HB9.out.ext (G18.out.trans K21.out)).c0, (HB9.out.ext (G18.out.trans K21.out)).c1, (HB11.out.ext K21.out).c0, (HB11.out.ext K21.out).c1⟩; clear hr21)
      | ((go_at_call 17); (with_reducible refine (zsame_v (O16.out.ext (G18.out.trans K21.out)) O21.out (by have := HBN.out; omega) rfl).mono ?_); rintro E22 v22 ⟨rfl, hr22⟩; have K22 := hid (Ext.trans K21.out hr22); have hk22 : v22.cell? ⟨g9, 0, none⟩ = some (.bool b16) ∧ v22.cell? ⟨g9, 1, none⟩ = some (.slice A16 n16 c16) ∧ v22.cell? ⟨g11, 0, none⟩ = some (.bool b11) ∧ v22.cell? ⟨g11, 1, none⟩ = some (.slice A11 n11 c11) := ⟨(HB9.out.ext (G18.out.trans K22.out)).c0, (HB9.out.ext (G18.out.trans K22.out)).c1, (HB11.out.ext K22.out).c0, (HB11.out.ext K22.out).c1⟩; clear hr22))
  clear hk0 hkd hk21 hk22
  have F22 := hid (F18.out.trans K22.out)
  go_upto_region 16 with (first
    | ((go_at_call 27); (with_reducible refine (HCUT.out _).mono ?_); rintro E23 v23 ⟨rfl, hr23⟩; have F23 := hid (F22.out.trans hr23); clear hr23)
    | ((go_at_call 15); (with_reducible refine (parse_t HNEG.out HMM.out (by omega)).mono ?_); rintro E24 v24 ⟨b24, A24, n24, c24, rfl, o24, hr24⟩; have F24 := hid (F23.out.trans hr24); have O24 := hid (o24.ext ((Ext.refl v24).alloc (.cells #[.bool b24, .slice A24 n24 c24] 24))); have HB14 := hid (Bx.new v24 b24 A24 n24 c24); have G24 := hid ((Ext.refl v24).alloc (.cells #[.bool b24, .slice A24 n24 c24] 24)); clear o24 hr24)
    | ((go_at_call 15); (with_reducible refine (parse_t HPOS.out HMN.out (by omega)).mono ?_); rintro E25 v25 ⟨b25, A25, n25, c25, rfl, o25, hr25⟩; have F25 := hid ((F24.out.trans G24.out).trans hr25); have H25 := hid hr25; have O25 := hid (o25.ext ((Ext.refl v25).alloc (.cells #[.bool b25, .slice A25 n25 c25] 24))); have HB16 := hid (Bx.new v25 b25 A25 n25 c25); have G25 := hid ((Ext.refl v25).alloc (.cells #[.bool b25, .slice A25 n25 c25] 24)); clear o25 hr25))
  have H26 := hid (H25.out.trans G25.out)
  have F26 := hid (F25.out.trans G25.out)
  generalize v25.alloc (.cells #[.bool b25, .slice A25 n25 c25] 24) = w26 at *
  generalize v25.heap.size = g16 at *
  generalize v24.alloc (.cells #[.bool b24, .slice A24 n24 c24] 24) = w24 at *
  generalize v24.heap.size = g14 at *
  have hk0 : w26.cell? ⟨g8, 0, none⟩ = some (.bool b2) ∧ w26.cell? ⟨g8, 1, none⟩ = some (.slice A2 n2 c2) ∧ w26.cell? ⟨g14, 0, none⟩ = some (.bool b24) ∧ w26.cell? ⟨g14, 1, none⟩ = some (.slice A24 n24 c24) ∧ w26.cell? ⟨g16, 0, none⟩ = some (.bool b25) ∧ w26.cell? ⟨g16, 1, none⟩ = some (.slice A25 n25 c25) := ⟨(HB8.out.ext (F26.out.trans (Ext.refl _))).c0, (HB8.out.ext (F26.out.trans (Ext.refl _))).c1, (HB14.out.ext (H26.out.trans (Ext.refl _))).c0, (HB14.out.ext (H26.out.trans (Ext.refl _))).c1, (HB16.out.ext (Ext.refl _)).c0, (HB16.out.ext (Ext.refl _)).c1⟩
  have hkd : w26.drew.cell? ⟨g8, 0, none⟩ = some (.bool b2) ∧ w26.drew.cell? ⟨g8, 1, none⟩ = some (.slice A2 n2 c2) ∧ w26.drew.cell? ⟨g14, 0, none⟩ = some (.bool b24) ∧ w26.drew.cell? ⟨g14, 1, none⟩ = some (.slice A24 n24 c24) ∧ w26.drew.cell? ⟨g16, 0, none⟩ = some (.bool b25) ∧ w26.drew.cell? ⟨g16, 1, none⟩ = some (.slice A25 n25 c25) := ⟨(HB8.out.ext (F26.out.trans (Ext.refl _).drew)).c0, (HB8.out.ext (F26.out.trans (Ext.refl _).drew)).c1, (HB14.out.ext (H26.out.trans (Ext.refl _).drew)).c0, (HB14.out.ext (H26.out.trans (Ext.refl _).drew)).c1, (HB16.out.ext (Ext.refl _).drew).c0, (HB16.out.ext (Ext.refl _).drew).c1⟩
  go_region_held3 (fun w' => w'.cell? ⟨g8, 0, none⟩ = some (.bool b2) ∧ w'.cell? ⟨g8, 1, none⟩ = some (.slice A2 n2 c2) ∧ w'.cell? ⟨g14, 0, none⟩ = some (.bool b24) ∧ w'.cell? ⟨g14, 1, none⟩ = some (.slice A24 n24 c24) ∧ w'.cell? ⟨g16, 0, none⟩ = some (.bool b25) ∧ w'.cell? ⟨g16, 1, none⟩ = some (.slice A25 n25 c25))
    (first | (with_reducible exact hk0) | (with_reducible exact hkd) | (with_reducible exact hk31) | (with_reducible exact hk32) | (with_reducible exact hk33) | (with_reducible exact hk34) | (with_reducible exact hk35) | (with_reducible exact hk36))
    (first
      | ((go_at_call 22); (with_reducible refine (zsign_is (HZ8.out.ext (F26.out.trans (Ext.refl _).drew)) hs0.out).mono ?_); rintro E31 v31 ⟨rfl, hr31⟩; have K31 := hid (Ext.trans (Ext.refl w26).drew hr31); have hk31 : v31.cell? ⟨g8, 0, none⟩ = some (.bool b2) ∧ v31.cell? ⟨g8, 1, none⟩ = some (.slice A2 n2 c2) ∧ v31.cell? ⟨g14, 0, none⟩ = some (.bool b24) ∧ v31.cell? ⟨g14, 1, none⟩ = some (.slice A24 n24 c24) ∧ v31.cell? ⟨g16, 0, none⟩ = some (.bool b25) ∧ v31.cell? ⟨g16, 1, none⟩ = some (.slice A25 n25 c25) := ⟨(HB8.out.ext (F26.out.trans K31.out)).c0, (HB8.out.ext (F26.out.trans K31.out)).c1, (HB14.out.ext (H26.out.trans K31.out)).c0, (HB14.out.ext (H26.out.trans K31.out)).c1, (HB16.out.ext K31.out).c0, (HB16.out.ext K31.out).c1⟩; clear hr31)
      | ((go_at_call 18); (with_reducible refine (zof_v (O25.out.iz.ext K31.out) (by omega)).mono ?_); rintro E32 v32 ⟨b32, A32, n32, c32, rfl, o32, hr32⟩; have O32 := hid o32; clear o32; have K32 := hid (Ext.trans K31.out hr32); have hk32 : v32.cell? ⟨g8, 0, none⟩ = some (.bool b2) ∧ v32.cell? ⟨g8, 1, none⟩ = some (.slice A2 n2 c2) ∧ v32.cell? ⟨g14, 0, none⟩ = some (.bool b24) ∧ v32.cell? ⟨g14, 1, none⟩ = some (.slice A24 n24 c24) ∧ v32.cell? ⟨g16, 0, none⟩ = some (.bool b25) ∧ v32.cell? ⟨g16, 1, none⟩ = some (.slice A25 n25 c25) := ⟨(HB8.out.ext (F26.out.trans K32.out)).c0, (HB8.out.ext (F26.out.trans K32.out)).c1, (HB14.out.ext (H26.out.trans K32.out)).c0, (HB14.out.ext (H26.out.trans K32.out)).c1, (HB16.out.ext K32.out).c0, (HB16.out.ext K32.out).c1⟩; clear hr32)
      | ((go_at_call 28); (with_reducible refine (zneg_v O32.out).mono ?_); rintro E33 v33 ⟨b33, A33, n33, c33, rfl, o33, hr33⟩; have O33 := hid o33; clear o33; have K33 := hid (Ext.trans K32.out hr33); have hk33 : v33.cell? ⟨g8, 0, none⟩ = some (.bool b2) ∧ v33.cell? ⟨g8, 1, none⟩ = some (.slice A2 n2 c2) ∧ v33.cell? ⟨g14, 0, none⟩ = some (.bool b24) ∧ v33.cell? ⟨g14, 1, none⟩ = some (.slice A24 n24 c24) ∧ v33.cell? ⟨g16, 0, none⟩ = some (.bool b25) ∧ v33.cell? ⟨g16, 1, none⟩ = some (.slice A25 n25 c25) := ⟨(HB8.out.ext (F26.out.trans K33.out)).c0, (HB8.out.ext (F26.out.trans K33.out)).c1, (HB14.out.ext (H26.out.trans K33.out)).c0, (HB14.out.ext (H26.out.trans K33.out)).c1, (HB16.out.ext K33.out).c0, (HB16.out.ext K33.out).c1⟩; clear hr33)
      | ((go_at_call 19); (with_reducible refine (zint_v O33.out (by omega)).mono ?_); rintro E34 v34 ⟨b34, A34, n34, c34, rfl, o34, hr34⟩; have O34 := hid o34; clear o34; have K34 := hid (Ext.trans K33.out hr34); have hk34 : v34.cell? ⟨g8, 0, none⟩ = some (.bool b2) ∧ v34.cell? ⟨g8, 1, none⟩ = some (.slice A2 n2 c2) ∧ v34.cell? ⟨g14, 0, none⟩ = some (.bool b24) ∧ v34.cell? ⟨g14, 1, none⟩ = some (.slice A24 n24 c24) ∧ v34.cell? ⟨g16, 0, none⟩ = some (.bool b25) ∧ v34.cell? ⟨g16, 1, none⟩ = some (.slice A25 n25 c25) := ⟨(HB8.out.ext (F26.out.trans K34.out)).c0, (HB8.out.ext (F26.out.trans K34.out)).c1, (HB14.out.ext (H26.out.trans K34.out)).c0, (HB14.out.ext (H26.out.trans K34.out)).c1, (HB16.out.ext K34.out).c0, (HB16.out.ext K34.out).c1⟩; clear hr34)
      | ((go_at_call 17); (with_reducible refine (zsame_v (O24.out.ext (H26.out.trans K34.out)) O34.out (by omega) rfl).mono ?_); rintro E35 v35 ⟨rfl, hr35⟩; have K35 := hid (Ext.trans K34.out hr35); have hk35 : v35.cell? ⟨g8, 0, none⟩ = some (.bool b2) ∧ v35.cell? ⟨g8, 1, none⟩ = some (.slice A2 n2 c2) ∧ v35.cell? ⟨g14, 0, none⟩ = some (.bool b24) ∧ v35.cell? ⟨g14, 1, none⟩ = some (.slice A24 n24 c24) ∧ v35.cell? ⟨g16, 0, none⟩ = some (.bool b25) ∧ v35.cell? ⟨g16, 1, none⟩ = some (.slice A25 n25 c25) := ⟨(HB8.out.ext (F26.out.trans K35.out)).c0, (HB8.out.ext (F26.out.trans K35.out)).c1, (HB14.out.ext (H26.out.trans K35.out)).c0, (HB14.out.ext (H26.out.trans K35.out)).c1, (HB16.out.ext K35.out).c0, (HB16.out.ext K35.out).c1⟩; clear hr35)
      | ((go_at_call 13); (with_reducible refine (known_any5).mono ?_); rintro E36 v36 ⟨rfl, hr36⟩; have K36 := hid (Ext.trans K35.out hr36); have hk36 : v36.cell? ⟨g8, 0, none⟩ = some (.bool b2) ∧ v36.cell? ⟨g8, 1, none⟩ = some (.slice A2 n2 c2) ∧ v36.cell? ⟨g14, 0, none⟩ = some (.bool b24) ∧ v36.cell? ⟨g14, 1, none⟩ = some (.slice A24 n24 c24) ∧ v36.cell? ⟨g16, 0, none⟩ = some (.bool b25) ∧ v36.cell? ⟨g16, 1, none⟩ = some (.slice A25 n25 c25) := ⟨(HB8.out.ext (F26.out.trans K36.out)).c0, (HB8.out.ext (F26.out.trans K36.out)).c1, (HB14.out.ext (H26.out.trans K36.out)).c0, (HB14.out.ext (H26.out.trans K36.out)).c1, (HB16.out.ext K36.out).c0, (HB16.out.ext K36.out).c1⟩; clear hr36))
  clear hk0 hkd hk31 hk32 hk33 hk34 hk35 hk36
  go_wp2_with fail
  go_ret
  exact ⟨rfl, X0.out.trans (Y2.out.trans (F26.out.trans K36.out))⟩

set_option maxHeartbeats 6400000 in
set_option maxRecDepth 100000 in
theorem digitsShifts_pos {w : World} {sx sy : Bool} {Px Py : Option Addr} {lx kx ly ky n : Nat} {x y : Int} (hx : Iz 20 w sx Px lx kx x) (hy : Iz 20 w sy Py ly ky y) (bx : lx ≤ 20) (bY : ly ≤ 20) (bn : n ≤ 30) (hx0 : 0 < x) : Calls Try.prog 6 #[.agg #[.bool sx, .slice Px lx kx], .agg #[.bool sy, .slice Py ly ky], .int .u8 (n : Int)] w (RetE (.bool true) w) := by
  have X0 := hid (((Ext.refl w).alloc (.cells #[.bool sx, .slice Px lx kx] 24)).alloc (.cells #[.bool sy, .slice Py ly ky] 24))
  have b0 := (Bx.new w sx Px lx kx).ext ((Ext.refl _).alloc (.cells #[.bool sy, .slice Py ly ky] 24))
  have b1 := Bx.new (w.alloc (.cells #[.bool sx, .slice Px lx kx] 24)) sy Py ly ky
  rw [size_alloc] at b1
  have HB0 := hid b0
  have HB1 := hid b1
  have c00 := b0.c0
  have c01 := b0.c1
  have c11 := b1.c1
  have HIx := hid (hx.ext X0.out)
  have HIy := hid (hy.ext X0.out)
  have HN := hid (Nat.lt_of_lt_of_le hx.bound (pow_10_32 20))
  have r1 : ¬ (20 : Int) < (lx : Int) := by omega
  have r2 : ¬ (20 : Int) < (ly : Int) := by omega
  have r3 : ¬ (30 : Int) < (n : Int) := by omega
  obtain ⟨T, hT⟩ : ∃ T, bts (tx x) = T := ⟨_, rfl⟩
  obtain ⟨U, hU⟩ : ∃ U, bts (tx y) = U := ⟨_, rfl⟩
  obtain ⟨v, hv⟩ : ∃ v, sg (x - y) = v := ⟨_, rfl⟩
  obtain ⟨e, hE1⟩ : ∃ e, (T.toList == U.toList) = e := ⟨_, rfl⟩
  have hE2 : (v == 0) = e := by
    rw [← hE1, ← hv, ← hT, ← hU]
    by_cases hxy : x = y
    · subst hxy; rw [Int.sub_self, sg_zero]; simp
    · have h1 : (sg (x - y) == 0) = false := by
        rw [beq_eq_false_iff_ne]
        rcases sg_cases (x - y) with ⟨e, _⟩ | ⟨_, e⟩ | ⟨e, _⟩
        · rw [e]; omega
        · omega
        · rw [e]; omega
      have h2 : ((bts (tx x)).toList == (bts (tx y)).toList) = false := by
        rw [beq_eq_false_iff_ne]
        intro h
        rw [ByteArray.toList_eq, ByteArray.toList_eq] at h
        have h3 : byt (bts (tx x)) = byt (bts (tx y)) := by unfold byt; rw [h]
        rw [byt_bts (tx_lim x), byt_bts (tx_lim y)] at h3
        exact hxy (tx_inj h3)
      rw [h1, h2]
  have HT := hid hT
  have HU := hid hU
  have HV := hid hv
  have hs0 : Hid (sg x = 1) := sg_pos hx0
  have hxn : x ≠ 0 := by omega
  have HXN := hid hxn
  have hlt := tx_len x
  have hl2 := (nd_len_le (b := 10) (by omega)).2 HN.out
  have HLT : Hid ((tx x).length ≤ 201) := by show _ ≤ _; omega
  obtain ⟨V, hVd⟩ : ∃ V, bts (List.replicate n 48) = V := ⟨_, rfl⟩
  have HVd := hid hVd
  have hcat : T ++ V = bts (tx (x * 10 ^ n)) := by rw [← hT, ← hVd, bts_app, tx_shift hxn]
  have HCAT := hid hcat
  obtain ⟨R, hR⟩ : ∃ R, bts (dgs x.natAbs) = R := ⟨_, rfl⟩
  have HR := hid hR
  have hm : x.natAbs ≠ 0 := by omega
  have hdl : (dgs x.natAbs).length ≤ 200 := by unfold dgs; rw [List.length_reverse, List.length_map]; exact hl2
  have hsumR : ¬ 9223372036854775807 < 1 + R.size := by rw [← hR, bts_len]; omega
  have hneg : (ByteArray.mk #[45]) ++ R = bts (tx (-(x.natAbs : Int))) := by rw [(tx_nat hm).2, ← hR]; exact bts_app [45] (dgs x.natAbs)
  have HNEG := hid hneg
  have HPOS := hid (show R = bts (tx (x.natAbs : Int)) by rw [(tx_nat hm).1, ← hR])
  have HCUT := hid (fun w => cut_is (w := w) hxn HT.out HR.out (decide_eq_false (show ¬ x < 0 by omega)))
  have HMN := hid (show (x.natAbs : Int).natAbs < 10 ^ (10 * 20) by rw [Int.natAbs_natCast]; exact HN.out)
  have HMM := hid (show (-(x.natAbs : Int)).natAbs < 10 ^ (10 * 20) by rw [Int.natAbs_neg, Int.natAbs_natCast]; exact HN.out)
  have HPN := hid (show (x * 10 ^ n).natAbs < 10 ^ (10 * 20 + n) by
    rw [Int.natAbs_mul, Int.natAbs_pow, Nat.pow_add]
    exact Nat.mul_lt_mul_of_lt_of_le HN.out (Nat.le_refl _) (Nat.pow_pos (by omega)))
  have HBN := hid bn
  have hsum : ¬ 9223372036854775807 < T.size + V.size := by rw [← hT, ← hVd, bts_len, bts_len, List.length_replicate]; have := HLT.out; omega
  clear hx hy b0 b1 bx bY hT hU hv hx0 hxn hlt hl2 hVd hcat hR hm hneg hdl
  go_enter Try.func6, Try.ntmps6
  go_wp2_with fail
  clear c11
  generalize ((w.alloc (.cells #[.bool sx, .slice Px lx kx] 24)).alloc (.cells #[.bool sy, .slice Py ly ky] 24)) = W at *
  refine (text_is HIx.out (by omega) HT.out).mono ?_
  rintro E w1 ⟨rfl, x1⟩
  have Y1 := hid x1
  have d00 := (HB0.out.ext x1).c0
  have d01 := (HB0.out.ext x1).c1
  clear c00 c01 x1
  go_wp2_with fail
  refine (zof_v (HIx.out.ext Y1.out) (by omega)).mono ?_
  rintro E w2 ⟨b2, A2, n2, c2, rfl, o2, x2⟩
  have e2 := x2.alloc (.cells #[.bool b2, .slice A2 n2 c2] 34)
  have HB8 := hid (Bz.new w2 b2 A2 n2 c2)
  have HZ8 := hid (o2.ext ((Ext.refl w2).alloc (.cells #[.bool b2, .slice A2 n2 c2] 34)))
  have Y2 := hid (Y1.out.trans e2)
  clear d00 d01 o2 x2 e2
  go_upto_region 5 with fail
  generalize w2.alloc (.cells #[.bool b2, .slice A2 n2 c2] 34) = w3 at *
  generalize w2.heap.size = g8 at *
  have hk0 : w3.cell? ⟨w.heap.size + 1, 0, none⟩ = some (.bool sy) ∧ w3.cell? ⟨w.heap.size + 1, 1, none⟩ = some (.slice Py ly ky) ∧ w3.cell? ⟨g8, 0, none⟩ = some (.bool b2) ∧ w3.cell? ⟨g8, 1, none⟩ = some (.slice A2 n2 c2) := ⟨(HB1.out.ext (Y2.out.trans (Ext.refl _))).c0, (HB1.out.ext (Y2.out.trans (Ext.refl _))).c1, (HB8.out.ext (Ext.refl _)).c0, (HB8.out.ext (Ext.refl _)).c1⟩
  have hkd : w3.drew.cell? ⟨w.heap.size + 1, 0, none⟩ = some (.bool sy) ∧ w3.drew.cell? ⟨w.heap.size + 1, 1, none⟩ = some (.slice Py ly ky) ∧ w3.drew.cell? ⟨g8, 0, none⟩ = some (.bool b2) ∧ w3.drew.cell? ⟨g8, 1, none⟩ = some (.slice A2 n2 c2) := ⟨(HB1.out.ext (Y2.out.trans (Ext.refl _).drew)).c0, (HB1.out.ext (Y2.out.trans (Ext.refl _).drew)).c1, (HB8.out.ext (Ext.refl _).drew).c0, (HB8.out.ext (Ext.refl _).drew).c1⟩
  go_region_held3 (fun w' => w'.cell? ⟨w.heap.size + 1, 0, none⟩ = some (.bool sy) ∧ w'.cell? ⟨w.heap.size + 1, 1, none⟩ = some (.slice Py ly ky) ∧ w'.cell? ⟨g8, 0, none⟩ = some (.bool b2) ∧ w'.cell? ⟨g8, 1, none⟩ = some (.slice A2 n2 c2))
    (first | (with_reducible exact hk0) | (with_reducible exact hkd) | (with_reducible exact hk11) | (with_reducible exact hk12) | (with_reducible exact hk13))
    (first
      | ((go_at_call 14); (with_reducible refine (text_is (HIy.out.ext (Y2.out.trans (Ext.refl _).drew)) (by omega) HU.out).mono ?_); rintro E11 v11 ⟨rfl, hr11⟩; have F11 := hid (Ext.trans (Ext.refl w3).drew hr11); have hk11 : v11.cell? ⟨w.heap.size + 1, 0, none⟩ = some (.bool sy) ∧ v11.cell? ⟨w.heap.size + 1, 1, none⟩ = some (.slice Py ly ky) ∧ v11.cell? ⟨g8, 0, none⟩ = some (.bool b2) ∧ v11.cell? ⟨g8, 1, none⟩ = some (.slice A2 n2 c2) := ⟨(HB1.out.ext (Y2.out.trans F11.out)).c0, (HB1.out.ext (Y2.out.trans F11.out)).c1, (HB8.out.ext F11.out).c0, (HB8.out.ext F11.out).c1⟩; clear hr11)
      | ((go_at_call 18); (with_reducible refine (zof_v (HIy.out.ext (Y2.out.trans F11.out)) (by omega)).mono ?_); rintro E12 v12 ⟨b12, A12, n12, c12, rfl, o12, hr12⟩; have O12 := hid o12; clear o12; have F12 := hid (Ext.trans F11.out hr12); have hk12 : v12.cell? ⟨w.heap.size + 1, 0, none⟩ = some (.bool sy) ∧ v12.cell? ⟨w.heap.size + 1, 1, none⟩ = some (.slice Py ly ky) ∧ v12.cell? ⟨g8, 0, none⟩ = some (.bool b2) ∧ v12.cell? ⟨g8, 1, none⟩ = some (.slice A2 n2 c2) := ⟨(HB1.out.ext (Y2.out.trans F12.out)).c0, (HB1.out.ext (Y2.out.trans F12.out)).c1, (HB8.out.ext F12.out).c0, (HB8.out.ext F12.out).c1⟩; clear hr12)
      | ((go_at_call 21); (with_reducible refine (zcmp_is (HZ8.out.ext F12.out) O12.out (by omega) HV.out).mono ?_); rintro E13 v13 ⟨rfl, hr13⟩; have F13 := hid (Ext.trans F12.out hr13); have hk13 : v13.cell? ⟨w.heap.size + 1, 0, none⟩ = some (.bool sy) ∧ v13.cell? ⟨w.heap.size + 1, 1, none⟩ = some (.slice Py ly ky) ∧ v13.cell? ⟨g8, 0, none⟩ = some (.bool b2) ∧ v13.cell? ⟨g8, 1, none⟩ = some (.slice A2 n2 c2) := ⟨(HB1.out.ext (Y2.out.trans F13.out)).c0, (HB1.out.ext (Y2.out.trans F13.out)).c1, (HB8.out.ext F13.out).c0, (HB8.out.ext F13.out).c1⟩; clear hr13))
  clear hk0 hkd hk11 hk12 hk13
  have f0 := (HB8.out.ext F13.out).c0
  have f1 := (HB8.out.ext F13.out).c1
  go_upto_region 10 with (first
    | ((go_at_call 22); (with_reducible refine (zsign_is (HZ8.out.ext F13.out) hs0.out).mono ?_); rintro E14 v14 ⟨rfl, hr14⟩; have F14 := hid (F13.out.trans hr14); clear hr14)
    | ((go_at_call 23); (with_reducible refine (repeat_is HBN.out HVd.out).mono ?_); rintro E15 v15 ⟨rfl, hr15⟩; have F15 := hid (F14.out.trans hr15); clear hr15)
    | ((go_at_call 15); (with_reducible refine (parse_cat HCAT.out HPN.out (by have := HBN.out; omega)).mono ?_); rintro E16 v16 ⟨b16, A16, n16, c16, rfl, o16, hr16⟩; have F16 := hid (F15.out.trans hr16); have O16 := hid (o16.ext ((Ext.refl v16).alloc (.cells #[.bool b16, .slice A16 n16 c16] 24))); have HB9 := hid (Bx.new v16 b16 A16 n16 c16); have G16 := hid ((Ext.refl v16).alloc (.cells #[.bool b16, .slice A16 n16 c16] 24)); clear o16 hr16))
  clear f0 f1
  have F17 := hid (F16.out.trans G16.out)
  generalize v16.alloc (.cells #[.bool b16, .slice A16 n16 c16] 24) = w17 at *
  generalize v16.heap.size = g9 at *
  go_cut [11] (fun v11 wx => ∃ (g11 : Nat) (b11 : Bool) (A11 : Option Addr) (n11 c11 : Nat), v11 = .pointer (some ⟨g11, 0, none⟩) ∧ Bz wx g11 b11 A11 n11 c11 ∧ Zd (10 * 20 + (22 + 22 * n)) wx b11 A11 n11 c11 (x * 10 ^ n) ∧ Ext w17 wx)
  case first =>
    refine wp_region_held_drew (S := fun w' => Ext w17 w') (by kernel_rfl) (Ext.refl _).drew (fun hS0 => ?_)
    change wpAnyH _ _ _ _ _ 8 #[false, false, false, false, false, false, false, false] _ _
    refine drawn_load 0 64 34 (.tmp 8) (g8) 34 #[.bool b2, .slice A2 n2 c2] (0, 0) _ (by kernel_rfl) rfl (fun w' hS => (HB8.out.ext F17.out).ext hS) Try.underlying34 rfl info_z_s (by kernel_rfl) (by kernel_rfl) (by kernel_rfl) (fun _ _ _ _ h => h) hS0 ?_
    simp only [Act.put, List.setIfInBounds_toArray, List.set_cons_zero, List.set_cons_succ]
    refine drawn_free 2 66 (v := ?v2_3) (.move (.tmp 2)) (by kernel_rfl) ?hy2_3 (by kernel_rfl) (by kernel_rfl) (by kernel_rfl) (fun _ _ _ _ h => h) hS0 ?hr2_3
    case hy2_3 => (intro o ho w' hS; unfold execOp; simp only [ho]; go_simp; try with_reducible rfl)
    simp only [Act.put, List.setIfInBounds_toArray, List.set_cons_zero, List.set_cons_succ]
    refine drawn_free 3 67 (v := .int .i64 (n : Int)) (.convert 5 3 (.tmp 66)) (by kernel_rfl) ?hy3_4 (by kernel_rfl) (by kernel_rfl) (by kernel_rfl) (fun _ _ _ _ h => h) hS0 ?hr3_4
    case hy3_4 => (intro o ho w' hS; unfold execOp; simp only [ho]; go_simp; exact wrap_small HBN.out)
    simp only [Act.put, List.setIfInBounds_toArray, List.set_cons_zero, List.set_cons_succ]
    refine wpAnyH_ready (rs := [1, 6]) (by kernel_rfl) (by simp) ?_
    refine drawn_call1 1 (some 65) (.const (.int .i64 10)) (ts := #[2]) (by kernel_rfl) (enters_of Try.func26 (by kernel_rfl) rfl) rfl (zsmall_v (n := 10) (by omega) (by omega)) (fun E v1 hh => ?_) ?_
    · skip
      obtain ⟨b1, A1, n1, c1, rfl, o1, hx1⟩ := hh
      refine ⟨_, rfl, hS0.trans hx1, ?_⟩
      simp only [Act.put, List.setIfInBounds_toArray, List.set_cons_zero, List.set_cons_succ]
      have S1 := hS0.trans hx1
      refine wpAnyH_ready (rs := [4, 6]) (by kernel_rfl) (by simp) ?_
      refine drawn_call2 4 (some 68) (.tmp 65) (.tmp 67) (ts := #[34, 3]) (by kernel_rfl) (enters_of Try.func25 (by kernel_rfl) rfl) rfl rfl (zpow_v (N := n) o1 (by omega) (by have := HBN.out; omega)) (fun E v4 hh => ?_) ?_
      · skip
        obtain ⟨b4, A4, n4, c4, rfl, o4, hx4⟩ := hh
        refine ⟨_, rfl, S1.trans hx4, ?_⟩
        simp only [Act.put, List.setIfInBounds_toArray, List.set_cons_zero, List.set_cons_succ]
        have S4 := S1.trans hx4
        refine wpAnyH_ready (rs := [5, 6]) (by kernel_rfl) (by simp) ?_
        refine drawn_call2 5 (some 69) (.tmp 64) (.tmp 68) (ts := #[34, 34]) (by kernel_rfl) (enters_of Try.func24 (by kernel_rfl) rfl) rfl rfl (zmul_v (HZ8.out.ext (F17.out.trans S4)) o4 (by have := HBN.out; omega)) (fun E v5 hh => ?_) ?_
        · skip
          obtain ⟨b5, A5, n5, c5, rfl, o5, hx5⟩ := hh
          refine ⟨_, rfl, S4.trans hx5, ?_⟩
          simp only [Act.put, List.setIfInBounds_toArray, List.set_cons_zero, List.set_cons_succ]
          have S5 := S4.trans hx5
          refine wpAnyH_ready (rs := [6]) (by kernel_rfl) (by simp) ?_
          refine drawn_alloc 6 (some 11) (by kernel_rfl) alloc_z (fun g6 v6 hb6 hx6 hg6 => ⟨S5.trans hx6, ?_⟩) ?_
          · skip
            simp only [Act.put, List.setIfInBounds_toArray, List.set_cons_zero, List.set_cons_succ]
            have S6 := S5.trans hx6
            have ge6 := Nat.le_trans S5.size hg6
            refine wpAnyH_ready (rs := [7]) (by kernel_rfl) (by simp) ?_
            refine drawn_store 7 34 (.tmp 11) (.tmp 69) g6 #[.bool b5, .slice A5 n5 c5] #[.bool false, .slice none 0 0] 34 (by kernel_rfl) rfl rfl (show Bz v6 g6 false none 0 0 from hb6) info_z_s rfl one_two (fun v7 hb7 hg7 => ⟨S6.gb hg7 ge6, ?_⟩) ?_
            · skip
              simp only [Act.put, List.setIfInBounds_toArray, List.set_cons_zero, List.set_cons_succ]
              have hq7 := (show Bz v6 g6 false none 0 0 from hb6)
              have S7 := S6.gb hg7 ge6
              refine wpAnyH_done (by kernel_rfl) ?_ _
              go_step
              go_step
              go_meet
              case rel => exact ⟨_, _, _, _, _, rfl, (show Bz v7 g6 b5 A5 n5 c5 from hb7), ((o5.ext hx6).gbz hq7 hg7), S7⟩
            exact drawn_nil
          exact drawn_nil
        refine drawn_alloc 6 (some 11) (by kernel_rfl) alloc_z (fun g6 v6 hb6 hx6 hg6 => ⟨S4.trans hx6, ?_⟩) ?_
        · skip
          simp only [Act.put, List.setIfInBounds_toArray, List.set_cons_zero, List.set_cons_succ]
          have S6 := S4.trans hx6
          have ge6 := Nat.le_trans S4.size hg6
          refine wpAnyH_ready (rs := [5]) (by kernel_rfl) (by simp) ?_
          refine drawn_call2 5 (some 69) (.tmp 64) (.tmp 68) (ts := #[34, 34]) (by kernel_rfl) (enters_of Try.func24 (by kernel_rfl) rfl) rfl rfl (zmul_v (HZ8.out.ext (F17.out.trans S6)) (o4.ext hx6) (by have := HBN.out; omega)) (fun E v5 hh => ?_) ?_
          · skip
            obtain ⟨b5, A5, n5, c5, rfl, o5, hx5⟩ := hh
            refine ⟨_, rfl, S6.trans hx5, ?_⟩
            simp only [Act.put, List.setIfInBounds_toArray, List.set_cons_zero, List.set_cons_succ]
            have S5 := S6.trans hx5
            refine wpAnyH_ready (rs := [7]) (by kernel_rfl) (by simp) ?_
            refine drawn_store 7 34 (.tmp 11) (.tmp 69) g6 #[.bool b5, .slice A5 n5 c5] #[.bool false, .slice none 0 0] 34 (by kernel_rfl) rfl rfl ((show Bz v6 g6 false none 0 0 from hb6).ext hx5) info_z_s rfl one_two (fun v7 hb7 hg7 => ⟨S5.gb hg7 ge6, ?_⟩) ?_
            · skip
              simp only [Act.put, List.setIfInBounds_toArray, List.set_cons_zero, List.set_cons_succ]
              have hq7 := ((show Bz v6 g6 false none 0 0 from hb6).ext hx5)
              have S7 := S5.gb hg7 ge6
              refine wpAnyH_done (by kernel_rfl) ?_ _
              go_step
              go_step
              go_meet
              case rel => exact ⟨_, _, _, _, _, rfl, (show Bz v7 g6 b5 A5 n5 c5 from hb7), (o5.gbz hq7 hg7), S7⟩
            exact drawn_nil
          exact drawn_nil
        exact drawn_nil
      refine drawn_alloc 6 (some 11) (by kernel_rfl) alloc_z (fun g6 v6 hb6 hx6 hg6 => ⟨S1.trans hx6, ?_⟩) ?_
      · skip
        simp only [Act.put, List.setIfInBounds_toArray, List.set_cons_zero, List.set_cons_succ]
        have S6 := S1.trans hx6
        have ge6 := Nat.le_trans S1.size hg6
        refine wpAnyH_ready (rs := [4]) (by kernel_rfl) (by simp) ?_
        refine drawn_call2 4 (some 68) (.tmp 65) (.tmp 67) (ts := #[34, 3]) (by kernel_rfl) (enters_of Try.func25 (by kernel_rfl) rfl) rfl rfl (zpow_v (N := n) (o1.ext hx6) (by omega) (by have := HBN.out; omega)) (fun E v4 hh => ?_) ?_
        · skip
          obtain ⟨b4, A4, n4, c4, rfl, o4, hx4⟩ := hh
          refine ⟨_, rfl, S6.trans hx4, ?_⟩
          simp only [Act.put, List.setIfInBounds_toArray, List.set_cons_zero, List.set_cons_succ]
          have S4 := S6.trans hx4
          refine wpAnyH_ready (rs := [5]) (by kernel_rfl) (by simp) ?_
          refine drawn_call2 5 (some 69) (.tmp 64) (.tmp 68) (ts := #[34, 34]) (by kernel_rfl) (enters_of Try.func24 (by kernel_rfl) rfl) rfl rfl (zmul_v (HZ8.out.ext (F17.out.trans S4)) o4 (by have := HBN.out; omega)) (fun E v5 hh => ?_) ?_
          · skip
            obtain ⟨b5, A5, n5, c5, rfl, o5, hx5⟩ := hh
            refine ⟨_, rfl, S4.trans hx5, ?_⟩
            simp only [Act.put, List.setIfInBounds_toArray, List.set_cons_zero, List.set_cons_succ]
            have S5 := S4.trans hx5
            refine wpAnyH_ready (rs := [7]) (by kernel_rfl) (by simp) ?_
            refine drawn_store 7 34 (.tmp 11) (.tmp 69) g6 #[.bool b5, .slice A5 n5 c5] #[.bool false, .slice none 0 0] 34 (by kernel_rfl) rfl rfl (((show Bz v6 g6 false none 0 0 from hb6).ext hx4).ext hx5) info_z_s rfl one_two (fun v7 hb7 hg7 => ⟨S5.gb hg7 ge6, ?_⟩) ?_
            · skip
              simp only [Act.put, List.setIfInBounds_toArray, List.set_cons_zero, List.set_cons_succ]
              have hq7 := (((show Bz v6 g6 false none 0 0 from hb6).ext hx4).ext hx5)
              have S7 := S5.gb hg7 ge6
              refine wpAnyH_done (by kernel_rfl) ?_ _
              go_step
              go_step
              go_meet
              case rel => exact ⟨_, _, _, _, _, rfl, (show Bz v7 g6 b5 A5 n5 c5 from hb7), (o5.gbz hq7 hg7), S7⟩
            exact drawn_nil
          exact drawn_nil
        exact drawn_nil
      exact drawn_nil
    refine drawn_alloc 6 (some 11) (by kernel_rfl) alloc_z (fun g6 v6 hb6 hx6 hg6 => ⟨hS0.trans hx6, ?_⟩) ?_
    · skip
      simp only [Act.put, List.setIfInBounds_toArray, List.set_cons_zero, List.set_cons_succ]
      have S6 := hS0.trans hx6
      have ge6 := Nat.le_trans hS0.size hg6
      refine wpAnyH_ready (rs := [1]) (by kernel_rfl) (by simp) ?_
      refine drawn_call1 1 (some 65) (.const (.int .i64 10)) (ts := #[2]) (by kernel_rfl) (enters_of Try.func26 (by kernel_rfl) rfl) rfl (zsmall_v (n := 10) (by omega) (by omega)) (fun E v1 hh => ?_) ?_
      · skip
        obtain ⟨b1, A1, n1, c1, rfl, o1, hx1⟩ := hh
        refine ⟨_, rfl, S6.trans hx1, ?_⟩
        simp only [Act.put, List.setIfInBounds_toArray, List.set_cons_zero, List.set_cons_succ]
        have S1 := S6.trans hx1
        refine wpAnyH_ready (rs := [4]) (by kernel_rfl) (by simp) ?_
        refine drawn_call2 4 (some 68) (.tmp 65) (.tmp 67) (ts := #[34, 3]) (by kernel_rfl) (enters_of Try.func25 (by kernel_rfl) rfl) rfl rfl (zpow_v (N := n) o1 (by omega) (by have := HBN.out; omega)) (fun E v4 hh => ?_) ?_
        · skip
          obtain ⟨b4, A4, n4, c4, rfl, o4, hx4⟩ := hh
          refine ⟨_, rfl, S1.trans hx4, ?_⟩
          simp only [Act.put, List.setIfInBounds_toArray, List.set_cons_zero, List.set_cons_succ]
          have S4 := S1.trans hx4
          refine wpAnyH_ready (rs := [5]) (by kernel_rfl) (by simp) ?_
          refine drawn_call2 5 (some 69) (.tmp 64) (.tmp 68) (ts := #[34, 34]) (by kernel_rfl) (enters_of Try.func24 (by kernel_rfl) rfl) rfl rfl (zmul_v (HZ8.out.ext (F17.out.trans S4)) o4 (by have := HBN.out; omega)) (fun E v5 hh => ?_) ?_
          · skip
            obtain ⟨b5, A5, n5, c5, rfl, o5, hx5⟩ := hh
            refine ⟨_, rfl, S4.trans hx5, ?_⟩
            simp only [Act.put, List.setIfInBounds_toArray, List.set_cons_zero, List.set_cons_succ]
            have S5 := S4.trans hx5
            refine wpAnyH_ready (rs := [7]) (by kernel_rfl) (by simp) ?_
            refine drawn_store 7 34 (.tmp 11) (.tmp 69) g6 #[.bool b5, .slice A5 n5 c5] #[.bool false, .slice none 0 0] 34 (by kernel_rfl) rfl rfl ((((show Bz v6 g6 false none 0 0 from hb6).ext hx1).ext hx4).ext hx5) info_z_s rfl one_two (fun v7 hb7 hg7 => ⟨S5.gb hg7 ge6, ?_⟩) ?_
            · skip
              simp only [Act.put, List.setIfInBounds_toArray, List.set_cons_zero, List.set_cons_succ]
              have hq7 := ((((show Bz v6 g6 false none 0 0 from hb6).ext hx1).ext hx4).ext hx5)
              have S7 := S5.gb hg7 ge6
              refine wpAnyH_done (by kernel_rfl) ?_ _
              go_step
              go_step
              go_meet
              case rel => exact ⟨_, _, _, _, _, rfl, (show Bz v7 g6 b5 A5 n5 c5 from hb7), (o5.gbz hq7 hg7), S7⟩
            exact drawn_nil
          exact drawn_nil
        exact drawn_nil
      exact drawn_nil
    exact drawn_nil
  case rest =>
  obtain ⟨g11, b11, A11, n11, c11, rfl, B11, O11, Z17⟩ := hcut
  obtain ⟨w18, hw18⟩ : ∃ w18, w18 = wc := ⟨_, rfl⟩
  subst hw18
  have HB11 := hid B11
  have HO11 := hid O11
  have F18 := hid (F17.out.trans Z17)
  have G18 := hid Z17
  clear B11 O11 Z17
  go_upto_region 11 with fail
  have hk0 : w18.cell? ⟨g9, 0, none⟩ = some (.bool b16) ∧ w18.cell? ⟨g9, 1, none⟩ = some (.slice A16 n16 c16) ∧ w18.cell? ⟨g11, 0, none⟩ = some (.bool b11) ∧ w18.cell? ⟨g11, 1, none⟩ = some (.slice A11 n11 c11) := ⟨(HB9.out.ext (G18.out.trans (Ext.refl _))).c0, (HB9.out.ext (G18.out.trans (Ext.refl _))).c1, (HB11.out.ext (Ext.refl _)).c0, (HB11.out.ext (Ext.refl _)).c1⟩
  have hkd : w18.drew.cell? ⟨g9, 0, none⟩ = some (.bool b16) ∧ w18.drew.cell? ⟨g9, 1, none⟩ = some (.slice A16 n16 c16) ∧ w18.drew.cell? ⟨g11, 0, none⟩ = some (.bool b11) ∧ w18.drew.cell? ⟨g11, 1, none⟩ = some (.slice A11 n11 c11) := ⟨(HB9.out.ext (G18.out.trans (Ext.refl _).drew)).c0, (HB9.out.ext (G18.out.trans (Ext.refl _).drew)).c1, (HB11.out.ext (Ext.refl _).drew).c0, (HB11.out.ext (Ext.refl _).drew).c1⟩
  go_region_held3 (fun w' => w'.cell? ⟨g9, 0, none⟩ = some (.bool b16) ∧ w'.cell? ⟨g9, 1, none⟩ = some (.slice A16 n16 c16) ∧ w'.cell? ⟨g11, 0, none⟩ = some (.bool b11) ∧ w'.cell? ⟨g11, 1, none⟩ = some (.slice A11 n11 c11))
    (first | (with_reducible exact hk0) | (with_reducible exact hkd) | (with_reducible exact hk21) | (with_reducible exact hk22))
    (first
      | ((go_at_call 19); (with_reducible refine (zint_v (HO11.out.ext (Ext.refl _).drew) (by have := HBN.out; omega)).mono ?_); rintro E21 v21 ⟨b21, A21, n21, c21, rfl, o21, hr21⟩; have O21 := hid o21; clear o21; have K21 := hid (Ext.trans (Ext.refl w18).drew hr21); have hk21 : v21.cell? ⟨g9, 0, none⟩ = some (.bool b16) ∧ v21.cell? ⟨g9, 1, none⟩ = some (.slice A16 n16 c16) ∧ v21.cell? ⟨g11, 0, none⟩ = some (.bool b11) ∧ v21.cell? ⟨g11, 1, none⟩ = some (.slice A11 n11 c11) := ⟨(HB9.out.ext (G18.out.trans K21.out)).c0, (HB9.out.ext (G18.out.trans K21.out)).c1, (HB11.out.ext K21.out).c0, (HB11.out.ext K21.out).c1⟩; clear hr21)
      | ((go_at_call 17); (with_reducible refine (zsame_v (O16.out.ext (G18.out.trans K21.out)) O21.out (by have := HBN.out; omega) rfl).mono ?_); rintro E22 v22 ⟨rfl, hr22⟩; have K22 := hid (Ext.trans K21.out hr22); have hk22 : v22.cell? ⟨g9, 0, none⟩ = some (.bool b16) ∧ v22.cell? ⟨g9, 1, none⟩ = some (.slice A16 n16 c16) ∧ v22.cell? ⟨g11, 0, none⟩ = some (.bool b11) ∧ v22.cell? ⟨g11, 1, none⟩ = some (.slice A11 n11 c11) := ⟨(HB9.out.ext (G18.out.trans K22.out)).c0, (HB9.out.ext (G18.out.trans K22.out)).c1, (HB11.out.ext K22.out).c0, (HB11.out.ext K22.out).c1⟩; clear hr22))
  clear hk0 hkd hk21 hk22
  have F22 := hid (F18.out.trans K22.out)
  go_upto_region 16 with (first
    | ((go_at_call 27); (with_reducible refine (HCUT.out _).mono ?_); rintro E23 v23 ⟨rfl, hr23⟩; have F23 := hid (F22.out.trans hr23); clear hr23)
    | ((go_at_call 15); (with_reducible refine (parse_t HNEG.out HMM.out (by omega)).mono ?_); rintro E24 v24 ⟨b24, A24, n24, c24, rfl, o24, hr24⟩; have F24 := hid (F23.out.trans hr24); have O24 := hid (o24.ext ((Ext.refl v24).alloc (.cells #[.bool b24, .slice A24 n24 c24] 24))); have HB14 := hid (Bx.new v24 b24 A24 n24 c24); have G24 := hid ((Ext.refl v24).alloc (.cells #[.bool b24, .slice A24 n24 c24] 24)); clear o24 hr24)
    | ((go_at_call 15); (with_reducible refine (parse_t HPOS.out HMN.out (by omega)).mono ?_); rintro E25 v25 ⟨b25, A25, n25, c25, rfl, o25, hr25⟩; have F25 := hid ((F24.out.trans G24.out).trans hr25); have H25 := hid hr25; have O25 := hid (o25.ext ((Ext.refl v25).alloc (.cells #[.bool b25, .slice A25 n25 c25] 24))); have HB16 := hid (Bx.new v25 b25 A25 n25 c25); have G25 := hid ((Ext.refl v25).alloc (.cells #[.bool b25, .slice A25 n25 c25] 24)); clear o25 hr25))
  have H26 := hid (H25.out.trans G25.out)
  have F26 := hid (F25.out.trans G25.out)
  generalize v25.alloc (.cells #[.bool b25, .slice A25 n25 c25] 24) = w26 at *
  generalize v25.heap.size = g16 at *
  generalize v24.alloc (.cells #[.bool b24, .slice A24 n24 c24] 24) = w24 at *
  generalize v24.heap.size = g14 at *
  have hk0 : w26.cell? ⟨g8, 0, none⟩ = some (.bool b2) ∧ w26.cell? ⟨g8, 1, none⟩ = some (.slice A2 n2 c2) ∧ w26.cell? ⟨g14, 0, none⟩ = some (.bool b24) ∧ w26.cell? ⟨g14, 1, none⟩ = some (.slice A24 n24 c24) ∧ w26.cell? ⟨g16, 0, none⟩ = some (.bool b25) ∧ w26.cell? ⟨g16, 1, none⟩ = some (.slice A25 n25 c25) := ⟨(HB8.out.ext (F26.out.trans (Ext.refl _))).c0, (HB8.out.ext (F26.out.trans (Ext.refl _))).c1, (HB14.out.ext (H26.out.trans (Ext.refl _))).c0, (HB14.out.ext (H26.out.trans (Ext.refl _))).c1, (HB16.out.ext (Ext.refl _)).c0, (HB16.out.ext (Ext.refl _)).c1⟩
  have hkd : w26.drew.cell? ⟨g8, 0, none⟩ = some (.bool b2) ∧ w26.drew.cell? ⟨g8, 1, none⟩ = some (.slice A2 n2 c2) ∧ w26.drew.cell? ⟨g14, 0, none⟩ = some (.bool b24) ∧ w26.drew.cell? ⟨g14, 1, none⟩ = some (.slice A24 n24 c24) ∧ w26.drew.cell? ⟨g16, 0, none⟩ = some (.bool b25) ∧ w26.drew.cell? ⟨g16, 1, none⟩ = some (.slice A25 n25 c25) := ⟨(HB8.out.ext (F26.out.trans (Ext.refl _).drew)).c0, (HB8.out.ext (F26.out.trans (Ext.refl _).drew)).c1, (HB14.out.ext (H26.out.trans (Ext.refl _).drew)).c0, (HB14.out.ext (H26.out.trans (Ext.refl _).drew)).c1, (HB16.out.ext (Ext.refl _).drew).c0, (HB16.out.ext (Ext.refl _).drew).c1⟩
  go_region_held3 (fun w' => w'.cell? ⟨g8, 0, none⟩ = some (.bool b2) ∧ w'.cell? ⟨g8, 1, none⟩ = some (.slice A2 n2 c2) ∧ w'.cell? ⟨g14, 0, none⟩ = some (.bool b24) ∧ w'.cell? ⟨g14, 1, none⟩ = some (.slice A24 n24 c24) ∧ w'.cell? ⟨g16, 0, none⟩ = some (.bool b25) ∧ w'.cell? ⟨g16, 1, none⟩ = some (.slice A25 n25 c25))
    (first | (with_reducible exact hk0) | (with_reducible exact hkd) | (with_reducible exact hk31) | (with_reducible exact hk32) | (with_reducible exact hk33) | (with_reducible exact hk34) | (with_reducible exact hk35) | (with_reducible exact hk36))
    (first
      | ((go_at_call 22); (with_reducible refine (zsign_is (HZ8.out.ext (F26.out.trans (Ext.refl _).drew)) hs0.out).mono ?_); rintro E31 v31 ⟨rfl, hr31⟩; have K31 := hid (Ext.trans (Ext.refl w26).drew hr31); have hk31 : v31.cell? ⟨g8, 0, none⟩ = some (.bool b2) ∧ v31.cell? ⟨g8, 1, none⟩ = some (.slice A2 n2 c2) ∧ v31.cell? ⟨g14, 0, none⟩ = some (.bool b24) ∧ v31.cell? ⟨g14, 1, none⟩ = some (.slice A24 n24 c24) ∧ v31.cell? ⟨g16, 0, none⟩ = some (.bool b25) ∧ v31.cell? ⟨g16, 1, none⟩ = some (.slice A25 n25 c25) := ⟨(HB8.out.ext (F26.out.trans K31.out)).c0, (HB8.out.ext (F26.out.trans K31.out)).c1, (HB14.out.ext (H26.out.trans K31.out)).c0, (HB14.out.ext (H26.out.trans K31.out)).c1, (HB16.out.ext K31.out).c0, (HB16.out.ext K31.out).c1⟩; clear hr31)
      | ((go_at_call 18); (with_reducible refine (zof_v (O25.out.iz.ext K31.out) (by omega)).mono ?_); rintro E32 v32 ⟨b32, A32, n32, c32, rfl, o32, hr32⟩; have O32 := hid o32; clear o32; have K32 := hid (Ext.trans K31.out hr32); have hk32 : v32.cell? ⟨g8, 0, none⟩ = some (.bool b2) ∧ v32.cell? ⟨g8, 1, none⟩ = some (.slice A2 n2 c2) ∧ v32.cell? ⟨g14, 0, none⟩ = some (.bool b24) ∧ v32.cell? ⟨g14, 1, none⟩ = some (.slice A24 n24 c24) ∧ v32.cell? ⟨g16, 0, none⟩ = some (.bool b25) ∧ v32.cell? ⟨g16, 1, none⟩ = some (.slice A25 n25 c25) := ⟨(HB8.out.ext (F26.out.trans K32.out)).c0, (HB8.out.ext (F26.out.trans K32.out)).c1, (HB14.out.ext (H26.out.trans K32.out)).c0, (HB14.out.ext (H26.out.trans K32.out)).c1, (HB16.out.ext K32.out).c0, (HB16.out.ext K32.out).c1⟩; clear hr32)
      | ((go_at_call 28); (with_reducible refine (zneg_v O32.out).mono ?_); rintro E33 v33 ⟨b33, A33, n33, c33, rfl, o33, hr33⟩; have O33 := hid o33; clear o33; have K33 := hid (Ext.trans K32.out hr33); have hk33 : v33.cell? ⟨g8, 0, none⟩ = some (.bool b2) ∧ v33.cell? ⟨g8, 1, none⟩ = some (.slice A2 n2 c2) ∧ v33.cell? ⟨g14, 0, none⟩ = some (.bool b24) ∧ v33.cell? ⟨g14, 1, none⟩ = some (.slice A24 n24 c24) ∧ v33.cell? ⟨g16, 0, none⟩ = some (.bool b25) ∧ v33.cell? ⟨g16, 1, none⟩ = some (.slice A25 n25 c25) := ⟨(HB8.out.ext (F26.out.trans K33.out)).c0, (HB8.out.ext (F26.out.trans K33.out)).c1, (HB14.out.ext (H26.out.trans K33.out)).c0, (HB14.out.ext (H26.out.trans K33.out)).c1, (HB16.out.ext K33.out).c0, (HB16.out.ext K33.out).c1⟩; clear hr33)
      | ((go_at_call 19); (with_reducible refine (zint_v O33.out (by omega)).mono ?_); rintro E34 v34 ⟨b34, A34, n34, c34, rfl, o34, hr34⟩; have O34 := hid o34; clear o34; have K34 := hid (Ext.trans K33.out hr34); have hk34 : v34.cell? ⟨g8, 0, none⟩ = some (.bool b2) ∧ v34.cell? ⟨g8, 1, none⟩ = some (.slice A2 n2 c2) ∧ v34.cell? ⟨g14, 0, none⟩ = some (.bool b24) ∧ v34.cell? ⟨g14, 1, none⟩ = some (.slice A24 n24 c24) ∧ v34.cell? ⟨g16, 0, none⟩ = some (.bool b25) ∧ v34.cell? ⟨g16, 1, none⟩ = some (.slice A25 n25 c25) := ⟨(HB8.out.ext (F26.out.trans K34.out)).c0, (HB8.out.ext (F26.out.trans K34.out)).c1, (HB14.out.ext (H26.out.trans K34.out)).c0, (HB14.out.ext (H26.out.trans K34.out)).c1, (HB16.out.ext K34.out).c0, (HB16.out.ext K34.out).c1⟩; clear hr34)
      | ((go_at_call 17); (with_reducible refine (zsame_v (O24.out.ext (H26.out.trans K34.out)) O34.out (by omega) rfl).mono ?_); rintro E35 v35 ⟨rfl, hr35⟩; have K35 := hid (Ext.trans K34.out hr35); have hk35 : v35.cell? ⟨g8, 0, none⟩ = some (.bool b2) ∧ v35.cell? ⟨g8, 1, none⟩ = some (.slice A2 n2 c2) ∧ v35.cell? ⟨g14, 0, none⟩ = some (.bool b24) ∧ v35.cell? ⟨g14, 1, none⟩ = some (.slice A24 n24 c24) ∧ v35.cell? ⟨g16, 0, none⟩ = some (.bool b25) ∧ v35.cell? ⟨g16, 1, none⟩ = some (.slice A25 n25 c25) := ⟨(HB8.out.ext (F26.out.trans K35.out)).c0, (HB8.out.ext (F26.out.trans K35.out)).c1, (HB14.out.ext (H26.out.trans K35.out)).c0, (HB14.out.ext (H26.out.trans K35.out)).c1, (HB16.out.ext K35.out).c0, (HB16.out.ext K35.out).c1⟩; clear hr35)
      | ((go_at_call 13); (with_reducible refine (known_any5).mono ?_); rintro E36 v36 ⟨rfl, hr36⟩; have K36 := hid (Ext.trans K35.out hr36); have hk36 : v36.cell? ⟨g8, 0, none⟩ = some (.bool b2) ∧ v36.cell? ⟨g8, 1, none⟩ = some (.slice A2 n2 c2) ∧ v36.cell? ⟨g14, 0, none⟩ = some (.bool b24) ∧ v36.cell? ⟨g14, 1, none⟩ = some (.slice A24 n24 c24) ∧ v36.cell? ⟨g16, 0, none⟩ = some (.bool b25) ∧ v36.cell? ⟨g16, 1, none⟩ = some (.slice A25 n25 c25) := ⟨(HB8.out.ext (F26.out.trans K36.out)).c0, (HB8.out.ext (F26.out.trans K36.out)).c1, (HB14.out.ext (H26.out.trans K36.out)).c0, (HB14.out.ext (H26.out.trans K36.out)).c1, (HB16.out.ext K36.out).c0, (HB16.out.ext K36.out).c1⟩; clear hr36))
  clear hk0 hkd hk31 hk32 hk33 hk34 hk35 hk36
  go_wp2_with fail
  go_ret
  exact ⟨rfl, X0.out.trans (Y2.out.trans (F26.out.trans K36.out))⟩

/-- The arguments as the machine hands them over. -/
theorem digitsShifts_any {w : World} {sx sy : Bool} {Px Py : Option Addr} {lx kx ly ky : Nat} {n : Int} {Xx Xy : List Nat} (hx : Sl .u32 w Px lx kx Xx) (mx : Lim 4294967296 Xx) (hy : Sl .u32 w Py ly ky Xy) (my : Lim 4294967296 Xy) (hn : 0 ≤ n) :
    Calls Try.prog 6 #[.agg #[.bool sx, .slice Px lx kx], .agg #[.bool sy, .slice Py ly ky], .int .u8 n] w (RetE (.bool true) w) := by
  obtain ⟨n, rfl⟩ := Int.eq_ofNat_of_zero_le hn
  by_cases hb : lx ≤ 20 ∧ ly ≤ 20 ∧ n ≤ 30
  · have h1 := Iz.mk (s := sx) (Nv.mk hx mx hb.1)
    have h2 := Iz.mk (s := sy) (Nv.mk hy my hb.2.1)
    rcases Int.lt_trichotomy (zv sx (nv 4294967296 Xx)) 0 with h | h | h
    · exact digitsShifts_neg h1 h2 hb.1 hb.2.1 hb.2.2 h
    · exact digitsShifts_zero h1 h2 hb.1 hb.2.1 hb.2.2 h
    · exact digitsShifts_pos h1 h2 hb.1 hb.2.1 hb.2.2 h
  · exact digitsShifts_big (by omega)
end Go.Proofs.Ytmfgcjjoagdamaa
