/-
  The contract of the document's Text of rational numbers. Printed by wip/gen/rat.py.
-/
import Derived.Test.YtikkibpjchmajaaPk36
import Derived.Test.YtikkibpjchmajaaPk37
import Derived.Test.YtikkibpjchmajaaPk27
namespace Go.Proofs.Ytikkibpjchmajaa
open Go.RowKit
open Go.Lib (hid)

theorem nd_one : nd 4294967296 1 = [1] := (eq_nd (by omega) ⟨by decide, by decide⟩ (by decide)).symm
theorem nd_not_one {d : Nat} (h : d ≠ 1) : nd 4294967296 ((d : Int)).natAbs ≠ [1] := fun e => by
  rw [Int.natAbs_natCast] at e
  have := nv_nd (b := 4294967296) (by omega) d
  rw [e] at this
  exact h (by rw [← this]; decide)
theorem dtx_is {w : World} {s : Bool} {A : Option Addr} {n c K : Nat} {z : Int} {t : ByteArray} (h : Iz K w s A n c z) (hK : K ≤ 100000) (ht : bts (tx z) = t) :
    Calls Try.prog 73 #[.agg #[.bool s, .slice A n c]] w (RetE (.string t) w) := ht ▸ rtext_v h hK
theorem Bk.sl1 {w : World} {g x : Nat} {T : TypeId} (h : Bk T w g #[.int .u32 (x : Int)]) : Sl .u32 w (some ⟨g, 0, none⟩) 1 1 [x] := by
  refine ⟨rfl, Nat.le_refl _, by simp [maxLen], fun _ => ⟨g, 0, rfl, h.lt, fun j z hz => ?_⟩⟩
  rcases j with _ | j
  · simp at hz
    subst hz
    exact (h.c 0).trans rfl
  · simp at hz
theorem Ci.sl {K : Nat} {w : World} {lo : Nat} {b : Bool} {A : Option Addr} {n c : Nat} {z : Int} (h : Ci K w lo b A n c z) : Sl .u32 w A n c (nd 4294967296 z.natAbs) := h.2.1.sl
theorem Ci.len {K : Nat} {w : World} {lo : Nat} {b : Bool} {A : Option Addr} {n c : Nat} {z : Int} (h : Ci K w lo b A n c z) (hK : K ≤ 1099511627776 := by omega) : n ≤ 1099511627776 := Nat.le_trans h.2.2 hK
set_option maxHeartbeats 6400000 in
set_option maxRecDepth 100000 in
theorem dtext_whole {w : World} {sx tx : Bool} {Px Qx : Option Addr} {lx kx mx dx : Nat} {K : Nat} {x : Rat} (hx : Qd K w sx Px lx kx tx Qx mx dx x) (hK : K ≤ 90000) (h0 : x.den = 1) (hb1 : x.num.natAbs < 4294967296 ^ K) (hb2 : x.den < 4294967296 ^ (K + 1)) :
    Calls Try.prog 48 #[.agg #[.bool sx, .slice Px lx kx, .bool tx, .slice Qx mx dx]] w (RetE (.string (bts (txr x))) w) := by
  have hl1 := tx_size hb1
  have hl2 := tx_size (z := (x.den : Int)) (K := K + 1) (by rw [Int.natAbs_natCast]; exact hb2)
  obtain ⟨T, hT⟩ : ∃ T, bts (Go.Proofs.Ytikkibpjchmajaa.tx x.num) = T := ⟨_, rfl⟩
  have HT := hid hT
  have HR : Hid (bts (txr x) = T) := by show _ = _; rw [txr_whole h0, hT]
  have hs := hid (show nd 4294967296 ((x.den : Int)).natAbs = [1] by rw [h0]; exact nd_one)
  clear h0 hl1 hl2 hT hb1 hb2
  have Hx := hid hx
  clear hx
  go_enter Try.func48, Try.ntmps48
  go_upto_region 1 with fail
  have hy1 := hid ((Ext.refl w).alloc (.cells #[.bool sx, .slice Px lx kx, .bool tx, .slice Qx mx dx] 37))
  have Bx_ := (Bk.new w 37 #[.bool sx, .slice Px lx kx, .bool tx, .slice Qx mx dx])
  have Bx := hid Bx_
  clear Bx_
  generalize (w.alloc (.cells #[.bool sx, .slice Px lx kx, .bool tx, .slice Qx mx dx] 37)) = w1 at *
  have X1 := hid ((Ext.refl _).trans hy1.out)
  obtain ⟨f2_0, f2_1, f2_2, f2_3⟩ : w1.cell? ⟨w.heap.size, 0, none⟩ = some (.bool sx) ∧ w1.cell? ⟨w.heap.size, 1, none⟩ = some (.slice Px lx kx) ∧ w1.cell? ⟨w.heap.size, 2, none⟩ = some (.bool tx) ∧ w1.cell? ⟨w.heap.size, 3, none⟩ = some (.slice Qx mx dx) := ⟨Bx.out.c 0, Bx.out.c 1, Bx.out.c 2, Bx.out.c 3⟩
  go_upto_region 2 with (first
    | ((go_at_call 15); (with_reducible refine (drat_v (Hx.out.ext X1.out) (by omega)).mono ?_); rintro E2 w2 ⟨b2, A2, n2, c2, e2, B2, m2, d2, rfl, o2, hr2⟩; have X2 := hid (X1.out.trans hr2); have hy2 := hid hr2; clear hr2; have O2 := hid (o2.mono X1.out.size); clear o2; obtain ⟨f3_0, f3_1, f3_2, f3_3⟩ : w2.cell? ⟨w.heap.size, 0, none⟩ = some (.bool sx) ∧ w2.cell? ⟨w.heap.size, 1, none⟩ = some (.slice Px lx kx) ∧ w2.cell? ⟨w.heap.size, 2, none⟩ = some (.bool tx) ∧ w2.cell? ⟨w.heap.size, 3, none⟩ = some (.slice Qx mx dx) := ⟨(Bx.out.ext hy2.out).c 0, (Bx.out.ext hy2.out).c 1, (Bx.out.ext hy2.out).c 2, (Bx.out.ext hy2.out).c 3⟩))
  clear f2_0 f2_1 f2_2 f2_3 f3_0 f3_1 f3_2 f3_3
  have hy3 := hid ((Ext.refl w2).alloc (.cells #[.bool b2, .slice A2 n2 c2, .bool e2, .slice B2 m2 d2] 27))
  have Br_ := (Bk.new w2 27 #[.bool b2, .slice A2 n2 c2, .bool e2, .slice B2 m2 d2])
  have Br := hid Br_
  clear Br_
  generalize (w2.alloc (.cells #[.bool b2, .slice A2 n2 c2, .bool e2, .slice B2 m2 d2] 27)) = w3 at *
  have X3 := hid (X2.out.trans hy3.out)
  obtain ⟨f5_0, f5_1, f5_2, f5_3⟩ : w3.cell? ⟨w2.heap.size, 0, none⟩ = some (.bool b2) ∧ w3.cell? ⟨w2.heap.size, 1, none⟩ = some (.slice A2 n2 c2) ∧ w3.cell? ⟨w2.heap.size, 2, none⟩ = some (.bool e2) ∧ w3.cell? ⟨w2.heap.size, 3, none⟩ = some (.slice B2 m2 d2) := ⟨Br.out.c 0, Br.out.c 1, Br.out.c 2, Br.out.c 3⟩
  go_wp2_with fail
  clear f5_0 f5_1 f5_2 f5_3
  have hy4 := hid ((Ext.refl w3).alloc (.cells #[.int .u32 1] 100))
  have Bl_ := (Bk.new w3 100 #[.int .u32 1])
  have Bl := hid Bl_
  clear Bl_
  generalize (w3.alloc (.cells #[.int .u32 1] 100)) = w4 at *
  have X4 := hid (X3.out.trans hy4.out)
  obtain ⟨f7_0, f7_1, f7_2, f7_3⟩ : w4.cell? ⟨w2.heap.size, 0, none⟩ = some (.bool b2) ∧ w4.cell? ⟨w2.heap.size, 1, none⟩ = some (.slice A2 n2 c2) ∧ w4.cell? ⟨w2.heap.size, 2, none⟩ = some (.bool e2) ∧ w4.cell? ⟨w2.heap.size, 3, none⟩ = some (.slice B2 m2 d2) := ⟨(Br.out.ext hy4.out).c 0, (Br.out.ext hy4.out).c 1, (Br.out.ext hy4.out).c 2, (Br.out.ext hy4.out).c 3⟩
  go_upto_region 3 with (first
    | ((go_at_call 66); (with_reducible refine (same_yes (O2.out.ext (hy3.out.trans hy4.out)).de.sl Bl.out.sl1 hs.out (O2.out.ext (hy3.out.trans hy4.out)).de.len).mono ?_); rintro E5 w5 ⟨rfl, hr5⟩; have X5 := hid (X4.out.trans hr5); have hy5 := hid hr5; clear hr5; obtain ⟨f8_0, f8_1, f8_2, f8_3⟩ : w5.cell? ⟨w2.heap.size, 0, none⟩ = some (.bool b2) ∧ w5.cell? ⟨w2.heap.size, 1, none⟩ = some (.slice A2 n2 c2) ∧ w5.cell? ⟨w2.heap.size, 2, none⟩ = some (.bool e2) ∧ w5.cell? ⟨w2.heap.size, 3, none⟩ = some (.slice B2 m2 d2) := ⟨(Br.out.ext (hy4.out.trans hy5.out)).c 0, (Br.out.ext (hy4.out.trans hy5.out)).c 1, (Br.out.ext (hy4.out.trans hy5.out)).c 2, (Br.out.ext (hy4.out.trans hy5.out)).c 3⟩))
  clear f7_0 f7_1 f7_2 f7_3 f8_0 f8_1 f8_2 f8_3
  obtain ⟨f9_0, f9_1, f9_2, f9_3⟩ : w5.cell? ⟨w2.heap.size, 0, none⟩ = some (.bool b2) ∧ w5.cell? ⟨w2.heap.size, 1, none⟩ = some (.slice A2 n2 c2) ∧ w5.cell? ⟨w2.heap.size, 2, none⟩ = some (.bool e2) ∧ w5.cell? ⟨w2.heap.size, 3, none⟩ = some (.slice B2 m2 d2) := ⟨(Br.out.ext (hy4.out.trans hy5.out)).c 0, (Br.out.ext (hy4.out.trans hy5.out)).c 1, (Br.out.ext (hy4.out.trans hy5.out)).c 2, (Br.out.ext (hy4.out.trans hy5.out)).c 3⟩
  go_wp2_with (first
    | ((go_at_call 73); (with_reducible refine (dtx_is (O2.out.ext ((hy3.out.trans hy4.out).trans hy5.out)).nu.iz (by omega) HT.out).mono ?_); rintro E6 w6 ⟨rfl, hr6⟩; have X6 := hid (X5.out.trans hr6); have hy6 := hid hr6; clear hr6; obtain ⟨f10_0, f10_1, f10_2, f10_3⟩ : w6.cell? ⟨w2.heap.size, 0, none⟩ = some (.bool b2) ∧ w6.cell? ⟨w2.heap.size, 1, none⟩ = some (.slice A2 n2 c2) ∧ w6.cell? ⟨w2.heap.size, 2, none⟩ = some (.bool e2) ∧ w6.cell? ⟨w2.heap.size, 3, none⟩ = some (.slice B2 m2 d2) := ⟨(Br.out.ext ((hy4.out.trans hy5.out).trans hy6.out)).c 0, (Br.out.ext ((hy4.out.trans hy5.out).trans hy6.out)).c 1, (Br.out.ext ((hy4.out.trans hy5.out).trans hy6.out)).c 2, (Br.out.ext ((hy4.out.trans hy5.out).trans hy6.out)).c 3⟩))
  clear f9_0 f9_1 f9_2 f9_3 f10_0 f10_1 f10_2 f10_3
  go_ret
  exact ⟨by rw [HR.out]; rfl, X6.out⟩

set_option maxHeartbeats 6400000 in
set_option maxRecDepth 100000 in
theorem dtext_part {w : World} {sx tx : Bool} {Px Qx : Option Addr} {lx kx mx dx : Nat} {K : Nat} {x : Rat} (hx : Qd K w sx Px lx kx tx Qx mx dx x) (hK : K ≤ 90000) (h0 : x.den ≠ 1) (hb1 : x.num.natAbs < 4294967296 ^ K) (hb2 : x.den < 4294967296 ^ (K + 1)) :
    Calls Try.prog 48 #[.agg #[.bool sx, .slice Px lx kx, .bool tx, .slice Qx mx dx]] w (RetE (.string (bts (txr x))) w) := by
  have hl1 := tx_size hb1
  have hl2 := tx_size (z := (x.den : Int)) (K := K + 1) (by rw [Int.natAbs_natCast]; exact hb2)
  obtain ⟨T, hT⟩ : ∃ T, bts (Go.Proofs.Ytikkibpjchmajaa.tx x.num) = T := ⟨_, rfl⟩
  have HT := hid hT
  obtain ⟨U, hU⟩ : ∃ U, bts (Go.Proofs.Ytikkibpjchmajaa.tx (x.den : Int)) = U := ⟨_, rfl⟩
  have HU := hid hU
  have HR : Hid (bts (txr x) = T ++ ByteArray.mk #[47] ++ U) := by
    show _ = _
    rw [txr_part h0, ← hT, ← hU, show Go.Proofs.Ytikkibpjchmajaa.tx x.num ++ 47 :: Go.Proofs.Ytikkibpjchmajaa.tx (x.den : Int) = Go.Proofs.Ytikkibpjchmajaa.tx x.num ++ [47] ++ Go.Proofs.Ytikkibpjchmajaa.tx (x.den : Int) by simp, ← bts_app6, ← bts_app6]
    rfl
  have hs := hid (show nd 4294967296 ((x.den : Int)).natAbs ≠ [1] from nd_not_one h0)
  rw [hT] at hl1
  rw [hU] at hl2
  have hsum1 : ¬ 9223372036854775807 < T.size + 1 := by omega
  have hsum2 : ¬ 9223372036854775807 < T.size + 1 + U.size := by omega
  clear h0 hl1 hl2 hT hU hb1 hb2
  have Hx := hid hx
  clear hx
  go_enter Try.func48, Try.ntmps48
  go_upto_region 1 with fail
  have hy1 := hid ((Ext.refl w).alloc (.cells #[.bool sx, .slice Px lx kx, .bool tx, .slice Qx mx dx] 37))
  have Bx_ := (Bk.new w 37 #[.bool sx, .slice Px lx kx, .bool tx, .slice Qx mx dx])
  have Bx := hid Bx_
  clear Bx_
  generalize (w.alloc (.cells #[.bool sx, .slice Px lx kx, .bool tx, .slice Qx mx dx] 37)) = w1 at *
  have X1 := hid ((Ext.refl _).trans hy1.out)
  obtain ⟨f2_0, f2_1, f2_2, f2_3⟩ : w1.cell? ⟨w.heap.size, 0, none⟩ = some (.bool sx) ∧ w1.cell? ⟨w.heap.size, 1, none⟩ = some (.slice Px lx kx) ∧ w1.cell? ⟨w.heap.size, 2, none⟩ = some (.bool tx) ∧ w1.cell? ⟨w.heap.size, 3, none⟩ = some (.slice Qx mx dx) := ⟨Bx.out.c 0, Bx.out.c 1, Bx.out.c 2, Bx.out.c 3⟩
  go_upto_region 2 with (first
    | ((go_at_call 15); (with_reducible refine (drat_v (Hx.out.ext X1.out) (by omega)).mono ?_); rintro E2 w2 ⟨b2, A2, n2, c2, e2, B2, m2, d2, rfl, o2, hr2⟩; have X2 := hid (X1.out.trans hr2); have hy2 := hid hr2; clear hr2; have O2 := hid (o2.mono X1.out.size); clear o2; obtain ⟨f3_0, f3_1, f3_2, f3_3⟩ : w2.cell? ⟨w.heap.size, 0, none⟩ = some (.bool sx) ∧ w2.cell? ⟨w.heap.size, 1, none⟩ = some (.slice Px lx kx) ∧ w2.cell? ⟨w.heap.size, 2, none⟩ = some (.bool tx) ∧ w2.cell? ⟨w.heap.size, 3, none⟩ = some (.slice Qx mx dx) := ⟨(Bx.out.ext hy2.out).c 0, (Bx.out.ext hy2.out).c 1, (Bx.out.ext hy2.out).c 2, (Bx.out.ext hy2.out).c 3⟩))
  clear f2_0 f2_1 f2_2 f2_3 f3_0 f3_1 f3_2 f3_3
  have hy3 := hid ((Ext.refl w2).alloc (.cells #[.bool b2, .slice A2 n2 c2, .bool e2, .slice B2 m2 d2] 27))
  have Br_ := (Bk.new w2 27 #[.bool b2, .slice A2 n2 c2, .bool e2, .slice B2 m2 d2])
  have Br := hid Br_
  clear Br_
  generalize (w2.alloc (.cells #[.bool b2, .slice A2 n2 c2, .bool e2, .slice B2 m2 d2] 27)) = w3 at *
  have X3 := hid (X2.out.trans hy3.out)
  obtain ⟨f5_0, f5_1, f5_2, f5_3⟩ : w3.cell? ⟨w2.heap.size, 0, none⟩ = some (.bool b2) ∧ w3.cell? ⟨w2.heap.size, 1, none⟩ = some (.slice A2 n2 c2) ∧ w3.cell? ⟨w2.heap.size, 2, none⟩ = some (.bool e2) ∧ w3.cell? ⟨w2.heap.size, 3, none⟩ = some (.slice B2 m2 d2) := ⟨Br.out.c 0, Br.out.c 1, Br.out.c 2, Br.out.c 3⟩
  go_wp2_with fail
  clear f5_0 f5_1 f5_2 f5_3
  have hy4 := hid ((Ext.refl w3).alloc (.cells #[.int .u32 1] 100))
  have Bl_ := (Bk.new w3 100 #[.int .u32 1])
  have Bl := hid Bl_
  clear Bl_
  generalize (w3.alloc (.cells #[.int .u32 1] 100)) = w4 at *
  have X4 := hid (X3.out.trans hy4.out)
  obtain ⟨f7_0, f7_1, f7_2, f7_3⟩ : w4.cell? ⟨w2.heap.size, 0, none⟩ = some (.bool b2) ∧ w4.cell? ⟨w2.heap.size, 1, none⟩ = some (.slice A2 n2 c2) ∧ w4.cell? ⟨w2.heap.size, 2, none⟩ = some (.bool e2) ∧ w4.cell? ⟨w2.heap.size, 3, none⟩ = some (.slice B2 m2 d2) := ⟨(Br.out.ext hy4.out).c 0, (Br.out.ext hy4.out).c 1, (Br.out.ext hy4.out).c 2, (Br.out.ext hy4.out).c 3⟩
  go_upto_region 4 with (first
    | ((go_at_call 66); (with_reducible refine (same_no (O2.out.ext (hy3.out.trans hy4.out)).de.sl Bl.out.sl1 hs.out (O2.out.ext (hy3.out.trans hy4.out)).de.len (by omega)).mono ?_); rintro E5 w5 ⟨rfl, hr5⟩; have X5 := hid (X4.out.trans hr5); have hy5 := hid hr5; clear hr5; obtain ⟨f8_0, f8_1, f8_2, f8_3⟩ : w5.cell? ⟨w2.heap.size, 0, none⟩ = some (.bool b2) ∧ w5.cell? ⟨w2.heap.size, 1, none⟩ = some (.slice A2 n2 c2) ∧ w5.cell? ⟨w2.heap.size, 2, none⟩ = some (.bool e2) ∧ w5.cell? ⟨w2.heap.size, 3, none⟩ = some (.slice B2 m2 d2) := ⟨(Br.out.ext (hy4.out.trans hy5.out)).c 0, (Br.out.ext (hy4.out.trans hy5.out)).c 1, (Br.out.ext (hy4.out.trans hy5.out)).c 2, (Br.out.ext (hy4.out.trans hy5.out)).c 3⟩))
  clear f7_0 f7_1 f7_2 f7_3 f8_0 f8_1 f8_2 f8_3
  have hk9_0 : w5.cell? ⟨w2.heap.size, 0, none⟩ = some (.bool b2) ∧ w5.cell? ⟨w2.heap.size, 1, none⟩ = some (.slice A2 n2 c2) ∧ w5.cell? ⟨w2.heap.size, 2, none⟩ = some (.bool e2) ∧ w5.cell? ⟨w2.heap.size, 3, none⟩ = some (.slice B2 m2 d2) := ⟨(Br.out.ext (hy4.out.trans hy5.out)).c 0, (Br.out.ext (hy4.out.trans hy5.out)).c 1, (Br.out.ext (hy4.out.trans hy5.out)).c 2, (Br.out.ext (hy4.out.trans hy5.out)).c 3⟩
  have hk9_1 : w5.drew.cell? ⟨w2.heap.size, 0, none⟩ = some (.bool b2) ∧ w5.drew.cell? ⟨w2.heap.size, 1, none⟩ = some (.slice A2 n2 c2) ∧ w5.drew.cell? ⟨w2.heap.size, 2, none⟩ = some (.bool e2) ∧ w5.drew.cell? ⟨w2.heap.size, 3, none⟩ = some (.slice B2 m2 d2) := ⟨(Br.out.ext ((hy4.out.trans hy5.out).trans (Ext.refl _).drew)).c 0, (Br.out.ext ((hy4.out.trans hy5.out).trans (Ext.refl _).drew)).c 1, (Br.out.ext ((hy4.out.trans hy5.out).trans (Ext.refl _).drew)).c 2, (Br.out.ext ((hy4.out.trans hy5.out).trans (Ext.refl _).drew)).c 3⟩
  go_region_held3 (fun w' => w'.cell? ⟨w2.heap.size, 0, none⟩ = some (.bool b2) ∧ w'.cell? ⟨w2.heap.size, 1, none⟩ = some (.slice A2 n2 c2) ∧ w'.cell? ⟨w2.heap.size, 2, none⟩ = some (.bool e2) ∧ w'.cell? ⟨w2.heap.size, 3, none⟩ = some (.slice B2 m2 d2))
    (first | (with_reducible exact hk9_0) | (with_reducible exact hk9_1) | (with_reducible exact hk9_2) | (with_reducible exact hk9_3))
    (first
      | ((go_at_call 73); (with_reducible refine (dtx_is (O2.out.ext (((hy3.out.trans hy4.out).trans hy5.out).trans (Ext.refl _).drew)).nu.iz (by omega) HT.out).mono ?_); rintro E7 w7 ⟨rfl, hr7⟩; have X7 := hid ((X5.out.trans (Ext.refl _).drew).trans hr7); have hy7 := hid hr7; clear hr7; have hk9_2 : w7.cell? ⟨w2.heap.size, 0, none⟩ = some (.bool b2) ∧ w7.cell? ⟨w2.heap.size, 1, none⟩ = some (.slice A2 n2 c2) ∧ w7.cell? ⟨w2.heap.size, 2, none⟩ = some (.bool e2) ∧ w7.cell? ⟨w2.heap.size, 3, none⟩ = some (.slice B2 m2 d2) := ⟨(Br.out.ext (((hy4.out.trans hy5.out).trans (Ext.refl _).drew).trans hy7.out)).c 0, (Br.out.ext (((hy4.out.trans hy5.out).trans (Ext.refl _).drew).trans hy7.out)).c 1, (Br.out.ext (((hy4.out.trans hy5.out).trans (Ext.refl _).drew).trans hy7.out)).c 2, (Br.out.ext (((hy4.out.trans hy5.out).trans (Ext.refl _).drew).trans hy7.out)).c 3⟩)
      | ((go_at_call 73); (with_reducible refine (dtx_is (O2.out.ext ((((hy3.out.trans hy4.out).trans hy5.out).trans (Ext.refl _).drew).trans hy7.out)).de.iz (by omega) HU.out).mono ?_); rintro E8 w8 ⟨rfl, hr8⟩; have X8 := hid (X7.out.trans hr8); have hy8 := hid hr8; clear hr8; have hk9_3 : w8.cell? ⟨w2.heap.size, 0, none⟩ = some (.bool b2) ∧ w8.cell? ⟨w2.heap.size, 1, none⟩ = some (.slice A2 n2 c2) ∧ w8.cell? ⟨w2.heap.size, 2, none⟩ = some (.bool e2) ∧ w8.cell? ⟨w2.heap.size, 3, none⟩ = some (.slice B2 m2 d2) := ⟨(Br.out.ext ((((hy4.out.trans hy5.out).trans (Ext.refl _).drew).trans hy7.out).trans hy8.out)).c 0, (Br.out.ext ((((hy4.out.trans hy5.out).trans (Ext.refl _).drew).trans hy7.out).trans hy8.out)).c 1, (Br.out.ext ((((hy4.out.trans hy5.out).trans (Ext.refl _).drew).trans hy7.out).trans hy8.out)).c 2, (Br.out.ext ((((hy4.out.trans hy5.out).trans (Ext.refl _).drew).trans hy7.out).trans hy8.out)).c 3⟩))
  clear hk9_0 hk9_1 hk9_2 hk9_3
  go_wp2_with fail
  go_ret
  exact ⟨by rw [HR.out]; rfl, X8.out⟩

theorem dtext_v {w : World} {sx tx : Bool} {Px Qx : Option Addr} {lx kx mx dx : Nat} {K : Nat} {x : Rat} (hx : Qd K w sx Px lx kx tx Qx mx dx x) (hK : K ≤ 90000) (hb1 : x.num.natAbs < 4294967296 ^ K) (hb2 : x.den < 4294967296 ^ (K + 1)) :
    Calls Try.prog 48 #[.agg #[.bool sx, .slice Px lx kx, .bool tx, .slice Qx mx dx]] w (RetE (.string (bts (txr x))) w) := by
  by_cases h : x.den = 1
  · exact dtext_whole hx hK h hb1 hb2
  · exact dtext_part hx hK h hb1 hb2
theorem dtext_is {w : World} {sx tx : Bool} {Px Qx : Option Addr} {lx kx mx dx : Nat} {K L : Nat} {x : Rat} {t : ByteArray} (hx : Qd K w sx Px lx kx tx Qx mx dx x) (hK : K ≤ 90000) (hL : L ≤ K) (hb : x.num.natAbs < 4294967296 ^ L ∧ x.den < 4294967296 ^ (L + 1)) (ht : bts (txr x) = t) :
    Calls Try.prog 48 #[.agg #[.bool sx, .slice Px lx kx, .bool tx, .slice Qx mx dx]] w (RetE (.string t) w) := ht ▸ dtext_v hx hK (Nat.lt_of_lt_of_le hb.1 (Nat.pow_le_pow_right (by omega) hL)) (Nat.lt_of_lt_of_le hb.2 (Nat.pow_le_pow_right (by omega) (by omega)))

end Go.Proofs.Ytikkibpjchmajaa

