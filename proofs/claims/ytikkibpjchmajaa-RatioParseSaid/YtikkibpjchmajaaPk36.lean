/-
  The contracts of the document's Of, Rat, Small, short, Sign, Div, Same of rational numbers. Printed by wip/gen/rat.py.
-/
import Derived.Test.YtikkibpjchmajaaPk35
namespace Go.Proofs.Ytikkibpjchmajaa
open Go.RowKit
open Go.Lib (hid)

set_option maxHeartbeats 6400000 in
set_option maxRecDepth 100000 in
theorem dof_zero {w : World} {sx tx : Bool} {Px Qx : Option Addr} {lx kx mx dx : Nat} {K : Nat} {N : Int} (hx : Iz K w sx Px lx kx N) (hy : Iz K w tx Qx mx dx 0) (hK : K ≤ 10000) :
    Calls Try.prog 11 #[.agg #[.bool sx, .slice Px lx kx, .bool tx, .slice Qx mx dx]] w (RetP (10 * K + 22) N 1 w) := by
  have Hx := hid hx
  have Hy := hid hy
  clear hx hy
  go_enter Try.func11, Try.ntmps11
  go_upto_region 1 with fail
  have hy1 := hid (((Ext.refl w).alloc (.cells #[.bool sx, .slice Px lx kx, .bool tx, .slice Qx mx dx] 27)).alloc (.cells #[.bool false, .slice none 0 0, .bool false, .slice none 0 0] 37))
  have Bx_ := ((Bk.new w 27 #[.bool sx, .slice Px lx kx, .bool tx, .slice Qx mx dx]).ext ((Ext.refl (w.alloc (.cells #[.bool sx, .slice Px lx kx, .bool tx, .slice Qx mx dx] 27))).alloc (.cells #[.bool false, .slice none 0 0, .bool false, .slice none 0 0] 37)))
  have Bx := hid Bx_
  clear Bx_
  have Bo_ := (Bk.new (w.alloc (.cells #[.bool sx, .slice Px lx kx, .bool tx, .slice Qx mx dx] 27)) 37 #[.bool false, .slice none 0 0, .bool false, .slice none 0 0])
  rw [size_alloc] at Bo_
  have Bo := hid Bo_
  clear Bo_
  generalize ((w.alloc (.cells #[.bool sx, .slice Px lx kx, .bool tx, .slice Qx mx dx] 27)).alloc (.cells #[.bool false, .slice none 0 0, .bool false, .slice none 0 0] 37)) = w1 at *
  have X1 := hid ((Ext.refl _).trans hy1.out)
  obtain ⟨f3_0, f3_1, f3_2, f3_3⟩ : w1.cell? ⟨w.heap.size, 0, none⟩ = some (.bool sx) ∧ w1.cell? ⟨w.heap.size, 1, none⟩ = some (.slice Px lx kx) ∧ w1.cell? ⟨w.heap.size, 2, none⟩ = some (.bool tx) ∧ w1.cell? ⟨w.heap.size, 3, none⟩ = some (.slice Qx mx dx) := ⟨Bx.out.c 0, Bx.out.c 1, Bx.out.c 2, Bx.out.c 3⟩
  go_upto_region 2 with (first
    | ((go_at_call 35); (with_reducible refine (zof_v (Hy.out.ext X1.out) (by omega)).mono ?_); rintro E2 w2 ⟨b2, A2, n2, c2, rfl, o2, hr2⟩; have X2 := hid (X1.out.trans hr2); have hy2 := hid hr2; clear hr2; have O2 := hid o2; clear o2; obtain ⟨f4_0, f4_1, f4_2, f4_3⟩ : w2.cell? ⟨w.heap.size, 0, none⟩ = some (.bool sx) ∧ w2.cell? ⟨w.heap.size, 1, none⟩ = some (.slice Px lx kx) ∧ w2.cell? ⟨w.heap.size, 2, none⟩ = some (.bool tx) ∧ w2.cell? ⟨w.heap.size, 3, none⟩ = some (.slice Qx mx dx) := ⟨(Bx.out.ext hy2.out).c 0, (Bx.out.ext hy2.out).c 1, (Bx.out.ext hy2.out).c 2, (Bx.out.ext hy2.out).c 3⟩))
  clear f3_0 f3_1 f3_2 f3_3 f4_0 f4_1 f4_2 f4_3
  have hy3 := hid ((Ext.refl w2).alloc (.cells #[.bool b2, .slice A2 n2 c2] 35))
  have Bd_ := (Bk.new w2 35 #[.bool b2, .slice A2 n2 c2])
  have Bd := hid Bd_
  clear Bd_
  generalize (w2.alloc (.cells #[.bool b2, .slice A2 n2 c2] 35)) = w3 at *
  have X3 := hid (X2.out.trans hy3.out)
  obtain ⟨f6_0, f6_1⟩ : w3.cell? ⟨w2.heap.size, 0, none⟩ = some (.bool b2) ∧ w3.cell? ⟨w2.heap.size, 1, none⟩ = some (.slice A2 n2 c2) := ⟨Bd.out.c 0, Bd.out.c 1⟩
  go_upto_region 3 with (first
    | ((go_at_call 36); (with_reducible refine (zsign_is (v := 0) (O2.out.ext hy3.out) rfl).mono ?_); rintro E4 w4 ⟨rfl, hr4⟩; have X4 := hid (X3.out.trans hr4); have hy4 := hid hr4; clear hr4; obtain ⟨f7_0, f7_1⟩ : w4.cell? ⟨w2.heap.size, 0, none⟩ = some (.bool b2) ∧ w4.cell? ⟨w2.heap.size, 1, none⟩ = some (.slice A2 n2 c2) := ⟨(Bd.out.ext hy4.out).c 0, (Bd.out.ext hy4.out).c 1⟩))
  clear f6_0 f6_1 f7_0 f7_1
  obtain ⟨f8_0, f8_1, f8_2, f8_3⟩ : w4.cell? ⟨w2.heap.size, 0, none⟩ = some (.bool b2) ∧ w4.cell? ⟨w2.heap.size, 1, none⟩ = some (.slice A2 n2 c2) ∧ w4.frozen? ⟨w2.heap.size, 0, none⟩ = false ∧ w4.frozen? ⟨w2.heap.size, 1, none⟩ = false := ⟨(Bd.out.ext hy4.out).c 0, (Bd.out.ext hy4.out).c 1, (Bd.out.ext hy4.out).fr 0, (Bd.out.ext hy4.out).fr 1⟩
  go_upto_region 4 with (first
    | ((go_at_call 37); (with_reducible refine (zsmall_v (n := 1) (by omega) (by omega)).mono ?_); rintro E5 w5 ⟨b5, A5, n5, c5, rfl, o5, hr5⟩; have X5 := hid (X4.out.trans hr5); have hy5 := hid hr5; clear hr5; have O5 := hid o5; clear o5; obtain ⟨f9_0, f9_1, f9_2, f9_3⟩ : w5.cell? ⟨w2.heap.size, 0, none⟩ = some (.bool b2) ∧ w5.cell? ⟨w2.heap.size, 1, none⟩ = some (.slice A2 n2 c2) ∧ w5.frozen? ⟨w2.heap.size, 0, none⟩ = false ∧ w5.frozen? ⟨w2.heap.size, 1, none⟩ = false := ⟨(Bd.out.ext (hy4.out.trans hy5.out)).c 0, (Bd.out.ext (hy4.out.trans hy5.out)).c 1, (Bd.out.ext (hy4.out.trans hy5.out)).fr 0, (Bd.out.ext (hy4.out.trans hy5.out)).fr 1⟩))
  clear f8_0 f8_1 f8_2 f8_3 f9_0 f9_1 f9_2 f9_3
  have HG6 := hid (show w5.grownBy ((w5.setCell ⟨w2.heap.size, 0, none⟩ (.bool b5)).setCell ⟨w2.heap.size, 1, none⟩ (.slice A5 n5 c5)) (some (w2.heap.size)) from gb2 w5 (w2.heap.size) (.bool b5) (.slice A5 n5 c5))
  have HO6 := hid (Bd.out.ext (hy4.out.trans hy5.out))
  have HP6 := hid (show Bk 35 ((w5.setCell ⟨w2.heap.size, 0, none⟩ (.bool b5)).setCell ⟨w2.heap.size, 1, none⟩ (.slice A5 n5 c5)) (w2.heap.size) #[.bool b5, .slice A5 n5 c5] from (Bd.out.ext (hy4.out.trans hy5.out)).put2 (.bool b5) (.slice A5 n5 c5))
  generalize ((w5.setCell ⟨w2.heap.size, 0, none⟩ (.bool b5)).setCell ⟨w2.heap.size, 1, none⟩ (.slice A5 n5 c5)) = w6 at *
  have X6 := hid (X5.out.gb HG6.out (by have h := X2.out.size; have h1 := (Nat.le_refl w2.heap.size); omega))
  refine wp_region_held_drew (S := fun w' => Ext w w' ∧ Bk 27 w' (w.heap.size) #[.bool sx, .slice Px lx kx, .bool tx, .slice Qx mx dx] ∧ Bk 35 w' (w2.heap.size) #[.bool b5, .slice A5 n5 c5]) (by kernel_rfl) ⟨(X6.out.trans (Ext.refl _).drew), (((Bx.out.ext (((hy2.out.trans hy3.out).trans hy4.out).trans hy5.out)).grown HG6.out (by have h0 := (Nat.lt_of_lt_of_le Bx.out.lt hy2.out.size); have h1 := (Nat.le_refl w2.heap.size); omega)).ext (Ext.refl _).drew), (HP6.out.ext (Ext.refl _).drew)⟩ (fun hS0 => ?_)
  change wpAnyH _ _ _ _ _ 6 #[false, false, false, false, false, false] _ _
  refine drawn_free 0 11 (v := ?v0_1) (.fieldAddr 27 (.tmp 1) 0) (by kernel_rfl) ?hy0_1 (by kernel_rfl) (by kernel_rfl) (by kernel_rfl) (fun _ _ _ _ h => h) hS0 ?hr0_1
  case hy0_1 => (intro o ho w' hS; unfold execOp; simp only [ho]; go_simp; try with_reducible rfl)
  simp only [Act.put, List.setIfInBounds_toArray, List.set_cons_zero, List.set_cons_succ]
  refine drawn_free 1 12 (v := ?v1_2) (.load 24 (.tmp 11)) (by kernel_rfl) ?hy1_2 (by kernel_rfl) (by kernel_rfl) (by kernel_rfl) (fun _ _ _ _ h => h) hS0 ?hr1_2
  case hy1_2 => (intro o ho w' hS; have c0 : w'.cell? ⟨w.heap.size, 0, none⟩ = some (.bool sx) := hS.2.1.c 0; have c1 : w'.cell? ⟨w.heap.size, 1, none⟩ = some (.slice Px lx kx) := hS.2.1.c 1; unfold execOp; simp only [ho]; go_simp; try with_reducible rfl)
  simp only [Act.put, List.setIfInBounds_toArray, List.set_cons_zero, List.set_cons_succ]
  refine drawn_load 3 14 35 (.tmp 3) (w2.heap.size) 35 #[.bool b5, .slice A5 n5 c5] (0, 0) _ (by kernel_rfl) rfl (fun w' hS => hS.2.2.h) Try.underlying35 rfl info_z_s (by kernel_rfl) (by kernel_rfl) (by kernel_rfl) (fun _ _ _ _ h => h) hS0 ?_
  simp only [Act.put, List.setIfInBounds_toArray, List.set_cons_zero, List.set_cons_succ]
  refine wpAnyH_ready (rs := [2]) (by kernel_rfl) (by simp) ?_
  refine drawn_call1 2 (some 13) (.tmp 12) (ts := #[24]) (by kernel_rfl) (enters_of Try.func35 (by kernel_rfl) rfl) rfl (zof_v (Hx.out.ext (X6.out.trans (Ext.refl _).drew)) (by omega)) (fun E v2 hh => ?_) ?_
  · skip
    obtain ⟨b2q, A2q, n2q, c2q, rfl, o2, hx2⟩ := hh
    refine ⟨_, rfl, ⟨((X6.out.trans (Ext.refl _).drew).trans hx2), (((Bx.out.ext (((hy2.out.trans hy3.out).trans hy4.out).trans hy5.out)).grown HG6.out (by have h0 := (Nat.lt_of_lt_of_le Bx.out.lt hy2.out.size); have h1 := (Nat.le_refl w2.heap.size); omega)).ext ((Ext.refl _).drew.trans hx2)), (HP6.out.ext ((Ext.refl _).drew.trans hx2))⟩, ?_⟩
    simp only [Act.put, List.setIfInBounds_toArray, List.set_cons_zero, List.set_cons_succ]
    refine drawn_free 4 15 (v := ?v4_3) (.build 37 #[(0, .tmp 13), (1, .tmp 14)]) (by kernel_rfl) ?hy4_3 (by kernel_rfl) (by kernel_rfl) (by kernel_rfl) (fun _ _ _ _ h => h) ⟨((X6.out.trans (Ext.refl _).drew).trans hx2), (((Bx.out.ext (((hy2.out.trans hy3.out).trans hy4.out).trans hy5.out)).grown HG6.out (by have h0 := (Nat.lt_of_lt_of_le Bx.out.lt hy2.out.size); have h1 := (Nat.le_refl w2.heap.size); omega)).ext ((Ext.refl _).drew.trans hx2)), (HP6.out.ext ((Ext.refl _).drew.trans hx2))⟩ ?hr4_3
    case hy4_3 => (intro o ho w' hS; unfold execOp; simp only [ho]; go_simp; try with_reducible rfl)
    simp only [Act.put, List.setIfInBounds_toArray, List.set_cons_zero, List.set_cons_succ]
    refine wpAnyH_ready (rs := [5]) (by kernel_rfl) (by simp) ?_
    have hq5 := (((Bo.out.ext (((hy2.out.trans hy3.out).trans hy4.out).trans hy5.out)).grown HG6.out (by have h0 := (Nat.lt_of_lt_of_le Bo.out.lt hy2.out.size); have h1 := (Nat.le_refl w2.heap.size); omega)).ext ((Ext.refl _).drew.trans hx2))
    refine drawn_store 5 37 (.tmp 2) (.tmp 15) (w.heap.size + 1) #[.bool b2q, .slice A2q n2q c2q, .bool b5, .slice A5 n5 c5] #[.bool false, .slice none 0 0, .bool false, .slice none 0 0] 37 (by kernel_rfl) rfl rfl hq5.h info_q rfl one_four (fun v5 hb5 hg5 => ⟨⟨(((X6.out.trans (Ext.refl _).drew).trans hx2).gb hg5 (by omega)), ((((Bx.out.ext (((hy2.out.trans hy3.out).trans hy4.out).trans hy5.out)).grown HG6.out (by have h0 := (Nat.lt_of_lt_of_le Bx.out.lt hy2.out.size); have h1 := (Nat.le_refl w2.heap.size); omega)).ext ((Ext.refl _).drew.trans hx2)).grown hg5 (by omega)), ((HP6.out.ext ((Ext.refl _).drew.trans hx2)).grown hg5 (by have h0 := (Nat.lt_of_lt_of_le Bo.out.lt hy2.out.size); have h1 := (Nat.le_refl w2.heap.size); omega))⟩, ?_⟩) ?_
    · skip
      simp only [Act.put, List.setIfInBounds_toArray, List.set_cons_zero, List.set_cons_succ]
      refine wpAnyH_done (by kernel_rfl) ?_ _
      go_wp2_with fail
      refine ret_q rfl (show Bk 37 v5 (w.heap.size + 1) #[.bool b2q, .slice A2q n2q c2q, .bool b5, .slice A5 n5 c5] from hb5) rfl rfl ⟨_, _, _, _, _, _, _, _, rfl, Qz.mk ((o2.gbk4 hq5 hg5).weak (by omega)) ((((O5.out.gbk2 HO6.out HG6.out).ext ((Ext.refl _).drew.trans hx2)).gbk4 hq5 hg5).weak (by omega)), (((X6.out.trans (Ext.refl _).drew).trans hx2).gb hg5 (by omega))⟩
    exact drawn_nil
  exact drawn_nil

set_option maxHeartbeats 6400000 in
set_option maxRecDepth 100000 in
theorem dof_ne {w : World} {sx tx : Bool} {Px Qx : Option Addr} {lx kx mx dx : Nat} {K : Nat} {N D : Int} (hx : Iz K w sx Px lx kx N) (hy : Iz K w tx Qx mx dx D) (h0 : D ≠ 0) (hK : K ≤ 10000) :
    Calls Try.prog 11 #[.agg #[.bool sx, .slice Px lx kx, .bool tx, .slice Qx mx dx]] w (RetP (10 * K + 22) N D w) := by
  obtain ⟨v, hv, hv0⟩ : ∃ v : Int, sg D = v ∧ (v == 0) = false := by
    refine ⟨_, rfl, ?_⟩
    rw [beq_eq_false_iff_ne]
    rcases sg_cases D with ⟨e, _⟩ | ⟨_, e⟩ | ⟨e, _⟩
    · rw [e]; omega
    · exact absurd e h0
    · rw [e]; omega
  have hs := hid hv
  clear hv h0
  have Hx := hid hx
  have Hy := hid hy
  clear hx hy
  go_enter Try.func11, Try.ntmps11
  go_upto_region 1 with fail
  have hy1 := hid (((Ext.refl w).alloc (.cells #[.bool sx, .slice Px lx kx, .bool tx, .slice Qx mx dx] 27)).alloc (.cells #[.bool false, .slice none 0 0, .bool false, .slice none 0 0] 37))
  have Bx_ := ((Bk.new w 27 #[.bool sx, .slice Px lx kx, .bool tx, .slice Qx mx dx]).ext ((Ext.refl (w.alloc (.cells #[.bool sx, .slice Px lx kx, .bool tx, .slice Qx mx dx] 27))).alloc (.cells #[.bool false, .slice none 0 0, .bool false, .slice none 0 0] 37)))
  have Bx := hid Bx_
  clear Bx_
  have Bo_ := (Bk.new (w.alloc (.cells #[.bool sx, .slice Px lx kx, .bool tx, .slice Qx mx dx] 27)) 37 #[.bool false, .slice none 0 0, .bool false, .slice none 0 0])
  rw [size_alloc] at Bo_
  have Bo := hid Bo_
  clear Bo_
  generalize ((w.alloc (.cells #[.bool sx, .slice Px lx kx, .bool tx, .slice Qx mx dx] 27)).alloc (.cells #[.bool false, .slice none 0 0, .bool false, .slice none 0 0] 37)) = w1 at *
  have X1 := hid ((Ext.refl _).trans hy1.out)
  obtain ⟨f3_0, f3_1, f3_2, f3_3⟩ : w1.cell? ⟨w.heap.size, 0, none⟩ = some (.bool sx) ∧ w1.cell? ⟨w.heap.size, 1, none⟩ = some (.slice Px lx kx) ∧ w1.cell? ⟨w.heap.size, 2, none⟩ = some (.bool tx) ∧ w1.cell? ⟨w.heap.size, 3, none⟩ = some (.slice Qx mx dx) := ⟨Bx.out.c 0, Bx.out.c 1, Bx.out.c 2, Bx.out.c 3⟩
  go_upto_region 2 with (first
    | ((go_at_call 35); (with_reducible refine (zof_v (Hy.out.ext X1.out) (by omega)).mono ?_); rintro E2 w2 ⟨b2, A2, n2, c2, rfl, o2, hr2⟩; have X2 := hid (X1.out.trans hr2); have hy2 := hid hr2; clear hr2; have O2 := hid o2; clear o2; obtain ⟨f4_0, f4_1, f4_2, f4_3⟩ : w2.cell? ⟨w.heap.size, 0, none⟩ = some (.bool sx) ∧ w2.cell? ⟨w.heap.size, 1, none⟩ = some (.slice Px lx kx) ∧ w2.cell? ⟨w.heap.size, 2, none⟩ = some (.bool tx) ∧ w2.cell? ⟨w.heap.size, 3, none⟩ = some (.slice Qx mx dx) := ⟨(Bx.out.ext hy2.out).c 0, (Bx.out.ext hy2.out).c 1, (Bx.out.ext hy2.out).c 2, (Bx.out.ext hy2.out).c 3⟩))
  clear f3_0 f3_1 f3_2 f3_3 f4_0 f4_1 f4_2 f4_3
  have hy3 := hid ((Ext.refl w2).alloc (.cells #[.bool b2, .slice A2 n2 c2] 35))
  have Bd_ := (Bk.new w2 35 #[.bool b2, .slice A2 n2 c2])
  have Bd := hid Bd_
  clear Bd_
  generalize (w2.alloc (.cells #[.bool b2, .slice A2 n2 c2] 35)) = w3 at *
  have X3 := hid (X2.out.trans hy3.out)
  obtain ⟨f6_0, f6_1⟩ : w3.cell? ⟨w2.heap.size, 0, none⟩ = some (.bool b2) ∧ w3.cell? ⟨w2.heap.size, 1, none⟩ = some (.slice A2 n2 c2) := ⟨Bd.out.c 0, Bd.out.c 1⟩
  go_upto_region 4 with (first
    | ((go_at_call 36); (with_reducible refine (zsign_is (v := v) (O2.out.ext hy3.out) hs.out).mono ?_); rintro E4 w4 ⟨rfl, hr4⟩; have X4 := hid (X3.out.trans hr4); have hy4 := hid hr4; clear hr4; obtain ⟨f7_0, f7_1⟩ : w4.cell? ⟨w2.heap.size, 0, none⟩ = some (.bool b2) ∧ w4.cell? ⟨w2.heap.size, 1, none⟩ = some (.slice A2 n2 c2) := ⟨(Bd.out.ext hy4.out).c 0, (Bd.out.ext hy4.out).c 1⟩))
  clear f6_0 f6_1 f7_0 f7_1
  refine wp_region_held_drew (S := fun w' => Ext w w' ∧ Bk 27 w' (w.heap.size) #[.bool sx, .slice Px lx kx, .bool tx, .slice Qx mx dx] ∧ Bk 35 w' (w2.heap.size) #[.bool b2, .slice A2 n2 c2]) (by kernel_rfl) ⟨(X4.out.trans (Ext.refl _).drew), (Bx.out.ext (((hy2.out.trans hy3.out).trans hy4.out).trans (Ext.refl _).drew)), (Bd.out.ext (hy4.out.trans (Ext.refl _).drew))⟩ (fun hS0 => ?_)
  change wpAnyH _ _ _ _ _ 6 #[false, false, false, false, false, false] _ _
  refine drawn_free 0 11 (v := ?v0_4) (.fieldAddr 27 (.tmp 1) 0) (by kernel_rfl) ?hy0_4 (by kernel_rfl) (by kernel_rfl) (by kernel_rfl) (fun _ _ _ _ h => h) hS0 ?hr0_4
  case hy0_4 => (intro o ho w' hS; unfold execOp; simp only [ho]; go_simp; try with_reducible rfl)
  simp only [Act.put, List.setIfInBounds_toArray, List.set_cons_zero, List.set_cons_succ]
  refine drawn_free 1 12 (v := ?v1_5) (.load 24 (.tmp 11)) (by kernel_rfl) ?hy1_5 (by kernel_rfl) (by kernel_rfl) (by kernel_rfl) (fun _ _ _ _ h => h) hS0 ?hr1_5
  case hy1_5 => (intro o ho w' hS; have c0 : w'.cell? ⟨w.heap.size, 0, none⟩ = some (.bool sx) := hS.2.1.c 0; have c1 : w'.cell? ⟨w.heap.size, 1, none⟩ = some (.slice Px lx kx) := hS.2.1.c 1; unfold execOp; simp only [ho]; go_simp; try with_reducible rfl)
  simp only [Act.put, List.setIfInBounds_toArray, List.set_cons_zero, List.set_cons_succ]
  refine drawn_load 3 14 35 (.tmp 3) (w2.heap.size) 35 #[.bool b2, .slice A2 n2 c2] (0, 0) _ (by kernel_rfl) rfl (fun w' hS => hS.2.2.h) Try.underlying35 rfl info_z_s (by kernel_rfl) (by kernel_rfl) (by kernel_rfl) (fun _ _ _ _ h => h) hS0 ?_
  simp only [Act.put, List.setIfInBounds_toArray, List.set_cons_zero, List.set_cons_succ]
  refine wpAnyH_ready (rs := [2]) (by kernel_rfl) (by simp) ?_
  refine drawn_call1 2 (some 13) (.tmp 12) (ts := #[24]) (by kernel_rfl) (enters_of Try.func35 (by kernel_rfl) rfl) rfl (zof_v (Hx.out.ext (X4.out.trans (Ext.refl _).drew)) (by omega)) (fun E v2 hh => ?_) ?_
  · skip
    obtain ⟨b2q, A2q, n2q, c2q, rfl, o2, hx2⟩ := hh
    refine ⟨_, rfl, ⟨((X4.out.trans (Ext.refl _).drew).trans hx2), (Bx.out.ext ((((hy2.out.trans hy3.out).trans hy4.out).trans (Ext.refl _).drew).trans hx2)), (Bd.out.ext ((hy4.out.trans (Ext.refl _).drew).trans hx2))⟩, ?_⟩
    simp only [Act.put, List.setIfInBounds_toArray, List.set_cons_zero, List.set_cons_succ]
    refine drawn_free 4 15 (v := ?v4_6) (.build 37 #[(0, .tmp 13), (1, .tmp 14)]) (by kernel_rfl) ?hy4_6 (by kernel_rfl) (by kernel_rfl) (by kernel_rfl) (fun _ _ _ _ h => h) ⟨((X4.out.trans (Ext.refl _).drew).trans hx2), (Bx.out.ext ((((hy2.out.trans hy3.out).trans hy4.out).trans (Ext.refl _).drew).trans hx2)), (Bd.out.ext ((hy4.out.trans (Ext.refl _).drew).trans hx2))⟩ ?hr4_6
    case hy4_6 => (intro o ho w' hS; unfold execOp; simp only [ho]; go_simp; try with_reducible rfl)
    simp only [Act.put, List.setIfInBounds_toArray, List.set_cons_zero, List.set_cons_succ]
    refine wpAnyH_ready (rs := [5]) (by kernel_rfl) (by simp) ?_
    have hq5 := (Bo.out.ext ((((hy2.out.trans hy3.out).trans hy4.out).trans (Ext.refl _).drew).trans hx2))
    refine drawn_store 5 37 (.tmp 2) (.tmp 15) (w.heap.size + 1) #[.bool b2q, .slice A2q n2q c2q, .bool b2, .slice A2 n2 c2] #[.bool false, .slice none 0 0, .bool false, .slice none 0 0] 37 (by kernel_rfl) rfl rfl hq5.h info_q rfl one_four (fun v5 hb5 hg5 => ⟨⟨(((X4.out.trans (Ext.refl _).drew).trans hx2).gb hg5 (by omega)), ((Bx.out.ext ((((hy2.out.trans hy3.out).trans hy4.out).trans (Ext.refl _).drew).trans hx2)).grown hg5 (by omega)), ((Bd.out.ext ((hy4.out.trans (Ext.refl _).drew).trans hx2)).grown hg5 (by have h0 := (Nat.lt_of_lt_of_le Bo.out.lt hy2.out.size); have h1 := (Nat.le_refl w2.heap.size); omega))⟩, ?_⟩) ?_
    · skip
      simp only [Act.put, List.setIfInBounds_toArray, List.set_cons_zero, List.set_cons_succ]
      refine wpAnyH_done (by kernel_rfl) ?_ _
      go_wp2_with fail
      refine ret_q rfl (show Bk 37 v5 (w.heap.size + 1) #[.bool b2q, .slice A2q n2q c2q, .bool b2, .slice A2 n2 c2] from hb5) rfl rfl ⟨_, _, _, _, _, _, _, _, rfl, Qz.mk ((o2.gbk4 hq5 hg5).weak (by omega)) (((O2.out.ext (((hy3.out.trans hy4.out).trans (Ext.refl _).drew).trans hx2)).gbk4 hq5 hg5).weak (by omega)), (((X4.out.trans (Ext.refl _).drew).trans hx2).gb hg5 (by omega))⟩
    exact drawn_nil
  exact drawn_nil

theorem dof_p {w : World} {sx tx : Bool} {Px Qx : Option Addr} {lx kx mx dx : Nat} {K : Nat} {N D : Int} (hx : Iz K w sx Px lx kx N) (hy : Iz K w tx Qx mx dx D) (hK : K ≤ 10000) :
    Calls Try.prog 11 #[.agg #[.bool sx, .slice Px lx kx, .bool tx, .slice Qx mx dx]] w (RetP (10 * K + 22) N (dn D) w) := by
  by_cases h0 : D = 0
  · subst h0
    exact dof_zero hx hy hK
  · rw [dn_of h0]
    exact dof_ne hx hy h0 hK
theorem dof_v {w : World} {sx tx : Bool} {Px Qx : Option Addr} {lx kx mx dx : Nat} {K : Nat} {x : Rat} (hx : Rv K w sx Px lx kx tx Qx mx dx x) (hK : K ≤ 10000) :
    Calls Try.prog 11 #[.agg #[.bool sx, .slice Px lx kx, .bool tx, .slice Qx mx dx]] w (RetQ (10 * K + 22) x w) := by
  obtain ⟨N, D, h1, h2, rfl⟩ := hx
  exact (dof_p h1 h2 hK).mono fun _ _ h => h.toQ (dn_ne D) rfl
theorem zgcd_is {w : World} {s t : Bool} {A B : Option Addr} {n c m d K K' : Nat} {x y v : Int} (h : Zd K w s A n c x) (h' : Zd K' w t B m d y) (hK : K + K' ≤ 500000000) (hv : ((Nat.gcd x.natAbs y.natAbs : Nat) : Int) = v) :
    Calls Try.prog 42 #[.agg #[.bool s, .slice A n c], .agg #[.bool t, .slice B m d]] w (RetZ (K + K') v w) := hv ▸ zgcd_v h h' hK
set_option maxHeartbeats 6400000 in
set_option maxRecDepth 100000 in
theorem drat_neg {w : World} {sx tx : Bool} {Px Qx : Option Addr} {lx kx mx dx : Nat} {K : Nat} {N D : Int} (hx : Zd K w sx Px lx kx N) (hy : Zd K w true Qx mx dx D) (h0 : D < 0) (hK : K ≤ 1000000) :
    Calls Try.prog 15 #[.agg #[.bool sx, .slice Px lx kx, .bool true, .slice Qx mx dx]] w (RetR K ((N : Rat) / (D : Rat)) w) := by
  have hr : ((-N : Int) : Rat) / ((-D : Int) : Rat) = (N : Rat) / (D : Rat) := by
    have := cast_ne (show D ≠ 0 by omega)
    rw [Rat.intCast_neg, Rat.intCast_neg]
    grind
  obtain ⟨G, hG, hG0, _, _, heN, heD⟩ := gcd_pos_parts (N := -N) (D := -D) (by omega)
  rw [hr] at heN heD
  have hg := hid hG
  have g0 := hid hG0
  have eN := hid heN
  have eD := hid heD
  clear hG hG0 heN heD h0 hr
  have Hx := hid hx
  have Hy := hid hy
  clear hx hy
  go_enter Try.func15, Try.ntmps15
  go_upto_region 1 with fail
  have hy1 := hid (((Ext.refl w).alloc (.cells #[.bool sx, .slice Px lx kx, .bool true, .slice Qx mx dx] 37)).alloc (.cells #[.bool false, .slice none 0 0, .bool false, .slice none 0 0] 27))
  have Bx_ := ((Bk.new w 37 #[.bool sx, .slice Px lx kx, .bool true, .slice Qx mx dx]).ext ((Ext.refl (w.alloc (.cells #[.bool sx, .slice Px lx kx, .bool true, .slice Qx mx dx] 37))).alloc (.cells #[.bool false, .slice none 0 0, .bool false, .slice none 0 0] 27)))
  have Bx := hid Bx_
  clear Bx_
  have Bo_ := (Bk.new (w.alloc (.cells #[.bool sx, .slice Px lx kx, .bool true, .slice Qx mx dx] 37)) 27 #[.bool false, .slice none 0 0, .bool false, .slice none 0 0])
  rw [size_alloc] at Bo_
  have Bo := hid Bo_
  clear Bo_
  generalize ((w.alloc (.cells #[.bool sx, .slice Px lx kx, .bool true, .slice Qx mx dx] 37)).alloc (.cells #[.bool false, .slice none 0 0, .bool false, .slice none 0 0] 27)) = w1 at *
  have X1 := hid ((Ext.refl _).trans hy1.out)
  go_cut [3, 4] (fun v3 v4 wx => ∃ (g3c : Nat) (g4c : Nat), v3 = .pointer (some ⟨g3c, 0, none⟩) ∧ v4 = .pointer (some ⟨g4c, 0, none⟩) ∧ w1.heap.size ≤ g3c ∧ w1.heap.size ≤ g4c ∧ g3c ≠ g4c ∧ Bk 27 wx (w.heap.size + 1) #[.bool false, .slice none 0 0, .bool false, .slice none 0 0] ∧ Bk 35 wx (g3c) #[.bool sx, .slice Px lx kx] ∧ Bk 35 wx (g4c) #[.bool true, .slice Qx mx dx] ∧ Ext w wx)
  case first =>
    refine wp_region_held_drew (S := fun w' => Ext w w' ∧ Bk 37 w' (w.heap.size) #[.bool sx, .slice Px lx kx, .bool true, .slice Qx mx dx]) (by kernel_rfl) ⟨(X1.out.trans (Ext.refl _).drew), (Bx.out.ext (Ext.refl _).drew)⟩ (fun hS0 => ?_)
    change wpAnyH _ _ _ _ _ 8 #[false, false, false, false, false, false, false, false] _ _
    refine drawn_free 0 6 (v := ?v0_7) (.fieldAddr 37 (.tmp 1) 0) (by kernel_rfl) ?hy0_7 (by kernel_rfl) (by kernel_rfl) (by kernel_rfl) (fun _ _ _ _ h => h) hS0 ?hr0_7
    case hy0_7 => (intro o ho w' hS; unfold execOp; simp only [ho]; go_simp; try with_reducible rfl)
    simp only [Act.put, List.setIfInBounds_toArray, List.set_cons_zero, List.set_cons_succ]
    refine drawn_free 1 7 (v := ?v1_8) (.load 35 (.tmp 6)) (by kernel_rfl) ?hy1_8 (by kernel_rfl) (by kernel_rfl) (by kernel_rfl) (fun _ _ _ _ h => h) hS0 ?hr1_8
    case hy1_8 => (intro o ho w' hS; have c0 : w'.cell? ⟨w.heap.size, 0, none⟩ = some (.bool sx) := hS.2.c 0; have c1 : w'.cell? ⟨w.heap.size, 1, none⟩ = some (.slice Px lx kx) := hS.2.c 1; unfold execOp; simp only [ho]; go_simp; try with_reducible rfl)
    simp only [Act.put, List.setIfInBounds_toArray, List.set_cons_zero, List.set_cons_succ]
    refine drawn_free 2 8 (v := ?v2_9) (.fieldAddr 37 (.tmp 1) 1) (by kernel_rfl) ?hy2_9 (by kernel_rfl) (by kernel_rfl) (by kernel_rfl) (fun _ _ _ _ h => h) hS0 ?hr2_9
    case hy2_9 => (intro o ho w' hS; unfold execOp; simp only [ho]; go_simp; try with_reducible rfl)
    simp only [Act.put, List.setIfInBounds_toArray, List.set_cons_zero, List.set_cons_succ]
    refine drawn_free 3 9 (v := ?v3_10) (.load 35 (.tmp 8)) (by kernel_rfl) ?hy3_10 (by kernel_rfl) (by kernel_rfl) (by kernel_rfl) (fun _ _ _ _ h => h) hS0 ?hr3_10
    case hy3_10 => (intro o ho w' hS; have c2 : w'.cell? ⟨w.heap.size, 2, none⟩ = some (.bool true) := hS.2.c 2; have c3 : w'.cell? ⟨w.heap.size, 3, none⟩ = some (.slice Qx mx dx) := hS.2.c 3; unfold execOp; simp only [ho]; go_simp; try with_reducible rfl)
    simp only [Act.put, List.setIfInBounds_toArray, List.set_cons_zero, List.set_cons_succ]
    refine wpAnyH_ready (rs := [4, 5]) (by kernel_rfl) (by simp) ?_
    refine drawn_alloc 4 (some 3) (by kernel_rfl) alloc_z (fun g4 v4 hb4 hx4 hg4 => ⟨⟨((X1.out.trans (Ext.refl _).drew).trans hx4), (Bx.out.ext ((Ext.refl _).drew.trans hx4))⟩, ?_⟩) ?_
    · skip
      simp only [Act.put, List.setIfInBounds_toArray, List.set_cons_zero, List.set_cons_succ]
      refine wpAnyH_ready (rs := [5]) (by kernel_rfl) (by simp) ?_
      refine drawn_alloc 5 (some 4) (by kernel_rfl) alloc_z (fun g5 v5 hb5 hx5 hg5 => ⟨⟨(((X1.out.trans (Ext.refl _).drew).trans hx4).trans hx5), (Bx.out.ext (((Ext.refl _).drew.trans hx4).trans hx5))⟩, ?_⟩) ?_
      · skip
        simp only [Act.put, List.setIfInBounds_toArray, List.set_cons_zero, List.set_cons_succ]
        refine wpAnyH_ready (rs := [6]) (by kernel_rfl) (by simp) ?_
        have hq6 := ((show Bk 35 v4 g4 #[.bool false, .slice none 0 0] from hb4).ext hx5)
        refine drawn_store 6 35 (.tmp 3) (.tmp 7) (g4) #[.bool sx, .slice Px lx kx] #[.bool false, .slice none 0 0] 35 (by kernel_rfl) rfl rfl hq6.h info_z_s rfl one_two (fun v6 hb6 hg6 => ⟨⟨((((X1.out.trans (Ext.refl _).drew).trans hx4).trans hx5).gb hg6 (by have h := (X1.out.trans (Ext.refl _).drew).size; have h1 := hg4; omega)), ((Bx.out.ext (((Ext.refl _).drew.trans hx4).trans hx5)).grown hg6 (by have h0 := (Nat.lt_of_lt_of_le Bx.out.lt (Ext.refl _).drew.size); have h1 := hg4; omega))⟩, ?_⟩) ?_
        · skip
          simp only [Act.put, List.setIfInBounds_toArray, List.set_cons_zero, List.set_cons_succ]
          refine wpAnyH_ready (rs := [7]) (by kernel_rfl) (by simp) ?_
          have hq7 := ((show Bk 35 v5 g5 #[.bool false, .slice none 0 0] from hb5).grown hg6 (by have h0 := (show Bk 35 v4 g4 #[.bool false, .slice none 0 0] from hb4).lt; have h1 := hg5; omega))
          refine drawn_store 7 35 (.tmp 4) (.tmp 9) (g5) #[.bool true, .slice Qx mx dx] #[.bool false, .slice none 0 0] 35 (by kernel_rfl) rfl rfl hq7.h info_z_s rfl one_two (fun v7 hb7 hg7 => ⟨⟨(((((X1.out.trans (Ext.refl _).drew).trans hx4).trans hx5).gb hg6 (by have h := (X1.out.trans (Ext.refl _).drew).size; have h1 := hg4; omega)).gb hg7 (by have h := ((X1.out.trans (Ext.refl _).drew).trans hx4).size; have h1 := hg5; omega)), (((Bx.out.ext (((Ext.refl _).drew.trans hx4).trans hx5)).grown hg6 (by have h0 := (Nat.lt_of_lt_of_le Bx.out.lt (Ext.refl _).drew.size); have h1 := hg4; omega)).grown hg7 (by have h0 := (Nat.lt_of_lt_of_le Bx.out.lt (Nat.le_trans (Ext.refl _).drew.size hx4.size)); have h1 := hg5; omega))⟩, ?_⟩) ?_
          · skip
            simp only [Act.put, List.setIfInBounds_toArray, List.set_cons_zero, List.set_cons_succ]
            refine wpAnyH_done (by kernel_rfl) ?_ _
            go_step
            go_step
            go_meet
            case rel => exact ⟨_, _, rfl, rfl, (Nat.le_trans (Ext.refl _).drew.size hg4), (Nat.le_trans (Nat.le_trans (Ext.refl _).drew.size hx4.size) hg5), (by have h0 := (show Bk 35 v4 g4 #[.bool false, .slice none 0 0] from hb4).lt; have h1 := hg5; omega), (((Bo.out.ext (((Ext.refl _).drew.trans hx4).trans hx5)).grown hg6 (by have h0 := (Nat.lt_of_lt_of_le Bo.out.lt (Ext.refl _).drew.size); have h1 := hg4; omega)).grown hg7 (by have h0 := (Nat.lt_of_lt_of_le Bo.out.lt (Nat.le_trans (Ext.refl _).drew.size hx4.size)); have h1 := hg5; omega)), ((show Bk 35 v6 (g4) #[.bool sx, .slice Px lx kx] from hb6).grown hg7 (by have h0 := (show Bk 35 v4 g4 #[.bool false, .slice none 0 0] from hb4).lt; have h1 := hg5; omega)), (show Bk 35 v7 (g5) #[.bool true, .slice Qx mx dx] from hb7), (((((X1.out.trans (Ext.refl _).drew).trans hx4).trans hx5).gb hg6 (by have h := (X1.out.trans (Ext.refl _).drew).size; have h1 := hg4; omega)).gb hg7 (by have h := ((X1.out.trans (Ext.refl _).drew).trans hx4).size; have h1 := hg5; omega))⟩
          exact drawn_nil
        exact drawn_nil
      exact drawn_nil
    refine drawn_alloc 5 (some 4) (by kernel_rfl) alloc_z (fun g5 v5 hb5 hx5 hg5 => ⟨⟨((X1.out.trans (Ext.refl _).drew).trans hx5), (Bx.out.ext ((Ext.refl _).drew.trans hx5))⟩, ?_⟩) ?_
    · skip
      simp only [Act.put, List.setIfInBounds_toArray, List.set_cons_zero, List.set_cons_succ]
      refine wpAnyH_ready (rs := [4]) (by kernel_rfl) (by simp) ?_
      refine drawn_alloc 4 (some 3) (by kernel_rfl) alloc_z (fun g4 v4 hb4 hx4 hg4 => ⟨⟨(((X1.out.trans (Ext.refl _).drew).trans hx5).trans hx4), (Bx.out.ext (((Ext.refl _).drew.trans hx5).trans hx4))⟩, ?_⟩) ?_
      · skip
        simp only [Act.put, List.setIfInBounds_toArray, List.set_cons_zero, List.set_cons_succ]
        refine wpAnyH_ready (rs := [6]) (by kernel_rfl) (by simp) ?_
        have hq6 := (show Bk 35 v4 g4 #[.bool false, .slice none 0 0] from hb4)
        refine drawn_store 6 35 (.tmp 3) (.tmp 7) (g4) #[.bool sx, .slice Px lx kx] #[.bool false, .slice none 0 0] 35 (by kernel_rfl) rfl rfl hq6.h info_z_s rfl one_two (fun v6 hb6 hg6 => ⟨⟨((((X1.out.trans (Ext.refl _).drew).trans hx5).trans hx4).gb hg6 (by have h := ((X1.out.trans (Ext.refl _).drew).trans hx5).size; have h1 := hg4; omega)), ((Bx.out.ext (((Ext.refl _).drew.trans hx5).trans hx4)).grown hg6 (by have h0 := (Nat.lt_of_lt_of_le Bx.out.lt (Nat.le_trans (Ext.refl _).drew.size hx5.size)); have h1 := hg4; omega))⟩, ?_⟩) ?_
        · skip
          simp only [Act.put, List.setIfInBounds_toArray, List.set_cons_zero, List.set_cons_succ]
          refine wpAnyH_ready (rs := [7]) (by kernel_rfl) (by simp) ?_
          have hq7 := (((show Bk 35 v5 g5 #[.bool false, .slice none 0 0] from hb5).ext hx4).grown hg6 (by have h0 := (show Bk 35 v5 g5 #[.bool false, .slice none 0 0] from hb5).lt; have h1 := hg4; omega))
          refine drawn_store 7 35 (.tmp 4) (.tmp 9) (g5) #[.bool true, .slice Qx mx dx] #[.bool false, .slice none 0 0] 35 (by kernel_rfl) rfl rfl hq7.h info_z_s rfl one_two (fun v7 hb7 hg7 => ⟨⟨(((((X1.out.trans (Ext.refl _).drew).trans hx5).trans hx4).gb hg6 (by have h := ((X1.out.trans (Ext.refl _).drew).trans hx5).size; have h1 := hg4; omega)).gb hg7 (by have h := (X1.out.trans (Ext.refl _).drew).size; have h1 := hg5; omega)), (((Bx.out.ext (((Ext.refl _).drew.trans hx5).trans hx4)).grown hg6 (by have h0 := (Nat.lt_of_lt_of_le Bx.out.lt (Nat.le_trans (Ext.refl _).drew.size hx5.size)); have h1 := hg4; omega)).grown hg7 (by have h0 := (Nat.lt_of_lt_of_le Bx.out.lt (Ext.refl _).drew.size); have h1 := hg5; omega))⟩, ?_⟩) ?_
          · skip
            simp only [Act.put, List.setIfInBounds_toArray, List.set_cons_zero, List.set_cons_succ]
            refine wpAnyH_done (by kernel_rfl) ?_ _
            go_step
            go_step
            go_meet
            case rel => exact ⟨_, _, rfl, rfl, (Nat.le_trans (Nat.le_trans (Ext.refl _).drew.size hx5.size) hg4), (Nat.le_trans (Ext.refl _).drew.size hg5), (by have h0 := (show Bk 35 v5 g5 #[.bool false, .slice none 0 0] from hb5).lt; have h1 := hg4; omega), (((Bo.out.ext (((Ext.refl _).drew.trans hx5).trans hx4)).grown hg6 (by have h0 := (Nat.lt_of_lt_of_le Bo.out.lt (Nat.le_trans (Ext.refl _).drew.size hx5.size)); have h1 := hg4; omega)).grown hg7 (by have h0 := (Nat.lt_of_lt_of_le Bo.out.lt (Ext.refl _).drew.size); have h1 := hg5; omega)), ((show Bk 35 v6 (g4) #[.bool sx, .slice Px lx kx] from hb6).grown hg7 (by have h0 := (show Bk 35 v5 g5 #[.bool false, .slice none 0 0] from hb5).lt; have h1 := hg4; omega)), (show Bk 35 v7 (g5) #[.bool true, .slice Qx mx dx] from hb7), (((((X1.out.trans (Ext.refl _).drew).trans hx5).trans hx4).gb hg6 (by have h := ((X1.out.trans (Ext.refl _).drew).trans hx5).size; have h1 := hg4; omega)).gb hg7 (by have h := (X1.out.trans (Ext.refl _).drew).size; have h1 := hg5; omega))⟩
          exact drawn_nil
        exact drawn_nil
      exact drawn_nil
    exact drawn_nil
  case rest =>
  obtain ⟨g3c, g4c, rfl, rfl, hgen2, hged2, hnend2, Boc2, Bnc2, Bdc2, Xc2⟩ := hcut
  obtain ⟨w2, hw2⟩ : ∃ w2, w2 = wc := ⟨_, rfl⟩
  subst hw2
  have HBoc2 := hid Boc2
  clear Boc2
  have HBnc2 := hid Bnc2
  clear Bnc2
  have HBdc2 := hid Bdc2
  clear Bdc2
  have X2 := hid Xc2
  clear Xc2
  obtain ⟨f5_0, f5_1⟩ : w2.cell? ⟨g4c, 0, none⟩ = some (.bool true) ∧ w2.cell? ⟨g4c, 1, none⟩ = some (.slice Qx mx dx) := ⟨HBdc2.out.c 0, HBdc2.out.c 1⟩
  go_upto_region 3 with fail
  clear f5_0 f5_1
  go_cut [3, 4] (fun v3 v4 wx => ∃ (b1q : Bool) (A1q : Option Addr) (n1q c1q : Nat) (b3q : Bool) (A3q : Option Addr) (n3q c3q : Nat), v3 = .pointer (some ⟨g3c, 0, none⟩) ∧ v4 = .pointer (some ⟨g4c, 0, none⟩) ∧ Bk 27 wx (w.heap.size + 1) #[.bool false, .slice none 0 0, .bool false, .slice none 0 0] ∧ Bk 35 wx (g3c) #[.bool b1q, .slice A1q n1q c1q] ∧ Bk 35 wx (g4c) #[.bool b3q, .slice A3q n3q c3q] ∧ Zd K wx b1q A1q n1q c1q (-N) ∧ Zd K wx b3q A3q n3q c3q (-D) ∧ Ext w wx)
  case first =>
    refine wp_region_held_drew (S := fun _ => True) (by kernel_rfl) trivial (fun hS0 => ?_)
    change wpAnyH _ _ _ _ _ 6 #[false, false, false, false, false, false] _ _
    refine wpAnyH_ready (rs := [0, 2]) (by kernel_rfl) (by simp) ?_
    refine drawn_loadS 0 12 35 (.tmp 3) (g3c) 35 #[.bool sx, .slice Px lx kx] _ (by kernel_rfl) rfl (HBnc2.out.ext (Ext.refl _).drew) Try.underlying35 rfl info_z_s trivial ?_ ?_
    · skip
      simp only [Act.put, List.setIfInBounds_toArray, List.set_cons_zero, List.set_cons_succ]
      refine wpAnyH_ready (rs := [1, 2]) (by kernel_rfl) (by simp) ?_
      refine drawn_call1 1 (some 13) (.tmp 12) (ts := #[35]) (by kernel_rfl) (enters_of Try.func41 (by kernel_rfl) rfl) rfl (zneg_v (Hx.out.ext (X2.out.trans (Ext.refl _).drew))) (fun E v1 hh => ?_) ?_
      · skip
        obtain ⟨b1q, A1q, n1q, c1q, rfl, o1, hx1⟩ := hh
        refine ⟨_, rfl, trivial, ?_⟩
        simp only [Act.put, List.setIfInBounds_toArray, List.set_cons_zero, List.set_cons_succ]
        refine wpAnyH_ready (rs := [2]) (by kernel_rfl) (by simp) ?_
        refine drawn_loadS 2 14 35 (.tmp 4) (g4c) 35 #[.bool true, .slice Qx mx dx] _ (by kernel_rfl) rfl (HBdc2.out.ext ((Ext.refl _).drew.trans hx1)) Try.underlying35 rfl info_z_s trivial ?_ ?_
        · skip
          simp only [Act.put, List.setIfInBounds_toArray, List.set_cons_zero, List.set_cons_succ]
          refine wpAnyH_ready (rs := [3]) (by kernel_rfl) (by simp) ?_
          refine drawn_call1 3 (some 15) (.tmp 14) (ts := #[35]) (by kernel_rfl) (enters_of Try.func41 (by kernel_rfl) rfl) rfl (zneg_v (Hy.out.ext ((X2.out.trans (Ext.refl _).drew).trans hx1))) (fun E v3 hh => ?_) ?_
          · skip
            obtain ⟨b3q, A3q, n3q, c3q, rfl, o3, hx3⟩ := hh
            refine ⟨_, rfl, trivial, ?_⟩
            simp only [Act.put, List.setIfInBounds_toArray, List.set_cons_zero, List.set_cons_succ]
            refine wpAnyH_ready (rs := [4]) (by kernel_rfl) (by simp) ?_
            have hq4 := (HBnc2.out.ext (((Ext.refl _).drew.trans hx1).trans hx3))
            refine drawn_store 4 35 (.tmp 3) (.tmp 13) (g3c) #[.bool b1q, .slice A1q n1q c1q] #[.bool sx, .slice Px lx kx] 35 (by kernel_rfl) rfl rfl hq4.h info_z_s rfl one_two (fun v4 hb4 hg4 => ⟨trivial, ?_⟩) ?_
            · skip
              simp only [Act.put, List.setIfInBounds_toArray, List.set_cons_zero, List.set_cons_succ]
              refine wpAnyH_ready (rs := [5]) (by kernel_rfl) (by simp) ?_
              have hq5 := ((HBdc2.out.ext (((Ext.refl _).drew.trans hx1).trans hx3)).grown hg4 (fun e => hnend2 e.symm))
              refine drawn_store 5 35 (.tmp 4) (.tmp 15) (g4c) #[.bool b3q, .slice A3q n3q c3q] #[.bool true, .slice Qx mx dx] 35 (by kernel_rfl) rfl rfl hq5.h info_z_s rfl one_two (fun v5 hb5 hg5 => ⟨trivial, ?_⟩) ?_
              · skip
                simp only [Act.put, List.setIfInBounds_toArray, List.set_cons_zero, List.set_cons_succ]
                refine wpAnyH_done (by kernel_rfl) ?_ _
                go_step
                go_step
                go_meet
                case rel => exact ⟨_, _, _, _, _, _, _, _, rfl, rfl, (((HBoc2.out.ext (((Ext.refl _).drew.trans hx1).trans hx3)).grown hg4 (by have h0 := Bo.out.lt; have h1 := hgen2; omega)).grown hg5 (by have h0 := Bo.out.lt; have h1 := hged2; omega)), ((show Bk 35 v4 (g3c) #[.bool b1q, .slice A1q n1q c1q] from hb4).grown hg5 hnend2), (show Bk 35 v5 (g4c) #[.bool b3q, .slice A3q n3q c3q] from hb5), (((o1.ext hx3).gbk2 hq4 hg4).gbk2 hq5 hg5), ((o3.gbk2 hq4 hg4).gbk2 hq5 hg5), (((((X2.out.trans (Ext.refl _).drew).trans hx1).trans hx3).gb hg4 (by have h := X1.out.size; have h1 := hgen2; omega)).gb hg5 (by have h := X1.out.size; have h1 := hged2; omega))⟩
              exact drawn_nil
            exact drawn_nil
          exact drawn_nil
        exact drawn_nil
      refine drawn_loadS 2 14 35 (.tmp 4) (g4c) 35 #[.bool true, .slice Qx mx dx] _ (by kernel_rfl) rfl (HBdc2.out.ext (Ext.refl _).drew) Try.underlying35 rfl info_z_s trivial ?_ ?_
      · skip
        simp only [Act.put, List.setIfInBounds_toArray, List.set_cons_zero, List.set_cons_succ]
        refine wpAnyH_ready (rs := [1]) (by kernel_rfl) (by simp) ?_
        refine drawn_call1 1 (some 13) (.tmp 12) (ts := #[35]) (by kernel_rfl) (enters_of Try.func41 (by kernel_rfl) rfl) rfl (zneg_v (Hx.out.ext (X2.out.trans (Ext.refl _).drew))) (fun E v1 hh => ?_) ?_
        · skip
          obtain ⟨b1q, A1q, n1q, c1q, rfl, o1, hx1⟩ := hh
          refine ⟨_, rfl, trivial, ?_⟩
          simp only [Act.put, List.setIfInBounds_toArray, List.set_cons_zero, List.set_cons_succ]
          refine wpAnyH_ready (rs := [3]) (by kernel_rfl) (by simp) ?_
          refine drawn_call1 3 (some 15) (.tmp 14) (ts := #[35]) (by kernel_rfl) (enters_of Try.func41 (by kernel_rfl) rfl) rfl (zneg_v (Hy.out.ext ((X2.out.trans (Ext.refl _).drew).trans hx1))) (fun E v3 hh => ?_) ?_
          · skip
            obtain ⟨b3q, A3q, n3q, c3q, rfl, o3, hx3⟩ := hh
            refine ⟨_, rfl, trivial, ?_⟩
            simp only [Act.put, List.setIfInBounds_toArray, List.set_cons_zero, List.set_cons_succ]
            refine wpAnyH_ready (rs := [4]) (by kernel_rfl) (by simp) ?_
            have hq4 := (HBnc2.out.ext (((Ext.refl _).drew.trans hx1).trans hx3))
            refine drawn_store 4 35 (.tmp 3) (.tmp 13) (g3c) #[.bool b1q, .slice A1q n1q c1q] #[.bool sx, .slice Px lx kx] 35 (by kernel_rfl) rfl rfl hq4.h info_z_s rfl one_two (fun v4 hb4 hg4 => ⟨trivial, ?_⟩) ?_
            · skip
              simp only [Act.put, List.setIfInBounds_toArray, List.set_cons_zero, List.set_cons_succ]
              refine wpAnyH_ready (rs := [5]) (by kernel_rfl) (by simp) ?_
              have hq5 := ((HBdc2.out.ext (((Ext.refl _).drew.trans hx1).trans hx3)).grown hg4 (fun e => hnend2 e.symm))
              refine drawn_store 5 35 (.tmp 4) (.tmp 15) (g4c) #[.bool b3q, .slice A3q n3q c3q] #[.bool true, .slice Qx mx dx] 35 (by kernel_rfl) rfl rfl hq5.h info_z_s rfl one_two (fun v5 hb5 hg5 => ⟨trivial, ?_⟩) ?_
              · skip
                simp only [Act.put, List.setIfInBounds_toArray, List.set_cons_zero, List.set_cons_succ]
                refine wpAnyH_done (by kernel_rfl) ?_ _
                go_step
                go_step
                go_meet
                case rel => exact ⟨_, _, _, _, _, _, _, _, rfl, rfl, (((HBoc2.out.ext (((Ext.refl _).drew.trans hx1).trans hx3)).grown hg4 (by have h0 := Bo.out.lt; have h1 := hgen2; omega)).grown hg5 (by have h0 := Bo.out.lt; have h1 := hged2; omega)), ((show Bk 35 v4 (g3c) #[.bool b1q, .slice A1q n1q c1q] from hb4).grown hg5 hnend2), (show Bk 35 v5 (g4c) #[.bool b3q, .slice A3q n3q c3q] from hb5), (((o1.ext hx3).gbk2 hq4 hg4).gbk2 hq5 hg5), ((o3.gbk2 hq4 hg4).gbk2 hq5 hg5), (((((X2.out.trans (Ext.refl _).drew).trans hx1).trans hx3).gb hg4 (by have h := X1.out.size; have h1 := hgen2; omega)).gb hg5 (by have h := X1.out.size; have h1 := hged2; omega))⟩
              exact drawn_nil
            exact drawn_nil
          exact drawn_nil
        exact drawn_nil
      exact drawn_nil
    refine drawn_loadS 2 14 35 (.tmp 4) (g4c) 35 #[.bool true, .slice Qx mx dx] _ (by kernel_rfl) rfl (HBdc2.out.ext (Ext.refl _).drew) Try.underlying35 rfl info_z_s trivial ?_ ?_
    · skip
      simp only [Act.put, List.setIfInBounds_toArray, List.set_cons_zero, List.set_cons_succ]
      refine wpAnyH_ready (rs := [0]) (by kernel_rfl) (by simp) ?_
      refine drawn_loadS 0 12 35 (.tmp 3) (g3c) 35 #[.bool sx, .slice Px lx kx] _ (by kernel_rfl) rfl (HBnc2.out.ext (Ext.refl _).drew) Try.underlying35 rfl info_z_s trivial ?_ ?_
      · skip
        simp only [Act.put, List.setIfInBounds_toArray, List.set_cons_zero, List.set_cons_succ]
        refine wpAnyH_ready (rs := [1]) (by kernel_rfl) (by simp) ?_
        refine drawn_call1 1 (some 13) (.tmp 12) (ts := #[35]) (by kernel_rfl) (enters_of Try.func41 (by kernel_rfl) rfl) rfl (zneg_v (Hx.out.ext (X2.out.trans (Ext.refl _).drew))) (fun E v1 hh => ?_) ?_
        · skip
          obtain ⟨b1q, A1q, n1q, c1q, rfl, o1, hx1⟩ := hh
          refine ⟨_, rfl, trivial, ?_⟩
          simp only [Act.put, List.setIfInBounds_toArray, List.set_cons_zero, List.set_cons_succ]
          refine wpAnyH_ready (rs := [3]) (by kernel_rfl) (by simp) ?_
          refine drawn_call1 3 (some 15) (.tmp 14) (ts := #[35]) (by kernel_rfl) (enters_of Try.func41 (by kernel_rfl) rfl) rfl (zneg_v (Hy.out.ext ((X2.out.trans (Ext.refl _).drew).trans hx1))) (fun E v3 hh => ?_) ?_
          · skip
            obtain ⟨b3q, A3q, n3q, c3q, rfl, o3, hx3⟩ := hh
            refine ⟨_, rfl, trivial, ?_⟩
            simp only [Act.put, List.setIfInBounds_toArray, List.set_cons_zero, List.set_cons_succ]
            refine wpAnyH_ready (rs := [4]) (by kernel_rfl) (by simp) ?_
            have hq4 := (HBnc2.out.ext (((Ext.refl _).drew.trans hx1).trans hx3))
            refine drawn_store 4 35 (.tmp 3) (.tmp 13) (g3c) #[.bool b1q, .slice A1q n1q c1q] #[.bool sx, .slice Px lx kx] 35 (by kernel_rfl) rfl rfl hq4.h info_z_s rfl one_two (fun v4 hb4 hg4 => ⟨trivial, ?_⟩) ?_
            · skip
              simp only [Act.put, List.setIfInBounds_toArray, List.set_cons_zero, List.set_cons_succ]
              refine wpAnyH_ready (rs := [5]) (by kernel_rfl) (by simp) ?_
              have hq5 := ((HBdc2.out.ext (((Ext.refl _).drew.trans hx1).trans hx3)).grown hg4 (fun e => hnend2 e.symm))
              refine drawn_store 5 35 (.tmp 4) (.tmp 15) (g4c) #[.bool b3q, .slice A3q n3q c3q] #[.bool true, .slice Qx mx dx] 35 (by kernel_rfl) rfl rfl hq5.h info_z_s rfl one_two (fun v5 hb5 hg5 => ⟨trivial, ?_⟩) ?_
              · skip
                simp only [Act.put, List.setIfInBounds_toArray, List.set_cons_zero, List.set_cons_succ]
                refine wpAnyH_done (by kernel_rfl) ?_ _
                go_step
                go_step
                go_meet
                case rel => exact ⟨_, _, _, _, _, _, _, _, rfl, rfl, (((HBoc2.out.ext (((Ext.refl _).drew.trans hx1).trans hx3)).grown hg4 (by have h0 := Bo.out.lt; have h1 := hgen2; omega)).grown hg5 (by have h0 := Bo.out.lt; have h1 := hged2; omega)), ((show Bk 35 v4 (g3c) #[.bool b1q, .slice A1q n1q c1q] from hb4).grown hg5 hnend2), (show Bk 35 v5 (g4c) #[.bool b3q, .slice A3q n3q c3q] from hb5), (((o1.ext hx3).gbk2 hq4 hg4).gbk2 hq5 hg5), ((o3.gbk2 hq4 hg4).gbk2 hq5 hg5), (((((X2.out.trans (Ext.refl _).drew).trans hx1).trans hx3).gb hg4 (by have h := X1.out.size; have h1 := hgen2; omega)).gb hg5 (by have h := X1.out.size; have h1 := hged2; omega))⟩
              exact drawn_nil
            exact drawn_nil
          exact drawn_nil
        exact drawn_nil
      exact drawn_nil
    exact drawn_nil
  case rest =>
  obtain ⟨b1q, A1q, n1q, c1q, b3q, A3q, n3q, c3q, rfl, rfl, Boc3, Bnc3, Bdc3, ONc3, ODc3, Xc3⟩ := hcut
  obtain ⟨w3, hw3⟩ : ∃ w3, w3 = wc := ⟨_, rfl⟩
  subst hw3
  have HBoc3 := hid Boc3
  clear Boc3
  have HBnc3 := hid Bnc3
  clear Bnc3
  have HBdc3 := hid Bdc3
  clear Bdc3
  have HONc3 := hid ONc3
  clear ONc3
  have HODc3 := hid ODc3
  clear ODc3
  have X3 := hid Xc3
  clear Xc3
  go_upto_region 4 with fail
  obtain ⟨f6_0, f6_1, f6_2, f6_3⟩ : w3.cell? ⟨g3c, 0, none⟩ = some (.bool b1q) ∧ w3.cell? ⟨g3c, 1, none⟩ = some (.slice A1q n1q c1q) ∧ w3.cell? ⟨g4c, 0, none⟩ = some (.bool b3q) ∧ w3.cell? ⟨g4c, 1, none⟩ = some (.slice A3q n3q c3q) := ⟨HBnc3.out.c 0, HBnc3.out.c 1, HBdc3.out.c 0, HBdc3.out.c 1⟩
  go_upto_region 5 with (first
    | ((go_at_call 42); (with_reducible refine (zgcd_is HONc3.out HODc3.out (by omega) hg.out).mono ?_); rintro E4 w4 ⟨b4, A4, n4, c4, rfl, o4, hr4⟩; have X4 := hid (X3.out.trans hr4); have hy4 := hid hr4; clear hr4; have O4 := hid o4; clear o4; obtain ⟨f7_0, f7_1, f7_2, f7_3⟩ : w4.cell? ⟨g3c, 0, none⟩ = some (.bool b1q) ∧ w4.cell? ⟨g3c, 1, none⟩ = some (.slice A1q n1q c1q) ∧ w4.cell? ⟨g4c, 0, none⟩ = some (.bool b3q) ∧ w4.cell? ⟨g4c, 1, none⟩ = some (.slice A3q n3q c3q) := ⟨(HBnc3.out.ext hy4.out).c 0, (HBnc3.out.ext hy4.out).c 1, (HBdc3.out.ext hy4.out).c 0, (HBdc3.out.ext hy4.out).c 1⟩))
  clear f6_0 f6_1 f6_2 f6_3 f7_0 f7_1 f7_2 f7_3
  have hy5 := hid ((Ext.refl w4).alloc (.cells #[.bool b4, .slice A4 n4 c4] 35))
  have Bg_ := (Bk.new w4 35 #[.bool b4, .slice A4 n4 c4])
  have Bg := hid Bg_
  clear Bg_
  generalize (w4.alloc (.cells #[.bool b4, .slice A4 n4 c4] 35)) = w5 at *
  have X5 := hid (X4.out.trans hy5.out)
  obtain ⟨f9_0, f9_1, f9_2, f9_3, f9_4, f9_5⟩ : w5.cell? ⟨g3c, 0, none⟩ = some (.bool b1q) ∧ w5.cell? ⟨g3c, 1, none⟩ = some (.slice A1q n1q c1q) ∧ w5.frozen? ⟨g3c, 0, none⟩ = false ∧ w5.frozen? ⟨g3c, 1, none⟩ = false ∧ w5.cell? ⟨w4.heap.size, 0, none⟩ = some (.bool b4) ∧ w5.cell? ⟨w4.heap.size, 1, none⟩ = some (.slice A4 n4 c4) := ⟨(HBnc3.out.ext (hy4.out.trans hy5.out)).c 0, (HBnc3.out.ext (hy4.out.trans hy5.out)).c 1, (HBnc3.out.ext (hy4.out.trans hy5.out)).fr 0, (HBnc3.out.ext (hy4.out.trans hy5.out)).fr 1, Bg.out.c 0, Bg.out.c 1⟩
  go_upto_region 6 with (first
    | ((go_at_call 43); (with_reducible refine (zdivmod_v (HONc3.out.ext (hy4.out.trans hy5.out)) (O4.out.ext hy5.out) (by omega) g0.out).mono ?_); rintro E6 w6 ⟨b6, A6, n6, c6, e6, B6, m6, d6, rfl, o6, _, hr6⟩; have X6 := hid (X5.out.trans hr6); have hy6 := hid hr6; clear hr6; have O6 := hid o6; clear o6; obtain ⟨f10_0, f10_1, f10_2, f10_3, f10_4, f10_5⟩ : w6.cell? ⟨g3c, 0, none⟩ = some (.bool b1q) ∧ w6.cell? ⟨g3c, 1, none⟩ = some (.slice A1q n1q c1q) ∧ w6.frozen? ⟨g3c, 0, none⟩ = false ∧ w6.frozen? ⟨g3c, 1, none⟩ = false ∧ w6.cell? ⟨w4.heap.size, 0, none⟩ = some (.bool b4) ∧ w6.cell? ⟨w4.heap.size, 1, none⟩ = some (.slice A4 n4 c4) := ⟨(HBnc3.out.ext ((hy4.out.trans hy5.out).trans hy6.out)).c 0, (HBnc3.out.ext ((hy4.out.trans hy5.out).trans hy6.out)).c 1, (HBnc3.out.ext ((hy4.out.trans hy5.out).trans hy6.out)).fr 0, (HBnc3.out.ext ((hy4.out.trans hy5.out).trans hy6.out)).fr 1, (Bg.out.ext hy6.out).c 0, (Bg.out.ext hy6.out).c 1⟩))
  clear f9_0 f9_1 f9_2 f9_3 f9_4 f9_5 f10_0 f10_1 f10_2 f10_3 f10_4 f10_5
  have HG7 := hid (show w6.grownBy ((w6.setCell ⟨g3c, 0, none⟩ (.bool b6)).setCell ⟨g3c, 1, none⟩ (.slice A6 n6 c6)) (some (g3c)) from gb2 w6 (g3c) (.bool b6) (.slice A6 n6 c6))
  have HO7 := hid (HBnc3.out.ext ((hy4.out.trans hy5.out).trans hy6.out))
  have HP7 := hid (show Bk 35 ((w6.setCell ⟨g3c, 0, none⟩ (.bool b6)).setCell ⟨g3c, 1, none⟩ (.slice A6 n6 c6)) (g3c) #[.bool b6, .slice A6 n6 c6] from (HBnc3.out.ext ((hy4.out.trans hy5.out).trans hy6.out)).put2 (.bool b6) (.slice A6 n6 c6))
  generalize ((w6.setCell ⟨g3c, 0, none⟩ (.bool b6)).setCell ⟨g3c, 1, none⟩ (.slice A6 n6 c6)) = w7 at *
  have X7 := hid (X6.out.gb HG7.out (by have h := X1.out.size; have h1 := hgen2; omega))
  obtain ⟨f11_0, f11_1, f11_2, f11_3, f11_4, f11_5⟩ : w7.cell? ⟨g4c, 0, none⟩ = some (.bool b3q) ∧ w7.cell? ⟨g4c, 1, none⟩ = some (.slice A3q n3q c3q) ∧ w7.frozen? ⟨g4c, 0, none⟩ = false ∧ w7.frozen? ⟨g4c, 1, none⟩ = false ∧ w7.cell? ⟨w4.heap.size, 0, none⟩ = some (.bool b4) ∧ w7.cell? ⟨w4.heap.size, 1, none⟩ = some (.slice A4 n4 c4) := ⟨((HBdc3.out.ext ((hy4.out.trans hy5.out).trans hy6.out)).grown HG7.out (fun e => hnend2 e.symm)).c 0, ((HBdc3.out.ext ((hy4.out.trans hy5.out).trans hy6.out)).grown HG7.out (fun e => hnend2 e.symm)).c 1, ((HBdc3.out.ext ((hy4.out.trans hy5.out).trans hy6.out)).grown HG7.out (fun e => hnend2 e.symm)).fr 0, ((HBdc3.out.ext ((hy4.out.trans hy5.out).trans hy6.out)).grown HG7.out (fun e => hnend2 e.symm)).fr 1, ((Bg.out.ext hy6.out).grown HG7.out (by have h0 := (Nat.lt_of_lt_of_le HBnc3.out.lt hy4.out.size); have h1 := (Nat.le_refl w4.heap.size); omega)).c 0, ((Bg.out.ext hy6.out).grown HG7.out (by have h0 := (Nat.lt_of_lt_of_le HBnc3.out.lt hy4.out.size); have h1 := (Nat.le_refl w4.heap.size); omega)).c 1⟩
  go_upto_region 7 with (first
    | ((go_at_call 43); (with_reducible refine (zdivmod_v ((HODc3.out.ext ((hy4.out.trans hy5.out).trans hy6.out)).gbk2 HO7.out HG7.out) ((O4.out.ext (hy5.out.trans hy6.out)).gbk2 HO7.out HG7.out) (by omega) g0.out).mono ?_); rintro E8 w8 ⟨b8, A8, n8, c8, e8, B8, m8, d8, rfl, o8, _, hr8⟩; have X8 := hid (X7.out.trans hr8); have hy8 := hid hr8; clear hr8; have O8 := hid o8; clear o8; obtain ⟨f12_0, f12_1, f12_2, f12_3, f12_4, f12_5⟩ : w8.cell? ⟨g4c, 0, none⟩ = some (.bool b3q) ∧ w8.cell? ⟨g4c, 1, none⟩ = some (.slice A3q n3q c3q) ∧ w8.frozen? ⟨g4c, 0, none⟩ = false ∧ w8.frozen? ⟨g4c, 1, none⟩ = false ∧ w8.cell? ⟨w4.heap.size, 0, none⟩ = some (.bool b4) ∧ w8.cell? ⟨w4.heap.size, 1, none⟩ = some (.slice A4 n4 c4) := ⟨(((HBdc3.out.ext ((hy4.out.trans hy5.out).trans hy6.out)).grown HG7.out (fun e => hnend2 e.symm)).ext hy8.out).c 0, (((HBdc3.out.ext ((hy4.out.trans hy5.out).trans hy6.out)).grown HG7.out (fun e => hnend2 e.symm)).ext hy8.out).c 1, (((HBdc3.out.ext ((hy4.out.trans hy5.out).trans hy6.out)).grown HG7.out (fun e => hnend2 e.symm)).ext hy8.out).fr 0, (((HBdc3.out.ext ((hy4.out.trans hy5.out).trans hy6.out)).grown HG7.out (fun e => hnend2 e.symm)).ext hy8.out).fr 1, (((Bg.out.ext hy6.out).grown HG7.out (by have h0 := (Nat.lt_of_lt_of_le HBnc3.out.lt hy4.out.size); have h1 := (Nat.le_refl w4.heap.size); omega)).ext hy8.out).c 0, (((Bg.out.ext hy6.out).grown HG7.out (by have h0 := (Nat.lt_of_lt_of_le HBnc3.out.lt hy4.out.size); have h1 := (Nat.le_refl w4.heap.size); omega)).ext hy8.out).c 1⟩))
  clear f11_0 f11_1 f11_2 f11_3 f11_4 f11_5 f12_0 f12_1 f12_2 f12_3 f12_4 f12_5
  have HG9 := hid (show w8.grownBy ((w8.setCell ⟨g4c, 0, none⟩ (.bool b8)).setCell ⟨g4c, 1, none⟩ (.slice A8 n8 c8)) (some (g4c)) from gb2 w8 (g4c) (.bool b8) (.slice A8 n8 c8))
  have HO9 := hid (((HBdc3.out.ext ((hy4.out.trans hy5.out).trans hy6.out)).grown HG7.out (fun e => hnend2 e.symm)).ext hy8.out)
  have HP9 := hid (show Bk 35 ((w8.setCell ⟨g4c, 0, none⟩ (.bool b8)).setCell ⟨g4c, 1, none⟩ (.slice A8 n8 c8)) (g4c) #[.bool b8, .slice A8 n8 c8] from (((HBdc3.out.ext ((hy4.out.trans hy5.out).trans hy6.out)).grown HG7.out (fun e => hnend2 e.symm)).ext hy8.out).put2 (.bool b8) (.slice A8 n8 c8))
  generalize ((w8.setCell ⟨g4c, 0, none⟩ (.bool b8)).setCell ⟨g4c, 1, none⟩ (.slice A8 n8 c8)) = w9 at *
  have X9 := hid (X8.out.gb HG9.out (by have h := X1.out.size; have h1 := hged2; omega))
  refine wp_region_held_drew (S := fun w' => Ext w w' ∧ Bk 35 w' (g3c) #[.bool b6, .slice A6 n6 c6] ∧ Bk 35 w' (g4c) #[.bool b8, .slice A8 n8 c8]) (by kernel_rfl) ⟨(X9.out.trans (Ext.refl _).drew), (((HP7.out.ext hy8.out).grown HG9.out hnend2).ext (Ext.refl _).drew), (HP9.out.ext (Ext.refl _).drew)⟩ (fun hS0 => ?_)
  change wpAnyH _ _ _ _ _ 6 #[false, false, false, false, false, false] _ _
  refine drawn_load 0 31 35 (.tmp 3) (g3c) 35 #[.bool b6, .slice A6 n6 c6] (0, 0) _ (by kernel_rfl) rfl (fun w' hS => hS.2.1.h) Try.underlying35 rfl info_z_s (by kernel_rfl) (by kernel_rfl) (by kernel_rfl) (fun _ _ _ _ h => h) hS0 ?_
  simp only [Act.put, List.setIfInBounds_toArray, List.set_cons_zero, List.set_cons_succ]
  refine drawn_load 2 33 35 (.tmp 4) (g4c) 35 #[.bool b8, .slice A8 n8 c8] (0, 0) _ (by kernel_rfl) rfl (fun w' hS => hS.2.2.h) Try.underlying35 rfl info_z_s (by kernel_rfl) (by kernel_rfl) (by kernel_rfl) (fun _ _ _ _ h => h) hS0 ?_
  simp only [Act.put, List.setIfInBounds_toArray, List.set_cons_zero, List.set_cons_succ]
  refine wpAnyH_ready (rs := [1]) (by kernel_rfl) (by simp) ?_
  refine drawn_call1 1 (some 32) (.tmp 31) (ts := #[35]) (by kernel_rfl) (enters_of Try.func44 (by kernel_rfl) rfl) rfl (zint_v ((((O6.out.gbk2 HO7.out HG7.out).ext hy8.out).gbk2 HO9.out HG9.out).ext (Ext.refl _).drew) (by omega)) (fun E v1 hh => ?_) ?_
  · skip
    obtain ⟨b1q, A1q, n1q, c1q, rfl, o1, hx1⟩ := hh
    refine ⟨_, rfl, ⟨((X9.out.trans (Ext.refl _).drew).trans hx1), (((HP7.out.ext hy8.out).grown HG9.out hnend2).ext ((Ext.refl _).drew.trans hx1)), (HP9.out.ext ((Ext.refl _).drew.trans hx1))⟩, ?_⟩
    simp only [Act.put, List.setIfInBounds_toArray, List.set_cons_zero, List.set_cons_succ]
    refine wpAnyH_ready (rs := [3]) (by kernel_rfl) (by simp) ?_
    refine drawn_call1 3 (some 34) (.tmp 33) (ts := #[35]) (by kernel_rfl) (enters_of Try.func44 (by kernel_rfl) rfl) rfl (zint_v ((O8.out.gbk2 HO9.out HG9.out).ext ((Ext.refl _).drew.trans hx1)) (by omega)) (fun E v3 hh => ?_) ?_
    · skip
      obtain ⟨b3q, A3q, n3q, c3q, rfl, o3, hx3⟩ := hh
      refine ⟨_, rfl, ⟨(((X9.out.trans (Ext.refl _).drew).trans hx1).trans hx3), (((HP7.out.ext hy8.out).grown HG9.out hnend2).ext (((Ext.refl _).drew.trans hx1).trans hx3)), (HP9.out.ext (((Ext.refl _).drew.trans hx1).trans hx3))⟩, ?_⟩
      simp only [Act.put, List.setIfInBounds_toArray, List.set_cons_zero, List.set_cons_succ]
      refine drawn_free 4 35 (v := ?v4_11) (.build 27 #[(0, .tmp 32), (1, .tmp 34)]) (by kernel_rfl) ?hy4_11 (by kernel_rfl) (by kernel_rfl) (by kernel_rfl) (fun _ _ _ _ h => h) ⟨(((X9.out.trans (Ext.refl _).drew).trans hx1).trans hx3), (((HP7.out.ext hy8.out).grown HG9.out hnend2).ext (((Ext.refl _).drew.trans hx1).trans hx3)), (HP9.out.ext (((Ext.refl _).drew.trans hx1).trans hx3))⟩ ?hr4_11
      case hy4_11 => (intro o ho w' hS; unfold execOp; simp only [ho]; go_simp; try with_reducible rfl)
      simp only [Act.put, List.setIfInBounds_toArray, List.set_cons_zero, List.set_cons_succ]
      refine wpAnyH_ready (rs := [5]) (by kernel_rfl) (by simp) ?_
      have hq5 := (((((HBoc3.out.ext ((hy4.out.trans hy5.out).trans hy6.out)).grown HG7.out (by have h0 := Bo.out.lt; have h1 := hgen2; omega)).ext hy8.out).grown HG9.out (by have h0 := Bo.out.lt; have h1 := hged2; omega)).ext (((Ext.refl _).drew.trans hx1).trans hx3))
      refine drawn_store 5 27 (.tmp 2) (.tmp 35) (w.heap.size + 1) #[.bool b1q, .slice A1q n1q c1q, .bool b3q, .slice A3q n3q c3q] #[.bool false, .slice none 0 0, .bool false, .slice none 0 0] 27 (by kernel_rfl) rfl rfl hq5.h info_rat rfl one_four (fun v5 hb5 hg5 => ⟨⟨((((X9.out.trans (Ext.refl _).drew).trans hx1).trans hx3).gb hg5 (by omega)), ((((HP7.out.ext hy8.out).grown HG9.out hnend2).ext (((Ext.refl _).drew.trans hx1).trans hx3)).grown hg5 (by have h0 := Bo.out.lt; have h1 := hgen2; omega)), ((HP9.out.ext (((Ext.refl _).drew.trans hx1).trans hx3)).grown hg5 (by have h0 := Bo.out.lt; have h1 := hged2; omega))⟩, ?_⟩) ?_
      · skip
        simp only [Act.put, List.setIfInBounds_toArray, List.set_cons_zero, List.set_cons_succ]
        refine wpAnyH_done (by kernel_rfl) ?_ _
        go_wp2_with fail
        refine ret_r rfl (show Bk 27 v5 (w.heap.size + 1) #[.bool b1q, .slice A1q n1q c1q, .bool b3q, .slice A3q n3q c3q] from hb5) rfl rfl ⟨_, _, _, _, _, _, _, _, rfl, ⟨((((o1.mono (X9.out.trans (Ext.refl _).drew).size).ext hx3).gbk hq5 (by decide) hg5).cast eN.out), (((o3.mono ((X9.out.trans (Ext.refl _).drew).trans hx1).size).gbk hq5 (by decide) hg5).cast eD.out)⟩, ((((X9.out.trans (Ext.refl _).drew).trans hx1).trans hx3).gb hg5 (by omega))⟩
      exact drawn_nil
    exact drawn_nil
  exact drawn_nil

set_option maxHeartbeats 6400000 in
set_option maxRecDepth 100000 in
theorem drat_pos {w : World} {sx tx : Bool} {Px Qx : Option Addr} {lx kx mx dx : Nat} {K : Nat} {N D : Int} (hx : Zd K w sx Px lx kx N) (hy : Zd K w false Qx mx dx D) (h0 : 0 < D) (hK : K ≤ 1000000) :
    Calls Try.prog 15 #[.agg #[.bool sx, .slice Px lx kx, .bool false, .slice Qx mx dx]] w (RetR K ((N : Rat) / (D : Rat)) w) := by
  obtain ⟨G, hG, hG0, _, _, heN, heD⟩ := gcd_pos_parts (N := N) (D := D) h0
  have hg := hid hG
  have g0 := hid hG0
  have eN := hid heN
  have eD := hid heD
  clear hG hG0 heN heD h0
  have Hx := hid hx
  have Hy := hid hy
  clear hx hy
  go_enter Try.func15, Try.ntmps15
  go_upto_region 1 with fail
  have hy1 := hid (((Ext.refl w).alloc (.cells #[.bool sx, .slice Px lx kx, .bool false, .slice Qx mx dx] 37)).alloc (.cells #[.bool false, .slice none 0 0, .bool false, .slice none 0 0] 27))
  have Bx_ := ((Bk.new w 37 #[.bool sx, .slice Px lx kx, .bool false, .slice Qx mx dx]).ext ((Ext.refl (w.alloc (.cells #[.bool sx, .slice Px lx kx, .bool false, .slice Qx mx dx] 37))).alloc (.cells #[.bool false, .slice none 0 0, .bool false, .slice none 0 0] 27)))
  have Bx := hid Bx_
  clear Bx_
  have Bo_ := (Bk.new (w.alloc (.cells #[.bool sx, .slice Px lx kx, .bool false, .slice Qx mx dx] 37)) 27 #[.bool false, .slice none 0 0, .bool false, .slice none 0 0])
  rw [size_alloc] at Bo_
  have Bo := hid Bo_
  clear Bo_
  generalize ((w.alloc (.cells #[.bool sx, .slice Px lx kx, .bool false, .slice Qx mx dx] 37)).alloc (.cells #[.bool false, .slice none 0 0, .bool false, .slice none 0 0] 27)) = w1 at *
  have X1 := hid ((Ext.refl _).trans hy1.out)
  go_cut [3, 4] (fun v3 v4 wx => ∃ (g3c : Nat) (g4c : Nat), v3 = .pointer (some ⟨g3c, 0, none⟩) ∧ v4 = .pointer (some ⟨g4c, 0, none⟩) ∧ w1.heap.size ≤ g3c ∧ w1.heap.size ≤ g4c ∧ g3c ≠ g4c ∧ Bk 27 wx (w.heap.size + 1) #[.bool false, .slice none 0 0, .bool false, .slice none 0 0] ∧ Bk 35 wx (g3c) #[.bool sx, .slice Px lx kx] ∧ Bk 35 wx (g4c) #[.bool false, .slice Qx mx dx] ∧ Ext w wx)
  case first =>
    refine wp_region_held_drew (S := fun w' => Ext w w' ∧ Bk 37 w' (w.heap.size) #[.bool sx, .slice Px lx kx, .bool false, .slice Qx mx dx]) (by kernel_rfl) ⟨(X1.out.trans (Ext.refl _).drew), (Bx.out.ext (Ext.refl _).drew)⟩ (fun hS0 => ?_)
    change wpAnyH _ _ _ _ _ 8 #[false, false, false, false, false, false, false, false] _ _
    refine drawn_free 0 6 (v := ?v0_12) (.fieldAddr 37 (.tmp 1) 0) (by kernel_rfl) ?hy0_12 (by kernel_rfl) (by kernel_rfl) (by kernel_rfl) (fun _ _ _ _ h => h) hS0 ?hr0_12
    case hy0_12 => (intro o ho w' hS; unfold execOp; simp only [ho]; go_simp; try with_reducible rfl)
    simp only [Act.put, List.setIfInBounds_toArray, List.set_cons_zero, List.set_cons_succ]
    refine drawn_free 1 7 (v := ?v1_13) (.load 35 (.tmp 6)) (by kernel_rfl) ?hy1_13 (by kernel_rfl) (by kernel_rfl) (by kernel_rfl) (fun _ _ _ _ h => h) hS0 ?hr1_13
    case hy1_13 => (intro o ho w' hS; have c0 : w'.cell? ⟨w.heap.size, 0, none⟩ = some (.bool sx) := hS.2.c 0; have c1 : w'.cell? ⟨w.heap.size, 1, none⟩ = some (.slice Px lx kx) := hS.2.c 1; unfold execOp; simp only [ho]; go_simp; try with_reducible rfl)
    simp only [Act.put, List.setIfInBounds_toArray, List.set_cons_zero, List.set_cons_succ]
    refine drawn_free 2 8 (v := ?v2_14) (.fieldAddr 37 (.tmp 1) 1) (by kernel_rfl) ?hy2_14 (by kernel_rfl) (by kernel_rfl) (by kernel_rfl) (fun _ _ _ _ h => h) hS0 ?hr2_14
    case hy2_14 => (intro o ho w' hS; unfold execOp; simp only [ho]; go_simp; try with_reducible rfl)
    simp only [Act.put, List.setIfInBounds_toArray, List.set_cons_zero, List.set_cons_succ]
    refine drawn_free 3 9 (v := ?v3_15) (.load 35 (.tmp 8)) (by kernel_rfl) ?hy3_15 (by kernel_rfl) (by kernel_rfl) (by kernel_rfl) (fun _ _ _ _ h => h) hS0 ?hr3_15
    case hy3_15 => (intro o ho w' hS; have c2 : w'.cell? ⟨w.heap.size, 2, none⟩ = some (.bool false) := hS.2.c 2; have c3 : w'.cell? ⟨w.heap.size, 3, none⟩ = some (.slice Qx mx dx) := hS.2.c 3; unfold execOp; simp only [ho]; go_simp; try with_reducible rfl)
    simp only [Act.put, List.setIfInBounds_toArray, List.set_cons_zero, List.set_cons_succ]
    refine wpAnyH_ready (rs := [4, 5]) (by kernel_rfl) (by simp) ?_
    refine drawn_alloc 4 (some 3) (by kernel_rfl) alloc_z (fun g4 v4 hb4 hx4 hg4 => ⟨⟨((X1.out.trans (Ext.refl _).drew).trans hx4), (Bx.out.ext ((Ext.refl _).drew.trans hx4))⟩, ?_⟩) ?_
    · skip
      simp only [Act.put, List.setIfInBounds_toArray, List.set_cons_zero, List.set_cons_succ]
      refine wpAnyH_ready (rs := [5]) (by kernel_rfl) (by simp) ?_
      refine drawn_alloc 5 (some 4) (by kernel_rfl) alloc_z (fun g5 v5 hb5 hx5 hg5 => ⟨⟨(((X1.out.trans (Ext.refl _).drew).trans hx4).trans hx5), (Bx.out.ext (((Ext.refl _).drew.trans hx4).trans hx5))⟩, ?_⟩) ?_
      · skip
        simp only [Act.put, List.setIfInBounds_toArray, List.set_cons_zero, List.set_cons_succ]
        refine wpAnyH_ready (rs := [6]) (by kernel_rfl) (by simp) ?_
        have hq6 := ((show Bk 35 v4 g4 #[.bool false, .slice none 0 0] from hb4).ext hx5)
        refine drawn_store 6 35 (.tmp 3) (.tmp 7) (g4) #[.bool sx, .slice Px lx kx] #[.bool false, .slice none 0 0] 35 (by kernel_rfl) rfl rfl hq6.h info_z_s rfl one_two (fun v6 hb6 hg6 => ⟨⟨((((X1.out.trans (Ext.refl _).drew).trans hx4).trans hx5).gb hg6 (by have h := (X1.out.trans (Ext.refl _).drew).size; have h1 := hg4; omega)), ((Bx.out.ext (((Ext.refl _).drew.trans hx4).trans hx5)).grown hg6 (by have h0 := (Nat.lt_of_lt_of_le Bx.out.lt (Ext.refl _).drew.size); have h1 := hg4; omega))⟩, ?_⟩) ?_
        · skip
          simp only [Act.put, List.setIfInBounds_toArray, List.set_cons_zero, List.set_cons_succ]
          refine wpAnyH_ready (rs := [7]) (by kernel_rfl) (by simp) ?_
          have hq7 := ((show Bk 35 v5 g5 #[.bool false, .slice none 0 0] from hb5).grown hg6 (by have h0 := (show Bk 35 v4 g4 #[.bool false, .slice none 0 0] from hb4).lt; have h1 := hg5; omega))
          refine drawn_store 7 35 (.tmp 4) (.tmp 9) (g5) #[.bool false, .slice Qx mx dx] #[.bool false, .slice none 0 0] 35 (by kernel_rfl) rfl rfl hq7.h info_z_s rfl one_two (fun v7 hb7 hg7 => ⟨⟨(((((X1.out.trans (Ext.refl _).drew).trans hx4).trans hx5).gb hg6 (by have h := (X1.out.trans (Ext.refl _).drew).size; have h1 := hg4; omega)).gb hg7 (by have h := ((X1.out.trans (Ext.refl _).drew).trans hx4).size; have h1 := hg5; omega)), (((Bx.out.ext (((Ext.refl _).drew.trans hx4).trans hx5)).grown hg6 (by have h0 := (Nat.lt_of_lt_of_le Bx.out.lt (Ext.refl _).drew.size); have h1 := hg4; omega)).grown hg7 (by have h0 := (Nat.lt_of_lt_of_le Bx.out.lt (Nat.le_trans (Ext.refl _).drew.size hx4.size)); have h1 := hg5; omega))⟩, ?_⟩) ?_
          · skip
            simp only [Act.put, List.setIfInBounds_toArray, List.set_cons_zero, List.set_cons_succ]
            refine wpAnyH_done (by kernel_rfl) ?_ _
            go_step
            go_step
            go_meet
            case rel => exact ⟨_, _, rfl, rfl, (Nat.le_trans (Ext.refl _).drew.size hg4), (Nat.le_trans (Nat.le_trans (Ext.refl _).drew.size hx4.size) hg5), (by have h0 := (show Bk 35 v4 g4 #[.bool false, .slice none 0 0] from hb4).lt; have h1 := hg5; omega), (((Bo.out.ext (((Ext.refl _).drew.trans hx4).trans hx5)).grown hg6 (by have h0 := (Nat.lt_of_lt_of_le Bo.out.lt (Ext.refl _).drew.size); have h1 := hg4; omega)).grown hg7 (by have h0 := (Nat.lt_of_lt_of_le Bo.out.lt (Nat.le_trans (Ext.refl _).drew.size hx4.size)); have h1 := hg5; omega)), ((show Bk 35 v6 (g4) #[.bool sx, .slice Px lx kx] from hb6).grown hg7 (by have h0 := (show Bk 35 v4 g4 #[.bool false, .slice none 0 0] from hb4).lt; have h1 := hg5; omega)), (show Bk 35 v7 (g5) #[.bool false, .slice Qx mx dx] from hb7), (((((X1.out.trans (Ext.refl _).drew).trans hx4).trans hx5).gb hg6 (by have h := (X1.out.trans (Ext.refl _).drew).size; have h1 := hg4; omega)).gb hg7 (by have h := ((X1.out.trans (Ext.refl _).drew).trans hx4).size; have h1 := hg5; omega))⟩
          exact drawn_nil
        exact drawn_nil
      exact drawn_nil
    refine drawn_alloc 5 (some 4) (by kernel_rfl) alloc_z (fun g5 v5 hb5 hx5 hg5 => ⟨⟨((X1.out.trans (Ext.refl _).drew).trans hx5), (Bx.out.ext ((Ext.refl _).drew.trans hx5))⟩, ?_⟩) ?_
    · skip
      simp only [Act.put, List.setIfInBounds_toArray, List.set_cons_zero, List.set_cons_succ]
      refine wpAnyH_ready (rs := [4]) (by kernel_rfl) (by simp) ?_
      refine drawn_alloc 4 (some 3) (by kernel_rfl) alloc_z (fun g4 v4 hb4 hx4 hg4 => ⟨⟨(((X1.out.trans (Ext.refl _).drew).trans hx5).trans hx4), (Bx.out.ext (((Ext.refl _).drew.trans hx5).trans hx4))⟩, ?_⟩) ?_
      · skip
        simp only [Act.put, List.setIfInBounds_toArray, List.set_cons_zero, List.set_cons_succ]
        refine wpAnyH_ready (rs := [6]) (by kernel_rfl) (by simp) ?_
        have hq6 := (show Bk 35 v4 g4 #[.bool false, .slice none 0 0] from hb4)
        refine drawn_store 6 35 (.tmp 3) (.tmp 7) (g4) #[.bool sx, .slice Px lx kx] #[.bool false, .slice none 0 0] 35 (by kernel_rfl) rfl rfl hq6.h info_z_s rfl one_two (fun v6 hb6 hg6 => ⟨⟨((((X1.out.trans (Ext.refl _).drew).trans hx5).trans hx4).gb hg6 (by have h := ((X1.out.trans (Ext.refl _).drew).trans hx5).size; have h1 := hg4; omega)), ((Bx.out.ext (((Ext.refl _).drew.trans hx5).trans hx4)).grown hg6 (by have h0 := (Nat.lt_of_lt_of_le Bx.out.lt (Nat.le_trans (Ext.refl _).drew.size hx5.size)); have h1 := hg4; omega))⟩, ?_⟩) ?_
        · skip
          simp only [Act.put, List.setIfInBounds_toArray, List.set_cons_zero, List.set_cons_succ]
          refine wpAnyH_ready (rs := [7]) (by kernel_rfl) (by simp) ?_
          have hq7 := (((show Bk 35 v5 g5 #[.bool false, .slice none 0 0] from hb5).ext hx4).grown hg6 (by have h0 := (show Bk 35 v5 g5 #[.bool false, .slice none 0 0] from hb5).lt; have h1 := hg4; omega))
          refine drawn_store 7 35 (.tmp 4) (.tmp 9) (g5) #[.bool false, .slice Qx mx dx] #[.bool false, .slice none 0 0] 35 (by kernel_rfl) rfl rfl hq7.h info_z_s rfl one_two (fun v7 hb7 hg7 => ⟨⟨(((((X1.out.trans (Ext.refl _).drew).trans hx5).trans hx4).gb hg6 (by have h := ((X1.out.trans (Ext.refl _).drew).trans hx5).size; have h1 := hg4; omega)).gb hg7 (by have h := (X1.out.trans (Ext.refl _).drew).size; have h1 := hg5; omega)), (((Bx.out.ext (((Ext.refl _).drew.trans hx5).trans hx4)).grown hg6 (by have h0 := (Nat.lt_of_lt_of_le Bx.out.lt (Nat.le_trans (Ext.refl _).drew.size hx5.size)); have h1 := hg4; omega)).grown hg7 (by have h0 := (Nat.lt_of_lt_of_le Bx.out.lt (Ext.refl _).drew.size); have h1 := hg5; omega))⟩, ?_⟩) ?_
          · skip
            simp only [Act.put, List.setIfInBounds_toArray, List.set_cons_zero, List.set_cons_succ]
            refine wpAnyH_done (by kernel_rfl) ?_ _
            go_step
            go_step
            go_meet
            case rel => exact ⟨_, _, rfl, rfl, (Nat.le_trans (Nat.le_trans (Ext.refl _).drew.size hx5.size) hg4), (Nat.le_trans (Ext.refl _).drew.size hg5), (by have h0 := (show Bk 35 v5 g5 #[.bool false, .slice none 0 0] from hb5).lt; have h1 := hg4; omega), (((Bo.out.ext (((Ext.refl _).drew.trans hx5).trans hx4)).grown hg6 (by have h0 := (Nat.lt_of_lt_of_le Bo.out.lt (Nat.le_trans (Ext.refl _).drew.size hx5.size)); have h1 := hg4; omega)).grown hg7 (by have h0 := (Nat.lt_of_lt_of_le Bo.out.lt (Ext.refl _).drew.size); have h1 := hg5; omega)), ((show Bk 35 v6 (g4) #[.bool sx, .slice Px lx kx] from hb6).grown hg7 (by have h0 := (show Bk 35 v5 g5 #[.bool false, .slice none 0 0] from hb5).lt; have h1 := hg4; omega)), (show Bk 35 v7 (g5) #[.bool false, .slice Qx mx dx] from hb7), (((((X1.out.trans (Ext.refl _).drew).trans hx5).trans hx4).gb hg6 (by have h := ((X1.out.trans (Ext.refl _).drew).trans hx5).size; have h1 := hg4; omega)).gb hg7 (by have h := (X1.out.trans (Ext.refl _).drew).size; have h1 := hg5; omega))⟩
          exact drawn_nil
        exact drawn_nil
      exact drawn_nil
    exact drawn_nil
  case rest =>
  obtain ⟨g3c, g4c, rfl, rfl, hgen2, hged2, hnend2, Boc2, Bnc2, Bdc2, Xc2⟩ := hcut
  obtain ⟨w2, hw2⟩ : ∃ w2, w2 = wc := ⟨_, rfl⟩
  subst hw2
  have HBoc2 := hid Boc2
  clear Boc2
  have HBnc2 := hid Bnc2
  clear Bnc2
  have HBdc2 := hid Bdc2
  clear Bdc2
  have X2 := hid Xc2
  clear Xc2
  obtain ⟨f5_0, f5_1⟩ : w2.cell? ⟨g4c, 0, none⟩ = some (.bool false) ∧ w2.cell? ⟨g4c, 1, none⟩ = some (.slice Qx mx dx) := ⟨HBdc2.out.c 0, HBdc2.out.c 1⟩
  go_upto_region 4 with fail
  clear f5_0 f5_1
  obtain ⟨f6_0, f6_1, f6_2, f6_3⟩ : w2.cell? ⟨g3c, 0, none⟩ = some (.bool sx) ∧ w2.cell? ⟨g3c, 1, none⟩ = some (.slice Px lx kx) ∧ w2.cell? ⟨g4c, 0, none⟩ = some (.bool false) ∧ w2.cell? ⟨g4c, 1, none⟩ = some (.slice Qx mx dx) := ⟨HBnc2.out.c 0, HBnc2.out.c 1, HBdc2.out.c 0, HBdc2.out.c 1⟩
  go_upto_region 5 with (first
    | ((go_at_call 42); (with_reducible refine (zgcd_is (Hx.out.ext X2.out) (Hy.out.ext X2.out) (by omega) hg.out).mono ?_); rintro E3 w3 ⟨b3, A3, n3, c3, rfl, o3, hr3⟩; have X3 := hid (X2.out.trans hr3); have hy3 := hid hr3; clear hr3; have O3 := hid o3; clear o3; obtain ⟨f7_0, f7_1, f7_2, f7_3⟩ : w3.cell? ⟨g3c, 0, none⟩ = some (.bool sx) ∧ w3.cell? ⟨g3c, 1, none⟩ = some (.slice Px lx kx) ∧ w3.cell? ⟨g4c, 0, none⟩ = some (.bool false) ∧ w3.cell? ⟨g4c, 1, none⟩ = some (.slice Qx mx dx) := ⟨(HBnc2.out.ext hy3.out).c 0, (HBnc2.out.ext hy3.out).c 1, (HBdc2.out.ext hy3.out).c 0, (HBdc2.out.ext hy3.out).c 1⟩))
  clear f6_0 f6_1 f6_2 f6_3 f7_0 f7_1 f7_2 f7_3
  have hy4 := hid ((Ext.refl w3).alloc (.cells #[.bool b3, .slice A3 n3 c3] 35))
  have Bg_ := (Bk.new w3 35 #[.bool b3, .slice A3 n3 c3])
  have Bg := hid Bg_
  clear Bg_
  generalize (w3.alloc (.cells #[.bool b3, .slice A3 n3 c3] 35)) = w4 at *
  have X4 := hid (X3.out.trans hy4.out)
  obtain ⟨f9_0, f9_1, f9_2, f9_3, f9_4, f9_5⟩ : w4.cell? ⟨g3c, 0, none⟩ = some (.bool sx) ∧ w4.cell? ⟨g3c, 1, none⟩ = some (.slice Px lx kx) ∧ w4.frozen? ⟨g3c, 0, none⟩ = false ∧ w4.frozen? ⟨g3c, 1, none⟩ = false ∧ w4.cell? ⟨w3.heap.size, 0, none⟩ = some (.bool b3) ∧ w4.cell? ⟨w3.heap.size, 1, none⟩ = some (.slice A3 n3 c3) := ⟨(HBnc2.out.ext (hy3.out.trans hy4.out)).c 0, (HBnc2.out.ext (hy3.out.trans hy4.out)).c 1, (HBnc2.out.ext (hy3.out.trans hy4.out)).fr 0, (HBnc2.out.ext (hy3.out.trans hy4.out)).fr 1, Bg.out.c 0, Bg.out.c 1⟩
  go_upto_region 6 with (first
    | ((go_at_call 43); (with_reducible refine (zdivmod_v (Hx.out.ext X4.out) (O3.out.ext hy4.out) (by omega) g0.out).mono ?_); rintro E5 w5 ⟨b5, A5, n5, c5, e5, B5, m5, d5, rfl, o5, _, hr5⟩; have X5 := hid (X4.out.trans hr5); have hy5 := hid hr5; clear hr5; have O5 := hid o5; clear o5; obtain ⟨f10_0, f10_1, f10_2, f10_3, f10_4, f10_5⟩ : w5.cell? ⟨g3c, 0, none⟩ = some (.bool sx) ∧ w5.cell? ⟨g3c, 1, none⟩ = some (.slice Px lx kx) ∧ w5.frozen? ⟨g3c, 0, none⟩ = false ∧ w5.frozen? ⟨g3c, 1, none⟩ = false ∧ w5.cell? ⟨w3.heap.size, 0, none⟩ = some (.bool b3) ∧ w5.cell? ⟨w3.heap.size, 1, none⟩ = some (.slice A3 n3 c3) := ⟨(HBnc2.out.ext ((hy3.out.trans hy4.out).trans hy5.out)).c 0, (HBnc2.out.ext ((hy3.out.trans hy4.out).trans hy5.out)).c 1, (HBnc2.out.ext ((hy3.out.trans hy4.out).trans hy5.out)).fr 0, (HBnc2.out.ext ((hy3.out.trans hy4.out).trans hy5.out)).fr 1, (Bg.out.ext hy5.out).c 0, (Bg.out.ext hy5.out).c 1⟩))
  clear f9_0 f9_1 f9_2 f9_3 f9_4 f9_5 f10_0 f10_1 f10_2 f10_3 f10_4 f10_5
  have HG6 := hid (show w5.grownBy ((w5.setCell ⟨g3c, 0, none⟩ (.bool b5)).setCell ⟨g3c, 1, none⟩ (.slice A5 n5 c5)) (some (g3c)) from gb2 w5 (g3c) (.bool b5) (.slice A5 n5 c5))
  have HO6 := hid (HBnc2.out.ext ((hy3.out.trans hy4.out).trans hy5.out))
  have HP6 := hid (show Bk 35 ((w5.setCell ⟨g3c, 0, none⟩ (.bool b5)).setCell ⟨g3c, 1, none⟩ (.slice A5 n5 c5)) (g3c) #[.bool b5, .slice A5 n5 c5] from (HBnc2.out.ext ((hy3.out.trans hy4.out).trans hy5.out)).put2 (.bool b5) (.slice A5 n5 c5))
  generalize ((w5.setCell ⟨g3c, 0, none⟩ (.bool b5)).setCell ⟨g3c, 1, none⟩ (.slice A5 n5 c5)) = w6 at *
  have X6 := hid (X5.out.gb HG6.out (by have h := X1.out.size; have h1 := hgen2; omega))
  obtain ⟨f11_0, f11_1, f11_2, f11_3, f11_4, f11_5⟩ : w6.cell? ⟨g4c, 0, none⟩ = some (.bool false) ∧ w6.cell? ⟨g4c, 1, none⟩ = some (.slice Qx mx dx) ∧ w6.frozen? ⟨g4c, 0, none⟩ = false ∧ w6.frozen? ⟨g4c, 1, none⟩ = false ∧ w6.cell? ⟨w3.heap.size, 0, none⟩ = some (.bool b3) ∧ w6.cell? ⟨w3.heap.size, 1, none⟩ = some (.slice A3 n3 c3) := ⟨((HBdc2.out.ext ((hy3.out.trans hy4.out).trans hy5.out)).grown HG6.out (fun e => hnend2 e.symm)).c 0, ((HBdc2.out.ext ((hy3.out.trans hy4.out).trans hy5.out)).grown HG6.out (fun e => hnend2 e.symm)).c 1, ((HBdc2.out.ext ((hy3.out.trans hy4.out).trans hy5.out)).grown HG6.out (fun e => hnend2 e.symm)).fr 0, ((HBdc2.out.ext ((hy3.out.trans hy4.out).trans hy5.out)).grown HG6.out (fun e => hnend2 e.symm)).fr 1, ((Bg.out.ext hy5.out).grown HG6.out (by have h0 := (Nat.lt_of_lt_of_le HBnc2.out.lt hy3.out.size); have h1 := (Nat.le_refl w3.heap.size); omega)).c 0, ((Bg.out.ext hy5.out).grown HG6.out (by have h0 := (Nat.lt_of_lt_of_le HBnc2.out.lt hy3.out.size); have h1 := (Nat.le_refl w3.heap.size); omega)).c 1⟩
  go_upto_region 7 with (first
    | ((go_at_call 43); (with_reducible refine (zdivmod_v (Hy.out.ext X6.out) ((O3.out.ext (hy4.out.trans hy5.out)).gbk2 HO6.out HG6.out) (by omega) g0.out).mono ?_); rintro E7 w7 ⟨b7, A7, n7, c7, e7, B7, m7, d7, rfl, o7, _, hr7⟩; have X7 := hid (X6.out.trans hr7); have hy7 := hid hr7; clear hr7; have O7 := hid o7; clear o7; obtain ⟨f12_0, f12_1, f12_2, f12_3, f12_4, f12_5⟩ : w7.cell? ⟨g4c, 0, none⟩ = some (.bool false) ∧ w7.cell? ⟨g4c, 1, none⟩ = some (.slice Qx mx dx) ∧ w7.frozen? ⟨g4c, 0, none⟩ = false ∧ w7.frozen? ⟨g4c, 1, none⟩ = false ∧ w7.cell? ⟨w3.heap.size, 0, none⟩ = some (.bool b3) ∧ w7.cell? ⟨w3.heap.size, 1, none⟩ = some (.slice A3 n3 c3) := ⟨(((HBdc2.out.ext ((hy3.out.trans hy4.out).trans hy5.out)).grown HG6.out (fun e => hnend2 e.symm)).ext hy7.out).c 0, (((HBdc2.out.ext ((hy3.out.trans hy4.out).trans hy5.out)).grown HG6.out (fun e => hnend2 e.symm)).ext hy7.out).c 1, (((HBdc2.out.ext ((hy3.out.trans hy4.out).trans hy5.out)).grown HG6.out (fun e => hnend2 e.symm)).ext hy7.out).fr 0, (((HBdc2.out.ext ((hy3.out.trans hy4.out).trans hy5.out)).grown HG6.out (fun e => hnend2 e.symm)).ext hy7.out).fr 1, (((Bg.out.ext hy5.out).grown HG6.out (by have h0 := (Nat.lt_of_lt_of_le HBnc2.out.lt hy3.out.size); have h1 := (Nat.le_refl w3.heap.size); omega)).ext hy7.out).c 0, (((Bg.out.ext hy5.out).grown HG6.out (by have h0 := (Nat.lt_of_lt_of_le HBnc2.out.lt hy3.out.size); have h1 := (Nat.le_refl w3.heap.size); omega)).ext hy7.out).c 1⟩))
  clear f11_0 f11_1 f11_2 f11_3 f11_4 f11_5 f12_0 f12_1 f12_2 f12_3 f12_4 f12_5
  have HG8 := hid (show w7.grownBy ((w7.setCell ⟨g4c, 0, none⟩ (.bool b7)).setCell ⟨g4c, 1, none⟩ (.slice A7 n7 c7)) (some (g4c)) from gb2 w7 (g4c) (.bool b7) (.slice A7 n7 c7))
  have HO8 := hid (((HBdc2.out.ext ((hy3.out.trans hy4.out).trans hy5.out)).grown HG6.out (fun e => hnend2 e.symm)).ext hy7.out)
  have HP8 := hid (show Bk 35 ((w7.setCell ⟨g4c, 0, none⟩ (.bool b7)).setCell ⟨g4c, 1, none⟩ (.slice A7 n7 c7)) (g4c) #[.bool b7, .slice A7 n7 c7] from (((HBdc2.out.ext ((hy3.out.trans hy4.out).trans hy5.out)).grown HG6.out (fun e => hnend2 e.symm)).ext hy7.out).put2 (.bool b7) (.slice A7 n7 c7))
  generalize ((w7.setCell ⟨g4c, 0, none⟩ (.bool b7)).setCell ⟨g4c, 1, none⟩ (.slice A7 n7 c7)) = w8 at *
  have X8 := hid (X7.out.gb HG8.out (by have h := X1.out.size; have h1 := hged2; omega))
  refine wp_region_held_drew (S := fun w' => Ext w w' ∧ Bk 35 w' (g3c) #[.bool b5, .slice A5 n5 c5] ∧ Bk 35 w' (g4c) #[.bool b7, .slice A7 n7 c7]) (by kernel_rfl) ⟨(X8.out.trans (Ext.refl _).drew), (((HP6.out.ext hy7.out).grown HG8.out hnend2).ext (Ext.refl _).drew), (HP8.out.ext (Ext.refl _).drew)⟩ (fun hS0 => ?_)
  change wpAnyH _ _ _ _ _ 6 #[false, false, false, false, false, false] _ _
  refine drawn_load 0 31 35 (.tmp 3) (g3c) 35 #[.bool b5, .slice A5 n5 c5] (0, 0) _ (by kernel_rfl) rfl (fun w' hS => hS.2.1.h) Try.underlying35 rfl info_z_s (by kernel_rfl) (by kernel_rfl) (by kernel_rfl) (fun _ _ _ _ h => h) hS0 ?_
  simp only [Act.put, List.setIfInBounds_toArray, List.set_cons_zero, List.set_cons_succ]
  refine drawn_load 2 33 35 (.tmp 4) (g4c) 35 #[.bool b7, .slice A7 n7 c7] (0, 0) _ (by kernel_rfl) rfl (fun w' hS => hS.2.2.h) Try.underlying35 rfl info_z_s (by kernel_rfl) (by kernel_rfl) (by kernel_rfl) (fun _ _ _ _ h => h) hS0 ?_
  simp only [Act.put, List.setIfInBounds_toArray, List.set_cons_zero, List.set_cons_succ]
  refine wpAnyH_ready (rs := [1]) (by kernel_rfl) (by simp) ?_
  refine drawn_call1 1 (some 32) (.tmp 31) (ts := #[35]) (by kernel_rfl) (enters_of Try.func44 (by kernel_rfl) rfl) rfl (zint_v ((((O5.out.gbk2 HO6.out HG6.out).ext hy7.out).gbk2 HO8.out HG8.out).ext (Ext.refl _).drew) (by omega)) (fun E v1 hh => ?_) ?_
  · skip
    obtain ⟨b1q, A1q, n1q, c1q, rfl, o1, hx1⟩ := hh
    refine ⟨_, rfl, ⟨((X8.out.trans (Ext.refl _).drew).trans hx1), (((HP6.out.ext hy7.out).grown HG8.out hnend2).ext ((Ext.refl _).drew.trans hx1)), (HP8.out.ext ((Ext.refl _).drew.trans hx1))⟩, ?_⟩
    simp only [Act.put, List.setIfInBounds_toArray, List.set_cons_zero, List.set_cons_succ]
    refine wpAnyH_ready (rs := [3]) (by kernel_rfl) (by simp) ?_
    refine drawn_call1 3 (some 34) (.tmp 33) (ts := #[35]) (by kernel_rfl) (enters_of Try.func44 (by kernel_rfl) rfl) rfl (zint_v ((O7.out.gbk2 HO8.out HG8.out).ext ((Ext.refl _).drew.trans hx1)) (by omega)) (fun E v3 hh => ?_) ?_
    · skip
      obtain ⟨b3q, A3q, n3q, c3q, rfl, o3, hx3⟩ := hh
      refine ⟨_, rfl, ⟨(((X8.out.trans (Ext.refl _).drew).trans hx1).trans hx3), (((HP6.out.ext hy7.out).grown HG8.out hnend2).ext (((Ext.refl _).drew.trans hx1).trans hx3)), (HP8.out.ext (((Ext.refl _).drew.trans hx1).trans hx3))⟩, ?_⟩
      simp only [Act.put, List.setIfInBounds_toArray, List.set_cons_zero, List.set_cons_succ]
      refine drawn_free 4 35 (v := ?v4_16) (.build 27 #[(0, .tmp 32), (1, .tmp 34)]) (by kernel_rfl) ?hy4_16 (by kernel_rfl) (by kernel_rfl) (by kernel_rfl) (fun _ _ _ _ h => h) ⟨(((X8.out.trans (Ext.refl _).drew).trans hx1).trans hx3), (((HP6.out.ext hy7.out).grown HG8.out hnend2).ext (((Ext.refl _).drew.trans hx1).trans hx3)), (HP8.out.ext (((Ext.refl _).drew.trans hx1).trans hx3))⟩ ?hr4_16
      case hy4_16 => (intro o ho w' hS; unfold execOp; simp only [ho]; go_simp; try with_reducible rfl)
      simp only [Act.put, List.setIfInBounds_toArray, List.set_cons_zero, List.set_cons_succ]
      refine wpAnyH_ready (rs := [5]) (by kernel_rfl) (by simp) ?_
      have hq5 := (((((HBoc2.out.ext ((hy3.out.trans hy4.out).trans hy5.out)).grown HG6.out (by have h0 := Bo.out.lt; have h1 := hgen2; omega)).ext hy7.out).grown HG8.out (by have h0 := Bo.out.lt; have h1 := hged2; omega)).ext (((Ext.refl _).drew.trans hx1).trans hx3))
      refine drawn_store 5 27 (.tmp 2) (.tmp 35) (w.heap.size + 1) #[.bool b1q, .slice A1q n1q c1q, .bool b3q, .slice A3q n3q c3q] #[.bool false, .slice none 0 0, .bool false, .slice none 0 0] 27 (by kernel_rfl) rfl rfl hq5.h info_rat rfl one_four (fun v5 hb5 hg5 => ⟨⟨((((X8.out.trans (Ext.refl _).drew).trans hx1).trans hx3).gb hg5 (by omega)), ((((HP6.out.ext hy7.out).grown HG8.out hnend2).ext (((Ext.refl _).drew.trans hx1).trans hx3)).grown hg5 (by have h0 := Bo.out.lt; have h1 := hgen2; omega)), ((HP8.out.ext (((Ext.refl _).drew.trans hx1).trans hx3)).grown hg5 (by have h0 := Bo.out.lt; have h1 := hged2; omega))⟩, ?_⟩) ?_
      · skip
        simp only [Act.put, List.setIfInBounds_toArray, List.set_cons_zero, List.set_cons_succ]
        refine wpAnyH_done (by kernel_rfl) ?_ _
        go_wp2_with fail
        refine ret_r rfl (show Bk 27 v5 (w.heap.size + 1) #[.bool b1q, .slice A1q n1q c1q, .bool b3q, .slice A3q n3q c3q] from hb5) rfl rfl ⟨_, _, _, _, _, _, _, _, rfl, ⟨((((o1.mono (X8.out.trans (Ext.refl _).drew).size).ext hx3).gbk hq5 (by decide) hg5).cast eN.out), (((o3.mono ((X8.out.trans (Ext.refl _).drew).trans hx1).size).gbk hq5 (by decide) hg5).cast eD.out)⟩, ((((X8.out.trans (Ext.refl _).drew).trans hx1).trans hx3).gb hg5 (by omega))⟩
      exact drawn_nil
    exact drawn_nil
  exact drawn_nil

theorem drat_v {w : World} {sx tx : Bool} {Px Qx : Option Addr} {lx kx mx dx : Nat} {K : Nat} {x : Rat} (hx : Qd K w sx Px lx kx tx Qx mx dx x) (hK : K ≤ 1000000) :
    Calls Try.prog 15 #[.agg #[.bool sx, .slice Px lx kx, .bool tx, .slice Qx mx dx]] w (RetR K x w) := by
  obtain ⟨N, D, h1, h2, h0, rfl⟩ := hx
  have ht := h2.1
  by_cases hD : D < 0
  · rw [decide_eq_true hD] at ht
    subst ht
    exact drat_neg (tx := true) h1 h2 hD hK
  · rw [decide_eq_false hD] at ht
    subst ht
    exact drat_pos (tx := true) h1 h2 (by omega) hK
set_option maxHeartbeats 6400000 in
set_option maxRecDepth 100000 in
theorem dsmall_p {w : World} {a b : Int} (ha0 : -9223372036854775808 ≤ a) (ha1 : a ≤ 9223372036854775807) (hb0 : -9223372036854775808 ≤ b) (hb1 : b ≤ 9223372036854775807) :
    Calls Try.prog 16 #[.int .i64 a, .int .i64 b] w (RetP 22 a b w) := by
  go_enter Try.func16, Try.ntmps16
  go_upto_region 1 with fail
  have hy1 := hid ((Ext.refl w).alloc (.cells #[.bool false, .slice none 0 0, .bool false, .slice none 0 0] 37))
  have Bo_ := (Bk.new w 37 #[.bool false, .slice none 0 0, .bool false, .slice none 0 0])
  have Bo := hid Bo_
  clear Bo_
  generalize (w.alloc (.cells #[.bool false, .slice none 0 0, .bool false, .slice none 0 0] 37)) = w1 at *
  have X1 := hid ((Ext.refl _).trans hy1.out)
  obtain ⟨f2_0, f2_1, f2_2, f2_3, f2_4, f2_5, f2_6, f2_7⟩ : w1.cell? ⟨w.heap.size, 0, none⟩ = some (.bool false) ∧ w1.cell? ⟨w.heap.size, 1, none⟩ = some (.slice none 0 0) ∧ w1.cell? ⟨w.heap.size, 2, none⟩ = some (.bool false) ∧ w1.cell? ⟨w.heap.size, 3, none⟩ = some (.slice none 0 0) ∧ w1.frozen? ⟨w.heap.size, 0, none⟩ = false ∧ w1.frozen? ⟨w.heap.size, 1, none⟩ = false ∧ w1.frozen? ⟨w.heap.size, 2, none⟩ = false ∧ w1.frozen? ⟨w.heap.size, 3, none⟩ = false := ⟨Bo.out.c 0, Bo.out.c 1, Bo.out.c 2, Bo.out.c 3, Bo.out.fr 0, Bo.out.fr 1, Bo.out.fr 2, Bo.out.fr 3⟩
  go_wp2_with (first
    | ((go_at_call 37); (with_reducible refine (zsmall_v (n := a) ha0 ha1).mono ?_); rintro E2 w2 ⟨b2, A2, n2, c2, rfl, o2, hr2⟩; have X2 := hid (X1.out.trans hr2); have hy2 := hid hr2; clear hr2; have O2 := hid o2; clear o2; obtain ⟨f3_0, f3_1, f3_2, f3_3, f3_4, f3_5, f3_6, f3_7⟩ : w2.cell? ⟨w.heap.size, 0, none⟩ = some (.bool false) ∧ w2.cell? ⟨w.heap.size, 1, none⟩ = some (.slice none 0 0) ∧ w2.cell? ⟨w.heap.size, 2, none⟩ = some (.bool false) ∧ w2.cell? ⟨w.heap.size, 3, none⟩ = some (.slice none 0 0) ∧ w2.frozen? ⟨w.heap.size, 0, none⟩ = false ∧ w2.frozen? ⟨w.heap.size, 1, none⟩ = false ∧ w2.frozen? ⟨w.heap.size, 2, none⟩ = false ∧ w2.frozen? ⟨w.heap.size, 3, none⟩ = false := ⟨(Bo.out.ext hy2.out).c 0, (Bo.out.ext hy2.out).c 1, (Bo.out.ext hy2.out).c 2, (Bo.out.ext hy2.out).c 3, (Bo.out.ext hy2.out).fr 0, (Bo.out.ext hy2.out).fr 1, (Bo.out.ext hy2.out).fr 2, (Bo.out.ext hy2.out).fr 3⟩)
    | ((go_at_call 37); (with_reducible refine (zsmall_v (n := b) hb0 hb1).mono ?_); rintro E3 w3 ⟨b3, A3, n3, c3, rfl, o3, hr3⟩; have X3 := hid (X2.out.trans hr3); have hy3 := hid hr3; clear hr3; have O3 := hid o3; clear o3; obtain ⟨f4_0, f4_1, f4_2, f4_3, f4_4, f4_5, f4_6, f4_7⟩ : w3.cell? ⟨w.heap.size, 0, none⟩ = some (.bool false) ∧ w3.cell? ⟨w.heap.size, 1, none⟩ = some (.slice none 0 0) ∧ w3.cell? ⟨w.heap.size, 2, none⟩ = some (.bool false) ∧ w3.cell? ⟨w.heap.size, 3, none⟩ = some (.slice none 0 0) ∧ w3.frozen? ⟨w.heap.size, 0, none⟩ = false ∧ w3.frozen? ⟨w.heap.size, 1, none⟩ = false ∧ w3.frozen? ⟨w.heap.size, 2, none⟩ = false ∧ w3.frozen? ⟨w.heap.size, 3, none⟩ = false := ⟨(Bo.out.ext (hy2.out.trans hy3.out)).c 0, (Bo.out.ext (hy2.out.trans hy3.out)).c 1, (Bo.out.ext (hy2.out.trans hy3.out)).c 2, (Bo.out.ext (hy2.out.trans hy3.out)).c 3, (Bo.out.ext (hy2.out.trans hy3.out)).fr 0, (Bo.out.ext (hy2.out.trans hy3.out)).fr 1, (Bo.out.ext (hy2.out.trans hy3.out)).fr 2, (Bo.out.ext (hy2.out.trans hy3.out)).fr 3⟩))
  clear f2_0 f2_1 f2_2 f2_3 f2_4 f2_5 f2_6 f2_7 f3_0 f3_1 f3_2 f3_3 f3_4 f3_5 f3_6 f3_7 f4_0 f4_1 f4_2 f4_3 f4_4 f4_5 f4_6 f4_7
  have HG4 := hid (show w3.grownBy ((((w3.setCell ⟨w.heap.size, 0, none⟩ (.bool b2)).setCell ⟨w.heap.size, 1, none⟩ (.slice A2 n2 c2)).setCell ⟨w.heap.size, 2, none⟩ (.bool b3)).setCell ⟨w.heap.size, 3, none⟩ (.slice A3 n3 c3)) (some (w.heap.size)) from gb4 w3 (w.heap.size) (.bool b2) (.slice A2 n2 c2) (.bool b3) (.slice A3 n3 c3))
  have HO4 := hid (Bo.out.ext (hy2.out.trans hy3.out))
  have HP4 := hid (show Bk 37 ((((w3.setCell ⟨w.heap.size, 0, none⟩ (.bool b2)).setCell ⟨w.heap.size, 1, none⟩ (.slice A2 n2 c2)).setCell ⟨w.heap.size, 2, none⟩ (.bool b3)).setCell ⟨w.heap.size, 3, none⟩ (.slice A3 n3 c3)) (w.heap.size) #[.bool b2, .slice A2 n2 c2, .bool b3, .slice A3 n3 c3] from (Bo.out.ext (hy2.out.trans hy3.out)).put4 (.bool b2) (.slice A2 n2 c2) (.bool b3) (.slice A3 n3 c3))
  generalize ((((w3.setCell ⟨w.heap.size, 0, none⟩ (.bool b2)).setCell ⟨w.heap.size, 1, none⟩ (.slice A2 n2 c2)).setCell ⟨w.heap.size, 2, none⟩ (.bool b3)).setCell ⟨w.heap.size, 3, none⟩ (.slice A3 n3 c3)) = w4 at *
  have X4 := hid (X3.out.gb HG4.out (by omega))
  refine ret_q rfl HP4.out rfl rfl ⟨_, _, _, _, _, _, _, _, rfl, Qz.mk ((O2.out.ext hy3.out).gbk4 HO4.out HG4.out) (O3.out.gbk4 HO4.out HG4.out), X4.out⟩

theorem dsmall_v {w : World} {a b : Int} (ha0 : -9223372036854775808 ≤ a) (ha1 : a ≤ 9223372036854775807) (hb0 : -9223372036854775808 ≤ b) (hb1 : b ≤ 9223372036854775807) (hb : b ≠ 0) :
    Calls Try.prog 16 #[.int .i64 a, .int .i64 b] w (RetQ 22 ((a : Rat) / (b : Rat)) w) := (dsmall_p ha0 ha1 hb0 hb1).mono fun _ _ h => h.toQ hb rfl
set_option maxHeartbeats 6400000 in
set_option maxRecDepth 100000 in
theorem dshort_v {w : World} {sx tx : Bool} {Px Qx : Option Addr} {lx kx mx dx : Nat} {K : Nat} {x : Rat} (hx : Qd K w sx Px lx kx tx Qx mx dx x) (hK : K ≤ 10000) :
    Calls Try.prog 40 #[.agg #[.bool sx, .slice Px lx kx, .bool tx, .slice Qx mx dx]] w (RetQ (10 * K + 22) x w) := by
  have Hx := hid hx
  clear hx
  go_enter Try.func40, Try.ntmps40
  go_upto_region 1 with fail
  have hy1 := hid (((Ext.refl w).alloc (.cells #[.bool sx, .slice Px lx kx, .bool tx, .slice Qx mx dx] 37)).alloc (.cells #[.bool false, .slice none 0 0, .bool false, .slice none 0 0] 37))
  have Bx_ := ((Bk.new w 37 #[.bool sx, .slice Px lx kx, .bool tx, .slice Qx mx dx]).ext ((Ext.refl (w.alloc (.cells #[.bool sx, .slice Px lx kx, .bool tx, .slice Qx mx dx] 37))).alloc (.cells #[.bool false, .slice none 0 0, .bool false, .slice none 0 0] 37)))
  have Bx := hid Bx_
  clear Bx_
  have Bo_ := (Bk.new (w.alloc (.cells #[.bool sx, .slice Px lx kx, .bool tx, .slice Qx mx dx] 37)) 37 #[.bool false, .slice none 0 0, .bool false, .slice none 0 0])
  rw [size_alloc] at Bo_
  have Bo := hid Bo_
  clear Bo_
  generalize ((w.alloc (.cells #[.bool sx, .slice Px lx kx, .bool tx, .slice Qx mx dx] 37)).alloc (.cells #[.bool false, .slice none 0 0, .bool false, .slice none 0 0] 37)) = w1 at *
  have X1 := hid ((Ext.refl _).trans hy1.out)
  obtain ⟨f3_0, f3_1, f3_2, f3_3, f3_4, f3_5, f3_6, f3_7, f3_8, f3_9, f3_10, f3_11⟩ : w1.cell? ⟨w.heap.size, 0, none⟩ = some (.bool sx) ∧ w1.cell? ⟨w.heap.size, 1, none⟩ = some (.slice Px lx kx) ∧ w1.cell? ⟨w.heap.size, 2, none⟩ = some (.bool tx) ∧ w1.cell? ⟨w.heap.size, 3, none⟩ = some (.slice Qx mx dx) ∧ w1.cell? ⟨w.heap.size + 1, 0, none⟩ = some (.bool false) ∧ w1.cell? ⟨w.heap.size + 1, 1, none⟩ = some (.slice none 0 0) ∧ w1.cell? ⟨w.heap.size + 1, 2, none⟩ = some (.bool false) ∧ w1.cell? ⟨w.heap.size + 1, 3, none⟩ = some (.slice none 0 0) ∧ w1.frozen? ⟨w.heap.size + 1, 0, none⟩ = false ∧ w1.frozen? ⟨w.heap.size + 1, 1, none⟩ = false ∧ w1.frozen? ⟨w.heap.size + 1, 2, none⟩ = false ∧ w1.frozen? ⟨w.heap.size + 1, 3, none⟩ = false := ⟨Bx.out.c 0, Bx.out.c 1, Bx.out.c 2, Bx.out.c 3, Bo.out.c 0, Bo.out.c 1, Bo.out.c 2, Bo.out.c 3, Bo.out.fr 0, Bo.out.fr 1, Bo.out.fr 2, Bo.out.fr 3⟩
  go_wp2_with (first
    | ((go_at_call 15); (with_reducible refine (drat_v (Hx.out.ext X1.out) (by omega)).mono ?_); rintro E2 w2 ⟨b2, A2, n2, c2, e2, B2, m2, d2, rfl, o2, hr2⟩; have X2 := hid (X1.out.trans hr2); have hy2 := hid hr2; clear hr2; have O2 := hid (o2.mono X1.out.size); clear o2; obtain ⟨f4_0, f4_1, f4_2, f4_3, f4_4, f4_5, f4_6, f4_7, f4_8, f4_9, f4_10, f4_11⟩ : w2.cell? ⟨w.heap.size, 0, none⟩ = some (.bool sx) ∧ w2.cell? ⟨w.heap.size, 1, none⟩ = some (.slice Px lx kx) ∧ w2.cell? ⟨w.heap.size, 2, none⟩ = some (.bool tx) ∧ w2.cell? ⟨w.heap.size, 3, none⟩ = some (.slice Qx mx dx) ∧ w2.cell? ⟨w.heap.size + 1, 0, none⟩ = some (.bool false) ∧ w2.cell? ⟨w.heap.size + 1, 1, none⟩ = some (.slice none 0 0) ∧ w2.cell? ⟨w.heap.size + 1, 2, none⟩ = some (.bool false) ∧ w2.cell? ⟨w.heap.size + 1, 3, none⟩ = some (.slice none 0 0) ∧ w2.frozen? ⟨w.heap.size + 1, 0, none⟩ = false ∧ w2.frozen? ⟨w.heap.size + 1, 1, none⟩ = false ∧ w2.frozen? ⟨w.heap.size + 1, 2, none⟩ = false ∧ w2.frozen? ⟨w.heap.size + 1, 3, none⟩ = false := ⟨(Bx.out.ext hy2.out).c 0, (Bx.out.ext hy2.out).c 1, (Bx.out.ext hy2.out).c 2, (Bx.out.ext hy2.out).c 3, (Bo.out.ext hy2.out).c 0, (Bo.out.ext hy2.out).c 1, (Bo.out.ext hy2.out).c 2, (Bo.out.ext hy2.out).c 3, (Bo.out.ext hy2.out).fr 0, (Bo.out.ext hy2.out).fr 1, (Bo.out.ext hy2.out).fr 2, (Bo.out.ext hy2.out).fr 3⟩)
    | ((go_at_call 11); (with_reducible refine (dof_v O2.out.rv (by omega)).mono ?_); rintro E3 w3 ⟨b3, A3, n3, c3, e3, B3, m3, d3, rfl, o3, hr3⟩; have X3 := hid (X2.out.trans hr3); have hy3 := hid hr3; clear hr3; have O3 := hid o3; clear o3; obtain ⟨f5_0, f5_1, f5_2, f5_3, f5_4, f5_5, f5_6, f5_7, f5_8, f5_9, f5_10, f5_11⟩ : w3.cell? ⟨w.heap.size, 0, none⟩ = some (.bool sx) ∧ w3.cell? ⟨w.heap.size, 1, none⟩ = some (.slice Px lx kx) ∧ w3.cell? ⟨w.heap.size, 2, none⟩ = some (.bool tx) ∧ w3.cell? ⟨w.heap.size, 3, none⟩ = some (.slice Qx mx dx) ∧ w3.cell? ⟨w.heap.size + 1, 0, none⟩ = some (.bool false) ∧ w3.cell? ⟨w.heap.size + 1, 1, none⟩ = some (.slice none 0 0) ∧ w3.cell? ⟨w.heap.size + 1, 2, none⟩ = some (.bool false) ∧ w3.cell? ⟨w.heap.size + 1, 3, none⟩ = some (.slice none 0 0) ∧ w3.frozen? ⟨w.heap.size + 1, 0, none⟩ = false ∧ w3.frozen? ⟨w.heap.size + 1, 1, none⟩ = false ∧ w3.frozen? ⟨w.heap.size + 1, 2, none⟩ = false ∧ w3.frozen? ⟨w.heap.size + 1, 3, none⟩ = false := ⟨(Bx.out.ext (hy2.out.trans hy3.out)).c 0, (Bx.out.ext (hy2.out.trans hy3.out)).c 1, (Bx.out.ext (hy2.out.trans hy3.out)).c 2, (Bx.out.ext (hy2.out.trans hy3.out)).c 3, (Bo.out.ext (hy2.out.trans hy3.out)).c 0, (Bo.out.ext (hy2.out.trans hy3.out)).c 1, (Bo.out.ext (hy2.out.trans hy3.out)).c 2, (Bo.out.ext (hy2.out.trans hy3.out)).c 3, (Bo.out.ext (hy2.out.trans hy3.out)).fr 0, (Bo.out.ext (hy2.out.trans hy3.out)).fr 1, (Bo.out.ext (hy2.out.trans hy3.out)).fr 2, (Bo.out.ext (hy2.out.trans hy3.out)).fr 3⟩))
  clear f3_0 f3_1 f3_2 f3_3 f3_4 f3_5 f3_6 f3_7 f3_8 f3_9 f3_10 f3_11 f4_0 f4_1 f4_2 f4_3 f4_4 f4_5 f4_6 f4_7 f4_8 f4_9 f4_10 f4_11 f5_0 f5_1 f5_2 f5_3 f5_4 f5_5 f5_6 f5_7 f5_8 f5_9 f5_10 f5_11
  have HG4 := hid (show w3.grownBy ((((w3.setCell ⟨w.heap.size + 1, 0, none⟩ (.bool b3)).setCell ⟨w.heap.size + 1, 1, none⟩ (.slice A3 n3 c3)).setCell ⟨w.heap.size + 1, 2, none⟩ (.bool e3)).setCell ⟨w.heap.size + 1, 3, none⟩ (.slice B3 m3 d3)) (some (w.heap.size + 1)) from gb4 w3 (w.heap.size + 1) (.bool b3) (.slice A3 n3 c3) (.bool e3) (.slice B3 m3 d3))
  have HO4 := hid (Bo.out.ext (hy2.out.trans hy3.out))
  have HP4 := hid (show Bk 37 ((((w3.setCell ⟨w.heap.size + 1, 0, none⟩ (.bool b3)).setCell ⟨w.heap.size + 1, 1, none⟩ (.slice A3 n3 c3)).setCell ⟨w.heap.size + 1, 2, none⟩ (.bool e3)).setCell ⟨w.heap.size + 1, 3, none⟩ (.slice B3 m3 d3)) (w.heap.size + 1) #[.bool b3, .slice A3 n3 c3, .bool e3, .slice B3 m3 d3] from (Bo.out.ext (hy2.out.trans hy3.out)).put4 (.bool b3) (.slice A3 n3 c3) (.bool e3) (.slice B3 m3 d3))
  generalize ((((w3.setCell ⟨w.heap.size + 1, 0, none⟩ (.bool b3)).setCell ⟨w.heap.size + 1, 1, none⟩ (.slice A3 n3 c3)).setCell ⟨w.heap.size + 1, 2, none⟩ (.bool e3)).setCell ⟨w.heap.size + 1, 3, none⟩ (.slice B3 m3 d3)) = w4 at *
  have X4 := hid (X3.out.gb HG4.out (by omega))
  refine ret_q rfl HP4.out rfl rfl ⟨_, _, _, _, _, _, _, _, rfl, (O3.out.gbk4 HO4.out HG4.out), X4.out⟩

set_option maxHeartbeats 6400000 in
set_option maxRecDepth 100000 in
theorem dsign_v {w : World} {sx tx : Bool} {Px Qx : Option Addr} {lx kx mx dx : Nat} {K : Nat} {x : Rat} (hx : Qd K w sx Px lx kx tx Qx mx dx x) :
    Calls Try.prog 12 #[.agg #[.bool sx, .slice Px lx kx, .bool tx, .slice Qx mx dx]] w (RetE (.int .i64 (rs x)) w) := by
  obtain ⟨N, D, h1, h2, h0, hr⟩ := hx
  have HR := hid (show IntKind.i64.wrap (sg N * sg D) = rs x by rw [drop_mul, hr, rs_eq h0])
  have H1 := hid h1
  have H2 := hid h2
  clear h1 h2 h0 hr
  go_enter Try.func12, Try.ntmps12
  go_upto_region 1 with fail
  have hy1 := hid ((Ext.refl w).alloc (.cells #[.bool sx, .slice Px lx kx, .bool tx, .slice Qx mx dx] 37))
  have Bx_ := (Bk.new w 37 #[.bool sx, .slice Px lx kx, .bool tx, .slice Qx mx dx])
  have Bx := hid Bx_
  clear Bx_
  generalize (w.alloc (.cells #[.bool sx, .slice Px lx kx, .bool tx, .slice Qx mx dx] 37)) = w1 at *
  have X1 := hid ((Ext.refl _).trans hy1.out)
  refine wp_region_held_drew (S := fun w' => Ext w w' ∧ Bk 37 w' (w.heap.size) #[.bool sx, .slice Px lx kx, .bool tx, .slice Qx mx dx]) (by kernel_rfl) ⟨(X1.out.trans (Ext.refl _).drew), (Bx.out.ext (Ext.refl _).drew)⟩ (fun hS0 => ?_)
  change wpAnyH _ _ _ _ _ 8 #[false, false, false, false, false, false, false, false] _ _
  refine drawn_free 0 3 (v := ?v0_17) (.fieldAddr 37 (.tmp 1) 0) (by kernel_rfl) ?hy0_17 (by kernel_rfl) (by kernel_rfl) (by kernel_rfl) (fun _ _ _ _ h => h) hS0 ?hr0_17
  case hy0_17 => (intro o ho w' hS; unfold execOp; simp only [ho]; go_simp; try with_reducible rfl)
  simp only [Act.put, List.setIfInBounds_toArray, List.set_cons_zero, List.set_cons_succ]
  refine drawn_free 1 4 (v := ?v1_18) (.load 35 (.tmp 3)) (by kernel_rfl) ?hy1_18 (by kernel_rfl) (by kernel_rfl) (by kernel_rfl) (fun _ _ _ _ h => h) hS0 ?hr1_18
  case hy1_18 => (intro o ho w' hS; have c0 : w'.cell? ⟨w.heap.size, 0, none⟩ = some (.bool sx) := hS.2.c 0; have c1 : w'.cell? ⟨w.heap.size, 1, none⟩ = some (.slice Px lx kx) := hS.2.c 1; unfold execOp; simp only [ho]; go_simp; try with_reducible rfl)
  simp only [Act.put, List.setIfInBounds_toArray, List.set_cons_zero, List.set_cons_succ]
  refine drawn_free 3 6 (v := ?v3_19) (.fieldAddr 37 (.tmp 1) 1) (by kernel_rfl) ?hy3_19 (by kernel_rfl) (by kernel_rfl) (by kernel_rfl) (fun _ _ _ _ h => h) hS0 ?hr3_19
  case hy3_19 => (intro o ho w' hS; unfold execOp; simp only [ho]; go_simp; try with_reducible rfl)
  simp only [Act.put, List.setIfInBounds_toArray, List.set_cons_zero, List.set_cons_succ]
  refine drawn_free 4 7 (v := ?v4_20) (.load 35 (.tmp 6)) (by kernel_rfl) ?hy4_20 (by kernel_rfl) (by kernel_rfl) (by kernel_rfl) (fun _ _ _ _ h => h) hS0 ?hr4_20
  case hy4_20 => (intro o ho w' hS; have c2 : w'.cell? ⟨w.heap.size, 2, none⟩ = some (.bool tx) := hS.2.c 2; have c3 : w'.cell? ⟨w.heap.size, 3, none⟩ = some (.slice Qx mx dx) := hS.2.c 3; unfold execOp; simp only [ho]; go_simp; try with_reducible rfl)
  simp only [Act.put, List.setIfInBounds_toArray, List.set_cons_zero, List.set_cons_succ]
  refine wpAnyH_ready (rs := [2]) (by kernel_rfl) (by simp) ?_
  refine drawn_call1 2 (some 5) (.tmp 4) (ts := #[35]) (by kernel_rfl) (enters_of Try.func36 (by kernel_rfl) rfl) rfl (zsign_v (H1.out.ext (X1.out.trans (Ext.refl _).drew))) (fun E v2 hh => ?_) ?_
  · skip
    obtain ⟨rfl, hx2⟩ := hh
    refine ⟨_, rfl, ⟨((X1.out.trans (Ext.refl _).drew).trans hx2), (Bx.out.ext ((Ext.refl _).drew.trans hx2))⟩, ?_⟩
    simp only [Act.put, List.setIfInBounds_toArray, List.set_cons_zero, List.set_cons_succ]
    refine wpAnyH_ready (rs := [5]) (by kernel_rfl) (by simp) ?_
    refine drawn_call1 5 (some 8) (.tmp 7) (ts := #[35]) (by kernel_rfl) (enters_of Try.func36 (by kernel_rfl) rfl) rfl (zsign_v (H2.out.ext ((X1.out.trans (Ext.refl _).drew).trans hx2))) (fun E v5 hh => ?_) ?_
    · skip
      obtain ⟨rfl, hx5⟩ := hh
      refine ⟨_, rfl, ⟨(((X1.out.trans (Ext.refl _).drew).trans hx2).trans hx5), (Bx.out.ext (((Ext.refl _).drew.trans hx2).trans hx5))⟩, ?_⟩
      simp only [Act.put, List.setIfInBounds_toArray, List.set_cons_zero, List.set_cons_succ]
      refine drawn_free 6 9 (v := ?v6_21) (.binOp .mul 3 (.tmp 5) (.tmp 8) 3) (by kernel_rfl) ?hy6_21 (by kernel_rfl) (by kernel_rfl) (by kernel_rfl) (fun _ _ _ _ h => h) ⟨(((X1.out.trans (Ext.refl _).drew).trans hx2).trans hx5), (Bx.out.ext (((Ext.refl _).drew.trans hx2).trans hx5))⟩ ?hr6_21
      case hy6_21 => (intro o ho w' hS; unfold execOp; simp only [ho]; go_simp; try with_reducible rfl)
      simp only [Act.put, List.setIfInBounds_toArray, List.set_cons_zero, List.set_cons_succ]
      refine drawn_free 7 2 (v := ?v7_22) (.assign (.tmp 9)) (by kernel_rfl) ?hy7_22 (by kernel_rfl) (by kernel_rfl) (by kernel_rfl) (fun _ _ _ _ h => h) ⟨(((X1.out.trans (Ext.refl _).drew).trans hx2).trans hx5), (Bx.out.ext (((Ext.refl _).drew.trans hx2).trans hx5))⟩ ?hr7_22
      case hy7_22 => (intro o ho w' hS; unfold execOp; simp only [ho]; go_simp; try with_reducible rfl)
      simp only [Act.put, List.setIfInBounds_toArray, List.set_cons_zero, List.set_cons_succ]
      refine wpAnyH_done (by kernel_rfl) ?_ _
      go_wp2_with fail
      go_ret
      exact ⟨by rw [← HR.out]; rfl, (((X1.out.trans (Ext.refl _).drew).trans hx2).trans hx5)⟩
    exact drawn_nil
  exact drawn_nil

theorem dsign_is {w : World} {sx tx : Bool} {Px Qx : Option Addr} {lx kx mx dx : Nat} {K : Nat} {x : Rat} {v : Int} (hx : Qd K w sx Px lx kx tx Qx mx dx x) (hv : rs x = v) :
    Calls Try.prog 12 #[.agg #[.bool sx, .slice Px lx kx, .bool tx, .slice Qx mx dx]] w (RetE (.int .i64 v) w) := hv ▸ dsign_v hx
set_option maxHeartbeats 6400000 in
set_option maxRecDepth 100000 in
theorem ddiv_v {w : World} {sx tx sy ty : Bool} {Px Qx Py Qy : Option Addr} {lx kx mx dx ly ky my dy : Nat} {K K' : Nat} {x y : Rat} (hx : Qd K w sx Px lx kx tx Qx mx dx x) (hy : Qd K' w sy Py ly ky ty Qy my dy y) (hy0 : y ≠ 0) (hK : K + K' ≤ 5000) :
    Calls Try.prog 14 #[.agg #[.bool sx, .slice Px lx kx, .bool tx, .slice Qx mx dx], .agg #[.bool sy, .slice Py ly ky, .bool ty, .slice Qy my dy]] w (RetQ (10 * (K + K') + 22) (x / y) w) := by
  obtain ⟨N, D, h1, h2, h3, hr⟩ := hx
  obtain ⟨M, E, h4, h5, h6, hs⟩ := hy
  have hM : M ≠ 0 := fun e => hy0 (by rw [hs, e]; show ((0 : Int) : Rat) / _ = 0; grind)
  have HD := hid (Int.mul_ne_zero h3 hM)
  have HR := hid (show x / y = ((N * E : Int) : Rat) / ((D * M : Int) : Rat) by
    have := cast_ne h3
    have := cast_ne h6
    have := cast_ne hM
    rw [hr, hs, Rat.intCast_mul, Rat.intCast_mul]
    grind)
  have H1 := hid h1
  have H2 := hid h2
  have H4 := hid h4
  have H5 := hid h5
  clear h1 h2 h3 hr h4 h5 h6 hs hM hy0
  go_enter Try.func14, Try.ntmps14
  go_upto_region 1 with fail
  have hy1 := hid ((((Ext.refl w).alloc (.cells #[.bool sx, .slice Px lx kx, .bool tx, .slice Qx mx dx] 37)).alloc (.cells #[.bool sy, .slice Py ly ky, .bool ty, .slice Qy my dy] 37)).alloc (.cells #[.bool false, .slice none 0 0, .bool false, .slice none 0 0] 37))
  have Bx_ := ((Bk.new w 37 #[.bool sx, .slice Px lx kx, .bool tx, .slice Qx mx dx]).ext (((Ext.refl (w.alloc (.cells #[.bool sx, .slice Px lx kx, .bool tx, .slice Qx mx dx] 37))).alloc (.cells #[.bool sy, .slice Py ly ky, .bool ty, .slice Qy my dy] 37)).alloc (.cells #[.bool false, .slice none 0 0, .bool false, .slice none 0 0] 37)))
  have Bx := hid Bx_
  clear Bx_
  have By_ := ((Bk.new (w.alloc (.cells #[.bool sx, .slice Px lx kx, .bool tx, .slice Qx mx dx] 37)) 37 #[.bool sy, .slice Py ly ky, .bool ty, .slice Qy my dy]).ext ((Ext.refl ((w.alloc (.cells #[.bool sx, .slice Px lx kx, .bool tx, .slice Qx mx dx] 37)).alloc (.cells #[.bool sy, .slice Py ly ky, .bool ty, .slice Qy my dy] 37))).alloc (.cells #[.bool false, .slice none 0 0, .bool false, .slice none 0 0] 37)))
  rw [size_alloc] at By_
  have By := hid By_
  clear By_
  have Bo_ := (Bk.new ((w.alloc (.cells #[.bool sx, .slice Px lx kx, .bool tx, .slice Qx mx dx] 37)).alloc (.cells #[.bool sy, .slice Py ly ky, .bool ty, .slice Qy my dy] 37)) 37 #[.bool false, .slice none 0 0, .bool false, .slice none 0 0])
  rw [size_alloc, size_alloc] at Bo_
  have Bo := hid Bo_
  clear Bo_
  generalize (((w.alloc (.cells #[.bool sx, .slice Px lx kx, .bool tx, .slice Qx mx dx] 37)).alloc (.cells #[.bool sy, .slice Py ly ky, .bool ty, .slice Qy my dy] 37)).alloc (.cells #[.bool false, .slice none 0 0, .bool false, .slice none 0 0] 37)) = w1 at *
  have X1 := hid ((Ext.refl _).trans hy1.out)
  refine wp_region_held_drew (S := fun w' => Ext w w' ∧ Bk 37 w' (w.heap.size) #[.bool sx, .slice Px lx kx, .bool tx, .slice Qx mx dx] ∧ Bk 37 w' (w.heap.size + 1) #[.bool sy, .slice Py ly ky, .bool ty, .slice Qy my dy]) (by kernel_rfl) ⟨(X1.out.trans (Ext.refl _).drew), (Bx.out.ext (Ext.refl _).drew), (By.out.ext (Ext.refl _).drew)⟩ (fun hS0 => ?_)
  change wpAnyH _ _ _ _ _ 13 #[false, false, false, false, false, false, false, false, false, false, false, false, false] _ _
  refine drawn_free 0 5 (v := ?v0_23) (.fieldAddr 37 (.tmp 2) 0) (by kernel_rfl) ?hy0_23 (by kernel_rfl) (by kernel_rfl) (by kernel_rfl) (fun _ _ _ _ h => h) hS0 ?hr0_23
  case hy0_23 => (intro o ho w' hS; unfold execOp; simp only [ho]; go_simp; try with_reducible rfl)
  simp only [Act.put, List.setIfInBounds_toArray, List.set_cons_zero, List.set_cons_succ]
  refine drawn_free 1 6 (v := ?v1_24) (.load 35 (.tmp 5)) (by kernel_rfl) ?hy1_24 (by kernel_rfl) (by kernel_rfl) (by kernel_rfl) (fun _ _ _ _ h => h) hS0 ?hr1_24
  case hy1_24 => (intro o ho w' hS; have c0 : w'.cell? ⟨w.heap.size, 0, none⟩ = some (.bool sx) := hS.2.1.c 0; have c1 : w'.cell? ⟨w.heap.size, 1, none⟩ = some (.slice Px lx kx) := hS.2.1.c 1; unfold execOp; simp only [ho]; go_simp; try with_reducible rfl)
  simp only [Act.put, List.setIfInBounds_toArray, List.set_cons_zero, List.set_cons_succ]
  refine drawn_free 2 7 (v := ?v2_25) (.fieldAddr 37 (.tmp 3) 1) (by kernel_rfl) ?hy2_25 (by kernel_rfl) (by kernel_rfl) (by kernel_rfl) (fun _ _ _ _ h => h) hS0 ?hr2_25
  case hy2_25 => (intro o ho w' hS; unfold execOp; simp only [ho]; go_simp; try with_reducible rfl)
  simp only [Act.put, List.setIfInBounds_toArray, List.set_cons_zero, List.set_cons_succ]
  refine drawn_free 3 8 (v := ?v3_26) (.load 35 (.tmp 7)) (by kernel_rfl) ?hy3_26 (by kernel_rfl) (by kernel_rfl) (by kernel_rfl) (fun _ _ _ _ h => h) hS0 ?hr3_26
  case hy3_26 => (intro o ho w' hS; have c2 : w'.cell? ⟨w.heap.size + 1, 2, none⟩ = some (.bool ty) := hS.2.2.c 2; have c3 : w'.cell? ⟨w.heap.size + 1, 3, none⟩ = some (.slice Qy my dy) := hS.2.2.c 3; unfold execOp; simp only [ho]; go_simp; try with_reducible rfl)
  simp only [Act.put, List.setIfInBounds_toArray, List.set_cons_zero, List.set_cons_succ]
  refine drawn_free 5 10 (v := ?v5_27) (.fieldAddr 37 (.tmp 2) 1) (by kernel_rfl) ?hy5_27 (by kernel_rfl) (by kernel_rfl) (by kernel_rfl) (fun _ _ _ _ h => h) hS0 ?hr5_27
  case hy5_27 => (intro o ho w' hS; unfold execOp; simp only [ho]; go_simp; try with_reducible rfl)
  simp only [Act.put, List.setIfInBounds_toArray, List.set_cons_zero, List.set_cons_succ]
  refine drawn_free 6 11 (v := ?v6_28) (.load 35 (.tmp 10)) (by kernel_rfl) ?hy6_28 (by kernel_rfl) (by kernel_rfl) (by kernel_rfl) (fun _ _ _ _ h => h) hS0 ?hr6_28
  case hy6_28 => (intro o ho w' hS; have c2 : w'.cell? ⟨w.heap.size, 2, none⟩ = some (.bool tx) := hS.2.1.c 2; have c3 : w'.cell? ⟨w.heap.size, 3, none⟩ = some (.slice Qx mx dx) := hS.2.1.c 3; unfold execOp; simp only [ho]; go_simp; try with_reducible rfl)
  simp only [Act.put, List.setIfInBounds_toArray, List.set_cons_zero, List.set_cons_succ]
  refine drawn_free 7 12 (v := ?v7_29) (.fieldAddr 37 (.tmp 3) 0) (by kernel_rfl) ?hy7_29 (by kernel_rfl) (by kernel_rfl) (by kernel_rfl) (fun _ _ _ _ h => h) hS0 ?hr7_29
  case hy7_29 => (intro o ho w' hS; unfold execOp; simp only [ho]; go_simp; try with_reducible rfl)
  simp only [Act.put, List.setIfInBounds_toArray, List.set_cons_zero, List.set_cons_succ]
  refine drawn_free 8 13 (v := ?v8_30) (.load 35 (.tmp 12)) (by kernel_rfl) ?hy8_30 (by kernel_rfl) (by kernel_rfl) (by kernel_rfl) (fun _ _ _ _ h => h) hS0 ?hr8_30
  case hy8_30 => (intro o ho w' hS; have c0 : w'.cell? ⟨w.heap.size + 1, 0, none⟩ = some (.bool sy) := hS.2.2.c 0; have c1 : w'.cell? ⟨w.heap.size + 1, 1, none⟩ = some (.slice Py ly ky) := hS.2.2.c 1; unfold execOp; simp only [ho]; go_simp; try with_reducible rfl)
  simp only [Act.put, List.setIfInBounds_toArray, List.set_cons_zero, List.set_cons_succ]
  refine wpAnyH_ready (rs := [4]) (by kernel_rfl) (by simp) ?_
  refine drawn_call2 4 (some 9) (.tmp 6) (.tmp 8) (ts := #[35, 35]) (by kernel_rfl) (enters_of Try.func39 (by kernel_rfl) rfl) rfl rfl (zmul_v (H1.out.ext (X1.out.trans (Ext.refl _).drew)) (H5.out.ext (X1.out.trans (Ext.refl _).drew)) (by omega)) (fun E v4 hh => ?_) ?_
  · skip
    obtain ⟨b4q, A4q, n4q, c4q, rfl, o4, hx4⟩ := hh
    refine ⟨_, rfl, ⟨((X1.out.trans (Ext.refl _).drew).trans hx4), (Bx.out.ext ((Ext.refl _).drew.trans hx4)), (By.out.ext ((Ext.refl _).drew.trans hx4))⟩, ?_⟩
    simp only [Act.put, List.setIfInBounds_toArray, List.set_cons_zero, List.set_cons_succ]
    refine wpAnyH_ready (rs := [9]) (by kernel_rfl) (by simp) ?_
    refine drawn_call2 9 (some 14) (.tmp 11) (.tmp 13) (ts := #[35, 35]) (by kernel_rfl) (enters_of Try.func39 (by kernel_rfl) rfl) rfl rfl (zmul_v (H2.out.ext ((X1.out.trans (Ext.refl _).drew).trans hx4)) (H4.out.ext ((X1.out.trans (Ext.refl _).drew).trans hx4)) (by omega)) (fun E v9 hh => ?_) ?_
    · skip
      obtain ⟨b9q, A9q, n9q, c9q, rfl, o9, hx9⟩ := hh
      refine ⟨_, rfl, ⟨(((X1.out.trans (Ext.refl _).drew).trans hx4).trans hx9), (Bx.out.ext (((Ext.refl _).drew.trans hx4).trans hx9)), (By.out.ext (((Ext.refl _).drew.trans hx4).trans hx9))⟩, ?_⟩
      simp only [Act.put, List.setIfInBounds_toArray, List.set_cons_zero, List.set_cons_succ]
      refine drawn_free 10 15 (v := ?v10_31) (.build 37 #[(0, .tmp 9), (1, .tmp 14)]) (by kernel_rfl) ?hy10_31 (by kernel_rfl) (by kernel_rfl) (by kernel_rfl) (fun _ _ _ _ h => h) ⟨(((X1.out.trans (Ext.refl _).drew).trans hx4).trans hx9), (Bx.out.ext (((Ext.refl _).drew.trans hx4).trans hx9)), (By.out.ext (((Ext.refl _).drew.trans hx4).trans hx9))⟩ ?hr10_31
      case hy10_31 => (intro o ho w' hS; unfold execOp; simp only [ho]; go_simp; try with_reducible rfl)
      simp only [Act.put, List.setIfInBounds_toArray, List.set_cons_zero, List.set_cons_succ]
      refine wpAnyH_ready (rs := [11]) (by kernel_rfl) (by simp) ?_
      refine drawn_call1 11 (some 16) (.tmp 15) (ts := #[37]) (by kernel_rfl) (enters_of Try.func40 (by kernel_rfl) rfl) rfl (dshort_v (Qd.mk (o4.ext hx9) (o9.weak (by omega)) HD.out HR.out) (by omega)) (fun E v11 hh => ?_) ?_
      · skip
        obtain ⟨b11q, A11q, n11q, c11q, e11q, B11q, m11q, d11q, rfl, o11, hx11⟩ := hh
        refine ⟨_, rfl, ⟨((((X1.out.trans (Ext.refl _).drew).trans hx4).trans hx9).trans hx11), (Bx.out.ext ((((Ext.refl _).drew.trans hx4).trans hx9).trans hx11)), (By.out.ext ((((Ext.refl _).drew.trans hx4).trans hx9).trans hx11))⟩, ?_⟩
        simp only [Act.put, List.setIfInBounds_toArray, List.set_cons_zero, List.set_cons_succ]
        refine wpAnyH_ready (rs := [12]) (by kernel_rfl) (by simp) ?_
        have hq12 := (Bo.out.ext ((((Ext.refl _).drew.trans hx4).trans hx9).trans hx11))
        refine drawn_store 12 37 (.tmp 4) (.tmp 16) (w.heap.size + 1 + 1) #[.bool b11q, .slice A11q n11q c11q, .bool e11q, .slice B11q m11q d11q] #[.bool false, .slice none 0 0, .bool false, .slice none 0 0] 37 (by kernel_rfl) rfl rfl hq12.h info_q rfl one_four (fun v12 hb12 hg12 => ⟨⟨(((((X1.out.trans (Ext.refl _).drew).trans hx4).trans hx9).trans hx11).gb hg12 (by omega)), ((Bx.out.ext ((((Ext.refl _).drew.trans hx4).trans hx9).trans hx11)).grown hg12 (by omega)), ((By.out.ext ((((Ext.refl _).drew.trans hx4).trans hx9).trans hx11)).grown hg12 (by omega))⟩, ?_⟩) ?_
        · skip
          simp only [Act.put, List.setIfInBounds_toArray, List.set_cons_zero, List.set_cons_succ]
          refine wpAnyH_done (by kernel_rfl) ?_ _
          go_wp2_with fail
          refine ret_q rfl (show Bk 37 v12 (w.heap.size + 1 + 1) #[.bool b11q, .slice A11q n11q c11q, .bool e11q, .slice B11q m11q d11q] from hb12) rfl rfl ⟨_, _, _, _, _, _, _, _, rfl, (o11.gbk4 hq12 hg12), (((((X1.out.trans (Ext.refl _).drew).trans hx4).trans hx9).trans hx11).gb hg12 (by omega))⟩
        exact drawn_nil
      exact drawn_nil
    exact drawn_nil
  exact drawn_nil

set_option maxHeartbeats 6400000 in
set_option maxRecDepth 100000 in
theorem dsame_no {w : World} {sx tx sy ty : Bool} {Px Qx Py Qy : Option Addr} {lx kx mx dx ly ky my dy : Nat} (h1 : (∀ W, Ext w W → Calls Try.prog 38 #[.agg #[.bool sx, .slice Px lx kx], .agg #[.bool sy, .slice Py ly ky]] W (RetE (.bool false) W))) :
    Calls Try.prog 13 #[.agg #[.bool sx, .slice Px lx kx, .bool tx, .slice Qx mx dx], .agg #[.bool sy, .slice Py ly ky, .bool ty, .slice Qy my dy]] w (RetE (.bool false) w) := by
  have H1 := hid h1
  clear h1
  go_enter Try.func13, Try.ntmps13
  go_upto_region 1 with fail
  have hy1 := hid (((Ext.refl w).alloc (.cells #[.bool sx, .slice Px lx kx, .bool tx, .slice Qx mx dx] 27)).alloc (.cells #[.bool sy, .slice Py ly ky, .bool ty, .slice Qy my dy] 27))
  have Bx_ := ((Bk.new w 27 #[.bool sx, .slice Px lx kx, .bool tx, .slice Qx mx dx]).ext ((Ext.refl (w.alloc (.cells #[.bool sx, .slice Px lx kx, .bool tx, .slice Qx mx dx] 27))).alloc (.cells #[.bool sy, .slice Py ly ky, .bool ty, .slice Qy my dy] 27)))
  have Bx := hid Bx_
  clear Bx_
  have By_ := (Bk.new (w.alloc (.cells #[.bool sx, .slice Px lx kx, .bool tx, .slice Qx mx dx] 27)) 27 #[.bool sy, .slice Py ly ky, .bool ty, .slice Qy my dy])
  rw [size_alloc] at By_
  have By := hid By_
  clear By_
  generalize ((w.alloc (.cells #[.bool sx, .slice Px lx kx, .bool tx, .slice Qx mx dx] 27)).alloc (.cells #[.bool sy, .slice Py ly ky, .bool ty, .slice Qy my dy] 27)) = w1 at *
  have X1 := hid ((Ext.refl _).trans hy1.out)
  obtain ⟨f3_0, f3_1, f3_2, f3_3, f3_4, f3_5, f3_6, f3_7⟩ : w1.cell? ⟨w.heap.size, 0, none⟩ = some (.bool sx) ∧ w1.cell? ⟨w.heap.size, 1, none⟩ = some (.slice Px lx kx) ∧ w1.cell? ⟨w.heap.size, 2, none⟩ = some (.bool tx) ∧ w1.cell? ⟨w.heap.size, 3, none⟩ = some (.slice Qx mx dx) ∧ w1.cell? ⟨w.heap.size + 1, 0, none⟩ = some (.bool sy) ∧ w1.cell? ⟨w.heap.size + 1, 1, none⟩ = some (.slice Py ly ky) ∧ w1.cell? ⟨w.heap.size + 1, 2, none⟩ = some (.bool ty) ∧ w1.cell? ⟨w.heap.size + 1, 3, none⟩ = some (.slice Qy my dy) := ⟨Bx.out.c 0, Bx.out.c 1, Bx.out.c 2, Bx.out.c 3, By.out.c 0, By.out.c 1, By.out.c 2, By.out.c 3⟩
  go_wp2_with (first
    | ((go_at_call 38); (with_reducible refine (H1.out _ X1.out).mono ?_); rintro E2 w2 ⟨rfl, hr2⟩; have X2 := hid (X1.out.trans hr2); have hy2 := hid hr2; clear hr2; obtain ⟨f4_0, f4_1, f4_2, f4_3, f4_4, f4_5, f4_6, f4_7⟩ : w2.cell? ⟨w.heap.size, 0, none⟩ = some (.bool sx) ∧ w2.cell? ⟨w.heap.size, 1, none⟩ = some (.slice Px lx kx) ∧ w2.cell? ⟨w.heap.size, 2, none⟩ = some (.bool tx) ∧ w2.cell? ⟨w.heap.size, 3, none⟩ = some (.slice Qx mx dx) ∧ w2.cell? ⟨w.heap.size + 1, 0, none⟩ = some (.bool sy) ∧ w2.cell? ⟨w.heap.size + 1, 1, none⟩ = some (.slice Py ly ky) ∧ w2.cell? ⟨w.heap.size + 1, 2, none⟩ = some (.bool ty) ∧ w2.cell? ⟨w.heap.size + 1, 3, none⟩ = some (.slice Qy my dy) := ⟨(Bx.out.ext hy2.out).c 0, (Bx.out.ext hy2.out).c 1, (Bx.out.ext hy2.out).c 2, (Bx.out.ext hy2.out).c 3, (By.out.ext hy2.out).c 0, (By.out.ext hy2.out).c 1, (By.out.ext hy2.out).c 2, (By.out.ext hy2.out).c 3⟩))
  clear f3_0 f3_1 f3_2 f3_3 f3_4 f3_5 f3_6 f3_7 f4_0 f4_1 f4_2 f4_3 f4_4 f4_5 f4_6 f4_7
  go_ret
  exact ⟨rfl, X2.out⟩

set_option maxHeartbeats 6400000 in
set_option maxRecDepth 100000 in
theorem dsame_yes {w : World} {sx tx sy ty : Bool} {Px Qx Py Qy : Option Addr} {lx kx mx dx ly ky my dy : Nat} {b : Bool} (h1 : (∀ W, Ext w W → Calls Try.prog 38 #[.agg #[.bool sx, .slice Px lx kx], .agg #[.bool sy, .slice Py ly ky]] W (RetE (.bool true) W))) (h2 : (∀ W, Ext w W → Calls Try.prog 38 #[.agg #[.bool tx, .slice Qx mx dx], .agg #[.bool ty, .slice Qy my dy]] W (RetE (.bool b) W))) :
    Calls Try.prog 13 #[.agg #[.bool sx, .slice Px lx kx, .bool tx, .slice Qx mx dx], .agg #[.bool sy, .slice Py ly ky, .bool ty, .slice Qy my dy]] w (RetE (.bool b) w) := by
  have H1 := hid h1
  have H2 := hid h2
  clear h1 h2
  go_enter Try.func13, Try.ntmps13
  go_upto_region 1 with fail
  have hy1 := hid (((Ext.refl w).alloc (.cells #[.bool sx, .slice Px lx kx, .bool tx, .slice Qx mx dx] 27)).alloc (.cells #[.bool sy, .slice Py ly ky, .bool ty, .slice Qy my dy] 27))
  have Bx_ := ((Bk.new w 27 #[.bool sx, .slice Px lx kx, .bool tx, .slice Qx mx dx]).ext ((Ext.refl (w.alloc (.cells #[.bool sx, .slice Px lx kx, .bool tx, .slice Qx mx dx] 27))).alloc (.cells #[.bool sy, .slice Py ly ky, .bool ty, .slice Qy my dy] 27)))
  have Bx := hid Bx_
  clear Bx_
  have By_ := (Bk.new (w.alloc (.cells #[.bool sx, .slice Px lx kx, .bool tx, .slice Qx mx dx] 27)) 27 #[.bool sy, .slice Py ly ky, .bool ty, .slice Qy my dy])
  rw [size_alloc] at By_
  have By := hid By_
  clear By_
  generalize ((w.alloc (.cells #[.bool sx, .slice Px lx kx, .bool tx, .slice Qx mx dx] 27)).alloc (.cells #[.bool sy, .slice Py ly ky, .bool ty, .slice Qy my dy] 27)) = w1 at *
  have X1 := hid ((Ext.refl _).trans hy1.out)
  obtain ⟨f3_0, f3_1, f3_2, f3_3, f3_4, f3_5, f3_6, f3_7⟩ : w1.cell? ⟨w.heap.size, 0, none⟩ = some (.bool sx) ∧ w1.cell? ⟨w.heap.size, 1, none⟩ = some (.slice Px lx kx) ∧ w1.cell? ⟨w.heap.size, 2, none⟩ = some (.bool tx) ∧ w1.cell? ⟨w.heap.size, 3, none⟩ = some (.slice Qx mx dx) ∧ w1.cell? ⟨w.heap.size + 1, 0, none⟩ = some (.bool sy) ∧ w1.cell? ⟨w.heap.size + 1, 1, none⟩ = some (.slice Py ly ky) ∧ w1.cell? ⟨w.heap.size + 1, 2, none⟩ = some (.bool ty) ∧ w1.cell? ⟨w.heap.size + 1, 3, none⟩ = some (.slice Qy my dy) := ⟨Bx.out.c 0, Bx.out.c 1, Bx.out.c 2, Bx.out.c 3, By.out.c 0, By.out.c 1, By.out.c 2, By.out.c 3⟩
  go_wp2_with (first
    | ((go_at_call 38); (with_reducible refine (H1.out _ X1.out).mono ?_); rintro E2 w2 ⟨rfl, hr2⟩; have X2 := hid (X1.out.trans hr2); have hy2 := hid hr2; clear hr2; obtain ⟨f4_0, f4_1, f4_2, f4_3, f4_4, f4_5, f4_6, f4_7⟩ : w2.cell? ⟨w.heap.size, 0, none⟩ = some (.bool sx) ∧ w2.cell? ⟨w.heap.size, 1, none⟩ = some (.slice Px lx kx) ∧ w2.cell? ⟨w.heap.size, 2, none⟩ = some (.bool tx) ∧ w2.cell? ⟨w.heap.size, 3, none⟩ = some (.slice Qx mx dx) ∧ w2.cell? ⟨w.heap.size + 1, 0, none⟩ = some (.bool sy) ∧ w2.cell? ⟨w.heap.size + 1, 1, none⟩ = some (.slice Py ly ky) ∧ w2.cell? ⟨w.heap.size + 1, 2, none⟩ = some (.bool ty) ∧ w2.cell? ⟨w.heap.size + 1, 3, none⟩ = some (.slice Qy my dy) := ⟨(Bx.out.ext hy2.out).c 0, (Bx.out.ext hy2.out).c 1, (Bx.out.ext hy2.out).c 2, (Bx.out.ext hy2.out).c 3, (By.out.ext hy2.out).c 0, (By.out.ext hy2.out).c 1, (By.out.ext hy2.out).c 2, (By.out.ext hy2.out).c 3⟩)
    | ((go_at_call 38); (with_reducible refine (H2.out _ X2.out).mono ?_); rintro E3 w3 ⟨rfl, hr3⟩; have X3 := hid (X2.out.trans hr3); have hy3 := hid hr3; clear hr3; obtain ⟨f5_0, f5_1, f5_2, f5_3, f5_4, f5_5, f5_6, f5_7⟩ : w3.cell? ⟨w.heap.size, 0, none⟩ = some (.bool sx) ∧ w3.cell? ⟨w.heap.size, 1, none⟩ = some (.slice Px lx kx) ∧ w3.cell? ⟨w.heap.size, 2, none⟩ = some (.bool tx) ∧ w3.cell? ⟨w.heap.size, 3, none⟩ = some (.slice Qx mx dx) ∧ w3.cell? ⟨w.heap.size + 1, 0, none⟩ = some (.bool sy) ∧ w3.cell? ⟨w.heap.size + 1, 1, none⟩ = some (.slice Py ly ky) ∧ w3.cell? ⟨w.heap.size + 1, 2, none⟩ = some (.bool ty) ∧ w3.cell? ⟨w.heap.size + 1, 3, none⟩ = some (.slice Qy my dy) := ⟨(Bx.out.ext (hy2.out.trans hy3.out)).c 0, (Bx.out.ext (hy2.out.trans hy3.out)).c 1, (Bx.out.ext (hy2.out.trans hy3.out)).c 2, (Bx.out.ext (hy2.out.trans hy3.out)).c 3, (By.out.ext (hy2.out.trans hy3.out)).c 0, (By.out.ext (hy2.out.trans hy3.out)).c 1, (By.out.ext (hy2.out.trans hy3.out)).c 2, (By.out.ext (hy2.out.trans hy3.out)).c 3⟩))
  clear f3_0 f3_1 f3_2 f3_3 f3_4 f3_5 f3_6 f3_7 f4_0 f4_1 f4_2 f4_3 f4_4 f4_5 f4_6 f4_7 f5_0 f5_1 f5_2 f5_3 f5_4 f5_5 f5_6 f5_7
  go_ret
  exact ⟨rfl, X3.out⟩

theorem dsame_b {w : World} {sx tx sy ty : Bool} {Px Qx Py Qy : Option Addr} {lx kx mx dx ly ky my dy : Nat} {b c : Bool} (h1 : (∀ W, Ext w W → Calls Try.prog 38 #[.agg #[.bool sx, .slice Px lx kx], .agg #[.bool sy, .slice Py ly ky]] W (RetE (.bool b) W))) (h2 : (∀ W, Ext w W → Calls Try.prog 38 #[.agg #[.bool tx, .slice Qx mx dx], .agg #[.bool ty, .slice Qy my dy]] W (RetE (.bool c) W))) :
    Calls Try.prog 13 #[.agg #[.bool sx, .slice Px lx kx, .bool tx, .slice Qx mx dx], .agg #[.bool sy, .slice Py ly ky, .bool ty, .slice Qy my dy]] w (RetE (.bool (b && c)) w) := by
  cases b
  · exact dsame_no h1
  · exact dsame_yes h1 h2
theorem dsame_ci {w : World} {sx tx sy ty : Bool} {Px Qx Py Qy : Option Addr} {lx kx mx dx ly ky my dy : Nat} {K K' lo lo' : Nat} {N D M E : Int} (h1 : Ci K w lo sx Px lx kx N) (h2 : Ci K w lo tx Qx mx dx D) (h3 : Ci K' w lo' sy Py ly ky M) (h4 : Ci K' w lo' ty Qy my dy E) (hK : K ≤ 1000000) (e1 : N = M) (e2 : D = E) :
    Calls Try.prog 13 #[.agg #[.bool sx, .slice Px lx kx, .bool tx, .slice Qx mx dx], .agg #[.bool sy, .slice Py ly ky, .bool ty, .slice Qy my dy]] w (RetE (.bool true) w) :=
  dsame_b (b := true) (c := true) (fun _ hW => zsame_v (h1.ext hW) (h3.ext hW) (by omega) e1) (fun _ hW => zsame_v (h2.ext hW) (h4.ext hW) (by omega) e2)
theorem dsame_v {w : World} {sx tx sy ty : Bool} {Px Qx Py Qy : Option Addr} {lx kx mx dx ly ky my dy : Nat} {K K' lo lo' : Nat} {x y : Rat} (hx : Rc K w lo sx Px lx kx tx Qx mx dx x) (hy : Rc K' w lo' sy Py ly ky ty Qy my dy y) (hK : K ≤ 1000000) (he : x = y) :
    Calls Try.prog 13 #[.agg #[.bool sx, .slice Px lx kx, .bool tx, .slice Qx mx dx], .agg #[.bool sy, .slice Py ly ky, .bool ty, .slice Qy my dy]] w (RetE (.bool true) w) := dsame_ci hx.nu hx.de hy.nu hy.de hK (by rw [he]) (by rw [he])

end Go.Proofs.Ytikkibpjchmajaa

