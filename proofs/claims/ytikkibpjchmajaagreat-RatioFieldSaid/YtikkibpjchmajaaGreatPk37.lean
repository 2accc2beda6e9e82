/-
  The contracts of the document's Add, Sub, Mul of rational numbers. Printed by wip/gen/rat.py.
-/
import Derived.Test.YtikkibpjchmajaaGreatPk28
namespace Go.Proofs.YtikkibpjchmajaaGreat
open Go.RowKit
open Go.Lib (hid)

set_option maxHeartbeats 6400000 in
set_option maxRecDepth 100000 in
theorem dadd_v {w : World} {sx tx sy ty : Bool} {Px Qx Py Qy : Option Addr} {lx kx mx dx ly ky my dy : Nat} {K K' : Nat} {x y : Rat} (hx : Qd K w sx Px lx kx tx Qx mx dx x) (hy : Qd K' w sy Py ly ky ty Qy my dy y) (hK : K + K' ≤ 4000) :
    Calls Tryz.prog 10 #[.agg #[.bool sx, .slice Px lx kx, .bool tx, .slice Qx mx dx], .agg #[.bool sy, .slice Py ly ky, .bool ty, .slice Qy my dy]] w (RetQ (10 * (2 * K + 2 * K' + 1) + 22) (x + y) w) := by
  obtain ⟨N, D, h1, h2, h3, hr⟩ := hx
  obtain ⟨M, E, h4, h5, h6, hs⟩ := hy
  have HD := hid (Int.mul_ne_zero h3 h6)
  have HR := hid (show x + y = ((N * E + M * D : Int) : Rat) / ((D * E : Int) : Rat) by
    have := cast_ne h3
    have := cast_ne h6
    rw [hr, hs, Rat.intCast_add, Rat.intCast_mul, Rat.intCast_mul, Rat.intCast_mul]
    grind)
  have H1 := hid h1
  have H2 := hid h2
  have H4 := hid h4
  have H5 := hid h5
  clear h1 h2 h3 hr h4 h5 h6 hs
  go_enter Tryz.func10, Tryz.ntmps10
  go_upto_region 1 with fail
  have hy1 := hid ((((Ext.refl w).alloc (.cells #[.bool sx, .slice Px lx kx, .bool tx, .slice Qx mx dx] 35)).alloc (.cells #[.bool sy, .slice Py ly ky, .bool ty, .slice Qy my dy] 35)).alloc (.cells #[.bool false, .slice none 0 0, .bool false, .slice none 0 0] 35))
  have Bx_ := ((Bk.new w 35 #[.bool sx, .slice Px lx kx, .bool tx, .slice Qx mx dx]).ext (((Ext.refl (w.alloc (.cells #[.bool sx, .slice Px lx kx, .bool tx, .slice Qx mx dx] 35))).alloc (.cells #[.bool sy, .slice Py ly ky, .bool ty, .slice Qy my dy] 35)).alloc (.cells #[.bool false, .slice none 0 0, .bool false, .slice none 0 0] 35)))
  have Bx := hid Bx_
  clear Bx_
  have By_ := ((Bk.new (w.alloc (.cells #[.bool sx, .slice Px lx kx, .bool tx, .slice Qx mx dx] 35)) 35 #[.bool sy, .slice Py ly ky, .bool ty, .slice Qy my dy]).ext ((Ext.refl ((w.alloc (.cells #[.bool sx, .slice Px lx kx, .bool tx, .slice Qx mx dx] 35)).alloc (.cells #[.bool sy, .slice Py ly ky, .bool ty, .slice Qy my dy] 35))).alloc (.cells #[.bool false, .slice none 0 0, .bool false, .slice none 0 0] 35)))
  rw [size_alloc] at By_
  have By := hid By_
  clear By_
  have Bo_ := (Bk.new ((w.alloc (.cells #[.bool sx, .slice Px lx kx, .bool tx, .slice Qx mx dx] 35)).alloc (.cells #[.bool sy, .slice Py ly ky, .bool ty, .slice Qy my dy] 35)) 35 #[.bool false, .slice none 0 0, .bool false, .slice none 0 0])
  rw [size_alloc, size_alloc] at Bo_
  have Bo := hid Bo_
  clear Bo_
  generalize (((w.alloc (.cells #[.bool sx, .slice Px lx kx, .bool tx, .slice Qx mx dx] 35)).alloc (.cells #[.bool sy, .slice Py ly ky, .bool ty, .slice Qy my dy] 35)).alloc (.cells #[.bool false, .slice none 0 0, .bool false, .slice none 0 0] 35)) = w1 at *
  have X1 := hid ((Ext.refl _).trans hy1.out)
  have T0 := (Ext.refl w1).drew
  have S0 := X1.out.trans T0
  refine wp_region_held_drew (S := fun w' => Ext w w' ∧ Bk 35 w' (w.heap.size) #[.bool sx, .slice Px lx kx, .bool tx, .slice Qx mx dx] ∧ Bk 35 w' (w.heap.size + 1) #[.bool sy, .slice Py ly ky, .bool ty, .slice Qy my dy]) (by kernel_rfl) ⟨S0, (Bx.out.ext T0), (By.out.ext T0)⟩ (fun hS0 => ?_)
  change wpAnyH _ _ _ _ _ 19 #[false, false, false, false, false, false, false, false, false, false, false, false, false, false, false, false, false, false, false] _ _
  refine drawn_free 0 5 (v := ?v0_1) (.fieldAddr 35 (.tmp 2) 0) (by kernel_rfl) ?hy0_1 (by kernel_rfl) (by kernel_rfl) (by kernel_rfl) (fun _ _ _ _ h => h) hS0 ?hr0_1
  case hy0_1 => (intro o ho w' hS; unfold execOp; simp only [ho]; go_simp; try with_reducible rfl)
  simp only [Act.put, List.setIfInBounds_toArray, List.set_cons_zero, List.set_cons_succ]
  refine drawn_free 1 6 (v := ?v1_2) (.load 33 (.tmp 5)) (by kernel_rfl) ?hy1_2 (by kernel_rfl) (by kernel_rfl) (by kernel_rfl) (fun _ _ _ _ h => h) hS0 ?hr1_2
  case hy1_2 => (intro o ho w' hS; have c0 : w'.cell? ⟨w.heap.size, 0, none⟩ = some (.bool sx) := hS.2.1.c 0; have c1 : w'.cell? ⟨w.heap.size, 1, none⟩ = some (.slice Px lx kx) := hS.2.1.c 1; unfold execOp; simp only [ho]; go_simp; try with_reducible rfl)
  simp only [Act.put, List.setIfInBounds_toArray, List.set_cons_zero, List.set_cons_succ]
  refine drawn_free 2 7 (v := ?v2_3) (.fieldAddr 35 (.tmp 3) 1) (by kernel_rfl) ?hy2_3 (by kernel_rfl) (by kernel_rfl) (by kernel_rfl) (fun _ _ _ _ h => h) hS0 ?hr2_3
  case hy2_3 => (intro o ho w' hS; unfold execOp; simp only [ho]; go_simp; try with_reducible rfl)
  simp only [Act.put, List.setIfInBounds_toArray, List.set_cons_zero, List.set_cons_succ]
  refine drawn_free 3 8 (v := ?v3_4) (.load 33 (.tmp 7)) (by kernel_rfl) ?hy3_4 (by kernel_rfl) (by kernel_rfl) (by kernel_rfl) (fun _ _ _ _ h => h) hS0 ?hr3_4
  case hy3_4 => (intro o ho w' hS; have c2 : w'.cell? ⟨w.heap.size + 1, 2, none⟩ = some (.bool ty) := hS.2.2.c 2; have c3 : w'.cell? ⟨w.heap.size + 1, 3, none⟩ = some (.slice Qy my dy) := hS.2.2.c 3; unfold execOp; simp only [ho]; go_simp; try with_reducible rfl)
  simp only [Act.put, List.setIfInBounds_toArray, List.set_cons_zero, List.set_cons_succ]
  refine drawn_free 5 10 (v := ?v5_5) (.fieldAddr 35 (.tmp 3) 0) (by kernel_rfl) ?hy5_5 (by kernel_rfl) (by kernel_rfl) (by kernel_rfl) (fun _ _ _ _ h => h) hS0 ?hr5_5
  case hy5_5 => (intro o ho w' hS; unfold execOp; simp only [ho]; go_simp; try with_reducible rfl)
  simp only [Act.put, List.setIfInBounds_toArray, List.set_cons_zero, List.set_cons_succ]
  refine drawn_free 6 11 (v := ?v6_6) (.load 33 (.tmp 10)) (by kernel_rfl) ?hy6_6 (by kernel_rfl) (by kernel_rfl) (by kernel_rfl) (fun _ _ _ _ h => h) hS0 ?hr6_6
  case hy6_6 => (intro o ho w' hS; have c0 : w'.cell? ⟨w.heap.size + 1, 0, none⟩ = some (.bool sy) := hS.2.2.c 0; have c1 : w'.cell? ⟨w.heap.size + 1, 1, none⟩ = some (.slice Py ly ky) := hS.2.2.c 1; unfold execOp; simp only [ho]; go_simp; try with_reducible rfl)
  simp only [Act.put, List.setIfInBounds_toArray, List.set_cons_zero, List.set_cons_succ]
  refine drawn_free 7 12 (v := ?v7_7) (.fieldAddr 35 (.tmp 2) 1) (by kernel_rfl) ?hy7_7 (by kernel_rfl) (by kernel_rfl) (by kernel_rfl) (fun _ _ _ _ h => h) hS0 ?hr7_7
  case hy7_7 => (intro o ho w' hS; unfold execOp; simp only [ho]; go_simp; try with_reducible rfl)
  simp only [Act.put, List.setIfInBounds_toArray, List.set_cons_zero, List.set_cons_succ]
  refine drawn_free 8 13 (v := ?v8_8) (.load 33 (.tmp 12)) (by kernel_rfl) ?hy8_8 (by kernel_rfl) (by kernel_rfl) (by kernel_rfl) (fun _ _ _ _ h => h) hS0 ?hr8_8
  case hy8_8 => (intro o ho w' hS; have c2 : w'.cell? ⟨w.heap.size, 2, none⟩ = some (.bool tx) := hS.2.1.c 2; have c3 : w'.cell? ⟨w.heap.size, 3, none⟩ = some (.slice Qx mx dx) := hS.2.1.c 3; unfold execOp; simp only [ho]; go_simp; try with_reducible rfl)
  simp only [Act.put, List.setIfInBounds_toArray, List.set_cons_zero, List.set_cons_succ]
  refine drawn_free 11 16 (v := ?v11_9) (.fieldAddr 35 (.tmp 2) 1) (by kernel_rfl) ?hy11_9 (by kernel_rfl) (by kernel_rfl) (by kernel_rfl) (fun _ _ _ _ h => h) hS0 ?hr11_9
  case hy11_9 => (intro o ho w' hS; unfold execOp; simp only [ho]; go_simp; try with_reducible rfl)
  simp only [Act.put, List.setIfInBounds_toArray, List.set_cons_zero, List.set_cons_succ]
  refine drawn_free 12 17 (v := ?v12_10) (.load 33 (.tmp 16)) (by kernel_rfl) ?hy12_10 (by kernel_rfl) (by kernel_rfl) (by kernel_rfl) (fun _ _ _ _ h => h) hS0 ?hr12_10
  case hy12_10 => (intro o ho w' hS; have c2 : w'.cell? ⟨w.heap.size, 2, none⟩ = some (.bool tx) := hS.2.1.c 2; have c3 : w'.cell? ⟨w.heap.size, 3, none⟩ = some (.slice Qx mx dx) := hS.2.1.c 3; unfold execOp; simp only [ho]; go_simp; try with_reducible rfl)
  simp only [Act.put, List.setIfInBounds_toArray, List.set_cons_zero, List.set_cons_succ]
  refine drawn_free 13 18 (v := ?v13_11) (.fieldAddr 35 (.tmp 3) 1) (by kernel_rfl) ?hy13_11 (by kernel_rfl) (by kernel_rfl) (by kernel_rfl) (fun _ _ _ _ h => h) hS0 ?hr13_11
  case hy13_11 => (intro o ho w' hS; unfold execOp; simp only [ho]; go_simp; try with_reducible rfl)
  simp only [Act.put, List.setIfInBounds_toArray, List.set_cons_zero, List.set_cons_succ]
  refine drawn_free 14 19 (v := ?v14_12) (.load 33 (.tmp 18)) (by kernel_rfl) ?hy14_12 (by kernel_rfl) (by kernel_rfl) (by kernel_rfl) (fun _ _ _ _ h => h) hS0 ?hr14_12
  case hy14_12 => (intro o ho w' hS; have c2 : w'.cell? ⟨w.heap.size + 1, 2, none⟩ = some (.bool ty) := hS.2.2.c 2; have c3 : w'.cell? ⟨w.heap.size + 1, 3, none⟩ = some (.slice Qy my dy) := hS.2.2.c 3; unfold execOp; simp only [ho]; go_simp; try with_reducible rfl)
  simp only [Act.put, List.setIfInBounds_toArray, List.set_cons_zero, List.set_cons_succ]
  refine wpAnyH_ready (rs := [4]) (by kernel_rfl) (by simp) ?_
  refine drawn_call2 4 (some 9) (.tmp 6) (.tmp 8) (ts := #[33, 33]) (by kernel_rfl) (enters_of Tryz.func40 (by kernel_rfl) rfl) rfl rfl (zmul_v (H1.out.ext S0) (H5.out.ext S0) (by omega)) (fun E v4 hh => ?_) ?_
  · skip
    obtain ⟨b4q, A4q, n4q, c4q, rfl, o4, hx4⟩ := hh
    have S4 := S0.trans hx4
    have T4 := T0.trans hx4
    refine ⟨_, rfl, ⟨S4, (Bx.out.ext T4), (By.out.ext T4)⟩, ?_⟩
    simp only [Act.put, List.setIfInBounds_toArray, List.set_cons_zero, List.set_cons_succ]
    refine wpAnyH_ready (rs := [9]) (by kernel_rfl) (by simp) ?_
    refine drawn_call2 9 (some 14) (.tmp 11) (.tmp 13) (ts := #[33, 33]) (by kernel_rfl) (enters_of Tryz.func40 (by kernel_rfl) rfl) rfl rfl (zmul_v (H4.out.ext S4) (H2.out.ext S4) (by omega)) (fun E v9 hh => ?_) ?_
    · skip
      obtain ⟨b9q, A9q, n9q, c9q, rfl, o9, hx9⟩ := hh
      have S9 := S4.trans hx9
      have T9 := T4.trans hx9
      refine ⟨_, rfl, ⟨S9, (Bx.out.ext T9), (By.out.ext T9)⟩, ?_⟩
      simp only [Act.put, List.setIfInBounds_toArray, List.set_cons_zero, List.set_cons_succ]
      refine wpAnyH_ready (rs := [10]) (by kernel_rfl) (by simp) ?_
      refine drawn_call2 10 (some 15) (.tmp 9) (.tmp 14) (ts := #[33, 33]) (by kernel_rfl) (enters_of Tryz.func39 (by kernel_rfl) rfl) rfl rfl (zadd_v (o4.ext hx9) o9 (by omega)) (fun E v10 hh => ?_) ?_
      · skip
        obtain ⟨b10q, A10q, n10q, c10q, rfl, o10, hx10⟩ := hh
        have S10 := S9.trans hx10
        have T10 := T9.trans hx10
        refine ⟨_, rfl, ⟨S10, (Bx.out.ext T10), (By.out.ext T10)⟩, ?_⟩
        simp only [Act.put, List.setIfInBounds_toArray, List.set_cons_zero, List.set_cons_succ]
        refine wpAnyH_ready (rs := [15]) (by kernel_rfl) (by simp) ?_
        refine drawn_call2 15 (some 20) (.tmp 17) (.tmp 19) (ts := #[33, 33]) (by kernel_rfl) (enters_of Tryz.func40 (by kernel_rfl) rfl) rfl rfl (zmul_v (H2.out.ext S10) (H5.out.ext S10) (by omega)) (fun E v15 hh => ?_) ?_
        · skip
          obtain ⟨b15q, A15q, n15q, c15q, rfl, o15, hx15⟩ := hh
          have S15 := S10.trans hx15
          have T15 := T10.trans hx15
          refine ⟨_, rfl, ⟨S15, (Bx.out.ext T15), (By.out.ext T15)⟩, ?_⟩
          simp only [Act.put, List.setIfInBounds_toArray, List.set_cons_zero, List.set_cons_succ]
          refine drawn_free 16 21 (v := ?v16_13) (.build 35 #[(0, .tmp 15), (1, .tmp 20)]) (by kernel_rfl) ?hy16_13 (by kernel_rfl) (by kernel_rfl) (by kernel_rfl) (fun _ _ _ _ h => h) ⟨S15, (Bx.out.ext T15), (By.out.ext T15)⟩ ?hr16_13
          case hy16_13 => (intro o ho w' hS; unfold execOp; simp only [ho]; go_simp; try with_reducible rfl)
          simp only [Act.put, List.setIfInBounds_toArray, List.set_cons_zero, List.set_cons_succ]
          refine wpAnyH_ready (rs := [17]) (by kernel_rfl) (by simp) ?_
          refine drawn_call1 17 (some 22) (.tmp 21) (ts := #[35]) (by kernel_rfl) (enters_of Tryz.func41 (by kernel_rfl) rfl) rfl (dshort_v (K := 2 * K + 2 * K' + 1) (Qd.mk ((o10.ext hx15).weak (by omega)) (o15.weak (by omega)) HD.out HR.out) (by omega)) (fun E v17 hh => ?_) ?_
          · skip
            obtain ⟨b17q, A17q, n17q, c17q, e17q, B17q, m17q, d17q, rfl, o17, hx17⟩ := hh
            have S17 := S15.trans hx17
            have T17 := T15.trans hx17
            refine ⟨_, rfl, ⟨S17, (Bx.out.ext T17), (By.out.ext T17)⟩, ?_⟩
            simp only [Act.put, List.setIfInBounds_toArray, List.set_cons_zero, List.set_cons_succ]
            refine wpAnyH_ready (rs := [18]) (by kernel_rfl) (by simp) ?_
            have hq18 := (Bo.out.ext T17)
            refine drawn_store 18 35 (.tmp 4) (.tmp 22) (w.heap.size + 1 + 1) #[.bool b17q, .slice A17q n17q c17q, .bool e17q, .slice B17q m17q d17q] #[.bool false, .slice none 0 0, .bool false, .slice none 0 0] 35 (by kernel_rfl) rfl rfl hq18.h info_q rfl one_four (fun v18 hb18 hg18 => ?_) ?_
            · have HB18 := hid (show Bk 35 v18 (w.heap.size + 1 + 1) #[.bool b17q, .slice A17q n17q c17q, .bool e17q, .slice B17q m17q d17q] from hb18)
              have S18 := S17.gb hg18 (by omega)
              refine ⟨⟨S18, ((Bx.out.ext T17).grown hg18 (by omega)), ((By.out.ext T17).grown hg18 (by omega))⟩, ?_⟩
              simp only [Act.put, List.setIfInBounds_toArray, List.set_cons_zero, List.set_cons_succ]
              refine wpAnyH_done (by kernel_rfl) ?_ _
              go_wp2_with fail
              refine ret_q rfl HB18.out rfl rfl ⟨_, _, _, _, _, _, _, _, rfl, (o17.gbk4 hq18 hg18), S18⟩
            exact drawn_nil
          exact drawn_nil
        exact drawn_nil
      exact drawn_nil
    exact drawn_nil
  exact drawn_nil

set_option maxHeartbeats 6400000 in
set_option maxRecDepth 100000 in
theorem dmul_v {w : World} {sx tx sy ty : Bool} {Px Qx Py Qy : Option Addr} {lx kx mx dx ly ky my dy : Nat} {K K' : Nat} {x y : Rat} (hx : Qd K w sx Px lx kx tx Qx mx dx x) (hy : Qd K' w sy Py ly ky ty Qy my dy y) (hK : K + K' ≤ 5000) :
    Calls Tryz.prog 15 #[.agg #[.bool sx, .slice Px lx kx, .bool tx, .slice Qx mx dx], .agg #[.bool sy, .slice Py ly ky, .bool ty, .slice Qy my dy]] w (RetQ (10 * (K + K') + 22) (x * y) w) := by
  obtain ⟨N, D, h1, h2, h3, hr⟩ := hx
  obtain ⟨M, E, h4, h5, h6, hs⟩ := hy
  have HD := hid (Int.mul_ne_zero h3 h6)
  have HR := hid (show x * y = ((N * M : Int) : Rat) / ((D * E : Int) : Rat) by
    have := cast_ne h3
    have := cast_ne h6
    rw [hr, hs, Rat.intCast_mul, Rat.intCast_mul]
    grind)
  have H1 := hid h1
  have H2 := hid h2
  have H4 := hid h4
  have H5 := hid h5
  clear h1 h2 h3 hr h4 h5 h6 hs
  go_enter Tryz.func15, Tryz.ntmps15
  go_upto_region 1 with fail
  have hy1 := hid ((((Ext.refl w).alloc (.cells #[.bool sx, .slice Px lx kx, .bool tx, .slice Qx mx dx] 35)).alloc (.cells #[.bool sy, .slice Py ly ky, .bool ty, .slice Qy my dy] 35)).alloc (.cells #[.bool false, .slice none 0 0, .bool false, .slice none 0 0] 35))
  have Bx_ := ((Bk.new w 35 #[.bool sx, .slice Px lx kx, .bool tx, .slice Qx mx dx]).ext (((Ext.refl (w.alloc (.cells #[.bool sx, .slice Px lx kx, .bool tx, .slice Qx mx dx] 35))).alloc (.cells #[.bool sy, .slice Py ly ky, .bool ty, .slice Qy my dy] 35)).alloc (.cells #[.bool false, .slice none 0 0, .bool false, .slice none 0 0] 35)))
  have Bx := hid Bx_
  clear Bx_
  have By_ := ((Bk.new (w.alloc (.cells #[.bool sx, .slice Px lx kx, .bool tx, .slice Qx mx dx] 35)) 35 #[.bool sy, .slice Py ly ky, .bool ty, .slice Qy my dy]).ext ((Ext.refl ((w.alloc (.cells #[.bool sx, .slice Px lx kx, .bool tx, .slice Qx mx dx] 35)).alloc (.cells #[.bool sy, .slice Py ly ky, .bool ty, .slice Qy my dy] 35))).alloc (.cells #[.bool false, .slice none 0 0, .bool false, .slice none 0 0] 35)))
  rw [size_alloc] at By_
  have By := hid By_
  clear By_
  have Bo_ := (Bk.new ((w.alloc (.cells #[.bool sx, .slice Px lx kx, .bool tx, .slice Qx mx dx] 35)).alloc (.cells #[.bool sy, .slice Py ly ky, .bool ty, .slice Qy my dy] 35)) 35 #[.bool false, .slice none 0 0, .bool false, .slice none 0 0])
  rw [size_alloc, size_alloc] at Bo_
  have Bo := hid Bo_
  clear Bo_
  generalize (((w.alloc (.cells #[.bool sx, .slice Px lx kx, .bool tx, .slice Qx mx dx] 35)).alloc (.cells #[.bool sy, .slice Py ly ky, .bool ty, .slice Qy my dy] 35)).alloc (.cells #[.bool false, .slice none 0 0, .bool false, .slice none 0 0] 35)) = w1 at *
  have X1 := hid ((Ext.refl _).trans hy1.out)
  have T0 := (Ext.refl w1).drew
  have S0 := X1.out.trans T0
  refine wp_region_held_drew (S := fun w' => Ext w w' ∧ Bk 35 w' (w.heap.size) #[.bool sx, .slice Px lx kx, .bool tx, .slice Qx mx dx] ∧ Bk 35 w' (w.heap.size + 1) #[.bool sy, .slice Py ly ky, .bool ty, .slice Qy my dy]) (by kernel_rfl) ⟨S0, (Bx.out.ext T0), (By.out.ext T0)⟩ (fun hS0 => ?_)
  change wpAnyH _ _ _ _ _ 13 #[false, false, false, false, false, false, false, false, false, false, false, false, false] _ _
  refine drawn_free 0 5 (v := ?v0_14) (.fieldAddr 35 (.tmp 2) 0) (by kernel_rfl) ?hy0_14 (by kernel_rfl) (by kernel_rfl) (by kernel_rfl) (fun _ _ _ _ h => h) hS0 ?hr0_14
  case hy0_14 => (intro o ho w' hS; unfold execOp; simp only [ho]; go_simp; try with_reducible rfl)
  simp only [Act.put, List.setIfInBounds_toArray, List.set_cons_zero, List.set_cons_succ]
  refine drawn_free 1 6 (v := ?v1_15) (.load 33 (.tmp 5)) (by kernel_rfl) ?hy1_15 (by kernel_rfl) (by kernel_rfl) (by kernel_rfl) (fun _ _ _ _ h => h) hS0 ?hr1_15
  case hy1_15 => (intro o ho w' hS; have c0 : w'.cell? ⟨w.heap.size, 0, none⟩ = some (.bool sx) := hS.2.1.c 0; have c1 : w'.cell? ⟨w.heap.size, 1, none⟩ = some (.slice Px lx kx) := hS.2.1.c 1; unfold execOp; simp only [ho]; go_simp; try with_reducible rfl)
  simp only [Act.put, List.setIfInBounds_toArray, List.set_cons_zero, List.set_cons_succ]
  refine drawn_free 2 7 (v := ?v2_16) (.fieldAddr 35 (.tmp 3) 0) (by kernel_rfl) ?hy2_16 (by kernel_rfl) (by kernel_rfl) (by kernel_rfl) (fun _ _ _ _ h => h) hS0 ?hr2_16
  case hy2_16 => (intro o ho w' hS; unfold execOp; simp only [ho]; go_simp; try with_reducible rfl)
  simp only [Act.put, List.setIfInBounds_toArray, List.set_cons_zero, List.set_cons_succ]
  refine drawn_free 3 8 (v := ?v3_17) (.load 33 (.tmp 7)) (by kernel_rfl) ?hy3_17 (by kernel_rfl) (by kernel_rfl) (by kernel_rfl) (fun _ _ _ _ h => h) hS0 ?hr3_17
  case hy3_17 => (intro o ho w' hS; have c0 : w'.cell? ⟨w.heap.size + 1, 0, none⟩ = some (.bool sy) := hS.2.2.c 0; have c1 : w'.cell? ⟨w.heap.size + 1, 1, none⟩ = some (.slice Py ly ky) := hS.2.2.c 1; unfold execOp; simp only [ho]; go_simp; try with_reducible rfl)
  simp only [Act.put, List.setIfInBounds_toArray, List.set_cons_zero, List.set_cons_succ]
  refine drawn_free 5 10 (v := ?v5_18) (.fieldAddr 35 (.tmp 2) 1) (by kernel_rfl) ?hy5_18 (by kernel_rfl) (by kernel_rfl) (by kernel_rfl) (fun _ _ _ _ h => h) hS0 ?hr5_18
  case hy5_18 => (intro o ho w' hS; unfold execOp; simp only [ho]; go_simp; try with_reducible rfl)
  simp only [Act.put, List.setIfInBounds_toArray, List.set_cons_zero, List.set_cons_succ]
  refine drawn_free 6 11 (v := ?v6_19) (.load 33 (.tmp 10)) (by kernel_rfl) ?hy6_19 (by kernel_rfl) (by kernel_rfl) (by kernel_rfl) (fun _ _ _ _ h => h) hS0 ?hr6_19
  case hy6_19 => (intro o ho w' hS; have c2 : w'.cell? ⟨w.heap.size, 2, none⟩ = some (.bool tx) := hS.2.1.c 2; have c3 : w'.cell? ⟨w.heap.size, 3, none⟩ = some (.slice Qx mx dx) := hS.2.1.c 3; unfold execOp; simp only [ho]; go_simp; try with_reducible rfl)
  simp only [Act.put, List.setIfInBounds_toArray, List.set_cons_zero, List.set_cons_succ]
  refine drawn_free 7 12 (v := ?v7_20) (.fieldAddr 35 (.tmp 3) 1) (by kernel_rfl) ?hy7_20 (by kernel_rfl) (by kernel_rfl) (by kernel_rfl) (fun _ _ _ _ h => h) hS0 ?hr7_20
  case hy7_20 => (intro o ho w' hS; unfold execOp; simp only [ho]; go_simp; try with_reducible rfl)
  simp only [Act.put, List.setIfInBounds_toArray, List.set_cons_zero, List.set_cons_succ]
  refine drawn_free 8 13 (v := ?v8_21) (.load 33 (.tmp 12)) (by kernel_rfl) ?hy8_21 (by kernel_rfl) (by kernel_rfl) (by kernel_rfl) (fun _ _ _ _ h => h) hS0 ?hr8_21
  case hy8_21 => (intro o ho w' hS; have c2 : w'.cell? ⟨w.heap.size + 1, 2, none⟩ = some (.bool ty) := hS.2.2.c 2; have c3 : w'.cell? ⟨w.heap.size + 1, 3, none⟩ = some (.slice Qy my dy) := hS.2.2.c 3; unfold execOp; simp only [ho]; go_simp; try with_reducible rfl)
  simp only [Act.put, List.setIfInBounds_toArray, List.set_cons_zero, List.set_cons_succ]
  refine wpAnyH_ready (rs := [4]) (by kernel_rfl) (by simp) ?_
  refine drawn_call2 4 (some 9) (.tmp 6) (.tmp 8) (ts := #[33, 33]) (by kernel_rfl) (enters_of Tryz.func40 (by kernel_rfl) rfl) rfl rfl (zmul_v (H1.out.ext S0) (H4.out.ext S0) (by omega)) (fun E v4 hh => ?_) ?_
  · skip
    obtain ⟨b4q, A4q, n4q, c4q, rfl, o4, hx4⟩ := hh
    have S4 := S0.trans hx4
    have T4 := T0.trans hx4
    refine ⟨_, rfl, ⟨S4, (Bx.out.ext T4), (By.out.ext T4)⟩, ?_⟩
    simp only [Act.put, List.setIfInBounds_toArray, List.set_cons_zero, List.set_cons_succ]
    refine wpAnyH_ready (rs := [9]) (by kernel_rfl) (by simp) ?_
    refine drawn_call2 9 (some 14) (.tmp 11) (.tmp 13) (ts := #[33, 33]) (by kernel_rfl) (enters_of Tryz.func40 (by kernel_rfl) rfl) rfl rfl (zmul_v (H2.out.ext S4) (H5.out.ext S4) (by omega)) (fun E v9 hh => ?_) ?_
    · skip
      obtain ⟨b9q, A9q, n9q, c9q, rfl, o9, hx9⟩ := hh
      have S9 := S4.trans hx9
      have T9 := T4.trans hx9
      refine ⟨_, rfl, ⟨S9, (Bx.out.ext T9), (By.out.ext T9)⟩, ?_⟩
      simp only [Act.put, List.setIfInBounds_toArray, List.set_cons_zero, List.set_cons_succ]
      refine drawn_free 10 15 (v := ?v10_22) (.build 35 #[(0, .tmp 9), (1, .tmp 14)]) (by kernel_rfl) ?hy10_22 (by kernel_rfl) (by kernel_rfl) (by kernel_rfl) (fun _ _ _ _ h => h) ⟨S9, (Bx.out.ext T9), (By.out.ext T9)⟩ ?hr10_22
      case hy10_22 => (intro o ho w' hS; unfold execOp; simp only [ho]; go_simp; try with_reducible rfl)
      simp only [Act.put, List.setIfInBounds_toArray, List.set_cons_zero, List.set_cons_succ]
      refine wpAnyH_ready (rs := [11]) (by kernel_rfl) (by simp) ?_
      refine drawn_call1 11 (some 16) (.tmp 15) (ts := #[35]) (by kernel_rfl) (enters_of Tryz.func41 (by kernel_rfl) rfl) rfl (dshort_v (Qd.mk (o4.ext hx9) o9 HD.out HR.out) (by omega)) (fun E v11 hh => ?_) ?_
      · skip
        obtain ⟨b11q, A11q, n11q, c11q, e11q, B11q, m11q, d11q, rfl, o11, hx11⟩ := hh
        have S11 := S9.trans hx11
        have T11 := T9.trans hx11
        refine ⟨_, rfl, ⟨S11, (Bx.out.ext T11), (By.out.ext T11)⟩, ?_⟩
        simp only [Act.put, List.setIfInBounds_toArray, List.set_cons_zero, List.set_cons_succ]
        refine wpAnyH_ready (rs := [12]) (by kernel_rfl) (by simp) ?_
        have hq12 := (Bo.out.ext T11)
        refine drawn_store 12 35 (.tmp 4) (.tmp 16) (w.heap.size + 1 + 1) #[.bool b11q, .slice A11q n11q c11q, .bool e11q, .slice B11q m11q d11q] #[.bool false, .slice none 0 0, .bool false, .slice none 0 0] 35 (by kernel_rfl) rfl rfl hq12.h info_q rfl one_four (fun v12 hb12 hg12 => ?_) ?_
        · have HB12 := hid (show Bk 35 v12 (w.heap.size + 1 + 1) #[.bool b11q, .slice A11q n11q c11q, .bool e11q, .slice B11q m11q d11q] from hb12)
          have S12 := S11.gb hg12 (by omega)
          refine ⟨⟨S12, ((Bx.out.ext T11).grown hg12 (by omega)), ((By.out.ext T11).grown hg12 (by omega))⟩, ?_⟩
          simp only [Act.put, List.setIfInBounds_toArray, List.set_cons_zero, List.set_cons_succ]
          refine wpAnyH_done (by kernel_rfl) ?_ _
          go_wp2_with fail
          refine ret_q rfl HB12.out rfl rfl ⟨_, _, _, _, _, _, _, _, rfl, (o11.gbk4 hq12 hg12), S12⟩
        exact drawn_nil
      exact drawn_nil
    exact drawn_nil
  exact drawn_nil

set_option maxHeartbeats 6400000 in
set_option maxRecDepth 100000 in
theorem dsub_v {w : World} {sx tx sy ty : Bool} {Px Qx Py Qy : Option Addr} {lx kx mx dx ly ky my dy : Nat} {K K' : Nat} {x y : Rat} (hx : Qd K w sx Px lx kx tx Qx mx dx x) (hy : Qd K' w sy Py ly ky ty Qy my dy y) (hK : K + K' ≤ 4000) :
    Calls Tryz.prog 13 #[.agg #[.bool sx, .slice Px lx kx, .bool tx, .slice Qx mx dx], .agg #[.bool sy, .slice Py ly ky, .bool ty, .slice Qy my dy]] w (RetQ (10 * (2 * K + 2 * K' + 1) + 22) (x - y) w) := by
  obtain ⟨M, E, h4, h5, h6, hs⟩ := hy
  have HE := hid h6
  have HR := hid (show -y = ((-M : Int) : Rat) / ((E : Int) : Rat) by
    have := cast_ne h6
    rw [hs, Rat.intCast_neg]
    grind)
  have H0 := hid hx
  have H4 := hid h4
  have H5 := hid h5
  clear hx h4 h5 h6 hs
  go_enter Tryz.func13, Tryz.ntmps13
  go_upto_region 1 with fail
  have hy1 := hid ((((Ext.refl w).alloc (.cells #[.bool sx, .slice Px lx kx, .bool tx, .slice Qx mx dx] 35)).alloc (.cells #[.bool sy, .slice Py ly ky, .bool ty, .slice Qy my dy] 35)).alloc (.cells #[.bool false, .slice none 0 0, .bool false, .slice none 0 0] 35))
  have Bx_ := ((Bk.new w 35 #[.bool sx, .slice Px lx kx, .bool tx, .slice Qx mx dx]).ext (((Ext.refl (w.alloc (.cells #[.bool sx, .slice Px lx kx, .bool tx, .slice Qx mx dx] 35))).alloc (.cells #[.bool sy, .slice Py ly ky, .bool ty, .slice Qy my dy] 35)).alloc (.cells #[.bool false, .slice none 0 0, .bool false, .slice none 0 0] 35)))
  have Bx := hid Bx_
  clear Bx_
  have By_ := ((Bk.new (w.alloc (.cells #[.bool sx, .slice Px lx kx, .bool tx, .slice Qx mx dx] 35)) 35 #[.bool sy, .slice Py ly ky, .bool ty, .slice Qy my dy]).ext ((Ext.refl ((w.alloc (.cells #[.bool sx, .slice Px lx kx, .bool tx, .slice Qx mx dx] 35)).alloc (.cells #[.bool sy, .slice Py ly ky, .bool ty, .slice Qy my dy] 35))).alloc (.cells #[.bool false, .slice none 0 0, .bool false, .slice none 0 0] 35)))
  rw [size_alloc] at By_
  have By := hid By_
  clear By_
  have Bo_ := (Bk.new ((w.alloc (.cells #[.bool sx, .slice Px lx kx, .bool tx, .slice Qx mx dx] 35)).alloc (.cells #[.bool sy, .slice Py ly ky, .bool ty, .slice Qy my dy] 35)) 35 #[.bool false, .slice none 0 0, .bool false, .slice none 0 0])
  rw [size_alloc, size_alloc] at Bo_
  have Bo := hid Bo_
  clear Bo_
  generalize (((w.alloc (.cells #[.bool sx, .slice Px lx kx, .bool tx, .slice Qx mx dx] 35)).alloc (.cells #[.bool sy, .slice Py ly ky, .bool ty, .slice Qy my dy] 35)).alloc (.cells #[.bool false, .slice none 0 0, .bool false, .slice none 0 0] 35)) = w1 at *
  have X1 := hid ((Ext.refl _).trans hy1.out)
  have T0 := (Ext.refl w1).drew
  have S0 := X1.out.trans T0
  refine wp_region_held_drew (S := fun w' => Ext w w' ∧ Bk 35 w' (w.heap.size) #[.bool sx, .slice Px lx kx, .bool tx, .slice Qx mx dx] ∧ Bk 35 w' (w.heap.size + 1) #[.bool sy, .slice Py ly ky, .bool ty, .slice Qy my dy]) (by kernel_rfl) ⟨S0, (Bx.out.ext T0), (By.out.ext T0)⟩ (fun hS0 => ?_)
  change wpAnyH _ _ _ _ _ 9 #[false, false, false, false, false, false, false, false, false] _ _
  refine drawn_load 0 5 35 (.tmp 2) (w.heap.size) 35 #[.bool sx, .slice Px lx kx, .bool tx, .slice Qx mx dx] (0, 0) _ (by kernel_rfl) rfl (fun w' hS => hS.2.1.h) Tryz.underlying35 rfl info_q (by kernel_rfl) (by kernel_rfl) (by kernel_rfl) (fun _ _ _ _ h => h) hS0 ?_
  simp only [Act.put, List.setIfInBounds_toArray, List.set_cons_zero, List.set_cons_succ]
  refine drawn_free 1 6 (v := ?v1_23) (.fieldAddr 35 (.tmp 3) 0) (by kernel_rfl) ?hy1_23 (by kernel_rfl) (by kernel_rfl) (by kernel_rfl) (fun _ _ _ _ h => h) hS0 ?hr1_23
  case hy1_23 => (intro o ho w' hS; unfold execOp; simp only [ho]; go_simp; try with_reducible rfl)
  simp only [Act.put, List.setIfInBounds_toArray, List.set_cons_zero, List.set_cons_succ]
  refine drawn_free 2 7 (v := ?v2_24) (.load 33 (.tmp 6)) (by kernel_rfl) ?hy2_24 (by kernel_rfl) (by kernel_rfl) (by kernel_rfl) (fun _ _ _ _ h => h) hS0 ?hr2_24
  case hy2_24 => (intro o ho w' hS; have c0 : w'.cell? ⟨w.heap.size + 1, 0, none⟩ = some (.bool sy) := hS.2.2.c 0; have c1 : w'.cell? ⟨w.heap.size + 1, 1, none⟩ = some (.slice Py ly ky) := hS.2.2.c 1; unfold execOp; simp only [ho]; go_simp; try with_reducible rfl)
  simp only [Act.put, List.setIfInBounds_toArray, List.set_cons_zero, List.set_cons_succ]
  refine drawn_free 4 9 (v := ?v4_25) (.fieldAddr 35 (.tmp 3) 1) (by kernel_rfl) ?hy4_25 (by kernel_rfl) (by kernel_rfl) (by kernel_rfl) (fun _ _ _ _ h => h) hS0 ?hr4_25
  case hy4_25 => (intro o ho w' hS; unfold execOp; simp only [ho]; go_simp; try with_reducible rfl)
  simp only [Act.put, List.setIfInBounds_toArray, List.set_cons_zero, List.set_cons_succ]
  refine drawn_free 5 10 (v := ?v5_26) (.load 33 (.tmp 9)) (by kernel_rfl) ?hy5_26 (by kernel_rfl) (by kernel_rfl) (by kernel_rfl) (fun _ _ _ _ h => h) hS0 ?hr5_26
  case hy5_26 => (intro o ho w' hS; have c2 : w'.cell? ⟨w.heap.size + 1, 2, none⟩ = some (.bool ty) := hS.2.2.c 2; have c3 : w'.cell? ⟨w.heap.size + 1, 3, none⟩ = some (.slice Qy my dy) := hS.2.2.c 3; unfold execOp; simp only [ho]; go_simp; try with_reducible rfl)
  simp only [Act.put, List.setIfInBounds_toArray, List.set_cons_zero, List.set_cons_succ]
  refine wpAnyH_ready (rs := [3]) (by kernel_rfl) (by simp) ?_
  refine drawn_call1 3 (some 8) (.tmp 7) (ts := #[33]) (by kernel_rfl) (enters_of Tryz.func42 (by kernel_rfl) rfl) rfl (zneg_v (H4.out.ext S0)) (fun E v3 hh => ?_) ?_
  · skip
    obtain ⟨b3q, A3q, n3q, c3q, rfl, o3, hx3⟩ := hh
    have S3 := S0.trans hx3
    have T3 := T0.trans hx3
    refine ⟨_, rfl, ⟨S3, (Bx.out.ext T3), (By.out.ext T3)⟩, ?_⟩
    simp only [Act.put, List.setIfInBounds_toArray, List.set_cons_zero, List.set_cons_succ]
    refine drawn_free 6 11 (v := ?v6_27) (.build 35 #[(0, .tmp 8), (1, .tmp 10)]) (by kernel_rfl) ?hy6_27 (by kernel_rfl) (by kernel_rfl) (by kernel_rfl) (fun _ _ _ _ h => h) ⟨S3, (Bx.out.ext T3), (By.out.ext T3)⟩ ?hr6_27
    case hy6_27 => (intro o ho w' hS; unfold execOp; simp only [ho]; go_simp; try with_reducible rfl)
    simp only [Act.put, List.setIfInBounds_toArray, List.set_cons_zero, List.set_cons_succ]
    refine wpAnyH_ready (rs := [7]) (by kernel_rfl) (by simp) ?_
    refine drawn_call2 7 (some 12) (.tmp 5) (.tmp 11) (ts := #[35, 35]) (by kernel_rfl) (enters_of Tryz.func10 (by kernel_rfl) rfl) rfl rfl (dadd_v (H0.out.ext S3) (Qd.mk o3 (H5.out.ext S3) HE.out HR.out) (by omega)) (fun E v7 hh => ?_) ?_
    · skip
      obtain ⟨b7q, A7q, n7q, c7q, e7q, B7q, m7q, d7q, rfl, o7, hx7⟩ := hh
      have S7 := S3.trans hx7
      have T7 := T3.trans hx7
      refine ⟨_, rfl, ⟨S7, (Bx.out.ext T7), (By.out.ext T7)⟩, ?_⟩
      simp only [Act.put, List.setIfInBounds_toArray, List.set_cons_zero, List.set_cons_succ]
      refine wpAnyH_ready (rs := [8]) (by kernel_rfl) (by simp) ?_
      have hq8 := (Bo.out.ext T7)
      refine drawn_store 8 35 (.tmp 4) (.tmp 12) (w.heap.size + 1 + 1) #[.bool b7q, .slice A7q n7q c7q, .bool e7q, .slice B7q m7q d7q] #[.bool false, .slice none 0 0, .bool false, .slice none 0 0] 35 (by kernel_rfl) rfl rfl hq8.h info_q rfl one_four (fun v8 hb8 hg8 => ?_) ?_
      · have HB8 := hid (show Bk 35 v8 (w.heap.size + 1 + 1) #[.bool b7q, .slice A7q n7q c7q, .bool e7q, .slice B7q m7q d7q] from hb8)
        have S8 := S7.gb hg8 (by omega)
        refine ⟨⟨S8, ((Bx.out.ext T7).grown hg8 (by omega)), ((By.out.ext T7).grown hg8 (by omega))⟩, ?_⟩
        simp only [Act.put, List.setIfInBounds_toArray, List.set_cons_zero, List.set_cons_succ]
        refine wpAnyH_done (by kernel_rfl) ?_ _
        go_wp2_with fail
        refine ret_q rfl HB8.out rfl rfl ⟨_, _, _, _, _, _, _, _, rfl, (o7.gbk4 hq8 hg8).cast (Rat.sub_eq_add_neg x y).symm, S8⟩
      exact drawn_nil
    exact drawn_nil
  exact drawn_nil


end Go.Proofs.YtikkibpjchmajaaGreat

