/-
  The contracts of ratio.Add, Sub, Cmp. Printed by wip/gen/rat.py.
-/
import Derived.Test.YtikkibpjchmajaaPk20
namespace Go.Proofs.Ytikkibpjchmajaa
open Go.RowKit
open Go.Lib (hid)

theorem rat_mul_parts (x y : Rat) : (((x.num * y.num : Int) : Rat) / ((((x.den : Nat) : Int) * ((y.den : Nat) : Int) : Int) : Rat)) = x * y := by
  have h1 := rat_self x
  have h2 := rat_self y
  have h3 := cast_ne (den_ne x)
  have h4 := cast_ne (den_ne y)
  rw [Rat.intCast_mul, Rat.intCast_mul]
  grind
theorem rat_add_parts (x y : Rat) : (((x.num * ((y.den : Nat) : Int) + y.num * ((x.den : Nat) : Int) : Int) : Rat) / ((((x.den : Nat) : Int) * ((y.den : Nat) : Int) : Int) : Rat)) = x + y := by
  have h1 := rat_self x
  have h2 := rat_self y
  have h3 := cast_ne (den_ne x)
  have h4 := cast_ne (den_ne y)
  rw [Rat.intCast_add, Rat.intCast_mul, Rat.intCast_mul, Rat.intCast_mul]
  grind
theorem rat_div_parts (x y : Rat) (hy : y ≠ 0) : (((x.num * ((y.den : Nat) : Int) : Int) : Rat) / ((((x.den : Nat) : Int) * y.num : Int) : Rat)) = x / y := by
  have h1 := rat_self x
  have h2 := rat_self y
  have h3 := cast_ne (den_ne x)
  have h4 := cast_ne (den_ne y)
  have h5 := cast_ne (fun h => hy (Rat.num_eq_zero.1 h))
  rw [Rat.intCast_mul, Rat.intCast_mul]
  grind
theorem dens_ne (x y : Rat) : ((x.den : Nat) : Int) * ((y.den : Nat) : Int) ≠ 0 := Int.mul_ne_zero (den_ne x) (den_ne y)
theorem den_num_ne (x y : Rat) (hy : y ≠ 0) : ((x.den : Nat) : Int) * y.num ≠ 0 := Int.mul_ne_zero (den_ne x) (fun h => hy (Rat.num_eq_zero.1 h))
theorem den_num_zero (x y : Rat) (hy : y = 0) : ((x.den : Nat) : Int) * y.num = 0 := by rw [hy]; exact Int.mul_zero _
set_option maxHeartbeats 6400000 in
set_option maxRecDepth 100000 in
theorem qcross_v {w : World} {sx tx sy ty : Bool} {Px Qx Py Qy : Option Addr} {lx kx mx dx ly ky my dy : Nat} {K K' : Nat} {N D : Int} (hx : Iz K w sx Px lx kx N) (hy : Iz K' w ty Qy my dy D) (hK : K + K' ≤ 10000000) :
    Calls Try.prog 55 #[.agg #[.bool sx, .slice Px lx kx, .bool tx, .slice Qx mx dx], .agg #[.bool sy, .slice Py ly ky, .bool ty, .slice Qy my dy]] w (RetI (K + K') (N * D) w) := by
  have Hx := hid hx
  have Hy := hid hy
  clear hx hy
  go_enter Try.func55, Try.ntmps55
  go_upto_region 1 with fail
  have hy1 := hid ((((Ext.refl w).alloc (.cells #[.bool sx, .slice Px lx kx, .bool tx, .slice Qx mx dx] 27)).alloc (.cells #[.bool sy, .slice Py ly ky, .bool ty, .slice Qy my dy] 27)).alloc (.cells #[.bool false, .slice none 0 0] 24))
  have Bx_ := ((Bk.new w 27 #[.bool sx, .slice Px lx kx, .bool tx, .slice Qx mx dx]).ext (((Ext.refl (w.alloc (.cells #[.bool sx, .slice Px lx kx, .bool tx, .slice Qx mx dx] 27))).alloc (.cells #[.bool sy, .slice Py ly ky, .bool ty, .slice Qy my dy] 27)).alloc (.cells #[.bool false, .slice none 0 0] 24)))
  have Bx := hid Bx_
  clear Bx_
  have By_ := ((Bk.new (w.alloc (.cells #[.bool sx, .slice Px lx kx, .bool tx, .slice Qx mx dx] 27)) 27 #[.bool sy, .slice Py ly ky, .bool ty, .slice Qy my dy]).ext ((Ext.refl ((w.alloc (.cells #[.bool sx, .slice Px lx kx, .bool tx, .slice Qx mx dx] 27)).alloc (.cells #[.bool sy, .slice Py ly ky, .bool ty, .slice Qy my dy] 27))).alloc (.cells #[.bool false, .slice none 0 0] 24)))
  rw [size_alloc] at By_
  have By := hid By_
  clear By_
  have Bo_ := (Bk.new ((w.alloc (.cells #[.bool sx, .slice Px lx kx, .bool tx, .slice Qx mx dx] 27)).alloc (.cells #[.bool sy, .slice Py ly ky, .bool ty, .slice Qy my dy] 27)) 24 #[.bool false, .slice none 0 0])
  rw [size_alloc, size_alloc] at Bo_
  have Bo := hid Bo_
  clear Bo_
  generalize (((w.alloc (.cells #[.bool sx, .slice Px lx kx, .bool tx, .slice Qx mx dx] 27)).alloc (.cells #[.bool sy, .slice Py ly ky, .bool ty, .slice Qy my dy] 27)).alloc (.cells #[.bool false, .slice none 0 0] 24)) = w1 at *
  have X1 := hid ((Ext.refl _).trans hy1.out)
  obtain ⟨f4_0, f4_1, f4_2, f4_3, f4_4, f4_5, f4_6, f4_7, f4_8, f4_9, f4_10, f4_11⟩ : w1.cell? ⟨w.heap.size, 0, none⟩ = some (.bool sx) ∧ w1.cell? ⟨w.heap.size, 1, none⟩ = some (.slice Px lx kx) ∧ w1.cell? ⟨w.heap.size, 2, none⟩ = some (.bool tx) ∧ w1.cell? ⟨w.heap.size, 3, none⟩ = some (.slice Qx mx dx) ∧ w1.cell? ⟨w.heap.size + 1, 0, none⟩ = some (.bool sy) ∧ w1.cell? ⟨w.heap.size + 1, 1, none⟩ = some (.slice Py ly ky) ∧ w1.cell? ⟨w.heap.size + 1, 2, none⟩ = some (.bool ty) ∧ w1.cell? ⟨w.heap.size + 1, 3, none⟩ = some (.slice Qy my dy) ∧ w1.cell? ⟨w.heap.size + 1 + 1, 0, none⟩ = some (.bool false) ∧ w1.cell? ⟨w.heap.size + 1 + 1, 1, none⟩ = some (.slice none 0 0) ∧ w1.frozen? ⟨w.heap.size + 1 + 1, 0, none⟩ = false ∧ w1.frozen? ⟨w.heap.size + 1 + 1, 1, none⟩ = false := ⟨Bx.out.c 0, Bx.out.c 1, Bx.out.c 2, Bx.out.c 3, By.out.c 0, By.out.c 1, By.out.c 2, By.out.c 3, Bo.out.c 0, Bo.out.c 1, Bo.out.fr 0, Bo.out.fr 1⟩
  go_wp2_with (first
    | ((go_at_call 54); (with_reducible refine (wmul_v (Hx.out.ext X1.out) (Hy.out.ext X1.out) (by omega)).mono ?_); rintro E2 w2 ⟨b2, A2, n2, c2, rfl, o2, hr2⟩; have X2 := hid (X1.out.trans hr2); have hy2 := hid hr2; clear hr2; have O2 := hid (o2.mono X1.out.size); clear o2; obtain ⟨f5_0, f5_1, f5_2, f5_3, f5_4, f5_5, f5_6, f5_7, f5_8, f5_9, f5_10, f5_11⟩ : w2.cell? ⟨w.heap.size, 0, none⟩ = some (.bool sx) ∧ w2.cell? ⟨w.heap.size, 1, none⟩ = some (.slice Px lx kx) ∧ w2.cell? ⟨w.heap.size, 2, none⟩ = some (.bool tx) ∧ w2.cell? ⟨w.heap.size, 3, none⟩ = some (.slice Qx mx dx) ∧ w2.cell? ⟨w.heap.size + 1, 0, none⟩ = some (.bool sy) ∧ w2.cell? ⟨w.heap.size + 1, 1, none⟩ = some (.slice Py ly ky) ∧ w2.cell? ⟨w.heap.size + 1, 2, none⟩ = some (.bool ty) ∧ w2.cell? ⟨w.heap.size + 1, 3, none⟩ = some (.slice Qy my dy) ∧ w2.cell? ⟨w.heap.size + 1 + 1, 0, none⟩ = some (.bool false) ∧ w2.cell? ⟨w.heap.size + 1 + 1, 1, none⟩ = some (.slice none 0 0) ∧ w2.frozen? ⟨w.heap.size + 1 + 1, 0, none⟩ = false ∧ w2.frozen? ⟨w.heap.size + 1 + 1, 1, none⟩ = false := ⟨(Bx.out.ext hy2.out).c 0, (Bx.out.ext hy2.out).c 1, (Bx.out.ext hy2.out).c 2, (Bx.out.ext hy2.out).c 3, (By.out.ext hy2.out).c 0, (By.out.ext hy2.out).c 1, (By.out.ext hy2.out).c 2, (By.out.ext hy2.out).c 3, (Bo.out.ext hy2.out).c 0, (Bo.out.ext hy2.out).c 1, (Bo.out.ext hy2.out).fr 0, (Bo.out.ext hy2.out).fr 1⟩))
  clear f4_0 f4_1 f4_2 f4_3 f4_4 f4_5 f4_6 f4_7 f4_8 f4_9 f4_10 f4_11 f5_0 f5_1 f5_2 f5_3 f5_4 f5_5 f5_6 f5_7 f5_8 f5_9 f5_10 f5_11
  have HG3 := hid (show w2.grownBy ((w2.setCell ⟨w.heap.size + 1 + 1, 0, none⟩ (.bool b2)).setCell ⟨w.heap.size + 1 + 1, 1, none⟩ (.slice A2 n2 c2)) (some (w.heap.size + 1 + 1)) from gb2 w2 (w.heap.size + 1 + 1) (.bool b2) (.slice A2 n2 c2))
  have HO3 := hid (Bo.out.ext hy2.out)
  have HP3 := hid (show Bk 24 ((w2.setCell ⟨w.heap.size + 1 + 1, 0, none⟩ (.bool b2)).setCell ⟨w.heap.size + 1 + 1, 1, none⟩ (.slice A2 n2 c2)) (w.heap.size + 1 + 1) #[.bool b2, .slice A2 n2 c2] from (Bo.out.ext hy2.out).put2 (.bool b2) (.slice A2 n2 c2))
  generalize ((w2.setCell ⟨w.heap.size + 1 + 1, 0, none⟩ (.bool b2)).setCell ⟨w.heap.size + 1 + 1, 1, none⟩ (.slice A2 n2 c2)) = w3 at *
  have X3 := hid (X2.out.gb HG3.out (by omega))
  refine ret_i rfl HP3.out rfl rfl ⟨_, _, _, _, rfl, (O2.out.gbk HO3.out (by decide) HG3.out), X3.out⟩

set_option maxHeartbeats 6400000 in
set_option maxRecDepth 100000 in
theorem qadd_v {w : World} {sx tx sy ty : Bool} {Px Qx Py Qy : Option Addr} {lx kx mx dx ly ky my dy : Nat} {K K' : Nat} {x y : Rat} (hx : Rv K w sx Px lx kx tx Qx mx dx x) (hy : Rv K' w sy Py ly ky ty Qy my dy y) (hK : K + K' ≤ 2000000) :
    Calls Try.prog 25 #[.agg #[.bool sx, .slice Px lx kx, .bool tx, .slice Qx mx dx], .agg #[.bool sy, .slice Py ly ky, .bool ty, .slice Qy my dy]] w (RetR (2 * K + 2 * K' + 9) (x + y) w) := by
  have Hx := hid hx
  have Hy := hid hy
  clear hx hy
  go_enter Try.func25, Try.ntmps25
  go_upto_region 1 with fail
  have hy1 := hid ((((Ext.refl w).alloc (.cells #[.bool sx, .slice Px lx kx, .bool tx, .slice Qx mx dx] 27)).alloc (.cells #[.bool sy, .slice Py ly ky, .bool ty, .slice Qy my dy] 27)).alloc (.cells #[.bool false, .slice none 0 0, .bool false, .slice none 0 0] 27))
  have Bx_ := ((Bk.new w 27 #[.bool sx, .slice Px lx kx, .bool tx, .slice Qx mx dx]).ext (((Ext.refl (w.alloc (.cells #[.bool sx, .slice Px lx kx, .bool tx, .slice Qx mx dx] 27))).alloc (.cells #[.bool sy, .slice Py ly ky, .bool ty, .slice Qy my dy] 27)).alloc (.cells #[.bool false, .slice none 0 0, .bool false, .slice none 0 0] 27)))
  have Bx := hid Bx_
  clear Bx_
  have By_ := ((Bk.new (w.alloc (.cells #[.bool sx, .slice Px lx kx, .bool tx, .slice Qx mx dx] 27)) 27 #[.bool sy, .slice Py ly ky, .bool ty, .slice Qy my dy]).ext ((Ext.refl ((w.alloc (.cells #[.bool sx, .slice Px lx kx, .bool tx, .slice Qx mx dx] 27)).alloc (.cells #[.bool sy, .slice Py ly ky, .bool ty, .slice Qy my dy] 27))).alloc (.cells #[.bool false, .slice none 0 0, .bool false, .slice none 0 0] 27)))
  rw [size_alloc] at By_
  have By := hid By_
  clear By_
  have Bo_ := (Bk.new ((w.alloc (.cells #[.bool sx, .slice Px lx kx, .bool tx, .slice Qx mx dx] 27)).alloc (.cells #[.bool sy, .slice Py ly ky, .bool ty, .slice Qy my dy] 27)) 27 #[.bool false, .slice none 0 0, .bool false, .slice none 0 0])
  rw [size_alloc, size_alloc] at Bo_
  have Bo := hid Bo_
  clear Bo_
  generalize (((w.alloc (.cells #[.bool sx, .slice Px lx kx, .bool tx, .slice Qx mx dx] 27)).alloc (.cells #[.bool sy, .slice Py ly ky, .bool ty, .slice Qy my dy] 27)).alloc (.cells #[.bool false, .slice none 0 0, .bool false, .slice none 0 0] 27)) = w1 at *
  have X1 := hid ((Ext.refl _).trans hy1.out)
  go_cut [2, 3] (fun v2 v3 wx => ∃ (b1q : Bool) (A1q : Option Addr) (n1q c1q : Nat) (e1q : Bool) (B1q : Option Addr) (m1q d1q : Nat) (b3q : Bool) (A3q : Option Addr) (n3q c3q : Nat) (e3q : Bool) (B3q : Option Addr) (m3q d3q : Nat), v2 = .pointer (some ⟨w.heap.size, 0, none⟩) ∧ v3 = .pointer (some ⟨w.heap.size + 1, 0, none⟩) ∧ Bk 27 wx (w.heap.size) #[.bool b1q, .slice A1q n1q c1q, .bool e1q, .slice B1q m1q d1q] ∧ Bk 27 wx (w.heap.size + 1) #[.bool b3q, .slice A3q n3q c3q, .bool e3q, .slice B3q m3q d3q] ∧ Bk 27 wx (w.heap.size + 1 + 1) #[.bool false, .slice none 0 0, .bool false, .slice none 0 0] ∧ Rc (K + 2) wx w.heap.size b1q A1q n1q c1q e1q B1q m1q d1q x ∧ Rc (K' + 2) wx w.heap.size b3q A3q n3q c3q e3q B3q m3q d3q y ∧ Ext w wx)
  case first =>
    refine wp_region_held_drew (S := fun _ => True) (by kernel_rfl) trivial (fun hS0 => ?_)
    change wpAnyH _ _ _ _ _ 6 #[false, false, false, false, false, false] _ _
    refine wpAnyH_ready (rs := [0, 2]) (by kernel_rfl) (by simp) ?_
    refine drawn_loadS 0 8 27 (.tmp 2) (w.heap.size) 27 #[.bool sx, .slice Px lx kx, .bool tx, .slice Qx mx dx] _ (by kernel_rfl) rfl (Bx.out.ext (Ext.refl _).drew) Try.underlying27 rfl info_rat trivial ?_ ?_
    · skip
      simp only [Act.put, List.setIfInBounds_toArray, List.set_cons_zero, List.set_cons_succ]
      refine wpAnyH_ready (rs := [1, 2]) (by kernel_rfl) (by simp) ?_
      refine drawn_call1 1 (some 9) (.tmp 8) (ts := #[27]) (by kernel_rfl) (enters_of Try.func49 (by kernel_rfl) rfl) rfl (rput_v (Hx.out.ext (X1.out.trans (Ext.refl _).drew)) (by omega)) (fun E v1 hh => ?_) ?_
      · skip
        obtain ⟨b1q, A1q, n1q, c1q, e1q, B1q, m1q, d1q, rfl, o1, hx1⟩ := hh
        refine ⟨_, rfl, trivial, ?_⟩
        simp only [Act.put, List.setIfInBounds_toArray, List.set_cons_zero, List.set_cons_succ]
        refine wpAnyH_ready (rs := [2]) (by kernel_rfl) (by simp) ?_
        refine drawn_loadS 2 10 27 (.tmp 3) (w.heap.size + 1) 27 #[.bool sy, .slice Py ly ky, .bool ty, .slice Qy my dy] _ (by kernel_rfl) rfl (By.out.ext ((Ext.refl _).drew.trans hx1)) Try.underlying27 rfl info_rat trivial ?_ ?_
        · skip
          simp only [Act.put, List.setIfInBounds_toArray, List.set_cons_zero, List.set_cons_succ]
          refine wpAnyH_ready (rs := [3]) (by kernel_rfl) (by simp) ?_
          refine drawn_call1 3 (some 11) (.tmp 10) (ts := #[27]) (by kernel_rfl) (enters_of Try.func49 (by kernel_rfl) rfl) rfl (rput_v (Hy.out.ext ((X1.out.trans (Ext.refl _).drew).trans hx1)) (by omega)) (fun E v3 hh => ?_) ?_
          · skip
            obtain ⟨b3q, A3q, n3q, c3q, e3q, B3q, m3q, d3q, rfl, o3, hx3⟩ := hh
            refine ⟨_, rfl, trivial, ?_⟩
            simp only [Act.put, List.setIfInBounds_toArray, List.set_cons_zero, List.set_cons_succ]
            refine wpAnyH_ready (rs := [4]) (by kernel_rfl) (by simp) ?_
            have hq4 := (Bx.out.ext (((Ext.refl _).drew.trans hx1).trans hx3))
            refine drawn_store 4 27 (.tmp 2) (.tmp 9) (w.heap.size) #[.bool b1q, .slice A1q n1q c1q, .bool e1q, .slice B1q m1q d1q] #[.bool sx, .slice Px lx kx, .bool tx, .slice Qx mx dx] 27 (by kernel_rfl) rfl rfl hq4.h info_rat rfl one_four (fun v4 hb4 hg4 => ⟨trivial, ?_⟩) ?_
            · skip
              simp only [Act.put, List.setIfInBounds_toArray, List.set_cons_zero, List.set_cons_succ]
              refine wpAnyH_ready (rs := [5]) (by kernel_rfl) (by simp) ?_
              have hq5 := ((By.out.ext (((Ext.refl _).drew.trans hx1).trans hx3)).grown hg4 (by omega))
              refine drawn_store 5 27 (.tmp 3) (.tmp 11) (w.heap.size + 1) #[.bool b3q, .slice A3q n3q c3q, .bool e3q, .slice B3q m3q d3q] #[.bool sy, .slice Py ly ky, .bool ty, .slice Qy my dy] 27 (by kernel_rfl) rfl rfl hq5.h info_rat rfl one_four (fun v5 hb5 hg5 => ⟨trivial, ?_⟩) ?_
              · skip
                simp only [Act.put, List.setIfInBounds_toArray, List.set_cons_zero, List.set_cons_succ]
                refine wpAnyH_done (by kernel_rfl) ?_ _
                go_step
                go_step
                go_meet
                case rel => exact ⟨_, _, _, _, _, _, _, _, _, _, _, _, _, _, _, _, rfl, rfl, ((show Bk 27 v4 (w.heap.size) #[.bool b1q, .slice A1q n1q c1q, .bool e1q, .slice B1q m1q d1q] from hb4).grown hg5 (by omega)), (show Bk 27 v5 (w.heap.size + 1) #[.bool b3q, .slice A3q n3q c3q, .bool e3q, .slice B3q m3q d3q] from hb5), (((Bo.out.ext (((Ext.refl _).drew.trans hx1).trans hx3)).grown hg4 (by omega)).grown hg5 (by omega)), ((((o1.mono (X1.out.trans (Ext.refl _).drew).size).ext hx3).gbk hq4 (by decide) hg4).gbk hq5 (by decide) hg5), (((o3.mono ((X1.out.trans (Ext.refl _).drew).trans hx1).size).gbk hq4 (by decide) hg4).gbk hq5 (by decide) hg5), (((((X1.out.trans (Ext.refl _).drew).trans hx1).trans hx3).gb hg4 (by omega)).gb hg5 (by omega))⟩
              exact drawn_nil
            exact drawn_nil
          exact drawn_nil
        exact drawn_nil
      refine drawn_loadS 2 10 27 (.tmp 3) (w.heap.size + 1) 27 #[.bool sy, .slice Py ly ky, .bool ty, .slice Qy my dy] _ (by kernel_rfl) rfl (By.out.ext (Ext.refl _).drew) Try.underlying27 rfl info_rat trivial ?_ ?_
      · skip
        simp only [Act.put, List.setIfInBounds_toArray, List.set_cons_zero, List.set_cons_succ]
        refine wpAnyH_ready (rs := [1]) (by kernel_rfl) (by simp) ?_
        refine drawn_call1 1 (some 9) (.tmp 8) (ts := #[27]) (by kernel_rfl) (enters_of Try.func49 (by kernel_rfl) rfl) rfl (rput_v (Hx.out.ext (X1.out.trans (Ext.refl _).drew)) (by omega)) (fun E v1 hh => ?_) ?_
        · skip
          obtain ⟨b1q, A1q, n1q, c1q, e1q, B1q, m1q, d1q, rfl, o1, hx1⟩ := hh
          refine ⟨_, rfl, trivial, ?_⟩
          simp only [Act.put, List.setIfInBounds_toArray, List.set_cons_zero, List.set_cons_succ]
          refine wpAnyH_ready (rs := [3]) (by kernel_rfl) (by simp) ?_
          refine drawn_call1 3 (some 11) (.tmp 10) (ts := #[27]) (by kernel_rfl) (enters_of Try.func49 (by kernel_rfl) rfl) rfl (rput_v (Hy.out.ext ((X1.out.trans (Ext.refl _).drew).trans hx1)) (by omega)) (fun E v3 hh => ?_) ?_
          · skip
            obtain ⟨b3q, A3q, n3q, c3q, e3q, B3q, m3q, d3q, rfl, o3, hx3⟩ := hh
            refine ⟨_, rfl, trivial, ?_⟩
            simp only [Act.put, List.setIfInBounds_toArray, List.set_cons_zero, List.set_cons_succ]
            refine wpAnyH_ready (rs := [4]) (by kernel_rfl) (by simp) ?_
            have hq4 := (Bx.out.ext (((Ext.refl _).drew.trans hx1).trans hx3))
            refine drawn_store 4 27 (.tmp 2) (.tmp 9) (w.heap.size) #[.bool b1q, .slice A1q n1q c1q, .bool e1q, .slice B1q m1q d1q] #[.bool sx, .slice Px lx kx, .bool tx, .slice Qx mx dx] 27 (by kernel_rfl) rfl rfl hq4.h info_rat rfl one_four (fun v4 hb4 hg4 => ⟨trivial, ?_⟩) ?_
            · skip
              simp only [Act.put, List.setIfInBounds_toArray, List.set_cons_zero, List.set_cons_succ]
              refine wpAnyH_ready (rs := [5]) (by kernel_rfl) (by simp) ?_
              have hq5 := ((By.out.ext (((Ext.refl _).drew.trans hx1).trans hx3)).grown hg4 (by omega))
              refine drawn_store 5 27 (.tmp 3) (.tmp 11) (w.heap.size + 1) #[.bool b3q, .slice A3q n3q c3q, .bool e3q, .slice B3q m3q d3q] #[.bool sy, .slice Py ly ky, .bool ty, .slice Qy my dy] 27 (by kernel_rfl) rfl rfl hq5.h info_rat rfl one_four (fun v5 hb5 hg5 => ⟨trivial, ?_⟩) ?_
              · skip
                simp only [Act.put, List.setIfInBounds_toArray, List.set_cons_zero, List.set_cons_succ]
                refine wpAnyH_done (by kernel_rfl) ?_ _
                go_step
                go_step
                go_meet
                case rel => exact ⟨_, _, _, _, _, _, _, _, _, _, _, _, _, _, _, _, rfl, rfl, ((show Bk 27 v4 (w.heap.size) #[.bool b1q, .slice A1q n1q c1q, .bool e1q, .slice B1q m1q d1q] from hb4).grown hg5 (by omega)), (show Bk 27 v5 (w.heap.size + 1) #[.bool b3q, .slice A3q n3q c3q, .bool e3q, .slice B3q m3q d3q] from hb5), (((Bo.out.ext (((Ext.refl _).drew.trans hx1).trans hx3)).grown hg4 (by omega)).grown hg5 (by omega)), ((((o1.mono (X1.out.trans (Ext.refl _).drew).size).ext hx3).gbk hq4 (by decide) hg4).gbk hq5 (by decide) hg5), (((o3.mono ((X1.out.trans (Ext.refl _).drew).trans hx1).size).gbk hq4 (by decide) hg4).gbk hq5 (by decide) hg5), (((((X1.out.trans (Ext.refl _).drew).trans hx1).trans hx3).gb hg4 (by omega)).gb hg5 (by omega))⟩
              exact drawn_nil
            exact drawn_nil
          exact drawn_nil
        exact drawn_nil
      exact drawn_nil
    refine drawn_loadS 2 10 27 (.tmp 3) (w.heap.size + 1) 27 #[.bool sy, .slice Py ly ky, .bool ty, .slice Qy my dy] _ (by kernel_rfl) rfl (By.out.ext (Ext.refl _).drew) Try.underlying27 rfl info_rat trivial ?_ ?_
    · skip
      simp only [Act.put, List.setIfInBounds_toArray, List.set_cons_zero, List.set_cons_succ]
      refine wpAnyH_ready (rs := [0]) (by kernel_rfl) (by simp) ?_
      refine drawn_loadS 0 8 27 (.tmp 2) (w.heap.size) 27 #[.bool sx, .slice Px lx kx, .bool tx, .slice Qx mx dx] _ (by kernel_rfl) rfl (Bx.out.ext (Ext.refl _).drew) Try.underlying27 rfl info_rat trivial ?_ ?_
      · skip
        simp only [Act.put, List.setIfInBounds_toArray, List.set_cons_zero, List.set_cons_succ]
        refine wpAnyH_ready (rs := [1]) (by kernel_rfl) (by simp) ?_
        refine drawn_call1 1 (some 9) (.tmp 8) (ts := #[27]) (by kernel_rfl) (enters_of Try.func49 (by kernel_rfl) rfl) rfl (rput_v (Hx.out.ext (X1.out.trans (Ext.refl _).drew)) (by omega)) (fun E v1 hh => ?_) ?_
        · skip
          obtain ⟨b1q, A1q, n1q, c1q, e1q, B1q, m1q, d1q, rfl, o1, hx1⟩ := hh
          refine ⟨_, rfl, trivial, ?_⟩
          simp only [Act.put, List.setIfInBounds_toArray, List.set_cons_zero, List.set_cons_succ]
          refine wpAnyH_ready (rs := [3]) (by kernel_rfl) (by simp) ?_
          refine drawn_call1 3 (some 11) (.tmp 10) (ts := #[27]) (by kernel_rfl) (enters_of Try.func49 (by kernel_rfl) rfl) rfl (rput_v (Hy.out.ext ((X1.out.trans (Ext.refl _).drew).trans hx1)) (by omega)) (fun E v3 hh => ?_) ?_
          · skip
            obtain ⟨b3q, A3q, n3q, c3q, e3q, B3q, m3q, d3q, rfl, o3, hx3⟩ := hh
            refine ⟨_, rfl, trivial, ?_⟩
            simp only [Act.put, List.setIfInBounds_toArray, List.set_cons_zero, List.set_cons_succ]
            refine wpAnyH_ready (rs := [4]) (by kernel_rfl) (by simp) ?_
            have hq4 := (Bx.out.ext (((Ext.refl _).drew.trans hx1).trans hx3))
            refine drawn_store 4 27 (.tmp 2) (.tmp 9) (w.heap.size) #[.bool b1q, .slice A1q n1q c1q, .bool e1q, .slice B1q m1q d1q] #[.bool sx, .slice Px lx kx, .bool tx, .slice Qx mx dx] 27 (by kernel_rfl) rfl rfl hq4.h info_rat rfl one_four (fun v4 hb4 hg4 => ⟨trivial, ?_⟩) ?_
            · skip
              simp only [Act.put, List.setIfInBounds_toArray, List.set_cons_zero, List.set_cons_succ]
              refine wpAnyH_ready (rs := [5]) (by kernel_rfl) (by simp) ?_
              have hq5 := ((By.out.ext (((Ext.refl _).drew.trans hx1).trans hx3)).grown hg4 (by omega))
              refine drawn_store 5 27 (.tmp 3) (.tmp 11) (w.heap.size + 1) #[.bool b3q, .slice A3q n3q c3q, .bool e3q, .slice B3q m3q d3q] #[.bool sy, .slice Py ly ky, .bool ty, .slice Qy my dy] 27 (by kernel_rfl) rfl rfl hq5.h info_rat rfl one_four (fun v5 hb5 hg5 => ⟨trivial, ?_⟩) ?_
              · skip
                simp only [Act.put, List.setIfInBounds_toArray, List.set_cons_zero, List.set_cons_succ]
                refine wpAnyH_done (by kernel_rfl) ?_ _
                go_step
                go_step
                go_meet
                case rel => exact ⟨_, _, _, _, _, _, _, _, _, _, _, _, _, _, _, _, rfl, rfl, ((show Bk 27 v4 (w.heap.size) #[.bool b1q, .slice A1q n1q c1q, .bool e1q, .slice B1q m1q d1q] from hb4).grown hg5 (by omega)), (show Bk 27 v5 (w.heap.size + 1) #[.bool b3q, .slice A3q n3q c3q, .bool e3q, .slice B3q m3q d3q] from hb5), (((Bo.out.ext (((Ext.refl _).drew.trans hx1).trans hx3)).grown hg4 (by omega)).grown hg5 (by omega)), ((((o1.mono (X1.out.trans (Ext.refl _).drew).size).ext hx3).gbk hq4 (by decide) hg4).gbk hq5 (by decide) hg5), (((o3.mono ((X1.out.trans (Ext.refl _).drew).trans hx1).size).gbk hq4 (by decide) hg4).gbk hq5 (by decide) hg5), (((((X1.out.trans (Ext.refl _).drew).trans hx1).trans hx3).gb hg4 (by omega)).gb hg5 (by omega))⟩
              exact drawn_nil
            exact drawn_nil
          exact drawn_nil
        exact drawn_nil
      exact drawn_nil
    exact drawn_nil
  case rest =>
  obtain ⟨b1q, A1q, n1q, c1q, e1q, B1q, m1q, d1q, b3q, A3q, n3q, c3q, e3q, B3q, m3q, d3q, rfl, rfl, Bxc2, Byc2, Boc2, Opc2, Oqc2, Xc2⟩ := hcut
  obtain ⟨w2, hw2⟩ : ∃ w2, w2 = wc := ⟨_, rfl⟩
  subst hw2
  have HBxc2 := hid Bxc2
  clear Bxc2
  have HByc2 := hid Byc2
  clear Byc2
  have HBoc2 := hid Boc2
  clear Boc2
  have HOpc2 := hid Opc2
  clear Opc2
  have HOqc2 := hid Oqc2
  clear Oqc2
  have X2 := hid Xc2
  clear Xc2
  go_upto_region 3 with fail
  go_cut [6] (fun v6 wx => ∃ (g6c : Nat) (b14q : Bool) (A14q : Option Addr) (n14q c14q : Nat) (e14q : Bool) (B14q : Option Addr) (m14q d14q : Nat), v6 = .pointer (some ⟨g6c, 0, none⟩) ∧ w2.heap.size ≤ g6c ∧ Bk 27 wx (g6c) #[.bool b14q, .slice A14q n14q c14q, .bool e14q, .slice B14q m14q d14q] ∧ Bk 27 wx (w.heap.size + 1 + 1) #[.bool false, .slice none 0 0, .bool false, .slice none 0 0] ∧ Rc (2 * K + 2 * K' + 9) wx w.heap.size b14q A14q n14q c14q e14q B14q m14q d14q (x + y) ∧ Ext w wx)
  case first =>
    refine wp_region_held_drew (S := fun w' => Ext w w' ∧ Bk 27 w' (w.heap.size) #[.bool b1q, .slice A1q n1q c1q, .bool e1q, .slice B1q m1q d1q] ∧ Bk 27 w' (w.heap.size + 1) #[.bool b3q, .slice A3q n3q c3q, .bool e3q, .slice B3q m3q d3q]) (by kernel_rfl) ⟨(X2.out.trans (Ext.refl _).drew), (HBxc2.out.ext (Ext.refl _).drew), (HByc2.out.ext (Ext.refl _).drew)⟩ (fun hS0 => ?_)
    change wpAnyH _ _ _ _ _ 21 #[false, false, false, false, false, false, false, false, false, false, false, false, false, false, false, false, false, false, false, false, false] _ _
    refine drawn_free 0 13 (v := ?v0_1) (.move (.tmp 5)) (by kernel_rfl) ?hy0_1 (by kernel_rfl) (by kernel_rfl) (by kernel_rfl) (fun _ _ _ _ h => h) hS0 ?hr0_1
    case hy0_1 => (intro o ho w' hS; unfold execOp; simp only [ho]; go_simp; try with_reducible rfl)
    simp only [Act.put, List.setIfInBounds_toArray, List.set_cons_zero, List.set_cons_succ]
    refine drawn_load 1 14 27 (.tmp 2) (w.heap.size) 27 #[.bool b1q, .slice A1q n1q c1q, .bool e1q, .slice B1q m1q d1q] (0, 0) _ (by kernel_rfl) rfl (fun w' hS => hS.2.1.h) Try.underlying27 rfl info_rat (by kernel_rfl) (by kernel_rfl) (by kernel_rfl) (fun _ _ _ _ h => h) hS0 ?_
    simp only [Act.put, List.setIfInBounds_toArray, List.set_cons_zero, List.set_cons_succ]
    refine drawn_load 2 15 27 (.tmp 3) (w.heap.size + 1) 27 #[.bool b3q, .slice A3q n3q c3q, .bool e3q, .slice B3q m3q d3q] (0, 0) _ (by kernel_rfl) rfl (fun w' hS => hS.2.2.h) Try.underlying27 rfl info_rat (by kernel_rfl) (by kernel_rfl) (by kernel_rfl) (fun _ _ _ _ h => h) hS0 ?_
    simp only [Act.put, List.setIfInBounds_toArray, List.set_cons_zero, List.set_cons_succ]
    refine drawn_free 4 17 (v := ?v4_2) (.move (.tmp 5)) (by kernel_rfl) ?hy4_2 (by kernel_rfl) (by kernel_rfl) (by kernel_rfl) (fun _ _ _ _ h => h) hS0 ?hr4_2
    case hy4_2 => (intro o ho w' hS; unfold execOp; simp only [ho]; go_simp; try with_reducible rfl)
    simp only [Act.put, List.setIfInBounds_toArray, List.set_cons_zero, List.set_cons_succ]
    refine drawn_load 5 18 27 (.tmp 3) (w.heap.size + 1) 27 #[.bool b3q, .slice A3q n3q c3q, .bool e3q, .slice B3q m3q d3q] (0, 0) _ (by kernel_rfl) rfl (fun w' hS => hS.2.2.h) Try.underlying27 rfl info_rat (by kernel_rfl) (by kernel_rfl) (by kernel_rfl) (fun _ _ _ _ h => h) hS0 ?_
    simp only [Act.put, List.setIfInBounds_toArray, List.set_cons_zero, List.set_cons_succ]
    refine drawn_load 6 19 27 (.tmp 2) (w.heap.size) 27 #[.bool b1q, .slice A1q n1q c1q, .bool e1q, .slice B1q m1q d1q] (0, 0) _ (by kernel_rfl) rfl (fun w' hS => hS.2.1.h) Try.underlying27 rfl info_rat (by kernel_rfl) (by kernel_rfl) (by kernel_rfl) (fun _ _ _ _ h => h) hS0 ?_
    simp only [Act.put, List.setIfInBounds_toArray, List.set_cons_zero, List.set_cons_succ]
    refine drawn_free 9 22 (v := ?v9_3) (.fieldAddr 27 (.tmp 2) 1) (by kernel_rfl) ?hy9_3 (by kernel_rfl) (by kernel_rfl) (by kernel_rfl) (fun _ _ _ _ h => h) hS0 ?hr9_3
    case hy9_3 => (intro o ho w' hS; unfold execOp; simp only [ho]; go_simp; try with_reducible rfl)
    simp only [Act.put, List.setIfInBounds_toArray, List.set_cons_zero, List.set_cons_succ]
    refine drawn_free 10 23 (v := ?v10_4) (.load 24 (.tmp 22)) (by kernel_rfl) ?hy10_4 (by kernel_rfl) (by kernel_rfl) (by kernel_rfl) (fun _ _ _ _ h => h) hS0 ?hr10_4
    case hy10_4 => (intro o ho w' hS; have c2 : w'.cell? ⟨w.heap.size, 2, none⟩ = some (.bool e1q) := hS.2.1.c 2; have c3 : w'.cell? ⟨w.heap.size, 3, none⟩ = some (.slice B1q m1q d1q) := hS.2.1.c 3; unfold execOp; simp only [ho]; go_simp; try with_reducible rfl)
    simp only [Act.put, List.setIfInBounds_toArray, List.set_cons_zero, List.set_cons_succ]
    refine drawn_free 11 24 (v := ?v11_5) (.fieldAddr 27 (.tmp 3) 1) (by kernel_rfl) ?hy11_5 (by kernel_rfl) (by kernel_rfl) (by kernel_rfl) (fun _ _ _ _ h => h) hS0 ?hr11_5
    case hy11_5 => (intro o ho w' hS; unfold execOp; simp only [ho]; go_simp; try with_reducible rfl)
    simp only [Act.put, List.setIfInBounds_toArray, List.set_cons_zero, List.set_cons_succ]
    refine drawn_free 12 25 (v := ?v12_6) (.load 24 (.tmp 24)) (by kernel_rfl) ?hy12_6 (by kernel_rfl) (by kernel_rfl) (by kernel_rfl) (fun _ _ _ _ h => h) hS0 ?hr12_6
    case hy12_6 => (intro o ho w' hS; have c2 : w'.cell? ⟨w.heap.size + 1, 2, none⟩ = some (.bool e3q) := hS.2.2.c 2; have c3 : w'.cell? ⟨w.heap.size + 1, 3, none⟩ = some (.slice B3q m3q d3q) := hS.2.2.c 3; unfold execOp; simp only [ho]; go_simp; try with_reducible rfl)
    simp only [Act.put, List.setIfInBounds_toArray, List.set_cons_zero, List.set_cons_succ]
    refine wpAnyH_ready (rs := [3, 18]) (by kernel_rfl) (by simp) ?_
    refine drawn_callv2 3 (some 16) (.tmp 13) (.tmp 14) (.tmp 15) (ts := #[27, 27]) (by kernel_rfl) rfl (enters_of Try.func55 (by kernel_rfl) rfl) rfl rfl (qcross_v (HOpc2.out.ext (Ext.refl _).drew).nu.iz (HOqc2.out.ext (Ext.refl _).drew).de.iz (by omega)) (fun E v3 hh => ?_) ?_
    · skip
      obtain ⟨b3q, A3q, n3q, c3q, rfl, o3, hx3⟩ := hh
      refine ⟨_, rfl, ⟨((X2.out.trans (Ext.refl _).drew).trans hx3), (HBxc2.out.ext ((Ext.refl _).drew.trans hx3)), (HByc2.out.ext ((Ext.refl _).drew.trans hx3))⟩, ?_⟩
      simp only [Act.put, List.setIfInBounds_toArray, List.set_cons_zero, List.set_cons_succ]
      refine wpAnyH_ready (rs := [7, 18]) (by kernel_rfl) (by simp) ?_
      refine drawn_callv2 7 (some 20) (.tmp 17) (.tmp 18) (.tmp 19) (ts := #[27, 27]) (by kernel_rfl) rfl (enters_of Try.func55 (by kernel_rfl) rfl) rfl rfl (qcross_v (HOqc2.out.ext ((Ext.refl _).drew.trans hx3)).nu.iz (HOpc2.out.ext ((Ext.refl _).drew.trans hx3)).de.iz (by omega)) (fun E v7 hh => ?_) ?_
      · skip
        obtain ⟨b7q, A7q, n7q, c7q, rfl, o7, hx7⟩ := hh
        refine ⟨_, rfl, ⟨(((X2.out.trans (Ext.refl _).drew).trans hx3).trans hx7), (HBxc2.out.ext (((Ext.refl _).drew.trans hx3).trans hx7)), (HByc2.out.ext (((Ext.refl _).drew.trans hx3).trans hx7))⟩, ?_⟩
        simp only [Act.put, List.setIfInBounds_toArray, List.set_cons_zero, List.set_cons_succ]
        refine wpAnyH_ready (rs := [8, 18]) (by kernel_rfl) (by simp) ?_
        refine drawn_call2 8 (some 21) (.tmp 16) (.tmp 20) (ts := #[24, 24]) (by kernel_rfl) (enters_of Try.func56 (by kernel_rfl) rfl) rfl rfl (wadd_v ((o3.mono (X2.out.trans (Ext.refl _).drew).size).ext hx7).iz (o7.mono ((X2.out.trans (Ext.refl _).drew).trans hx3).size).iz (by omega)) (fun E v8 hh => ?_) ?_
        · skip
          obtain ⟨b8q, A8q, n8q, c8q, rfl, o8, hx8⟩ := hh
          refine ⟨_, rfl, ⟨((((X2.out.trans (Ext.refl _).drew).trans hx3).trans hx7).trans hx8), (HBxc2.out.ext ((((Ext.refl _).drew.trans hx3).trans hx7).trans hx8)), (HByc2.out.ext ((((Ext.refl _).drew.trans hx3).trans hx7).trans hx8))⟩, ?_⟩
          simp only [Act.put, List.setIfInBounds_toArray, List.set_cons_zero, List.set_cons_succ]
          refine wpAnyH_ready (rs := [13, 18]) (by kernel_rfl) (by simp) ?_
          refine drawn_call2 13 (some 26) (.tmp 23) (.tmp 25) (ts := #[24, 24]) (by kernel_rfl) (enters_of Try.func54 (by kernel_rfl) rfl) rfl rfl (wmul_v (HOpc2.out.ext ((((Ext.refl _).drew.trans hx3).trans hx7).trans hx8)).de.iz (HOqc2.out.ext ((((Ext.refl _).drew.trans hx3).trans hx7).trans hx8)).de.iz (by omega)) (fun E v13 hh => ?_) ?_
          · skip
            obtain ⟨b13q, A13q, n13q, c13q, rfl, o13, hx13⟩ := hh
            refine ⟨_, rfl, ⟨(((((X2.out.trans (Ext.refl _).drew).trans hx3).trans hx7).trans hx8).trans hx13), (HBxc2.out.ext (((((Ext.refl _).drew.trans hx3).trans hx7).trans hx8).trans hx13)), (HByc2.out.ext (((((Ext.refl _).drew.trans hx3).trans hx7).trans hx8).trans hx13))⟩, ?_⟩
            simp only [Act.put, List.setIfInBounds_toArray, List.set_cons_zero, List.set_cons_succ]
            refine wpAnyH_ready (rs := [14, 18]) (by kernel_rfl) (by simp) ?_
            refine drawn_call2 14 (some 27) (.tmp 21) (.tmp 26) (ts := #[24, 24]) (by kernel_rfl) (enters_of Try.func9 (by kernel_rfl) rfl) rfl rfl (rof_is (2 * K + 2 * K' + 9) ((o8.mono (((X2.out.trans (Ext.refl _).drew).trans hx3).trans hx7).size).ext hx13).iz (o13.mono ((((X2.out.trans (Ext.refl _).drew).trans hx3).trans hx7).trans hx8).size).iz (dens_ne x y) (by omega) (by omega) (by omega) (rat_add_parts x y)) (fun E v14 hh => ?_) ?_
            · skip
              obtain ⟨b14q, A14q, n14q, c14q, e14q, B14q, m14q, d14q, rfl, o14, hx14⟩ := hh
              refine ⟨_, rfl, ⟨((((((X2.out.trans (Ext.refl _).drew).trans hx3).trans hx7).trans hx8).trans hx13).trans hx14), (HBxc2.out.ext ((((((Ext.refl _).drew.trans hx3).trans hx7).trans hx8).trans hx13).trans hx14)), (HByc2.out.ext ((((((Ext.refl _).drew.trans hx3).trans hx7).trans hx8).trans hx13).trans hx14))⟩, ?_⟩
              simp only [Act.put, List.setIfInBounds_toArray, List.set_cons_zero, List.set_cons_succ]
              refine drawn_free 15 12 (v := ?v15_7) (.move (.tmp 27)) (by kernel_rfl) ?hy15_7 (by kernel_rfl) (by kernel_rfl) (by kernel_rfl) (fun _ _ _ _ h => h) ⟨((((((X2.out.trans (Ext.refl _).drew).trans hx3).trans hx7).trans hx8).trans hx13).trans hx14), (HBxc2.out.ext ((((((Ext.refl _).drew.trans hx3).trans hx7).trans hx8).trans hx13).trans hx14)), (HByc2.out.ext ((((((Ext.refl _).drew.trans hx3).trans hx7).trans hx8).trans hx13).trans hx14))⟩ ?hr15_7
              case hy15_7 => (intro o ho w' hS; unfold execOp; simp only [ho]; go_simp; try with_reducible rfl)
              simp only [Act.put, List.setIfInBounds_toArray, List.set_cons_zero, List.set_cons_succ]
              refine drawn_free 16 28 (v := ?v16_8) (.extract (.tmp 12) 0) (by kernel_rfl) ?hy16_8 (by kernel_rfl) (by kernel_rfl) (by kernel_rfl) (fun _ _ _ _ h => h) ⟨((((((X2.out.trans (Ext.refl _).drew).trans hx3).trans hx7).trans hx8).trans hx13).trans hx14), (HBxc2.out.ext ((((((Ext.refl _).drew.trans hx3).trans hx7).trans hx8).trans hx13).trans hx14)), (HByc2.out.ext ((((((Ext.refl _).drew.trans hx3).trans hx7).trans hx8).trans hx13).trans hx14))⟩ ?hr16_8
              case hy16_8 => (intro o ho w' hS; unfold execOp; simp only [ho]; go_simp; try with_reducible rfl)
              simp only [Act.put, List.setIfInBounds_toArray, List.set_cons_zero, List.set_cons_succ]
              refine drawn_free 17 29 (v := ?v17_9) (.extract (.tmp 12) 1) (by kernel_rfl) ?hy17_9 (by kernel_rfl) (by kernel_rfl) (by kernel_rfl) (fun _ _ _ _ h => h) ⟨((((((X2.out.trans (Ext.refl _).drew).trans hx3).trans hx7).trans hx8).trans hx13).trans hx14), (HBxc2.out.ext ((((((Ext.refl _).drew.trans hx3).trans hx7).trans hx8).trans hx13).trans hx14)), (HByc2.out.ext ((((((Ext.refl _).drew.trans hx3).trans hx7).trans hx8).trans hx13).trans hx14))⟩ ?hr17_9
              case hy17_9 => (intro o ho w' hS; unfold execOp; simp only [ho]; go_simp; try with_reducible rfl)
              simp only [Act.put, List.setIfInBounds_toArray, List.set_cons_zero, List.set_cons_succ]
              refine wpAnyH_ready (rs := [18]) (by kernel_rfl) (by simp) ?_
              refine drawn_alloc 18 (some 6) (by kernel_rfl) alloc_rat (fun g18 v18 hb18 hx18 hg18 => ⟨⟨(((((((X2.out.trans (Ext.refl _).drew).trans hx3).trans hx7).trans hx8).trans hx13).trans hx14).trans hx18), (HBxc2.out.ext (((((((Ext.refl _).drew.trans hx3).trans hx7).trans hx8).trans hx13).trans hx14).trans hx18)), (HByc2.out.ext (((((((Ext.refl _).drew.trans hx3).trans hx7).trans hx8).trans hx13).trans hx14).trans hx18))⟩, ?_⟩) ?_
              · skip
                simp only [Act.put, List.setIfInBounds_toArray, List.set_cons_zero, List.set_cons_succ]
                refine wpAnyH_ready (rs := [19]) (by kernel_rfl) (by simp) ?_
                have hq19 := (show Bk 27 v18 g18 #[.bool false, .slice none 0 0, .bool false, .slice none 0 0] from hb18)
                refine drawn_store 19 27 (.tmp 6) (.tmp 28) (g18) #[.bool b14q, .slice A14q n14q c14q, .bool e14q, .slice B14q m14q d14q] #[.bool false, .slice none 0 0, .bool false, .slice none 0 0] 27 (by kernel_rfl) rfl rfl hq19.h info_rat rfl one_four (fun v19 hb19 hg19 => ⟨⟨((((((((X2.out.trans (Ext.refl _).drew).trans hx3).trans hx7).trans hx8).trans hx13).trans hx14).trans hx18).gb hg19 (by have h := ((((((X2.out.trans (Ext.refl _).drew).trans hx3).trans hx7).trans hx8).trans hx13).trans hx14).size; have h1 := hg18; omega)), ((HBxc2.out.ext (((((((Ext.refl _).drew.trans hx3).trans hx7).trans hx8).trans hx13).trans hx14).trans hx18)).grown hg19 (by have h0 := (Nat.lt_of_lt_of_le HBxc2.out.lt (Nat.le_trans (Nat.le_trans (Nat.le_trans (Nat.le_trans (Nat.le_trans (Ext.refl _).drew.size hx3.size) hx7.size) hx8.size) hx13.size) hx14.size)); have h1 := hg18; omega)), ((HByc2.out.ext (((((((Ext.refl _).drew.trans hx3).trans hx7).trans hx8).trans hx13).trans hx14).trans hx18)).grown hg19 (by have h0 := (Nat.lt_of_lt_of_le HByc2.out.lt (Nat.le_trans (Nat.le_trans (Nat.le_trans (Nat.le_trans (Nat.le_trans (Ext.refl _).drew.size hx3.size) hx7.size) hx8.size) hx13.size) hx14.size)); have h1 := hg18; omega))⟩, ?_⟩) ?_
                · skip
                  simp only [Act.put, List.setIfInBounds_toArray, List.set_cons_zero, List.set_cons_succ]
                  refine drawn_free 20 7 (v := ?v20_10) (.assign (.tmp 29)) (by kernel_rfl) ?hy20_10 (by kernel_rfl) (by kernel_rfl) (by kernel_rfl) (fun _ _ _ _ h => h) ⟨((((((((X2.out.trans (Ext.refl _).drew).trans hx3).trans hx7).trans hx8).trans hx13).trans hx14).trans hx18).gb hg19 (by have h := ((((((X2.out.trans (Ext.refl _).drew).trans hx3).trans hx7).trans hx8).trans hx13).trans hx14).size; have h1 := hg18; omega)), ((HBxc2.out.ext (((((((Ext.refl _).drew.trans hx3).trans hx7).trans hx8).trans hx13).trans hx14).trans hx18)).grown hg19 (by have h0 := (Nat.lt_of_lt_of_le HBxc2.out.lt (Nat.le_trans (Nat.le_trans (Nat.le_trans (Nat.le_trans (Nat.le_trans (Ext.refl _).drew.size hx3.size) hx7.size) hx8.size) hx13.size) hx14.size)); have h1 := hg18; omega)), ((HByc2.out.ext (((((((Ext.refl _).drew.trans hx3).trans hx7).trans hx8).trans hx13).trans hx14).trans hx18)).grown hg19 (by have h0 := (Nat.lt_of_lt_of_le HByc2.out.lt (Nat.le_trans (Nat.le_trans (Nat.le_trans (Nat.le_trans (Nat.le_trans (Ext.refl _).drew.size hx3.size) hx7.size) hx8.size) hx13.size) hx14.size)); have h1 := hg18; omega))⟩ ?hr20_10
                  case hy20_10 => (intro o ho w' hS; unfold execOp; simp only [ho]; go_simp; try with_reducible rfl)
                  simp only [Act.put, List.setIfInBounds_toArray, List.set_cons_zero, List.set_cons_succ]
                  refine wpAnyH_done (by kernel_rfl) ?_ _
                  go_step
                  go_step
                  go_meet
                  case rel => exact ⟨_, _, _, _, _, _, _, _, _, rfl, (Nat.le_trans (Nat.le_trans (Nat.le_trans (Nat.le_trans (Nat.le_trans (Nat.le_trans (Ext.refl _).drew.size hx3.size) hx7.size) hx8.size) hx13.size) hx14.size) hg18), (show Bk 27 v19 (g18) #[.bool b14q, .slice A14q n14q c14q, .bool e14q, .slice B14q m14q d14q] from hb19), ((HBoc2.out.ext (((((((Ext.refl _).drew.trans hx3).trans hx7).trans hx8).trans hx13).trans hx14).trans hx18)).grown hg19 (by have h0 := (Nat.lt_of_lt_of_le HBoc2.out.lt (Nat.le_trans (Nat.le_trans (Nat.le_trans (Nat.le_trans (Nat.le_trans (Ext.refl _).drew.size hx3.size) hx7.size) hx8.size) hx13.size) hx14.size)); have h1 := hg18; omega)), (((o14.mono (((((X2.out.trans (Ext.refl _).drew).trans hx3).trans hx7).trans hx8).trans hx13).size).ext hx18).gbk hq19 (by decide) hg19), ((((((((X2.out.trans (Ext.refl _).drew).trans hx3).trans hx7).trans hx8).trans hx13).trans hx14).trans hx18).gb hg19 (by have h := ((((((X2.out.trans (Ext.refl _).drew).trans hx3).trans hx7).trans hx8).trans hx13).trans hx14).size; have h1 := hg18; omega))⟩
                exact drawn_nil
              exact drawn_nil
            refine drawn_alloc 18 (some 6) (by kernel_rfl) alloc_rat (fun g18 v18 hb18 hx18 hg18 => ⟨⟨((((((X2.out.trans (Ext.refl _).drew).trans hx3).trans hx7).trans hx8).trans hx13).trans hx18), (HBxc2.out.ext ((((((Ext.refl _).drew.trans hx3).trans hx7).trans hx8).trans hx13).trans hx18)), (HByc2.out.ext ((((((Ext.refl _).drew.trans hx3).trans hx7).trans hx8).trans hx13).trans hx18))⟩, ?_⟩) ?_
            · skip
              simp only [Act.put, List.setIfInBounds_toArray, List.set_cons_zero, List.set_cons_succ]
              refine wpAnyH_ready (rs := [14]) (by kernel_rfl) (by simp) ?_
              refine drawn_call2 14 (some 27) (.tmp 21) (.tmp 26) (ts := #[24, 24]) (by kernel_rfl) (enters_of Try.func9 (by kernel_rfl) rfl) rfl rfl (rof_is (2 * K + 2 * K' + 9) ((o8.mono (((X2.out.trans (Ext.refl _).drew).trans hx3).trans hx7).size).ext (hx13.trans hx18)).iz ((o13.mono ((((X2.out.trans (Ext.refl _).drew).trans hx3).trans hx7).trans hx8).size).ext hx18).iz (dens_ne x y) (by omega) (by omega) (by omega) (rat_add_parts x y)) (fun E v14 hh => ?_) ?_
              · skip
                obtain ⟨b14q, A14q, n14q, c14q, e14q, B14q, m14q, d14q, rfl, o14, hx14⟩ := hh
                refine ⟨_, rfl, ⟨(((((((X2.out.trans (Ext.refl _).drew).trans hx3).trans hx7).trans hx8).trans hx13).trans hx18).trans hx14), (HBxc2.out.ext (((((((Ext.refl _).drew.trans hx3).trans hx7).trans hx8).trans hx13).trans hx18).trans hx14)), (HByc2.out.ext (((((((Ext.refl _).drew.trans hx3).trans hx7).trans hx8).trans hx13).trans hx18).trans hx14))⟩, ?_⟩
                simp only [Act.put, List.setIfInBounds_toArray, List.set_cons_zero, List.set_cons_succ]
                refine drawn_free 15 12 (v := ?v15_11) (.move (.tmp 27)) (by kernel_rfl) ?hy15_11 (by kernel_rfl) (by kernel_rfl) (by kernel_rfl) (fun _ _ _ _ h => h) ⟨(((((((X2.out.trans (Ext.refl _).drew).trans hx3).trans hx7).trans hx8).trans hx13).trans hx18).trans hx14), (HBxc2.out.ext (((((((Ext.refl _).drew.trans hx3).trans hx7).trans hx8).trans hx13).trans hx18).trans hx14)), (HByc2.out.ext (((((((Ext.refl _).drew.trans hx3).trans hx7).trans hx8).trans hx13).trans hx18).trans hx14))⟩ ?hr15_11
                case hy15_11 => (intro o ho w' hS; unfold execOp; simp only [ho]; go_simp; try with_reducible rfl)
                simp only [Act.put, List.setIfInBounds_toArray, List.set_cons_zero, List.set_cons_succ]
                refine drawn_free 16 28 (v := ?v16_12) (.extract (.tmp 12) 0) (by kernel_rfl) ?hy16_12 (by kernel_rfl) (by kernel_rfl) (by kernel_rfl) (fun _ _ _ _ h => h) ⟨(((((((X2.out.trans (Ext.refl _).drew).trans hx3).trans hx7).trans hx8).trans hx13).trans hx18).trans hx14), (HBxc2.out.ext (((((((Ext.refl _).drew.trans hx3).trans hx7).trans hx8).trans hx13).trans hx18).trans hx14)), (HByc2.out.ext (((((((Ext.refl _).drew.trans hx3).trans hx7).trans hx8).trans hx13).trans hx18).trans hx14))⟩ ?hr16_12
                case hy16_12 => (intro o ho w' hS; unfold execOp; simp only [ho]; go_simp; try with_reducible rfl)
                simp only [Act.put, List.setIfInBounds_toArray, List.set_cons_zero, List.set_cons_succ]
                refine drawn_free 17 29 (v := ?v17_13) (.extract (.tmp 12) 1) (by kernel_rfl) ?hy17_13 (by kernel_rfl) (by kernel_rfl) (by kernel_rfl) (fun _ _ _ _ h => h) ⟨(((((((X2.out.trans (Ext.refl _).drew).trans hx3).trans hx7).trans hx8).trans hx13).trans hx18).trans hx14), (HBxc2.out.ext (((((((Ext.refl _).drew.trans hx3).trans hx7).trans hx8).trans hx13).trans hx18).trans hx14)), (HByc2.out.ext (((((((Ext.refl _).drew.trans hx3).trans hx7).trans hx8).trans hx13).trans hx18).trans hx14))⟩ ?hr17_13
                case hy17_13 => (intro o ho w' hS; unfold execOp; simp only [ho]; go_simp; try with_reducible rfl)
                simp only [Act.put, List.setIfInBounds_toArray, List.set_cons_zero, List.set_cons_succ]
                refine wpAnyH_ready (rs := [19]) (by kernel_rfl) (by simp) ?_
                have hq19 := ((show Bk 27 v18 g18 #[.bool false, .slice none 0 0, .bool false, .slice none 0 0] from hb18).ext hx14)
                refine drawn_store 19 27 (.tmp 6) (.tmp 28) (g18) #[.bool b14q, .slice A14q n14q c14q, .bool e14q, .slice B14q m14q d14q] #[.bool false, .slice none 0 0, .bool false, .slice none 0 0] 27 (by kernel_rfl) rfl rfl hq19.h info_rat rfl one_four (fun v19 hb19 hg19 => ⟨⟨((((((((X2.out.trans (Ext.refl _).drew).trans hx3).trans hx7).trans hx8).trans hx13).trans hx18).trans hx14).gb hg19 (by have h := (((((X2.out.trans (Ext.refl _).drew).trans hx3).trans hx7).trans hx8).trans hx13).size; have h1 := hg18; omega)), ((HBxc2.out.ext (((((((Ext.refl _).drew.trans hx3).trans hx7).trans hx8).trans hx13).trans hx18).trans hx14)).grown hg19 (by have h0 := (Nat.lt_of_lt_of_le HBxc2.out.lt (Nat.le_trans (Nat.le_trans (Nat.le_trans (Nat.le_trans (Ext.refl _).drew.size hx3.size) hx7.size) hx8.size) hx13.size)); have h1 := hg18; omega)), ((HByc2.out.ext (((((((Ext.refl _).drew.trans hx3).trans hx7).trans hx8).trans hx13).trans hx18).trans hx14)).grown hg19 (by have h0 := (Nat.lt_of_lt_of_le HByc2.out.lt (Nat.le_trans (Nat.le_trans (Nat.le_trans (Nat.le_trans (Ext.refl _).drew.size hx3.size) hx7.size) hx8.size) hx13.size)); have h1 := hg18; omega))⟩, ?_⟩) ?_
                · skip
                  simp only [Act.put, List.setIfInBounds_toArray, List.set_cons_zero, List.set_cons_succ]
                  refine drawn_free 20 7 (v := ?v20_14) (.assign (.tmp 29)) (by kernel_rfl) ?hy20_14 (by kernel_rfl) (by kernel_rfl) (by kernel_rfl) (fun _ _ _ _ h => h) ⟨((((((((X2.out.trans (Ext.refl _).drew).trans hx3).trans hx7).trans hx8).trans hx13).trans hx18).trans hx14).gb hg19 (by have h := (((((X2.out.trans (Ext.refl _).drew).trans hx3).trans hx7).trans hx8).trans hx13).size; have h1 := hg18; omega)), ((HBxc2.out.ext (((((((Ext.refl _).drew.trans hx3).trans hx7).trans hx8).trans hx13).trans hx18).trans hx14)).grown hg19 (by have h0 := (Nat.lt_of_lt_of_le HBxc2.out.lt (Nat.le_trans (Nat.le_trans (Nat.le_trans (Nat.le_trans (Ext.refl _).drew.size hx3.size) hx7.size) hx8.size) hx13.size)); have h1 := hg18; omega)), ((HByc2.out.ext (((((((Ext.refl _).drew.trans hx3).trans hx7).trans hx8).trans hx13).trans hx18).trans hx14)).grown hg19 (by have h0 := (Nat.lt_of_lt_of_le HByc2.out.lt (Nat.le_trans (Nat.le_trans (Nat.le_trans (Nat.le_trans (Ext.refl _).drew.size hx3.size) hx7.size) hx8.size) hx13.size)); have h1 := hg18; omega))⟩ ?hr20_14
                  case hy20_14 => (intro o ho w' hS; unfold execOp; simp only [ho]; go_simp; try with_reducible rfl)
                  simp only [Act.put, List.setIfInBounds_toArray, List.set_cons_zero, List.set_cons_succ]
                  refine wpAnyH_done (by kernel_rfl) ?_ _
                  go_step
                  go_step
                  go_meet
                  case rel => exact ⟨_, _, _, _, _, _, _, _, _, rfl, (Nat.le_trans (Nat.le_trans (Nat.le_trans (Nat.le_trans (Nat.le_trans (Ext.refl _).drew.size hx3.size) hx7.size) hx8.size) hx13.size) hg18), (show Bk 27 v19 (g18) #[.bool b14q, .slice A14q n14q c14q, .bool e14q, .slice B14q m14q d14q] from hb19), ((HBoc2.out.ext (((((((Ext.refl _).drew.trans hx3).trans hx7).trans hx8).trans hx13).trans hx18).trans hx14)).grown hg19 (by have h0 := (Nat.lt_of_lt_of_le HBoc2.out.lt (Nat.le_trans (Nat.le_trans (Nat.le_trans (Nat.le_trans (Ext.refl _).drew.size hx3.size) hx7.size) hx8.size) hx13.size)); have h1 := hg18; omega)), ((o14.mono ((((((X2.out.trans (Ext.refl _).drew).trans hx3).trans hx7).trans hx8).trans hx13).trans hx18).size).gbk hq19 (by decide) hg19), ((((((((X2.out.trans (Ext.refl _).drew).trans hx3).trans hx7).trans hx8).trans hx13).trans hx18).trans hx14).gb hg19 (by have h := (((((X2.out.trans (Ext.refl _).drew).trans hx3).trans hx7).trans hx8).trans hx13).size; have h1 := hg18; omega))⟩
                exact drawn_nil
              exact drawn_nil
            exact drawn_nil
          refine drawn_alloc 18 (some 6) (by kernel_rfl) alloc_rat (fun g18 v18 hb18 hx18 hg18 => ⟨⟨(((((X2.out.trans (Ext.refl _).drew).trans hx3).trans hx7).trans hx8).trans hx18), (HBxc2.out.ext (((((Ext.refl _).drew.trans hx3).trans hx7).trans hx8).trans hx18)), (HByc2.out.ext (((((Ext.refl _).drew.trans hx3).trans hx7).trans hx8).trans hx18))⟩, ?_⟩) ?_
          · skip
            simp only [Act.put, List.setIfInBounds_toArray, List.set_cons_zero, List.set_cons_succ]
            refine wpAnyH_ready (rs := [13]) (by kernel_rfl) (by simp) ?_
            refine drawn_call2 13 (some 26) (.tmp 23) (.tmp 25) (ts := #[24, 24]) (by kernel_rfl) (enters_of Try.func54 (by kernel_rfl) rfl) rfl rfl (wmul_v (HOpc2.out.ext (((((Ext.refl _).drew.trans hx3).trans hx7).trans hx8).trans hx18)).de.iz (HOqc2.out.ext (((((Ext.refl _).drew.trans hx3).trans hx7).trans hx8).trans hx18)).de.iz (by omega)) (fun E v13 hh => ?_) ?_
            · skip
              obtain ⟨b13q, A13q, n13q, c13q, rfl, o13, hx13⟩ := hh
              refine ⟨_, rfl, ⟨((((((X2.out.trans (Ext.refl _).drew).trans hx3).trans hx7).trans hx8).trans hx18).trans hx13), (HBxc2.out.ext ((((((Ext.refl _).drew.trans hx3).trans hx7).trans hx8).trans hx18).trans hx13)), (HByc2.out.ext ((((((Ext.refl _).drew.trans hx3).trans hx7).trans hx8).trans hx18).trans hx13))⟩, ?_⟩
              simp only [Act.put, List.setIfInBounds_toArray, List.set_cons_zero, List.set_cons_succ]
              refine wpAnyH_ready (rs := [14]) (by kernel_rfl) (by simp) ?_
              refine drawn_call2 14 (some 27) (.tmp 21) (.tmp 26) (ts := #[24, 24]) (by kernel_rfl) (enters_of Try.func9 (by kernel_rfl) rfl) rfl rfl (rof_is (2 * K + 2 * K' + 9) ((o8.mono (((X2.out.trans (Ext.refl _).drew).trans hx3).trans hx7).size).ext (hx18.trans hx13)).iz (o13.mono (((((X2.out.trans (Ext.refl _).drew).trans hx3).trans hx7).trans hx8).trans hx18).size).iz (dens_ne x y) (by omega) (by omega) (by omega) (rat_add_parts x y)) (fun E v14 hh => ?_) ?_
              · skip
                obtain ⟨b14q, A14q, n14q, c14q, e14q, B14q, m14q, d14q, rfl, o14, hx14⟩ := hh
                refine ⟨_, rfl, ⟨(((((((X2.out.trans (Ext.refl _).drew).trans hx3).trans hx7).trans hx8).trans hx18).trans hx13).trans hx14), (HBxc2.out.ext (((((((Ext.refl _).drew.trans hx3).trans hx7).trans hx8).trans hx18).trans hx13).trans hx14)), (HByc2.out.ext (((((((Ext.refl _).drew.trans hx3).trans hx7).trans hx8).trans hx18).trans hx13).trans hx14))⟩, ?_⟩
                simp only [Act.put, List.setIfInBounds_toArray, List.set_cons_zero, List.set_cons_succ]
                refine drawn_free 15 12 (v := ?v15_15) (.move (.tmp 27)) (by kernel_rfl) ?hy15_15 (by kernel_rfl) (by kernel_rfl) (by kernel_rfl) (fun _ _ _ _ h => h) ⟨(((((((X2.out.trans (Ext.refl _).drew).trans hx3).trans hx7).trans hx8).trans hx18).trans hx13).trans hx14), (HBxc2.out.ext (((((((Ext.refl _).drew.trans hx3).trans hx7).trans hx8).trans hx18).trans hx13).trans hx14)), (HByc2.out.ext (((((((Ext.refl _).drew.trans hx3).trans hx7).trans hx8).trans hx18).trans hx13).trans hx14))⟩ ?hr15_15
                case hy15_15 => (intro o ho w' hS; unfold execOp; simp only [ho]; go_simp; try with_reducible rfl)
                simp only [Act.put, List.setIfInBounds_toArray, List.set_cons_zero, List.set_cons_succ]
                refine drawn_free 16 28 (v := ?v16_16) (.extract (.tmp 12) 0) (by kernel_rfl) ?hy16_16 (by kernel_rfl) (by kernel_rfl) (by kernel_rfl) (fun _ _ _ _ h => h) ⟨(((((((X2.out.trans (Ext.refl _).drew).trans hx3).trans hx7).trans hx8).trans hx18).trans hx13).trans hx14), (HBxc2.out.ext (((((((Ext.refl _).drew.trans hx3).trans hx7).trans hx8).trans hx18).trans hx13).trans hx14)), (HByc2.out.ext (((((((Ext.refl _).drew.trans hx3).trans hx7).trans hx8).trans hx18).trans hx13).trans hx14))⟩ ?hr16_16
                case hy16_16 => (intro o ho w' hS; unfold execOp; simp only [ho]; go_simp; try with_reducible rfl)
                simp only [Act.put, List.setIfInBounds_toArray, List.set_cons_zero, List.set_cons_succ]
                refine drawn_free 17 29 (v := ?v17_17) (.extract (.tmp 12) 1) (by kernel_rfl) ?hy17_17 (by kernel_rfl) (by kernel_rfl) (by kernel_rfl) (fun _ _ _ _ h => h) ⟨(((((((X2.out.trans (Ext.refl _).drew).trans hx3).trans hx7).trans hx8).trans hx18).trans hx13).trans hx14), (HBxc2.out.ext (((((((Ext.refl _).drew.trans hx3).trans hx7).trans hx8).trans hx18).trans hx13).trans hx14)), (HByc2.out.ext (((((((Ext.refl _).drew.trans hx3).trans hx7).trans hx8).trans hx18).trans hx13).trans hx14))⟩ ?hr17_17
                case hy17_17 => (intro o ho w' hS; unfold execOp; simp only [ho]; go_simp; try with_reducible rfl)
                simp only [Act.put, List.setIfInBounds_toArray, List.set_cons_zero, List.set_cons_succ]
                refine wpAnyH_ready (rs := [19]) (by kernel_rfl) (by simp) ?_
                have hq19 := ((show Bk 27 v18 g18 #[.bool false, .slice none 0 0, .bool false, .slice none 0 0] from hb18).ext (hx13.trans hx14))
                refine drawn_store 19 27 (.tmp 6) (.tmp 28) (g18) #[.bool b14q, .slice A14q n14q c14q, .bool e14q, .slice B14q m14q d14q] #[.bool false, .slice none 0 0, .bool false, .slice none 0 0] 27 (by kernel_rfl) rfl rfl hq19.h info_rat rfl one_four (fun v19 hb19 hg19 => ⟨⟨((((((((X2.out.trans (Ext.refl _).drew).trans hx3).trans hx7).trans hx8).trans hx18).trans hx13).trans hx14).gb hg19 (by have h := ((((X2.out.trans (Ext.refl _).drew).trans hx3).trans hx7).trans hx8).size; have h1 := hg18; omega)), ((HBxc2.out.ext (((((((Ext.refl _).drew.trans hx3).trans hx7).trans hx8).trans hx18).trans hx13).trans hx14)).grown hg19 (by have h0 := (Nat.lt_of_lt_of_le HBxc2.out.lt (Nat.le_trans (Nat.le_trans (Nat.le_trans (Ext.refl _).drew.size hx3.size) hx7.size) hx8.size)); have h1 := hg18; omega)), ((HByc2.out.ext (((((((Ext.refl _).drew.trans hx3).trans hx7).trans hx8).trans hx18).trans hx13).trans hx14)).grown hg19 (by have h0 := (Nat.lt_of_lt_of_le HByc2.out.lt (Nat.le_trans (Nat.le_trans (Nat.le_trans (Ext.refl _).drew.size hx3.size) hx7.size) hx8.size)); have h1 := hg18; omega))⟩, ?_⟩) ?_
                · skip
                  simp only [Act.put, List.setIfInBounds_toArray, List.set_cons_zero, List.set_cons_succ]
                  refine drawn_free 20 7 (v := ?v20_18) (.assign (.tmp 29)) (by kernel_rfl) ?hy20_18 (by kernel_rfl) (by kernel_rfl) (by kernel_rfl) (fun _ _ _ _ h => h) ⟨((((((((X2.out.trans (Ext.refl _).drew).trans hx3).trans hx7).trans hx8).trans hx18).trans hx13).trans hx14).gb hg19 (by have h := ((((X2.out.trans (Ext.refl _).drew).trans hx3).trans hx7).trans hx8).size; have h1 := hg18; omega)), ((HBxc2.out.ext (((((((Ext.refl _).drew.trans hx3).trans hx7).trans hx8).trans hx18).trans hx13).trans hx14)).grown hg19 (by have h0 := (Nat.lt_of_lt_of_le HBxc2.out.lt (Nat.le_trans (Nat.le_trans (Nat.le_trans (Ext.refl _).drew.size hx3.size) hx7.size) hx8.size)); have h1 := hg18; omega)), ((HByc2.out.ext (((((((Ext.refl _).drew.trans hx3).trans hx7).trans hx8).trans hx18).trans hx13).trans hx14)).grown hg19 (by have h0 := (Nat.lt_of_lt_of_le HByc2.out.lt (Nat.le_trans (Nat.le_trans (Nat.le_trans (Ext.refl _).drew.size hx3.size) hx7.size) hx8.size)); have h1 := hg18; omega))⟩ ?hr20_18
                  case hy20_18 => (intro o ho w' hS; unfold execOp; simp only [ho]; go_simp; try with_reducible rfl)
                  simp only [Act.put, List.setIfInBounds_toArray, List.set_cons_zero, List.set_cons_succ]
                  refine wpAnyH_done (by kernel_rfl) ?_ _
                  go_step
                  go_step
                  go_meet
                  case rel => exact ⟨_, _, _, _, _, _, _, _, _, rfl, (Nat.le_trans (Nat.le_trans (Nat.le_trans (Nat.le_trans (Ext.refl _).drew.size hx3.size) hx7.size) hx8.size) hg18), (show Bk 27 v19 (g18) #[.bool b14q, .slice A14q n14q c14q, .bool e14q, .slice B14q m14q d14q] from hb19), ((HBoc2.out.ext (((((((Ext.refl _).drew.trans hx3).trans hx7).trans hx8).trans hx18).trans hx13).trans hx14)).grown hg19 (by have h0 := (Nat.lt_of_lt_of_le HBoc2.out.lt (Nat.le_trans (Nat.le_trans (Nat.le_trans (Ext.refl _).drew.size hx3.size) hx7.size) hx8.size)); have h1 := hg18; omega)), ((o14.mono ((((((X2.out.trans (Ext.refl _).drew).trans hx3).trans hx7).trans hx8).trans hx18).trans hx13).size).gbk hq19 (by decide) hg19), ((((((((X2.out.trans (Ext.refl _).drew).trans hx3).trans hx7).trans hx8).trans hx18).trans hx13).trans hx14).gb hg19 (by have h := ((((X2.out.trans (Ext.refl _).drew).trans hx3).trans hx7).trans hx8).size; have h1 := hg18; omega))⟩
                exact drawn_nil
              exact drawn_nil
            exact drawn_nil
          exact drawn_nil
        refine drawn_alloc 18 (some 6) (by kernel_rfl) alloc_rat (fun g18 v18 hb18 hx18 hg18 => ⟨⟨((((X2.out.trans (Ext.refl _).drew).trans hx3).trans hx7).trans hx18), (HBxc2.out.ext ((((Ext.refl _).drew.trans hx3).trans hx7).trans hx18)), (HByc2.out.ext ((((Ext.refl _).drew.trans hx3).trans hx7).trans hx18))⟩, ?_⟩) ?_
        · skip
          simp only [Act.put, List.setIfInBounds_toArray, List.set_cons_zero, List.set_cons_succ]
          refine wpAnyH_ready (rs := [8]) (by kernel_rfl) (by simp) ?_
          refine drawn_call2 8 (some 21) (.tmp 16) (.tmp 20) (ts := #[24, 24]) (by kernel_rfl) (enters_of Try.func56 (by kernel_rfl) rfl) rfl rfl (wadd_v ((o3.mono (X2.out.trans (Ext.refl _).drew).size).ext (hx7.trans hx18)).iz ((o7.mono ((X2.out.trans (Ext.refl _).drew).trans hx3).size).ext hx18).iz (by omega)) (fun E v8 hh => ?_) ?_
          · skip
            obtain ⟨b8q, A8q, n8q, c8q, rfl, o8, hx8⟩ := hh
            refine ⟨_, rfl, ⟨(((((X2.out.trans (Ext.refl _).drew).trans hx3).trans hx7).trans hx18).trans hx8), (HBxc2.out.ext (((((Ext.refl _).drew.trans hx3).trans hx7).trans hx18).trans hx8)), (HByc2.out.ext (((((Ext.refl _).drew.trans hx3).trans hx7).trans hx18).trans hx8))⟩, ?_⟩
            simp only [Act.put, List.setIfInBounds_toArray, List.set_cons_zero, List.set_cons_succ]
            refine wpAnyH_ready (rs := [13]) (by kernel_rfl) (by simp) ?_
            refine drawn_call2 13 (some 26) (.tmp 23) (.tmp 25) (ts := #[24, 24]) (by kernel_rfl) (enters_of Try.func54 (by kernel_rfl) rfl) rfl rfl (wmul_v (HOpc2.out.ext (((((Ext.refl _).drew.trans hx3).trans hx7).trans hx18).trans hx8)).de.iz (HOqc2.out.ext (((((Ext.refl _).drew.trans hx3).trans hx7).trans hx18).trans hx8)).de.iz (by omega)) (fun E v13 hh => ?_) ?_
            · skip
              obtain ⟨b13q, A13q, n13q, c13q, rfl, o13, hx13⟩ := hh
              refine ⟨_, rfl, ⟨((((((X2.out.trans (Ext.refl _).drew).trans hx3).trans hx7).trans hx18).trans hx8).trans hx13), (HBxc2.out.ext ((((((Ext.refl _).drew.trans hx3).trans hx7).trans hx18).trans hx8).trans hx13)), (HByc2.out.ext ((((((Ext.refl _).drew.trans hx3).trans hx7).trans hx18).trans hx8).trans hx13))⟩, ?_⟩
              simp only [Act.put, List.setIfInBounds_toArray, List.set_cons_zero, List.set_cons_succ]
              refine wpAnyH_ready (rs := [14]) (by kernel_rfl) (by simp) ?_
              refine drawn_call2 14 (some 27) (.tmp 21) (.tmp 26) (ts := #[24, 24]) (by kernel_rfl) (enters_of Try.func9 (by kernel_rfl) rfl) rfl rfl (rof_is (2 * K + 2 * K' + 9) ((o8.mono ((((X2.out.trans (Ext.refl _).drew).trans hx3).trans hx7).trans hx18).size).ext hx13).iz (o13.mono (((((X2.out.trans (Ext.refl _).drew).trans hx3).trans hx7).trans hx18).trans hx8).size).iz (dens_ne x y) (by omega) (by omega) (by omega) (rat_add_parts x y)) (fun E v14 hh => ?_) ?_
              · skip
                obtain ⟨b14q, A14q, n14q, c14q, e14q, B14q, m14q, d14q, rfl, o14, hx14⟩ := hh
                refine ⟨_, rfl, ⟨(((((((X2.out.trans (Ext.refl _).drew).trans hx3).trans hx7).trans hx18).trans hx8).trans hx13).trans hx14), (HBxc2.out.ext (((((((Ext.refl _).drew.trans hx3).trans hx7).trans hx18).trans hx8).trans hx13).trans hx14)), (HByc2.out.ext (((((((Ext.refl _).drew.trans hx3).trans hx7).trans hx18).trans hx8).trans hx13).trans hx14))⟩, ?_⟩
                simp only [Act.put, List.setIfInBounds_toArray, List.set_cons_zero, List.set_cons_succ]
                refine drawn_free 15 12 (v := ?v15_19) (.move (.tmp 27)) (by kernel_rfl) ?hy15_19 (by kernel_rfl) (by kernel_rfl) (by kernel_rfl) (fun _ _ _ _ h => h) ⟨(((((((X2.out.trans (Ext.refl _).drew).trans hx3).trans hx7).trans hx18).trans hx8).trans hx13).trans hx14), (HBxc2.out.ext (((((((Ext.refl _).drew.trans hx3).trans hx7).trans hx18).trans hx8).trans hx13).trans hx14)), (HByc2.out.ext (((((((Ext.refl _).drew.trans hx3).trans hx7).trans hx18).trans hx8).trans hx13).trans hx14))⟩ ?hr15_19
                case hy15_19 => (intro o ho w' hS; unfold execOp; simp only [ho]; go_simp; try with_reducible rfl)
                simp only [Act.put, List.setIfInBounds_toArray, List.set_cons_zero, List.set_cons_succ]
                refine drawn_free 16 28 (v := ?v16_20) (.extract (.tmp 12) 0) (by kernel_rfl) ?hy16_20 (by kernel_rfl) (by kernel_rfl) (by kernel_rfl) (fun _ _ _ _ h => h) ⟨(((((((X2.out.trans (Ext.refl _).drew).trans hx3).trans hx7).trans hx18).trans hx8).trans hx13).trans hx14), (HBxc2.out.ext (((((((Ext.refl _).drew.trans hx3).trans hx7).trans hx18).trans hx8).trans hx13).trans hx14)), (HByc2.out.ext (((((((Ext.refl _).drew.trans hx3).trans hx7).trans hx18).trans hx8).trans hx13).trans hx14))⟩ ?hr16_20
                case hy16_20 => (intro o ho w' hS; unfold execOp; simp only [ho]; go_simp; try with_reducible rfl)
                simp only [Act.put, List.setIfInBounds_toArray, List.set_cons_zero, List.set_cons_succ]
                refine drawn_free 17 29 (v := ?v17_21) (.extract (.tmp 12) 1) (by kernel_rfl) ?hy17_21 (by kernel_rfl) (by kernel_rfl) (by kernel_rfl) (fun _ _ _ _ h => h) ⟨(((((((X2.out.trans (Ext.refl _).drew).trans hx3).trans hx7).trans hx18).trans hx8).trans hx13).trans hx14), (HBxc2.out.ext (((((((Ext.refl _).drew.trans hx3).trans hx7).trans hx18).trans hx8).trans hx13).trans hx14)), (HByc2.out.ext (((((((Ext.refl _).drew.trans hx3).trans hx7).trans hx18).trans hx8).trans hx13).trans hx14))⟩ ?hr17_21
                case hy17_21 => (intro o ho w' hS; unfold execOp; simp only [ho]; go_simp; try with_reducible rfl)
                simp only [Act.put, List.setIfInBounds_toArray, List.set_cons_zero, List.set_cons_succ]
                refine wpAnyH_ready (rs := [19]) (by kernel_rfl) (by simp) ?_
                have hq19 := ((show Bk 27 v18 g18 #[.bool false, .slice none 0 0, .bool false, .slice none 0 0] from hb18).ext ((hx8.trans hx13).trans hx14))
                refine drawn_store 19 27 (.tmp 6) (.tmp 28) (g18) #[.bool b14q, .slice A14q n14q c14q, .bool e14q, .slice B14q m14q d14q] #[.bool false, .slice none 0 0, .bool false, .slice none 0 0] 27 (by kernel_rfl) rfl rfl hq19.h info_rat rfl one_four (fun v19 hb19 hg19 => ⟨⟨((((((((X2.out.trans (Ext.refl _).drew).trans hx3).trans hx7).trans hx18).trans hx8).trans hx13).trans hx14).gb hg19 (by have h := (((X2.out.trans (Ext.refl _).drew).trans hx3).trans hx7).size; have h1 := hg18; omega)), ((HBxc2.out.ext (((((((Ext.refl _).drew.trans hx3).trans hx7).trans hx18).trans hx8).trans hx13).trans hx14)).grown hg19 (by have h0 := (Nat.lt_of_lt_of_le HBxc2.out.lt (Nat.le_trans (Nat.le_trans (Ext.refl _).drew.size hx3.size) hx7.size)); have h1 := hg18; omega)), ((HByc2.out.ext (((((((Ext.refl _).drew.trans hx3).trans hx7).trans hx18).trans hx8).trans hx13).trans hx14)).grown hg19 (by have h0 := (Nat.lt_of_lt_of_le HByc2.out.lt (Nat.le_trans (Nat.le_trans (Ext.refl _).drew.size hx3.size) hx7.size)); have h1 := hg18; omega))⟩, ?_⟩) ?_
                · skip
                  simp only [Act.put, List.setIfInBounds_toArray, List.set_cons_zero, List.set_cons_succ]
                  refine drawn_free 20 7 (v := ?v20_22) (.assign (.tmp 29)) (by kernel_rfl) ?hy20_22 (by kernel_rfl) (by kernel_rfl) (by kernel_rfl) (fun _ _ _ _ h => h) ⟨((((((((X2.out.trans (Ext.refl _).drew).trans hx3).trans hx7).trans hx18).trans hx8).trans hx13).trans hx14).gb hg19 (by have h := (((X2.out.trans (Ext.refl _).drew).trans hx3).trans hx7).size; have h1 := hg18; omega)), ((HBxc2.out.ext (((((((Ext.refl _).drew.trans hx3).trans hx7).trans hx18).trans hx8).trans hx13).trans hx14)).grown hg19 (by have h0 := (Nat.lt_of_lt_of_le HBxc2.out.lt (Nat.le_trans (Nat.le_trans (Ext.refl _).drew.size hx3.size) hx7.size)); have h1 := hg18; omega)), ((HByc2.out.ext (((((((Ext.refl _).drew.trans hx3).trans hx7).trans hx18).trans hx8).trans hx13).trans hx14)).grown hg19 (by have h0 := (Nat.lt_of_lt_of_le HByc2.out.lt (Nat.le_trans (Nat.le_trans (Ext.refl _).drew.size hx3.size) hx7.size)); have h1 := hg18; omega))⟩ ?hr20_22
                  case hy20_22 => (intro o ho w' hS; unfold execOp; simp only [ho]; go_simp; try with_reducible rfl)
                  simp only [Act.put, List.setIfInBounds_toArray, List.set_cons_zero, List.set_cons_succ]
                  refine wpAnyH_done (by kernel_rfl) ?_ _
                  go_step
                  go_step
                  go_meet
                  case rel => exact ⟨_, _, _, _, _, _, _, _, _, rfl, (Nat.le_trans (Nat.le_trans (Nat.le_trans (Ext.refl _).drew.size hx3.size) hx7.size) hg18), (show Bk 27 v19 (g18) #[.bool b14q, .slice A14q n14q c14q, .bool e14q, .slice B14q m14q d14q] from hb19), ((HBoc2.out.ext (((((((Ext.refl _).drew.trans hx3).trans hx7).trans hx18).trans hx8).trans hx13).trans hx14)).grown hg19 (by have h0 := (Nat.lt_of_lt_of_le HBoc2.out.lt (Nat.le_trans (Nat.le_trans (Ext.refl _).drew.size hx3.size) hx7.size)); have h1 := hg18; omega)), ((o14.mono ((((((X2.out.trans (Ext.refl _).drew).trans hx3).trans hx7).trans hx18).trans hx8).trans hx13).size).gbk hq19 (by decide) hg19), ((((((((X2.out.trans (Ext.refl _).drew).trans hx3).trans hx7).trans hx18).trans hx8).trans hx13).trans hx14).gb hg19 (by have h := (((X2.out.trans (Ext.refl _).drew).trans hx3).trans hx7).size; have h1 := hg18; omega))⟩
                exact drawn_nil
              exact drawn_nil
            exact drawn_nil
          exact drawn_nil
        exact drawn_nil
      refine drawn_alloc 18 (some 6) (by kernel_rfl) alloc_rat (fun g18 v18 hb18 hx18 hg18 => ⟨⟨(((X2.out.trans (Ext.refl _).drew).trans hx3).trans hx18), (HBxc2.out.ext (((Ext.refl _).drew.trans hx3).trans hx18)), (HByc2.out.ext (((Ext.refl _).drew.trans hx3).trans hx18))⟩, ?_⟩) ?_
      · skip
        simp only [Act.put, List.setIfInBounds_toArray, List.set_cons_zero, List.set_cons_succ]
        refine wpAnyH_ready (rs := [7]) (by kernel_rfl) (by simp) ?_
        refine drawn_callv2 7 (some 20) (.tmp 17) (.tmp 18) (.tmp 19) (ts := #[27, 27]) (by kernel_rfl) rfl (enters_of Try.func55 (by kernel_rfl) rfl) rfl rfl (qcross_v (HOqc2.out.ext (((Ext.refl _).drew.trans hx3).trans hx18)).nu.iz (HOpc2.out.ext (((Ext.refl _).drew.trans hx3).trans hx18)).de.iz (by omega)) (fun E v7 hh => ?_) ?_
        · skip
          obtain ⟨b7q, A7q, n7q, c7q, rfl, o7, hx7⟩ := hh
          refine ⟨_, rfl, ⟨((((X2.out.trans (Ext.refl _).drew).trans hx3).trans hx18).trans hx7), (HBxc2.out.ext ((((Ext.refl _).drew.trans hx3).trans hx18).trans hx7)), (HByc2.out.ext ((((Ext.refl _).drew.trans hx3).trans hx18).trans hx7))⟩, ?_⟩
          simp only [Act.put, List.setIfInBounds_toArray, List.set_cons_zero, List.set_cons_succ]
          refine wpAnyH_ready (rs := [8]) (by kernel_rfl) (by simp) ?_
          refine drawn_call2 8 (some 21) (.tmp 16) (.tmp 20) (ts := #[24, 24]) (by kernel_rfl) (enters_of Try.func56 (by kernel_rfl) rfl) rfl rfl (wadd_v ((o3.mono (X2.out.trans (Ext.refl _).drew).size).ext (hx18.trans hx7)).iz (o7.mono (((X2.out.trans (Ext.refl _).drew).trans hx3).trans hx18).size).iz (by omega)) (fun E v8 hh => ?_) ?_
          · skip
            obtain ⟨b8q, A8q, n8q, c8q, rfl, o8, hx8⟩ := hh
            refine ⟨_, rfl, ⟨(((((X2.out.trans (Ext.refl _).drew).trans hx3).trans hx18).trans hx7).trans hx8), (HBxc2.out.ext (((((Ext.refl _).drew.trans hx3).trans hx18).trans hx7).trans hx8)), (HByc2.out.ext (((((Ext.refl _).drew.trans hx3).trans hx18).trans hx7).trans hx8))⟩, ?_⟩
            simp only [Act.put, List.setIfInBounds_toArray, List.set_cons_zero, List.set_cons_succ]
            refine wpAnyH_ready (rs := [13]) (by kernel_rfl) (by simp) ?_
            refine drawn_call2 13 (some 26) (.tmp 23) (.tmp 25) (ts := #[24, 24]) (by kernel_rfl) (enters_of Try.func54 (by kernel_rfl) rfl) rfl rfl (wmul_v (HOpc2.out.ext (((((Ext.refl _).drew.trans hx3).trans hx18).trans hx7).trans hx8)).de.iz (HOqc2.out.ext (((((Ext.refl _).drew.trans hx3).trans hx18).trans hx7).trans hx8)).de.iz (by omega)) (fun E v13 hh => ?_) ?_
            · skip
              obtain ⟨b13q, A13q, n13q, c13q, rfl, o13, hx13⟩ := hh
              refine ⟨_, rfl, ⟨((((((X2.out.trans (Ext.refl _).drew).trans hx3).trans hx18).trans hx7).trans hx8).trans hx13), (HBxc2.out.ext ((((((Ext.refl _).drew.trans hx3).trans hx18).trans hx7).trans hx8).trans hx13)), (HByc2.out.ext ((((((Ext.refl _).drew.trans hx3).trans hx18).trans hx7).trans hx8).trans hx13))⟩, ?_⟩
              simp only [Act.put, List.setIfInBounds_toArray, List.set_cons_zero, List.set_cons_succ]
              refine wpAnyH_ready (rs := [14]) (by kernel_rfl) (by simp) ?_
              refine drawn_call2 14 (some 27) (.tmp 21) (.tmp 26) (ts := #[24, 24]) (by kernel_rfl) (enters_of Try.func9 (by kernel_rfl) rfl) rfl rfl (rof_is (2 * K + 2 * K' + 9) ((o8.mono ((((X2.out.trans (Ext.refl _).drew).trans hx3).trans hx18).trans hx7).size).ext hx13).iz (o13.mono (((((X2.out.trans (Ext.refl _).drew).trans hx3).trans hx18).trans hx7).trans hx8).size).iz (dens_ne x y) (by omega) (by omega) (by omega) (rat_add_parts x y)) (fun E v14 hh => ?_) ?_
              · skip
                obtain ⟨b14q, A14q, n14q, c14q, e14q, B14q, m14q, d14q, rfl, o14, hx14⟩ := hh
                refine ⟨_, rfl, ⟨(((((((X2.out.trans (Ext.refl _).drew).trans hx3).trans hx18).trans hx7).trans hx8).trans hx13).trans hx14), (HBxc2.out.ext (((((((Ext.refl _).drew.trans hx3).trans hx18).trans hx7).trans hx8).trans hx13).trans hx14)), (HByc2.out.ext (((((((Ext.refl _).drew.trans hx3).trans hx18).trans hx7).trans hx8).trans hx13).trans hx14))⟩, ?_⟩
                simp only [Act.put, List.setIfInBounds_toArray, List.set_cons_zero, List.set_cons_succ]
                refine drawn_free 15 12 (v := ?v15_23) (.move (.tmp 27)) (by kernel_rfl) ?hy15_23 (by kernel_rfl) (by kernel_rfl) (by kernel_rfl) (fun _ _ _ _ h => h) ⟨(((((((X2.out.trans (Ext.refl _).drew).trans hx3).trans hx18).trans hx7).trans hx8).trans hx13).trans hx14), (HBxc2.out.ext (((((((Ext.refl _).drew.trans hx3).trans hx18).trans hx7).trans hx8).trans hx13).trans hx14)), (HByc2.out.ext (((((((Ext.refl _).drew.trans hx3).trans hx18).trans hx7).trans hx8).trans hx13).trans hx14))⟩ ?hr15_23
                case hy15_23 => (intro o ho w' hS; unfold execOp; simp only [ho]; go_simp; try with_reducible rfl)
                simp only [Act.put, List.setIfInBounds_toArray, List.set_cons_zero, List.set_cons_succ]
                refine drawn_free 16 28 (v := ?v16_24) (.extract (.tmp 12) 0) (by kernel_rfl) ?hy16_24 (by kernel_rfl) (by kernel_rfl) (by kernel_rfl) (fun _ _ _ _ h => h) ⟨(((((((X2.out.trans (Ext.refl _).drew).trans hx3).trans hx18).trans hx7).trans hx8).trans hx13).trans hx14), (HBxc2.out.ext (((((((Ext.refl _).drew.trans hx3).trans hx18).trans hx7).trans hx8).trans hx13).trans hx14)), (HByc2.out.ext (((((((Ext.refl _).drew.trans hx3).trans hx18).trans hx7).trans hx8).trans hx13).trans hx14))⟩ ?hr16_24
                case hy16_24 => (intro o ho w' hS; unfold execOp; simp only [ho]; go_simp; try with_reducible rfl)
                simp only [Act.put, List.setIfInBounds_toArray, List.set_cons_zero, List.set_cons_succ]
                refine drawn_free 17 29 (v := ?v17_25) (.extract (.tmp 12) 1) (by kernel_rfl) ?hy17_25 (by kernel_rfl) (by kernel_rfl) (by kernel_rfl) (fun _ _ _ _ h => h) ⟨(((((((X2.out.trans (Ext.refl _).drew).trans hx3).trans hx18).trans hx7).trans hx8).trans hx13).trans hx14), (HBxc2.out.ext (((((((Ext.refl _).drew.trans hx3).trans hx18).trans hx7).trans hx8).trans hx13).trans hx14)), (HByc2.out.ext (((((((Ext.refl _).drew.trans hx3).trans hx18).trans hx7).trans hx8).trans hx13).trans hx14))⟩ ?hr17_25
                case hy17_25 => (intro o ho w' hS; unfold execOp; simp only [ho]; go_simp; try with_reducible rfl)
                simp only [Act.put, List.setIfInBounds_toArray, List.set_cons_zero, List.set_cons_succ]
                refine wpAnyH_ready (rs := [19]) (by kernel_rfl) (by simp) ?_
                have hq19 := ((show Bk 27 v18 g18 #[.bool false, .slice none 0 0, .bool false, .slice none 0 0] from hb18).ext (((hx7.trans hx8).trans hx13).trans hx14))
                refine drawn_store 19 27 (.tmp 6) (.tmp 28) (g18) #[.bool b14q, .slice A14q n14q c14q, .bool e14q, .slice B14q m14q d14q] #[.bool false, .slice none 0 0, .bool false, .slice none 0 0] 27 (by kernel_rfl) rfl rfl hq19.h info_rat rfl one_four (fun v19 hb19 hg19 => ⟨⟨((((((((X2.out.trans (Ext.refl _).drew).trans hx3).trans hx18).trans hx7).trans hx8).trans hx13).trans hx14).gb hg19 (by have h := ((X2.out.trans (Ext.refl _).drew).trans hx3).size; have h1 := hg18; omega)), ((HBxc2.out.ext (((((((Ext.refl _).drew.trans hx3).trans hx18).trans hx7).trans hx8).trans hx13).trans hx14)).grown hg19 (by have h0 := (Nat.lt_of_lt_of_le HBxc2.out.lt (Nat.le_trans (Ext.refl _).drew.size hx3.size)); have h1 := hg18; omega)), ((HByc2.out.ext (((((((Ext.refl _).drew.trans hx3).trans hx18).trans hx7).trans hx8).trans hx13).trans hx14)).grown hg19 (by have h0 := (Nat.lt_of_lt_of_le HByc2.out.lt (Nat.le_trans (Ext.refl _).drew.size hx3.size)); have h1 := hg18; omega))⟩, ?_⟩) ?_
                · skip
                  simp only [Act.put, List.setIfInBounds_toArray, List.set_cons_zero, List.set_cons_succ]
                  refine drawn_free 20 7 (v := ?v20_26) (.assign (.tmp 29)) (by kernel_rfl) ?hy20_26 (by kernel_rfl) (by kernel_rfl) (by kernel_rfl) (fun _ _ _ _ h => h) ⟨((((((((X2.out.trans (Ext.refl _).drew).trans hx3).trans hx18).trans hx7).trans hx8).trans hx13).trans hx14).gb hg19 (by have h := ((X2.out.trans (Ext.refl _).drew).trans hx3).size; have h1 := hg18; omega)), ((HBxc2.out.ext (((((((Ext.refl _).drew.trans hx3).trans hx18).trans hx7).trans hx8).trans hx13).trans hx14)).grown hg19 (by have h0 := (Nat.lt_of_lt_of_le HBxc2.out.lt (Nat.le_trans (Ext.refl _).drew.size hx3.size)); have h1 := hg18; omega)), ((HByc2.out.ext (((((((Ext.refl _).drew.trans hx3).trans hx18).trans hx7).trans hx8).trans hx13).trans hx14)).grown hg19 (by have h0 := (Nat.lt_of_lt_of_le HByc2.out.lt (Nat.le_trans (Ext.refl _).drew.size hx3.size)); have h1 := hg18; omega))⟩ ?hr20_26
                  case hy20_26 => (intro o ho w' hS; unfold execOp; simp only [ho]; go_simp; try with_reducible rfl)
                  simp only [Act.put, List.setIfInBounds_toArray, List.set_cons_zero, List.set_cons_succ]
                  refine wpAnyH_done (by kernel_rfl) ?_ _
                  go_step
                  go_step
                  go_meet
                  case rel => exact ⟨_, _, _, _, _, _, _, _, _, rfl, (Nat.le_trans (Nat.le_trans (Ext.refl _).drew.size hx3.size) hg18), (show Bk 27 v19 (g18) #[.bool b14q, .slice A14q n14q c14q, .bool e14q, .slice B14q m14q d14q] from hb19), ((HBoc2.out.ext (((((((Ext.refl _).drew.trans hx3).trans hx18).trans hx7).trans hx8).trans hx13).trans hx14)).grown hg19 (by have h0 := (Nat.lt_of_lt_of_le HBoc2.out.lt (Nat.le_trans (Ext.refl _).drew.size hx3.size)); have h1 := hg18; omega)), ((o14.mono ((((((X2.out.trans (Ext.refl _).drew).trans hx3).trans hx18).trans hx7).trans hx8).trans hx13).size).gbk hq19 (by decide) hg19), ((((((((X2.out.trans (Ext.refl _).drew).trans hx3).trans hx18).trans hx7).trans hx8).trans hx13).trans hx14).gb hg19 (by have h := ((X2.out.trans (Ext.refl _).drew).trans hx3).size; have h1 := hg18; omega))⟩
                exact drawn_nil
              exact drawn_nil
            exact drawn_nil
          exact drawn_nil
        exact drawn_nil
      exact drawn_nil
    refine drawn_alloc 18 (some 6) (by kernel_rfl) alloc_rat (fun g18 v18 hb18 hx18 hg18 => ⟨⟨((X2.out.trans (Ext.refl _).drew).trans hx18), (HBxc2.out.ext ((Ext.refl _).drew.trans hx18)), (HByc2.out.ext ((Ext.refl _).drew.trans hx18))⟩, ?_⟩) ?_
    · skip
      simp only [Act.put, List.setIfInBounds_toArray, List.set_cons_zero, List.set_cons_succ]
      refine wpAnyH_ready (rs := [3]) (by kernel_rfl) (by simp) ?_
      refine drawn_callv2 3 (some 16) (.tmp 13) (.tmp 14) (.tmp 15) (ts := #[27, 27]) (by kernel_rfl) rfl (enters_of Try.func55 (by kernel_rfl) rfl) rfl rfl (qcross_v (HOpc2.out.ext ((Ext.refl _).drew.trans hx18)).nu.iz (HOqc2.out.ext ((Ext.refl _).drew.trans hx18)).de.iz (by omega)) (fun E v3 hh => ?_) ?_
      · skip
        obtain ⟨b3q, A3q, n3q, c3q, rfl, o3, hx3⟩ := hh
        refine ⟨_, rfl, ⟨(((X2.out.trans (Ext.refl _).drew).trans hx18).trans hx3), (HBxc2.out.ext (((Ext.refl _).drew.trans hx18).trans hx3)), (HByc2.out.ext (((Ext.refl _).drew.trans hx18).trans hx3))⟩, ?_⟩
        simp only [Act.put, List.setIfInBounds_toArray, List.set_cons_zero, List.set_cons_succ]
        refine wpAnyH_ready (rs := [7]) (by kernel_rfl) (by simp) ?_
        refine drawn_callv2 7 (some 20) (.tmp 17) (.tmp 18) (.tmp 19) (ts := #[27, 27]) (by kernel_rfl) rfl (enters_of Try.func55 (by kernel_rfl) rfl) rfl rfl (qcross_v (HOqc2.out.ext (((Ext.refl _).drew.trans hx18).trans hx3)).nu.iz (HOpc2.out.ext (((Ext.refl _).drew.trans hx18).trans hx3)).de.iz (by omega)) (fun E v7 hh => ?_) ?_
        · skip
          obtain ⟨b7q, A7q, n7q, c7q, rfl, o7, hx7⟩ := hh
          refine ⟨_, rfl, ⟨((((X2.out.trans (Ext.refl _).drew).trans hx18).trans hx3).trans hx7), (HBxc2.out.ext ((((Ext.refl _).drew.trans hx18).trans hx3).trans hx7)), (HByc2.out.ext ((((Ext.refl _).drew.trans hx18).trans hx3).trans hx7))⟩, ?_⟩
          simp only [Act.put, List.setIfInBounds_toArray, List.set_cons_zero, List.set_cons_succ]
          refine wpAnyH_ready (rs := [8]) (by kernel_rfl) (by simp) ?_
          refine drawn_call2 8 (some 21) (.tmp 16) (.tmp 20) (ts := #[24, 24]) (by kernel_rfl) (enters_of Try.func56 (by kernel_rfl) rfl) rfl rfl (wadd_v ((o3.mono ((X2.out.trans (Ext.refl _).drew).trans hx18).size).ext hx7).iz (o7.mono (((X2.out.trans (Ext.refl _).drew).trans hx18).trans hx3).size).iz (by omega)) (fun E v8 hh => ?_) ?_
          · skip
            obtain ⟨b8q, A8q, n8q, c8q, rfl, o8, hx8⟩ := hh
            refine ⟨_, rfl, ⟨(((((X2.out.trans (Ext.refl _).drew).trans hx18).trans hx3).trans hx7).trans hx8), (HBxc2.out.ext (((((Ext.refl _).drew.trans hx18).trans hx3).trans hx7).trans hx8)), (HByc2.out.ext (((((Ext.refl _).drew.trans hx18).trans hx3).trans hx7).trans hx8))⟩, ?_⟩
            simp only [Act.put, List.setIfInBounds_toArray, List.set_cons_zero, List.set_cons_succ]
            refine wpAnyH_ready (rs := [13]) (by kernel_rfl) (by simp) ?_
            refine drawn_call2 13 (some 26) (.tmp 23) (.tmp 25) (ts := #[24, 24]) (by kernel_rfl) (enters_of Try.func54 (by kernel_rfl) rfl) rfl rfl (wmul_v (HOpc2.out.ext (((((Ext.refl _).drew.trans hx18).trans hx3).trans hx7).trans hx8)).de.iz (HOqc2.out.ext (((((Ext.refl _).drew.trans hx18).trans hx3).trans hx7).trans hx8)).de.iz (by omega)) (fun E v13 hh => ?_) ?_
            · skip
              obtain ⟨b13q, A13q, n13q, c13q, rfl, o13, hx13⟩ := hh
              refine ⟨_, rfl, ⟨((((((X2.out.trans (Ext.refl _).drew).trans hx18).trans hx3).trans hx7).trans hx8).trans hx13), (HBxc2.out.ext ((((((Ext.refl _).drew.trans hx18).trans hx3).trans hx7).trans hx8).trans hx13)), (HByc2.out.ext ((((((Ext.refl _).drew.trans hx18).trans hx3).trans hx7).trans hx8).trans hx13))⟩, ?_⟩
              simp only [Act.put, List.setIfInBounds_toArray, List.set_cons_zero, List.set_cons_succ]
              refine wpAnyH_ready (rs := [14]) (by kernel_rfl) (by simp) ?_
              refine drawn_call2 14 (some 27) (.tmp 21) (.tmp 26) (ts := #[24, 24]) (by kernel_rfl) (enters_of Try.func9 (by kernel_rfl) rfl) rfl rfl (rof_is (2 * K + 2 * K' + 9) ((o8.mono ((((X2.out.trans (Ext.refl _).drew).trans hx18).trans hx3).trans hx7).size).ext hx13).iz (o13.mono (((((X2.out.trans (Ext.refl _).drew).trans hx18).trans hx3).trans hx7).trans hx8).size).iz (dens_ne x y) (by omega) (by omega) (by omega) (rat_add_parts x y)) (fun E v14 hh => ?_) ?_
              · skip
                obtain ⟨b14q, A14q, n14q, c14q, e14q, B14q, m14q, d14q, rfl, o14, hx14⟩ := hh
                refine ⟨_, rfl, ⟨(((((((X2.out.trans (Ext.refl _).drew).trans hx18).trans hx3).trans hx7).trans hx8).trans hx13).trans hx14), (HBxc2.out.ext (((((((Ext.refl _).drew.trans hx18).trans hx3).trans hx7).trans hx8).trans hx13).trans hx14)), (HByc2.out.ext (((((((Ext.refl _).drew.trans hx18).trans hx3).trans hx7).trans hx8).trans hx13).trans hx14))⟩, ?_⟩
                simp only [Act.put, List.setIfInBounds_toArray, List.set_cons_zero, List.set_cons_succ]
                refine drawn_free 15 12 (v := ?v15_27) (.move (.tmp 27)) (by kernel_rfl) ?hy15_27 (by kernel_rfl) (by kernel_rfl) (by kernel_rfl) (fun _ _ _ _ h => h) ⟨(((((((X2.out.trans (Ext.refl _).drew).trans hx18).trans hx3).trans hx7).trans hx8).trans hx13).trans hx14), (HBxc2.out.ext (((((((Ext.refl _).drew.trans hx18).trans hx3).trans hx7).trans hx8).trans hx13).trans hx14)), (HByc2.out.ext (((((((Ext.refl _).drew.trans hx18).trans hx3).trans hx7).trans hx8).trans hx13).trans hx14))⟩ ?hr15_27
                case hy15_27 => (intro o ho w' hS; unfold execOp; simp only [ho]; go_simp; try with_reducible rfl)
                simp only [Act.put, List.setIfInBounds_toArray, List.set_cons_zero, List.set_cons_succ]
                refine drawn_free 16 28 (v := ?v16_28) (.extract (.tmp 12) 0) (by kernel_rfl) ?hy16_28 (by kernel_rfl) (by kernel_rfl) (by kernel_rfl) (fun _ _ _ _ h => h) ⟨(((((((X2.out.trans (Ext.refl _).drew).trans hx18).trans hx3).trans hx7).trans hx8).trans hx13).trans hx14), (HBxc2.out.ext (((((((Ext.refl _).drew.trans hx18).trans hx3).trans hx7).trans hx8).trans hx13).trans hx14)), (HByc2.out.ext (((((((Ext.refl _).drew.trans hx18).trans hx3).trans hx7).trans hx8).trans hx13).trans hx14))⟩ ?hr16_28
                case hy16_28 => (intro o ho w' hS; unfold execOp; simp only [ho]; go_simp; try with_reducible rfl)
                simp only [Act.put, List.setIfInBounds_toArray, List.set_cons_zero, List.set_cons_succ]
                refine drawn_free 17 29 (v := ?v17_29) (.extract (.tmp 12) 1) (by kernel_rfl) ?hy17_29 (by kernel_rfl) (by kernel_rfl) (by kernel_rfl) (fun _ _ _ _ h => h) ⟨(((((((X2.out.trans (Ext.refl _).drew).trans hx18).trans hx3).trans hx7).trans hx8).trans hx13).trans hx14), (HBxc2.out.ext (((((((Ext.refl _).drew.trans hx18).trans hx3).trans hx7).trans hx8).trans hx13).trans hx14)), (HByc2.out.ext (((((((Ext.refl _).drew.trans hx18).trans hx3).trans hx7).trans hx8).trans hx13).trans hx14))⟩ ?hr17_29
                case hy17_29 => (intro o ho w' hS; unfold execOp; simp only [ho]; go_simp; try with_reducible rfl)
                simp only [Act.put, List.setIfInBounds_toArray, List.set_cons_zero, List.set_cons_succ]
                refine wpAnyH_ready (rs := [19]) (by kernel_rfl) (by simp) ?_
                have hq19 := ((show Bk 27 v18 g18 #[.bool false, .slice none 0 0, .bool false, .slice none 0 0] from hb18).ext ((((hx3.trans hx7).trans hx8).trans hx13).trans hx14))
                refine drawn_store 19 27 (.tmp 6) (.tmp 28) (g18) #[.bool b14q, .slice A14q n14q c14q, .bool e14q, .slice B14q m14q d14q] #[.bool false, .slice none 0 0, .bool false, .slice none 0 0] 27 (by kernel_rfl) rfl rfl hq19.h info_rat rfl one_four (fun v19 hb19 hg19 => ⟨⟨((((((((X2.out.trans (Ext.refl _).drew).trans hx18).trans hx3).trans hx7).trans hx8).trans hx13).trans hx14).gb hg19 (by have h := (X2.out.trans (Ext.refl _).drew).size; have h1 := hg18; omega)), ((HBxc2.out.ext (((((((Ext.refl _).drew.trans hx18).trans hx3).trans hx7).trans hx8).trans hx13).trans hx14)).grown hg19 (by have h0 := (Nat.lt_of_lt_of_le HBxc2.out.lt (Ext.refl _).drew.size); have h1 := hg18; omega)), ((HByc2.out.ext (((((((Ext.refl _).drew.trans hx18).trans hx3).trans hx7).trans hx8).trans hx13).trans hx14)).grown hg19 (by have h0 := (Nat.lt_of_lt_of_le HByc2.out.lt (Ext.refl _).drew.size); have h1 := hg18; omega))⟩, ?_⟩) ?_
                · skip
                  simp only [Act.put, List.setIfInBounds_toArray, List.set_cons_zero, List.set_cons_succ]
                  refine drawn_free 20 7 (v := ?v20_30) (.assign (.tmp 29)) (by kernel_rfl) ?hy20_30 (by kernel_rfl) (by kernel_rfl) (by kernel_rfl) (fun _ _ _ _ h => h) ⟨((((((((X2.out.trans (Ext.refl _).drew).trans hx18).trans hx3).trans hx7).trans hx8).trans hx13).trans hx14).gb hg19 (by have h := (X2.out.trans (Ext.refl _).drew).size; have h1 := hg18; omega)), ((HBxc2.out.ext (((((((Ext.refl _).drew.trans hx18).trans hx3).trans hx7).trans hx8).trans hx13).trans hx14)).grown hg19 (by have h0 := (Nat.lt_of_lt_of_le HBxc2.out.lt (Ext.refl _).drew.size); have h1 := hg18; omega)), ((HByc2.out.ext (((((((Ext.refl _).drew.trans hx18).trans hx3).trans hx7).trans hx8).trans hx13).trans hx14)).grown hg19 (by have h0 := (Nat.lt_of_lt_of_le HByc2.out.lt (Ext.refl _).drew.size); have h1 := hg18; omega))⟩ ?hr20_30
                  case hy20_30 => (intro o ho w' hS; unfold execOp; simp only [ho]; go_simp; try with_reducible rfl)
                  simp only [Act.put, List.setIfInBounds_toArray, List.set_cons_zero, List.set_cons_succ]
                  refine wpAnyH_done (by kernel_rfl) ?_ _
                  go_step
                  go_step
                  go_meet
                  case rel => exact ⟨_, _, _, _, _, _, _, _, _, rfl, (Nat.le_trans (Ext.refl _).drew.size hg18), (show Bk 27 v19 (g18) #[.bool b14q, .slice A14q n14q c14q, .bool e14q, .slice B14q m14q d14q] from hb19), ((HBoc2.out.ext (((((((Ext.refl _).drew.trans hx18).trans hx3).trans hx7).trans hx8).trans hx13).trans hx14)).grown hg19 (by have h0 := (Nat.lt_of_lt_of_le HBoc2.out.lt (Ext.refl _).drew.size); have h1 := hg18; omega)), ((o14.mono ((((((X2.out.trans (Ext.refl _).drew).trans hx18).trans hx3).trans hx7).trans hx8).trans hx13).size).gbk hq19 (by decide) hg19), ((((((((X2.out.trans (Ext.refl _).drew).trans hx18).trans hx3).trans hx7).trans hx8).trans hx13).trans hx14).gb hg19 (by have h := (X2.out.trans (Ext.refl _).drew).size; have h1 := hg18; omega))⟩
                exact drawn_nil
              exact drawn_nil
            exact drawn_nil
          exact drawn_nil
        exact drawn_nil
      exact drawn_nil
    exact drawn_nil
  case rest =>
  obtain ⟨g6c, b14q, A14q, n14q, c14q, e14q, B14q, m14q, d14q, rfl, hger3, Brc3, Boc3, Orc3, Xc3⟩ := hcut
  obtain ⟨w3, hw3⟩ : ∃ w3, w3 = wc := ⟨_, rfl⟩
  subst hw3
  have HBrc3 := hid Brc3
  clear Brc3
  have HBoc3 := hid Boc3
  clear Boc3
  have HOrc3 := hid Orc3
  clear Orc3
  have X3 := hid Xc3
  clear Xc3
  obtain ⟨f5_0, f5_1, f5_2, f5_3, f5_4, f5_5, f5_6, f5_7, f5_8, f5_9, f5_10, f5_11⟩ : w3.cell? ⟨g6c, 0, none⟩ = some (.bool b14q) ∧ w3.cell? ⟨g6c, 1, none⟩ = some (.slice A14q n14q c14q) ∧ w3.cell? ⟨g6c, 2, none⟩ = some (.bool e14q) ∧ w3.cell? ⟨g6c, 3, none⟩ = some (.slice B14q m14q d14q) ∧ w3.cell? ⟨w.heap.size + 1 + 1, 0, none⟩ = some (.bool false) ∧ w3.cell? ⟨w.heap.size + 1 + 1, 1, none⟩ = some (.slice none 0 0) ∧ w3.cell? ⟨w.heap.size + 1 + 1, 2, none⟩ = some (.bool false) ∧ w3.cell? ⟨w.heap.size + 1 + 1, 3, none⟩ = some (.slice none 0 0) ∧ w3.frozen? ⟨w.heap.size + 1 + 1, 0, none⟩ = false ∧ w3.frozen? ⟨w.heap.size + 1 + 1, 1, none⟩ = false ∧ w3.frozen? ⟨w.heap.size + 1 + 1, 2, none⟩ = false ∧ w3.frozen? ⟨w.heap.size + 1 + 1, 3, none⟩ = false := ⟨HBrc3.out.c 0, HBrc3.out.c 1, HBrc3.out.c 2, HBrc3.out.c 3, HBoc3.out.c 0, HBoc3.out.c 1, HBoc3.out.c 2, HBoc3.out.c 3, HBoc3.out.fr 0, HBoc3.out.fr 1, HBoc3.out.fr 2, HBoc3.out.fr 3⟩
  go_wp2_with fail
  clear f5_0 f5_1 f5_2 f5_3 f5_4 f5_5 f5_6 f5_7 f5_8 f5_9 f5_10 f5_11
  have HG4 := hid (show w3.grownBy ((((w3.setCell ⟨w.heap.size + 1 + 1, 0, none⟩ (.bool b14q)).setCell ⟨w.heap.size + 1 + 1, 1, none⟩ (.slice A14q n14q c14q)).setCell ⟨w.heap.size + 1 + 1, 2, none⟩ (.bool e14q)).setCell ⟨w.heap.size + 1 + 1, 3, none⟩ (.slice B14q m14q d14q)) (some (w.heap.size + 1 + 1)) from gb4 w3 (w.heap.size + 1 + 1) (.bool b14q) (.slice A14q n14q c14q) (.bool e14q) (.slice B14q m14q d14q))
  have HO4 := hid HBoc3.out
  have HP4 := hid (show Bk 27 ((((w3.setCell ⟨w.heap.size + 1 + 1, 0, none⟩ (.bool b14q)).setCell ⟨w.heap.size + 1 + 1, 1, none⟩ (.slice A14q n14q c14q)).setCell ⟨w.heap.size + 1 + 1, 2, none⟩ (.bool e14q)).setCell ⟨w.heap.size + 1 + 1, 3, none⟩ (.slice B14q m14q d14q)) (w.heap.size + 1 + 1) #[.bool b14q, .slice A14q n14q c14q, .bool e14q, .slice B14q m14q d14q] from HBoc3.out.put4 (.bool b14q) (.slice A14q n14q c14q) (.bool e14q) (.slice B14q m14q d14q))
  generalize ((((w3.setCell ⟨w.heap.size + 1 + 1, 0, none⟩ (.bool b14q)).setCell ⟨w.heap.size + 1 + 1, 1, none⟩ (.slice A14q n14q c14q)).setCell ⟨w.heap.size + 1 + 1, 2, none⟩ (.bool e14q)).setCell ⟨w.heap.size + 1 + 1, 3, none⟩ (.slice B14q m14q d14q)) = w4 at *
  have X4 := hid (X3.out.gb HG4.out (by omega))
  refine ret_r rfl HP4.out rfl rfl ⟨_, _, _, _, _, _, _, _, rfl, (HOrc3.out.gbk HO4.out (by decide) HG4.out), X4.out⟩

set_option maxHeartbeats 6400000 in
set_option maxRecDepth 100000 in
theorem qsub_v {w : World} {sx tx sy ty : Bool} {Px Qx Py Qy : Option Addr} {lx kx mx dx ly ky my dy : Nat} {K K' : Nat} {x y : Rat} (hx : Rv K w sx Px lx kx tx Qx mx dx x) (hy : Rv K' w sy Py ly ky ty Qy my dy y) (hK : K + K' ≤ 1000000) :
    Calls Try.prog 26 #[.agg #[.bool sx, .slice Px lx kx, .bool tx, .slice Qx mx dx], .agg #[.bool sy, .slice Py ly ky, .bool ty, .slice Qy my dy]] w (RetR (2 * K + 2 * K' + 13) (x - y) w) := by
  have Hx := hid hx
  have Hy := hid hy
  clear hx hy
  go_enter Try.func26, Try.ntmps26
  go_upto_region 1 with fail
  have hy1 := hid ((((Ext.refl w).alloc (.cells #[.bool sx, .slice Px lx kx, .bool tx, .slice Qx mx dx] 27)).alloc (.cells #[.bool sy, .slice Py ly ky, .bool ty, .slice Qy my dy] 27)).alloc (.cells #[.bool false, .slice none 0 0, .bool false, .slice none 0 0] 27))
  have Bx_ := ((Bk.new w 27 #[.bool sx, .slice Px lx kx, .bool tx, .slice Qx mx dx]).ext (((Ext.refl (w.alloc (.cells #[.bool sx, .slice Px lx kx, .bool tx, .slice Qx mx dx] 27))).alloc (.cells #[.bool sy, .slice Py ly ky, .bool ty, .slice Qy my dy] 27)).alloc (.cells #[.bool false, .slice none 0 0, .bool false, .slice none 0 0] 27)))
  have Bx := hid Bx_
  clear Bx_
  have By_ := ((Bk.new (w.alloc (.cells #[.bool sx, .slice Px lx kx, .bool tx, .slice Qx mx dx] 27)) 27 #[.bool sy, .slice Py ly ky, .bool ty, .slice Qy my dy]).ext ((Ext.refl ((w.alloc (.cells #[.bool sx, .slice Px lx kx, .bool tx, .slice Qx mx dx] 27)).alloc (.cells #[.bool sy, .slice Py ly ky, .bool ty, .slice Qy my dy] 27))).alloc (.cells #[.bool false, .slice none 0 0, .bool false, .slice none 0 0] 27)))
  rw [size_alloc] at By_
  have By := hid By_
  clear By_
  have Bo_ := (Bk.new ((w.alloc (.cells #[.bool sx, .slice Px lx kx, .bool tx, .slice Qx mx dx] 27)).alloc (.cells #[.bool sy, .slice Py ly ky, .bool ty, .slice Qy my dy] 27)) 27 #[.bool false, .slice none 0 0, .bool false, .slice none 0 0])
  rw [size_alloc, size_alloc] at Bo_
  have Bo := hid Bo_
  clear Bo_
  generalize (((w.alloc (.cells #[.bool sx, .slice Px lx kx, .bool tx, .slice Qx mx dx] 27)).alloc (.cells #[.bool sy, .slice Py ly ky, .bool ty, .slice Qy my dy] 27)).alloc (.cells #[.bool false, .slice none 0 0, .bool false, .slice none 0 0] 27)) = w1 at *
  have X1 := hid ((Ext.refl _).trans hy1.out)
  refine wp_region_held_drew (S := fun w' => Ext w w' ∧ Bk 27 w' (w.heap.size) #[.bool sx, .slice Px lx kx, .bool tx, .slice Qx mx dx] ∧ Bk 27 w' (w.heap.size + 1) #[.bool sy, .slice Py ly ky, .bool ty, .slice Qy my dy]) (by kernel_rfl) ⟨(X1.out.trans (Ext.refl _).drew), (Bx.out.ext (Ext.refl _).drew), (By.out.ext (Ext.refl _).drew)⟩ (fun hS0 => ?_)
  change wpAnyH _ _ _ _ _ 5 #[false, false, false, false, false] _ _
  refine drawn_load 0 5 27 (.tmp 2) (w.heap.size) 27 #[.bool sx, .slice Px lx kx, .bool tx, .slice Qx mx dx] (0, 0) _ (by kernel_rfl) rfl (fun w' hS => hS.2.1.h) Try.underlying27 rfl info_rat (by kernel_rfl) (by kernel_rfl) (by kernel_rfl) (fun _ _ _ _ h => h) hS0 ?_
  simp only [Act.put, List.setIfInBounds_toArray, List.set_cons_zero, List.set_cons_succ]
  refine drawn_load 1 6 27 (.tmp 3) (w.heap.size + 1) 27 #[.bool sy, .slice Py ly ky, .bool ty, .slice Qy my dy] (0, 0) _ (by kernel_rfl) rfl (fun w' hS => hS.2.2.h) Try.underlying27 rfl info_rat (by kernel_rfl) (by kernel_rfl) (by kernel_rfl) (fun _ _ _ _ h => h) hS0 ?_
  simp only [Act.put, List.setIfInBounds_toArray, List.set_cons_zero, List.set_cons_succ]
  refine wpAnyH_ready (rs := [2]) (by kernel_rfl) (by simp) ?_
  refine drawn_call1 2 (some 7) (.tmp 6) (ts := #[27]) (by kernel_rfl) (enters_of Try.func29 (by kernel_rfl) rfl) rfl (rneg_v (Hy.out.ext (X1.out.trans (Ext.refl _).drew)) (by omega)) (fun E v2 hh => ?_) ?_
  · skip
    obtain ⟨b2q, A2q, n2q, c2q, e2q, B2q, m2q, d2q, rfl, o2, hx2⟩ := hh
    refine ⟨_, rfl, ⟨((X1.out.trans (Ext.refl _).drew).trans hx2), (Bx.out.ext ((Ext.refl _).drew.trans hx2)), (By.out.ext ((Ext.refl _).drew.trans hx2))⟩, ?_⟩
    simp only [Act.put, List.setIfInBounds_toArray, List.set_cons_zero, List.set_cons_succ]
    refine wpAnyH_ready (rs := [3]) (by kernel_rfl) (by simp) ?_
    refine drawn_call2 3 (some 8) (.tmp 5) (.tmp 7) (ts := #[27, 27]) (by kernel_rfl) (enters_of Try.func25 (by kernel_rfl) rfl) rfl rfl (qadd_v (Hx.out.ext ((X1.out.trans (Ext.refl _).drew).trans hx2)) (o2.mono (X1.out.trans (Ext.refl _).drew).size).rv (by omega)) (fun E v3 hh => ?_) ?_
    · skip
      obtain ⟨b3q, A3q, n3q, c3q, e3q, B3q, m3q, d3q, rfl, o3, hx3⟩ := hh
      refine ⟨_, rfl, ⟨(((X1.out.trans (Ext.refl _).drew).trans hx2).trans hx3), (Bx.out.ext (((Ext.refl _).drew.trans hx2).trans hx3)), (By.out.ext (((Ext.refl _).drew.trans hx2).trans hx3))⟩, ?_⟩
      simp only [Act.put, List.setIfInBounds_toArray, List.set_cons_zero, List.set_cons_succ]
      refine wpAnyH_ready (rs := [4]) (by kernel_rfl) (by simp) ?_
      have hq4 := (Bo.out.ext (((Ext.refl _).drew.trans hx2).trans hx3))
      refine drawn_store 4 27 (.tmp 4) (.tmp 8) (w.heap.size + 1 + 1) #[.bool b3q, .slice A3q n3q c3q, .bool e3q, .slice B3q m3q d3q] #[.bool false, .slice none 0 0, .bool false, .slice none 0 0] 27 (by kernel_rfl) rfl rfl hq4.h info_rat rfl one_four (fun v4 hb4 hg4 => ⟨⟨((((X1.out.trans (Ext.refl _).drew).trans hx2).trans hx3).gb hg4 (by omega)), ((Bx.out.ext (((Ext.refl _).drew.trans hx2).trans hx3)).grown hg4 (by omega)), ((By.out.ext (((Ext.refl _).drew.trans hx2).trans hx3)).grown hg4 (by omega))⟩, ?_⟩) ?_
      · skip
        simp only [Act.put, List.setIfInBounds_toArray, List.set_cons_zero, List.set_cons_succ]
        refine wpAnyH_done (by kernel_rfl) ?_ _
        go_wp2_with fail
        refine ret_r rfl (show Bk 27 v4 (w.heap.size + 1 + 1) #[.bool b3q, .slice A3q n3q c3q, .bool e3q, .slice B3q m3q d3q] from hb4) rfl rfl ⟨_, _, _, _, _, _, _, _, rfl, (((o3.mono ((X1.out.trans (Ext.refl _).drew).trans hx2).size).gbk hq4 (by decide) hg4).weak (by omega)).cast (Rat.sub_eq_add_neg x y).symm, ((((X1.out.trans (Ext.refl _).drew).trans hx2).trans hx3).gb hg4 (by omega))⟩
      exact drawn_nil
    exact drawn_nil
  exact drawn_nil

set_option maxHeartbeats 6400000 in
set_option maxRecDepth 100000 in
theorem qcmp_v {w : World} {sx tx sy ty : Bool} {Px Qx Py Qy : Option Addr} {lx kx mx dx ly ky my dy : Nat} {K K' : Nat} {x y : Rat} (hx : Rv K w sx Px lx kx tx Qx mx dx x) (hy : Rv K' w sy Py ly ky ty Qy my dy y) (hK : K + K' ≤ 1000000) :
    Calls Try.prog 22 #[.agg #[.bool sx, .slice Px lx kx, .bool tx, .slice Qx mx dx], .agg #[.bool sy, .slice Py ly ky, .bool ty, .slice Qy my dy]] w (RetE (.int .i64 (rs (x - y))) w) := by
  have Hx := hid hx
  have Hy := hid hy
  clear hx hy
  go_enter Try.func22, Try.ntmps22
  go_upto_region 1 with fail
  have hy1 := hid (((Ext.refl w).alloc (.cells #[.bool sx, .slice Px lx kx, .bool tx, .slice Qx mx dx] 27)).alloc (.cells #[.bool sy, .slice Py ly ky, .bool ty, .slice Qy my dy] 27))
  have Bx_ := ((Bk.new w 27 #[.bool sx, .slice Px lx kx, .bool tx, .slice Qx mx dx]).ext ((Ext.refl (w.alloc (.cells #[.bool sx, .slice Px lx kx, .bool tx, .slice Qx mx dx] 27))).alloc (.cells #[.bool sy, .slice Py ly ky, .bool ty, .slice Qy my dy] 27)))
  have Bx := hid Bx_
  clear Bx_
  have By_ := (Bk.new (w.alloc (.cells #[.bool sx, .slice Px lx kx, .bool tx, .slice Qx mx dx] 27)) 27 #[.bool sy, .slice Py ly ky, .bool ty, .slice Qy my dy])
  rw [size_alloc] at By_
  have By := hid By_
  clear By_
  generalize ((w.alloc (.cells #[.bool sx, .slice Px lx kx, .bool tx, .slice Qx mx dx] 27)).alloc (.cells #[.bool sy, .slice Py ly ky, .bool ty, .slice Qy my dy] 27)) = w1 at *
  have X1 := hid ((Ext.refl _).trans hy1.out)
  obtain ⟨f3_0, f3_1, f3_2, f3_3, f3_4, f3_5, f3_6, f3_7⟩ : w1.cell? ⟨w.heap.size, 0, none⟩ = some (.bool sx) ∧ w1.cell? ⟨w.heap.size, 1, none⟩ = some (.slice Px lx kx) ∧ w1.cell? ⟨w.heap.size, 2, none⟩ = some (.bool tx) ∧ w1.cell? ⟨w.heap.size, 3, none⟩ = some (.slice Qx mx dx) ∧ w1.cell? ⟨w.heap.size + 1, 0, none⟩ = some (.bool sy) ∧ w1.cell? ⟨w.heap.size + 1, 1, none⟩ = some (.slice Py ly ky) ∧ w1.cell? ⟨w.heap.size + 1, 2, none⟩ = some (.bool ty) ∧ w1.cell? ⟨w.heap.size + 1, 3, none⟩ = some (.slice Qy my dy) := ⟨Bx.out.c 0, Bx.out.c 1, Bx.out.c 2, Bx.out.c 3, By.out.c 0, By.out.c 1, By.out.c 2, By.out.c 3⟩
  go_wp2_with (first
    | ((go_at_call 26); (with_reducible refine (qsub_v (Hx.out.ext X1.out) (Hy.out.ext X1.out) (by omega)).mono ?_); rintro E2 w2 ⟨b2, A2, n2, c2, e2, B2, m2, d2, rfl, o2, hr2⟩; have X2 := hid (X1.out.trans hr2); have hy2 := hid hr2; clear hr2; have O2 := hid (o2.mono X1.out.size); clear o2; obtain ⟨f4_0, f4_1, f4_2, f4_3, f4_4, f4_5, f4_6, f4_7⟩ : w2.cell? ⟨w.heap.size, 0, none⟩ = some (.bool sx) ∧ w2.cell? ⟨w.heap.size, 1, none⟩ = some (.slice Px lx kx) ∧ w2.cell? ⟨w.heap.size, 2, none⟩ = some (.bool tx) ∧ w2.cell? ⟨w.heap.size, 3, none⟩ = some (.slice Qx mx dx) ∧ w2.cell? ⟨w.heap.size + 1, 0, none⟩ = some (.bool sy) ∧ w2.cell? ⟨w.heap.size + 1, 1, none⟩ = some (.slice Py ly ky) ∧ w2.cell? ⟨w.heap.size + 1, 2, none⟩ = some (.bool ty) ∧ w2.cell? ⟨w.heap.size + 1, 3, none⟩ = some (.slice Qy my dy) := ⟨(Bx.out.ext hy2.out).c 0, (Bx.out.ext hy2.out).c 1, (Bx.out.ext hy2.out).c 2, (Bx.out.ext hy2.out).c 3, (By.out.ext hy2.out).c 0, (By.out.ext hy2.out).c 1, (By.out.ext hy2.out).c 2, (By.out.ext hy2.out).c 3⟩)
    | ((go_at_call 28); (with_reducible refine (rsign_v O2.out.rv (by omega)).mono ?_); rintro E3 w3 ⟨rfl, hr3⟩; have X3 := hid (X2.out.trans hr3); have hy3 := hid hr3; clear hr3; obtain ⟨f5_0, f5_1, f5_2, f5_3, f5_4, f5_5, f5_6, f5_7⟩ : w3.cell? ⟨w.heap.size, 0, none⟩ = some (.bool sx) ∧ w3.cell? ⟨w.heap.size, 1, none⟩ = some (.slice Px lx kx) ∧ w3.cell? ⟨w.heap.size, 2, none⟩ = some (.bool tx) ∧ w3.cell? ⟨w.heap.size, 3, none⟩ = some (.slice Qx mx dx) ∧ w3.cell? ⟨w.heap.size + 1, 0, none⟩ = some (.bool sy) ∧ w3.cell? ⟨w.heap.size + 1, 1, none⟩ = some (.slice Py ly ky) ∧ w3.cell? ⟨w.heap.size + 1, 2, none⟩ = some (.bool ty) ∧ w3.cell? ⟨w.heap.size + 1, 3, none⟩ = some (.slice Qy my dy) := ⟨(Bx.out.ext (hy2.out.trans hy3.out)).c 0, (Bx.out.ext (hy2.out.trans hy3.out)).c 1, (Bx.out.ext (hy2.out.trans hy3.out)).c 2, (Bx.out.ext (hy2.out.trans hy3.out)).c 3, (By.out.ext (hy2.out.trans hy3.out)).c 0, (By.out.ext (hy2.out.trans hy3.out)).c 1, (By.out.ext (hy2.out.trans hy3.out)).c 2, (By.out.ext (hy2.out.trans hy3.out)).c 3⟩))
  clear f3_0 f3_1 f3_2 f3_3 f3_4 f3_5 f3_6 f3_7 f4_0 f4_1 f4_2 f4_3 f4_4 f4_5 f4_6 f4_7 f5_0 f5_1 f5_2 f5_3 f5_4 f5_5 f5_6 f5_7
  go_ret
  exact ⟨rfl, X3.out⟩

theorem qcmp_is {w : World} {sx tx sy ty : Bool} {Px Qx Py Qy : Option Addr} {lx kx mx dx ly ky my dy : Nat} {K K' : Nat} {x y : Rat} {v : Int} (hx : Rv K w sx Px lx kx tx Qx mx dx x) (hy : Rv K' w sy Py ly ky ty Qy my dy y) (hK : K + K' ≤ 1000000) (hv : rs (x - y) = v) :
    Calls Try.prog 22 #[.agg #[.bool sx, .slice Px lx kx, .bool tx, .slice Qx mx dx], .agg #[.bool sy, .slice Py ly ky, .bool ty, .slice Qy my dy]] w (RetE (.int .i64 v) w) := hv ▸ qcmp_v hx hy hK

end Go.Proofs.Ytikkibpjchmajaa

