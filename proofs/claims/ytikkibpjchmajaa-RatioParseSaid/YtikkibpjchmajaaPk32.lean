/-
  The contracts of ratio.Mul, Div. Printed by wip/gen/rat.py.
-/
import Derived.Test.YtikkibpjchmajaaPk30
namespace Go.Proofs.Ytikkibpjchmajaa
open Go.RowKit
open Go.Lib (hid)

set_option maxHeartbeats 6400000 in
set_option maxRecDepth 100000 in
theorem qmul_v {w : World} {sx tx sy ty : Bool} {Px Qx Py Qy : Option Addr} {lx kx mx dx ly ky my dy : Nat} {K K' : Nat} {x y : Rat} (hx : Rv K w sx Px lx kx tx Qx mx dx x) (hy : Rv K' w sy Py ly ky ty Qy my dy y) (hK : K + K' ≤ 2000000) :
    Calls Try.prog 23 #[.agg #[.bool sx, .slice Px lx kx, .bool tx, .slice Qx mx dx], .agg #[.bool sy, .slice Py ly ky, .bool ty, .slice Qy my dy]] w (RetR (K + K' + 4) (x * y) w) := by
  have Hx := hid hx
  have Hy := hid hy
  clear hx hy
  go_enter Try.func23, Try.ntmps23
  go_upto_region 1 with fail
  have hy1 := hid ((((Ext.refl w).alloc (.cells #[.bool sx, .slice Px lx kx, .bool tx, .slice Qx mx dx] 27)).alloc (.cells #[.bool sy, .slice Py ly ky, .bool ty, .slice Qy my dy] 27)).alloc (.cells #[.bool false, .slice none 0 0, .bool false, .slice none 0 0] 27))
  have Bx_ := ((Bk.new w 27 #[.bool sx, .slice Px lx kx, .bool tx, .slice Qx mx dx]).ext (((Ext.refl (w.alloc (.cells #[.bool sx, .slice Px lx kx, .bool tx, .slice Qx mx dx] 27))).alloc (.cells #[.bool sy, .slice Py ly ky, .bool ty, .slice Qy my dy] 27)).alloc (.cells #[.bool false, .slice none 0 0, .bool false, .slice none 0 0] 27)))
  have Bx := hid Bx_
  clear Bx_
  have By_ := ((Bk.new (w.alloc (.cells #[.bool sx, .slice Px lx kx, .bool tx, .slice Qx mx dx] 27)) 27 #[.bool sy, .slice Py ly ky, .bool ty, .slice Qy my dy]).ext ((Ext.refl ((w.alloc (.cells #[.bool sx, .slice Px lx kx, .bool tx, .slice Qx mx dx] 27)).alloc (.cells #[.bool sy, .slice Py ly ky, .bool ty, .slice Qy my dy] 27))).alloc (.cells #[.bool false, .slice none 0 0, .bool false, .slice none 0 0] 27)))
  rw [size_alloc] at By_
  have By := hid By_
  clear By_
  have Bo_ := (Bk.new ((w.alloc (.cells #[.bool sx, .slice Px lx kx, .bool tx, .slice Qx mx dx] 27)).alloc (.cells #[.bool sy, .slice Py ly ky, .bool ty, .slice Qy my dy] 27)) 27 #[.bool false, .slice none 0 0, .bool false, .slice none 0 0])
  rw [size_alloc, size_alloc] at Bo_
  have Bo := hid Bo_
  clear Bo_
  generalize (((w.alloc (.cells #[.bool sx, .slice Px lx kx, .bool tx, .slice Qx mx dx] 27)).alloc (.cells #[.bool sy, .slice Py ly ky, .bool ty, .slice Qy my dy] 27)).alloc (.cells #[.bool false, .slice none 0 0, .bool false, .slice none 0 0] 27)) = w1 at *
  have X1 := hid ((Ext.refl _).trans hy1.out)
  go_cut [2, 3] (fun v2 v3 wx => ∃ (b1q : Bool) (A1q : Option Addr) (n1q c1q : Nat) (e1q : Bool) (B1q : Option Addr) (m1q d1q : Nat) (b3q : Bool) (A3q : Option Addr) (n3q c3q : Nat) (e3q : Bool) (B3q : Option Addr) (m3q d3q : Nat), v2 = .pointer (some ⟨w.heap.size, 0, none⟩) ∧ v3 = .pointer (some ⟨w.heap.size + 1, 0, none⟩) ∧ Bk 27 wx (w.heap.size) #[.bool b1q, .slice A1q n1q c1q, .bool e1q, .slice B1q m1q d1q] ∧ Bk 27 wx (w.heap.size + 1) #[.bool b3q, .slice A3q n3q c3q, .bool e3q, .slice B3q m3q d3q] ∧ Bk 27 wx (w.heap.size + 1 + 1) #[.bool false, .slice none 0 0, .bool false, .slice none 0 0] ∧ Rc (K + 2) wx w.heap.size b1q A1q n1q c1q e1q B1q m1q d1q x ∧ Rc (K' + 2) wx w.heap.size b3q A3q n3q c3q e3q B3q m3q d3q y ∧ Ext w wx)
  case first =>
    refine wp_region_held_drew (S := fun _ => True) (by kernel_rfl) trivial (fun hS0 => ?_)
    change wpAnyH _ _ _ _ _ 6 #[false, false, false, false, false, false] _ _
    refine wpAnyH_ready (rs := [0, 2]) (by kernel_rfl) (by simp) ?_
    refine drawn_loadS 0 7 27 (.tmp 2) (w.heap.size) 27 #[.bool sx, .slice Px lx kx, .bool tx, .slice Qx mx dx] _ (by kernel_rfl) rfl (Bx.out.ext (Ext.refl _).drew) Try.underlying27 rfl info_rat trivial ?_ ?_
    · skip
      simp only [Act.put, List.setIfInBounds_toArray, List.set_cons_zero, List.set_cons_succ]
      refine wpAnyH_ready (rs := [1, 2]) (by kernel_rfl) (by simp) ?_
      refine drawn_call1 1 (some 8) (.tmp 7) (ts := #[27]) (by kernel_rfl) (enters_of Try.func49 (by kernel_rfl) rfl) rfl (rput_v (Hx.out.ext (X1.out.trans (Ext.refl _).drew)) (by omega)) (fun E v1 hh => ?_) ?_
      · skip
        obtain ⟨b1q, A1q, n1q, c1q, e1q, B1q, m1q, d1q, rfl, o1, hx1⟩ := hh
        refine ⟨_, rfl, trivial, ?_⟩
        simp only [Act.put, List.setIfInBounds_toArray, List.set_cons_zero, List.set_cons_succ]
        refine wpAnyH_ready (rs := [2]) (by kernel_rfl) (by simp) ?_
        refine drawn_loadS 2 9 27 (.tmp 3) (w.heap.size + 1) 27 #[.bool sy, .slice Py ly ky, .bool ty, .slice Qy my dy] _ (by kernel_rfl) rfl (By.out.ext ((Ext.refl _).drew.trans hx1)) Try.underlying27 rfl info_rat trivial ?_ ?_
        · skip
          simp only [Act.put, List.setIfInBounds_toArray, List.set_cons_zero, List.set_cons_succ]
          refine wpAnyH_ready (rs := [3]) (by kernel_rfl) (by simp) ?_
          refine drawn_call1 3 (some 10) (.tmp 9) (ts := #[27]) (by kernel_rfl) (enters_of Try.func49 (by kernel_rfl) rfl) rfl (rput_v (Hy.out.ext ((X1.out.trans (Ext.refl _).drew).trans hx1)) (by omega)) (fun E v3 hh => ?_) ?_
          · skip
            obtain ⟨b3q, A3q, n3q, c3q, e3q, B3q, m3q, d3q, rfl, o3, hx3⟩ := hh
            refine ⟨_, rfl, trivial, ?_⟩
            simp only [Act.put, List.setIfInBounds_toArray, List.set_cons_zero, List.set_cons_succ]
            refine wpAnyH_ready (rs := [4]) (by kernel_rfl) (by simp) ?_
            have hq4 := (Bx.out.ext (((Ext.refl _).drew.trans hx1).trans hx3))
            refine drawn_store 4 27 (.tmp 2) (.tmp 8) (w.heap.size) #[.bool b1q, .slice A1q n1q c1q, .bool e1q, .slice B1q m1q d1q] #[.bool sx, .slice Px lx kx, .bool tx, .slice Qx mx dx] 27 (by kernel_rfl) rfl rfl hq4.h info_rat rfl one_four (fun v4 hb4 hg4 => ⟨trivial, ?_⟩) ?_
            · skip
              simp only [Act.put, List.setIfInBounds_toArray, List.set_cons_zero, List.set_cons_succ]
              refine wpAnyH_ready (rs := [5]) (by kernel_rfl) (by simp) ?_
              have hq5 := ((By.out.ext (((Ext.refl _).drew.trans hx1).trans hx3)).grown hg4 (by omega))
              refine drawn_store 5 27 (.tmp 3) (.tmp 10) (w.heap.size + 1) #[.bool b3q, .slice A3q n3q c3q, .bool e3q, .slice B3q m3q d3q] #[.bool sy, .slice Py ly ky, .bool ty, .slice Qy my dy] 27 (by kernel_rfl) rfl rfl hq5.h info_rat rfl one_four (fun v5 hb5 hg5 => ⟨trivial, ?_⟩) ?_
              · skip
                simp only [Act.put, List.setIfInBounds_toArray, List.set_cons_zero, List.set_cons_succ]
                refine wpAnyH_done (by kernel_rfl) ?_ _
                go_step
                go_step
                go_meet
                case rel => exact ⟨_, _, _, _, _, _, _, _, _, _, _, _, _, _, _, _, rfl, rfl, ((show Bk 27 v4 (w.heap.size) #[.bool b1q, .slice A1q n1q c1q, .bool e1q, .slice B1q m1q d1q] from hb4).grown hg5 (by omega)), (show Bk 27 v5 (w.heap.size + 1) #[.bool b3q, .slice A3q n3q c3q, .bool e3q, .slice B3q m3q d3q] from hb5), (((Bo.out.ext (((Ext.refl _).drew.trans hx1).trans hx3)).grown hg4 (by omega)).grown hg5 (by omega)), ((((o1.mono (X1.out.trans (Ext.refl _).drew).size).ext hx3).gbk hq4 (by decide) hg4).gbk hq5 (by decide) hg5), (((o3.mono ((X1.out.trans (Ext.refl _).drew).trans hx1).size).gbk hq4 (by decide) hg4).gbk hq5 (by decide) hg5), (((((X1.out.trans (Ext.refl _).drew).trans hx1).trans hx3).gb hg4 (by omega)).gb hg5 (by omega))⟩
              exact drawn_nil
            exact drawn_nil
          exact drawn_nil
        exact drawn_nil
      refine drawn_loadS 2 9 27 (.tmp 3) (w.heap.size + 1) 27 #[.bool sy, .slice Py ly ky, .bool ty, .slice Qy my dy] _ (by kernel_rfl) rfl (By.out.ext (Ext.refl _).drew) Try.underlying27 rfl info_rat trivial ?_ ?_
      · skip
        simp only [Act.put, List.setIfInBounds_toArray, List.set_cons_zero, List.set_cons_succ]
        refine wpAnyH_ready (rs := [1]) (by kernel_rfl) (by simp) ?_
        refine drawn_call1 1 (some 8) (.tmp 7) (ts := #[27]) (by kernel_rfl) (enters_of Try.func49 (by kernel_rfl) rfl) rfl (rput_v (Hx.out.ext (X1.out.trans (Ext.refl _).drew)) (by omega)) (fun E v1 hh => ?_) ?_
        · skip
          obtain ⟨b1q, A1q, n1q, c1q, e1q, B1q, m1q, d1q, rfl, o1, hx1⟩ := hh
          refine ⟨_, rfl, trivial, ?_⟩
          simp only [Act.put, List.setIfInBounds_toArray, List.set_cons_zero, List.set_cons_succ]
          refine wpAnyH_ready (rs := [3]) (by kernel_rfl) (by simp) ?_
          refine drawn_call1 3 (some 10) (.tmp 9) (ts := #[27]) (by kernel_rfl) (enters_of Try.func49 (by kernel_rfl) rfl) rfl (rput_v (Hy.out.ext ((X1.out.trans (Ext.refl _).drew).trans hx1)) (by omega)) (fun E v3 hh => ?_) ?_
          · skip
            obtain ⟨b3q, A3q, n3q, c3q, e3q, B3q, m3q, d3q, rfl, o3, hx3⟩ := hh
            refine ⟨_, rfl, trivial, ?_⟩
            simp only [Act.put, List.setIfInBounds_toArray, List.set_cons_zero, List.set_cons_succ]
            refine wpAnyH_ready (rs := [4]) (by kernel_rfl) (by simp) ?_
            have hq4 := (Bx.out.ext (((Ext.refl _).drew.trans hx1).trans hx3))
            refine drawn_store 4 27 (.tmp 2) (.tmp 8) (w.heap.size) #[.bool b1q, .slice A1q n1q c1q, .bool e1q, .slice B1q m1q d1q] #[.bool sx, .slice Px lx kx, .bool tx, .slice Qx mx dx] 27 (by kernel_rfl) rfl rfl hq4.h info_rat rfl one_four (fun v4 hb4 hg4 => ⟨trivial, ?_⟩) ?_
            · skip
              simp only [Act.put, List.setIfInBounds_toArray, List.set_cons_zero, List.set_cons_succ]
              refine wpAnyH_ready (rs := [5]) (by kernel_rfl) (by simp) ?_
              have hq5 := ((By.out.ext (((Ext.refl _).drew.trans hx1).trans hx3)).grown hg4 (by omega))
              refine drawn_store 5 27 (.tmp 3) (.tmp 10) (w.heap.size + 1) #[.bool b3q, .slice A3q n3q c3q, .bool e3q, .slice B3q m3q d3q] #[.bool sy, .slice Py ly ky, .bool ty, .slice Qy my dy] 27 (by kernel_rfl) rfl rfl hq5.h info_rat rfl one_four (fun v5 hb5 hg5 => ⟨trivial, ?_⟩) ?_
              · skip
                simp only [Act.put, List.setIfInBounds_toArray, List.set_cons_zero, List.set_cons_succ]
                refine wpAnyH_done (by kernel_rfl) ?_ _
                go_step
                go_step
                go_meet
                case rel => exact ⟨_, _, _, _, _, _, _, _, _, _, _, _, _, _, _, _, rfl, rfl, ((show Bk 27 v4 (w.heap.size) #[.bool b1q, .slice A1q n1q c1q, .bool e1q, .slice B1q m1q d1q] from hb4).grown hg5 (by omega)), (show Bk 27 v5 (w.heap.size + 1) #[.bool b3q, .slice A3q n3q c3q, .bool e3q, .slice B3q m3q d3q] from hb5), (((Bo.out.ext (((Ext.refl _).drew.trans hx1).trans hx3)).grown hg4 (by omega)).grown hg5 (by omega)), ((((o1.mono (X1.out.trans (Ext.refl _).drew).size).ext hx3).gbk hq4 (by decide) hg4).gbk hq5 (by decide) hg5), (((o3.mono ((X1.out.trans (Ext.refl _).drew).trans hx1).size).gbk hq4 (by decide) hg4).gbk hq5 (by decide) hg5), (((((X1.out.trans (Ext.refl _).drew).trans hx1).trans hx3).gb hg4 (by omega)).gb hg5 (by omega))⟩
              exact drawn_nil
            exact drawn_nil
          exact drawn_nil
        exact drawn_nil
      exact drawn_nil
    refine drawn_loadS 2 9 27 (.tmp 3) (w.heap.size + 1) 27 #[.bool sy, .slice Py ly ky, .bool ty, .slice Qy my dy] _ (by kernel_rfl) rfl (By.out.ext (Ext.refl _).drew) Try.underlying27 rfl info_rat trivial ?_ ?_
    · skip
      simp only [Act.put, List.setIfInBounds_toArray, List.set_cons_zero, List.set_cons_succ]
      refine wpAnyH_ready (rs := [0]) (by kernel_rfl) (by simp) ?_
      refine drawn_loadS 0 7 27 (.tmp 2) (w.heap.size) 27 #[.bool sx, .slice Px lx kx, .bool tx, .slice Qx mx dx] _ (by kernel_rfl) rfl (Bx.out.ext (Ext.refl _).drew) Try.underlying27 rfl info_rat trivial ?_ ?_
      · skip
        simp only [Act.put, List.setIfInBounds_toArray, List.set_cons_zero, List.set_cons_succ]
        refine wpAnyH_ready (rs := [1]) (by kernel_rfl) (by simp) ?_
        refine drawn_call1 1 (some 8) (.tmp 7) (ts := #[27]) (by kernel_rfl) (enters_of Try.func49 (by kernel_rfl) rfl) rfl (rput_v (Hx.out.ext (X1.out.trans (Ext.refl _).drew)) (by omega)) (fun E v1 hh => ?_) ?_
        · skip
          obtain ⟨b1q, A1q, n1q, c1q, e1q, B1q, m1q, d1q, rfl, o1, hx1⟩ := hh
          refine ⟨_, rfl, trivial, ?_⟩
          simp only [Act.put, List.setIfInBounds_toArray, List.set_cons_zero, List.set_cons_succ]
          refine wpAnyH_ready (rs := [3]) (by kernel_rfl) (by simp) ?_
          refine drawn_call1 3 (some 10) (.tmp 9) (ts := #[27]) (by kernel_rfl) (enters_of Try.func49 (by kernel_rfl) rfl) rfl (rput_v (Hy.out.ext ((X1.out.trans (Ext.refl _).drew).trans hx1)) (by omega)) (fun E v3 hh => ?_) ?_
          · skip
            obtain ⟨b3q, A3q, n3q, c3q, e3q, B3q, m3q, d3q, rfl, o3, hx3⟩ := hh
            refine ⟨_, rfl, trivial, ?_⟩
            simp only [Act.put, List.setIfInBounds_toArray, List.set_cons_zero, List.set_cons_succ]
            refine wpAnyH_ready (rs := [4]) (by kernel_rfl) (by simp) ?_
            have hq4 := (Bx.out.ext (((Ext.refl _).drew.trans hx1).trans hx3))
            refine drawn_store 4 27 (.tmp 2) (.tmp 8) (w.heap.size) #[.bool b1q, .slice A1q n1q c1q, .bool e1q, .slice B1q m1q d1q] #[.bool sx, .slice Px lx kx, .bool tx, .slice Qx mx dx] 27 (by kernel_rfl) rfl rfl hq4.h info_rat rfl one_four (fun v4 hb4 hg4 => ⟨trivial, ?_⟩) ?_
            · skip
              simp only [Act.put, List.setIfInBounds_toArray, List.set_cons_zero, List.set_cons_succ]
              refine wpAnyH_ready (rs := [5]) (by kernel_rfl) (by simp) ?_
              have hq5 := ((By.out.ext (((Ext.refl _).drew.trans hx1).trans hx3)).grown hg4 (by omega))
              refine drawn_store 5 27 (.tmp 3) (.tmp 10) (w.heap.size + 1) #[.bool b3q, .slice A3q n3q c3q, .bool e3q, .slice B3q m3q d3q] #[.bool sy, .slice Py ly ky, .bool ty, .slice Qy my dy] 27 (by kernel_rfl) rfl rfl hq5.h info_rat rfl one_four (fun v5 hb5 hg5 => ⟨trivial, ?_⟩) ?_
              · skip
                simp only [Act.put, List.setIfInBounds_toArray, List.set_cons_zero, List.set_cons_succ]
                refine wpAnyH_done (by kernel_rfl) ?_ _
                go_step
                go_step
                go_meet
                case rel => exact ⟨_, _, _, _, _, _, _, _, _, _, _, _, _, _, _, _, rfl, rfl, ((show Bk 27 v4 (w.heap.size) #[.bool b1q, .slice A1q n1q c1q, .bool e1q, .slice B1q m1q d1q] from hb4).grown hg5 (by omega)), (show Bk 27 v5 (w.heap.size + 1) #[.bool b3q, .slice A3q n3q c3q, .bool e3q, .slice B3q m3q d3q] from hb5), (((Bo.out.ext (((Ext.refl _).drew.trans hx1).trans hx3)).grown hg4 (by omega)).grown hg5 (by omega)), ((((o1.mono (X1.out.trans (Ext.refl _).drew).size).ext hx3).gbk hq4 (by decide) hg4).gbk hq5 (by decide) hg5), (((o3.mono ((X1.out.trans (Ext.refl _).drew).trans hx1).size).gbk hq4 (by decide) hg4).gbk hq5 (by decide) hg5), (((((X1.out.trans (Ext.refl _).drew).trans hx1).trans hx3).gb hg4 (by omega)).gb hg5 (by omega))⟩
              exact drawn_nil
            exact drawn_nil
          exact drawn_nil
        exact drawn_nil
      exact drawn_nil
    exact drawn_nil
  case rest =>
  obtain ⟨b1q, A1q, n1q, c1q, e1q, B1q, m1q, d1q, b3q, A3q, n3q, c3q, e3q, B3q, m3q, d3q, rfl, rfl, Bxc2, Byc2, Boc2, Opc2, Oqc2, Xc2⟩ := hcut
  obtain ⟨w2, hw2⟩ : ∃ w2, w2 = wc := ⟨_, rfl⟩
  subst hw2
  have HBxc2 := hid Bxc2
  clear Bxc2
  have HByc2 := hid Byc2
  clear Byc2
  have HBoc2 := hid Boc2
  clear Boc2
  have HOpc2 := hid Opc2
  clear Opc2
  have HOqc2 := hid Oqc2
  clear Oqc2
  have X2 := hid Xc2
  clear Xc2
  go_upto_region 2 with fail
  go_cut [5] (fun v5 wx => ∃ (g5c : Nat) (b10q : Bool) (A10q : Option Addr) (n10q c10q : Nat) (e10q : Bool) (B10q : Option Addr) (m10q d10q : Nat), v5 = .pointer (some ⟨g5c, 0, none⟩) ∧ w2.heap.size ≤ g5c ∧ Bk 27 wx (g5c) #[.bool b10q, .slice A10q n10q c10q, .bool e10q, .slice B10q m10q d10q] ∧ Bk 27 wx (w.heap.size + 1 + 1) #[.bool false, .slice none 0 0, .bool false, .slice none 0 0] ∧ Rc (K + K' + 4) wx w.heap.size b10q A10q n10q c10q e10q B10q m10q d10q (x * y) ∧ Ext w wx)
  case first =>
    refine wp_region_held_drew (S := fun w' => Ext w w' ∧ Bk 27 w' (w.heap.size) #[.bool b1q, .slice A1q n1q c1q, .bool e1q, .slice B1q m1q d1q] ∧ Bk 27 w' (w.heap.size + 1) #[.bool b3q, .slice A3q n3q c3q, .bool e3q, .slice B3q m3q d3q]) (by kernel_rfl) ⟨(X2.out.trans (Ext.refl _).drew), (HBxc2.out.ext (Ext.refl _).drew), (HByc2.out.ext (Ext.refl _).drew)⟩ (fun hS0 => ?_)
    change wpAnyH _ _ _ _ _ 17 #[false, false, false, false, false, false, false, false, false, false, false, false, false, false, false, false, false] _ _
    refine drawn_free 0 12 (v := ?v0_31) (.fieldAddr 27 (.tmp 2) 0) (by kernel_rfl) ?hy0_31 (by kernel_rfl) (by kernel_rfl) (by kernel_rfl) (fun _ _ _ _ h => h) hS0 ?hr0_31
    case hy0_31 => (intro o ho w' hS; unfold execOp; simp only [ho]; go_simp; try with_reducible rfl)
    simp only [Act.put, List.setIfInBounds_toArray, List.set_cons_zero, List.set_cons_succ]
    refine drawn_free 1 13 (v := ?v1_32) (.load 24 (.tmp 12)) (by kernel_rfl) ?hy1_32 (by kernel_rfl) (by kernel_rfl) (by kernel_rfl) (fun _ _ _ _ h => h) hS0 ?hr1_32
    case hy1_32 => (intro o ho w' hS; have c0 : w'.cell? ⟨w.heap.size, 0, none⟩ = some (.bool b1q) := hS.2.1.c 0; have c1 : w'.cell? ⟨w.heap.size, 1, none⟩ = some (.slice A1q n1q c1q) := hS.2.1.c 1; unfold execOp; simp only [ho]; go_simp; try with_reducible rfl)
    simp only [Act.put, List.setIfInBounds_toArray, List.set_cons_zero, List.set_cons_succ]
    refine drawn_free 2 14 (v := ?v2_33) (.fieldAddr 27 (.tmp 3) 0) (by kernel_rfl) ?hy2_33 (by kernel_rfl) (by kernel_rfl) (by kernel_rfl) (fun _ _ _ _ h => h) hS0 ?hr2_33
    case hy2_33 => (intro o ho w' hS; unfold execOp; simp only [ho]; go_simp; try with_reducible rfl)
    simp only [Act.put, List.setIfInBounds_toArray, List.set_cons_zero, List.set_cons_succ]
    refine drawn_free 3 15 (v := ?v3_34) (.load 24 (.tmp 14)) (by kernel_rfl) ?hy3_34 (by kernel_rfl) (by kernel_rfl) (by kernel_rfl) (fun _ _ _ _ h => h) hS0 ?hr3_34
    case hy3_34 => (intro o ho w' hS; have c0 : w'.cell? ⟨w.heap.size + 1, 0, none⟩ = some (.bool b3q) := hS.2.2.c 0; have c1 : w'.cell? ⟨w.heap.size + 1, 1, none⟩ = some (.slice A3q n3q c3q) := hS.2.2.c 1; unfold execOp; simp only [ho]; go_simp; try with_reducible rfl)
    simp only [Act.put, List.setIfInBounds_toArray, List.set_cons_zero, List.set_cons_succ]
    refine drawn_free 5 17 (v := ?v5_35) (.fieldAddr 27 (.tmp 2) 1) (by kernel_rfl) ?hy5_35 (by kernel_rfl) (by kernel_rfl) (by kernel_rfl) (fun _ _ _ _ h => h) hS0 ?hr5_35
    case hy5_35 => (intro o ho w' hS; unfold execOp; simp only [ho]; go_simp; try with_reducible rfl)
    simp only [Act.put, List.setIfInBounds_toArray, List.set_cons_zero, List.set_cons_succ]
    refine drawn_free 6 18 (v := ?v6_36) (.load 24 (.tmp 17)) (by kernel_rfl) ?hy6_36 (by kernel_rfl) (by kernel_rfl) (by kernel_rfl) (fun _ _ _ _ h => h) hS0 ?hr6_36
    case hy6_36 => (intro o ho w' hS; have c2 : w'.cell? ⟨w.heap.size, 2, none⟩ = some (.bool e1q) := hS.2.1.c 2; have c3 : w'.cell? ⟨w.heap.size, 3, none⟩ = some (.slice B1q m1q d1q) := hS.2.1.c 3; unfold execOp; simp only [ho]; go_simp; try with_reducible rfl)
    simp only [Act.put, List.setIfInBounds_toArray, List.set_cons_zero, List.set_cons_succ]
    refine drawn_free 7 19 (v := ?v7_37) (.fieldAddr 27 (.tmp 3) 1) (by kernel_rfl) ?hy7_37 (by kernel_rfl) (by kernel_rfl) (by kernel_rfl) (fun _ _ _ _ h => h) hS0 ?hr7_37
    case hy7_37 => (intro o ho w' hS; unfold execOp; simp only [ho]; go_simp; try with_reducible rfl)
    simp only [Act.put, List.setIfInBounds_toArray, List.set_cons_zero, List.set_cons_succ]
    refine drawn_free 8 20 (v := ?v8_38) (.load 24 (.tmp 19)) (by kernel_rfl) ?hy8_38 (by kernel_rfl) (by kernel_rfl) (by kernel_rfl) (fun _ _ _ _ h => h) hS0 ?hr8_38
    case hy8_38 => (intro o ho w' hS; have c2 : w'.cell? ⟨w.heap.size + 1, 2, none⟩ = some (.bool e3q) := hS.2.2.c 2; have c3 : w'.cell? ⟨w.heap.size + 1, 3, none⟩ = some (.slice B3q m3q d3q) := hS.2.2.c 3; unfold execOp; simp only [ho]; go_simp; try with_reducible rfl)
    simp only [Act.put, List.setIfInBounds_toArray, List.set_cons_zero, List.set_cons_succ]
    refine wpAnyH_ready (rs := [4, 14]) (by kernel_rfl) (by simp) ?_
    refine drawn_call2 4 (some 16) (.tmp 13) (.tmp 15) (ts := #[24, 24]) (by kernel_rfl) (enters_of Try.func54 (by kernel_rfl) rfl) rfl rfl (wmul_v (HOpc2.out.ext (Ext.refl _).drew).nu.iz (HOqc2.out.ext (Ext.refl _).drew).nu.iz (by omega)) (fun E v4 hh => ?_) ?_
    · skip
      obtain ⟨b4q, A4q, n4q, c4q, rfl, o4, hx4⟩ := hh
      refine ⟨_, rfl, ⟨((X2.out.trans (Ext.refl _).drew).trans hx4), (HBxc2.out.ext ((Ext.refl _).drew.trans hx4)), (HByc2.out.ext ((Ext.refl _).drew.trans hx4))⟩, ?_⟩
      simp only [Act.put, List.setIfInBounds_toArray, List.set_cons_zero, List.set_cons_succ]
      refine wpAnyH_ready (rs := [9, 14]) (by kernel_rfl) (by simp) ?_
      refine drawn_call2 9 (some 21) (.tmp 18) (.tmp 20) (ts := #[24, 24]) (by kernel_rfl) (enters_of Try.func54 (by kernel_rfl) rfl) rfl rfl (wmul_v (HOpc2.out.ext ((Ext.refl _).drew.trans hx4)).de.iz (HOqc2.out.ext ((Ext.refl _).drew.trans hx4)).de.iz (by omega)) (fun E v9 hh => ?_) ?_
      · skip
        obtain ⟨b9q, A9q, n9q, c9q, rfl, o9, hx9⟩ := hh
        refine ⟨_, rfl, ⟨(((X2.out.trans (Ext.refl _).drew).trans hx4).trans hx9), (HBxc2.out.ext (((Ext.refl _).drew.trans hx4).trans hx9)), (HByc2.out.ext (((Ext.refl _).drew.trans hx4).trans hx9))⟩, ?_⟩
        simp only [Act.put, List.setIfInBounds_toArray, List.set_cons_zero, List.set_cons_succ]
        refine wpAnyH_ready (rs := [10, 14]) (by kernel_rfl) (by simp) ?_
        refine drawn_call2 10 (some 22) (.tmp 16) (.tmp 21) (ts := #[24, 24]) (by kernel_rfl) (enters_of Try.func9 (by kernel_rfl) rfl) rfl rfl (rof_is (K + K' + 4) ((o4.mono (X2.out.trans (Ext.refl _).drew).size).ext hx9).iz (o9.mono ((X2.out.trans (Ext.refl _).drew).trans hx4).size).iz (dens_ne x y) (by omega) (by omega) (by omega) (rat_mul_parts x y)) (fun E v10 hh => ?_) ?_
        · skip
          obtain ⟨b10q, A10q, n10q, c10q, e10q, B10q, m10q, d10q, rfl, o10, hx10⟩ := hh
          refine ⟨_, rfl, ⟨((((X2.out.trans (Ext.refl _).drew).trans hx4).trans hx9).trans hx10), (HBxc2.out.ext ((((Ext.refl _).drew.trans hx4).trans hx9).trans hx10)), (HByc2.out.ext ((((Ext.refl _).drew.trans hx4).trans hx9).trans hx10))⟩, ?_⟩
          simp only [Act.put, List.setIfInBounds_toArray, List.set_cons_zero, List.set_cons_succ]
          refine drawn_free 11 11 (v := ?v11_39) (.move (.tmp 22)) (by kernel_rfl) ?hy11_39 (by kernel_rfl) (by kernel_rfl) (by kernel_rfl) (fun _ _ _ _ h => h) ⟨((((X2.out.trans (Ext.refl _).drew).trans hx4).trans hx9).trans hx10), (HBxc2.out.ext ((((Ext.refl _).drew.trans hx4).trans hx9).trans hx10)), (HByc2.out.ext ((((Ext.refl _).drew.trans hx4).trans hx9).trans hx10))⟩ ?hr11_39
          case hy11_39 => (intro o ho w' hS; unfold execOp; simp only [ho]; go_simp; try with_reducible rfl)
          simp only [Act.put, List.setIfInBounds_toArray, List.set_cons_zero, List.set_cons_succ]
          refine drawn_free 12 23 (v := ?v12_40) (.extract (.tmp 11) 0) (by kernel_rfl) ?hy12_40 (by kernel_rfl) (by kernel_rfl) (by kernel_rfl) (fun _ _ _ _ h => h) ⟨((((X2.out.trans (Ext.refl _).drew).trans hx4).trans hx9).trans hx10), (HBxc2.out.ext ((((Ext.refl _).drew.trans hx4).trans hx9).trans hx10)), (HByc2.out.ext ((((Ext.refl _).drew.trans hx4).trans hx9).trans hx10))⟩ ?hr12_40
          case hy12_40 => (intro o ho w' hS; unfold execOp; simp only [ho]; go_simp; try with_reducible rfl)
          simp only [Act.put, List.setIfInBounds_toArray, List.set_cons_zero, List.set_cons_succ]
          refine drawn_free 13 24 (v := ?v13_41) (.extract (.tmp 11) 1) (by kernel_rfl) ?hy13_41 (by kernel_rfl) (by kernel_rfl) (by kernel_rfl) (fun _ _ _ _ h => h) ⟨((((X2.out.trans (Ext.refl _).drew).trans hx4).trans hx9).trans hx10), (HBxc2.out.ext ((((Ext.refl _).drew.trans hx4).trans hx9).trans hx10)), (HByc2.out.ext ((((Ext.refl _).drew.trans hx4).trans hx9).trans hx10))⟩ ?hr13_41
          case hy13_41 => (intro o ho w' hS; unfold execOp; simp only [ho]; go_simp; try with_reducible rfl)
          simp only [Act.put, List.setIfInBounds_toArray, List.set_cons_zero, List.set_cons_succ]
          refine wpAnyH_ready (rs := [14]) (by kernel_rfl) (by simp) ?_
          refine drawn_alloc 14 (some 5) (by kernel_rfl) alloc_rat (fun g14 v14 hb14 hx14 hg14 => ⟨⟨(((((X2.out.trans (Ext.refl _).drew).trans hx4).trans hx9).trans hx10).trans hx14), (HBxc2.out.ext (((((Ext.refl _).drew.trans hx4).trans hx9).trans hx10).trans hx14)), (HByc2.out.ext (((((Ext.refl _).drew.trans hx4).trans hx9).trans hx10).trans hx14))⟩, ?_⟩) ?_
          · skip
            simp only [Act.put, List.setIfInBounds_toArray, List.set_cons_zero, List.set_cons_succ]
            refine wpAnyH_ready (rs := [15]) (by kernel_rfl) (by simp) ?_
            have hq15 := (show Bk 27 v14 g14 #[.bool false, .slice none 0 0, .bool false, .slice none 0 0] from hb14)
            refine drawn_store 15 27 (.tmp 5) (.tmp 23) (g14) #[.bool b10q, .slice A10q n10q c10q, .bool e10q, .slice B10q m10q d10q] #[.bool false, .slice none 0 0, .bool false, .slice none 0 0] 27 (by kernel_rfl) rfl rfl hq15.h info_rat rfl one_four (fun v15 hb15 hg15 => ⟨⟨((((((X2.out.trans (Ext.refl _).drew).trans hx4).trans hx9).trans hx10).trans hx14).gb hg15 (by have h := ((((X2.out.trans (Ext.refl _).drew).trans hx4).trans hx9).trans hx10).size; have h1 := hg14; omega)), ((HBxc2.out.ext (((((Ext.refl _).drew.trans hx4).trans hx9).trans hx10).trans hx14)).grown hg15 (by have h0 := (Nat.lt_of_lt_of_le HBxc2.out.lt (Nat.le_trans (Nat.le_trans (Nat.le_trans (Ext.refl _).drew.size hx4.size) hx9.size) hx10.size)); have h1 := hg14; omega)), ((HByc2.out.ext (((((Ext.refl _).drew.trans hx4).trans hx9).trans hx10).trans hx14)).grown hg15 (by have h0 := (Nat.lt_of_lt_of_le HByc2.out.lt (Nat.le_trans (Nat.le_trans (Nat.le_trans (Ext.refl _).drew.size hx4.size) hx9.size) hx10.size)); have h1 := hg14; omega))⟩, ?_⟩) ?_
            · skip
              simp only [Act.put, List.setIfInBounds_toArray, List.set_cons_zero, List.set_cons_succ]
              refine drawn_free 16 6 (v := ?v16_42) (.assign (.tmp 24)) (by kernel_rfl) ?hy16_42 (by kernel_rfl) (by kernel_rfl) (by kernel_rfl) (fun _ _ _ _ h => h) ⟨((((((X2.out.trans (Ext.refl _).drew).trans hx4).trans hx9).trans hx10).trans hx14).gb hg15 (by have h := ((((X2.out.trans (Ext.refl _).drew).trans hx4).trans hx9).trans hx10).size; have h1 := hg14; omega)), ((HBxc2.out.ext (((((Ext.refl _).drew.trans hx4).trans hx9).trans hx10).trans hx14)).grown hg15 (by have h0 := (Nat.lt_of_lt_of_le HBxc2.out.lt (Nat.le_trans (Nat.le_trans (Nat.le_trans (Ext.refl _).drew.size hx4.size) hx9.size) hx10.size)); have h1 := hg14; omega)), ((HByc2.out.ext (((((Ext.refl _).drew.trans hx4).trans hx9).trans hx10).trans hx14)).grown hg15 (by have h0 := (Nat.lt_of_lt_of_le HByc2.out.lt (Nat.le_trans (Nat.le_trans (Nat.le_trans (Ext.refl _).drew.size hx4.size) hx9.size) hx10.size)); have h1 := hg14; omega))⟩ ?hr16_42
              case hy16_42 => (intro o ho w' hS; unfold execOp; simp only [ho]; go_simp; try with_reducible rfl)
              simp only [Act.put, List.setIfInBounds_toArray, List.set_cons_zero, List.set_cons_succ]
              refine wpAnyH_done (by kernel_rfl) ?_ _
              go_step
              go_step
              go_meet
              case rel => exact ⟨_, _, _, _, _, _, _, _, _, rfl, (Nat.le_trans (Nat.le_trans (Nat.le_trans (Nat.le_trans (Ext.refl _).drew.size hx4.size) hx9.size) hx10.size) hg14), (show Bk 27 v15 (g14) #[.bool b10q, .slice A10q n10q c10q, .bool e10q, .slice B10q m10q d10q] from hb15), ((HBoc2.out.ext (((((Ext.refl _).drew.trans hx4).trans hx9).trans hx10).trans hx14)).grown hg15 (by have h0 := (Nat.lt_of_lt_of_le HBoc2.out.lt (Nat.le_trans (Nat.le_trans (Nat.le_trans (Ext.refl _).drew.size hx4.size) hx9.size) hx10.size)); have h1 := hg14; omega)), (((o10.mono (((X2.out.trans (Ext.refl _).drew).trans hx4).trans hx9).size).ext hx14).gbk hq15 (by decide) hg15), ((((((X2.out.trans (Ext.refl _).drew).trans hx4).trans hx9).trans hx10).trans hx14).gb hg15 (by have h := ((((X2.out.trans (Ext.refl _).drew).trans hx4).trans hx9).trans hx10).size; have h1 := hg14; omega))⟩
            exact drawn_nil
          exact drawn_nil
        refine drawn_alloc 14 (some 5) (by kernel_rfl) alloc_rat (fun g14 v14 hb14 hx14 hg14 => ⟨⟨((((X2.out.trans (Ext.refl _).drew).trans hx4).trans hx9).trans hx14), (HBxc2.out.ext ((((Ext.refl _).drew.trans hx4).trans hx9).trans hx14)), (HByc2.out.ext ((((Ext.refl _).drew.trans hx4).trans hx9).trans hx14))⟩, ?_⟩) ?_
        · skip
          simp only [Act.put, List.setIfInBounds_toArray, List.set_cons_zero, List.set_cons_succ]
          refine wpAnyH_ready (rs := [10]) (by kernel_rfl) (by simp) ?_
          refine drawn_call2 10 (some 22) (.tmp 16) (.tmp 21) (ts := #[24, 24]) (by kernel_rfl) (enters_of Try.func9 (by kernel_rfl) rfl) rfl rfl (rof_is (K + K' + 4) ((o4.mono (X2.out.trans (Ext.refl _).drew).size).ext (hx9.trans hx14)).iz ((o9.mono ((X2.out.trans (Ext.refl _).drew).trans hx4).size).ext hx14).iz (dens_ne x y) (by omega) (by omega) (by omega) (rat_mul_parts x y)) (fun E v10 hh => ?_) ?_
          · skip
            obtain ⟨b10q, A10q, n10q, c10q, e10q, B10q, m10q, d10q, rfl, o10, hx10⟩ := hh
            refine ⟨_, rfl, ⟨(((((X2.out.trans (Ext.refl _).drew).trans hx4).trans hx9).trans hx14).trans hx10), (HBxc2.out.ext (((((Ext.refl _).drew.trans hx4).trans hx9).trans hx14).trans hx10)), (HByc2.out.ext (((((Ext.refl _).drew.trans hx4).trans hx9).trans hx14).trans hx10))⟩, ?_⟩
            simp only [Act.put, List.setIfInBounds_toArray, List.set_cons_zero, List.set_cons_succ]
            refine drawn_free 11 11 (v := ?v11_43) (.move (.tmp 22)) (by kernel_rfl) ?hy11_43 (by kernel_rfl) (by kernel_rfl) (by kernel_rfl) (fun _ _ _ _ h => h) ⟨(((((X2.out.trans (Ext.refl _).drew).trans hx4).trans hx9).trans hx14).trans hx10), (HBxc2.out.ext (((((Ext.refl _).drew.trans hx4).trans hx9).trans hx14).trans hx10)), (HByc2.out.ext (((((Ext.refl _).drew.trans hx4).trans hx9).trans hx14).trans hx10))⟩ ?hr11_43
            case hy11_43 => (intro o ho w' hS; unfold execOp; simp only [ho]; go_simp; try with_reducible rfl)
            simp only [Act.put, List.setIfInBounds_toArray, List.set_cons_zero, List.set_cons_succ]
            refine drawn_free 12 23 (v := ?v12_44) (.extract (.tmp 11) 0) (by kernel_rfl) ?hy12_44 (by kernel_rfl) (by kernel_rfl) (by kernel_rfl) (fun _ _ _ _ h => h) ⟨(((((X2.out.trans (Ext.refl _).drew).trans hx4).trans hx9).trans hx14).trans hx10), (HBxc2.out.ext (((((Ext.refl _).drew.trans hx4).trans hx9).trans hx14).trans hx10)), (HByc2.out.ext (((((Ext.refl _).drew.trans hx4).trans hx9).trans hx14).trans hx10))⟩ ?hr12_44
            case hy12_44 => (intro o ho w' hS; unfold execOp; simp only [ho]; go_simp; try with_reducible rfl)
            simp only [Act.put, List.setIfInBounds_toArray, List.set_cons_zero, List.set_cons_succ]
            refine drawn_free 13 24 (v := ?v13_45) (.extract (.tmp 11) 1) (by kernel_rfl) ?hy13_45 (by kernel_rfl) (by kernel_rfl) (by kernel_rfl) (fun _ _ _ _ h => h) ⟨(((((X2.out.trans (Ext.refl _).drew).trans hx4).trans hx9).trans hx14).trans hx10), (HBxc2.out.ext (((((Ext.refl _).drew.trans hx4).trans hx9).trans hx14).trans hx10)), (HByc2.out.ext (((((Ext.refl _).drew.trans hx4).trans hx9).trans hx14).trans hx10))⟩ ?hr13_45
            case hy13_45 => (intro o ho w' hS; unfold execOp; simp only [ho]; go_simp; try with_reducible rfl)
            simp only [Act.put, List.setIfInBounds_toArray, List.set_cons_zero, List.set_cons_succ]
            refine wpAnyH_ready (rs := [15]) (by kernel_rfl) (by simp) ?_
            have hq15 := ((show Bk 27 v14 g14 #[.bool false, .slice none 0 0, .bool false, .slice none 0 0] from hb14).ext hx10)
            refine drawn_store 15 27 (.tmp 5) (.tmp 23) (g14) #[.bool b10q, .slice A10q n10q c10q, .bool e10q, .slice B10q m10q d10q] #[.bool false, .slice none 0 0, .bool false, .slice none 0 0] 27 (by kernel_rfl) rfl rfl hq15.h info_rat rfl one_four (fun v15 hb15 hg15 => ⟨⟨((((((X2.out.trans (Ext.refl _).drew).trans hx4).trans hx9).trans hx14).trans hx10).gb hg15 (by have h := (((X2.out.trans (Ext.refl _).drew).trans hx4).trans hx9).size; have h1 := hg14; omega)), ((HBxc2.out.ext (((((Ext.refl _).drew.trans hx4).trans hx9).trans hx14).trans hx10)).grown hg15 (by have h0 := (Nat.lt_of_lt_of_le HBxc2.out.lt (Nat.le_trans (Nat.le_trans (Ext.refl _).drew.size hx4.size) hx9.size)); have h1 := hg14; omega)), ((HByc2.out.ext (((((Ext.refl _).drew.trans hx4).trans hx9).trans hx14).trans hx10)).grown hg15 (by have h0 := (Nat.lt_of_lt_of_le HByc2.out.lt (Nat.le_trans (Nat.le_trans (Ext.refl _).drew.size hx4.size) hx9.size)); have h1 := hg14; omega))⟩, ?_⟩) ?_
            · skip
              simp only [Act.put, List.setIfInBounds_toArray, List.set_cons_zero, List.set_cons_succ]
              refine drawn_free 16 6 (v := ?v16_46) (.assign (.tmp 24)) (by kernel_rfl) ?hy16_46 (by kernel_rfl) (by kernel_rfl) (by kernel_rfl) (fun _ _ _ _ h => h) ⟨((((((X2.out.trans (Ext.refl _).drew).trans hx4).trans hx9).trans hx14).trans hx10).gb hg15 (by have h := (((X2.out.trans (Ext.refl _).drew).trans hx4).trans hx9).size; have h1 := hg14; omega)), ((HBxc2.out.ext (((((Ext.refl _).drew.trans hx4).trans hx9).trans hx14).trans hx10)).grown hg15 (by have h0 := (Nat.lt_of_lt_of_le HBxc2.out.lt (Nat.le_trans (Nat.le_trans (Ext.refl _).drew.size hx4.size) hx9.size)); have h1 := hg14; omega)), ((HByc2.out.ext (((((Ext.refl _).drew.trans hx4).trans hx9).trans hx14).trans hx10)).grown hg15 (by have h0 := (Nat.lt_of_lt_of_le HByc2.out.lt (Nat.le_trans (Nat.le_trans (Ext.refl _).drew.size hx4.size) hx9.size)); have h1 := hg14; omega))⟩ ?hr16_46
              case hy16_46 => (intro o ho w' hS; unfold execOp; simp only [ho]; go_simp; try with_reducible rfl)
              simp only [Act.put, List.setIfInBounds_toArray, List.set_cons_zero, List.set_cons_succ]
              refine wpAnyH_done (by kernel_rfl) ?_ _
              go_step
              go_step
              go_meet
              case rel => exact ⟨_, _, _, _, _, _, _, _, _, rfl, (Nat.le_trans (Nat.le_trans (Nat.le_trans (Ext.refl _).drew.size hx4.size) hx9.size) hg14), (show Bk 27 v15 (g14) #[.bool b10q, .slice A10q n10q c10q, .bool e10q, .slice B10q m10q d10q] from hb15), ((HBoc2.out.ext (((((Ext.refl _).drew.trans hx4).trans hx9).trans hx14).trans hx10)).grown hg15 (by have h0 := (Nat.lt_of_lt_of_le HBoc2.out.lt (Nat.le_trans (Nat.le_trans (Ext.refl _).drew.size hx4.size) hx9.size)); have h1 := hg14; omega)), ((o10.mono ((((X2.out.trans (Ext.refl _).drew).trans hx4).trans hx9).trans hx14).size).gbk hq15 (by decide) hg15), ((((((X2.out.trans (Ext.refl _).drew).trans hx4).trans hx9).trans hx14).trans hx10).gb hg15 (by have h := (((X2.out.trans (Ext.refl _).drew).trans hx4).trans hx9).size; have h1 := hg14; omega))⟩
            exact drawn_nil
          exact drawn_nil
        exact drawn_nil
      refine drawn_alloc 14 (some 5) (by kernel_rfl) alloc_rat (fun g14 v14 hb14 hx14 hg14 => ⟨⟨(((X2.out.trans (Ext.refl _).drew).trans hx4).trans hx14), (HBxc2.out.ext (((Ext.refl _).drew.trans hx4).trans hx14)), (HByc2.out.ext (((Ext.refl _).drew.trans hx4).trans hx14))⟩, ?_⟩) ?_
      · skip
        simp only [Act.put, List.setIfInBounds_toArray, List.set_cons_zero, List.set_cons_succ]
        refine wpAnyH_ready (rs := [9]) (by kernel_rfl) (by simp) ?_
        refine drawn_call2 9 (some 21) (.tmp 18) (.tmp 20) (ts := #[24, 24]) (by kernel_rfl) (enters_of Try.func54 (by kernel_rfl) rfl) rfl rfl (wmul_v (HOpc2.out.ext (((Ext.refl _).drew.trans hx4).trans hx14)).de.iz (HOqc2.out.ext (((Ext.refl _).drew.trans hx4).trans hx14)).de.iz (by omega)) (fun E v9 hh => ?_) ?_
        · skip
          obtain ⟨b9q, A9q, n9q, c9q, rfl, o9, hx9⟩ := hh
          refine ⟨_, rfl, ⟨((((X2.out.trans (Ext.refl _).drew).trans hx4).trans hx14).trans hx9), (HBxc2.out.ext ((((Ext.refl _).drew.trans hx4).trans hx14).trans hx9)), (HByc2.out.ext ((((Ext.refl _).drew.trans hx4).trans hx14).trans hx9))⟩, ?_⟩
          simp only [Act.put, List.setIfInBounds_toArray, List.set_cons_zero, List.set_cons_succ]
          refine wpAnyH_ready (rs := [10]) (by kernel_rfl) (by simp) ?_
          refine drawn_call2 10 (some 22) (.tmp 16) (.tmp 21) (ts := #[24, 24]) (by kernel_rfl) (enters_of Try.func9 (by kernel_rfl) rfl) rfl rfl (rof_is (K + K' + 4) ((o4.mono (X2.out.trans (Ext.refl _).drew).size).ext (hx14.trans hx9)).iz (o9.mono (((X2.out.trans (Ext.refl _).drew).trans hx4).trans hx14).size).iz (dens_ne x y) (by omega) (by omega) (by omega) (rat_mul_parts x y)) (fun E v10 hh => ?_) ?_
          · skip
            obtain ⟨b10q, A10q, n10q, c10q, e10q, B10q, m10q, d10q, rfl, o10, hx10⟩ := hh
            refine ⟨_, rfl, ⟨(((((X2.out.trans (Ext.refl _).drew).trans hx4).trans hx14).trans hx9).trans hx10), (HBxc2.out.ext (((((Ext.refl _).drew.trans hx4).trans hx14).trans hx9).trans hx10)), (HByc2.out.ext (((((Ext.refl _).drew.trans hx4).trans hx14).trans hx9).trans hx10))⟩, ?_⟩
            simp only [Act.put, List.setIfInBounds_toArray, List.set_cons_zero, List.set_cons_succ]
            refine drawn_free 11 11 (v := ?v11_47) (.move (.tmp 22)) (by kernel_rfl) ?hy11_47 (by kernel_rfl) (by kernel_rfl) (by kernel_rfl) (fun _ _ _ _ h => h) ⟨(((((X2.out.trans (Ext.refl _).drew).trans hx4).trans hx14).trans hx9).trans hx10), (HBxc2.out.ext (((((Ext.refl _).drew.trans hx4).trans hx14).trans hx9).trans hx10)), (HByc2.out.ext (((((Ext.refl _).drew.trans hx4).trans hx14).trans hx9).trans hx10))⟩ ?hr11_47
            case hy11_47 => (intro o ho w' hS; unfold execOp; simp only [ho]; go_simp; try with_reducible rfl)
            simp only [Act.put, List.setIfInBounds_toArray, List.set_cons_zero, List.set_cons_succ]
            refine drawn_free 12 23 (v := ?v12_48) (.extract (.tmp 11) 0) (by kernel_rfl) ?hy12_48 (by kernel_rfl) (by kernel_rfl) (by kernel_rfl) (fun _ _ _ _ h => h) ⟨(((((X2.out.trans (Ext.refl _).drew).trans hx4).trans hx14).trans hx9).trans hx10), (HBxc2.out.ext (((((Ext.refl _).drew.trans hx4).trans hx14).trans hx9).trans hx10)), (HByc2.out.ext (((((Ext.refl _).drew.trans hx4).trans hx14).trans hx9).trans hx10))⟩ ?hr12_48
            case hy12_48 => (intro o ho w' hS; unfold execOp; simp only [ho]; go_simp; try with_reducible rfl)
            simp only [Act.put, List.setIfInBounds_toArray, List.set_cons_zero, List.set_cons_succ]
            refine drawn_free 13 24 (v := ?v13_49) (.extract (.tmp 11) 1) (by kernel_rfl) ?hy13_49 (by kernel_rfl) (by kernel_rfl) (by kernel_rfl) (fun _ _ _ _ h => h) ⟨(((((X2.out.trans (Ext.refl _).drew).trans hx4).trans hx14).trans hx9).trans hx10), (HBxc2.out.ext (((((Ext.refl _).drew.trans hx4).trans hx14).trans hx9).trans hx10)), (HByc2.out.ext (((((Ext.refl _).drew.trans hx4).trans hx14).trans hx9).trans hx10))⟩ ?hr13_49
            case hy13_49 => (intro o ho w' hS; unfold execOp; simp only [ho]; go_simp; try with_reducible rfl)
            simp only [Act.put, List.setIfInBounds_toArray, List.set_cons_zero, List.set_cons_succ]
            refine wpAnyH_ready (rs := [15]) (by kernel_rfl) (by simp) ?_
            have hq15 := ((show Bk 27 v14 g14 #[.bool false, .slice none 0 0, .bool false, .slice none 0 0] from hb14).ext (hx9.trans hx10))
            refine drawn_store 15 27 (.tmp 5) (.tmp 23) (g14) #[.bool b10q, .slice A10q n10q c10q, .bool e10q, .slice B10q m10q d10q] #[.bool false, .slice none 0 0, .bool false, .slice none 0 0] 27 (by kernel_rfl) rfl rfl hq15.h info_rat rfl one_four (fun v15 hb15 hg15 => ⟨⟨((((((X2.out.trans (Ext.refl _).drew).trans hx4).trans hx14).trans hx9).trans hx10).gb hg15 (by have h := ((X2.out.trans (Ext.refl _).drew).trans hx4).size; have h1 := hg14; omega)), ((HBxc2.out.ext (((((Ext.refl _).drew.trans hx4).trans hx14).trans hx9).trans hx10)).grown hg15 (by have h0 := (Nat.lt_of_lt_of_le HBxc2.out.lt (Nat.le_trans (Ext.refl _).drew.size hx4.size)); have h1 := hg14; omega)), ((HByc2.out.ext (((((Ext.refl _).drew.trans hx4).trans hx14).trans hx9).trans hx10)).grown hg15 (by have h0 := (Nat.lt_of_lt_of_le HByc2.out.lt (Nat.le_trans (Ext.refl _).drew.size hx4.size)); have h1 := hg14; omega))⟩, ?_⟩) ?_
            · skip
              simp only [Act.put, List.setIfInBounds_toArray, List.set_cons_zero, List.set_cons_succ]
              refine drawn_free 16 6 (v := ?v16_50) (.assign (.tmp 24)) (by kernel_rfl) ?hy16_50 (by kernel_rfl) (by kernel_rfl) (by kernel_rfl) (fun _ _ _ _ h => h) ⟨((((((X2.out.trans (Ext.refl _).drew).trans hx4).trans hx14).trans hx9).trans hx10).gb hg15 (by have h := ((X2.out.trans (Ext.refl _).drew).trans hx4).size; have h1 := hg14; omega)), ((HBxc2.out.ext (((((Ext.refl _).drew.trans hx4).trans hx14).trans hx9).trans hx10)).grown hg15 (by have h0 := (Nat.lt_of_lt_of_le HBxc2.out.lt (Nat.le_trans (Ext.refl _).drew.size hx4.size)); have h1 := hg14; omega)), ((HByc2.out.ext (((((Ext.refl _).drew.trans hx4).trans hx14).trans hx9).trans hx10)).grown hg15 (by have h0 := (Nat.lt_of_lt_of_le HByc2.out.lt (Nat.le_trans (Ext.refl _).drew.size hx4.size)); have h1 := hg14; omega))⟩ ?hr16_50
              case hy16_50 => (intro o ho w' hS; unfold execOp; simp only [ho]; go_simp; try with_reducible rfl)
              simp only [Act.put, List.setIfInBounds_toArray, List.set_cons_zero, List.set_cons_succ]
              refine wpAnyH_done (by kernel_rfl) ?_ _
              go_step
              go_step
              go_meet
              case rel => exact ⟨_, _, _, _, _, _, _, _, _, rfl, (Nat.le_trans (Nat.le_trans (Ext.refl _).drew.size hx4.size) hg14), (show Bk 27 v15 (g14) #[.bool b10q, .slice A10q n10q c10q, .bool e10q, .slice B10q m10q d10q] from hb15), ((HBoc2.out.ext (((((Ext.refl _).drew.trans hx4).trans hx14).trans hx9).trans hx10)).grown hg15 (by have h0 := (Nat.lt_of_lt_of_le HBoc2.out.lt (Nat.le_trans (Ext.refl _).drew.size hx4.size)); have h1 := hg14; omega)), ((o10.mono ((((X2.out.trans (Ext.refl _).drew).trans hx4).trans hx14).trans hx9).size).gbk hq15 (by decide) hg15), ((((((X2.out.trans (Ext.refl _).drew).trans hx4).trans hx14).trans hx9).trans hx10).gb hg15 (by have h := ((X2.out.trans (Ext.refl _).drew).trans hx4).size; have h1 := hg14; omega))⟩
            exact drawn_nil
          exact drawn_nil
        exact drawn_nil
      exact drawn_nil
    refine drawn_alloc 14 (some 5) (by kernel_rfl) alloc_rat (fun g14 v14 hb14 hx14 hg14 => ⟨⟨((X2.out.trans (Ext.refl _).drew).trans hx14), (HBxc2.out.ext ((Ext.refl _).drew.trans hx14)), (HByc2.out.ext ((Ext.refl _).drew.trans hx14))⟩, ?_⟩) ?_
    · skip
      simp only [Act.put, List.setIfInBounds_toArray, List.set_cons_zero, List.set_cons_succ]
      refine wpAnyH_ready (rs := [4]) (by kernel_rfl) (by simp) ?_
      refine drawn_call2 4 (some 16) (.tmp 13) (.tmp 15) (ts := #[24, 24]) (by kernel_rfl) (enters_of Try.func54 (by kernel_rfl) rfl) rfl rfl (wmul_v (HOpc2.out.ext ((Ext.refl _).drew.trans hx14)).nu.iz (HOqc2.out.ext ((Ext.refl _).drew.trans hx14)).nu.iz (by omega)) (fun E v4 hh => ?_) ?_
      · skip
        obtain ⟨b4q, A4q, n4q, c4q, rfl, o4, hx4⟩ := hh
        refine ⟨_, rfl, ⟨(((X2.out.trans (Ext.refl _).drew).trans hx14).trans hx4), (HBxc2.out.ext (((Ext.refl _).drew.trans hx14).trans hx4)), (HByc2.out.ext (((Ext.refl _).drew.trans hx14).trans hx4))⟩, ?_⟩
        simp only [Act.put, List.setIfInBounds_toArray, List.set_cons_zero, List.set_cons_succ]
        refine wpAnyH_ready (rs := [9]) (by kernel_rfl) (by simp) ?_
        refine drawn_call2 9 (some 21) (.tmp 18) (.tmp 20) (ts := #[24, 24]) (by kernel_rfl) (enters_of Try.func54 (by kernel_rfl) rfl) rfl rfl (wmul_v (HOpc2.out.ext (((Ext.refl _).drew.trans hx14).trans hx4)).de.iz (HOqc2.out.ext (((Ext.refl _).drew.trans hx14).trans hx4)).de.iz (by omega)) (fun E v9 hh => ?_) ?_
        · skip
          obtain ⟨b9q, A9q, n9q, c9q, rfl, o9, hx9⟩ := hh
          refine ⟨_, rfl, ⟨((((X2.out.trans (Ext.refl _).drew).trans hx14).trans hx4).trans hx9), (HBxc2.out.ext ((((Ext.refl _).drew.trans hx14).trans hx4).trans hx9)), (HByc2.out.ext ((((Ext.refl _).drew.trans hx14).trans hx4).trans hx9))⟩, ?_⟩
          simp only [Act.put, List.setIfInBounds_toArray, List.set_cons_zero, List.set_cons_succ]
          refine wpAnyH_ready (rs := [10]) (by kernel_rfl) (by simp) ?_
          refine drawn_call2 10 (some 22) (.tmp 16) (.tmp 21) (ts := #[24, 24]) (by kernel_rfl) (enters_of Try.func9 (by kernel_rfl) rfl) rfl rfl (rof_is (K + K' + 4) ((o4.mono ((X2.out.trans (Ext.refl _).drew).trans hx14).size).ext hx9).iz (o9.mono (((X2.out.trans (Ext.refl _).drew).trans hx14).trans hx4).size).iz (dens_ne x y) (by omega) (by omega) (by omega) (rat_mul_parts x y)) (fun E v10 hh => ?_) ?_
          · skip
            obtain ⟨b10q, A10q, n10q, c10q, e10q, B10q, m10q, d10q, rfl, o10, hx10⟩ := hh
            refine ⟨_, rfl, ⟨(((((X2.out.trans (Ext.refl _).drew).trans hx14).trans hx4).trans hx9).trans hx10), (HBxc2.out.ext (((((Ext.refl _).drew.trans hx14).trans hx4).trans hx9).trans hx10)), (HByc2.out.ext (((((Ext.refl _).drew.trans hx14).trans hx4).trans hx9).trans hx10))⟩, ?_⟩
            simp only [Act.put, List.setIfInBounds_toArray, List.set_cons_zero, List.set_cons_succ]
            refine drawn_free 11 11 (v := ?v11_51) (.move (.tmp 22)) (by kernel_rfl) ?hy11_51 (by kernel_rfl) (by kernel_rfl) (by kernel_rfl) (fun _ _ _ _ h => h) ⟨(((((X2.out.trans (Ext.refl _).drew).trans hx14).trans hx4).trans hx9).trans hx10), (HBxc2.out.ext (((((Ext.refl _).drew.trans hx14).trans hx4).trans hx9).trans hx10)), (HByc2.out.ext (((((Ext.refl _).drew.trans hx14).trans hx4).trans hx9).trans hx10))⟩ ?hr11_51
            case hy11_51 => (intro o ho w' hS; unfold execOp; simp only [ho]; go_simp; try with_reducible rfl)
            simp only [Act.put, List.setIfInBounds_toArray, List.set_cons_zero, List.set_cons_succ]
            refine drawn_free 12 23 (v := ?v12_52) (.extract (.tmp 11) 0) (by kernel_rfl) ?hy12_52 (by kernel_rfl) (by kernel_rfl) (by kernel_rfl) (fun _ _ _ _ h => h) ⟨(((((X2.out.trans (Ext.refl _).drew).trans hx14).trans hx4).trans hx9).trans hx10), (HBxc2.out.ext (((((Ext.refl _).drew.trans hx14).trans hx4).trans hx9).trans hx10)), (HByc2.out.ext (((((Ext.refl _).drew.trans hx14).trans hx4).trans hx9).trans hx10))⟩ ?hr12_52
            case hy12_52 => (intro o ho w' hS; unfold execOp; simp only [ho]; go_simp; try with_reducible rfl)
            simp only [Act.put, List.setIfInBounds_toArray, List.set_cons_zero, List.set_cons_succ]
            refine drawn_free 13 24 (v := ?v13_53) (.extract (.tmp 11) 1) (by kernel_rfl) ?hy13_53 (by kernel_rfl) (by kernel_rfl) (by kernel_rfl) (fun _ _ _ _ h => h) ⟨(((((X2.out.trans (Ext.refl _).drew).trans hx14).trans hx4).trans hx9).trans hx10), (HBxc2.out.ext (((((Ext.refl _).drew.trans hx14).trans hx4).trans hx9).trans hx10)), (HByc2.out.ext (((((Ext.refl _).drew.trans hx14).trans hx4).trans hx9).trans hx10))⟩ ?hr13_53
            case hy13_53 => (intro o ho w' hS; unfold execOp; simp only [ho]; go_simp; try with_reducible rfl)
            simp only [Act.put, List.setIfInBounds_toArray, List.set_cons_zero, List.set_cons_succ]
            refine wpAnyH_ready (rs := [15]) (by kernel_rfl) (by simp) ?_
            have hq15 := ((show Bk 27 v14 g14 #[.bool false, .slice none 0 0, .bool false, .slice none 0 0] from hb14).ext ((hx4.trans hx9).trans hx10))
            refine drawn_store 15 27 (.tmp 5) (.tmp 23) (g14) #[.bool b10q, .slice A10q n10q c10q, .bool e10q, .slice B10q m10q d10q] #[.bool false, .slice none 0 0, .bool false, .slice none 0 0] 27 (by kernel_rfl) rfl rfl hq15.h info_rat rfl one_four (fun v15 hb15 hg15 => ⟨⟨((((((X2.out.trans (Ext.refl _).drew).trans hx14).trans hx4).trans hx9).trans hx10).gb hg15 (by have h := (X2.out.trans (Ext.refl _).drew).size; have h1 := hg14; omega)), ((HBxc2.out.ext (((((Ext.refl _).drew.trans hx14).trans hx4).trans hx9).trans hx10)).grown hg15 (by have h0 := (Nat.lt_of_lt_of_le HBxc2.out.lt (Ext.refl _).drew.size); have h1 := hg14; omega)), ((HByc2.out.ext (((((Ext.refl _).drew.trans hx14).trans hx4).trans hx9).trans hx10)).grown hg15 (by have h0 := (Nat.lt_of_lt_of_le HByc2.out.lt (Ext.refl _).drew.size); have h1 := hg14; omega))⟩, ?_⟩) ?_
            · skip
              simp only [Act.put, List.setIfInBounds_toArray, List.set_cons_zero, List.set_cons_succ]
              refine drawn_free 16 6 (v := ?v16_54) (.assign (.tmp 24)) (by kernel_rfl) ?hy16_54 (by kernel_rfl) (by kernel_rfl) (by kernel_rfl) (fun _ _ _ _ h => h) ⟨((((((X2.out.trans (Ext.refl _).drew).trans hx14).trans hx4).trans hx9).trans hx10).gb hg15 (by have h := (X2.out.trans (Ext.refl _).drew).size; have h1 := hg14; omega)), ((HBxc2.out.ext (((((Ext.refl _).drew.trans hx14).trans hx4).trans hx9).trans hx10)).grown hg15 (by have h0 := (Nat.lt_of_lt_of_le HBxc2.out.lt (Ext.refl _).drew.size); have h1 := hg14; omega)), ((HByc2.out.ext (((((Ext.refl _).drew.trans hx14).trans hx4).trans hx9).trans hx10)).grown hg15 (by have h0 := (Nat.lt_of_lt_of_le HByc2.out.lt (Ext.refl _).drew.size); have h1 := hg14; omega))⟩ ?hr16_54
              case hy16_54 => (intro o ho w' hS; unfold execOp; simp only [ho]; go_simp; try with_reducible rfl)
              simp only [Act.put, List.setIfInBounds_toArray, List.set_cons_zero, List.set_cons_succ]
              refine wpAnyH_done (by kernel_rfl) ?_ _
              go_step
              go_step
              go_meet
              case rel => exact ⟨_, _, _, _, _, _, _, _, _, rfl, (Nat.le_trans (Ext.refl _).drew.size hg14), (show Bk 27 v15 (g14) #[.bool b10q, .slice A10q n10q c10q, .bool e10q, .slice B10q m10q d10q] from hb15), ((HBoc2.out.ext (((((Ext.refl _).drew.trans hx14).trans hx4).trans hx9).trans hx10)).grown hg15 (by have h0 := (Nat.lt_of_lt_of_le HBoc2.out.lt (Ext.refl _).drew.size); have h1 := hg14; omega)), ((o10.mono ((((X2.out.trans (Ext.refl _).drew).trans hx14).trans hx4).trans hx9).size).gbk hq15 (by decide) hg15), ((((((X2.out.trans (Ext.refl _).drew).trans hx14).trans hx4).trans hx9).trans hx10).gb hg15 (by have h := (X2.out.trans (Ext.refl _).drew).size; have h1 := hg14; omega))⟩
            exact drawn_nil
          exact drawn_nil
        exact drawn_nil
      exact drawn_nil
    exact drawn_nil
  case rest =>
  obtain ⟨g5c, b10q, A10q, n10q, c10q, e10q, B10q, m10q, d10q, rfl, hger3, Brc3, Boc3, Orc3, Xc3⟩ := hcut
  obtain ⟨w3, hw3⟩ : ∃ w3, w3 = wc := ⟨_, rfl⟩
  subst hw3
  have HBrc3 := hid Brc3
  clear Brc3
  have HBoc3 := hid Boc3
  clear Boc3
  have HOrc3 := hid Orc3
  clear Orc3
  have X3 := hid Xc3
  clear Xc3
  obtain ⟨f5_0, f5_1, f5_2, f5_3, f5_4, f5_5, f5_6, f5_7, f5_8, f5_9, f5_10, f5_11⟩ : w3.cell? ⟨g5c, 0, none⟩ = some (.bool b10q) ∧ w3.cell? ⟨g5c, 1, none⟩ = some (.slice A10q n10q c10q) ∧ w3.cell? ⟨g5c, 2, none⟩ = some (.bool e10q) ∧ w3.cell? ⟨g5c, 3, none⟩ = some (.slice B10q m10q d10q) ∧ w3.cell? ⟨w.heap.size + 1 + 1, 0, none⟩ = some (.bool false) ∧ w3.cell? ⟨w.heap.size + 1 + 1, 1, none⟩ = some (.slice none 0 0) ∧ w3.cell? ⟨w.heap.size + 1 + 1, 2, none⟩ = some (.bool false) ∧ w3.cell? ⟨w.heap.size + 1 + 1, 3, none⟩ = some (.slice none 0 0) ∧ w3.frozen? ⟨w.heap.size + 1 + 1, 0, none⟩ = false ∧ w3.frozen? ⟨w.heap.size + 1 + 1, 1, none⟩ = false ∧ w3.frozen? ⟨w.heap.size + 1 + 1, 2, none⟩ = false ∧ w3.frozen? ⟨w.heap.size + 1 + 1, 3, none⟩ = false := ⟨HBrc3.out.c 0, HBrc3.out.c 1, HBrc3.out.c 2, HBrc3.out.c 3, HBoc3.out.c 0, HBoc3.out.c 1, HBoc3.out.c 2, HBoc3.out.c 3, HBoc3.out.fr 0, HBoc3.out.fr 1, HBoc3.out.fr 2, HBoc3.out.fr 3⟩
  go_wp2_with fail
  clear f5_0 f5_1 f5_2 f5_3 f5_4 f5_5 f5_6 f5_7 f5_8 f5_9 f5_10 f5_11
  have HG4 := hid (show w3.grownBy ((((w3.setCell ⟨w.heap.size + 1 + 1, 0, none⟩ (.bool b10q)).setCell ⟨w.heap.size + 1 + 1, 1, none⟩ (.slice A10q n10q c10q)).setCell ⟨w.heap.size + 1 + 1, 2, none⟩ (.bool e10q)).setCell ⟨w.heap.size + 1 + 1, 3, none⟩ (.slice B10q m10q d10q)) (some (w.heap.size + 1 + 1)) from gb4 w3 (w.heap.size + 1 + 1) (.bool b10q) (.slice A10q n10q c10q) (.bool e10q) (.slice B10q m10q d10q))
  have HO4 := hid HBoc3.out
  have HP4 := hid (show Bk 27 ((((w3.setCell ⟨w.heap.size + 1 + 1, 0, none⟩ (.bool b10q)).setCell ⟨w.heap.size + 1 + 1, 1, none⟩ (.slice A10q n10q c10q)).setCell ⟨w.heap.size + 1 + 1, 2, none⟩ (.bool e10q)).setCell ⟨w.heap.size + 1 + 1, 3, none⟩ (.slice B10q m10q d10q)) (w.heap.size + 1 + 1) #[.bool b10q, .slice A10q n10q c10q, .bool e10q, .slice B10q m10q d10q] from HBoc3.out.put4 (.bool b10q) (.slice A10q n10q c10q) (.bool e10q) (.slice B10q m10q d10q))
  generalize ((((w3.setCell ⟨w.heap.size + 1 + 1, 0, none⟩ (.bool b10q)).setCell ⟨w.heap.size + 1 + 1, 1, none⟩ (.slice A10q n10q c10q)).setCell ⟨w.heap.size + 1 + 1, 2, none⟩ (.bool e10q)).setCell ⟨w.heap.size + 1 + 1, 3, none⟩ (.slice B10q m10q d10q)) = w4 at *
  have X4 := hid (X3.out.gb HG4.out (by omega))
  refine ret_r rfl HP4.out rfl rfl ⟨_, _, _, _, _, _, _, _, rfl, (HOrc3.out.gbk HO4.out (by decide) HG4.out), X4.out⟩

set_option maxHeartbeats 6400000 in
set_option maxRecDepth 100000 in
theorem qdiv_zero {w : World} {sx tx sy ty : Bool} {Px Qx Py Qy : Option Addr} {lx kx mx dx ly ky my dy : Nat} {K K' : Nat} {x y : Rat} (hx : Rv K w sx Px lx kx tx Qx mx dx x) (hy : Rv K' w sy Py ly ky ty Qy my dy y) (hK : K + K' ≤ 2000000) (hy0 : y = 0) :
    Calls Try.prog 27 #[.agg #[.bool sx, .slice Px lx kx, .bool tx, .slice Qx mx dx], .agg #[.bool sy, .slice Py ly ky, .bool ty, .slice Qy my dy]] w (RetRN 7 w) := by
  have Hx := hid hx
  have Hy := hid hy
  clear hx hy
  have h0 := hid (den_num_zero x y hy0)
  clear hy0
  go_enter Try.func27, Try.ntmps27
  go_upto_region 1 with fail
  have hy1 := hid ((((Ext.refl w).alloc (.cells #[.bool sx, .slice Px lx kx, .bool tx, .slice Qx mx dx] 27)).alloc (.cells #[.bool sy, .slice Py ly ky, .bool ty, .slice Qy my dy] 27)).alloc (.cells #[.bool false, .slice none 0 0, .bool false, .slice none 0 0] 27))
  have Bx_ := ((Bk.new w 27 #[.bool sx, .slice Px lx kx, .bool tx, .slice Qx mx dx]).ext (((Ext.refl (w.alloc (.cells #[.bool sx, .slice Px lx kx, .bool tx, .slice Qx mx dx] 27))).alloc (.cells #[.bool sy, .slice Py ly ky, .bool ty, .slice Qy my dy] 27)).alloc (.cells #[.bool false, .slice none 0 0, .bool false, .slice none 0 0] 27)))
  have Bx := hid Bx_
  clear Bx_
  have By_ := ((Bk.new (w.alloc (.cells #[.bool sx, .slice Px lx kx, .bool tx, .slice Qx mx dx] 27)) 27 #[.bool sy, .slice Py ly ky, .bool ty, .slice Qy my dy]).ext ((Ext.refl ((w.alloc (.cells #[.bool sx, .slice Px lx kx, .bool tx, .slice Qx mx dx] 27)).alloc (.cells #[.bool sy, .slice Py ly ky, .bool ty, .slice Qy my dy] 27))).alloc (.cells #[.bool false, .slice none 0 0, .bool false, .slice none 0 0] 27)))
  rw [size_alloc] at By_
  have By := hid By_
  clear By_
  have Bo_ := (Bk.new ((w.alloc (.cells #[.bool sx, .slice Px lx kx, .bool tx, .slice Qx mx dx] 27)).alloc (.cells #[.bool sy, .slice Py ly ky, .bool ty, .slice Qy my dy] 27)) 27 #[.bool false, .slice none 0 0, .bool false, .slice none 0 0])
  rw [size_alloc, size_alloc] at Bo_
  have Bo := hid Bo_
  clear Bo_
  generalize (((w.alloc (.cells #[.bool sx, .slice Px lx kx, .bool tx, .slice Qx mx dx] 27)).alloc (.cells #[.bool sy, .slice Py ly ky, .bool ty, .slice Qy my dy] 27)).alloc (.cells #[.bool false, .slice none 0 0, .bool false, .slice none 0 0] 27)) = w1 at *
  have X1 := hid ((Ext.refl _).trans hy1.out)
  go_cut [2, 3] (fun v2 v3 wx => ∃ (b1q : Bool) (A1q : Option Addr) (n1q c1q : Nat) (e1q : Bool) (B1q : Option Addr) (m1q d1q : Nat) (b3q : Bool) (A3q : Option Addr) (n3q c3q : Nat) (e3q : Bool) (B3q : Option Addr) (m3q d3q : Nat), v2 = .pointer (some ⟨w.heap.size, 0, none⟩) ∧ v3 = .pointer (some ⟨w.heap.size + 1, 0, none⟩) ∧ Bk 27 wx (w.heap.size) #[.bool b1q, .slice A1q n1q c1q, .bool e1q, .slice B1q m1q d1q] ∧ Bk 27 wx (w.heap.size + 1) #[.bool b3q, .slice A3q n3q c3q, .bool e3q, .slice B3q m3q d3q] ∧ Bk 27 wx (w.heap.size + 1 + 1) #[.bool false, .slice none 0 0, .bool false, .slice none 0 0] ∧ Rc (K + 2) wx w.heap.size b1q A1q n1q c1q e1q B1q m1q d1q x ∧ Rc (K' + 2) wx w.heap.size b3q A3q n3q c3q e3q B3q m3q d3q y ∧ Ext w wx)
  case first =>
    refine wp_region_held_drew (S := fun _ => True) (by kernel_rfl) trivial (fun hS0 => ?_)
    change wpAnyH _ _ _ _ _ 6 #[false, false, false, false, false, false] _ _
    refine wpAnyH_ready (rs := [0, 2]) (by kernel_rfl) (by simp) ?_
    refine drawn_loadS 0 6 27 (.tmp 2) (w.heap.size) 27 #[.bool sx, .slice Px lx kx, .bool tx, .slice Qx mx dx] _ (by kernel_rfl) rfl (Bx.out.ext (Ext.refl _).drew) Try.underlying27 rfl info_rat trivial ?_ ?_
    · skip
      simp only [Act.put, List.setIfInBounds_toArray, List.set_cons_zero, List.set_cons_succ]
      refine wpAnyH_ready (rs := [1, 2]) (by kernel_rfl) (by simp) ?_
      refine drawn_call1 1 (some 7) (.tmp 6) (ts := #[27]) (by kernel_rfl) (enters_of Try.func49 (by kernel_rfl) rfl) rfl (rput_v (Hx.out.ext (X1.out.trans (Ext.refl _).drew)) (by omega)) (fun E v1 hh => ?_) ?_
      · skip
        obtain ⟨b1q, A1q, n1q, c1q, e1q, B1q, m1q, d1q, rfl, o1, hx1⟩ := hh
        refine ⟨_, rfl, trivial, ?_⟩
        simp only [Act.put, List.setIfInBounds_toArray, List.set_cons_zero, List.set_cons_succ]
        refine wpAnyH_ready (rs := [2]) (by kernel_rfl) (by simp) ?_
        refine drawn_loadS 2 8 27 (.tmp 3) (w.heap.size + 1) 27 #[.bool sy, .slice Py ly ky, .bool ty, .slice Qy my dy] _ (by kernel_rfl) rfl (By.out.ext ((Ext.refl _).drew.trans hx1)) Try.underlying27 rfl info_rat trivial ?_ ?_
        · skip
          simp only [Act.put, List.setIfInBounds_toArray, List.set_cons_zero, List.set_cons_succ]
          refine wpAnyH_ready (rs := [3]) (by kernel_rfl) (by simp) ?_
          refine drawn_call1 3 (some 9) (.tmp 8) (ts := #[27]) (by kernel_rfl) (enters_of Try.func49 (by kernel_rfl) rfl) rfl (rput_v (Hy.out.ext ((X1.out.trans (Ext.refl _).drew).trans hx1)) (by omega)) (fun E v3 hh => ?_) ?_
          · skip
            obtain ⟨b3q, A3q, n3q, c3q, e3q, B3q, m3q, d3q, rfl, o3, hx3⟩ := hh
            refine ⟨_, rfl, trivial, ?_⟩
            simp only [Act.put, List.setIfInBounds_toArray, List.set_cons_zero, List.set_cons_succ]
            refine wpAnyH_ready (rs := [4]) (by kernel_rfl) (by simp) ?_
            have hq4 := (Bx.out.ext (((Ext.refl _).drew.trans hx1).trans hx3))
            refine drawn_store 4 27 (.tmp 2) (.tmp 7) (w.heap.size) #[.bool b1q, .slice A1q n1q c1q, .bool e1q, .slice B1q m1q d1q] #[.bool sx, .slice Px lx kx, .bool tx, .slice Qx mx dx] 27 (by kernel_rfl) rfl rfl hq4.h info_rat rfl one_four (fun v4 hb4 hg4 => ⟨trivial, ?_⟩) ?_
            · skip
              simp only [Act.put, List.setIfInBounds_toArray, List.set_cons_zero, List.set_cons_succ]
              refine wpAnyH_ready (rs := [5]) (by kernel_rfl) (by simp) ?_
              have hq5 := ((By.out.ext (((Ext.refl _).drew.trans hx1).trans hx3)).grown hg4 (by omega))
              refine drawn_store 5 27 (.tmp 3) (.tmp 9) (w.heap.size + 1) #[.bool b3q, .slice A3q n3q c3q, .bool e3q, .slice B3q m3q d3q] #[.bool sy, .slice Py ly ky, .bool ty, .slice Qy my dy] 27 (by kernel_rfl) rfl rfl hq5.h info_rat rfl one_four (fun v5 hb5 hg5 => ⟨trivial, ?_⟩) ?_
              · skip
                simp only [Act.put, List.setIfInBounds_toArray, List.set_cons_zero, List.set_cons_succ]
                refine wpAnyH_done (by kernel_rfl) ?_ _
                go_step
                go_step
                go_meet
                case rel => exact ⟨_, _, _, _, _, _, _, _, _, _, _, _, _, _, _, _, rfl, rfl, ((show Bk 27 v4 (w.heap.size) #[.bool b1q, .slice A1q n1q c1q, .bool e1q, .slice B1q m1q d1q] from hb4).grown hg5 (by omega)), (show Bk 27 v5 (w.heap.size + 1) #[.bool b3q, .slice A3q n3q c3q, .bool e3q, .slice B3q m3q d3q] from hb5), (((Bo.out.ext (((Ext.refl _).drew.trans hx1).trans hx3)).grown hg4 (by omega)).grown hg5 (by omega)), ((((o1.mono (X1.out.trans (Ext.refl _).drew).size).ext hx3).gbk hq4 (by decide) hg4).gbk hq5 (by decide) hg5), (((o3.mono ((X1.out.trans (Ext.refl _).drew).trans hx1).size).gbk hq4 (by decide) hg4).gbk hq5 (by decide) hg5), (((((X1.out.trans (Ext.refl _).drew).trans hx1).trans hx3).gb hg4 (by omega)).gb hg5 (by omega))⟩
              exact drawn_nil
            exact drawn_nil
          exact drawn_nil
        exact drawn_nil
      refine drawn_loadS 2 8 27 (.tmp 3) (w.heap.size + 1) 27 #[.bool sy, .slice Py ly ky, .bool ty, .slice Qy my dy] _ (by kernel_rfl) rfl (By.out.ext (Ext.refl _).drew) Try.underlying27 rfl info_rat trivial ?_ ?_
      · skip
        simp only [Act.put, List.setIfInBounds_toArray, List.set_cons_zero, List.set_cons_succ]
        refine wpAnyH_ready (rs := [1]) (by kernel_rfl) (by simp) ?_
        refine drawn_call1 1 (some 7) (.tmp 6) (ts := #[27]) (by kernel_rfl) (enters_of Try.func49 (by kernel_rfl) rfl) rfl (rput_v (Hx.out.ext (X1.out.trans (Ext.refl _).drew)) (by omega)) (fun E v1 hh => ?_) ?_
        · skip
          obtain ⟨b1q, A1q, n1q, c1q, e1q, B1q, m1q, d1q, rfl, o1, hx1⟩ := hh
          refine ⟨_, rfl, trivial, ?_⟩
          simp only [Act.put, List.setIfInBounds_toArray, List.set_cons_zero, List.set_cons_succ]
          refine wpAnyH_ready (rs := [3]) (by kernel_rfl) (by simp) ?_
          refine drawn_call1 3 (some 9) (.tmp 8) (ts := #[27]) (by kernel_rfl) (enters_of Try.func49 (by kernel_rfl) rfl) rfl (rput_v (Hy.out.ext ((X1.out.trans (Ext.refl _).drew).trans hx1)) (by omega)) (fun E v3 hh => ?_) ?_
          · skip
            obtain ⟨b3q, A3q, n3q, c3q, e3q, B3q, m3q, d3q, rfl, o3, hx3⟩ := hh
            refine ⟨_, rfl, trivial, ?_⟩
            simp only [Act.put, List.setIfInBounds_toArray, List.set_cons_zero, List.set_cons_succ]
            refine wpAnyH_ready (rs := [4]) (by kernel_rfl) (by simp) ?_
            have hq4 := (Bx.out.ext (((Ext.refl _).drew.trans hx1).trans hx3))
            refine drawn_store 4 27 (.tmp 2) (.tmp 7) (w.heap.size) #[.bool b1q, .slice A1q n1q c1q, .bool e1q, .slice B1q m1q d1q] #[.bool sx, .slice Px lx kx, .bool tx, .slice Qx mx dx] 27 (by kernel_rfl) rfl rfl hq4.h info_rat rfl one_four (fun v4 hb4 hg4 => ⟨trivial, ?_⟩) ?_
            · skip
              simp only [Act.put, List.setIfInBounds_toArray, List.set_cons_zero, List.set_cons_succ]
              refine wpAnyH_ready (rs := [5]) (by kernel_rfl) (by simp) ?_
              have hq5 := ((By.out.ext (((Ext.refl _).drew.trans hx1).trans hx3)).grown hg4 (by omega))
              refine drawn_store 5 27 (.tmp 3) (.tmp 9) (w.heap.size + 1) #[.bool b3q, .slice A3q n3q c3q, .bool e3q, .slice B3q m3q d3q] #[.bool sy, .slice Py ly ky, .bool ty, .slice Qy my dy] 27 (by kernel_rfl) rfl rfl hq5.h info_rat rfl one_four (fun v5 hb5 hg5 => ⟨trivial, ?_⟩) ?_
              · skip
                simp only [Act.put, List.setIfInBounds_toArray, List.set_cons_zero, List.set_cons_succ]
                refine wpAnyH_done (by kernel_rfl) ?_ _
                go_step
                go_step
                go_meet
                case rel => exact ⟨_, _, _, _, _, _, _, _, _, _, _, _, _, _, _, _, rfl, rfl, ((show Bk 27 v4 (w.heap.size) #[.bool b1q, .slice A1q n1q c1q, .bool e1q, .slice B1q m1q d1q] from hb4).grown hg5 (by omega)), (show Bk 27 v5 (w.heap.size + 1) #[.bool b3q, .slice A3q n3q c3q, .bool e3q, .slice B3q m3q d3q] from hb5), (((Bo.out.ext (((Ext.refl _).drew.trans hx1).trans hx3)).grown hg4 (by omega)).grown hg5 (by omega)), ((((o1.mono (X1.out.trans (Ext.refl _).drew).size).ext hx3).gbk hq4 (by decide) hg4).gbk hq5 (by decide) hg5), (((o3.mono ((X1.out.trans (Ext.refl _).drew).trans hx1).size).gbk hq4 (by decide) hg4).gbk hq5 (by decide) hg5), (((((X1.out.trans (Ext.refl _).drew).trans hx1).trans hx3).gb hg4 (by omega)).gb hg5 (by omega))⟩
              exact drawn_nil
            exact drawn_nil
          exact drawn_nil
        exact drawn_nil
      exact drawn_nil
    refine drawn_loadS 2 8 27 (.tmp 3) (w.heap.size + 1) 27 #[.bool sy, .slice Py ly ky, .bool ty, .slice Qy my dy] _ (by kernel_rfl) rfl (By.out.ext (Ext.refl _).drew) Try.underlying27 rfl info_rat trivial ?_ ?_
    · skip
      simp only [Act.put, List.setIfInBounds_toArray, List.set_cons_zero, List.set_cons_succ]
      refine wpAnyH_ready (rs := [0]) (by kernel_rfl) (by simp) ?_
      refine drawn_loadS 0 6 27 (.tmp 2) (w.heap.size) 27 #[.bool sx, .slice Px lx kx, .bool tx, .slice Qx mx dx] _ (by kernel_rfl) rfl (Bx.out.ext (Ext.refl _).drew) Try.underlying27 rfl info_rat trivial ?_ ?_
      · skip
        simp only [Act.put, List.setIfInBounds_toArray, List.set_cons_zero, List.set_cons_succ]
        refine wpAnyH_ready (rs := [1]) (by kernel_rfl) (by simp) ?_
        refine drawn_call1 1 (some 7) (.tmp 6) (ts := #[27]) (by kernel_rfl) (enters_of Try.func49 (by kernel_rfl) rfl) rfl (rput_v (Hx.out.ext (X1.out.trans (Ext.refl _).drew)) (by omega)) (fun E v1 hh => ?_) ?_
        · skip
          obtain ⟨b1q, A1q, n1q, c1q, e1q, B1q, m1q, d1q, rfl, o1, hx1⟩ := hh
          refine ⟨_, rfl, trivial, ?_⟩
          simp only [Act.put, List.setIfInBounds_toArray, List.set_cons_zero, List.set_cons_succ]
          refine wpAnyH_ready (rs := [3]) (by kernel_rfl) (by simp) ?_
          refine drawn_call1 3 (some 9) (.tmp 8) (ts := #[27]) (by kernel_rfl) (enters_of Try.func49 (by kernel_rfl) rfl) rfl (rput_v (Hy.out.ext ((X1.out.trans (Ext.refl _).drew).trans hx1)) (by omega)) (fun E v3 hh => ?_) ?_
          · skip
            obtain ⟨b3q, A3q, n3q, c3q, e3q, B3q, m3q, d3q, rfl, o3, hx3⟩ := hh
            refine ⟨_, rfl, trivial, ?_⟩
            simp only [Act.put, List.setIfInBounds_toArray, List.set_cons_zero, List.set_cons_succ]
            refine wpAnyH_ready (rs := [4]) (by kernel_rfl) (by simp) ?_
            have hq4 := (Bx.out.ext (((Ext.refl _).drew.trans hx1).trans hx3))
            refine drawn_store 4 27 (.tmp 2) (.tmp 7) (w.heap.size) #[.bool b1q, .slice A1q n1q c1q, .bool e1q, .slice B1q m1q d1q] #[.bool sx, .slice Px lx kx, .bool tx, .slice Qx mx dx] 27 (by kernel_rfl) rfl rfl hq4.h info_rat rfl one_four (fun v4 hb4 hg4 => ⟨trivial, ?_⟩) ?_
            · skip
              simp only [Act.put, List.setIfInBounds_toArray, List.set_cons_zero, List.set_cons_succ]
              refine wpAnyH_ready (rs := [5]) (by kernel_rfl) (by simp) ?_
              have hq5 := ((By.out.ext (((Ext.refl _).drew.trans hx1).trans hx3)).grown hg4 (by omega))
              refine drawn_store 5 27 (.tmp 3) (.tmp 9) (w.heap.size + 1) #[.bool b3q, .slice A3q n3q c3q, .bool e3q, .slice B3q m3q d3q] #[.bool sy, .slice Py ly ky, .bool ty, .slice Qy my dy] 27 (by kernel_rfl) rfl rfl hq5.h info_rat rfl one_four (fun v5 hb5 hg5 => ⟨trivial, ?_⟩) ?_
              · skip
                simp only [Act.put, List.setIfInBounds_toArray, List.set_cons_zero, List.set_cons_succ]
                refine wpAnyH_done (by kernel_rfl) ?_ _
                go_step
                go_step
                go_meet
                case rel => exact ⟨_, _, _, _, _, _, _, _, _, _, _, _, _, _, _, _, rfl, rfl, ((show Bk 27 v4 (w.heap.size) #[.bool b1q, .slice A1q n1q c1q, .bool e1q, .slice B1q m1q d1q] from hb4).grown hg5 (by omega)), (show Bk 27 v5 (w.heap.size + 1) #[.bool b3q, .slice A3q n3q c3q, .bool e3q, .slice B3q m3q d3q] from hb5), (((Bo.out.ext (((Ext.refl _).drew.trans hx1).trans hx3)).grown hg4 (by omega)).grown hg5 (by omega)), ((((o1.mono (X1.out.trans (Ext.refl _).drew).size).ext hx3).gbk hq4 (by decide) hg4).gbk hq5 (by decide) hg5), (((o3.mono ((X1.out.trans (Ext.refl _).drew).trans hx1).size).gbk hq4 (by decide) hg4).gbk hq5 (by decide) hg5), (((((X1.out.trans (Ext.refl _).drew).trans hx1).trans hx3).gb hg4 (by omega)).gb hg5 (by omega))⟩
              exact drawn_nil
            exact drawn_nil
          exact drawn_nil
        exact drawn_nil
      exact drawn_nil
    exact drawn_nil
  case rest =>
  obtain ⟨b1q, A1q, n1q, c1q, e1q, B1q, m1q, d1q, b3q, A3q, n3q, c3q, e3q, B3q, m3q, d3q, rfl, rfl, Bxc2, Byc2, Boc2, Opc2, Oqc2, Xc2⟩ := hcut
  obtain ⟨w2, hw2⟩ : ∃ w2, w2 = wc := ⟨_, rfl⟩
  subst hw2
  have HBxc2 := hid Bxc2
  clear Bxc2
  have HByc2 := hid Byc2
  clear Byc2
  have HBoc2 := hid Boc2
  clear Boc2
  have HOpc2 := hid Opc2
  clear Opc2
  have HOqc2 := hid Oqc2
  clear Oqc2
  have X2 := hid Xc2
  clear Xc2
  go_upto_region 2 with fail
  refine wp_region_held_drew (S := fun w' => Ext w w' ∧ Bk 27 w' (w.heap.size) #[.bool b1q, .slice A1q n1q c1q, .bool e1q, .slice B1q m1q d1q] ∧ Bk 27 w' (w.heap.size + 1) #[.bool b3q, .slice A3q n3q c3q, .bool e3q, .slice B3q m3q d3q]) (by kernel_rfl) ⟨(X2.out.trans (Ext.refl _).drew), (HBxc2.out.ext (Ext.refl _).drew), (HByc2.out.ext (Ext.refl _).drew)⟩ (fun hS0 => ?_)
  change wpAnyH _ _ _ _ _ 15 #[false, false, false, false, false, false, false, false, false, false, false, false, false, false, false] _ _
  refine drawn_free 0 10 (v := ?v0_55) (.fieldAddr 27 (.tmp 2) 0) (by kernel_rfl) ?hy0_55 (by kernel_rfl) (by kernel_rfl) (by kernel_rfl) (fun _ _ _ _ h => h) hS0 ?hr0_55
  case hy0_55 => (intro o ho w' hS; unfold execOp; simp only [ho]; go_simp; try with_reducible rfl)
  simp only [Act.put, List.setIfInBounds_toArray, List.set_cons_zero, List.set_cons_succ]
  refine drawn_free 1 11 (v := ?v1_56) (.load 24 (.tmp 10)) (by kernel_rfl) ?hy1_56 (by kernel_rfl) (by kernel_rfl) (by kernel_rfl) (fun _ _ _ _ h => h) hS0 ?hr1_56
  case hy1_56 => (intro o ho w' hS; have c0 : w'.cell? ⟨w.heap.size, 0, none⟩ = some (.bool b1q) := hS.2.1.c 0; have c1 : w'.cell? ⟨w.heap.size, 1, none⟩ = some (.slice A1q n1q c1q) := hS.2.1.c 1; unfold execOp; simp only [ho]; go_simp; try with_reducible rfl)
  simp only [Act.put, List.setIfInBounds_toArray, List.set_cons_zero, List.set_cons_succ]
  refine drawn_free 2 12 (v := ?v2_57) (.fieldAddr 27 (.tmp 3) 1) (by kernel_rfl) ?hy2_57 (by kernel_rfl) (by kernel_rfl) (by kernel_rfl) (fun _ _ _ _ h => h) hS0 ?hr2_57
  case hy2_57 => (intro o ho w' hS; unfold execOp; simp only [ho]; go_simp; try with_reducible rfl)
  simp only [Act.put, List.setIfInBounds_toArray, List.set_cons_zero, List.set_cons_succ]
  refine drawn_free 3 13 (v := ?v3_58) (.load 24 (.tmp 12)) (by kernel_rfl) ?hy3_58 (by kernel_rfl) (by kernel_rfl) (by kernel_rfl) (fun _ _ _ _ h => h) hS0 ?hr3_58
  case hy3_58 => (intro o ho w' hS; have c2 : w'.cell? ⟨w.heap.size + 1, 2, none⟩ = some (.bool e3q) := hS.2.2.c 2; have c3 : w'.cell? ⟨w.heap.size + 1, 3, none⟩ = some (.slice B3q m3q d3q) := hS.2.2.c 3; unfold execOp; simp only [ho]; go_simp; try with_reducible rfl)
  simp only [Act.put, List.setIfInBounds_toArray, List.set_cons_zero, List.set_cons_succ]
  refine drawn_free 5 15 (v := ?v5_59) (.fieldAddr 27 (.tmp 2) 1) (by kernel_rfl) ?hy5_59 (by kernel_rfl) (by kernel_rfl) (by kernel_rfl) (fun _ _ _ _ h => h) hS0 ?hr5_59
  case hy5_59 => (intro o ho w' hS; unfold execOp; simp only [ho]; go_simp; try with_reducible rfl)
  simp only [Act.put, List.setIfInBounds_toArray, List.set_cons_zero, List.set_cons_succ]
  refine drawn_free 6 16 (v := ?v6_60) (.load 24 (.tmp 15)) (by kernel_rfl) ?hy6_60 (by kernel_rfl) (by kernel_rfl) (by kernel_rfl) (fun _ _ _ _ h => h) hS0 ?hr6_60
  case hy6_60 => (intro o ho w' hS; have c2 : w'.cell? ⟨w.heap.size, 2, none⟩ = some (.bool e1q) := hS.2.1.c 2; have c3 : w'.cell? ⟨w.heap.size, 3, none⟩ = some (.slice B1q m1q d1q) := hS.2.1.c 3; unfold execOp; simp only [ho]; go_simp; try with_reducible rfl)
  simp only [Act.put, List.setIfInBounds_toArray, List.set_cons_zero, List.set_cons_succ]
  refine drawn_free 7 17 (v := ?v7_61) (.fieldAddr 27 (.tmp 3) 0) (by kernel_rfl) ?hy7_61 (by kernel_rfl) (by kernel_rfl) (by kernel_rfl) (fun _ _ _ _ h => h) hS0 ?hr7_61
  case hy7_61 => (intro o ho w' hS; unfold execOp; simp only [ho]; go_simp; try with_reducible rfl)
  simp only [Act.put, List.setIfInBounds_toArray, List.set_cons_zero, List.set_cons_succ]
  refine drawn_free 8 18 (v := ?v8_62) (.load 24 (.tmp 17)) (by kernel_rfl) ?hy8_62 (by kernel_rfl) (by kernel_rfl) (by kernel_rfl) (fun _ _ _ _ h => h) hS0 ?hr8_62
  case hy8_62 => (intro o ho w' hS; have c0 : w'.cell? ⟨w.heap.size + 1, 0, none⟩ = some (.bool b3q) := hS.2.2.c 0; have c1 : w'.cell? ⟨w.heap.size + 1, 1, none⟩ = some (.slice A3q n3q c3q) := hS.2.2.c 1; unfold execOp; simp only [ho]; go_simp; try with_reducible rfl)
  simp only [Act.put, List.setIfInBounds_toArray, List.set_cons_zero, List.set_cons_succ]
  refine wpAnyH_ready (rs := [4]) (by kernel_rfl) (by simp) ?_
  refine drawn_call2 4 (some 14) (.tmp 11) (.tmp 13) (ts := #[24, 24]) (by kernel_rfl) (enters_of Try.func54 (by kernel_rfl) rfl) rfl rfl (wmul_v (HOpc2.out.ext (Ext.refl _).drew).nu.iz (HOqc2.out.ext (Ext.refl _).drew).de.iz (by omega)) (fun E v4 hh => ?_) ?_
  · skip
    obtain ⟨b4q, A4q, n4q, c4q, rfl, o4, hx4⟩ := hh
    refine ⟨_, rfl, ⟨((X2.out.trans (Ext.refl _).drew).trans hx4), (HBxc2.out.ext ((Ext.refl _).drew.trans hx4)), (HByc2.out.ext ((Ext.refl _).drew.trans hx4))⟩, ?_⟩
    simp only [Act.put, List.setIfInBounds_toArray, List.set_cons_zero, List.set_cons_succ]
    refine wpAnyH_ready (rs := [9]) (by kernel_rfl) (by simp) ?_
    refine drawn_call2 9 (some 19) (.tmp 16) (.tmp 18) (ts := #[24, 24]) (by kernel_rfl) (enters_of Try.func54 (by kernel_rfl) rfl) rfl rfl (wmul_v (HOpc2.out.ext ((Ext.refl _).drew.trans hx4)).de.iz (HOqc2.out.ext ((Ext.refl _).drew.trans hx4)).nu.iz (by omega)) (fun E v9 hh => ?_) ?_
    · skip
      obtain ⟨b9q, A9q, n9q, c9q, rfl, o9, hx9⟩ := hh
      refine ⟨_, rfl, ⟨(((X2.out.trans (Ext.refl _).drew).trans hx4).trans hx9), (HBxc2.out.ext (((Ext.refl _).drew.trans hx4).trans hx9)), (HByc2.out.ext (((Ext.refl _).drew.trans hx4).trans hx9))⟩, ?_⟩
      simp only [Act.put, List.setIfInBounds_toArray, List.set_cons_zero, List.set_cons_succ]
      refine wpAnyH_ready (rs := [10]) (by kernel_rfl) (by simp) ?_
      refine drawn_call2 10 (some 20) (.tmp 14) (.tmp 19) (ts := #[24, 24]) (by kernel_rfl) (enters_of Try.func9 (by kernel_rfl) rfl) rfl rfl (rof_zero ((o4.mono (X2.out.trans (Ext.refl _).drew).size).ext hx9).iz ((o9.mono ((X2.out.trans (Ext.refl _).drew).trans hx4).size).cast h0.out).iz (by omega)) (fun E v10 hh => ?_) ?_
      · skip
        obtain ⟨rfl, hx10⟩ := hh
        refine ⟨_, rfl, ⟨((((X2.out.trans (Ext.refl _).drew).trans hx4).trans hx9).trans hx10), (HBxc2.out.ext ((((Ext.refl _).drew.trans hx4).trans hx9).trans hx10)), (HByc2.out.ext ((((Ext.refl _).drew.trans hx4).trans hx9).trans hx10))⟩, ?_⟩
        simp only [Act.put, List.setIfInBounds_toArray, List.set_cons_zero, List.set_cons_succ]
        refine drawn_free 11 21 (v := ?v11_63) (.extract (.tmp 20) 0) (by kernel_rfl) ?hy11_63 (by kernel_rfl) (by kernel_rfl) (by kernel_rfl) (fun _ _ _ _ h => h) ⟨((((X2.out.trans (Ext.refl _).drew).trans hx4).trans hx9).trans hx10), (HBxc2.out.ext ((((Ext.refl _).drew.trans hx4).trans hx9).trans hx10)), (HByc2.out.ext ((((Ext.refl _).drew.trans hx4).trans hx9).trans hx10))⟩ ?hr11_63
        case hy11_63 => (intro o ho w' hS; unfold execOp; simp only [ho]; go_simp; try with_reducible rfl)
        simp only [Act.put, List.setIfInBounds_toArray, List.set_cons_zero, List.set_cons_succ]
        refine drawn_free 12 22 (v := ?v12_64) (.extract (.tmp 20) 1) (by kernel_rfl) ?hy12_64 (by kernel_rfl) (by kernel_rfl) (by kernel_rfl) (fun _ _ _ _ h => h) ⟨((((X2.out.trans (Ext.refl _).drew).trans hx4).trans hx9).trans hx10), (HBxc2.out.ext ((((Ext.refl _).drew.trans hx4).trans hx9).trans hx10)), (HByc2.out.ext ((((Ext.refl _).drew.trans hx4).trans hx9).trans hx10))⟩ ?hr12_64
        case hy12_64 => (intro o ho w' hS; unfold execOp; simp only [ho]; go_simp; try with_reducible rfl)
        simp only [Act.put, List.setIfInBounds_toArray, List.set_cons_zero, List.set_cons_succ]
        refine wpAnyH_ready (rs := [13]) (by kernel_rfl) (by simp) ?_
        have hq13 := (HBoc2.out.ext ((((Ext.refl _).drew.trans hx4).trans hx9).trans hx10))
        refine drawn_store 13 27 (.tmp 4) (.tmp 21) (w.heap.size + 1 + 1) #[.bool false, .slice none 0 0, .bool false, .slice none 0 0] #[.bool false, .slice none 0 0, .bool false, .slice none 0 0] 27 (by kernel_rfl) rfl rfl hq13.h info_rat rfl one_four (fun v13 hb13 hg13 => ⟨⟨(((((X2.out.trans (Ext.refl _).drew).trans hx4).trans hx9).trans hx10).gb hg13 (by omega)), ((HBxc2.out.ext ((((Ext.refl _).drew.trans hx4).trans hx9).trans hx10)).grown hg13 (by omega)), ((HByc2.out.ext ((((Ext.refl _).drew.trans hx4).trans hx9).trans hx10)).grown hg13 (by omega))⟩, ?_⟩) ?_
        · skip
          simp only [Act.put, List.setIfInBounds_toArray, List.set_cons_zero, List.set_cons_succ]
          refine drawn_free 14 5 (v := ?v14_65) (.assign (.tmp 22)) (by kernel_rfl) ?hy14_65 (by kernel_rfl) (by kernel_rfl) (by kernel_rfl) (fun _ _ _ _ h => h) ⟨(((((X2.out.trans (Ext.refl _).drew).trans hx4).trans hx9).trans hx10).gb hg13 (by omega)), ((HBxc2.out.ext ((((Ext.refl _).drew.trans hx4).trans hx9).trans hx10)).grown hg13 (by omega)), ((HByc2.out.ext ((((Ext.refl _).drew.trans hx4).trans hx9).trans hx10)).grown hg13 (by omega))⟩ ?hr14_65
          case hy14_65 => (intro o ho w' hS; unfold execOp; simp only [ho]; go_simp; try with_reducible rfl)
          simp only [Act.put, List.setIfInBounds_toArray, List.set_cons_zero, List.set_cons_succ]
          refine wpAnyH_done (by kernel_rfl) ?_ _
          go_wp2_with fail
          refine ret_re rfl (show Bk 27 v13 (w.heap.size + 1 + 1) #[.bool false, .slice none 0 0, .bool false, .slice none 0 0] from hb13) rfl rfl rfl ⟨rfl, (((((X2.out.trans (Ext.refl _).drew).trans hx4).trans hx9).trans hx10).gb hg13 (by omega))⟩
        exact drawn_nil
      exact drawn_nil
    exact drawn_nil
  exact drawn_nil

set_option maxHeartbeats 6400000 in
set_option maxRecDepth 100000 in
theorem qdiv_v {w : World} {sx tx sy ty : Bool} {Px Qx Py Qy : Option Addr} {lx kx mx dx ly ky my dy : Nat} {K K' : Nat} {x y : Rat} (hx : Rv K w sx Px lx kx tx Qx mx dx x) (hy : Rv K' w sy Py ly ky ty Qy my dy y) (hK : K + K' ≤ 2000000) (hy0 : y ≠ 0) :
    Calls Try.prog 27 #[.agg #[.bool sx, .slice Px lx kx, .bool tx, .slice Qx mx dx], .agg #[.bool sy, .slice Py ly ky, .bool ty, .slice Qy my dy]] w (RetRE (K + K' + 4) (x / y) 0 w) := by
  have Hx := hid hx
  have Hy := hid hy
  clear hx hy
  have h0 := hid (den_num_ne x y hy0)
  have h1 := hid (rat_div_parts x y hy0)
  clear hy0
  go_enter Try.func27, Try.ntmps27
  go_upto_region 1 with fail
  have hy1 := hid ((((Ext.refl w).alloc (.cells #[.bool sx, .slice Px lx kx, .bool tx, .slice Qx mx dx] 27)).alloc (.cells #[.bool sy, .slice Py ly ky, .bool ty, .slice Qy my dy] 27)).alloc (.cells #[.bool false, .slice none 0 0, .bool false, .slice none 0 0] 27))
  have Bx_ := ((Bk.new w 27 #[.bool sx, .slice Px lx kx, .bool tx, .slice Qx mx dx]).ext (((Ext.refl (w.alloc (.cells #[.bool sx, .slice Px lx kx, .bool tx, .slice Qx mx dx] 27))).alloc (.cells #[.bool sy, .slice Py ly ky, .bool ty, .slice Qy my dy] 27)).alloc (.cells #[.bool false, .slice none 0 0, .bool false, .slice none 0 0] 27)))
  have Bx := hid Bx_
  clear Bx_
  have By_ := ((Bk.new (w.alloc (.cells #[.bool sx, .slice Px lx kx, .bool tx, .slice Qx mx dx] 27)) 27 #[.bool sy, .slice Py ly ky, .bool ty, .slice Qy my dy]).ext ((Ext.refl ((w.alloc (.cells #[.bool sx, .slice Px lx kx, .bool tx, .slice Qx mx dx] 27)).alloc (.cells #[.bool sy, .slice Py ly ky, .bool ty, .slice Qy my dy] 27))).alloc (.cells #[.bool false, .slice none 0 0, .bool false, .slice none 0 0] 27)))
  rw [size_alloc] at By_
  have By := hid By_
  clear By_
  have Bo_ := (Bk.new ((w.alloc (.cells #[.bool sx, .slice Px lx kx, .bool tx, .slice Qx mx dx] 27)).alloc (.cells #[.bool sy, .slice Py ly ky, .bool ty, .slice Qy my dy] 27)) 27 #[.bool false, .slice none 0 0, .bool false, .slice none 0 0])
  rw [size_alloc, size_alloc] at Bo_
  have Bo := hid Bo_
  clear Bo_
  generalize (((w.alloc (.cells #[.bool sx, .slice Px lx kx, .bool tx, .slice Qx mx dx] 27)).alloc (.cells #[.bool sy, .slice Py ly ky, .bool ty, .slice Qy my dy] 27)).alloc (.cells #[.bool false, .slice none 0 0, .bool false, .slice none 0 0] 27)) = w1 at *
  have X1 := hid ((Ext.refl _).trans hy1.out)
  go_cut [2, 3] (fun v2 v3 wx => ∃ (b1q : Bool) (A1q : Option Addr) (n1q c1q : Nat) (e1q : Bool) (B1q : Option Addr) (m1q d1q : Nat) (b3q : Bool) (A3q : Option Addr) (n3q c3q : Nat) (e3q : Bool) (B3q : Option Addr) (m3q d3q : Nat), v2 = .pointer (some ⟨w.heap.size, 0, none⟩) ∧ v3 = .pointer (some ⟨w.heap.size + 1, 0, none⟩) ∧ Bk 27 wx (w.heap.size) #[.bool b1q, .slice A1q n1q c1q, .bool e1q, .slice B1q m1q d1q] ∧ Bk 27 wx (w.heap.size + 1) #[.bool b3q, .slice A3q n3q c3q, .bool e3q, .slice B3q m3q d3q] ∧ Bk 27 wx (w.heap.size + 1 + 1) #[.bool false, .slice none 0 0, .bool false, .slice none 0 0] ∧ Rc (K + 2) wx w.heap.size b1q A1q n1q c1q e1q B1q m1q d1q x ∧ Rc (K' + 2) wx w.heap.size b3q A3q n3q c3q e3q B3q m3q d3q y ∧ Ext w wx)
  case first =>
    refine wp_region_held_drew (S := fun _ => True) (by kernel_rfl) trivial (fun hS0 => ?_)
    change wpAnyH _ _ _ _ _ 6 #[false, false, false, false, false, false] _ _
    refine wpAnyH_ready (rs := [0, 2]) (by kernel_rfl) (by simp) ?_
    refine drawn_loadS 0 6 27 (.tmp 2) (w.heap.size) 27 #[.bool sx, .slice Px lx kx, .bool tx, .slice Qx mx dx] _ (by kernel_rfl) rfl (Bx.out.ext (Ext.refl _).drew) Try.underlying27 rfl info_rat trivial ?_ ?_
    · skip
      simp only [Act.put, List.setIfInBounds_toArray, List.set_cons_zero, List.set_cons_succ]
      refine wpAnyH_ready (rs := [1, 2]) (by kernel_rfl) (by simp) ?_
      refine drawn_call1 1 (some 7) (.tmp 6) (ts := #[27]) (by kernel_rfl) (enters_of Try.func49 (by kernel_rfl) rfl) rfl (rput_v (Hx.out.ext (X1.out.trans (Ext.refl _).drew)) (by omega)) (fun E v1 hh => ?_) ?_
      · skip
        obtain ⟨b1q, A1q, n1q, c1q, e1q, B1q, m1q, d1q, rfl, o1, hx1⟩ := hh
        refine ⟨_, rfl, trivial, ?_⟩
        simp only [Act.put, List.setIfInBounds_toArray, List.set_cons_zero, List.set_cons_succ]
        refine wpAnyH_ready (rs := [2]) (by kernel_rfl) (by simp) ?_
        refine drawn_loadS 2 8 27 (.tmp 3) (w.heap.size + 1) 27 #[.bool sy, .slice Py ly ky, .bool ty, .slice Qy my dy] _ (by kernel_rfl) rfl (By.out.ext ((Ext.refl _).drew.trans hx1)) Try.underlying27 rfl info_rat trivial ?_ ?_
        · skip
          simp only [Act.put, List.setIfInBounds_toArray, List.set_cons_zero, List.set_cons_succ]
          refine wpAnyH_ready (rs := [3]) (by kernel_rfl) (by simp) ?_
          refine drawn_call1 3 (some 9) (.tmp 8) (ts := #[27]) (by kernel_rfl) (enters_of Try.func49 (by kernel_rfl) rfl) rfl (rput_v (Hy.out.ext ((X1.out.trans (Ext.refl _).drew).trans hx1)) (by omega)) (fun E v3 hh => ?_) ?_
          · skip
            obtain ⟨b3q, A3q, n3q, c3q, e3q, B3q, m3q, d3q, rfl, o3, hx3⟩ := hh
            refine ⟨_, rfl, trivial, ?_⟩
            simp only [Act.put, List.setIfInBounds_toArray, List.set_cons_zero, List.set_cons_succ]
            refine wpAnyH_ready (rs := [4]) (by kernel_rfl) (by simp) ?_
            have hq4 := (Bx.out.ext (((Ext.refl _).drew.trans hx1).trans hx3))
            refine drawn_store 4 27 (.tmp 2) (.tmp 7) (w.heap.size) #[.bool b1q, .slice A1q n1q c1q, .bool e1q, .slice B1q m1q d1q] #[.bool sx, .slice Px lx kx, .bool tx, .slice Qx mx dx] 27 (by kernel_rfl) rfl rfl hq4.h info_rat rfl one_four (fun v4 hb4 hg4 => ⟨trivial, ?_⟩) ?_
            · skip
              simp only [Act.put, List.setIfInBounds_toArray, List.set_cons_zero, List.set_cons_succ]
              refine wpAnyH_ready (rs := [5]) (by kernel_rfl) (by simp) ?_
              have hq5 := ((By.out.ext (((Ext.refl _).drew.trans hx1).trans hx3)).grown hg4 (by omega))
              refine drawn_store 5 27 (.tmp 3) (.tmp 9) (w.heap.size + 1) #[.bool b3q, .slice A3q n3q c3q, .bool e3q, .slice B3q m3q d3q] #[.bool sy, .slice Py ly ky, .bool ty, .slice Qy my dy] 27 (by kernel_rfl) rfl rfl hq5.h info_rat rfl one_four (fun v5 hb5 hg5 => ⟨trivial, ?_⟩) ?_
              · skip
                simp only [Act.put, List.setIfInBounds_toArray, List.set_cons_zero, List.set_cons_succ]
                refine wpAnyH_done (by kernel_rfl) ?_ _
                go_step
                go_step
                go_meet
                case rel => exact ⟨_, _, _, _, _, _, _, _, _, _, _, _, _, _, _, _, rfl, rfl, ((show Bk 27 v4 (w.heap.size) #[.bool b1q, .slice A1q n1q c1q, .bool e1q, .slice B1q m1q d1q] from hb4).grown hg5 (by omega)), (show Bk 27 v5 (w.heap.size + 1) #[.bool b3q, .slice A3q n3q c3q, .bool e3q, .slice B3q m3q d3q] from hb5), (((Bo.out.ext (((Ext.refl _).drew.trans hx1).trans hx3)).grown hg4 (by omega)).grown hg5 (by omega)), ((((o1.mono (X1.out.trans (Ext.refl _).drew).size).ext hx3).gbk hq4 (by decide) hg4).gbk hq5 (by decide) hg5), (((o3.mono ((X1.out.trans (Ext.refl _).drew).trans hx1).size).gbk hq4 (by decide) hg4).gbk hq5 (by decide) hg5), (((((X1.out.trans (Ext.refl _).drew).trans hx1).trans hx3).gb hg4 (by omega)).gb hg5 (by omega))⟩
              exact drawn_nil
            exact drawn_nil
          exact drawn_nil
        exact drawn_nil
      refine drawn_loadS 2 8 27 (.tmp 3) (w.heap.size + 1) 27 #[.bool sy, .slice Py ly ky, .bool ty, .slice Qy my dy] _ (by kernel_rfl) rfl (By.out.ext (Ext.refl _).drew) Try.underlying27 rfl info_rat trivial ?_ ?_
      · skip
        simp only [Act.put, List.setIfInBounds_toArray, List.set_cons_zero, List.set_cons_succ]
        refine wpAnyH_ready (rs := [1]) (by kernel_rfl) (by simp) ?_
        refine drawn_call1 1 (some 7) (.tmp 6) (ts := #[27]) (by kernel_rfl) (enters_of Try.func49 (by kernel_rfl) rfl) rfl (rput_v (Hx.out.ext (X1.out.trans (Ext.refl _).drew)) (by omega)) (fun E v1 hh => ?_) ?_
        · skip
          obtain ⟨b1q, A1q, n1q, c1q, e1q, B1q, m1q, d1q, rfl, o1, hx1⟩ := hh
          refine ⟨_, rfl, trivial, ?_⟩
          simp only [Act.put, List.setIfInBounds_toArray, List.set_cons_zero, List.set_cons_succ]
          refine wpAnyH_ready (rs := [3]) (by kernel_rfl) (by simp) ?_
          refine drawn_call1 3 (some 9) (.tmp 8) (ts := #[27]) (by kernel_rfl) (enters_of Try.func49 (by kernel_rfl) rfl) rfl (rput_v (Hy.out.ext ((X1.out.trans (Ext.refl _).drew).trans hx1)) (by omega)) (fun E v3 hh => ?_) ?_
          · skip
            obtain ⟨b3q, A3q, n3q, c3q, e3q, B3q, m3q, d3q, rfl, o3, hx3⟩ := hh
            refine ⟨_, rfl, trivial, ?_⟩
            simp only [Act.put, List.setIfInBounds_toArray, List.set_cons_zero, List.set_cons_succ]
            refine wpAnyH_ready (rs := [4]) (by kernel_rfl) (by simp) ?_
            have hq4 := (Bx.out.ext (((Ext.refl _).drew.trans hx1).trans hx3))
            refine drawn_store 4 27 (.tmp 2) (.tmp 7) (w.heap.size) #[.bool b1q, .slice A1q n1q c1q, .bool e1q, .slice B1q m1q d1q] #[.bool sx, .slice Px lx kx, .bool tx, .slice Qx mx dx] 27 (by kernel_rfl) rfl rfl hq4.h info_rat rfl one_four (fun v4 hb4 hg4 => ⟨trivial, ?_⟩) ?_
            · skip
              simp only [Act.put, List.setIfInBounds_toArray, List.set_cons_zero, List.set_cons_succ]
              refine wpAnyH_ready (rs := [5]) (by kernel_rfl) (by simp) ?_
              have hq5 := ((By.out.ext (((Ext.refl _).drew.trans hx1).trans hx3)).grown hg4 (by omega))
              refine drawn_store 5 27 (.tmp 3) (.tmp 9) (w.heap.size + 1) #[.bool b3q, .slice A3q n3q c3q, .bool e3q, .slice B3q m3q d3q] #[.bool sy, .slice Py ly ky, .bool ty, .slice Qy my dy] 27 (by kernel_rfl) rfl rfl hq5.h info_rat rfl one_four (fun v5 hb5 hg5 => ⟨trivial, ?_⟩) ?_
              · skip
                simp only [Act.put, List.setIfInBounds_toArray, List.set_cons_zero, List.set_cons_succ]
                refine wpAnyH_done (by kernel_rfl) ?_ _
                go_step
                go_step
                go_meet
                case rel => exact ⟨_, _, _, _, _, _, _, _, _, _, _, _, _, _, _, _, rfl, rfl, ((show Bk 27 v4 (w.heap.size) #[.bool b1q, .slice A1q n1q c1q, .bool e1q, .slice B1q m1q d1q] from hb4).grown hg5 (by omega)), (show Bk 27 v5 (w.heap.size + 1) #[.bool b3q, .slice A3q n3q c3q, .bool e3q, .slice B3q m3q d3q] from hb5), (((Bo.out.ext (((Ext.refl _).drew.trans hx1).trans hx3)).grown hg4 (by omega)).grown hg5 (by omega)), ((((o1.mono (X1.out.trans (Ext.refl _).drew).size).ext hx3).gbk hq4 (by decide) hg4).gbk hq5 (by decide) hg5), (((o3.mono ((X1.out.trans (Ext.refl _).drew).trans hx1).size).gbk hq4 (by decide) hg4).gbk hq5 (by decide) hg5), (((((X1.out.trans (Ext.refl _).drew).trans hx1).trans hx3).gb hg4 (by omega)).gb hg5 (by omega))⟩
              exact drawn_nil
            exact drawn_nil
          exact drawn_nil
        exact drawn_nil
      exact drawn_nil
    refine drawn_loadS 2 8 27 (.tmp 3) (w.heap.size + 1) 27 #[.bool sy, .slice Py ly ky, .bool ty, .slice Qy my dy] _ (by kernel_rfl) rfl (By.out.ext (Ext.refl _).drew) Try.underlying27 rfl info_rat trivial ?_ ?_
    · skip
      simp only [Act.put, List.setIfInBounds_toArray, List.set_cons_zero, List.set_cons_succ]
      refine wpAnyH_ready (rs := [0]) (by kernel_rfl) (by simp) ?_
      refine drawn_loadS 0 6 27 (.tmp 2) (w.heap.size) 27 #[.bool sx, .slice Px lx kx, .bool tx, .slice Qx mx dx] _ (by kernel_rfl) rfl (Bx.out.ext (Ext.refl _).drew) Try.underlying27 rfl info_rat trivial ?_ ?_
      · skip
        simp only [Act.put, List.setIfInBounds_toArray, List.set_cons_zero, List.set_cons_succ]
        refine wpAnyH_ready (rs := [1]) (by kernel_rfl) (by simp) ?_
        refine drawn_call1 1 (some 7) (.tmp 6) (ts := #[27]) (by kernel_rfl) (enters_of Try.func49 (by kernel_rfl) rfl) rfl (rput_v (Hx.out.ext (X1.out.trans (Ext.refl _).drew)) (by omega)) (fun E v1 hh => ?_) ?_
        · skip
          obtain ⟨b1q, A1q, n1q, c1q, e1q, B1q, m1q, d1q, rfl, o1, hx1⟩ := hh
          refine ⟨_, rfl, trivial, ?_⟩
          simp only [Act.put, List.setIfInBounds_toArray, List.set_cons_zero, List.set_cons_succ]
          refine wpAnyH_ready (rs := [3]) (by kernel_rfl) (by simp) ?_
          refine drawn_call1 3 (some 9) (.tmp 8) (ts := #[27]) (by kernel_rfl) (enters_of Try.func49 (by kernel_rfl) rfl) rfl (rput_v (Hy.out.ext ((X1.out.trans (Ext.refl _).drew).trans hx1)) (by omega)) (fun E v3 hh => ?_) ?_
          · skip
            obtain ⟨b3q, A3q, n3q, c3q, e3q, B3q, m3q, d3q, rfl, o3, hx3⟩ := hh
            refine ⟨_, rfl, trivial, ?_⟩
            simp only [Act.put, List.setIfInBounds_toArray, List.set_cons_zero, List.set_cons_succ]
            refine wpAnyH_ready (rs := [4]) (by kernel_rfl) (by simp) ?_
            have hq4 := (Bx.out.ext (((Ext.refl _).drew.trans hx1).trans hx3))
            refine drawn_store 4 27 (.tmp 2) (.tmp 7) (w.heap.size) #[.bool b1q, .slice A1q n1q c1q, .bool e1q, .slice B1q m1q d1q] #[.bool sx, .slice Px lx kx, .bool tx, .slice Qx mx dx] 27 (by kernel_rfl) rfl rfl hq4.h info_rat rfl one_four (fun v4 hb4 hg4 => ⟨trivial, ?_⟩) ?_
            · skip
              simp only [Act.put, List.setIfInBounds_toArray, List.set_cons_zero, List.set_cons_succ]
              refine wpAnyH_ready (rs := [5]) (by kernel_rfl) (by simp) ?_
              have hq5 := ((By.out.ext (((Ext.refl _).drew.trans hx1).trans hx3)).grown hg4 (by omega))
              refine drawn_store 5 27 (.tmp 3) (.tmp 9) (w.heap.size + 1) #[.bool b3q, .slice A3q n3q c3q, .bool e3q, .slice B3q m3q d3q] #[.bool sy, .slice Py ly ky, .bool ty, .slice Qy my dy] 27 (by kernel_rfl) rfl rfl hq5.h info_rat rfl one_four (fun v5 hb5 hg5 => ⟨trivial, ?_⟩) ?_
              · skip
                simp only [Act.put, List.setIfInBounds_toArray, List.set_cons_zero, List.set_cons_succ]
                refine wpAnyH_done (by kernel_rfl) ?_ _
                go_step
                go_step
                go_meet
                case rel => exact ⟨_, _, _, _, _, _, _, _, _, _, _, _, _, _, _, _, rfl, rfl, ((show Bk 27 v4 (w.heap.size) #[.bool b1q, .slice A1q n1q c1q, .bool e1q, .slice B1q m1q d1q] from hb4).grown hg5 (by omega)), (show Bk 27 v5 (w.heap.size + 1) #[.bool b3q, .slice A3q n3q c3q, .bool e3q, .slice B3q m3q d3q] from hb5), (((Bo.out.ext (((Ext.refl _).drew.trans hx1).trans hx3)).grown hg4 (by omega)).grown hg5 (by omega)), ((((o1.mono (X1.out.trans (Ext.refl _).drew).size).ext hx3).gbk hq4 (by decide) hg4).gbk hq5 (by decide) hg5), (((o3.mono ((X1.out.trans (Ext.refl _).drew).trans hx1).size).gbk hq4 (by decide) hg4).gbk hq5 (by decide) hg5), (((((X1.out.trans (Ext.refl _).drew).trans hx1).trans hx3).gb hg4 (by omega)).gb hg5 (by omega))⟩
              exact drawn_nil
            exact drawn_nil
          exact drawn_nil
        exact drawn_nil
      exact drawn_nil
    exact drawn_nil
  case rest =>
  obtain ⟨b1q, A1q, n1q, c1q, e1q, B1q, m1q, d1q, b3q, A3q, n3q, c3q, e3q, B3q, m3q, d3q, rfl, rfl, Bxc2, Byc2, Boc2, Opc2, Oqc2, Xc2⟩ := hcut
  obtain ⟨w2, hw2⟩ : ∃ w2, w2 = wc := ⟨_, rfl⟩
  subst hw2
  have HBxc2 := hid Bxc2
  clear Bxc2
  have HByc2 := hid Byc2
  clear Byc2
  have HBoc2 := hid Boc2
  clear Boc2
  have HOpc2 := hid Opc2
  clear Opc2
  have HOqc2 := hid Oqc2
  clear Oqc2
  have X2 := hid Xc2
  clear Xc2
  go_upto_region 2 with fail
  refine wp_region_held_drew (S := fun w' => Ext w w' ∧ Bk 27 w' (w.heap.size) #[.bool b1q, .slice A1q n1q c1q, .bool e1q, .slice B1q m1q d1q] ∧ Bk 27 w' (w.heap.size + 1) #[.bool b3q, .slice A3q n3q c3q, .bool e3q, .slice B3q m3q d3q]) (by kernel_rfl) ⟨(X2.out.trans (Ext.refl _).drew), (HBxc2.out.ext (Ext.refl _).drew), (HByc2.out.ext (Ext.refl _).drew)⟩ (fun hS0 => ?_)
  change wpAnyH _ _ _ _ _ 15 #[false, false, false, false, false, false, false, false, false, false, false, false, false, false, false] _ _
  refine drawn_free 0 10 (v := ?v0_66) (.fieldAddr 27 (.tmp 2) 0) (by kernel_rfl) ?hy0_66 (by kernel_rfl) (by kernel_rfl) (by kernel_rfl) (fun _ _ _ _ h => h) hS0 ?hr0_66
  case hy0_66 => (intro o ho w' hS; unfold execOp; simp only [ho]; go_simp; try with_reducible rfl)
  simp only [Act.put, List.setIfInBounds_toArray, List.set_cons_zero, List.set_cons_succ]
  refine drawn_free 1 11 (v := ?v1_67) (.load 24 (.tmp 10)) (by kernel_rfl) ?hy1_67 (by kernel_rfl) (by kernel_rfl) (by kernel_rfl) (fun _ _ _ _ h => h) hS0 ?hr1_67
  case hy1_67 => (intro o ho w' hS; have c0 : w'.cell? ⟨w.heap.size, 0, none⟩ = some (.bool b1q) := hS.2.1.c 0; have c1 : w'.cell? ⟨w.heap.size, 1, none⟩ = some (.slice A1q n1q c1q) := hS.2.1.c 1; unfold execOp; simp only [ho]; go_simp; try with_reducible rfl)
  simp only [Act.put, List.setIfInBounds_toArray, List.set_cons_zero, List.set_cons_succ]
  refine drawn_free 2 12 (v := ?v2_68) (.fieldAddr 27 (.tmp 3) 1) (by kernel_rfl) ?hy2_68 (by kernel_rfl) (by kernel_rfl) (by kernel_rfl) (fun _ _ _ _ h => h) hS0 ?hr2_68
  case hy2_68 => (intro o ho w' hS; unfold execOp; simp only [ho]; go_simp; try with_reducible rfl)
  simp only [Act.put, List.setIfInBounds_toArray, List.set_cons_zero, List.set_cons_succ]
  refine drawn_free 3 13 (v := ?v3_69) (.load 24 (.tmp 12)) (by kernel_rfl) ?hy3_69 (by kernel_rfl) (by kernel_rfl) (by kernel_rfl) (fun _ _ _ _ h => h) hS0 ?hr3_69
  case hy3_69 => (intro o ho w' hS; have c2 : w'.cell? ⟨w.heap.size + 1, 2, none⟩ = some (.bool e3q) := hS.2.2.c 2; have c3 : w'.cell? ⟨w.heap.size + 1, 3, none⟩ = some (.slice B3q m3q d3q) := hS.2.2.c 3; unfold execOp; simp only [ho]; go_simp; try with_reducible rfl)
  simp only [Act.put, List.setIfInBounds_toArray, List.set_cons_zero, List.set_cons_succ]
  refine drawn_free 5 15 (v := ?v5_70) (.fieldAddr 27 (.tmp 2) 1) (by kernel_rfl) ?hy5_70 (by kernel_rfl) (by kernel_rfl) (by kernel_rfl) (fun _ _ _ _ h => h) hS0 ?hr5_70
  case hy5_70 => (intro o ho w' hS; unfold execOp; simp only [ho]; go_simp; try with_reducible rfl)
  simp only [Act.put, List.setIfInBounds_toArray, List.set_cons_zero, List.set_cons_succ]
  refine drawn_free 6 16 (v := ?v6_71) (.load 24 (.tmp 15)) (by kernel_rfl) ?hy6_71 (by kernel_rfl) (by kernel_rfl) (by kernel_rfl) (fun _ _ _ _ h => h) hS0 ?hr6_71
  case hy6_71 => (intro o ho w' hS; have c2 : w'.cell? ⟨w.heap.size, 2, none⟩ = some (.bool e1q) := hS.2.1.c 2; have c3 : w'.cell? ⟨w.heap.size, 3, none⟩ = some (.slice B1q m1q d1q) := hS.2.1.c 3; unfold execOp; simp only [ho]; go_simp; try with_reducible rfl)
  simp only [Act.put, List.setIfInBounds_toArray, List.set_cons_zero, List.set_cons_succ]
  refine drawn_free 7 17 (v := ?v7_72) (.fieldAddr 27 (.tmp 3) 0) (by kernel_rfl) ?hy7_72 (by kernel_rfl) (by kernel_rfl) (by kernel_rfl) (fun _ _ _ _ h => h) hS0 ?hr7_72
  case hy7_72 => (intro o ho w' hS; unfold execOp; simp only [ho]; go_simp; try with_reducible rfl)
  simp only [Act.put, List.setIfInBounds_toArray, List.set_cons_zero, List.set_cons_succ]
  refine drawn_free 8 18 (v := ?v8_73) (.load 24 (.tmp 17)) (by kernel_rfl) ?hy8_73 (by kernel_rfl) (by kernel_rfl) (by kernel_rfl) (fun _ _ _ _ h => h) hS0 ?hr8_73
  case hy8_73 => (intro o ho w' hS; have c0 : w'.cell? ⟨w.heap.size + 1, 0, none⟩ = some (.bool b3q) := hS.2.2.c 0; have c1 : w'.cell? ⟨w.heap.size + 1, 1, none⟩ = some (.slice A3q n3q c3q) := hS.2.2.c 1; unfold execOp; simp only [ho]; go_simp; try with_reducible rfl)
  simp only [Act.put, List.setIfInBounds_toArray, List.set_cons_zero, List.set_cons_succ]
  refine wpAnyH_ready (rs := [4]) (by kernel_rfl) (by simp) ?_
  refine drawn_call2 4 (some 14) (.tmp 11) (.tmp 13) (ts := #[24, 24]) (by kernel_rfl) (enters_of Try.func54 (by kernel_rfl) rfl) rfl rfl (wmul_v (HOpc2.out.ext (Ext.refl _).drew).nu.iz (HOqc2.out.ext (Ext.refl _).drew).de.iz (by omega)) (fun E v4 hh => ?_) ?_
  · skip
    obtain ⟨b4q, A4q, n4q, c4q, rfl, o4, hx4⟩ := hh
    refine ⟨_, rfl, ⟨((X2.out.trans (Ext.refl _).drew).trans hx4), (HBxc2.out.ext ((Ext.refl _).drew.trans hx4)), (HByc2.out.ext ((Ext.refl _).drew.trans hx4))⟩, ?_⟩
    simp only [Act.put, List.setIfInBounds_toArray, List.set_cons_zero, List.set_cons_succ]
    refine wpAnyH_ready (rs := [9]) (by kernel_rfl) (by simp) ?_
    refine drawn_call2 9 (some 19) (.tmp 16) (.tmp 18) (ts := #[24, 24]) (by kernel_rfl) (enters_of Try.func54 (by kernel_rfl) rfl) rfl rfl (wmul_v (HOpc2.out.ext ((Ext.refl _).drew.trans hx4)).de.iz (HOqc2.out.ext ((Ext.refl _).drew.trans hx4)).nu.iz (by omega)) (fun E v9 hh => ?_) ?_
    · skip
      obtain ⟨b9q, A9q, n9q, c9q, rfl, o9, hx9⟩ := hh
      refine ⟨_, rfl, ⟨(((X2.out.trans (Ext.refl _).drew).trans hx4).trans hx9), (HBxc2.out.ext (((Ext.refl _).drew.trans hx4).trans hx9)), (HByc2.out.ext (((Ext.refl _).drew.trans hx4).trans hx9))⟩, ?_⟩
      simp only [Act.put, List.setIfInBounds_toArray, List.set_cons_zero, List.set_cons_succ]
      refine wpAnyH_ready (rs := [10]) (by kernel_rfl) (by simp) ?_
      refine drawn_call2 10 (some 20) (.tmp 14) (.tmp 19) (ts := #[24, 24]) (by kernel_rfl) (enters_of Try.func9 (by kernel_rfl) rfl) rfl rfl (rof_is (K + K' + 4) ((o4.mono (X2.out.trans (Ext.refl _).drew).size).ext hx9).iz (o9.mono ((X2.out.trans (Ext.refl _).drew).trans hx4).size).iz h0.out (by omega) (by omega) (by omega) h1.out) (fun E v10 hh => ?_) ?_
      · skip
        obtain ⟨b10q, A10q, n10q, c10q, e10q, B10q, m10q, d10q, rfl, o10, hx10⟩ := hh
        refine ⟨_, rfl, ⟨((((X2.out.trans (Ext.refl _).drew).trans hx4).trans hx9).trans hx10), (HBxc2.out.ext ((((Ext.refl _).drew.trans hx4).trans hx9).trans hx10)), (HByc2.out.ext ((((Ext.refl _).drew.trans hx4).trans hx9).trans hx10))⟩, ?_⟩
        simp only [Act.put, List.setIfInBounds_toArray, List.set_cons_zero, List.set_cons_succ]
        refine drawn_free 11 21 (v := ?v11_74) (.extract (.tmp 20) 0) (by kernel_rfl) ?hy11_74 (by kernel_rfl) (by kernel_rfl) (by kernel_rfl) (fun _ _ _ _ h => h) ⟨((((X2.out.trans (Ext.refl _).drew).trans hx4).trans hx9).trans hx10), (HBxc2.out.ext ((((Ext.refl _).drew.trans hx4).trans hx9).trans hx10)), (HByc2.out.ext ((((Ext.refl _).drew.trans hx4).trans hx9).trans hx10))⟩ ?hr11_74
        case hy11_74 => (intro o ho w' hS; unfold execOp; simp only [ho]; go_simp; try with_reducible rfl)
        simp only [Act.put, List.setIfInBounds_toArray, List.set_cons_zero, List.set_cons_succ]
        refine drawn_free 12 22 (v := ?v12_75) (.extract (.tmp 20) 1) (by kernel_rfl) ?hy12_75 (by kernel_rfl) (by kernel_rfl) (by kernel_rfl) (fun _ _ _ _ h => h) ⟨((((X2.out.trans (Ext.refl _).drew).trans hx4).trans hx9).trans hx10), (HBxc2.out.ext ((((Ext.refl _).drew.trans hx4).trans hx9).trans hx10)), (HByc2.out.ext ((((Ext.refl _).drew.trans hx4).trans hx9).trans hx10))⟩ ?hr12_75
        case hy12_75 => (intro o ho w' hS; unfold execOp; simp only [ho]; go_simp; try with_reducible rfl)
        simp only [Act.put, List.setIfInBounds_toArray, List.set_cons_zero, List.set_cons_succ]
        refine wpAnyH_ready (rs := [13]) (by kernel_rfl) (by simp) ?_
        have hq13 := (HBoc2.out.ext ((((Ext.refl _).drew.trans hx4).trans hx9).trans hx10))
        refine drawn_store 13 27 (.tmp 4) (.tmp 21) (w.heap.size + 1 + 1) #[.bool b10q, .slice A10q n10q c10q, .bool e10q, .slice B10q m10q d10q] #[.bool false, .slice none 0 0, .bool false, .slice none 0 0] 27 (by kernel_rfl) rfl rfl hq13.h info_rat rfl one_four (fun v13 hb13 hg13 => ⟨⟨(((((X2.out.trans (Ext.refl _).drew).trans hx4).trans hx9).trans hx10).gb hg13 (by omega)), ((HBxc2.out.ext ((((Ext.refl _).drew.trans hx4).trans hx9).trans hx10)).grown hg13 (by omega)), ((HByc2.out.ext ((((Ext.refl _).drew.trans hx4).trans hx9).trans hx10)).grown hg13 (by omega))⟩, ?_⟩) ?_
        · skip
          simp only [Act.put, List.setIfInBounds_toArray, List.set_cons_zero, List.set_cons_succ]
          refine drawn_free 14 5 (v := ?v14_76) (.assign (.tmp 22)) (by kernel_rfl) ?hy14_76 (by kernel_rfl) (by kernel_rfl) (by kernel_rfl) (fun _ _ _ _ h => h) ⟨(((((X2.out.trans (Ext.refl _).drew).trans hx4).trans hx9).trans hx10).gb hg13 (by omega)), ((HBxc2.out.ext ((((Ext.refl _).drew.trans hx4).trans hx9).trans hx10)).grown hg13 (by omega)), ((HByc2.out.ext ((((Ext.refl _).drew.trans hx4).trans hx9).trans hx10)).grown hg13 (by omega))⟩ ?hr14_76
          case hy14_76 => (intro o ho w' hS; unfold execOp; simp only [ho]; go_simp; try with_reducible rfl)
          simp only [Act.put, List.setIfInBounds_toArray, List.set_cons_zero, List.set_cons_succ]
          refine wpAnyH_done (by kernel_rfl) ?_ _
          go_wp2_with fail
          refine ret_re rfl (show Bk 27 v13 (w.heap.size + 1 + 1) #[.bool b10q, .slice A10q n10q c10q, .bool e10q, .slice B10q m10q d10q] from hb13) rfl rfl rfl ⟨_, _, _, _, _, _, _, _, rfl, ((o10.mono (((X2.out.trans (Ext.refl _).drew).trans hx4).trans hx9).size).gbk hq13 (by decide) hg13), (((((X2.out.trans (Ext.refl _).drew).trans hx4).trans hx9).trans hx10).gb hg13 (by omega))⟩
        exact drawn_nil
      exact drawn_nil
    exact drawn_nil
  exact drawn_nil


end Go.Proofs.Ytikkibpjchmajaa

