
/-
  A part of the walk of the statement WholeDivides. Printed by wip/gen/law4.py.
-/
import Derived.Test.YtbhiolpiaanckaaKnown4
import Derived.Test.YtbhiolpiaanckaaZB
namespace Go.Proofs.Ytbhiolpiaanckaa
open Go.RowKit
open Go.Lib (hid)

set_option maxHeartbeats 6400000 in
set_option maxRecDepth 100000 in
theorem wholeDivides_zero {w : World} {sx sy : Bool} {Px Py : Option Addr} {lx kx ly ky : Nat} {x y : Int} (hx : Iz 25 w sx Px lx kx x) (bdx : lx ≤ 25) (hy : Iz 25 w sy Py ly ky y) (bdy : ly ≤ 25) {N : Int} (hN : (0 ≤ N ∧ N ≤ 6) ∨ N < 0 ∨ 1000 < N) (hy0 : y = 0) :
    Calls Try.prog 3 #[.agg #[.bool sx, .slice Px lx kx], .agg #[.bool sy, .slice Py ly ky], .int .i64 N] w (RetE (.bool true) w) := by
  have Hx := hid hx
  have Hy := hid hy
  clear hx hy
  have HN := hid hN
  have gN : 6 < N → ¬ N ≤ 1000 := by omega
  have HGN := hid gN
  subst hy0
  clear hN gN
  have hgd : (N ≤ 6 ∧ ¬ 6 < N) ∨ (6 < N ∧ ¬ N ≤ 1000) := by have := HGN.out; omega
  go_enter Try.func3, Try.ntmps3
  go_upto_region 1 with fail
  have hy1 := hid (((Ext.refl w).alloc (.cells #[.bool sx, .slice Px lx kx] 24)).alloc (.cells #[.bool sy, .slice Py ly ky] 24))
  have Bx := ((Bx.new w sx Px lx kx).ext ((Ext.refl (w.alloc (.cells #[.bool sx, .slice Px lx kx] 24))).alloc (.cells #[.bool sy, .slice Py ly ky] 24)))
  have HBx := hid Bx
  clear Bx
  have By := (Bx.new (w.alloc (.cells #[.bool sx, .slice Px lx kx] 24)) sy Py ly ky)
  rw [size_alloc] at By
  have HBy := hid By
  clear By
  generalize ((w.alloc (.cells #[.bool sx, .slice Px lx kx] 24)).alloc (.cells #[.bool sy, .slice Py ly ky] 24)) = w1 at *
  have X1 := hid ((Ext.refl _).trans hy1.out)
  obtain ⟨f1_0, f1_1, f1_2, f1_3⟩ : w1.cell? ⟨w.heap.size, 0, none⟩ = some (.bool sx) ∧ w1.cell? ⟨w.heap.size, 1, none⟩ = some (.slice Px lx kx) ∧ w1.cell? ⟨w.heap.size + 1, 0, none⟩ = some (.bool sy) ∧ w1.cell? ⟨w.heap.size + 1, 1, none⟩ = some (.slice Py ly ky) := ⟨HBx.out.c0, HBx.out.c1, HBy.out.c0, HBy.out.c1⟩
  go_cut [30] (fun v30 wx => v30 = .bool false ∧ Ext w1 wx)
  case first =>
    rcases hgd with ⟨q1, q2⟩ | ⟨q1, q2⟩
    have q3 : decide (6 < N) = false := decide_eq_false q2
    rotate_left
    have q3 : decide (N ≤ 1000) = false := decide_eq_false q2
    all_goals
      go_wp2_with (go_at_call 7; (with_reducible refine (great2_no (row2_new w1 sx Px lx kx sy Py ly ky) bdx bdy).mono ?_); rintro E v ⟨rfl, hr⟩; have HR := hid (((Ext.refl w1).alloc (.cells #[.bool sx, .slice Px lx kx, .bool sy, .slice Py ly ky] 24)).trans hr); clear hr)
      go_meet
      case rel => exact ⟨rfl, HR.out⟩
  case rest =>
  obtain ⟨rfl, hy2⟩ := hcut
  obtain ⟨w2, hw2⟩ : ∃ w2, w2 = wc := ⟨_, rfl⟩
  subst hw2
  have hy2 := hid hy2
  have X2 := hid (X1.out.trans hy2.out)
  clear hgd f1_0 f1_1 f1_2 f1_3
  go_upto_region 3 with fail
  go_cut [7, 8] (fun v7 v8 wx => ∃ (g7 : Nat) (p7 : Bool) (P7 : Option Addr) (q7 r7 : Nat) (g8 : Nat) (p8 : Bool) (P8 : Option Addr) (q8 r8 : Nat), v7 = .pointer (some ⟨g7, 0, none⟩) ∧ v8 = .pointer (some ⟨g8, 0, none⟩) ∧ Bz wx g7 p7 P7 q7 r7 ∧ Bz wx g8 p8 P8 q8 r8 ∧ Zd 250 wx p7 P7 q7 r7 x ∧ Zd 250 wx p8 P8 q8 r8 0 ∧ Ext w2 wx)
  case first =>
    refine wp_region_held_drew (S := fun w' => Ext w2 w') (by kernel_rfl) (Ext.refl _).drew (fun hS0 => ?_)
    change wpAnyH _ _ _ _ _ 8 #[false, false, false, false, false, false, false, false] _ _
    refine drawn_load 0 32 24 (.tmp 3) (w.heap.size) 24 #[.bool sx, .slice Px lx kx] (0, 0) _ (by kernel_rfl) rfl (fun w' hS => (HBx.out.ext hy2.out).ext hS) Try.underlying24 rfl info_int_s (by kernel_rfl) (by kernel_rfl) (by kernel_rfl) (fun _ _ _ _ h => h) hS0 ?_
    simp only [Act.put, List.setIfInBounds_toArray, List.set_cons_zero, List.set_cons_succ]
    refine drawn_load 2 34 24 (.tmp 4) (w.heap.size + 1) 24 #[.bool sy, .slice Py ly ky] (0, 0) _ (by kernel_rfl) rfl (fun w' hS => (HBy.out.ext hy2.out).ext hS) Try.underlying24 rfl info_int_s (by kernel_rfl) (by kernel_rfl) (by kernel_rfl) (fun _ _ _ _ h => h) hS0 ?_
    simp only [Act.put, List.setIfInBounds_toArray, List.set_cons_zero, List.set_cons_succ]
    refine wpAnyH_ready (rs := [1, 4, 5]) (by kernel_rfl) (by simp) ?_
    refine drawn_call1 1 (some 33) (.tmp 32) (ts := #[24]) (by kernel_rfl) (enters_of Try.func9 (by kernel_rfl) rfl) rfl (zof_v (Hx.out.ext (X2.out.trans hS0)) (by omega)) (fun E v1 hh => ?_) ?_
    · skip
      obtain ⟨b1, A1, n1, c1, rfl, o1, hx1⟩ := hh
      refine ⟨_, rfl, hS0.trans hx1, ?_⟩
      simp only [Act.put, List.setIfInBounds_toArray, List.set_cons_zero, List.set_cons_succ]
      have S1 := hS0.trans hx1
      refine wpAnyH_ready (rs := [3, 4, 5]) (by kernel_rfl) (by simp) ?_
      refine drawn_call1 3 (some 35) (.tmp 34) (ts := #[24]) (by kernel_rfl) (enters_of Try.func9 (by kernel_rfl) rfl) rfl (zof_v (Hy.out.ext (X2.out.trans S1)) (by omega)) (fun E v3 hh => ?_) ?_
      · skip
        obtain ⟨b3, A3, n3, c3, rfl, o3, hx3⟩ := hh
        refine ⟨_, rfl, S1.trans hx3, ?_⟩
        simp only [Act.put, List.setIfInBounds_toArray, List.set_cons_zero, List.set_cons_succ]
        have S3 := S1.trans hx3
        refine wpAnyH_ready (rs := [4, 5]) (by kernel_rfl) (by simp) ?_
        refine drawn_alloc 4 (some 7) (by kernel_rfl) alloc_z (fun g4 v4 hb4 hx4 hg4 => ⟨S3.trans hx4, ?_⟩) ?_
        · skip
          simp only [Act.put, List.setIfInBounds_toArray, List.set_cons_zero, List.set_cons_succ]
          have S4 := S3.trans hx4
          have ge4 := Nat.le_trans S3.size hg4
          refine wpAnyH_ready (rs := [5]) (by kernel_rfl) (by simp) ?_
          refine drawn_alloc 5 (some 8) (by kernel_rfl) alloc_z (fun g5 v5 hb5 hx5 hg5 => ⟨S4.trans hx5, ?_⟩) ?_
          · skip
            simp only [Act.put, List.setIfInBounds_toArray, List.set_cons_zero, List.set_cons_succ]
            have S5 := S4.trans hx5
            have ge5 := Nat.le_trans S4.size hg5
            have ltB7_5 := Nat.lt_of_lt_of_le (show Bz v4 g4 false none 0 0 from hb4).lt hg5
            refine wpAnyH_ready (rs := [6]) (by kernel_rfl) (by simp) ?_
            refine drawn_store 6 30 (.tmp 7) (.tmp 33) g4 #[.bool b1, .slice A1 n1 c1] #[.bool false, .slice none 0 0] 30 (by kernel_rfl) rfl rfl ((show Bz v4 g4 false none 0 0 from hb4).ext hx5) info_z_s rfl one_two (fun v6 hb6 hg6 => ⟨S5.gb hg6 ge4, ?_⟩) ?_
            · skip
              simp only [Act.put, List.setIfInBounds_toArray, List.set_cons_zero, List.set_cons_succ]
              have hq6 := ((show Bz v4 g4 false none 0 0 from hb4).ext hx5)
              have S6 := S5.gb hg6 ge4
              refine wpAnyH_ready (rs := [7]) (by kernel_rfl) (by simp) ?_
              refine drawn_store 7 30 (.tmp 8) (.tmp 35) g5 #[.bool b3, .slice A3 n3 c3] #[.bool false, .slice none 0 0] 30 (by kernel_rfl) rfl rfl ((show Bz v5 g5 false none 0 0 from hb5).grown hg6 (by simp; omega)) info_z_s rfl one_two (fun v7 hb7 hg7 => ⟨S6.gb hg7 ge5, ?_⟩) ?_
              · skip
                simp only [Act.put, List.setIfInBounds_toArray, List.set_cons_zero, List.set_cons_succ]
                have hq7 := ((show Bz v5 g5 false none 0 0 from hb5).grown hg6 (by simp; omega))
                have S7 := S6.gb hg7 ge5
                refine wpAnyH_done (by kernel_rfl) ?_ _
                go_step
                go_step
                go_meet
                case rel => exact ⟨_, _, _, _, _, _, _, _, _, _, rfl, rfl, ((show Bz v6 g4 b1 A1 n1 c1 from hb6).grown hg7 (by simp; omega)), (show Bz v7 g5 b3 A3 n3 c3 from hb7), (((((o1.ext hx3).ext hx4).ext hx5).gbz hq6 hg6).gbz hq7 hg7), ((((o3.ext hx4).ext hx5).gbz hq6 hg6).gbz hq7 hg7), S7⟩
              exact drawn_nil
            exact drawn_nil
          exact drawn_nil
        refine drawn_alloc 5 (some 8) (by kernel_rfl) alloc_z (fun g5 v5 hb5 hx5 hg5 => ⟨S3.trans hx5, ?_⟩) ?_
        · skip
          simp only [Act.put, List.setIfInBounds_toArray, List.set_cons_zero, List.set_cons_succ]
          have S5 := S3.trans hx5
          have ge5 := Nat.le_trans S3.size hg5
          refine wpAnyH_ready (rs := [4]) (by kernel_rfl) (by simp) ?_
          refine drawn_alloc 4 (some 7) (by kernel_rfl) alloc_z (fun g4 v4 hb4 hx4 hg4 => ⟨S5.trans hx4, ?_⟩) ?_
          · skip
            simp only [Act.put, List.setIfInBounds_toArray, List.set_cons_zero, List.set_cons_succ]
            have S4 := S5.trans hx4
            have ge4 := Nat.le_trans S5.size hg4
            have ltB8_4 := Nat.lt_of_lt_of_le (show Bz v5 g5 false none 0 0 from hb5).lt hg4
            refine wpAnyH_ready (rs := [6]) (by kernel_rfl) (by simp) ?_
            refine drawn_store 6 30 (.tmp 7) (.tmp 33) g4 #[.bool b1, .slice A1 n1 c1] #[.bool false, .slice none 0 0] 30 (by kernel_rfl) rfl rfl (show Bz v4 g4 false none 0 0 from hb4) info_z_s rfl one_two (fun v6 hb6 hg6 => ⟨S4.gb hg6 ge4, ?_⟩) ?_
            · skip
              simp only [Act.put, List.setIfInBounds_toArray, List.set_cons_zero, List.set_cons_succ]
              have hq6 := (show Bz v4 g4 false none 0 0 from hb4)
              have S6 := S4.gb hg6 ge4
              refine wpAnyH_ready (rs := [7]) (by kernel_rfl) (by simp) ?_
              refine drawn_store 7 30 (.tmp 8) (.tmp 35) g5 #[.bool b3, .slice A3 n3 c3] #[.bool false, .slice none 0 0] 30 (by kernel_rfl) rfl rfl (((show Bz v5 g5 false none 0 0 from hb5).ext hx4).grown hg6 (by simp; omega)) info_z_s rfl one_two (fun v7 hb7 hg7 => ⟨S6.gb hg7 ge5, ?_⟩) ?_
              · skip
                simp only [Act.put, List.setIfInBounds_toArray, List.set_cons_zero, List.set_cons_succ]
                have hq7 := (((show Bz v5 g5 false none 0 0 from hb5).ext hx4).grown hg6 (by simp; omega))
                have S7 := S6.gb hg7 ge5
                refine wpAnyH_done (by kernel_rfl) ?_ _
                go_step
                go_step
                go_meet
                case rel => exact ⟨_, _, _, _, _, _, _, _, _, _, rfl, rfl, ((show Bz v6 g4 b1 A1 n1 c1 from hb6).grown hg7 (by simp; omega)), (show Bz v7 g5 b3 A3 n3 c3 from hb7), (((((o1.ext hx3).ext hx5).ext hx4).gbz hq6 hg6).gbz hq7 hg7), ((((o3.ext hx5).ext hx4).gbz hq6 hg6).gbz hq7 hg7), S7⟩
              exact drawn_nil
            exact drawn_nil
          exact drawn_nil
        exact drawn_nil
      refine drawn_alloc 4 (some 7) (by kernel_rfl) alloc_z (fun g4 v4 hb4 hx4 hg4 => ⟨S1.trans hx4, ?_⟩) ?_
      · skip
        simp only [Act.put, List.setIfInBounds_toArray, List.set_cons_zero, List.set_cons_succ]
        have S4 := S1.trans hx4
        have ge4 := Nat.le_trans S1.size hg4
        refine wpAnyH_ready (rs := [3, 5]) (by kernel_rfl) (by simp) ?_
        refine drawn_call1 3 (some 35) (.tmp 34) (ts := #[24]) (by kernel_rfl) (enters_of Try.func9 (by kernel_rfl) rfl) rfl (zof_v (Hy.out.ext (X2.out.trans S4)) (by omega)) (fun E v3 hh => ?_) ?_
        · skip
          obtain ⟨b3, A3, n3, c3, rfl, o3, hx3⟩ := hh
          refine ⟨_, rfl, S4.trans hx3, ?_⟩
          simp only [Act.put, List.setIfInBounds_toArray, List.set_cons_zero, List.set_cons_succ]
          have S3 := S4.trans hx3
          refine wpAnyH_ready (rs := [5]) (by kernel_rfl) (by simp) ?_
          refine drawn_alloc 5 (some 8) (by kernel_rfl) alloc_z (fun g5 v5 hb5 hx5 hg5 => ⟨S3.trans hx5, ?_⟩) ?_
          · skip
            simp only [Act.put, List.setIfInBounds_toArray, List.set_cons_zero, List.set_cons_succ]
            have S5 := S3.trans hx5
            have ge5 := Nat.le_trans S3.size hg5
            have ltB7_5 := Nat.lt_of_lt_of_le ((show Bz v4 g4 false none 0 0 from hb4).ext hx3).lt hg5
            refine wpAnyH_ready (rs := [6]) (by kernel_rfl) (by simp) ?_
            refine drawn_store 6 30 (.tmp 7) (.tmp 33) g4 #[.bool b1, .slice A1 n1 c1] #[.bool false, .slice none 0 0] 30 (by kernel_rfl) rfl rfl (((show Bz v4 g4 false none 0 0 from hb4).ext hx3).ext hx5) info_z_s rfl one_two (fun v6 hb6 hg6 => ⟨S5.gb hg6 ge4, ?_⟩) ?_
            · skip
              simp only [Act.put, List.setIfInBounds_toArray, List.set_cons_zero, List.set_cons_succ]
              have hq6 := (((show Bz v4 g4 false none 0 0 from hb4).ext hx3).ext hx5)
              have S6 := S5.gb hg6 ge4
              refine wpAnyH_ready (rs := [7]) (by kernel_rfl) (by simp) ?_
              refine drawn_store 7 30 (.tmp 8) (.tmp 35) g5 #[.bool b3, .slice A3 n3 c3] #[.bool false, .slice none 0 0] 30 (by kernel_rfl) rfl rfl ((show Bz v5 g5 false none 0 0 from hb5).grown hg6 (by simp; omega)) info_z_s rfl one_two (fun v7 hb7 hg7 => ⟨S6.gb hg7 ge5, ?_⟩) ?_
              · skip
                simp only [Act.put, List.setIfInBounds_toArray, List.set_cons_zero, List.set_cons_succ]
                have hq7 := ((show Bz v5 g5 false none 0 0 from hb5).grown hg6 (by simp; omega))
                have S7 := S6.gb hg7 ge5
                refine wpAnyH_done (by kernel_rfl) ?_ _
                go_step
                go_step
                go_meet
                case rel => exact ⟨_, _, _, _, _, _, _, _, _, _, rfl, rfl, ((show Bz v6 g4 b1 A1 n1 c1 from hb6).grown hg7 (by simp; omega)), (show Bz v7 g5 b3 A3 n3 c3 from hb7), (((((o1.ext hx4).ext hx3).ext hx5).gbz hq6 hg6).gbz hq7 hg7), (((o3.ext hx5).gbz hq6 hg6).gbz hq7 hg7), S7⟩
              exact drawn_nil
            exact drawn_nil
          exact drawn_nil
        refine drawn_alloc 5 (some 8) (by kernel_rfl) alloc_z (fun g5 v5 hb5 hx5 hg5 => ⟨S4.trans hx5, ?_⟩) ?_
        · skip
          simp only [Act.put, List.setIfInBounds_toArray, List.set_cons_zero, List.set_cons_succ]
          have S5 := S4.trans hx5
          have ge5 := Nat.le_trans S4.size hg5
          have ltB7_5 := Nat.lt_of_lt_of_le (show Bz v4 g4 false none 0 0 from hb4).lt hg5
          refine wpAnyH_ready (rs := [3]) (by kernel_rfl) (by simp) ?_
          refine drawn_call1 3 (some 35) (.tmp 34) (ts := #[24]) (by kernel_rfl) (enters_of Try.func9 (by kernel_rfl) rfl) rfl (zof_v (Hy.out.ext (X2.out.trans S5)) (by omega)) (fun E v3 hh => ?_) ?_
          · skip
            obtain ⟨b3, A3, n3, c3, rfl, o3, hx3⟩ := hh
            refine ⟨_, rfl, S5.trans hx3, ?_⟩
            simp only [Act.put, List.setIfInBounds_toArray, List.set_cons_zero, List.set_cons_succ]
            have S3 := S5.trans hx3
            refine wpAnyH_ready (rs := [6]) (by kernel_rfl) (by simp) ?_
            refine drawn_store 6 30 (.tmp 7) (.tmp 33) g4 #[.bool b1, .slice A1 n1 c1] #[.bool false, .slice none 0 0] 30 (by kernel_rfl) rfl rfl (((show Bz v4 g4 false none 0 0 from hb4).ext hx5).ext hx3) info_z_s rfl one_two (fun v6 hb6 hg6 => ⟨S3.gb hg6 ge4, ?_⟩) ?_
            · skip
              simp only [Act.put, List.setIfInBounds_toArray, List.set_cons_zero, List.set_cons_succ]
              have hq6 := (((show Bz v4 g4 false none 0 0 from hb4).ext hx5).ext hx3)
              have S6 := S3.gb hg6 ge4
              refine wpAnyH_ready (rs := [7]) (by kernel_rfl) (by simp) ?_
              refine drawn_store 7 30 (.tmp 8) (.tmp 35) g5 #[.bool b3, .slice A3 n3 c3] #[.bool false, .slice none 0 0] 30 (by kernel_rfl) rfl rfl (((show Bz v5 g5 false none 0 0 from hb5).ext hx3).grown hg6 (by simp; omega)) info_z_s rfl one_two (fun v7 hb7 hg7 => ⟨S6.gb hg7 ge5, ?_⟩) ?_
              · skip
                simp only [Act.put, List.setIfInBounds_toArray, List.set_cons_zero, List.set_cons_succ]
                have hq7 := (((show Bz v5 g5 false none 0 0 from hb5).ext hx3).grown hg6 (by simp; omega))
                have S7 := S6.gb hg7 ge5
                refine wpAnyH_done (by kernel_rfl) ?_ _
                go_step
                go_step
                go_meet
                case rel => exact ⟨_, _, _, _, _, _, _, _, _, _, rfl, rfl, ((show Bz v6 g4 b1 A1 n1 c1 from hb6).grown hg7 (by simp; omega)), (show Bz v7 g5 b3 A3 n3 c3 from hb7), (((((o1.ext hx4).ext hx5).ext hx3).gbz hq6 hg6).gbz hq7 hg7), ((o3.gbz hq6 hg6).gbz hq7 hg7), S7⟩
              exact drawn_nil
            exact drawn_nil
          exact drawn_nil
        exact drawn_nil
      refine drawn_alloc 5 (some 8) (by kernel_rfl) alloc_z (fun g5 v5 hb5 hx5 hg5 => ⟨S1.trans hx5, ?_⟩) ?_
      · skip
        simp only [Act.put, List.setIfInBounds_toArray, List.set_cons_zero, List.set_cons_succ]
        have S5 := S1.trans hx5
        have ge5 := Nat.le_trans S1.size hg5
        refine wpAnyH_ready (rs := [3, 4]) (by kernel_rfl) (by simp) ?_
        refine drawn_call1 3 (some 35) (.tmp 34) (ts := #[24]) (by kernel_rfl) (enters_of Try.func9 (by kernel_rfl) rfl) rfl (zof_v (Hy.out.ext (X2.out.trans S5)) (by omega)) (fun E v3 hh => ?_) ?_
        · skip
          obtain ⟨b3, A3, n3, c3, rfl, o3, hx3⟩ := hh
          refine ⟨_, rfl, S5.trans hx3, ?_⟩
          simp only [Act.put, List.setIfInBounds_toArray, List.set_cons_zero, List.set_cons_succ]
          have S3 := S5.trans hx3
          refine wpAnyH_ready (rs := [4]) (by kernel_rfl) (by simp) ?_
          refine drawn_alloc 4 (some 7) (by kernel_rfl) alloc_z (fun g4 v4 hb4 hx4 hg4 => ⟨S3.trans hx4, ?_⟩) ?_
          · skip
            simp only [Act.put, List.setIfInBounds_toArray, List.set_cons_zero, List.set_cons_succ]
            have S4 := S3.trans hx4
            have ge4 := Nat.le_trans S3.size hg4
            have ltB8_4 := Nat.lt_of_lt_of_le ((show Bz v5 g5 false none 0 0 from hb5).ext hx3).lt hg4
            refine wpAnyH_ready (rs := [6]) (by kernel_rfl) (by simp) ?_
            refine drawn_store 6 30 (.tmp 7) (.tmp 33) g4 #[.bool b1, .slice A1 n1 c1] #[.bool false, .slice none 0 0] 30 (by kernel_rfl) rfl rfl (show Bz v4 g4 false none 0 0 from hb4) info_z_s rfl one_two (fun v6 hb6 hg6 => ⟨S4.gb hg6 ge4, ?_⟩) ?_
            · skip
              simp only [Act.put, List.setIfInBounds_toArray, List.set_cons_zero, List.set_cons_succ]
              have hq6 := (show Bz v4 g4 false none 0 0 from hb4)
              have S6 := S4.gb hg6 ge4
              refine wpAnyH_ready (rs := [7]) (by kernel_rfl) (by simp) ?_
              refine drawn_store 7 30 (.tmp 8) (.tmp 35) g5 #[.bool b3, .slice A3 n3 c3] #[.bool false, .slice none 0 0] 30 (by kernel_rfl) rfl rfl ((((show Bz v5 g5 false none 0 0 from hb5).ext hx3).ext hx4).grown hg6 (by simp; omega)) info_z_s rfl one_two (fun v7 hb7 hg7 => ⟨S6.gb hg7 ge5, ?_⟩) ?_
              · skip
                simp only [Act.put, List.setIfInBounds_toArray, List.set_cons_zero, List.set_cons_succ]
                have hq7 := ((((show Bz v5 g5 false none 0 0 from hb5).ext hx3).ext hx4).grown hg6 (by simp; omega))
                have S7 := S6.gb hg7 ge5
                refine wpAnyH_done (by kernel_rfl) ?_ _
                go_step
                go_step
                go_meet
                case rel => exact ⟨_, _, _, _, _, _, _, _, _, _, rfl, rfl, ((show Bz v6 g4 b1 A1 n1 c1 from hb6).grown hg7 (by simp; omega)), (show Bz v7 g5 b3 A3 n3 c3 from hb7), (((((o1.ext hx5).ext hx3).ext hx4).gbz hq6 hg6).gbz hq7 hg7), (((o3.ext hx4).gbz hq6 hg6).gbz hq7 hg7), S7⟩
              exact drawn_nil
            exact drawn_nil
          exact drawn_nil
        refine drawn_alloc 4 (some 7) (by kernel_rfl) alloc_z (fun g4 v4 hb4 hx4 hg4 => ⟨S5.trans hx4, ?_⟩) ?_
        · skip
          simp only [Act.put, List.setIfInBounds_toArray, List.set_cons_zero, List.set_cons_succ]
          have S4 := S5.trans hx4
          have ge4 := Nat.le_trans S5.size hg4
          have ltB8_4 := Nat.lt_of_lt_of_le (show Bz v5 g5 false none 0 0 from hb5).lt hg4
          refine wpAnyH_ready (rs := [3]) (by kernel_rfl) (by simp) ?_
          refine drawn_call1 3 (some 35) (.tmp 34) (ts := #[24]) (by kernel_rfl) (enters_of Try.func9 (by kernel_rfl) rfl) rfl (zof_v (Hy.out.ext (X2.out.trans S4)) (by omega)) (fun E v3 hh => ?_) ?_
          · skip
            obtain ⟨b3, A3, n3, c3, rfl, o3, hx3⟩ := hh
            refine ⟨_, rfl, S4.trans hx3, ?_⟩
            simp only [Act.put, List.setIfInBounds_toArray, List.set_cons_zero, List.set_cons_succ]
            have S3 := S4.trans hx3
            refine wpAnyH_ready (rs := [6]) (by kernel_rfl) (by simp) ?_
            refine drawn_store 6 30 (.tmp 7) (.tmp 33) g4 #[.bool b1, .slice A1 n1 c1] #[.bool false, .slice none 0 0] 30 (by kernel_rfl) rfl rfl ((show Bz v4 g4 false none 0 0 from hb4).ext hx3) info_z_s rfl one_two (fun v6 hb6 hg6 => ⟨S3.gb hg6 ge4, ?_⟩) ?_
            · skip
              simp only [Act.put, List.setIfInBounds_toArray, List.set_cons_zero, List.set_cons_succ]
              have hq6 := ((show Bz v4 g4 false none 0 0 from hb4).ext hx3)
              have S6 := S3.gb hg6 ge4
              refine wpAnyH_ready (rs := [7]) (by kernel_rfl) (by simp) ?_
              refine drawn_store 7 30 (.tmp 8) (.tmp 35) g5 #[.bool b3, .slice A3 n3 c3] #[.bool false, .slice none 0 0] 30 (by kernel_rfl) rfl rfl ((((show Bz v5 g5 false none 0 0 from hb5).ext hx4).ext hx3).grown hg6 (by simp; omega)) info_z_s rfl one_two (fun v7 hb7 hg7 => ⟨S6.gb hg7 ge5, ?_⟩) ?_
              · skip
                simp only [Act.put, List.setIfInBounds_toArray, List.set_cons_zero, List.set_cons_succ]
                have hq7 := ((((show Bz v5 g5 false none 0 0 from hb5).ext hx4).ext hx3).grown hg6 (by simp; omega))
                have S7 := S6.gb hg7 ge5
                refine wpAnyH_done (by kernel_rfl) ?_ _
                go_step
                go_step
                go_meet
                case rel => exact ⟨_, _, _, _, _, _, _, _, _, _, rfl, rfl, ((show Bz v6 g4 b1 A1 n1 c1 from hb6).grown hg7 (by simp; omega)), (show Bz v7 g5 b3 A3 n3 c3 from hb7), (((((o1.ext hx5).ext hx4).ext hx3).gbz hq6 hg6).gbz hq7 hg7), ((o3.gbz hq6 hg6).gbz hq7 hg7), S7⟩
              exact drawn_nil
            exact drawn_nil
          exact drawn_nil
        exact drawn_nil
      exact drawn_nil
    refine drawn_alloc 4 (some 7) (by kernel_rfl) alloc_z (fun g4 v4 hb4 hx4 hg4 => ⟨hS0.trans hx4, ?_⟩) ?_
    · skip
      simp only [Act.put, List.setIfInBounds_toArray, List.set_cons_zero, List.set_cons_succ]
      have S4 := hS0.trans hx4
      have ge4 := Nat.le_trans hS0.size hg4
      refine wpAnyH_ready (rs := [1, 5]) (by kernel_rfl) (by simp) ?_
      refine drawn_call1 1 (some 33) (.tmp 32) (ts := #[24]) (by kernel_rfl) (enters_of Try.func9 (by kernel_rfl) rfl) rfl (zof_v (Hx.out.ext (X2.out.trans S4)) (by omega)) (fun E v1 hh => ?_) ?_
      · skip
        obtain ⟨b1, A1, n1, c1, rfl, o1, hx1⟩ := hh
        refine ⟨_, rfl, S4.trans hx1, ?_⟩
        simp only [Act.put, List.setIfInBounds_toArray, List.set_cons_zero, List.set_cons_succ]
        have S1 := S4.trans hx1
        refine wpAnyH_ready (rs := [3, 5]) (by kernel_rfl) (by simp) ?_
        refine drawn_call1 3 (some 35) (.tmp 34) (ts := #[24]) (by kernel_rfl) (enters_of Try.func9 (by kernel_rfl) rfl) rfl (zof_v (Hy.out.ext (X2.out.trans S1)) (by omega)) (fun E v3 hh => ?_) ?_
        · skip
          obtain ⟨b3, A3, n3, c3, rfl, o3, hx3⟩ := hh
          refine ⟨_, rfl, S1.trans hx3, ?_⟩
          simp only [Act.put, List.setIfInBounds_toArray, List.set_cons_zero, List.set_cons_succ]
          have S3 := S1.trans hx3
          refine wpAnyH_ready (rs := [5]) (by kernel_rfl) (by simp) ?_
          refine drawn_alloc 5 (some 8) (by kernel_rfl) alloc_z (fun g5 v5 hb5 hx5 hg5 => ⟨S3.trans hx5, ?_⟩) ?_
          · skip
            simp only [Act.put, List.setIfInBounds_toArray, List.set_cons_zero, List.set_cons_succ]
            have S5 := S3.trans hx5
            have ge5 := Nat.le_trans S3.size hg5
            have ltB7_5 := Nat.lt_of_lt_of_le (((show Bz v4 g4 false none 0 0 from hb4).ext hx1).ext hx3).lt hg5
            refine wpAnyH_ready (rs := [6]) (by kernel_rfl) (by simp) ?_
            refine drawn_store 6 30 (.tmp 7) (.tmp 33) g4 #[.bool b1, .slice A1 n1 c1] #[.bool false, .slice none 0 0] 30 (by kernel_rfl) rfl rfl ((((show Bz v4 g4 false none 0 0 from hb4).ext hx1).ext hx3).ext hx5) info_z_s rfl one_two (fun v6 hb6 hg6 => ⟨S5.gb hg6 ge4, ?_⟩) ?_
            · skip
              simp only [Act.put, List.setIfInBounds_toArray, List.set_cons_zero, List.set_cons_succ]
              have hq6 := ((((show Bz v4 g4 false none 0 0 from hb4).ext hx1).ext hx3).ext hx5)
              have S6 := S5.gb hg6 ge4
              refine wpAnyH_ready (rs := [7]) (by kernel_rfl) (by simp) ?_
              refine drawn_store 7 30 (.tmp 8) (.tmp 35) g5 #[.bool b3, .slice A3 n3 c3] #[.bool false, .slice none 0 0] 30 (by kernel_rfl) rfl rfl ((show Bz v5 g5 false none 0 0 from hb5).grown hg6 (by simp; omega)) info_z_s rfl one_two (fun v7 hb7 hg7 => ⟨S6.gb hg7 ge5, ?_⟩) ?_
              · skip
                simp only [Act.put, List.setIfInBounds_toArray, List.set_cons_zero, List.set_cons_succ]
                have hq7 := ((show Bz v5 g5 false none 0 0 from hb5).grown hg6 (by simp; omega))
                have S7 := S6.gb hg7 ge5
                refine wpAnyH_done (by kernel_rfl) ?_ _
                go_step
                go_step
                go_meet
                case rel => exact ⟨_, _, _, _, _, _, _, _, _, _, rfl, rfl, ((show Bz v6 g4 b1 A1 n1 c1 from hb6).grown hg7 (by simp; omega)), (show Bz v7 g5 b3 A3 n3 c3 from hb7), ((((o1.ext hx3).ext hx5).gbz hq6 hg6).gbz hq7 hg7), (((o3.ext hx5).gbz hq6 hg6).gbz hq7 hg7), S7⟩
              exact drawn_nil
            exact drawn_nil
          exact drawn_nil
        refine drawn_alloc 5 (some 8) (by kernel_rfl) alloc_z (fun g5 v5 hb5 hx5 hg5 => ⟨S1.trans hx5, ?_⟩) ?_
        · skip
          simp only [Act.put, List.setIfInBounds_toArray, List.set_cons_zero, List.set_cons_succ]
          have S5 := S1.trans hx5
          have ge5 := Nat.le_trans S1.size hg5
          have ltB7_5 := Nat.lt_of_lt_of_le ((show Bz v4 g4 false none 0 0 from hb4).ext hx1).lt hg5
          refine wpAnyH_ready (rs := [3]) (by kernel_rfl) (by simp) ?_
          refine drawn_call1 3 (some 35) (.tmp 34) (ts := #[24]) (by kernel_rfl) (enters_of Try.func9 (by kernel_rfl) rfl) rfl (zof_v (Hy.out.ext (X2.out.trans S5)) (by omega)) (fun E v3 hh => ?_) ?_
          · skip
            obtain ⟨b3, A3, n3, c3, rfl, o3, hx3⟩ := hh
            refine ⟨_, rfl, S5.trans hx3, ?_⟩
            simp only [Act.put, List.setIfInBounds_toArray, List.set_cons_zero, List.set_cons_succ]
            have S3 := S5.trans hx3
            refine wpAnyH_ready (rs := [6]) (by kernel_rfl) (by simp) ?_
            refine drawn_store 6 30 (.tmp 7) (.tmp 33) g4 #[.bool b1, .slice A1 n1 c1] #[.bool false, .slice none 0 0] 30 (by kernel_rfl) rfl rfl ((((show Bz v4 g4 false none 0 0 from hb4).ext hx1).ext hx5).ext hx3) info_z_s rfl one_two (fun v6 hb6 hg6 => ⟨S3.gb hg6 ge4, ?_⟩) ?_
            · skip
              simp only [Act.put, List.setIfInBounds_toArray, List.set_cons_zero, List.set_cons_succ]
              have hq6 := ((((show Bz v4 g4 false none 0 0 from hb4).ext hx1).ext hx5).ext hx3)
              have S6 := S3.gb hg6 ge4
              refine wpAnyH_ready (rs := [7]) (by kernel_rfl) (by simp) ?_
              refine drawn_store 7 30 (.tmp 8) (.tmp 35) g5 #[.bool b3, .slice A3 n3 c3] #[.bool false, .slice none 0 0] 30 (by kernel_rfl) rfl rfl (((show Bz v5 g5 false none 0 0 from hb5).ext hx3).grown hg6 (by simp; omega)) info_z_s rfl one_two (fun v7 hb7 hg7 => ⟨S6.gb hg7 ge5, ?_⟩) ?_
              · skip
                simp only [Act.put, List.setIfInBounds_toArray, List.set_cons_zero, List.set_cons_succ]
                have hq7 := (((show Bz v5 g5 false none 0 0 from hb5).ext hx3).grown hg6 (by simp; omega))
                have S7 := S6.gb hg7 ge5
                refine wpAnyH_done (by kernel_rfl) ?_ _
                go_step
                go_step
                go_meet
                case rel => exact ⟨_, _, _, _, _, _, _, _, _, _, rfl, rfl, ((show Bz v6 g4 b1 A1 n1 c1 from hb6).grown hg7 (by simp; omega)), (show Bz v7 g5 b3 A3 n3 c3 from hb7), ((((o1.ext hx5).ext hx3).gbz hq6 hg6).gbz hq7 hg7), ((o3.gbz hq6 hg6).gbz hq7 hg7), S7⟩
              exact drawn_nil
            exact drawn_nil
          exact drawn_nil
        exact drawn_nil
      refine drawn_alloc 5 (some 8) (by kernel_rfl) alloc_z (fun g5 v5 hb5 hx5 hg5 => ⟨S4.trans hx5, ?_⟩) ?_
      · skip
        simp only [Act.put, List.setIfInBounds_toArray, List.set_cons_zero, List.set_cons_succ]
        have S5 := S4.trans hx5
        have ge5 := Nat.le_trans S4.size hg5
        have ltB7_5 := Nat.lt_of_lt_of_le (show Bz v4 g4 false none 0 0 from hb4).lt hg5
        refine wpAnyH_ready (rs := [1]) (by kernel_rfl) (by simp) ?_
        refine drawn_call1 1 (some 33) (.tmp 32) (ts := #[24]) (by kernel_rfl) (enters_of Try.func9 (by kernel_rfl) rfl) rfl (zof_v (Hx.out.ext (X2.out.trans S5)) (by omega)) (fun E v1 hh => ?_) ?_
        · skip
          obtain ⟨b1, A1, n1, c1, rfl, o1, hx1⟩ := hh
          refine ⟨_, rfl, S5.trans hx1, ?_⟩
          simp only [Act.put, List.setIfInBounds_toArray, List.set_cons_zero, List.set_cons_succ]
          have S1 := S5.trans hx1
          refine wpAnyH_ready (rs := [3]) (by kernel_rfl) (by simp) ?_
          refine drawn_call1 3 (some 35) (.tmp 34) (ts := #[24]) (by kernel_rfl) (enters_of Try.func9 (by kernel_rfl) rfl) rfl (zof_v (Hy.out.ext (X2.out.trans S1)) (by omega)) (fun E v3 hh => ?_) ?_
          · skip
            obtain ⟨b3, A3, n3, c3, rfl, o3, hx3⟩ := hh
            refine ⟨_, rfl, S1.trans hx3, ?_⟩
            simp only [Act.put, List.setIfInBounds_toArray, List.set_cons_zero, List.set_cons_succ]
            have S3 := S1.trans hx3
            refine wpAnyH_ready (rs := [6]) (by kernel_rfl) (by simp) ?_
            refine drawn_store 6 30 (.tmp 7) (.tmp 33) g4 #[.bool b1, .slice A1 n1 c1] #[.bool false, .slice none 0 0] 30 (by kernel_rfl) rfl rfl ((((show Bz v4 g4 false none 0 0 from hb4).ext hx5).ext hx1).ext hx3) info_z_s rfl one_two (fun v6 hb6 hg6 => ⟨S3.gb hg6 ge4, ?_⟩) ?_
            · skip
              simp only [Act.put, List.setIfInBounds_toArray, List.set_cons_zero, List.set_cons_succ]
              have hq6 := ((((show Bz v4 g4 false none 0 0 from hb4).ext hx5).ext hx1).ext hx3)
              have S6 := S3.gb hg6 ge4
              refine wpAnyH_ready (rs := [7]) (by kernel_rfl) (by simp) ?_
              refine drawn_store 7 30 (.tmp 8) (.tmp 35) g5 #[.bool b3, .slice A3 n3 c3] #[.bool false, .slice none 0 0] 30 (by kernel_rfl) rfl rfl ((((show Bz v5 g5 false none 0 0 from hb5).ext hx1).ext hx3).grown hg6 (by simp; omega)) info_z_s rfl one_two (fun v7 hb7 hg7 => ⟨S6.gb hg7 ge5, ?_⟩) ?_
              · skip
                simp only [Act.put, List.setIfInBounds_toArray, List.set_cons_zero, List.set_cons_succ]
                have hq7 := ((((show Bz v5 g5 false none 0 0 from hb5).ext hx1).ext hx3).grown hg6 (by simp; omega))
                have S7 := S6.gb hg7 ge5
                refine wpAnyH_done (by kernel_rfl) ?_ _
                go_step
                go_step
                go_meet
                case rel => exact ⟨_, _, _, _, _, _, _, _, _, _, rfl, rfl, ((show Bz v6 g4 b1 A1 n1 c1 from hb6).grown hg7 (by simp; omega)), (show Bz v7 g5 b3 A3 n3 c3 from hb7), (((o1.ext hx3).gbz hq6 hg6).gbz hq7 hg7), ((o3.gbz hq6 hg6).gbz hq7 hg7), S7⟩
              exact drawn_nil
            exact drawn_nil
          exact drawn_nil
        exact drawn_nil
      exact drawn_nil
    refine drawn_alloc 5 (some 8) (by kernel_rfl) alloc_z (fun g5 v5 hb5 hx5 hg5 => ⟨hS0.trans hx5, ?_⟩) ?_
    · skip
      simp only [Act.put, List.setIfInBounds_toArray, List.set_cons_zero, List.set_cons_succ]
      have S5 := hS0.trans hx5
      have ge5 := Nat.le_trans hS0.size hg5
      refine wpAnyH_ready (rs := [1, 4]) (by kernel_rfl) (by simp) ?_
      refine drawn_call1 1 (some 33) (.tmp 32) (ts := #[24]) (by kernel_rfl) (enters_of Try.func9 (by kernel_rfl) rfl) rfl (zof_v (Hx.out.ext (X2.out.trans S5)) (by omega)) (fun E v1 hh => ?_) ?_
      · skip
        obtain ⟨b1, A1, n1, c1, rfl, o1, hx1⟩ := hh
        refine ⟨_, rfl, S5.trans hx1, ?_⟩
        simp only [Act.put, List.setIfInBounds_toArray, List.set_cons_zero, List.set_cons_succ]
        have S1 := S5.trans hx1
        refine wpAnyH_ready (rs := [3, 4]) (by kernel_rfl) (by simp) ?_
        refine drawn_call1 3 (some 35) (.tmp 34) (ts := #[24]) (by kernel_rfl) (enters_of Try.func9 (by kernel_rfl) rfl) rfl (zof_v (Hy.out.ext (X2.out.trans S1)) (by omega)) (fun E v3 hh => ?_) ?_
        · skip
          obtain ⟨b3, A3, n3, c3, rfl, o3, hx3⟩ := hh
          refine ⟨_, rfl, S1.trans hx3, ?_⟩
          simp only [Act.put, List.setIfInBounds_toArray, List.set_cons_zero, List.set_cons_succ]
          have S3 := S1.trans hx3
          refine wpAnyH_ready (rs := [4]) (by kernel_rfl) (by simp) ?_
          refine drawn_alloc 4 (some 7) (by kernel_rfl) alloc_z (fun g4 v4 hb4 hx4 hg4 => ⟨S3.trans hx4, ?_⟩) ?_
          · skip
            simp only [Act.put, List.setIfInBounds_toArray, List.set_cons_zero, List.set_cons_succ]
            have S4 := S3.trans hx4
            have ge4 := Nat.le_trans S3.size hg4
            have ltB8_4 := Nat.lt_of_lt_of_le (((show Bz v5 g5 false none 0 0 from hb5).ext hx1).ext hx3).lt hg4
            refine wpAnyH_ready (rs := [6]) (by kernel_rfl) (by simp) ?_
            refine drawn_store 6 30 (.tmp 7) (.tmp 33) g4 #[.bool b1, .slice A1 n1 c1] #[.bool false, .slice none 0 0] 30 (by kernel_rfl) rfl rfl (show Bz v4 g4 false none 0 0 from hb4) info_z_s rfl one_two (fun v6 hb6 hg6 => ⟨S4.gb hg6 ge4, ?_⟩) ?_
            · skip
              simp only [Act.put, List.setIfInBounds_toArray, List.set_cons_zero, List.set_cons_succ]
              have hq6 := (show Bz v4 g4 false none 0 0 from hb4)
              have S6 := S4.gb hg6 ge4
              refine wpAnyH_ready (rs := [7]) (by kernel_rfl) (by simp) ?_
              refine drawn_store 7 30 (.tmp 8) (.tmp 35) g5 #[.bool b3, .slice A3 n3 c3] #[.bool false, .slice none 0 0] 30 (by kernel_rfl) rfl rfl (((((show Bz v5 g5 false none 0 0 from hb5).ext hx1).ext hx3).ext hx4).grown hg6 (by simp; omega)) info_z_s rfl one_two (fun v7 hb7 hg7 => ⟨S6.gb hg7 ge5, ?_⟩) ?_
              · skip
                simp only [Act.put, List.setIfInBounds_toArray, List.set_cons_zero, List.set_cons_succ]
                have hq7 := (((((show Bz v5 g5 false none 0 0 from hb5).ext hx1).ext hx3).ext hx4).grown hg6 (by simp; omega))
                have S7 := S6.gb hg7 ge5
                refine wpAnyH_done (by kernel_rfl) ?_ _
                go_step
                go_step
                go_meet
                case rel => exact ⟨_, _, _, _, _, _, _, _, _, _, rfl, rfl, ((show Bz v6 g4 b1 A1 n1 c1 from hb6).grown hg7 (by simp; omega)), (show Bz v7 g5 b3 A3 n3 c3 from hb7), ((((o1.ext hx3).ext hx4).gbz hq6 hg6).gbz hq7 hg7), (((o3.ext hx4).gbz hq6 hg6).gbz hq7 hg7), S7⟩
              exact drawn_nil
            exact drawn_nil
          exact drawn_nil
        refine drawn_alloc 4 (some 7) (by kernel_rfl) alloc_z (fun g4 v4 hb4 hx4 hg4 => ⟨S1.trans hx4, ?_⟩) ?_
        · skip
          simp only [Act.put, List.setIfInBounds_toArray, List.set_cons_zero, List.set_cons_succ]
          have S4 := S1.trans hx4
          have ge4 := Nat.le_trans S1.size hg4
          have ltB8_4 := Nat.lt_of_lt_of_le ((show Bz v5 g5 false none 0 0 from hb5).ext hx1).lt hg4
          refine wpAnyH_ready (rs := [3]) (by kernel_rfl) (by simp) ?_
          refine drawn_call1 3 (some 35) (.tmp 34) (ts := #[24]) (by kernel_rfl) (enters_of Try.func9 (by kernel_rfl) rfl) rfl (zof_v (Hy.out.ext (X2.out.trans S4)) (by omega)) (fun E v3 hh => ?_) ?_
          · skip
            obtain ⟨b3, A3, n3, c3, rfl, o3, hx3⟩ := hh
            refine ⟨_, rfl, S4.trans hx3, ?_⟩
            simp only [Act.put, List.setIfInBounds_toArray, List.set_cons_zero, List.set_cons_succ]
            have S3 := S4.trans hx3
            refine wpAnyH_ready (rs := [6]) (by kernel_rfl) (by simp) ?_
            refine drawn_store 6 30 (.tmp 7) (.tmp 33) g4 #[.bool b1, .slice A1 n1 c1] #[.bool false, .slice none 0 0] 30 (by kernel_rfl) rfl rfl ((show Bz v4 g4 false none 0 0 from hb4).ext hx3) info_z_s rfl one_two (fun v6 hb6 hg6 => ⟨S3.gb hg6 ge4, ?_⟩) ?_
            · skip
              simp only [Act.put, List.setIfInBounds_toArray, List.set_cons_zero, List.set_cons_succ]
              have hq6 := ((show Bz v4 g4 false none 0 0 from hb4).ext hx3)
              have S6 := S3.gb hg6 ge4
              refine wpAnyH_ready (rs := [7]) (by kernel_rfl) (by simp) ?_
              refine drawn_store 7 30 (.tmp 8) (.tmp 35) g5 #[.bool b3, .slice A3 n3 c3] #[.bool false, .slice none 0 0] 30 (by kernel_rfl) rfl rfl (((((show Bz v5 g5 false none 0 0 from hb5).ext hx1).ext hx4).ext hx3).grown hg6 (by simp; omega)) info_z_s rfl one_two (fun v7 hb7 hg7 => ⟨S6.gb hg7 ge5, ?_⟩) ?_
              · skip
                simp only [Act.put, List.setIfInBounds_toArray, List.set_cons_zero, List.set_cons_succ]
                have hq7 := (((((show Bz v5 g5 false none 0 0 from hb5).ext hx1).ext hx4).ext hx3).grown hg6 (by simp; omega))
                have S7 := S6.gb hg7 ge5
                refine wpAnyH_done (by kernel_rfl) ?_ _
                go_step
                go_step
                go_meet
                case rel => exact ⟨_, _, _, _, _, _, _, _, _, _, rfl, rfl, ((show Bz v6 g4 b1 A1 n1 c1 from hb6).grown hg7 (by simp; omega)), (show Bz v7 g5 b3 A3 n3 c3 from hb7), ((((o1.ext hx4).ext hx3).gbz hq6 hg6).gbz hq7 hg7), ((o3.gbz hq6 hg6).gbz hq7 hg7), S7⟩
              exact drawn_nil
            exact drawn_nil
          exact drawn_nil
        exact drawn_nil
      refine drawn_alloc 4 (some 7) (by kernel_rfl) alloc_z (fun g4 v4 hb4 hx4 hg4 => ⟨S5.trans hx4, ?_⟩) ?_
      · skip
        simp only [Act.put, List.setIfInBounds_toArray, List.set_cons_zero, List.set_cons_succ]
        have S4 := S5.trans hx4
        have ge4 := Nat.le_trans S5.size hg4
        have ltB8_4 := Nat.lt_of_lt_of_le (show Bz v5 g5 false none 0 0 from hb5).lt hg4
        refine wpAnyH_ready (rs := [1]) (by kernel_rfl) (by simp) ?_
        refine drawn_call1 1 (some 33) (.tmp 32) (ts := #[24]) (by kernel_rfl) (enters_of Try.func9 (by kernel_rfl) rfl) rfl (zof_v (Hx.out.ext (X2.out.trans S4)) (by omega)) (fun E v1 hh => ?_) ?_
        · skip
          obtain ⟨b1, A1, n1, c1, rfl, o1, hx1⟩ := hh
          refine ⟨_, rfl, S4.trans hx1, ?_⟩
          simp only [Act.put, List.setIfInBounds_toArray, List.set_cons_zero, List.set_cons_succ]
          have S1 := S4.trans hx1
          refine wpAnyH_ready (rs := [3]) (by kernel_rfl) (by simp) ?_
          refine drawn_call1 3 (some 35) (.tmp 34) (ts := #[24]) (by kernel_rfl) (enters_of Try.func9 (by kernel_rfl) rfl) rfl (zof_v (Hy.out.ext (X2.out.trans S1)) (by omega)) (fun E v3 hh => ?_) ?_
          · skip
            obtain ⟨b3, A3, n3, c3, rfl, o3, hx3⟩ := hh
            refine ⟨_, rfl, S1.trans hx3, ?_⟩
            simp only [Act.put, List.setIfInBounds_toArray, List.set_cons_zero, List.set_cons_succ]
            have S3 := S1.trans hx3
            refine wpAnyH_ready (rs := [6]) (by kernel_rfl) (by simp) ?_
            refine drawn_store 6 30 (.tmp 7) (.tmp 33) g4 #[.bool b1, .slice A1 n1 c1] #[.bool false, .slice none 0 0] 30 (by kernel_rfl) rfl rfl (((show Bz v4 g4 false none 0 0 from hb4).ext hx1).ext hx3) info_z_s rfl one_two (fun v6 hb6 hg6 => ⟨S3.gb hg6 ge4, ?_⟩) ?_
            · skip
              simp only [Act.put, List.setIfInBounds_toArray, List.set_cons_zero, List.set_cons_succ]
              have hq6 := (((show Bz v4 g4 false none 0 0 from hb4).ext hx1).ext hx3)
              have S6 := S3.gb hg6 ge4
              refine wpAnyH_ready (rs := [7]) (by kernel_rfl) (by simp) ?_
              refine drawn_store 7 30 (.tmp 8) (.tmp 35) g5 #[.bool b3, .slice A3 n3 c3] #[.bool false, .slice none 0 0] 30 (by kernel_rfl) rfl rfl (((((show Bz v5 g5 false none 0 0 from hb5).ext hx4).ext hx1).ext hx3).grown hg6 (by simp; omega)) info_z_s rfl one_two (fun v7 hb7 hg7 => ⟨S6.gb hg7 ge5, ?_⟩) ?_
              · skip
                simp only [Act.put, List.setIfInBounds_toArray, List.set_cons_zero, List.set_cons_succ]
                have hq7 := (((((show Bz v5 g5 false none 0 0 from hb5).ext hx4).ext hx1).ext hx3).grown hg6 (by simp; omega))
                have S7 := S6.gb hg7 ge5
                refine wpAnyH_done (by kernel_rfl) ?_ _
                go_step
                go_step
                go_meet
                case rel => exact ⟨_, _, _, _, _, _, _, _, _, _, rfl, rfl, ((show Bz v6 g4 b1 A1 n1 c1 from hb6).grown hg7 (by simp; omega)), (show Bz v7 g5 b3 A3 n3 c3 from hb7), (((o1.ext hx3).gbz hq6 hg6).gbz hq7 hg7), ((o3.gbz hq6 hg6).gbz hq7 hg7), S7⟩
              exact drawn_nil
            exact drawn_nil
          exact drawn_nil
        exact drawn_nil
      exact drawn_nil
    exact drawn_nil
  case rest =>
  obtain ⟨g7, bu, Pu, lu, ku, g8, bv, Pv, lv, kv, rfl, rfl, Bu, Bv, Ou, Ov, hy3⟩ := hcut
  obtain ⟨w3, hw3⟩ : ∃ w3, w3 = wc := ⟨_, rfl⟩
  subst hw3
  have HBu := hid Bu
  have HOu := hid Ou
  clear Bu Ou
  have HBv := hid Bv
  have HOv := hid Ov
  clear Bv Ov
  have hy3 := hid hy3
  have X3 := hid (X2.out.trans hy3.out)
  obtain ⟨f3_0, f3_1, f3_2, f3_3⟩ : w3.cell? ⟨w.heap.size, 0, none⟩ = some (.bool sx) ∧ w3.cell? ⟨w.heap.size, 1, none⟩ = some (.slice Px lx kx) ∧ w3.cell? ⟨w.heap.size + 1, 0, none⟩ = some (.bool sy) ∧ w3.cell? ⟨w.heap.size + 1, 1, none⟩ = some (.slice Py ly ky) := ⟨(HBx.out.ext (hy2.out.trans hy3.out)).c0, (HBx.out.ext (hy2.out.trans hy3.out)).c1, (HBy.out.ext (hy2.out.trans hy3.out)).c0, (HBy.out.ext (hy2.out.trans hy3.out)).c1⟩
  go_upto_region 5 with (first
    | ((go_at_call 10); (with_reducible refine (wdivmod_zero (Hx.out.ext ((hy1.out.trans hy2.out).trans hy3.out)) (Hy.out.ext ((hy1.out.trans hy2.out).trans hy3.out)) (by omega)).mono ?_); rintro E4 w4 ⟨b4, A4, n4, c4, e4, B4, m4, d4, rfl, o4, p4, hr4⟩; have O4 := hid o4; have P4 := hid p4; clear o4 p4; have X4 := hid (X3.out.trans hr4); have hy4 := hid hr4; clear hr4))
  clear f3_0 f3_1 f3_2 f3_3
  have hy5 := hid (((Ext.refl w4).alloc (.cells #[.bool b4, .slice A4 n4 c4] 24)).alloc (.cells #[.bool e4, .slice B4 m4 d4] 24))
  have Bq := ((Bx.new w4 b4 A4 n4 c4).ext ((Ext.refl (w4.alloc (.cells #[.bool b4, .slice A4 n4 c4] 24))).alloc (.cells #[.bool e4, .slice B4 m4 d4] 24)))
  have HBq := hid Bq
  clear Bq
  have Br := (Bx.new (w4.alloc (.cells #[.bool b4, .slice A4 n4 c4] 24)) e4 B4 m4 d4)
  rw [size_alloc] at Br
  have HBr := hid Br
  clear Br
  generalize ((w4.alloc (.cells #[.bool b4, .slice A4 n4 c4] 24)).alloc (.cells #[.bool e4, .slice B4 m4 d4] 24)) = w5 at *
  have X5 := hid (X4.out.trans hy5.out)
  obtain ⟨f5_0, f5_1, f5_2, f5_3⟩ : w5.cell? ⟨w.heap.size, 0, none⟩ = some (.bool sx) ∧ w5.cell? ⟨w.heap.size, 1, none⟩ = some (.slice Px lx kx) ∧ w5.cell? ⟨w.heap.size + 1, 0, none⟩ = some (.bool sy) ∧ w5.cell? ⟨w.heap.size + 1, 1, none⟩ = some (.slice Py ly ky) := ⟨(HBx.out.ext (((hy2.out.trans hy3.out).trans hy4.out).trans hy5.out)).c0, (HBx.out.ext (((hy2.out.trans hy3.out).trans hy4.out).trans hy5.out)).c1, (HBy.out.ext (((hy2.out.trans hy3.out).trans hy4.out).trans hy5.out)).c0, (HBy.out.ext (((hy2.out.trans hy3.out).trans hy4.out).trans hy5.out)).c1⟩
  go_upto_region 6 with (first
    | ((go_at_call 11); (with_reducible refine (wexact_zero (Hx.out.ext ((((hy1.out.trans hy2.out).trans hy3.out).trans hy4.out).trans hy5.out)) (Hy.out.ext ((((hy1.out.trans hy2.out).trans hy3.out).trans hy4.out).trans hy5.out)) (by omega)).mono ?_); rintro E6 w6 ⟨b6, A6, n6, c6, rfl, o6, hr6⟩; have O6 := hid o6; clear o6; have X6 := hid (X5.out.trans hr6); have hy6 := hid hr6; clear hr6))
  clear f5_0 f5_1 f5_2 f5_3
  have hy7 := hid ((Ext.refl w6).alloc (.cells #[.bool b6, .slice A6 n6 c6] 24))
  have Bp := (Bx.new w6 b6 A6 n6 c6)
  have HBp := hid Bp
  clear Bp
  generalize (w6.alloc (.cells #[.bool b6, .slice A6 n6 c6] 24)) = w7 at *
  have X7 := hid (X6.out.trans hy7.out)
  obtain ⟨f7_0, f7_1, f7_2, f7_3⟩ : w7.cell? ⟨w.heap.size, 0, none⟩ = some (.bool sx) ∧ w7.cell? ⟨w.heap.size, 1, none⟩ = some (.slice Px lx kx) ∧ w7.cell? ⟨w.heap.size + 1, 0, none⟩ = some (.bool sy) ∧ w7.cell? ⟨w.heap.size + 1, 1, none⟩ = some (.slice Py ly ky) := ⟨(HBx.out.ext (((((hy2.out.trans hy3.out).trans hy4.out).trans hy5.out).trans hy6.out).trans hy7.out)).c0, (HBx.out.ext (((((hy2.out.trans hy3.out).trans hy4.out).trans hy5.out).trans hy6.out).trans hy7.out)).c1, (HBy.out.ext (((((hy2.out.trans hy3.out).trans hy4.out).trans hy5.out).trans hy6.out).trans hy7.out)).c0, (HBy.out.ext (((((hy2.out.trans hy3.out).trans hy4.out).trans hy5.out).trans hy6.out).trans hy7.out)).c1⟩
  go_upto_region 7 with (first
    | ((go_at_call 12); (with_reducible refine (wgcd_v (Hx.out.ext ((((((hy1.out.trans hy2.out).trans hy3.out).trans hy4.out).trans hy5.out).trans hy6.out).trans hy7.out)) (Hy.out.ext ((((((hy1.out.trans hy2.out).trans hy3.out).trans hy4.out).trans hy5.out).trans hy6.out).trans hy7.out)) (by omega)).mono ?_); rintro E8 w8 ⟨b8, A8, n8, c8, rfl, o8, hr8⟩; have O8 := hid o8; clear o8; have X8 := hid (X7.out.trans hr8); have hy8 := hid hr8; clear hr8))
  clear f7_0 f7_1 f7_2 f7_3
  have hy9 := hid ((Ext.refl w8).alloc (.cells #[.bool b8, .slice A8 n8 c8] 24))
  have Bg := (Bx.new w8 b8 A8 n8 c8)
  have HBg := hid Bg
  clear Bg
  generalize (w8.alloc (.cells #[.bool b8, .slice A8 n8 c8] 24)) = w9 at *
  have X9 := hid (X8.out.trans hy9.out)
  obtain ⟨f9_0, f9_1, f9_2, f9_3⟩ : w9.cell? ⟨w.heap.size, 0, none⟩ = some (.bool sx) ∧ w9.cell? ⟨w.heap.size, 1, none⟩ = some (.slice Px lx kx) ∧ w9.cell? ⟨w.heap.size + 1, 0, none⟩ = some (.bool sy) ∧ w9.cell? ⟨w.heap.size + 1, 1, none⟩ = some (.slice Py ly ky) := ⟨(HBx.out.ext (((((((hy2.out.trans hy3.out).trans hy4.out).trans hy5.out).trans hy6.out).trans hy7.out).trans hy8.out).trans hy9.out)).c0, (HBx.out.ext (((((((hy2.out.trans hy3.out).trans hy4.out).trans hy5.out).trans hy6.out).trans hy7.out).trans hy8.out).trans hy9.out)).c1, (HBy.out.ext (((((((hy2.out.trans hy3.out).trans hy4.out).trans hy5.out).trans hy6.out).trans hy7.out).trans hy8.out).trans hy9.out)).c0, (HBy.out.ext (((((((hy2.out.trans hy3.out).trans hy4.out).trans hy5.out).trans hy6.out).trans hy7.out).trans hy8.out).trans hy9.out)).c1⟩
  go_cut [15, 16] (fun v15 v16 wx => ∃ (g15 : Nat) (b15 : Bool) (P15 : Option Addr) (l15 k15 : Nat) (er : Int), v15 = .pointer (some ⟨g15, 0, none⟩) ∧ v16 = .int .i64 er ∧ Bx wx g15 b15 P15 l15 k15 ∧ ((0 ≤ N ∧ N ≤ 6 ∧ er = 0 ∧ Ci 200 wx 0 b15 P15 l15 k15 (x ^ N.toNat)) ∨ ((N < 0 ∨ 1000 < N) ∧ er = 2 ∧ l15 = 0)) ∧ Ext w9 wx)
  case first =>
    by_cases hp : 0 ≤ N ∧ N ≤ 6
    · have HP := hid hp
      clear hp
      go_wp2_with (go_at_call 13; (with_reducible refine (wpow_is (N := N.toNat) (by have := HP.out; omega) (Hx.out.ext ((((((((hy1.out.trans hy2.out).trans hy3.out).trans hy4.out).trans hy5.out).trans hy6.out).trans hy7.out).trans hy8.out).trans hy9.out)) (by omega) (by have := HP.out; omega)).mono ?_); rintro E v ⟨b, A, n, c, rfl, o, hr⟩; have HO := hid o; have HR := hid hr; clear o hr)
      go_meet
      case rel => exact ⟨_, _, _, _, _, _, rfl, rfl, Bx.new v b A n c, .inl ⟨HP.out.1, HP.out.2, rfl, ((HO.out.ext ((Ext.refl v).alloc _)).mono (Nat.zero_le _)).weak (by have := HP.out; omega)⟩, HR.out.alloc _⟩
    · have HP : Hid (N < 0 ∨ 1000 < N) := by have := HN.out; show _ ∨ _; omega
      clear hp
      go_wp2_with (go_at_call 13; (with_reducible refine (wpow_bad HP.out).mono ?_); rintro E v ⟨b, A, n, c, rfl, o, hr⟩; have HO := hid o; have HR := hid hr; clear o hr)
      go_meet
      case rel => exact ⟨_, _, _, _, _, _, rfl, rfl, Bx.new v b A n c, .inr ⟨HP.out, rfl, HO.out.2.len0 rfl⟩, HR.out.alloc _⟩
  case rest =>
  clear f9_0 f9_1 f9_2 f9_3
  obtain ⟨g15, b15, P15, l15, k15, er, rfl, rfl, B15, hpw, hy10⟩ := hcut
  obtain ⟨w10, hw10⟩ : ∃ w10, w10 = wc := ⟨_, rfl⟩
  subst hw10
  have HBw := hid B15
  have HPW := hid hpw
  have hy10 := hid hy10
  have X10 := hid (X9.out.trans hy10.out)
  clear B15 hpw
  go_upto_region 8 with fail
  go_cut [102] (fun v102 wx => v102 = .bool false ∧ Ext w10 wx)
  case first =>
    rcases HPW.out with ⟨hn0, hn6, rfl, hci⟩ | ⟨hnb, rfl, rfl⟩
    · have hn1000 : N ≤ 1000 := by omega
      as_aux_lemma =>
        refine wp_region_held_drew (S := fun w' => Ext w10 w') (by kernel_rfl) (Ext.refl _).drew (fun hS0 => ?_)
        change wpAnyH _ _ _ _ _ 45 #[false, false, false, false, false, false, false, false, false, false, false, false, false, false, false, false, false, false, false, false, false, false, false, false, false, false, false, false, false, false, false, false, false, false, false, false, false, false, false, false, false, false, false, false, false] _ _
        refine drawn_loadG 0 58 24 (.tmp 14) none (w8.heap.size) 24 #[.bool b8, .slice A8 n8 c8] (0, 0) _ (by kernel_rfl) rfl rfl (fun w' hS => (HBg.out.ext hy10.out).ext hS) Try.underlying24 rfl info_int_s (by as_aux_lemma => kernel_rfl) (by as_aux_lemma => kernel_rfl) (by as_aux_lemma => kernel_rfl) (fun _ _ _ _ h => h) hS0 ?_
        simp only [Act.put, List.setIfInBounds_toArray, List.set_cons_zero, List.set_cons_succ]
        refine drawn_loadG 1 59 30 (.tmp 7) none (g7) 30 #[.bool bu, .slice Pu lu ku] (0, 0) _ (by kernel_rfl) rfl rfl (fun w' hS => (HBu.out.ext ((((((hy4.out.trans hy5.out).trans hy6.out).trans hy7.out).trans hy8.out).trans hy9.out).trans hy10.out)).ext hS) Try.underlying30 rfl info_z_s (by as_aux_lemma => kernel_rfl) (by as_aux_lemma => kernel_rfl) (by as_aux_lemma => kernel_rfl) (fun _ _ _ _ h => h) hS0 ?_
        simp only [Act.put, List.setIfInBounds_toArray, List.set_cons_zero, List.set_cons_succ]
        refine drawn_loadG 2 60 30 (.tmp 8) none (g8) 30 #[.bool bv, .slice Pv lv kv] (0, 0) _ (by kernel_rfl) rfl rfl (fun w' hS => (HBv.out.ext ((((((hy4.out.trans hy5.out).trans hy6.out).trans hy7.out).trans hy8.out).trans hy9.out).trans hy10.out)).ext hS) Try.underlying30 rfl info_z_s (by as_aux_lemma => kernel_rfl) (by as_aux_lemma => kernel_rfl) (by as_aux_lemma => kernel_rfl) (fun _ _ _ _ h => h) hS0 ?_
        simp only [Act.put, List.setIfInBounds_toArray, List.set_cons_zero, List.set_cons_succ]
        refine wpAnyH_ready (rs := [3]) (by kernel_rfl) (by simp) ?_
        refine drawn_callG2 3 (some 61) (.tmp 59) (.tmp 60) (ts := #[30, 30]) none (by kernel_rfl) rfl (enters_of Try.func15 (by kernel_rfl) rfl) rfl rfl (zgcd_v (((HOu.out.ext ((((((hy4.out.trans hy5.out).trans hy6.out).trans hy7.out).trans hy8.out).trans hy9.out).trans hy10.out))).ext hS0) (((HOv.out.ext ((((((hy4.out.trans hy5.out).trans hy6.out).trans hy7.out).trans hy8.out).trans hy9.out).trans hy10.out))).ext hS0) (by omega)) (fun E v3 hh => ?_) drawn_nil
        obtain ⟨b3, A3, n3, c3, rfl, o3, hx3⟩ := hh
        refine ⟨_, rfl, hS0.trans hx3, ?_⟩
        simp only [Act.put, List.setIfInBounds_toArray, List.set_cons_zero, List.set_cons_succ]
        have S3 := hS0.trans hx3
        refine wpAnyH_ready (rs := [4]) (by kernel_rfl) (by simp) ?_
        refine drawn_callG1 4 (some 62) (.tmp 61) (ts := #[30]) none (by kernel_rfl) rfl (enters_of Try.func16 (by kernel_rfl) rfl) rfl (zint_v o3 (by omega)) (fun E v4 hh => ?_) drawn_nil
        obtain ⟨b4, A4, n4, c4, rfl, o4, hx4⟩ := hh
        refine ⟨_, rfl, S3.trans hx4, ?_⟩
        simp only [Act.put, List.setIfInBounds_toArray, List.set_cons_zero, List.set_cons_succ]
        have S4 := S3.trans hx4
        refine wpAnyH_ready (rs := [5]) (by kernel_rfl) (by simp) ?_
        refine drawn_callG2 5 (some 63) (.tmp 58) (.tmp 62) (ts := #[24, 24]) none (by kernel_rfl) rfl (enters_of Try.func14 (by kernel_rfl) rfl) rfl rfl (zsame_v (((O8.out.ext (hy9.out.trans hy10.out))).ext S4) o4 (by omega) rfl) (fun E v5 hh => ?_) drawn_nil
        obtain ⟨rfl, hx5⟩ := hh
        refine ⟨_, rfl, S4.trans hx5, ?_⟩
        simp only [Act.put, List.setIfInBounds_toArray, List.set_cons_zero, List.set_cons_succ]
        have S5 := S4.trans hx5
        refine drawn_freeG 6 64 (v := ?v6_1) (.unOp .not 4 (.tmp 63)) none (by kernel_rfl) rfl ?hy6_1 (by as_aux_lemma => kernel_rfl) (by as_aux_lemma => kernel_rfl) (by as_aux_lemma => kernel_rfl) (fun _ _ _ _ h => h) S5 ?hr6_1
        case hy6_1 => (intro o ho w' hS; unfold execOp; simp only [ho]; go_simp; try with_reducible rfl)
        simp only [Act.put, List.setIfInBounds_toArray, List.set_cons_zero, List.set_cons_succ]
        refine drawn_freeG 7 65 (v := ?v7_2) (.move (.tmp 64)) none (by kernel_rfl) rfl ?hy7_2 (by as_aux_lemma => kernel_rfl) (by as_aux_lemma => kernel_rfl) (by as_aux_lemma => kernel_rfl) (fun _ _ _ _ h => h) S5 ?hr7_2
        case hy7_2 => (intro o ho w' hS; unfold execOp; simp only [ho]; go_simp; try with_reducible rfl)
        simp only [Act.put, List.setIfInBounds_toArray, List.set_cons_zero, List.set_cons_succ]
        refine drawn_freeG 8 66 (v := ?v8_3) (.move (.tmp 16)) (some (7, false)) (by kernel_rfl) rfl ?hy8_3 (by as_aux_lemma => kernel_rfl) (by as_aux_lemma => kernel_rfl) (by as_aux_lemma => kernel_rfl) (fun _ _ _ _ h => h) S5 ?hr8_3
        case hy8_3 => (intro o ho w' hS; unfold execOp; simp only [ho]; go_simp; try with_reducible rfl)
        simp only [Act.put, List.setIfInBounds_toArray, List.set_cons_zero, List.set_cons_succ]
        refine drawn_freeG 9 67 (v := ?v9_4) (.binOp .eql 32 (.tmp 66) (.const (.int .i64 0)) 32) (some (7, false)) (by kernel_rfl) rfl ?hy9_4 (by as_aux_lemma => kernel_rfl) (by as_aux_lemma => kernel_rfl) (by as_aux_lemma => kernel_rfl) (fun _ _ _ _ h => h) S5 ?hr9_4
        case hy9_4 => (intro o ho w' hS; unfold execOp; simp only [ho]; go_simp; try with_reducible rfl)
        simp only [Act.put, List.setIfInBounds_toArray, List.set_cons_zero, List.set_cons_succ]
        refine drawn_freeG 10 68 (v := ?v10_5) (.move (.tmp 2)) (some (7, false)) (by kernel_rfl) rfl ?hy10_5 (by as_aux_lemma => kernel_rfl) (by as_aux_lemma => kernel_rfl) (by as_aux_lemma => kernel_rfl) (fun _ _ _ _ h => h) S5 ?hr10_5
        case hy10_5 => (intro o ho w' hS; unfold execOp; simp only [ho]; go_simp; try with_reducible rfl)
        simp only [Act.put, List.setIfInBounds_toArray, List.set_cons_zero, List.set_cons_succ]
        refine drawn_freeG 11 69 (v := ?v11_6) (.binOp .geq 3 (.tmp 68) (.const (.int .i64 0)) 3) (some (7, false)) (by kernel_rfl) rfl ?hy11_6 (by as_aux_lemma => kernel_rfl) (by as_aux_lemma => kernel_rfl) (by as_aux_lemma => kernel_rfl) (fun _ _ _ _ h => h) S5 ?hr11_6
        case hy11_6 => (intro o ho w' hS; unfold execOp; simp only [ho]; go_simp; try with_reducible rfl)
        simp only [Act.put, List.setIfInBounds_toArray, List.set_cons_zero, List.set_cons_succ]
        refine drawn_freeG 12 70 (v := ?v12_7) (.move (.tmp 69)) (some (7, false)) (by kernel_rfl) rfl ?hy12_7 (by as_aux_lemma => kernel_rfl) (by as_aux_lemma => kernel_rfl) (by as_aux_lemma => kernel_rfl) (fun _ _ _ _ h => h) S5 ?hr12_7
        case hy12_7 => (intro o ho w' hS; unfold execOp; simp only [ho]; go_simp; try with_reducible rfl)
        simp only [Act.put, List.setIfInBounds_toArray, List.set_cons_zero, List.set_cons_succ]
        refine drawn_freeG 13 71 (v := ?v13_8) (.move (.tmp 2)) (some (12, true)) (by kernel_rfl) rfl ?hy13_8 (by as_aux_lemma => kernel_rfl) (by as_aux_lemma => kernel_rfl) (by as_aux_lemma => kernel_rfl) (fun _ _ _ _ h => h) S5 ?hr13_8
        case hy13_8 => (intro o ho w' hS; unfold execOp; simp only [ho]; go_simp; try with_reducible rfl)
        simp only [Act.put, List.setIfInBounds_toArray, List.set_cons_zero, List.set_cons_succ]
        refine drawn_freeG 14 72 (v := ?v14_9) (.binOp .leq 3 (.tmp 71) (.const (.int .i64 1000)) 3) (some (12, true)) (by kernel_rfl) rfl ?hy14_9 (by as_aux_lemma => kernel_rfl) (by as_aux_lemma => kernel_rfl) (by as_aux_lemma => kernel_rfl) (fun _ _ _ _ h => h) S5 ?hr14_9
        case hy14_9 => (intro o ho w' hS; unfold execOp; simp only [ho]; go_simp; try with_reducible rfl)
        simp only [Act.put, List.setIfInBounds_toArray, List.set_cons_zero, List.set_cons_succ]
        refine drawn_freeG 15 73 (v := ?v15_10) (.pick (.tmp 70) (.tmp 72) (.const (.bool false))) (some (7, false)) (by kernel_rfl) rfl ?hy15_10 (by as_aux_lemma => kernel_rfl) (by as_aux_lemma => kernel_rfl) (by as_aux_lemma => kernel_rfl) (fun _ _ _ _ h => h) S5 ?hr15_10
        case hy15_10 => (intro o ho w' hS; unfold execOp; simp only [ho]; go_simp; try with_reducible rfl)
        simp only [Act.put, List.setIfInBounds_toArray, List.set_cons_zero, List.set_cons_succ]
        refine drawn_freeG 16 74 (v := ?v16_11) (.binOp .neq 4 (.tmp 67) (.tmp 73) 4) (some (7, false)) (by kernel_rfl) rfl ?hy16_11 (by as_aux_lemma => kernel_rfl) (by as_aux_lemma => kernel_rfl) (by as_aux_lemma => kernel_rfl) (fun _ _ _ _ h => h) S5 ?hr16_11
        case hy16_11 => (intro o ho w' hS; unfold execOp; simp only [ho]; go_simp; try with_reducible rfl)
        simp only [Act.put, List.setIfInBounds_toArray, List.set_cons_zero, List.set_cons_succ]
        refine drawn_freeG 17 75 (v := ?v17_12) (.pick (.tmp 65) (.const (.bool true)) (.tmp 74)) none (by kernel_rfl) rfl ?hy17_12 (by as_aux_lemma => kernel_rfl) (by as_aux_lemma => kernel_rfl) (by as_aux_lemma => kernel_rfl) (fun _ _ _ _ h => h) S5 ?hr17_12
        case hy17_12 => (intro o ho w' hS; unfold execOp; simp only [ho]; go_simp; try with_reducible rfl)
        simp only [Act.put, List.setIfInBounds_toArray, List.set_cons_zero, List.set_cons_succ]
        refine drawn_freeG 18 76 (v := ?v18_13) (.move (.tmp 75)) none (by kernel_rfl) rfl ?hy18_13 (by as_aux_lemma => kernel_rfl) (by as_aux_lemma => kernel_rfl) (by as_aux_lemma => kernel_rfl) (fun _ _ _ _ h => h) S5 ?hr18_13
        case hy18_13 => (intro o ho w' hS; unfold execOp; simp only [ho]; go_simp; try with_reducible rfl)
        simp only [Act.put, List.setIfInBounds_toArray, List.set_cons_zero, List.set_cons_succ]
        refine drawn_freeG 19 77 (v := ?v19_14) (.move (.tmp 16)) (some (18, false)) (by kernel_rfl) rfl ?hy19_14 (by as_aux_lemma => kernel_rfl) (by as_aux_lemma => kernel_rfl) (by as_aux_lemma => kernel_rfl) (fun _ _ _ _ h => h) S5 ?hr19_14
        case hy19_14 => (intro o ho w' hS; unfold execOp; simp only [ho]; go_simp; try with_reducible rfl)
        simp only [Act.put, List.setIfInBounds_toArray, List.set_cons_zero, List.set_cons_succ]
        refine drawn_freeG 20 78 (v := ?v20_15) (.binOp .eql 32 (.tmp 77) (.const (.int .i64 0)) 32) (some (18, false)) (by kernel_rfl) rfl ?hy20_15 (by as_aux_lemma => kernel_rfl) (by as_aux_lemma => kernel_rfl) (by as_aux_lemma => kernel_rfl) (fun _ _ _ _ h => h) S5 ?hr20_15
        case hy20_15 => (intro o ho w' hS; unfold execOp; simp only [ho]; go_simp; try with_reducible rfl)
        simp only [Act.put, List.setIfInBounds_toArray, List.set_cons_zero, List.set_cons_succ]
        refine drawn_freeG 21 79 (v := ?v21_16) (.move (.tmp 78)) (some (18, false)) (by kernel_rfl) rfl ?hy21_16 (by as_aux_lemma => kernel_rfl) (by as_aux_lemma => kernel_rfl) (by as_aux_lemma => kernel_rfl) (fun _ _ _ _ h => h) S5 ?hr21_16
        case hy21_16 => (intro o ho w' hS; unfold execOp; simp only [ho]; go_simp; try with_reducible rfl)
        simp only [Act.put, List.setIfInBounds_toArray, List.set_cons_zero, List.set_cons_succ]
        refine drawn_loadG 22 80 24 (.tmp 15) (some (21, true)) (g15) 24 #[.bool b15, .slice P15 l15 k15] (0, 0) _ (by kernel_rfl) rfl rfl (fun w' hS => HBw.out.ext hS) Try.underlying24 rfl info_int_s (by as_aux_lemma => kernel_rfl) (by as_aux_lemma => kernel_rfl) (by as_aux_lemma => kernel_rfl) (fun _ _ _ _ h => h) S5 ?_
        simp only [Act.put, List.setIfInBounds_toArray, List.set_cons_zero, List.set_cons_succ]
        refine drawn_loadG 23 81 30 (.tmp 7) (some (21, true)) (g7) 30 #[.bool bu, .slice Pu lu ku] (0, 0) _ (by kernel_rfl) rfl rfl (fun w' hS => (HBu.out.ext ((((((hy4.out.trans hy5.out).trans hy6.out).trans hy7.out).trans hy8.out).trans hy9.out).trans hy10.out)).ext hS) Try.underlying30 rfl info_z_s (by as_aux_lemma => kernel_rfl) (by as_aux_lemma => kernel_rfl) (by as_aux_lemma => kernel_rfl) (fun _ _ _ _ h => h) S5 ?_
        simp only [Act.put, List.setIfInBounds_toArray, List.set_cons_zero, List.set_cons_succ]
        refine drawn_freeG 24 82 (v := ?v24_17) (.move (.tmp 2)) (some (21, true)) (by kernel_rfl) rfl ?hy24_17 (by as_aux_lemma => kernel_rfl) (by as_aux_lemma => kernel_rfl) (by as_aux_lemma => kernel_rfl) (fun _ _ _ _ h => h) S5 ?hr24_17
        case hy24_17 => (intro o ho w' hS; unfold execOp; simp only [ho]; go_simp; try with_reducible rfl)
        simp only [Act.put, List.setIfInBounds_toArray, List.set_cons_zero, List.set_cons_succ]
        refine wpAnyH_ready (rs := [25]) (by kernel_rfl) (by simp) ?_
        refine drawn_callG2 25 (some 83) (.tmp 81) (.tmp 82) (ts := #[30, 3]) (some (21, true)) (by kernel_rfl) rfl (enters_of Try.func17 (by kernel_rfl) rfl) rfl rfl (zpow_is (N := N.toNat) (by omega) (((HOu.out.ext ((((((hy4.out.trans hy5.out).trans hy6.out).trans hy7.out).trans hy8.out).trans hy9.out).trans hy10.out))).ext S5) (by omega) (by omega)) (fun E v25 hh => ?_) drawn_nil
        obtain ⟨b25, A25, n25, c25, rfl, o25, hx25⟩ := hh
        refine ⟨_, rfl, S5.trans hx25, ?_⟩
        simp only [Act.put, List.setIfInBounds_toArray, List.set_cons_zero, List.set_cons_succ]
        have S25 := S5.trans hx25
        refine wpAnyH_ready (rs := [26]) (by kernel_rfl) (by simp) ?_
        refine drawn_callG1 26 (some 84) (.tmp 83) (ts := #[30]) (some (21, true)) (by kernel_rfl) rfl (enters_of Try.func16 (by kernel_rfl) rfl) rfl (zint_v o25 (by omega)) (fun E v26 hh => ?_) drawn_nil
        obtain ⟨b26, A26, n26, c26, rfl, o26, hx26⟩ := hh
        refine ⟨_, rfl, S25.trans hx26, ?_⟩
        simp only [Act.put, List.setIfInBounds_toArray, List.set_cons_zero, List.set_cons_succ]
        have S26 := S25.trans hx26
        refine wpAnyH_ready (rs := [27]) (by kernel_rfl) (by simp) ?_
        refine drawn_callG2 27 (some 85) (.tmp 80) (.tmp 84) (ts := #[24, 24]) (some (21, true)) (by kernel_rfl) rfl (enters_of Try.func14 (by kernel_rfl) rfl) rfl rfl (zsame_v (hci.ext S26) o26 (by omega) rfl) (fun E v27 hh => ?_) drawn_nil
        obtain ⟨rfl, hx27⟩ := hh
        refine ⟨_, rfl, S26.trans hx27, ?_⟩
        simp only [Act.put, List.setIfInBounds_toArray, List.set_cons_zero, List.set_cons_succ]
        have S27 := S26.trans hx27
        refine drawn_freeG 28 86 (v := ?v28_18) (.unOp .not 4 (.tmp 85)) (some (21, true)) (by kernel_rfl) rfl ?hy28_18 (by as_aux_lemma => kernel_rfl) (by as_aux_lemma => kernel_rfl) (by as_aux_lemma => kernel_rfl) (fun _ _ _ _ h => h) S27 ?hr28_18
        case hy28_18 => (intro o ho w' hS; unfold execOp; simp only [ho]; go_simp; try with_reducible rfl)
        simp only [Act.put, List.setIfInBounds_toArray, List.set_cons_zero, List.set_cons_succ]
        refine drawn_freeG 29 87 (v := ?v29_19) (.pick (.tmp 79) (.tmp 86) (.const (.bool false))) (some (18, false)) (by kernel_rfl) rfl ?hy29_19 (by as_aux_lemma => kernel_rfl) (by as_aux_lemma => kernel_rfl) (by as_aux_lemma => kernel_rfl) (fun _ _ _ _ h => h) S27 ?hr29_19
        case hy29_19 => (intro o ho w' hS; unfold execOp; simp only [ho]; go_simp; try with_reducible rfl)
        simp only [Act.put, List.setIfInBounds_toArray, List.set_cons_zero, List.set_cons_succ]
        refine drawn_freeG 30 88 (v := ?v30_20) (.pick (.tmp 76) (.const (.bool true)) (.tmp 87)) none (by kernel_rfl) rfl ?hy30_20 (by as_aux_lemma => kernel_rfl) (by as_aux_lemma => kernel_rfl) (by as_aux_lemma => kernel_rfl) (fun _ _ _ _ h => h) S27 ?hr30_20
        case hy30_20 => (intro o ho w' hS; unfold execOp; simp only [ho]; go_simp; try with_reducible rfl)
        simp only [Act.put, List.setIfInBounds_toArray, List.set_cons_zero, List.set_cons_succ]
        refine drawn_freeG 31 89 (v := ?v31_21) (.move (.tmp 88)) none (by kernel_rfl) rfl ?hy31_21 (by as_aux_lemma => kernel_rfl) (by as_aux_lemma => kernel_rfl) (by as_aux_lemma => kernel_rfl) (fun _ _ _ _ h => h) S27 ?hr31_21
        case hy31_21 => (intro o ho w' hS; unfold execOp; simp only [ho]; go_simp; try with_reducible rfl)
        simp only [Act.put, List.setIfInBounds_toArray, List.set_cons_zero, List.set_cons_succ]
        refine drawn_freeG 32 90 (v := ?v32_22) (.move (.tmp 16)) (some (31, false)) (by kernel_rfl) rfl ?hy32_22 (by as_aux_lemma => kernel_rfl) (by as_aux_lemma => kernel_rfl) (by as_aux_lemma => kernel_rfl) (fun _ _ _ _ h => h) S27 ?hr32_22
        case hy32_22 => (intro o ho w' hS; unfold execOp; simp only [ho]; go_simp; try with_reducible rfl)
        simp only [Act.put, List.setIfInBounds_toArray, List.set_cons_zero, List.set_cons_succ]
        refine drawn_freeG 33 91 (v := ?v33_23) (.binOp .neq 32 (.tmp 90) (.const (.int .i64 0)) 32) (some (31, false)) (by kernel_rfl) rfl ?hy33_23 (by as_aux_lemma => kernel_rfl) (by as_aux_lemma => kernel_rfl) (by as_aux_lemma => kernel_rfl) (fun _ _ _ _ h => h) S27 ?hr33_23
        case hy33_23 => (intro o ho w' hS; unfold execOp; simp only [ho]; go_simp; try with_reducible rfl)
        simp only [Act.put, List.setIfInBounds_toArray, List.set_cons_zero, List.set_cons_succ]
        refine drawn_freeG 34 92 (v := ?v34_24) (.move (.tmp 91)) (some (31, false)) (by kernel_rfl) rfl ?hy34_24 (by as_aux_lemma => kernel_rfl) (by as_aux_lemma => kernel_rfl) (by as_aux_lemma => kernel_rfl) (fun _ _ _ _ h => h) S27 ?hr34_24
        case hy34_24 => (intro o ho w' hS; unfold execOp; simp only [ho]; go_simp; try with_reducible rfl)
        simp only [Act.put, List.setIfInBounds_toArray, List.set_cons_zero, List.set_cons_succ]
        refine drawn_skipG 35 93 (.move (.tmp 16)) (some (34, true)) (by kernel_rfl) rfl (by as_aux_lemma => kernel_rfl) (by as_aux_lemma => kernel_rfl) (by as_aux_lemma => kernel_rfl) (fun _ _ _ _ h => h) S27 ?_
        simp only [Act.put, List.setIfInBounds_toArray, List.set_cons_zero, List.set_cons_succ]
        refine drawn_skipG 36 94 (.binOp .neq 32 (.tmp 93) (.const (.int .i64 2)) 32) (some (34, true)) (by kernel_rfl) rfl (by as_aux_lemma => kernel_rfl) (by as_aux_lemma => kernel_rfl) (by as_aux_lemma => kernel_rfl) (fun _ _ _ _ h => h) S27 ?_
        simp only [Act.put, List.setIfInBounds_toArray, List.set_cons_zero, List.set_cons_succ]
        refine drawn_skipG 37 95 (.move (.tmp 94)) (some (34, true)) (by kernel_rfl) rfl (by as_aux_lemma => kernel_rfl) (by as_aux_lemma => kernel_rfl) (by as_aux_lemma => kernel_rfl) (fun _ _ _ _ h => h) S27 ?_
        simp only [Act.put, List.setIfInBounds_toArray, List.set_cons_zero, List.set_cons_succ]
        refine drawn_skipG 38 96 (.fieldAddr 24 (.tmp 15) 1) (some (37, false)) (by kernel_rfl) rfl (by as_aux_lemma => kernel_rfl) (by as_aux_lemma => kernel_rfl) (by as_aux_lemma => kernel_rfl) (fun _ _ _ _ h => h) S27 ?_
        simp only [Act.put, List.setIfInBounds_toArray, List.set_cons_zero, List.set_cons_succ]
        refine drawn_skipG 39 97 (.load 22 (.tmp 96)) (some (37, false)) (by kernel_rfl) rfl (by as_aux_lemma => kernel_rfl) (by as_aux_lemma => kernel_rfl) (by as_aux_lemma => kernel_rfl) (fun _ _ _ _ h => h) S27 ?_
        simp only [Act.put, List.setIfInBounds_toArray, List.set_cons_zero, List.set_cons_succ]
        refine drawn_skipG 40 98 (.call { callee := .builtin .len, args := #[.tmp 97], argTypes := #[22] }) (some (37, false)) (by kernel_rfl) rfl (by as_aux_lemma => kernel_rfl) (by as_aux_lemma => kernel_rfl) (by as_aux_lemma => kernel_rfl) (fun _ _ _ _ h => h) S27 ?_
        simp only [Act.put, List.setIfInBounds_toArray, List.set_cons_zero, List.set_cons_succ]
        refine drawn_skipG 41 99 (.binOp .gtr 3 (.tmp 98) (.const (.int .i64 0)) 3) (some (37, false)) (by kernel_rfl) rfl (by as_aux_lemma => kernel_rfl) (by as_aux_lemma => kernel_rfl) (by as_aux_lemma => kernel_rfl) (fun _ _ _ _ h => h) S27 ?_
        simp only [Act.put, List.setIfInBounds_toArray, List.set_cons_zero, List.set_cons_succ]
        refine drawn_skipG 42 100 (.pick (.tmp 95) (.const (.bool true)) (.tmp 99)) (some (34, true)) (by kernel_rfl) rfl (by as_aux_lemma => kernel_rfl) (by as_aux_lemma => kernel_rfl) (by as_aux_lemma => kernel_rfl) (fun _ _ _ _ h => h) S27 ?_
        simp only [Act.put, List.setIfInBounds_toArray, List.set_cons_zero, List.set_cons_succ]
        refine drawn_freeG 43 101 (v := ?v43_25) (.pick (.tmp 92) (.tmp 100) (.const (.bool false))) (some (31, false)) (by kernel_rfl) rfl ?hy43_25 (by as_aux_lemma => kernel_rfl) (by as_aux_lemma => kernel_rfl) (by as_aux_lemma => kernel_rfl) (fun _ _ _ _ h => h) S27 ?hr43_25
        case hy43_25 => (intro o ho w' hS; unfold execOp; simp only [ho]; go_simp; try with_reducible rfl)
        simp only [Act.put, List.setIfInBounds_toArray, List.set_cons_zero, List.set_cons_succ]
        refine drawn_freeG 44 102 (v := ?v44_26) (.pick (.tmp 89) (.const (.bool true)) (.tmp 101)) none (by kernel_rfl) rfl ?hy44_26 (by as_aux_lemma => kernel_rfl) (by as_aux_lemma => kernel_rfl) (by as_aux_lemma => kernel_rfl) (fun _ _ _ _ h => h) S27 ?hr44_26
        case hy44_26 => (intro o ho w' hS; unfold execOp; simp only [ho]; go_simp; try with_reducible rfl)
        simp only [Act.put, List.setIfInBounds_toArray, List.set_cons_zero, List.set_cons_succ]
        refine wpAnyH_done (by kernel_rfl) ?_ _
        go_step
        go_step
        go_meet
        case rel => exact ⟨rfl, S27⟩
    · by_cases hneg : N < 0
      · have hneg' : ¬ 0 ≤ N := by omega
        as_aux_lemma =>
          refine wp_region_held_drew (S := fun w' => Ext w10 w') (by kernel_rfl) (Ext.refl _).drew (fun hS0 => ?_)
          change wpAnyH _ _ _ _ _ 45 #[false, false, false, false, false, false, false, false, false, false, false, false, false, false, false, false, false, false, false, false, false, false, false, false, false, false, false, false, false, false, false, false, false, false, false, false, false, false, false, false, false, false, false, false, false] _ _
          refine drawn_loadG 0 58 24 (.tmp 14) none (w8.heap.size) 24 #[.bool b8, .slice A8 n8 c8] (0, 0) _ (by kernel_rfl) rfl rfl (fun w' hS => (HBg.out.ext hy10.out).ext hS) Try.underlying24 rfl info_int_s (by as_aux_lemma => kernel_rfl) (by as_aux_lemma => kernel_rfl) (by as_aux_lemma => kernel_rfl) (fun _ _ _ _ h => h) hS0 ?_
          simp only [Act.put, List.setIfInBounds_toArray, List.set_cons_zero, List.set_cons_succ]
          refine drawn_loadG 1 59 30 (.tmp 7) none (g7) 30 #[.bool bu, .slice Pu lu ku] (0, 0) _ (by kernel_rfl) rfl rfl (fun w' hS => (HBu.out.ext ((((((hy4.out.trans hy5.out).trans hy6.out).trans hy7.out).trans hy8.out).trans hy9.out).trans hy10.out)).ext hS) Try.underlying30 rfl info_z_s (by as_aux_lemma => kernel_rfl) (by as_aux_lemma => kernel_rfl) (by as_aux_lemma => kernel_rfl) (fun _ _ _ _ h => h) hS0 ?_
          simp only [Act.put, List.setIfInBounds_toArray, List.set_cons_zero, List.set_cons_succ]
          refine drawn_loadG 2 60 30 (.tmp 8) none (g8) 30 #[.bool bv, .slice Pv lv kv] (0, 0) _ (by kernel_rfl) rfl rfl (fun w' hS => (HBv.out.ext ((((((hy4.out.trans hy5.out).trans hy6.out).trans hy7.out).trans hy8.out).trans hy9.out).trans hy10.out)).ext hS) Try.underlying30 rfl info_z_s (by as_aux_lemma => kernel_rfl) (by as_aux_lemma => kernel_rfl) (by as_aux_lemma => kernel_rfl) (fun _ _ _ _ h => h) hS0 ?_
          simp only [Act.put, List.setIfInBounds_toArray, List.set_cons_zero, List.set_cons_succ]
          refine wpAnyH_ready (rs := [3]) (by kernel_rfl) (by simp) ?_
          refine drawn_callG2 3 (some 61) (.tmp 59) (.tmp 60) (ts := #[30, 30]) none (by kernel_rfl) rfl (enters_of Try.func15 (by kernel_rfl) rfl) rfl rfl (zgcd_v (((HOu.out.ext ((((((hy4.out.trans hy5.out).trans hy6.out).trans hy7.out).trans hy8.out).trans hy9.out).trans hy10.out))).ext hS0) (((HOv.out.ext ((((((hy4.out.trans hy5.out).trans hy6.out).trans hy7.out).trans hy8.out).trans hy9.out).trans hy10.out))).ext hS0) (by omega)) (fun E v3 hh => ?_) drawn_nil
          obtain ⟨b3, A3, n3, c3, rfl, o3, hx3⟩ := hh
          refine ⟨_, rfl, hS0.trans hx3, ?_⟩
          simp only [Act.put, List.setIfInBounds_toArray, List.set_cons_zero, List.set_cons_succ]
          have S3 := hS0.trans hx3
          refine wpAnyH_ready (rs := [4]) (by kernel_rfl) (by simp) ?_
          refine drawn_callG1 4 (some 62) (.tmp 61) (ts := #[30]) none (by kernel_rfl) rfl (enters_of Try.func16 (by kernel_rfl) rfl) rfl (zint_v o3 (by omega)) (fun E v4 hh => ?_) drawn_nil
          obtain ⟨b4, A4, n4, c4, rfl, o4, hx4⟩ := hh
          refine ⟨_, rfl, S3.trans hx4, ?_⟩
          simp only [Act.put, List.setIfInBounds_toArray, List.set_cons_zero, List.set_cons_succ]
          have S4 := S3.trans hx4
          refine wpAnyH_ready (rs := [5]) (by kernel_rfl) (by simp) ?_
          refine drawn_callG2 5 (some 63) (.tmp 58) (.tmp 62) (ts := #[24, 24]) none (by kernel_rfl) rfl (enters_of Try.func14 (by kernel_rfl) rfl) rfl rfl (zsame_v (((O8.out.ext (hy9.out.trans hy10.out))).ext S4) o4 (by omega) rfl) (fun E v5 hh => ?_) drawn_nil
          obtain ⟨rfl, hx5⟩ := hh
          refine ⟨_, rfl, S4.trans hx5, ?_⟩
          simp only [Act.put, List.setIfInBounds_toArray, List.set_cons_zero, List.set_cons_succ]
          have S5 := S4.trans hx5
          refine drawn_freeG 6 64 (v := ?v6_27) (.unOp .not 4 (.tmp 63)) none (by kernel_rfl) rfl ?hy6_27 (by as_aux_lemma => kernel_rfl) (by as_aux_lemma => kernel_rfl) (by as_aux_lemma => kernel_rfl) (fun _ _ _ _ h => h) S5 ?hr6_27
          case hy6_27 => (intro o ho w' hS; unfold execOp; simp only [ho]; go_simp; try with_reducible rfl)
          simp only [Act.put, List.setIfInBounds_toArray, List.set_cons_zero, List.set_cons_succ]
          refine drawn_freeG 7 65 (v := ?v7_28) (.move (.tmp 64)) none (by kernel_rfl) rfl ?hy7_28 (by as_aux_lemma => kernel_rfl) (by as_aux_lemma => kernel_rfl) (by as_aux_lemma => kernel_rfl) (fun _ _ _ _ h => h) S5 ?hr7_28
          case hy7_28 => (intro o ho w' hS; unfold execOp; simp only [ho]; go_simp; try with_reducible rfl)
          simp only [Act.put, List.setIfInBounds_toArray, List.set_cons_zero, List.set_cons_succ]
          refine drawn_freeG 8 66 (v := ?v8_29) (.move (.tmp 16)) (some (7, false)) (by kernel_rfl) rfl ?hy8_29 (by as_aux_lemma => kernel_rfl) (by as_aux_lemma => kernel_rfl) (by as_aux_lemma => kernel_rfl) (fun _ _ _ _ h => h) S5 ?hr8_29
          case hy8_29 => (intro o ho w' hS; unfold execOp; simp only [ho]; go_simp; try with_reducible rfl)
          simp only [Act.put, List.setIfInBounds_toArray, List.set_cons_zero, List.set_cons_succ]
          refine drawn_freeG 9 67 (v := ?v9_30) (.binOp .eql 32 (.tmp 66) (.const (.int .i64 0)) 32) (some (7, false)) (by kernel_rfl) rfl ?hy9_30 (by as_aux_lemma => kernel_rfl) (by as_aux_lemma => kernel_rfl) (by as_aux_lemma => kernel_rfl) (fun _ _ _ _ h => h) S5 ?hr9_30
          case hy9_30 => (intro o ho w' hS; unfold execOp; simp only [ho]; go_simp; try with_reducible rfl)
          simp only [Act.put, List.setIfInBounds_toArray, List.set_cons_zero, List.set_cons_succ]
          refine drawn_freeG 10 68 (v := ?v10_31) (.move (.tmp 2)) (some (7, false)) (by kernel_rfl) rfl ?hy10_31 (by as_aux_lemma => kernel_rfl) (by as_aux_lemma => kernel_rfl) (by as_aux_lemma => kernel_rfl) (fun _ _ _ _ h => h) S5 ?hr10_31
          case hy10_31 => (intro o ho w' hS; unfold execOp; simp only [ho]; go_simp; try with_reducible rfl)
          simp only [Act.put, List.setIfInBounds_toArray, List.set_cons_zero, List.set_cons_succ]
          refine drawn_freeG 11 69 (v := ?v11_32) (.binOp .geq 3 (.tmp 68) (.const (.int .i64 0)) 3) (some (7, false)) (by kernel_rfl) rfl ?hy11_32 (by as_aux_lemma => kernel_rfl) (by as_aux_lemma => kernel_rfl) (by as_aux_lemma => kernel_rfl) (fun _ _ _ _ h => h) S5 ?hr11_32
          case hy11_32 => (intro o ho w' hS; unfold execOp; simp only [ho]; go_simp; try with_reducible rfl)
          simp only [Act.put, List.setIfInBounds_toArray, List.set_cons_zero, List.set_cons_succ]
          refine drawn_freeG 12 70 (v := ?v12_33) (.move (.tmp 69)) (some (7, false)) (by kernel_rfl) rfl ?hy12_33 (by as_aux_lemma => kernel_rfl) (by as_aux_lemma => kernel_rfl) (by as_aux_lemma => kernel_rfl) (fun _ _ _ _ h => h) S5 ?hr12_33
          case hy12_33 => (intro o ho w' hS; unfold execOp; simp only [ho]; go_simp; try with_reducible rfl)
          simp only [Act.put, List.setIfInBounds_toArray, List.set_cons_zero, List.set_cons_succ]
          refine drawn_skipG 13 71 (.move (.tmp 2)) (some (12, true)) (by kernel_rfl) rfl (by as_aux_lemma => kernel_rfl) (by as_aux_lemma => kernel_rfl) (by as_aux_lemma => kernel_rfl) (fun _ _ _ _ h => h) S5 ?_
          simp only [Act.put, List.setIfInBounds_toArray, List.set_cons_zero, List.set_cons_succ]
          refine drawn_skipG 14 72 (.binOp .leq 3 (.tmp 71) (.const (.int .i64 1000)) 3) (some (12, true)) (by kernel_rfl) rfl (by as_aux_lemma => kernel_rfl) (by as_aux_lemma => kernel_rfl) (by as_aux_lemma => kernel_rfl) (fun _ _ _ _ h => h) S5 ?_
          simp only [Act.put, List.setIfInBounds_toArray, List.set_cons_zero, List.set_cons_succ]
          refine drawn_freeG 15 73 (v := ?v15_34) (.pick (.tmp 70) (.tmp 72) (.const (.bool false))) (some (7, false)) (by kernel_rfl) rfl ?hy15_34 (by as_aux_lemma => kernel_rfl) (by as_aux_lemma => kernel_rfl) (by as_aux_lemma => kernel_rfl) (fun _ _ _ _ h => h) S5 ?hr15_34
          case hy15_34 => (intro o ho w' hS; unfold execOp; simp only [ho]; go_simp; try with_reducible rfl)
          simp only [Act.put, List.setIfInBounds_toArray, List.set_cons_zero, List.set_cons_succ]
          refine drawn_freeG 16 74 (v := ?v16_35) (.binOp .neq 4 (.tmp 67) (.tmp 73) 4) (some (7, false)) (by kernel_rfl) rfl ?hy16_35 (by as_aux_lemma => kernel_rfl) (by as_aux_lemma => kernel_rfl) (by as_aux_lemma => kernel_rfl) (fun _ _ _ _ h => h) S5 ?hr16_35
          case hy16_35 => (intro o ho w' hS; unfold execOp; simp only [ho]; go_simp; try with_reducible rfl)
          simp only [Act.put, List.setIfInBounds_toArray, List.set_cons_zero, List.set_cons_succ]
          refine drawn_freeG 17 75 (v := ?v17_36) (.pick (.tmp 65) (.const (.bool true)) (.tmp 74)) none (by kernel_rfl) rfl ?hy17_36 (by as_aux_lemma => kernel_rfl) (by as_aux_lemma => kernel_rfl) (by as_aux_lemma => kernel_rfl) (fun _ _ _ _ h => h) S5 ?hr17_36
          case hy17_36 => (intro o ho w' hS; unfold execOp; simp only [ho]; go_simp; try with_reducible rfl)
          simp only [Act.put, List.setIfInBounds_toArray, List.set_cons_zero, List.set_cons_succ]
          refine drawn_freeG 18 76 (v := ?v18_37) (.move (.tmp 75)) none (by kernel_rfl) rfl ?hy18_37 (by as_aux_lemma => kernel_rfl) (by as_aux_lemma => kernel_rfl) (by as_aux_lemma => kernel_rfl) (fun _ _ _ _ h => h) S5 ?hr18_37
          case hy18_37 => (intro o ho w' hS; unfold execOp; simp only [ho]; go_simp; try with_reducible rfl)
          simp only [Act.put, List.setIfInBounds_toArray, List.set_cons_zero, List.set_cons_succ]
          refine drawn_freeG 19 77 (v := ?v19_38) (.move (.tmp 16)) (some (18, false)) (by kernel_rfl) rfl ?hy19_38 (by as_aux_lemma => kernel_rfl) (by as_aux_lemma => kernel_rfl) (by as_aux_lemma => kernel_rfl) (fun _ _ _ _ h => h) S5 ?hr19_38
          case hy19_38 => (intro o ho w' hS; unfold execOp; simp only [ho]; go_simp; try with_reducible rfl)
          simp only [Act.put, List.setIfInBounds_toArray, List.set_cons_zero, List.set_cons_succ]
          refine drawn_freeG 20 78 (v := ?v20_39) (.binOp .eql 32 (.tmp 77) (.const (.int .i64 0)) 32) (some (18, false)) (by kernel_rfl) rfl ?hy20_39 (by as_aux_lemma => kernel_rfl) (by as_aux_lemma => kernel_rfl) (by as_aux_lemma => kernel_rfl) (fun _ _ _ _ h => h) S5 ?hr20_39
          case hy20_39 => (intro o ho w' hS; unfold execOp; simp only [ho]; go_simp; try with_reducible rfl)
          simp only [Act.put, List.setIfInBounds_toArray, List.set_cons_zero, List.set_cons_succ]
          refine drawn_freeG 21 79 (v := ?v21_40) (.move (.tmp 78)) (some (18, false)) (by kernel_rfl) rfl ?hy21_40 (by as_aux_lemma => kernel_rfl) (by as_aux_lemma => kernel_rfl) (by as_aux_lemma => kernel_rfl) (fun _ _ _ _ h => h) S5 ?hr21_40
          case hy21_40 => (intro o ho w' hS; unfold execOp; simp only [ho]; go_simp; try with_reducible rfl)
          simp only [Act.put, List.setIfInBounds_toArray, List.set_cons_zero, List.set_cons_succ]
          refine drawn_skipG 22 80 (.load 24 (.tmp 15)) (some (21, true)) (by kernel_rfl) rfl (by as_aux_lemma => kernel_rfl) (by as_aux_lemma => kernel_rfl) (by as_aux_lemma => kernel_rfl) (fun _ _ _ _ h => h) S5 ?_
          simp only [Act.put, List.setIfInBounds_toArray, List.set_cons_zero, List.set_cons_succ]
          refine drawn_skipG 23 81 (.load 30 (.tmp 7)) (some (21, true)) (by kernel_rfl) rfl (by as_aux_lemma => kernel_rfl) (by as_aux_lemma => kernel_rfl) (by as_aux_lemma => kernel_rfl) (fun _ _ _ _ h => h) S5 ?_
          simp only [Act.put, List.setIfInBounds_toArray, List.set_cons_zero, List.set_cons_succ]
          refine drawn_skipG 24 82 (.move (.tmp 2)) (some (21, true)) (by kernel_rfl) rfl (by as_aux_lemma => kernel_rfl) (by as_aux_lemma => kernel_rfl) (by as_aux_lemma => kernel_rfl) (fun _ _ _ _ h => h) S5 ?_
          simp only [Act.put, List.setIfInBounds_toArray, List.set_cons_zero, List.set_cons_succ]
          refine drawn_skipG 25 83 (.call { callee := .value (Operand.func 17), args := #[.tmp 81, .tmp 82], argTypes := #[30, 3] }) (some (21, true)) (by kernel_rfl) rfl (by as_aux_lemma => kernel_rfl) (by as_aux_lemma => kernel_rfl) (by as_aux_lemma => kernel_rfl) (fun _ _ _ _ h => h) S5 ?_
          simp only [Act.put, List.setIfInBounds_toArray, List.set_cons_zero, List.set_cons_succ]
          refine drawn_skipG 26 84 (.call { callee := .value (Operand.func 16), args := #[.tmp 83], argTypes := #[30] }) (some (21, true)) (by kernel_rfl) rfl (by as_aux_lemma => kernel_rfl) (by as_aux_lemma => kernel_rfl) (by as_aux_lemma => kernel_rfl) (fun _ _ _ _ h => h) S5 ?_
          simp only [Act.put, List.setIfInBounds_toArray, List.set_cons_zero, List.set_cons_succ]
          refine drawn_skipG 27 85 (.call { callee := .value (Operand.func 14), args := #[.tmp 80, .tmp 84], argTypes := #[24, 24] }) (some (21, true)) (by kernel_rfl) rfl (by as_aux_lemma => kernel_rfl) (by as_aux_lemma => kernel_rfl) (by as_aux_lemma => kernel_rfl) (fun _ _ _ _ h => h) S5 ?_
          simp only [Act.put, List.setIfInBounds_toArray, List.set_cons_zero, List.set_cons_succ]
          refine drawn_skipG 28 86 (.unOp .not 4 (.tmp 85)) (some (21, true)) (by kernel_rfl) rfl (by as_aux_lemma => kernel_rfl) (by as_aux_lemma => kernel_rfl) (by as_aux_lemma => kernel_rfl) (fun _ _ _ _ h => h) S5 ?_
          simp only [Act.put, List.setIfInBounds_toArray, List.set_cons_zero, List.set_cons_succ]
          refine drawn_freeG 29 87 (v := ?v29_41) (.pick (.tmp 79) (.tmp 86) (.const (.bool false))) (some (18, false)) (by kernel_rfl) rfl ?hy29_41 (by as_aux_lemma => kernel_rfl) (by as_aux_lemma => kernel_rfl) (by as_aux_lemma => kernel_rfl) (fun _ _ _ _ h => h) S5 ?hr29_41
          case hy29_41 => (intro o ho w' hS; unfold execOp; simp only [ho]; go_simp; try with_reducible rfl)
          simp only [Act.put, List.setIfInBounds_toArray, List.set_cons_zero, List.set_cons_succ]
          refine drawn_freeG 30 88 (v := ?v30_42) (.pick (.tmp 76) (.const (.bool true)) (.tmp 87)) none (by kernel_rfl) rfl ?hy30_42 (by as_aux_lemma => kernel_rfl) (by as_aux_lemma => kernel_rfl) (by as_aux_lemma => kernel_rfl) (fun _ _ _ _ h => h) S5 ?hr30_42
          case hy30_42 => (intro o ho w' hS; unfold execOp; simp only [ho]; go_simp; try with_reducible rfl)
          simp only [Act.put, List.setIfInBounds_toArray, List.set_cons_zero, List.set_cons_succ]
          refine drawn_freeG 31 89 (v := ?v31_43) (.move (.tmp 88)) none (by kernel_rfl) rfl ?hy31_43 (by as_aux_lemma => kernel_rfl) (by as_aux_lemma => kernel_rfl) (by as_aux_lemma => kernel_rfl) (fun _ _ _ _ h => h) S5 ?hr31_43
          case hy31_43 => (intro o ho w' hS; unfold execOp; simp only [ho]; go_simp; try with_reducible rfl)
          simp only [Act.put, List.setIfInBounds_toArray, List.set_cons_zero, List.set_cons_succ]
          refine drawn_freeG 32 90 (v := ?v32_44) (.move (.tmp 16)) (some (31, false)) (by kernel_rfl) rfl ?hy32_44 (by as_aux_lemma => kernel_rfl) (by as_aux_lemma => kernel_rfl) (by as_aux_lemma => kernel_rfl) (fun _ _ _ _ h => h) S5 ?hr32_44
          case hy32_44 => (intro o ho w' hS; unfold execOp; simp only [ho]; go_simp; try with_reducible rfl)
          simp only [Act.put, List.setIfInBounds_toArray, List.set_cons_zero, List.set_cons_succ]
          refine drawn_freeG 33 91 (v := ?v33_45) (.binOp .neq 32 (.tmp 90) (.const (.int .i64 0)) 32) (some (31, false)) (by kernel_rfl) rfl ?hy33_45 (by as_aux_lemma => kernel_rfl) (by as_aux_lemma => kernel_rfl) (by as_aux_lemma => kernel_rfl) (fun _ _ _ _ h => h) S5 ?hr33_45
          case hy33_45 => (intro o ho w' hS; unfold execOp; simp only [ho]; go_simp; try with_reducible rfl)
          simp only [Act.put, List.setIfInBounds_toArray, List.set_cons_zero, List.set_cons_succ]
          refine drawn_freeG 34 92 (v := ?v34_46) (.move (.tmp 91)) (some (31, false)) (by kernel_rfl) rfl ?hy34_46 (by as_aux_lemma => kernel_rfl) (by as_aux_lemma => kernel_rfl) (by as_aux_lemma => kernel_rfl) (fun _ _ _ _ h => h) S5 ?hr34_46
          case hy34_46 => (intro o ho w' hS; unfold execOp; simp only [ho]; go_simp; try with_reducible rfl)
          simp only [Act.put, List.setIfInBounds_toArray, List.set_cons_zero, List.set_cons_succ]
          refine drawn_freeG 35 93 (v := ?v35_47) (.move (.tmp 16)) (some (34, true)) (by kernel_rfl) rfl ?hy35_47 (by as_aux_lemma => kernel_rfl) (by as_aux_lemma => kernel_rfl) (by as_aux_lemma => kernel_rfl) (fun _ _ _ _ h => h) S5 ?hr35_47
          case hy35_47 => (intro o ho w' hS; unfold execOp; simp only [ho]; go_simp; try with_reducible rfl)
          simp only [Act.put, List.setIfInBounds_toArray, List.set_cons_zero, List.set_cons_succ]
          refine drawn_freeG 36 94 (v := ?v36_48) (.binOp .neq 32 (.tmp 93) (.const (.int .i64 2)) 32) (some (34, true)) (by kernel_rfl) rfl ?hy36_48 (by as_aux_lemma => kernel_rfl) (by as_aux_lemma => kernel_rfl) (by as_aux_lemma => kernel_rfl) (fun _ _ _ _ h => h) S5 ?hr36_48
          case hy36_48 => (intro o ho w' hS; unfold execOp; simp only [ho]; go_simp; try with_reducible rfl)
          simp only [Act.put, List.setIfInBounds_toArray, List.set_cons_zero, List.set_cons_succ]
          refine drawn_freeG 37 95 (v := ?v37_49) (.move (.tmp 94)) (some (34, true)) (by kernel_rfl) rfl ?hy37_49 (by as_aux_lemma => kernel_rfl) (by as_aux_lemma => kernel_rfl) (by as_aux_lemma => kernel_rfl) (fun _ _ _ _ h => h) S5 ?hr37_49
          case hy37_49 => (intro o ho w' hS; unfold execOp; simp only [ho]; go_simp; try with_reducible rfl)
          simp only [Act.put, List.setIfInBounds_toArray, List.set_cons_zero, List.set_cons_succ]
          refine drawn_freeG 38 96 (v := ?v38_50) (.fieldAddr 24 (.tmp 15) 1) (some (37, false)) (by kernel_rfl) rfl ?hy38_50 (by as_aux_lemma => kernel_rfl) (by as_aux_lemma => kernel_rfl) (by as_aux_lemma => kernel_rfl) (fun _ _ _ _ h => h) S5 ?hr38_50
          case hy38_50 => (intro o ho w' hS; unfold execOp; simp only [ho]; go_simp; try with_reducible rfl)
          simp only [Act.put, List.setIfInBounds_toArray, List.set_cons_zero, List.set_cons_succ]
          refine drawn_freeG 39 97 (v := ?v39_51) (.load 22 (.tmp 96)) (some (37, false)) (by kernel_rfl) rfl ?hy39_51 (by as_aux_lemma => kernel_rfl) (by as_aux_lemma => kernel_rfl) (by as_aux_lemma => kernel_rfl) (fun _ _ _ _ h => h) S5 ?hr39_51
          case hy39_51 => (intro o ho w' hS; have h0 := (HBw.out.ext hS).c1; unfold execOp; simp only [ho]; go_simp; try with_reducible rfl)
          simp only [Act.put, List.setIfInBounds_toArray, List.set_cons_zero, List.set_cons_succ]
          refine drawn_freeG 40 98 (v := ?v40_52) (.call { callee := .builtin .len, args := #[.tmp 97], argTypes := #[22] }) (some (37, false)) (by kernel_rfl) rfl ?hy40_52 (by as_aux_lemma => kernel_rfl) (by as_aux_lemma => kernel_rfl) (by as_aux_lemma => kernel_rfl) (fun _ _ _ _ h => h) S5 ?hr40_52
          case hy40_52 => (intro o ho w' hS; unfold execOp; simp only [ho]; go_simp; try with_reducible rfl)
          simp only [Act.put, List.setIfInBounds_toArray, List.set_cons_zero, List.set_cons_succ]
          refine drawn_freeG 41 99 (v := ?v41_53) (.binOp .gtr 3 (.tmp 98) (.const (.int .i64 0)) 3) (some (37, false)) (by kernel_rfl) rfl ?hy41_53 (by as_aux_lemma => kernel_rfl) (by as_aux_lemma => kernel_rfl) (by as_aux_lemma => kernel_rfl) (fun _ _ _ _ h => h) S5 ?hr41_53
          case hy41_53 => (intro o ho w' hS; unfold execOp; simp only [ho]; go_simp; try with_reducible rfl)
          simp only [Act.put, List.setIfInBounds_toArray, List.set_cons_zero, List.set_cons_succ]
          refine drawn_freeG 42 100 (v := ?v42_54) (.pick (.tmp 95) (.const (.bool true)) (.tmp 99)) (some (34, true)) (by kernel_rfl) rfl ?hy42_54 (by as_aux_lemma => kernel_rfl) (by as_aux_lemma => kernel_rfl) (by as_aux_lemma => kernel_rfl) (fun _ _ _ _ h => h) S5 ?hr42_54
          case hy42_54 => (intro o ho w' hS; unfold execOp; simp only [ho]; go_simp; try with_reducible rfl)
          simp only [Act.put, List.setIfInBounds_toArray, List.set_cons_zero, List.set_cons_succ]
          refine drawn_freeG 43 101 (v := ?v43_55) (.pick (.tmp 92) (.tmp 100) (.const (.bool false))) (some (31, false)) (by kernel_rfl) rfl ?hy43_55 (by as_aux_lemma => kernel_rfl) (by as_aux_lemma => kernel_rfl) (by as_aux_lemma => kernel_rfl) (fun _ _ _ _ h => h) S5 ?hr43_55
          case hy43_55 => (intro o ho w' hS; unfold execOp; simp only [ho]; go_simp; try with_reducible rfl)
          simp only [Act.put, List.setIfInBounds_toArray, List.set_cons_zero, List.set_cons_succ]
          refine drawn_freeG 44 102 (v := ?v44_56) (.pick (.tmp 89) (.const (.bool true)) (.tmp 101)) none (by kernel_rfl) rfl ?hy44_56 (by as_aux_lemma => kernel_rfl) (by as_aux_lemma => kernel_rfl) (by as_aux_lemma => kernel_rfl) (fun _ _ _ _ h => h) S5 ?hr44_56
          case hy44_56 => (intro o ho w' hS; unfold execOp; simp only [ho]; go_simp; try with_reducible rfl)
          simp only [Act.put, List.setIfInBounds_toArray, List.set_cons_zero, List.set_cons_succ]
          refine wpAnyH_done (by kernel_rfl) ?_ _
          go_step
          go_step
          go_meet
          case rel => exact ⟨rfl, S5⟩
      · have hn0 : 0 ≤ N := by omega
        have hn1000 : ¬ N ≤ 1000 := by omega
        as_aux_lemma =>
          refine wp_region_held_drew (S := fun w' => Ext w10 w') (by kernel_rfl) (Ext.refl _).drew (fun hS0 => ?_)
          change wpAnyH _ _ _ _ _ 45 #[false, false, false, false, false, false, false, false, false, false, false, false, false, false, false, false, false, false, false, false, false, false, false, false, false, false, false, false, false, false, false, false, false, false, false, false, false, false, false, false, false, false, false, false, false] _ _
          refine drawn_loadG 0 58 24 (.tmp 14) none (w8.heap.size) 24 #[.bool b8, .slice A8 n8 c8] (0, 0) _ (by kernel_rfl) rfl rfl (fun w' hS => (HBg.out.ext hy10.out).ext hS) Try.underlying24 rfl info_int_s (by as_aux_lemma => kernel_rfl) (by as_aux_lemma => kernel_rfl) (by as_aux_lemma => kernel_rfl) (fun _ _ _ _ h => h) hS0 ?_
          simp only [Act.put, List.setIfInBounds_toArray, List.set_cons_zero, List.set_cons_succ]
          refine drawn_loadG 1 59 30 (.tmp 7) none (g7) 30 #[.bool bu, .slice Pu lu ku] (0, 0) _ (by kernel_rfl) rfl rfl (fun w' hS => (HBu.out.ext ((((((hy4.out.trans hy5.out).trans hy6.out).trans hy7.out).trans hy8.out).trans hy9.out).trans hy10.out)).ext hS) Try.underlying30 rfl info_z_s (by as_aux_lemma => kernel_rfl) (by as_aux_lemma => kernel_rfl) (by as_aux_lemma => kernel_rfl) (fun _ _ _ _ h => h) hS0 ?_
          simp only [Act.put, List.setIfInBounds_toArray, List.set_cons_zero, List.set_cons_succ]
          refine drawn_loadG 2 60 30 (.tmp 8) none (g8) 30 #[.bool bv, .slice Pv lv kv] (0, 0) _ (by kernel_rfl) rfl rfl (fun w' hS => (HBv.out.ext ((((((hy4.out.trans hy5.out).trans hy6.out).trans hy7.out).trans hy8.out).trans hy9.out).trans hy10.out)).ext hS) Try.underlying30 rfl info_z_s (by as_aux_lemma => kernel_rfl) (by as_aux_lemma => kernel_rfl) (by as_aux_lemma => kernel_rfl) (fun _ _ _ _ h => h) hS0 ?_
          simp only [Act.put, List.setIfInBounds_toArray, List.set_cons_zero, List.set_cons_succ]
          refine wpAnyH_ready (rs := [3]) (by kernel_rfl) (by simp) ?_
          refine drawn_callG2 3 (some 61) (.tmp 59) (.tmp 60) (ts := #[30, 30]) none (by kernel_rfl) rfl (enters_of Try.func15 (by kernel_rfl) rfl) rfl rfl (zgcd_v (((HOu.out.ext ((((((hy4.out.trans hy5.out).trans hy6.out).trans hy7.out).trans hy8.out).trans hy9.out).trans hy10.out))).ext hS0) (((HOv.out.ext ((((((hy4.out.trans hy5.out).trans hy6.out).trans hy7.out).trans hy8.out).trans hy9.out).trans hy10.out))).ext hS0) (by omega)) (fun E v3 hh => ?_) drawn_nil
          obtain ⟨b3, A3, n3, c3, rfl, o3, hx3⟩ := hh
          refine ⟨_, rfl, hS0.trans hx3, ?_⟩
          simp only [Act.put, List.setIfInBounds_toArray, List.set_cons_zero, List.set_cons_succ]
          have S3 := hS0.trans hx3
          refine wpAnyH_ready (rs := [4]) (by kernel_rfl) (by simp) ?_
          refine drawn_callG1 4 (some 62) (.tmp 61) (ts := #[30]) none (by kernel_rfl) rfl (enters_of Try.func16 (by kernel_rfl) rfl) rfl (zint_v o3 (by omega)) (fun E v4 hh => ?_) drawn_nil
          obtain ⟨b4, A4, n4, c4, rfl, o4, hx4⟩ := hh
          refine ⟨_, rfl, S3.trans hx4, ?_⟩
          simp only [Act.put, List.setIfInBounds_toArray, List.set_cons_zero, List.set_cons_succ]
          have S4 := S3.trans hx4
          refine wpAnyH_ready (rs := [5]) (by kernel_rfl) (by simp) ?_
          refine drawn_callG2 5 (some 63) (.tmp 58) (.tmp 62) (ts := #[24, 24]) none (by kernel_rfl) rfl (enters_of Try.func14 (by kernel_rfl) rfl) rfl rfl (zsame_v (((O8.out.ext (hy9.out.trans hy10.out))).ext S4) o4 (by omega) rfl) (fun E v5 hh => ?_) drawn_nil
          obtain ⟨rfl, hx5⟩ := hh
          refine ⟨_, rfl, S4.trans hx5, ?_⟩
          simp only [Act.put, List.setIfInBounds_toArray, List.set_cons_zero, List.set_cons_succ]
          have S5 := S4.trans hx5
          refine drawn_freeG 6 64 (v := ?v6_57) (.unOp .not 4 (.tmp 63)) none (by kernel_rfl) rfl ?hy6_57 (by as_aux_lemma => kernel_rfl) (by as_aux_lemma => kernel_rfl) (by as_aux_lemma => kernel_rfl) (fun _ _ _ _ h => h) S5 ?hr6_57
          case hy6_57 => (intro o ho w' hS; unfold execOp; simp only [ho]; go_simp; try with_reducible rfl)
          simp only [Act.put, List.setIfInBounds_toArray, List.set_cons_zero, List.set_cons_succ]
          refine drawn_freeG 7 65 (v := ?v7_58) (.move (.tmp 64)) none (by kernel_rfl) rfl ?hy7_58 (by as_aux_lemma => kernel_rfl) (by as_aux_lemma => kernel_rfl) (by as_aux_lemma => kernel_rfl) (fun _ _ _ _ h => h) S5 ?hr7_58
          case hy7_58 => (intro o ho w' hS; unfold execOp; simp only [ho]; go_simp; try with_reducible rfl)
          simp only [Act.put, List.setIfInBounds_toArray, List.set_cons_zero, List.set_cons_succ]
          refine drawn_freeG 8 66 (v := ?v8_59) (.move (.tmp 16)) (some (7, false)) (by kernel_rfl) rfl ?hy8_59 (by as_aux_lemma => kernel_rfl) (by as_aux_lemma => kernel_rfl) (by as_aux_lemma => kernel_rfl) (fun _ _ _ _ h => h) S5 ?hr8_59
          case hy8_59 => (intro o ho w' hS; unfold execOp; simp only [ho]; go_simp; try with_reducible rfl)
          simp only [Act.put, List.setIfInBounds_toArray, List.set_cons_zero, List.set_cons_succ]
          refine drawn_freeG 9 67 (v := ?v9_60) (.binOp .eql 32 (.tmp 66) (.const (.int .i64 0)) 32) (some (7, false)) (by kernel_rfl) rfl ?hy9_60 (by as_aux_lemma => kernel_rfl) (by as_aux_lemma => kernel_rfl) (by as_aux_lemma => kernel_rfl) (fun _ _ _ _ h => h) S5 ?hr9_60
          case hy9_60 => (intro o ho w' hS; unfold execOp; simp only [ho]; go_simp; try with_reducible rfl)
          simp only [Act.put, List.setIfInBounds_toArray, List.set_cons_zero, List.set_cons_succ]
          refine drawn_freeG 10 68 (v := ?v10_61) (.move (.tmp 2)) (some (7, false)) (by kernel_rfl) rfl ?hy10_61 (by as_aux_lemma => kernel_rfl) (by as_aux_lemma => kernel_rfl) (by as_aux_lemma => kernel_rfl) (fun _ _ _ _ h => h) S5 ?hr10_61
          case hy10_61 => (intro o ho w' hS; unfold execOp; simp only [ho]; go_simp; try with_reducible rfl)
          simp only [Act.put, List.setIfInBounds_toArray, List.set_cons_zero, List.set_cons_succ]
          refine drawn_freeG 11 69 (v := ?v11_62) (.binOp .geq 3 (.tmp 68) (.const (.int .i64 0)) 3) (some (7, false)) (by kernel_rfl) rfl ?hy11_62 (by as_aux_lemma => kernel_rfl) (by as_aux_lemma => kernel_rfl) (by as_aux_lemma => kernel_rfl) (fun _ _ _ _ h => h) S5 ?hr11_62
          case hy11_62 => (intro o ho w' hS; unfold execOp; simp only [ho]; go_simp; try with_reducible rfl)
          simp only [Act.put, List.setIfInBounds_toArray, List.set_cons_zero, List.set_cons_succ]
          refine drawn_freeG 12 70 (v := ?v12_63) (.move (.tmp 69)) (some (7, false)) (by kernel_rfl) rfl ?hy12_63 (by as_aux_lemma => kernel_rfl) (by as_aux_lemma => kernel_rfl) (by as_aux_lemma => kernel_rfl) (fun _ _ _ _ h => h) S5 ?hr12_63
          case hy12_63 => (intro o ho w' hS; unfold execOp; simp only [ho]; go_simp; try with_reducible rfl)
          simp only [Act.put, List.setIfInBounds_toArray, List.set_cons_zero, List.set_cons_succ]
          refine drawn_freeG 13 71 (v := ?v13_64) (.move (.tmp 2)) (some (12, true)) (by kernel_rfl) rfl ?hy13_64 (by as_aux_lemma => kernel_rfl) (by as_aux_lemma => kernel_rfl) (by as_aux_lemma => kernel_rfl) (fun _ _ _ _ h => h) S5 ?hr13_64
          case hy13_64 => (intro o ho w' hS; unfold execOp; simp only [ho]; go_simp; try with_reducible rfl)
          simp only [Act.put, List.setIfInBounds_toArray, List.set_cons_zero, List.set_cons_succ]
          refine drawn_freeG 14 72 (v := ?v14_65) (.binOp .leq 3 (.tmp 71) (.const (.int .i64 1000)) 3) (some (12, true)) (by kernel_rfl) rfl ?hy14_65 (by as_aux_lemma => kernel_rfl) (by as_aux_lemma => kernel_rfl) (by as_aux_lemma => kernel_rfl) (fun _ _ _ _ h => h) S5 ?hr14_65
          case hy14_65 => (intro o ho w' hS; unfold execOp; simp only [ho]; go_simp; try with_reducible rfl)
          simp only [Act.put, List.setIfInBounds_toArray, List.set_cons_zero, List.set_cons_succ]
          refine drawn_freeG 15 73 (v := ?v15_66) (.pick (.tmp 70) (.tmp 72) (.const (.bool false))) (some (7, false)) (by kernel_rfl) rfl ?hy15_66 (by as_aux_lemma => kernel_rfl) (by as_aux_lemma => kernel_rfl) (by as_aux_lemma => kernel_rfl) (fun _ _ _ _ h => h) S5 ?hr15_66
          case hy15_66 => (intro o ho w' hS; unfold execOp; simp only [ho]; go_simp; try with_reducible rfl)
          simp only [Act.put, List.setIfInBounds_toArray, List.set_cons_zero, List.set_cons_succ]
          refine drawn_freeG 16 74 (v := ?v16_67) (.binOp .neq 4 (.tmp 67) (.tmp 73) 4) (some (7, false)) (by kernel_rfl) rfl ?hy16_67 (by as_aux_lemma => kernel_rfl) (by as_aux_lemma => kernel_rfl) (by as_aux_lemma => kernel_rfl) (fun _ _ _ _ h => h) S5 ?hr16_67
          case hy16_67 => (intro o ho w' hS; unfold execOp; simp only [ho]; go_simp; try with_reducible rfl)
          simp only [Act.put, List.setIfInBounds_toArray, List.set_cons_zero, List.set_cons_succ]
          refine drawn_freeG 17 75 (v := ?v17_68) (.pick (.tmp 65) (.const (.bool true)) (.tmp 74)) none (by kernel_rfl) rfl ?hy17_68 (by as_aux_lemma => kernel_rfl) (by as_aux_lemma => kernel_rfl) (by as_aux_lemma => kernel_rfl) (fun _ _ _ _ h => h) S5 ?hr17_68
          case hy17_68 => (intro o ho w' hS; unfold execOp; simp only [ho]; go_simp; try with_reducible rfl)
          simp only [Act.put, List.setIfInBounds_toArray, List.set_cons_zero, List.set_cons_succ]
          refine drawn_freeG 18 76 (v := ?v18_69) (.move (.tmp 75)) none (by kernel_rfl) rfl ?hy18_69 (by as_aux_lemma => kernel_rfl) (by as_aux_lemma => kernel_rfl) (by as_aux_lemma => kernel_rfl) (fun _ _ _ _ h => h) S5 ?hr18_69
          case hy18_69 => (intro o ho w' hS; unfold execOp; simp only [ho]; go_simp; try with_reducible rfl)
          simp only [Act.put, List.setIfInBounds_toArray, List.set_cons_zero, List.set_cons_succ]
          refine drawn_freeG 19 77 (v := ?v19_70) (.move (.tmp 16)) (some (18, false)) (by kernel_rfl) rfl ?hy19_70 (by as_aux_lemma => kernel_rfl) (by as_aux_lemma => kernel_rfl) (by as_aux_lemma => kernel_rfl) (fun _ _ _ _ h => h) S5 ?hr19_70
          case hy19_70 => (intro o ho w' hS; unfold execOp; simp only [ho]; go_simp; try with_reducible rfl)
          simp only [Act.put, List.setIfInBounds_toArray, List.set_cons_zero, List.set_cons_succ]
          refine drawn_freeG 20 78 (v := ?v20_71) (.binOp .eql 32 (.tmp 77) (.const (.int .i64 0)) 32) (some (18, false)) (by kernel_rfl) rfl ?hy20_71 (by as_aux_lemma => kernel_rfl) (by as_aux_lemma => kernel_rfl) (by as_aux_lemma => kernel_rfl) (fun _ _ _ _ h => h) S5 ?hr20_71
          case hy20_71 => (intro o ho w' hS; unfold execOp; simp only [ho]; go_simp; try with_reducible rfl)
          simp only [Act.put, List.setIfInBounds_toArray, List.set_cons_zero, List.set_cons_succ]
          refine drawn_freeG 21 79 (v := ?v21_72) (.move (.tmp 78)) (some (18, false)) (by kernel_rfl) rfl ?hy21_72 (by as_aux_lemma => kernel_rfl) (by as_aux_lemma => kernel_rfl) (by as_aux_lemma => kernel_rfl) (fun _ _ _ _ h => h) S5 ?hr21_72
          case hy21_72 => (intro o ho w' hS; unfold execOp; simp only [ho]; go_simp; try with_reducible rfl)
          simp only [Act.put, List.setIfInBounds_toArray, List.set_cons_zero, List.set_cons_succ]
          refine drawn_skipG 22 80 (.load 24 (.tmp 15)) (some (21, true)) (by kernel_rfl) rfl (by as_aux_lemma => kernel_rfl) (by as_aux_lemma => kernel_rfl) (by as_aux_lemma => kernel_rfl) (fun _ _ _ _ h => h) S5 ?_
          simp only [Act.put, List.setIfInBounds_toArray, List.set_cons_zero, List.set_cons_succ]
          refine drawn_skipG 23 81 (.load 30 (.tmp 7)) (some (21, true)) (by kernel_rfl) rfl (by as_aux_lemma => kernel_rfl) (by as_aux_lemma => kernel_rfl) (by as_aux_lemma => kernel_rfl) (fun _ _ _ _ h => h) S5 ?_
          simp only [Act.put, List.setIfInBounds_toArray, List.set_cons_zero, List.set_cons_succ]
          refine drawn_skipG 24 82 (.move (.tmp 2)) (some (21, true)) (by kernel_rfl) rfl (by as_aux_lemma => kernel_rfl) (by as_aux_lemma => kernel_rfl) (by as_aux_lemma => kernel_rfl) (fun _ _ _ _ h => h) S5 ?_
          simp only [Act.put, List.setIfInBounds_toArray, List.set_cons_zero, List.set_cons_succ]
          refine drawn_skipG 25 83 (.call { callee := .value (Operand.func 17), args := #[.tmp 81, .tmp 82], argTypes := #[30, 3] }) (some (21, true)) (by kernel_rfl) rfl (by as_aux_lemma => kernel_rfl) (by as_aux_lemma => kernel_rfl) (by as_aux_lemma => kernel_rfl) (fun _ _ _ _ h => h) S5 ?_
          simp only [Act.put, List.setIfInBounds_toArray, List.set_cons_zero, List.set_cons_succ]
          refine drawn_skipG 26 84 (.call { callee := .value (Operand.func 16), args := #[.tmp 83], argTypes := #[30] }) (some (21, true)) (by kernel_rfl) rfl (by as_aux_lemma => kernel_rfl) (by as_aux_lemma => kernel_rfl) (by as_aux_lemma => kernel_rfl) (fun _ _ _ _ h => h) S5 ?_
          simp only [Act.put, List.setIfInBounds_toArray, List.set_cons_zero, List.set_cons_succ]
          refine drawn_skipG 27 85 (.call { callee := .value (Operand.func 14), args := #[.tmp 80, .tmp 84], argTypes := #[24, 24] }) (some (21, true)) (by kernel_rfl) rfl (by as_aux_lemma => kernel_rfl) (by as_aux_lemma => kernel_rfl) (by as_aux_lemma => kernel_rfl) (fun _ _ _ _ h => h) S5 ?_
          simp only [Act.put, List.setIfInBounds_toArray, List.set_cons_zero, List.set_cons_succ]
          refine drawn_skipG 28 86 (.unOp .not 4 (.tmp 85)) (some (21, true)) (by kernel_rfl) rfl (by as_aux_lemma => kernel_rfl) (by as_aux_lemma => kernel_rfl) (by as_aux_lemma => kernel_rfl) (fun _ _ _ _ h => h) S5 ?_
          simp only [Act.put, List.setIfInBounds_toArray, List.set_cons_zero, List.set_cons_succ]
          refine drawn_freeG 29 87 (v := ?v29_73) (.pick (.tmp 79) (.tmp 86) (.const (.bool false))) (some (18, false)) (by kernel_rfl) rfl ?hy29_73 (by as_aux_lemma => kernel_rfl) (by as_aux_lemma => kernel_rfl) (by as_aux_lemma => kernel_rfl) (fun _ _ _ _ h => h) S5 ?hr29_73
          case hy29_73 => (intro o ho w' hS; unfold execOp; simp only [ho]; go_simp; try with_reducible rfl)
          simp only [Act.put, List.setIfInBounds_toArray, List.set_cons_zero, List.set_cons_succ]
          refine drawn_freeG 30 88 (v := ?v30_74) (.pick (.tmp 76) (.const (.bool true)) (.tmp 87)) none (by kernel_rfl) rfl ?hy30_74 (by as_aux_lemma => kernel_rfl) (by as_aux_lemma => kernel_rfl) (by as_aux_lemma => kernel_rfl) (fun _ _ _ _ h => h) S5 ?hr30_74
          case hy30_74 => (intro o ho w' hS; unfold execOp; simp only [ho]; go_simp; try with_reducible rfl)
          simp only [Act.put, List.setIfInBounds_toArray, List.set_cons_zero, List.set_cons_succ]
          refine drawn_freeG 31 89 (v := ?v31_75) (.move (.tmp 88)) none (by kernel_rfl) rfl ?hy31_75 (by as_aux_lemma => kernel_rfl) (by as_aux_lemma => kernel_rfl) (by as_aux_lemma => kernel_rfl) (fun _ _ _ _ h => h) S5 ?hr31_75
          case hy31_75 => (intro o ho w' hS; unfold execOp; simp only [ho]; go_simp; try with_reducible rfl)
          simp only [Act.put, List.setIfInBounds_toArray, List.set_cons_zero, List.set_cons_succ]
          refine drawn_freeG 32 90 (v := ?v32_76) (.move (.tmp 16)) (some (31, false)) (by kernel_rfl) rfl ?hy32_76 (by as_aux_lemma => kernel_rfl) (by as_aux_lemma => kernel_rfl) (by as_aux_lemma => kernel_rfl) (fun _ _ _ _ h => h) S5 ?hr32_76
          case hy32_76 => (intro o ho w' hS; unfold execOp; simp only [ho]; go_simp; try with_reducible rfl)
          simp only [Act.put, List.setIfInBounds_toArray, List.set_cons_zero, List.set_cons_succ]
          refine drawn_freeG 33 91 (v := ?v33_77) (.binOp .neq 32 (.tmp 90) (.const (.int .i64 0)) 32) (some (31, false)) (by kernel_rfl) rfl ?hy33_77 (by as_aux_lemma => kernel_rfl) (by as_aux_lemma => kernel_rfl) (by as_aux_lemma => kernel_rfl) (fun _ _ _ _ h => h) S5 ?hr33_77
          case hy33_77 => (intro o ho w' hS; unfold execOp; simp only [ho]; go_simp; try with_reducible rfl)
          simp only [Act.put, List.setIfInBounds_toArray, List.set_cons_zero, List.set_cons_succ]
          refine drawn_freeG 34 92 (v := ?v34_78) (.move (.tmp 91)) (some (31, false)) (by kernel_rfl) rfl ?hy34_78 (by as_aux_lemma => kernel_rfl) (by as_aux_lemma => kernel_rfl) (by as_aux_lemma => kernel_rfl) (fun _ _ _ _ h => h) S5 ?hr34_78
          case hy34_78 => (intro o ho w' hS; unfold execOp; simp only [ho]; go_simp; try with_reducible rfl)
          simp only [Act.put, List.setIfInBounds_toArray, List.set_cons_zero, List.set_cons_succ]
          refine drawn_freeG 35 93 (v := ?v35_79) (.move (.tmp 16)) (some (34, true)) (by kernel_rfl) rfl ?hy35_79 (by as_aux_lemma => kernel_rfl) (by as_aux_lemma => kernel_rfl) (by as_aux_lemma => kernel_rfl) (fun _ _ _ _ h => h) S5 ?hr35_79
          case hy35_79 => (intro o ho w' hS; unfold execOp; simp only [ho]; go_simp; try with_reducible rfl)
          simp only [Act.put, List.setIfInBounds_toArray, List.set_cons_zero, List.set_cons_succ]
          refine drawn_freeG 36 94 (v := ?v36_80) (.binOp .neq 32 (.tmp 93) (.const (.int .i64 2)) 32) (some (34, true)) (by kernel_rfl) rfl ?hy36_80 (by as_aux_lemma => kernel_rfl) (by as_aux_lemma => kernel_rfl) (by as_aux_lemma => kernel_rfl) (fun _ _ _ _ h => h) S5 ?hr36_80
          case hy36_80 => (intro o ho w' hS; unfold execOp; simp only [ho]; go_simp; try with_reducible rfl)
          simp only [Act.put, List.setIfInBounds_toArray, List.set_cons_zero, List.set_cons_succ]
          refine drawn_freeG 37 95 (v := ?v37_81) (.move (.tmp 94)) (some (34, true)) (by kernel_rfl) rfl ?hy37_81 (by as_aux_lemma => kernel_rfl) (by as_aux_lemma => kernel_rfl) (by as_aux_lemma => kernel_rfl) (fun _ _ _ _ h => h) S5 ?hr37_81
          case hy37_81 => (intro o ho w' hS; unfold execOp; simp only [ho]; go_simp; try with_reducible rfl)
          simp only [Act.put, List.setIfInBounds_toArray, List.set_cons_zero, List.set_cons_succ]
          refine drawn_freeG 38 96 (v := ?v38_82) (.fieldAddr 24 (.tmp 15) 1) (some (37, false)) (by kernel_rfl) rfl ?hy38_82 (by as_aux_lemma => kernel_rfl) (by as_aux_lemma => kernel_rfl) (by as_aux_lemma => kernel_rfl) (fun _ _ _ _ h => h) S5 ?hr38_82
          case hy38_82 => (intro o ho w' hS; unfold execOp; simp only [ho]; go_simp; try with_reducible rfl)
          simp only [Act.put, List.setIfInBounds_toArray, List.set_cons_zero, List.set_cons_succ]
          refine drawn_freeG 39 97 (v := ?v39_83) (.load 22 (.tmp 96)) (some (37, false)) (by kernel_rfl) rfl ?hy39_83 (by as_aux_lemma => kernel_rfl) (by as_aux_lemma => kernel_rfl) (by as_aux_lemma => kernel_rfl) (fun _ _ _ _ h => h) S5 ?hr39_83
          case hy39_83 => (intro o ho w' hS; have h0 := (HBw.out.ext hS).c1; unfold execOp; simp only [ho]; go_simp; try with_reducible rfl)
          simp only [Act.put, List.setIfInBounds_toArray, List.set_cons_zero, List.set_cons_succ]
          refine drawn_freeG 40 98 (v := ?v40_84) (.call { callee := .builtin .len, args := #[.tmp 97], argTypes := #[22] }) (some (37, false)) (by kernel_rfl) rfl ?hy40_84 (by as_aux_lemma => kernel_rfl) (by as_aux_lemma => kernel_rfl) (by as_aux_lemma => kernel_rfl) (fun _ _ _ _ h => h) S5 ?hr40_84
          case hy40_84 => (intro o ho w' hS; unfold execOp; simp only [ho]; go_simp; try with_reducible rfl)
          simp only [Act.put, List.setIfInBounds_toArray, List.set_cons_zero, List.set_cons_succ]
          refine drawn_freeG 41 99 (v := ?v41_85) (.binOp .gtr 3 (.tmp 98) (.const (.int .i64 0)) 3) (some (37, false)) (by kernel_rfl) rfl ?hy41_85 (by as_aux_lemma => kernel_rfl) (by as_aux_lemma => kernel_rfl) (by as_aux_lemma => kernel_rfl) (fun _ _ _ _ h => h) S5 ?hr41_85
          case hy41_85 => (intro o ho w' hS; unfold execOp; simp only [ho]; go_simp; try with_reducible rfl)
          simp only [Act.put, List.setIfInBounds_toArray, List.set_cons_zero, List.set_cons_succ]
          refine drawn_freeG 42 100 (v := ?v42_86) (.pick (.tmp 95) (.const (.bool true)) (.tmp 99)) (some (34, true)) (by kernel_rfl) rfl ?hy42_86 (by as_aux_lemma => kernel_rfl) (by as_aux_lemma => kernel_rfl) (by as_aux_lemma => kernel_rfl) (fun _ _ _ _ h => h) S5 ?hr42_86
          case hy42_86 => (intro o ho w' hS; unfold execOp; simp only [ho]; go_simp; try with_reducible rfl)
          simp only [Act.put, List.setIfInBounds_toArray, List.set_cons_zero, List.set_cons_succ]
          refine drawn_freeG 43 101 (v := ?v43_87) (.pick (.tmp 92) (.tmp 100) (.const (.bool false))) (some (31, false)) (by kernel_rfl) rfl ?hy43_87 (by as_aux_lemma => kernel_rfl) (by as_aux_lemma => kernel_rfl) (by as_aux_lemma => kernel_rfl) (fun _ _ _ _ h => h) S5 ?hr43_87
          case hy43_87 => (intro o ho w' hS; unfold execOp; simp only [ho]; go_simp; try with_reducible rfl)
          simp only [Act.put, List.setIfInBounds_toArray, List.set_cons_zero, List.set_cons_succ]
          refine drawn_freeG 44 102 (v := ?v44_88) (.pick (.tmp 89) (.const (.bool true)) (.tmp 101)) none (by kernel_rfl) rfl ?hy44_88 (by as_aux_lemma => kernel_rfl) (by as_aux_lemma => kernel_rfl) (by as_aux_lemma => kernel_rfl) (fun _ _ _ _ h => h) S5 ?hr44_88
          case hy44_88 => (intro o ho w' hS; unfold execOp; simp only [ho]; go_simp; try with_reducible rfl)
          simp only [Act.put, List.setIfInBounds_toArray, List.set_cons_zero, List.set_cons_succ]
          refine wpAnyH_done (by kernel_rfl) ?_ _
          go_step
          go_step
          go_meet
          case rel => exact ⟨rfl, S5⟩
  case rest =>
  obtain ⟨rfl, Yk⟩ := hcut
  obtain ⟨w11, hw11⟩ : ∃ w11, w11 = wc := ⟨_, rfl⟩
  subst hw11
  have hy11 := hid Yk
  have X11 := hid (X10.out.trans hy11.out)
  clear Yk HPW
  obtain ⟨f11_0, f11_1, f11_2, f11_3, f11_4, f11_5, f11_6, f11_7⟩ : w11.cell? ⟨g8, 0, none⟩ = some (.bool bv) ∧ w11.cell? ⟨g8, 1, none⟩ = some (.slice Pv lv kv) ∧ w11.cell? ⟨w4.heap.size, 0, none⟩ = some (.bool b4) ∧ w11.cell? ⟨w4.heap.size, 1, none⟩ = some (.slice A4 n4 c4) ∧ w11.cell? ⟨w4.heap.size + 1, 0, none⟩ = some (.bool e4) ∧ w11.cell? ⟨w4.heap.size + 1, 1, none⟩ = some (.slice B4 m4 d4) ∧ w11.cell? ⟨w6.heap.size, 0, none⟩ = some (.bool b6) ∧ w11.cell? ⟨w6.heap.size, 1, none⟩ = some (.slice A6 n6 c6) := ⟨(HBv.out.ext (((((((hy4.out.trans hy5.out).trans hy6.out).trans hy7.out).trans hy8.out).trans hy9.out).trans hy10.out).trans hy11.out)).c0, (HBv.out.ext (((((((hy4.out.trans hy5.out).trans hy6.out).trans hy7.out).trans hy8.out).trans hy9.out).trans hy10.out).trans hy11.out)).c1, (HBq.out.ext (((((hy6.out.trans hy7.out).trans hy8.out).trans hy9.out).trans hy10.out).trans hy11.out)).c0, (HBq.out.ext (((((hy6.out.trans hy7.out).trans hy8.out).trans hy9.out).trans hy10.out).trans hy11.out)).c1, (HBr.out.ext (((((hy6.out.trans hy7.out).trans hy8.out).trans hy9.out).trans hy10.out).trans hy11.out)).c0, (HBr.out.ext (((((hy6.out.trans hy7.out).trans hy8.out).trans hy9.out).trans hy10.out).trans hy11.out)).c1, (HBp.out.ext (((hy8.out.trans hy9.out).trans hy10.out).trans hy11.out)).c0, (HBp.out.ext (((hy8.out.trans hy9.out).trans hy10.out).trans hy11.out)).c1⟩
  have hq0 := (O4.out).2.len0 rfl
  have hr0 := (P4.out).2.len0 rfl
  have hp0 := (O6.out).2.len0 rfl
  subst hq0 hr0 hp0
  go_wp2_with (first
    | ((go_at_call 18); (with_reducible refine (zsign_is (v := 0) (HOv.out.ext (((((((hy4.out.trans hy5.out).trans hy6.out).trans hy7.out).trans hy8.out).trans hy9.out).trans hy10.out).trans hy11.out)) rfl).mono ?_); rintro E12 w12 ⟨rfl, hr12⟩; have X12 := hid (X11.out.trans hr12); have hy12 := hid hr12; clear hr12; obtain ⟨f12_0, f12_1, f12_2, f12_3, f12_4, f12_5, f12_6, f12_7⟩ : w12.cell? ⟨g8, 0, none⟩ = some (.bool bv) ∧ w12.cell? ⟨g8, 1, none⟩ = some (.slice Pv lv kv) ∧ w12.cell? ⟨w4.heap.size, 0, none⟩ = some (.bool b4) ∧ w12.cell? ⟨w4.heap.size, 1, none⟩ = some (.slice A4 0 c4) ∧ w12.cell? ⟨w4.heap.size + 1, 0, none⟩ = some (.bool e4) ∧ w12.cell? ⟨w4.heap.size + 1, 1, none⟩ = some (.slice B4 0 d4) ∧ w12.cell? ⟨w6.heap.size, 0, none⟩ = some (.bool b6) ∧ w12.cell? ⟨w6.heap.size, 1, none⟩ = some (.slice A6 0 c6) := ⟨(HBv.out.ext ((((((((hy4.out.trans hy5.out).trans hy6.out).trans hy7.out).trans hy8.out).trans hy9.out).trans hy10.out).trans hy11.out).trans hy12.out)).c0, (HBv.out.ext ((((((((hy4.out.trans hy5.out).trans hy6.out).trans hy7.out).trans hy8.out).trans hy9.out).trans hy10.out).trans hy11.out).trans hy12.out)).c1, (HBq.out.ext ((((((hy6.out.trans hy7.out).trans hy8.out).trans hy9.out).trans hy10.out).trans hy11.out).trans hy12.out)).c0, (HBq.out.ext ((((((hy6.out.trans hy7.out).trans hy8.out).trans hy9.out).trans hy10.out).trans hy11.out).trans hy12.out)).c1, (HBr.out.ext ((((((hy6.out.trans hy7.out).trans hy8.out).trans hy9.out).trans hy10.out).trans hy11.out).trans hy12.out)).c0, (HBr.out.ext ((((((hy6.out.trans hy7.out).trans hy8.out).trans hy9.out).trans hy10.out).trans hy11.out).trans hy12.out)).c1, (HBp.out.ext ((((hy8.out.trans hy9.out).trans hy10.out).trans hy11.out).trans hy12.out)).c0, (HBp.out.ext ((((hy8.out.trans hy9.out).trans hy10.out).trans hy11.out).trans hy12.out)).c1⟩)
    | ((go_at_call 8); (with_reducible refine (known_any4).mono ?_); rintro E13 w13 ⟨rfl, hr13⟩; have X13 := hid (X12.out.trans hr13); have hy13 := hid hr13; clear hr13; obtain ⟨f13_0, f13_1, f13_2, f13_3, f13_4, f13_5, f13_6, f13_7⟩ : w13.cell? ⟨g8, 0, none⟩ = some (.bool bv) ∧ w13.cell? ⟨g8, 1, none⟩ = some (.slice Pv lv kv) ∧ w13.cell? ⟨w4.heap.size, 0, none⟩ = some (.bool b4) ∧ w13.cell? ⟨w4.heap.size, 1, none⟩ = some (.slice A4 0 c4) ∧ w13.cell? ⟨w4.heap.size + 1, 0, none⟩ = some (.bool e4) ∧ w13.cell? ⟨w4.heap.size + 1, 1, none⟩ = some (.slice B4 0 d4) ∧ w13.cell? ⟨w6.heap.size, 0, none⟩ = some (.bool b6) ∧ w13.cell? ⟨w6.heap.size, 1, none⟩ = some (.slice A6 0 c6) := ⟨(HBv.out.ext (((((((((hy4.out.trans hy5.out).trans hy6.out).trans hy7.out).trans hy8.out).trans hy9.out).trans hy10.out).trans hy11.out).trans hy12.out).trans hy13.out)).c0, (HBv.out.ext (((((((((hy4.out.trans hy5.out).trans hy6.out).trans hy7.out).trans hy8.out).trans hy9.out).trans hy10.out).trans hy11.out).trans hy12.out).trans hy13.out)).c1, (HBq.out.ext (((((((hy6.out.trans hy7.out).trans hy8.out).trans hy9.out).trans hy10.out).trans hy11.out).trans hy12.out).trans hy13.out)).c0, (HBq.out.ext (((((((hy6.out.trans hy7.out).trans hy8.out).trans hy9.out).trans hy10.out).trans hy11.out).trans hy12.out).trans hy13.out)).c1, (HBr.out.ext (((((((hy6.out.trans hy7.out).trans hy8.out).trans hy9.out).trans hy10.out).trans hy11.out).trans hy12.out).trans hy13.out)).c0, (HBr.out.ext (((((((hy6.out.trans hy7.out).trans hy8.out).trans hy9.out).trans hy10.out).trans hy11.out).trans hy12.out).trans hy13.out)).c1, (HBp.out.ext (((((hy8.out.trans hy9.out).trans hy10.out).trans hy11.out).trans hy12.out).trans hy13.out)).c0, (HBp.out.ext (((((hy8.out.trans hy9.out).trans hy10.out).trans hy11.out).trans hy12.out).trans hy13.out)).c1⟩))
  go_ret
  exact ⟨rfl, X13.out⟩

end Go.Proofs.Ytbhiolpiaanckaa
