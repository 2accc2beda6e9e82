
/-
  A part of the walk of the statement WholeDivides. Printed by wip/gen/law4.py.
-/
import Derived.Test.YtbhiolpiaanckaaKnown4
import Derived.Test.YtbhiolpiaanckaaZB
namespace Go.Proofs.Ytbhiolpiaanckaa
open Go.RowKit
open Go.Lib (hid)

set_option maxHeartbeats 6400000 in
set_option maxRecDepth 100000 in
theorem wholeDivides_exact {w : World} {sx sy : Bool} {Px Py : Option Addr} {lx kx ly ky : Nat} {x y : Int} (hx : Iz 25 w sx Px lx kx x) (bdx : lx ≤ 25) (hy : Iz 25 w sy Py ly ky y) (bdy : ly ≤ 25) {N : Int} (hN : (0 ≤ N ∧ N ≤ 6) ∨ N < 0 ∨ 1000 < N) (hy0 : y ≠ 0) (hr0 : x.natAbs % y.natAbs = 0) :
    Calls Try.prog 3 #[.agg #[.bool sx, .slice Px lx kx], .agg #[.bool sy, .slice Py ly ky], .int .i64 N] w (RetE (.bool true) w) := by
  have Hx := hid hx
  have Hy := hid hy
  clear hx hy
  have HN := hid hN
  have gN : 6 < N → ¬ N ≤ 1000 := by omega
  have HGN := hid gN
  have HY0 := hid hy0
  have HR0 := hid hr0
  obtain ⟨sv, hsv⟩ : ∃ v, sg y = v := ⟨_, rfl⟩
  have hsv0 : (sv == 0) = false := by
    rw [beq_eq_false_iff_ne, ← hsv]
    rcases sg_cases y with ⟨e, _⟩ | ⟨_, e⟩ | ⟨e, _⟩
    · rw [e]; omega
    · exact absurd e hy0
    · rw [e]; omega
  have HSV := hid hsv
  have hst : Hid (sg (x.tmod y) = 0) := by show _ = _; rw [tmod_zero hr0]; rfl
  clear hy0 hr0 hsv
  clear hN gN
  have hgd : (N ≤ 6 ∧ ¬ 6 < N) ∨ (6 < N ∧ ¬ N ≤ 1000) := by have := HGN.out; omega
  go_enter Try.func3, Try.ntmps3
  go_upto_region 1 with fail
  have hy1 := hid (((Ext.refl w).alloc (.cells #[.bool sx, .slice Px lx kx] 24)).alloc (.cells #[.bool sy, .slice Py ly ky] 24))
  have Bx := ((Bx.new w sx Px lx kx).ext ((Ext.refl (w.alloc (.cells #[.bool sx, .slice Px lx kx] 24))).alloc (.cells #[.bool sy, .slice Py ly ky] 24)))
  have HBx := hid Bx
  clear Bx
  have By := (Bx.new (w.alloc (.cells #[.bool sx, .slice Px lx kx] 24)) sy Py ly ky)
  rw [size_alloc] at By
  have HBy := hid By
  clear By
  generalize ((w.alloc (.cells #[.bool sx, .slice Px lx kx] 24)).alloc (.cells #[.bool sy, .slice Py ly ky] 24)) = w1 at *
  have X1 := hid ((Ext.refl _).trans hy1.out)
  obtain ⟨f1_0, f1_1, f1_2, f1_3⟩ : w1.cell? ⟨w.heap.size, 0, none⟩ = some (.bool sx) ∧ w1.cell? ⟨w.heap.size, 1, none⟩ = some (.slice Px lx kx) ∧ w1.cell? ⟨w.heap.size + 1, 0, none⟩ = some (.bool sy) ∧ w1.cell? ⟨w.heap.size + 1, 1, none⟩ = some (.slice Py ly ky) := ⟨HBx.out.c0, HBx.out.c1, HBy.out.c0, HBy.out.c1⟩
  go_cut [30] (fun v30 wx => v30 = .bool false ∧ Ext w1 wx)
  case first =>
    rcases hgd with ⟨q1, q2⟩ | ⟨q1, q2⟩
    have q3 : decide (6 < N) = false := decide_eq_false q2
    rotate_left
    have q3 : decide (N ≤ 1000) = false := decide_eq_false q2
    all_goals
      go_wp2_with (go_at_call 7; (with_reducible refine (great2_no (row2_new w1 sx Px lx kx sy Py ly ky) bdx bdy).mono ?_); rintro E v ⟨rfl, hr⟩; have HR := hid (((Ext.refl w1).alloc (.cells #[.bool sx, .slice Px lx kx, .bool sy, .slice Py ly ky] 24)).trans hr); clear hr)
      go_meet
      case rel => exact ⟨rfl, HR.out⟩
  case rest =>
  obtain ⟨rfl, hy2⟩ := hcut
  obtain ⟨w2, hw2⟩ : ∃ w2, w2 = wc := ⟨_, rfl⟩
  subst hw2
  have hy2 := hid hy2
  have X2 := hid (X1.out.trans hy2.out)
  clear hgd f1_0 f1_1 f1_2 f1_3
  go_upto_region 3 with fail
  go_cut [7, 8] (fun v7 v8 wx => ∃ (g7 : Nat) (p7 : Bool) (P7 : Option Addr) (q7 r7 : Nat) (g8 : Nat) (p8 : Bool) (P8 : Option Addr) (q8 r8 : Nat), v7 = .pointer (some ⟨g7, 0, none⟩) ∧ v8 = .pointer (some ⟨g8, 0, none⟩) ∧ Bz wx g7 p7 P7 q7 r7 ∧ Bz wx g8 p8 P8 q8 r8 ∧ Zd 250 wx p7 P7 q7 r7 x ∧ Zd 250 wx p8 P8 q8 r8 y ∧ Ext w2 wx)
  case first =>
    refine wp_region_held_drew (S := fun w' => Ext w2 w') (by kernel_rfl) (Ext.refl _).drew (fun hS0 => ?_)
    change wpAnyH _ _ _ _ _ 8 #[false, false, false, false, false, false, false, false] _ _
    refine drawn_load 0 32 24 (.tmp 3) (w.heap.size) 24 #[.bool sx, .slice Px lx kx] (0, 0) _ (by kernel_rfl) rfl (fun w' hS => (HBx.out.ext hy2.out).ext hS) Try.underlying24 rfl info_int_s (by kernel_rfl) (by kernel_rfl) (by kernel_rfl) (fun _ _ _ _ h => h) hS0 ?_
    simp only [Act.put, List.setIfInBounds_toArray, List.set_cons_zero, List.set_cons_succ]
    refine drawn_load 2 34 24 (.tmp 4) (w.heap.size + 1) 24 #[.bool sy, .slice Py ly ky] (0, 0) _ (by kernel_rfl) rfl (fun w' hS => (HBy.out.ext hy2.out).ext hS) Try.underlying24 rfl info_int_s (by kernel_rfl) (by kernel_rfl) (by kernel_rfl) (fun _ _ _ _ h => h) hS0 ?_
    simp only [Act.put, List.setIfInBounds_toArray, List.set_cons_zero, List.set_cons_succ]
    refine wpAnyH_ready (rs := [1, 4, 5]) (by kernel_rfl) (by simp) ?_
    refine drawn_call1 1 (some 33) (.tmp 32) (ts := #[24]) (by kernel_rfl) (enters_of Try.func9 (by kernel_rfl) rfl) rfl (zof_v (Hx.out.ext (X2.out.trans hS0)) (by omega)) (fun E v1 hh => ?_) ?_
    · skip
      obtain ⟨b1, A1, n1, c1, rfl, o1, hx1⟩ := hh
      refine ⟨_, rfl, hS0.trans hx1, ?_⟩
      simp only [Act.put, List.setIfInBounds_toArray, List.set_cons_zero, List.set_cons_succ]
      have S1 := hS0.trans hx1
      refine wpAnyH_ready (rs := [3, 4, 5]) (by kernel_rfl) (by simp) ?_
      refine drawn_call1 3 (some 35) (.tmp 34) (ts := #[24]) (by kernel_rfl) (enters_of Try.func9 (by kernel_rfl) rfl) rfl (zof_v (Hy.out.ext (X2.out.trans S1)) (by omega)) (fun E v3 hh => ?_) ?_
      · skip
        obtain ⟨b3, A3, n3, c3, rfl, o3, hx3⟩ := hh
        refine ⟨_, rfl, S1.trans hx3, ?_⟩
        simp only [Act.put, List.setIfInBounds_toArray, List.set_cons_zero, List.set_cons_succ]
        have S3 := S1.trans hx3
        refine wpAnyH_ready (rs := [4, 5]) (by kernel_rfl) (by simp) ?_
        refine drawn_alloc 4 (some 7) (by kernel_rfl) alloc_z (fun g4 v4 hb4 hx4 hg4 => ⟨S3.trans hx4, ?_⟩) ?_
        · skip
          simp only [Act.put, List.setIfInBounds_toArray, List.set_cons_zero, List.set_cons_succ]
          have S4 := S3.trans hx4
          have ge4 := Nat.le_trans S3.size hg4
          refine wpAnyH_ready (rs := [5]) (by kernel_rfl) (by simp) ?_
          refine drawn_alloc 5 (some 8) (by kernel_rfl) alloc_z (fun g5 v5 hb5 hx5 hg5 => ⟨S4.trans hx5, ?_⟩) ?_
          · skip
            simp only [Act.put, List.setIfInBounds_toArray, List.set_cons_zero, List.set_cons_succ]
            have S5 := S4.trans hx5
            have ge5 := Nat.le_trans S4.size hg5
            have ltB7_5 := Nat.lt_of_lt_of_le (show Bz v4 g4 false none 0 0 from hb4).lt hg5
            refine wpAnyH_ready (rs := [6]) (by kernel_rfl) (by simp) ?_
            refine drawn_store 6 30 (.tmp 7) (.tmp 33) g4 #[.bool b1, .slice A1 n1 c1] #[.bool false, .slice none 0 0] 30 (by kernel_rfl) rfl rfl ((show Bz v4 g4 false none 0 0 from hb4).ext hx5) info_z_s rfl one_two (fun v6 hb6 hg6 => ⟨S5.gb hg6 ge4, ?_⟩) ?_
            · skip
              simp only [Act.put, List.setIfInBounds_toArray, List.set_cons_zero, List.set_cons_succ]
              have hq6 := ((show Bz v4 g4 false none 0 0 from hb4).ext hx5)
              have S6 := S5.gb hg6 ge4
              refine wpAnyH_ready (rs := [7]) (by kernel_rfl) (by simp) ?_
              refine drawn_store 7 30 (.tmp 8) (.tmp 35) g5 #[.bool b3, .slice A3 n3 c3] #[.bool false, .slice none 0 0] 30 (by kernel_rfl) rfl rfl ((show Bz v5 g5 false none 0 0 from hb5).grown hg6 (by simp; omega)) info_z_s rfl one_two (fun v7 hb7 hg7 => ⟨S6.gb hg7 ge5, ?_⟩) ?_
              · skip
                simp only [Act.put, List.setIfInBounds_toArray, List.set_cons_zero, List.set_cons_succ]
                have hq7 := ((show Bz v5 g5 false none 0 0 from hb5).grown hg6 (by simp; omega))
                have S7 := S6.gb hg7 ge5
                refine wpAnyH_done (by kernel_rfl) ?_ _
                go_step
                go_step
                go_meet
                case rel => exact ⟨_, _, _, _, _, _, _, _, _, _, rfl, rfl, ((show Bz v6 g4 b1 A1 n1 c1 from hb6).grown hg7 (by simp; omega)), (show Bz v7 g5 b3 A3 n3 c3 from hb7), (((((o1.ext hx3).ext hx4).ext hx5).gbz hq6 hg6).gbz hq7 hg7), ((((o3.ext hx4).ext hx5).gbz hq6 hg6).gbz hq7 hg7), S7⟩
              exact drawn_nil
            exact drawn_nil
          exact drawn_nil
        refine drawn_alloc 5 (some 8) (by kernel_rfl) alloc_z (fun g5 v5 hb5 hx5 hg5 => ⟨S3.trans hx5, ?_⟩) ?_
        · skip
          simp only [Act.put, List.setIfInBounds_toArray, List.set_cons_zero, List.set_cons_succ]
          have S5 := S3.trans hx5
          have ge5 := Nat.le_trans S3.size hg5
          refine wpAnyH_ready (rs := [4]) (by kernel_rfl) (by simp) ?_
          refine drawn_alloc 4 (some 7) (by kernel_rfl) alloc_z (fun g4 v4 hb4 hx4 hg4 => ⟨S5.trans hx4, ?_⟩) ?_
          · skip
            simp only [Act.put, List.setIfInBounds_toArray, List.set_cons_zero, List.set_cons_succ]
            have S4 := S5.trans hx4
            have ge4 := Nat.le_trans S5.size hg4
            have ltB8_4 := Nat.lt_of_lt_of_le (show Bz v5 g5 false none 0 0 from hb5).lt hg4
            refine wpAnyH_ready (rs := [6]) (by kernel_rfl) (by simp) ?_
            refine drawn_store 6 30 (.tmp 7) (.tmp 33) g4 #[.bool b1, .slice A1 n1 c1] #[.bool false, .slice none 0 0] 30 (by kernel_rfl) rfl rfl (show Bz v4 g4 false none 0 0 from hb4) info_z_s rfl one_two (fun v6 hb6 hg6 => ⟨S4.gb hg6 ge4, ?_⟩) ?_
            · skip
              simp only [Act.put, List.setIfInBounds_toArray, List.set_cons_zero, List.set_cons_succ]
              have hq6 := (show Bz v4 g4 false none 0 0 from hb4)
              have S6 := S4.gb hg6 ge4
              refine wpAnyH_ready (rs := [7]) (by kernel_rfl) (by simp) ?_
              refine drawn_store 7 30 (.tmp 8) (.tmp 35) g5 #[.bool b3, .slice A3 n3 c3] #[.bool false, .slice none 0 0] 30 (by kernel_rfl) rfl rfl (((show Bz v5 g5 false none 0 0 from hb5).ext hx4).grown hg6 (by simp; omega)) info_z_s rfl one_two (fun v7 hb7 hg7 => ⟨S6.gb hg7 ge5, ?_⟩) ?_
              · skip
                simp only [Act.put, List.setIfInBounds_toArray, List.set_cons_zero, List.set_cons_succ]
                have hq7 := (((show Bz v5 g5 false none 0 0 from hb5).ext hx4).grown hg6 (by simp; omega))
                have S7 := S6.gb hg7 ge5
                refine wpAnyH_done (by kernel_rfl) ?_ _
                go_step
                go_step
                go_meet
                case rel => exact ⟨_, _, _, _, _, _, _, _, _, _, rfl, rfl, ((show Bz v6 g4 b1 A1 n1 c1 from hb6).grown hg7 (by simp; omega)), (show Bz v7 g5 b3 A3 n3 c3 from hb7), (((((o1.ext hx3).ext hx5).ext hx4).gbz hq6 hg6).gbz hq7 hg7), ((((o3.ext hx5).ext hx4).gbz hq6 hg6).gbz hq7 hg7), S7⟩
              exact drawn_nil
            exact drawn_nil
          exact drawn_nil
        exact drawn_nil
      refine drawn_alloc 4 (some 7) (by kernel_rfl) alloc_z (fun g4 v4 hb4 hx4 hg4 => ⟨S1.trans hx4, ?_⟩) ?_
      · skip
        simp only [Act.put, List.setIfInBounds_toArray, List.set_cons_zero, List.set_cons_succ]
        have S4 := S1.trans hx4
        have ge4 := Nat.le_trans S1.size hg4
        refine wpAnyH_ready (rs := [3, 5]) (by kernel_rfl) (by simp) ?_
        refine drawn_call1 3 (some 35) (.tmp 34) (ts := #[24]) (by kernel_rfl) (enters_of Try.func9 (by kernel_rfl) rfl) rfl (zof_v (Hy.out.ext (X2.out.trans S4)) (by omega)) (fun E v3 hh => ?_) ?_
        · skip
          obtain ⟨b3, A3, n3, c3, rfl, o3, hx3⟩ := hh
          refine ⟨_, rfl, S4.trans hx3, ?_⟩
          simp only [Act.put, List.setIfInBounds_toArray, List.set_cons_zero, List.set_cons_succ]
          have S3 := S4.trans hx3
          refine wpAnyH_ready (rs := [5]) (by kernel_rfl) (by simp) ?_
          refine drawn_alloc 5 (some 8) (by kernel_rfl) alloc_z (fun g5 v5 hb5 hx5 hg5 => ⟨S3.trans hx5, ?_⟩) ?_
          · skip
            simp only [Act.put, List.setIfInBounds_toArray, List.set_cons_zero, List.set_cons_succ]
            have S5 := S3.trans hx5
            have ge5 := Nat.le_trans S3.size hg5
            have ltB7_5 := Nat.lt_of_lt_of_le ((show Bz v4 g4 false none 0 0 from hb4).ext hx3).lt hg5
            refine wpAnyH_ready (rs := [6]) (by kernel_rfl) (by simp) ?_
            refine drawn_store 6 30 (.tmp 7) (.tmp 33) g4 #[.bool b1, .slice A1 n1 c1] #[.bool false, .slice none 0 0] 30 (by kernel_rfl) rfl rfl (((show Bz v4 g4 false none 0 0 from hb4).ext hx3).ext hx5) info_z_s rfl one_two (fun v6 hb6 hg6 => ⟨S5.gb hg6 ge4, ?_⟩) ?_
            · skip
              simp only [Act.put, List.setIfInBounds_toArray, List.set_cons_zero, List.set_cons_succ]
              have hq6 := (((show Bz v4 g4 false none 0 0 from hb4).ext hx3).ext hx5)
              have S6 := S5.gb hg6 ge4
              refine wpAnyH_ready (rs := [7]) (by kernel_rfl) (by simp) ?_
              refine drawn_store 7 30 (.tmp 8) (.tmp 35) g5 #[.bool b3, .slice A3 n3 c3] #[.bool false, .slice none 0 0] 30 (by kernel_rfl) rfl rfl ((show Bz v5 g5 false none 0 0 from hb5).grown hg6 (by simp; omega)) info_z_s rfl one_two (fun v7 hb7 hg7 => ⟨S6.gb hg7 ge5, ?_⟩) ?_
              · skip
                simp only [Act.put, List.setIfInBounds_toArray, List.set_cons_zero, List.set_cons_succ]
                have hq7 := ((show Bz v5 g5 false none 0 0 from hb5).grown hg6 (by simp; omega))
                have S7 := S6.gb hg7 ge5
                refine wpAnyH_done (by kernel_rfl) ?_ _
                go_step
                go_step
                go_meet
                case rel => exact ⟨_, _, _, _, _, _, _, _, _, _, rfl, rfl, ((show Bz v6 g4 b1 A1 n1 c1 from hb6).grown hg7 (by simp; omega)), (show Bz v7 g5 b3 A3 n3 c3 from hb7), (((((o1.ext hx4).ext hx3).ext hx5).gbz hq6 hg6).gbz hq7 hg7), (((o3.ext hx5).gbz hq6 hg6).gbz hq7 hg7), S7⟩
              exact drawn_nil
            exact drawn_nil
          exact drawn_nil
        refine drawn_alloc 5 (some 8) (by kernel_rfl) alloc_z (fun g5 v5 hb5 hx5 hg5 => ⟨S4.trans hx5, ?_⟩) ?_
        · skip
          simp only [Act.put, List.setIfInBounds_toArray, List.set_cons_zero, List.set_cons_succ]
          have S5 := S4.trans hx5
          have ge5 := Nat.le_trans S4.size hg5
          have ltB7_5 := Nat.lt_of_lt_of_le (show Bz v4 g4 false none 0 0 from hb4).lt hg5
          refine wpAnyH_ready (rs := [3]) (by kernel_rfl) (by simp) ?_
          refine drawn_call1 3 (some 35) (.tmp 34) (ts := #[24]) (by kernel_rfl) (enters_of Try.func9 (by kernel_rfl) rfl) rfl (zof_v (Hy.out.ext (X2.out.trans S5)) (by omega)) (fun E v3 hh => ?_) ?_
          · skip
            obtain ⟨b3, A3, n3, c3, rfl, o3, hx3⟩ := hh
            refine ⟨_, rfl, S5.trans hx3, ?_⟩
            simp only [Act.put, List.setIfInBounds_toArray, List.set_cons_zero, List.set_cons_succ]
            have S3 := S5.trans hx3
            refine wpAnyH_ready (rs := [6]) (by kernel_rfl) (by simp) ?_
            refine drawn_store 6 30 (.tmp 7) (.tmp 33) g4 #[.bool b1, .slice A1 n1 c1] #[.bool false, .slice none 0 0] 30 (by kernel_rfl) rfl rfl (((show Bz v4 g4 false none 0 0 from hb4).ext hx5).ext hx3) info_z_s rfl one_two (fun v6 hb6 hg6 => ⟨S3.gb hg6 ge4, ?_⟩) ?_
            · skip
              simp only [Act.put, List.setIfInBounds_toArray, List.set_cons_zero, List.set_cons_succ]
              have hq6 := (((show Bz v4 g4 false none 0 0 from hb4).ext hx5).ext hx3)
              have S6 := S3.gb hg6 ge4
              refine wpAnyH_ready (rs := [7]) (by kernel_rfl) (by simp) ?_
              refine drawn_store 7 30 (.tmp 8) (.tmp 35) g5 #[.bool b3, .slice A3 n3 c3] #[.bool false, .slice none 0 0] 30 (by kernel_rfl) rfl rfl (((show Bz v5 g5 false none 0 0 from hb5).ext hx3).grown hg6 (by simp; omega)) info_z_s rfl one_two (fun v7 hb7 hg7 => ⟨S6.gb hg7 ge5, ?_⟩) ?_
              · skip
                simp only [Act.put, List.setIfInBounds_toArray, List.set_cons_zero, List.set_cons_succ]
                have hq7 := (((show Bz v5 g5 false none 0 0 from hb5).ext hx3).grown hg6 (by simp; omega))
                have S7 := S6.gb hg7 ge5
                refine wpAnyH_done (by kernel_rfl) ?_ _
                go_step
                go_step
                go_meet
                case rel => exact ⟨_, _, _, _, _, _, _, _, _, _, rfl, rfl, ((show Bz v6 g4 b1 A1 n1 c1 from hb6).grown hg7 (by simp; omega)), (show Bz v7 g5 b3 A3 n3 c3 from hb7), (((((o1.ext hx4).ext hx5).ext hx3).gbz hq6 hg6).gbz hq7 hg7), ((o3.gbz hq6 hg6).gbz hq7 hg7), S7⟩
              exact drawn_nil
            exact drawn_nil
          exact drawn_nil
        exact drawn_nil
      refine drawn_alloc 5 (some 8) (by kernel_rfl) alloc_z (fun g5 v5 hb5 hx5 hg5 => ⟨S1.trans hx5, ?_⟩) ?_
      · skip
        simp only [Act.put, List.setIfInBounds_toArray, List.set_cons_zero, List.set_cons_succ]
        have S5 := S1.trans hx5
        have ge5 := Nat.le_trans S1.size hg5
        refine wpAnyH_ready (rs := [3, 4]) (by kernel_rfl) (by simp) ?_
        refine drawn_call1 3 (some 35) (.tmp 34) (ts := #[24]) (by kernel_rfl) (enters_of Try.func9 (by kernel_rfl) rfl) rfl (zof_v (Hy.out.ext (X2.out.trans S5)) (by omega)) (fun E v3 hh => ?_) ?_
        · skip
          obtain ⟨b3, A3, n3, c3, rfl, o3, hx3⟩ := hh
          refine ⟨_, rfl, S5.trans hx3, ?_⟩
          simp only [Act.put, List.setIfInBounds_toArray, List.set_cons_zero, List.set_cons_succ]
          have S3 := S5.trans hx3
          refine wpAnyH_ready (rs := [4]) (by kernel_rfl) (by simp) ?_
          refine drawn_alloc 4 (some 7) (by kernel_rfl) alloc_z (fun g4 v4 hb4 hx4 hg4 => ⟨S3.trans hx4, ?_⟩) ?_
          · skip
            simp only [Act.put, List.setIfInBounds_toArray, List.set_cons_zero, List.set_cons_succ]
            have S4 := S3.trans hx4
            have ge4 := Nat.le_trans S3.size hg4
            have ltB8_4 := Nat.lt_of_lt_of_le ((show Bz v5 g5 false none 0 0 from hb5).ext hx3).lt hg4
            refine wpAnyH_ready (rs := [6]) (by kernel_rfl) (by simp) ?_
            refine drawn_store 6 30 (.tmp 7) (.tmp 33) g4 #[.bool b1, .slice A1 n1 c1] #[.bool false, .slice none 0 0] 30 (by kernel_rfl) rfl rfl (show Bz v4 g4 false none 0 0 from hb4) info_z_s rfl one_two (fun v6 hb6 hg6 => ⟨S4.gb hg6 ge4, ?_⟩) ?_
            · skip
              simp only [Act.put, List.setIfInBounds_toArray, List.set_cons_zero, List.set_cons_succ]
              have hq6 := (show Bz v4 g4 false none 0 0 from hb4)
              have S6 := S4.gb hg6 ge4
              refine wpAnyH_ready (rs := [7]) (by kernel_rfl) (by simp) ?_
              refine drawn_store 7 30 (.tmp 8) (.tmp 35) g5 #[.bool b3, .slice A3 n3 c3] #[.bool false, .slice none 0 0] 30 (by kernel_rfl) rfl rfl ((((show Bz v5 g5 false none 0 0 from hb5).ext hx3).ext hx4).grown hg6 (by simp; omega)) info_z_s rfl one_two (fun v7 hb7 hg7 => ⟨S6.gb hg7 ge5, ?_⟩) ?_
              · skip
                simp only [Act.put, List.setIfInBounds_toArray, List.set_cons_zero, List.set_cons_succ]
                have hq7 := ((((show Bz v5 g5 false none 0 0 from hb5).ext hx3).ext hx4).grown hg6 (by simp; omega))
                have S7 := S6.gb hg7 ge5
                refine wpAnyH_done (by kernel_rfl) ?_ _
                go_step
                go_step
                go_meet
                case rel => exact ⟨_, _, _, _, _, _, _, _, _, _, rfl, rfl, ((show Bz v6 g4 b1 A1 n1 c1 from hb6).grown hg7 (by simp; omega)), (show Bz v7 g5 b3 A3 n3 c3 from hb7), (((((o1.ext hx5).ext hx3).ext hx4).gbz hq6 hg6).gbz hq7 hg7), (((o3.ext hx4).gbz hq6 hg6).gbz hq7 hg7), S7⟩
              exact drawn_nil
            exact drawn_nil
          exact drawn_nil
        refine drawn_alloc 4 (some 7) (by kernel_rfl) alloc_z (fun g4 v4 hb4 hx4 hg4 => ⟨S5.trans hx4, ?_⟩) ?_
        · skip
          simp only [Act.put, List.setIfInBounds_toArray, List.set_cons_zero, List.set_cons_succ]
          have S4 := S5.trans hx4
          have ge4 := Nat.le_trans S5.size hg4
          have ltB8_4 := Nat.lt_of_lt_of_le (show Bz v5 g5 false none 0 0 from hb5).lt hg4
          refine wpAnyH_ready (rs := [3]) (by kernel_rfl) (by simp) ?_
          refine drawn_call1 3 (some 35) (.tmp 34) (ts := #[24]) (by kernel_rfl) (enters_of Try.func9 (by kernel_rfl) rfl) rfl (zof_v (Hy.out.ext (X2.out.trans S4)) (by omega)) (fun E v3 hh => ?_) ?_
          · skip
            obtain ⟨b3, A3, n3, c3, rfl, o3, hx3⟩ := hh
            refine ⟨_, rfl, S4.trans hx3, ?_⟩
            simp only [Act.put, List.setIfInBounds_toArray, List.set_cons_zero, List.set_cons_succ]
            have S3 := S4.trans hx3
            refine wpAnyH_ready (rs := [6]) (by kernel_rfl) (by simp) ?_
            refine drawn_store 6 30 (.tmp 7) (.tmp 33) g4 #[.bool b1, .slice A1 n1 c1] #[.bool false, .slice none 0 0] 30 (by kernel_rfl) rfl rfl ((show Bz v4 g4 false none 0 0 from hb4).ext hx3) info_z_s rfl one_two (fun v6 hb6 hg6 => ⟨S3.gb hg6 ge4, ?_⟩) ?_
            · skip
              simp only [Act.put, List.setIfInBounds_toArray, List.set_cons_zero, List.set_cons_succ]
              have hq6 := ((show Bz v4 g4 false none 0 0 from hb4).ext hx3)
              have S6 := S3.gb hg6 ge4
              refine wpAnyH_ready (rs := [7]) (by kernel_rfl) (by simp) ?_
              refine drawn_store 7 30 (.tmp 8) (.tmp 35) g5 #[.bool b3, .slice A3 n3 c3] #[.bool false, .slice none 0 0] 30 (by kernel_rfl) rfl rfl ((((show Bz v5 g5 false none 0 0 from hb5).ext hx4).ext hx3).grown hg6 (by simp; omega)) info_z_s rfl one_two (fun v7 hb7 hg7 => ⟨S6.gb hg7 ge5, ?_⟩) ?_
              · skip
                simp only [Act.put, List.setIfInBounds_toArray, List.set_cons_zero, List.set_cons_succ]
                have hq7 := ((((show Bz v5 g5 false none 0 0 from hb5).ext hx4).ext hx3).grown hg6 (by simp; omega))
                have S7 := S6.gb hg7 ge5
                refine wpAnyH_done (by kernel_rfl) ?_ _
                go_step
                go_step
                go_meet
                case rel => exact ⟨_, _, _, _, _, _, _, _, _, _, rfl, rfl, ((show Bz v6 g4 b1 A1 n1 c1 from hb6).grown hg7 (by simp; omega)), (show Bz v7 g5 b3 A3 n3 c3 from hb7), (((((o1.ext hx5).ext hx4).ext hx3).gbz hq6 hg6).gbz hq7 hg7), ((o3.gbz hq6 hg6).gbz hq7 hg7), S7⟩
              exact drawn_nil
            exact drawn_nil
          exact drawn_nil
        exact drawn_nil
      exact drawn_nil
    refine drawn_alloc 4 (some 7) (by kernel_rfl) alloc_z (fun g4 v4 hb4 hx4 hg4 => ⟨hS0.trans hx4, ?_⟩) ?_
    · skip
      simp only [Act.put, List.setIfInBounds_toArray, List.set_cons_zero, List.set_cons_succ]
      have S4 := hS0.trans hx4
      have ge4 := Nat.le_trans hS0.size hg4
      refine wpAnyH_ready (rs := [1, 5]) (by kernel_rfl) (by simp) ?_
      refine drawn_call1 1 (some 33) (.tmp 32) (ts := #[24]) (by kernel_rfl) (enters_of Try.func9 (by kernel_rfl) rfl) rfl (zof_v (Hx.out.ext (X2.out.trans S4)) (by omega)) (fun E v1 hh => ?_) ?_
      · skip
        obtain ⟨b1, A1, n1, c1, rfl, o1, hx1⟩ := hh
        refine ⟨_, rfl, S4.trans hx1, ?_⟩
        simp only [Act.put, List.setIfInBounds_toArray, List.set_cons_zero, List.set_cons_succ]
        have S1 := S4.trans hx1
        refine wpAnyH_ready (rs := [3, 5]) (by kernel_rfl) (by simp) ?_
        refine drawn_call1 3 (some 35) (.tmp 34) (ts := #[24]) (by kernel_rfl) (enters_of Try.func9 (by kernel_rfl) rfl) rfl (zof_v (Hy.out.ext (X2.out.trans S1)) (by omega)) (fun E v3 hh => ?_) ?_
        · skip
          obtain ⟨b3, A3, n3, c3, rfl, o3, hx3⟩ := hh
          refine ⟨_, rfl, S1.trans hx3, ?_⟩
          simp only [Act.put, List.setIfInBounds_toArray, List.set_cons_zero, List.set_cons_succ]
          have S3 := S1.trans hx3
          refine wpAnyH_ready (rs := [5]) (by kernel_rfl) (by simp) ?_
          refine drawn_alloc 5 (some 8) (by kernel_rfl) alloc_z (fun g5 v5 hb5 hx5 hg5 => ⟨S3.trans hx5, ?_⟩) ?_
          · skip
            simp only [Act.put, List.setIfInBounds_toArray, List.set_cons_zero, List.set_cons_succ]
            have S5 := S3.trans hx5
            have ge5 := Nat.le_trans S3.size hg5
            have ltB7_5 := Nat.lt_of_lt_of_le (((show Bz v4 g4 false none 0 0 from hb4).ext hx1).ext hx3).lt hg5
            refine wpAnyH_ready (rs := [6]) (by kernel_rfl) (by simp) ?_
            refine drawn_store 6 30 (.tmp 7) (.tmp 33) g4 #[.bool b1, .slice A1 n1 c1] #[.bool false, .slice none 0 0] 30 (by kernel_rfl) rfl rfl ((((show Bz v4 g4 false none 0 0 from hb4).ext hx1).ext hx3).ext hx5) info_z_s rfl one_two (fun v6 hb6 hg6 => ⟨S5.gb hg6 ge4, ?_⟩) ?_
            · skip
              simp only [Act.put, List.setIfInBounds_toArray, List.set_cons_zero, List.set_cons_succ]
              have hq6 := ((((show Bz v4 g4 false none 0 0 from hb4).ext hx1).ext hx3).ext hx5)
              have S6 := S5.gb hg6 ge4
              refine wpAnyH_ready (rs := [7]) (by kernel_rfl) (by simp) ?_
              refine drawn_store 7 30 (.tmp 8) (.tmp 35) g5 #[.bool b3, .slice A3 n3 c3] #[.bool false, .slice none 0 0] 30 (by kernel_rfl) rfl rfl ((show Bz v5 g5 false none 0 0 from hb5).grown hg6 (by simp; omega)) info_z_s rfl one_two (fun v7 hb7 hg7 => ⟨S6.gb hg7 ge5, ?_⟩) ?_
              · skip
                simp only [Act.put, List.setIfInBounds_toArray, List.set_cons_zero, List.set_cons_succ]
                have hq7 := ((show Bz v5 g5 false none 0 0 from hb5).grown hg6 (by simp; omega))
                have S7 := S6.gb hg7 ge5
                refine wpAnyH_done (by kernel_rfl) ?_ _
                go_step
                go_step
                go_meet
                case rel => exact ⟨_, _, _, _, _, _, _, _, _, _, rfl, rfl, ((show Bz v6 g4 b1 A1 n1 c1 from hb6).grown hg7 (by simp; omega)), (show Bz v7 g5 b3 A3 n3 c3 from hb7), ((((o1.ext hx3).ext hx5).gbz hq6 hg6).gbz hq7 hg7), (((o3.ext hx5).gbz hq6 hg6).gbz hq7 hg7), S7⟩
              exact drawn_nil
            exact drawn_nil
          exact drawn_nil
        refine drawn_alloc 5 (some 8) (by kernel_rfl) alloc_z (fun g5 v5 hb5 hx5 hg5 => ⟨S1.trans hx5, ?_⟩) ?_
        · skip
          simp only [Act.put, List.setIfInBounds_toArray, List.set_cons_zero, List.set_cons_succ]
          have S5 := S1.trans hx5
          have ge5 := Nat.le_trans S1.size hg5
          have ltB7_5 := Nat.lt_of_lt_of_le ((show Bz v4 g4 false none 0 0 from hb4).ext hx1).lt hg5
          refine wpAnyH_ready (rs := [3]) (by kernel_rfl) (by simp) ?_
          refine drawn_call1 3 (some 35) (.tmp 34) (ts := #[24]) (by kernel_rfl) (enters_of Try.func9 (by kernel_rfl) rfl) rfl (zof_v (Hy.out.ext (X2.out.trans S5)) (by omega)) (fun E v3 hh => ?_) ?_
          · skip
            obtain ⟨b3, A3, n3, c3, rfl, o3, hx3⟩ := hh
            refine ⟨_, rfl, S5.trans hx3, ?_⟩
            simp only [Act.put, List.setIfInBounds_toArray, List.set_cons_zero, List.set_cons_succ]
            have S3 := S5.trans hx3
            refine wpAnyH_ready (rs := [6]) (by kernel_rfl) (by simp) ?_
            refine drawn_store 6 30 (.tmp 7) (.tmp 33) g4 #[.bool b1, .slice A1 n1 c1] #[.bool false, .slice none 0 0] 30 (by kernel_rfl) rfl rfl ((((show Bz v4 g4 false none 0 0 from hb4).ext hx1).ext hx5).ext hx3) info_z_s rfl one_two (fun v6 hb6 hg6 => ⟨S3.gb hg6 ge4, ?_⟩) ?_
            · skip
              simp only [Act.put, List.setIfInBounds_toArray, List.set_cons_zero, List.set_cons_succ]
              have hq6 := ((((show Bz v4 g4 false none 0 0 from hb4).ext hx1).ext hx5).ext hx3)
              have S6 := S3.gb hg6 ge4
              refine wpAnyH_ready (rs := [7]) (by kernel_rfl) (by simp) ?_
              refine drawn_store 7 30 (.tmp 8) (.tmp 35) g5 #[.bool b3, .slice A3 n3 c3] #[.bool false, .slice none 0 0] 30 (by kernel_rfl) rfl rfl (((show Bz v5 g5 false none 0 0 from hb5).ext hx3).grown hg6 (by simp; omega)) info_z_s rfl one_two (fun v7 hb7 hg7 => ⟨S6.gb hg7 ge5, ?_⟩) ?_
              · skip
                simp only [Act.put, List.setIfInBounds_toArray, List.set_cons_zero, List.set_cons_succ]
                have hq7 := (((show Bz v5 g5 false none 0 0 from hb5).ext hx3).grown hg6 (by simp; omega))
                have S7 := S6.gb hg7 ge5
                refine wpAnyH_done (by kernel_rfl) ?_ _
                go_step
                go_step
                go_meet
                case rel => exact ⟨_, _, _, _, _, _, _, _, _, _, rfl, rfl, ((show Bz v6 g4 b1 A1 n1 c1 from hb6).grown hg7 (by simp; omega)), (show Bz v7 g5 b3 A3 n3 c3 from hb7), ((((o1.ext hx5).ext hx3).gbz hq6 hg6).gbz hq7 hg7), ((o3.gbz hq6 hg6).gbz hq7 hg7), S7⟩
              exact drawn_nil
            exact drawn_nil
          exact drawn_nil
        exact drawn_nil
      refine drawn_alloc 5 (some 8) (by kernel_rfl) alloc_z (fun g5 v5 hb5 hx5 hg5 => ⟨S4.trans hx5, ?_⟩) ?_
      · skip
        simp only [Act.put, List.setIfInBounds_toArray, List.set_cons_zero, List.set_cons_succ]
        have S5 := S4.trans hx5
        have ge5 := Nat.le_trans S4.size hg5
        have ltB7_5 := Nat.lt_of_lt_of_le (show Bz v4 g4 false none 0 0 from hb4).lt hg5
        refine wpAnyH_ready (rs := [1]) (by kernel_rfl) (by simp) ?_
        refine drawn_call1 1 (some 33) (.tmp 32) (ts := #[24]) (by kernel_rfl) (enters_of Try.func9 (by kernel_rfl) rfl) rfl (zof_v (Hx.out.ext (X2.out.trans S5)) (by omega)) (fun E v1 hh => ?_) ?_
        · skip
          obtain ⟨b1, A1, n1, c1, rfl, o1, hx1⟩ := hh
          refine ⟨_, rfl, S5.trans hx1, ?_⟩
          simp only [Act.put, List.setIfInBounds_toArray, List.set_cons_zero, List.set_cons_succ]
          have S1 := S5.trans hx1
          refine wpAnyH_ready (rs := [3]) (by kernel_rfl) (by simp) ?_
          refine drawn_call1 3 (some 35) (.tmp 34) (ts := #[24]) (by kernel_rfl) (enters_of Try.func9 (by kernel_rfl) rfl) rfl (zof_v (Hy.out.ext (X2.out.trans S1)) (by omega)) (fun E v3 hh => ?_) ?_
          · skip
            obtain ⟨b3, A3, n3, c3, rfl, o3, hx3⟩ := hh
            refine ⟨_, rfl, S1.trans hx3, ?_⟩
            simp only [Act.put, List.setIfInBounds_toArray, List.set_cons_zero, List.set_cons_succ]
            have S3 := S1.trans hx3
            refine wpAnyH_ready (rs := [6]) (by kernel_rfl) (by simp) ?_
            refine drawn_store 6 30 (.tmp 7) (.tmp 33) g4 #[.bool b1, .slice A1 n1 c1] #[.bool false, .slice none 0 0] 30 (by kernel_rfl) rfl rfl ((((show Bz v4 g4 false none 0 0 from hb4).ext hx5).ext hx1).ext hx3) info_z_s rfl one_two (fun v6 hb6 hg6 => ⟨S3.gb hg6 ge4, ?_⟩) ?_
            · skip
              simp only [Act.put, List.setIfInBounds_toArray, List.set_cons_zero, List.set_cons_succ]
              have hq6 := ((((show Bz v4 g4 false none 0 0 from hb4).ext hx5).ext hx1).ext hx3)
              have S6 := S3.gb hg6 ge4
              refine wpAnyH_ready (rs := [7]) (by kernel_rfl) (by simp) ?_
              refine drawn_store 7 30 (.tmp 8) (.tmp 35) g5 #[.bool b3, .slice A3 n3 c3] #[.bool false, .slice none 0 0] 30 (by kernel_rfl) rfl rfl ((((show Bz v5 g5 false none 0 0 from hb5).ext hx1).ext hx3).grown hg6 (by simp; omega)) info_z_s rfl one_two (fun v7 hb7 hg7 => ⟨S6.gb hg7 ge5, ?_⟩) ?_
              · skip
                simp only [Act.put, List.setIfInBounds_toArray, List.set_cons_zero, List.set_cons_succ]
                have hq7 := ((((show Bz v5 g5 false none 0 0 from hb5).ext hx1).ext hx3).grown hg6 (by simp; omega))
                have S7 := S6.gb hg7 ge5
                refine wpAnyH_done (by kernel_rfl) ?_ _
                go_step
                go_step
                go_meet
                case rel => exact ⟨_, _, _, _, _, _, _, _, _, _, rfl, rfl, ((show Bz v6 g4 b1 A1 n1 c1 from hb6).grown hg7 (by simp; omega)), (show Bz v7 g5 b3 A3 n3 c3 from hb7), (((o1.ext hx3).gbz hq6 hg6).gbz hq7 hg7), ((o3.gbz hq6 hg6).gbz hq7 hg7), S7⟩
              exact drawn_nil
            exact drawn_nil
          exact drawn_nil
        exact drawn_nil
      exact drawn_nil
    refine drawn_alloc 5 (some 8) (by kernel_rfl) alloc_z (fun g5 v5 hb5 hx5 hg5 => ⟨hS0.trans hx5, ?_⟩) ?_
    · skip
      simp only [Act.put, List.setIfInBounds_toArray, List.set_cons_zero, List.set_cons_succ]
      have S5 := hS0.trans hx5
      have ge5 := Nat.le_trans hS0.size hg5
      refine wpAnyH_ready (rs := [1, 4]) (by kernel_rfl) (by simp) ?_
      refine drawn_call1 1 (some 33) (.tmp 32) (ts := #[24]) (by kernel_rfl) (enters_of Try.func9 (by kernel_rfl) rfl) rfl (zof_v (Hx.out.ext (X2.out.trans S5)) (by omega)) (fun E v1 hh => ?_) ?_
      · skip
        obtain ⟨b1, A1, n1, c1, rfl, o1, hx1⟩ := hh
        refine ⟨_, rfl, S5.trans hx1, ?_⟩
        simp only [Act.put, List.setIfInBounds_toArray, List.set_cons_zero, List.set_cons_succ]
        have S1 := S5.trans hx1
        refine wpAnyH_ready (rs := [3, 4]) (by kernel_rfl) (by simp) ?_
        refine drawn_call1 3 (some 35) (.tmp 34) (ts := #[24]) (by kernel_rfl) (enters_of Try.func9 (by kernel_rfl) rfl) rfl (zof_v (Hy.out.ext (X2.out.trans S1)) (by omega)) (fun E v3 hh => ?_) ?_
        · skip
          obtain ⟨b3, A3, n3, c3, rfl, o3, hx3⟩ := hh
          refine ⟨_, rfl, S1.trans hx3, ?_⟩
          simp only [Act.put, List.setIfInBounds_toArray, List.set_cons_zero, List.set_cons_succ]
          have S3 := S1.trans hx3
          refine wpAnyH_ready (rs := [4]) (by kernel_rfl) (by simp) ?_
          refine drawn_alloc 4 (some 7) (by kernel_rfl) alloc_z (fun g4 v4 hb4 hx4 hg4 => ⟨S3.trans hx4, ?_⟩) ?_
          · skip
            simp only [Act.put, List.setIfInBounds_toArray, List.set_cons_zero, List.set_cons_succ]
            have S4 := S3.trans hx4
            have ge4 := Nat.le_trans S3.size hg4
            have ltB8_4 := Nat.lt_of_lt_of_le (((show Bz v5 g5 false none 0 0 from hb5).ext hx1).ext hx3).lt hg4
            refine wpAnyH_ready (rs := [6]) (by kernel_rfl) (by simp) ?_
            refine drawn_store 6 30 (.tmp 7) (.tmp 33) g4 #[.bool b1, .slice A1 n1 c1] #[.bool false, .slice none 0 0] 30 (by kernel_rfl) rfl rfl (show Bz v4 g4 false none 0 0 from hb4) info_z_s rfl one_two (fun v6 hb6 hg6 => ⟨S4.gb hg6 ge4, ?_⟩) ?_
            · skip
              simp only [Act.put, List.setIfInBounds_toArray, List.set_cons_zero, List.set_cons_succ]
              have hq6 := (show Bz v4 g4 false none 0 0 from hb4)
              have S6 := S4.gb hg6 ge4
              refine wpAnyH_ready (rs := [7]) (by kernel_rfl) (by simp) ?_
              refine drawn_store 7 30 (.tmp 8) (.tmp 35) g5 #[.bool b3, .slice A3 n3 c3] #[.bool false, .slice none 0 0] 30 (by kernel_rfl) rfl rfl (((((show Bz v5 g5 false none 0 0 from hb5).ext hx1).ext hx3).ext hx4).grown hg6 (by simp; omega)) info_z_s rfl one_two (fun v7 hb7 hg7 => ⟨S6.gb hg7 ge5, ?_⟩) ?_
              · skip
                simp only [Act.put, List.setIfInBounds_toArray, List.set_cons_zero, List.set_cons_succ]
                have hq7 := (((((show Bz v5 g5 false none 0 0 from hb5).ext hx1).ext hx3).ext hx4).grown hg6 (by simp; omega))
                have S7 := S6.gb hg7 ge5
                refine wpAnyH_done (by kernel_rfl) ?_ _
                go_step
                go_step
                go_meet
                case rel => exact ⟨_, _, _, _, _, _, _, _, _, _, rfl, rfl, ((show Bz v6 g4 b1 A1 n1 c1 from hb6).grown hg7 (by simp; omega)), (show Bz v7 g5 b3 A3 n3 c3 from hb7), ((((o1.ext hx3).ext hx4).gbz hq6 hg6).gbz hq7 hg7), (((o3.ext hx4).gbz hq6 hg6).gbz hq7 hg7), S7⟩
              exact drawn_nil
            exact drawn_nil
          exact drawn_nil
        refine drawn_alloc 4 (some 7) (by kernel_rfl) alloc_z (fun g4 v4 hb4 hx4 hg4 => ⟨S1.trans hx4, ?_⟩) ?_
        · skip
          simp only [Act.put, List.setIfInBounds_toArray, List.set_cons_zero, List.set_cons_succ]
          have S4 := S1.trans hx4
          have ge4 := Nat.le_trans S1.size hg4
          have ltB8_4 := Nat.lt_of_lt_of_le ((show Bz v5 g5 false none 0 0 from hb5).ext hx1).lt hg4
          refine wpAnyH_ready (rs := [3]) (by kernel_rfl) (by simp) ?_
          refine drawn_call1 3 (some 35) (.tmp 34) (ts := #[24]) (by kernel_rfl) (enters_of Try.func9 (by kernel_rfl) rfl) rfl (zof_v (Hy.out.ext (X2.out.trans S4)) (by omega)) (fun E v3 hh => ?_) ?_
          · skip
            obtain ⟨b3, A3, n3, c3, rfl, o3, hx3⟩ := hh
            refine ⟨_, rfl, S4.trans hx3, ?_⟩
            simp only [Act.put, List.setIfInBounds_toArray, List.set_cons_zero, List.set_cons_succ]
            have S3 := S4.trans hx3
            refine wpAnyH_ready (rs := [6]) (by kernel_rfl) (by simp) ?_
            refine drawn_store 6 30 (.tmp 7) (.tmp 33) g4 #[.bool b1, .slice A1 n1 c1] #[.bool false, .slice none 0 0] 30 (by kernel_rfl) rfl rfl ((show Bz v4 g4 false none 0 0 from hb4).ext hx3) info_z_s rfl one_two (fun v6 hb6 hg6 => ⟨S3.gb hg6 ge4, ?_⟩) ?_
            · skip
              simp only [Act.put, List.setIfInBounds_toArray, List.set_cons_zero, List.set_cons_succ]
              have hq6 := ((show Bz v4 g4 false none 0 0 from hb4).ext hx3)
              have S6 := S3.gb hg6 ge4
              refine wpAnyH_ready (rs := [7]) (by kernel_rfl) (by simp) ?_
              refine drawn_store 7 30 (.tmp 8) (.tmp 35) g5 #[.bool b3, .slice A3 n3 c3] #[.bool false, .slice none 0 0] 30 (by kernel_rfl) rfl rfl (((((show Bz v5 g5 false none 0 0 from hb5).ext hx1).ext hx4).ext hx3).grown hg6 (by simp; omega)) info_z_s rfl one_two (fun v7 hb7 hg7 => ⟨S6.gb hg7 ge5, ?_⟩) ?_
              · skip
                simp only [Act.put, List.setIfInBounds_toArray, List.set_cons_zero, List.set_cons_succ]
                have hq7 := (((((show Bz v5 g5 false none 0 0 from hb5).ext hx1).ext hx4).ext hx3).grown hg6 (by simp; omega))
                have S7 := S6.gb hg7 ge5
                refine wpAnyH_done (by kernel_rfl) ?_ _
                go_step
                go_step
                go_meet
                case rel => exact ⟨_, _, _, _, _, _, _, _, _, _, rfl, rfl, ((show Bz v6 g4 b1 A1 n1 c1 from hb6).grown hg7 (by simp; omega)), (show Bz v7 g5 b3 A3 n3 c3 from hb7), ((((o1.ext hx4).ext hx3).gbz hq6 hg6).gbz hq7 hg7), ((o3.gbz hq6 hg6).gbz hq7 hg7), S7⟩
              exact drawn_nil
            exact drawn_nil
          exact drawn_nil
        exact drawn_nil
      refine drawn_alloc 4 (some 7) (by kernel_rfl) alloc_z (fun g4 v4 hb4 hx4 hg4 => ⟨S5.trans hx4, ?_⟩) ?_
      · skip
        simp only [Act.put, List.setIfInBounds_toArray, List.set_cons_zero, List.set_cons_succ]
        have S4 := S5.trans hx4
        have ge4 := Nat.le_trans S5.size hg4
        have ltB8_4 := Nat.lt_of_lt_of_le (show Bz v5 g5 false none 0 0 from hb5).lt hg4
        refine wpAnyH_ready (rs := [1]) (by kernel_rfl) (by simp) ?_
        refine drawn_call1 1 (some 33) (.tmp 32) (ts := #[24]) (by kernel_rfl) (enters_of Try.func9 (by kernel_rfl) rfl) rfl (zof_v (Hx.out.ext (X2.out.trans S4)) (by omega)) (fun E v1 hh => ?_) ?_
        · skip
          obtain ⟨b1, A1, n1, c1, rfl, o1, hx1⟩ := hh
          refine ⟨_, rfl, S4.trans hx1, ?_⟩
          simp only [Act.put, List.setIfInBounds_toArray, List.set_cons_zero, List.set_cons_succ]
          have S1 := S4.trans hx1
          refine wpAnyH_ready (rs := [3]) (by kernel_rfl) (by simp) ?_
          refine drawn_call1 3 (some 35) (.tmp 34) (ts := #[24]) (by kernel_rfl) (enters_of Try.func9 (by kernel_rfl) rfl) rfl (zof_v (Hy.out.ext (X2.out.trans S1)) (by omega)) (fun E v3 hh => ?_) ?_
          · skip
            obtain ⟨b3, A3, n3, c3, rfl, o3, hx3⟩ := hh
            refine ⟨_, rfl, S1.trans hx3, ?_⟩
            simp only [Act.put, List.setIfInBounds_toArray, List.set_cons_zero, List.set_cons_succ]
            have S3 := S1.trans hx3
            refine wpAnyH_ready (rs := [6]) (by kernel_rfl) (by simp) ?_
            refine drawn_store 6 30 (.tmp 7) (.tmp 33) g4 #[.bool b1, .slice A1 n1 c1] #[.bool false, .slice none 0 0] 30 (by kernel_rfl) rfl rfl (((show Bz v4 g4 false none 0 0 from hb4).ext hx1).ext hx3) info_z_s rfl one_two (fun v6 hb6 hg6 => ⟨S3.gb hg6 ge4, ?_⟩) ?_
            · skip
              simp only [Act.put, List.setIfInBounds_toArray, List.set_cons_zero, List.set_cons_succ]
              have hq6 := (((show Bz v4 g4 false none 0 0 from hb4).ext hx1).ext hx3)
              have S6 := S3.gb hg6 ge4
              refine wpAnyH_ready (rs := [7]) (by kernel_rfl) (by simp) ?_
              refine drawn_store 7 30 (.tmp 8) (.tmp 35) g5 #[.bool b3, .slice A3 n3 c3] #[.bool false, .slice none 0 0] 30 (by kernel_rfl) rfl rfl (((((show Bz v5 g5 false none 0 0 from hb5).ext hx4).ext hx1).ext hx3).grown hg6 (by simp; omega)) info_z_s rfl one_two (fun v7 hb7 hg7 => ⟨S6.gb hg7 ge5, ?_⟩) ?_
              · skip
                simp only [Act.put, List.setIfInBounds_toArray, List.set_cons_zero, List.set_cons_succ]
                have hq7 := (((((show Bz v5 g5 false none 0 0 from hb5).ext hx4).ext hx1).ext hx3).grown hg6 (by simp; omega))
                have S7 := S6.gb hg7 ge5
                refine wpAnyH_done (by kernel_rfl) ?_ _
                go_step
                go_step
                go_meet
                case rel => exact ⟨_, _, _, _, _, _, _, _, _, _, rfl, rfl, ((show Bz v6 g4 b1 A1 n1 c1 from hb6).grown hg7 (by simp; omega)), (show Bz v7 g5 b3 A3 n3 c3 from hb7), (((o1.ext hx3).gbz hq6 hg6).gbz hq7 hg7), ((o3.gbz hq6 hg6).gbz hq7 hg7), S7⟩
              exact drawn_nil
            exact drawn_nil
          exact drawn_nil
        exact drawn_nil
      exact drawn_nil
    exact drawn_nil
  case rest =>
  obtain ⟨g7, bu, Pu, lu, ku, g8, bv, Pv, lv, kv, rfl, rfl, Bu, Bv, Ou, Ov, hy3⟩ := hcut
  obtain ⟨w3, hw3⟩ : ∃ w3, w3 = wc := ⟨_, rfl⟩
  subst hw3
  have HBu := hid Bu
  have HOu := hid Ou
  clear Bu Ou
  have HBv := hid Bv
  have HOv := hid Ov
  clear Bv Ov
  have hy3 := hid hy3
  have X3 := hid (X2.out.trans hy3.out)
  obtain ⟨f3_0, f3_1, f3_2, f3_3⟩ : w3.cell? ⟨w.heap.size, 0, none⟩ = some (.bool sx) ∧ w3.cell? ⟨w.heap.size, 1, none⟩ = some (.slice Px lx kx) ∧ w3.cell? ⟨w.heap.size + 1, 0, none⟩ = some (.bool sy) ∧ w3.cell? ⟨w.heap.size + 1, 1, none⟩ = some (.slice Py ly ky) := ⟨(HBx.out.ext (hy2.out.trans hy3.out)).c0, (HBx.out.ext (hy2.out.trans hy3.out)).c1, (HBy.out.ext (hy2.out.trans hy3.out)).c0, (HBy.out.ext (hy2.out.trans hy3.out)).c1⟩
  go_upto_region 5 with (first
    | ((go_at_call 10); (with_reducible refine (wdivmod_v (Hx.out.ext ((hy1.out.trans hy2.out).trans hy3.out)) (Hy.out.ext ((hy1.out.trans hy2.out).trans hy3.out)) (by omega) HY0.out).mono ?_); rintro E4 w4 ⟨b4, A4, n4, c4, e4, B4, m4, d4, rfl, o4, p4, hr4⟩; have O4 := hid o4; have P4 := hid p4; clear o4 p4; have X4 := hid (X3.out.trans hr4); have hy4 := hid hr4; clear hr4))
  clear f3_0 f3_1 f3_2 f3_3
  have hy5 := hid (((Ext.refl w4).alloc (.cells #[.bool b4, .slice A4 n4 c4] 24)).alloc (.cells #[.bool e4, .slice B4 m4 d4] 24))
  have Bq := ((Bx.new w4 b4 A4 n4 c4).ext ((Ext.refl (w4.alloc (.cells #[.bool b4, .slice A4 n4 c4] 24))).alloc (.cells #[.bool e4, .slice B4 m4 d4] 24)))
  have HBq := hid Bq
  clear Bq
  have Br := (Bx.new (w4.alloc (.cells #[.bool b4, .slice A4 n4 c4] 24)) e4 B4 m4 d4)
  rw [size_alloc] at Br
  have HBr := hid Br
  clear Br
  generalize ((w4.alloc (.cells #[.bool b4, .slice A4 n4 c4] 24)).alloc (.cells #[.bool e4, .slice B4 m4 d4] 24)) = w5 at *
  have X5 := hid (X4.out.trans hy5.out)
  obtain ⟨f5_0, f5_1, f5_2, f5_3⟩ : w5.cell? ⟨w.heap.size, 0, none⟩ = some (.bool sx) ∧ w5.cell? ⟨w.heap.size, 1, none⟩ = some (.slice Px lx kx) ∧ w5.cell? ⟨w.heap.size + 1, 0, none⟩ = some (.bool sy) ∧ w5.cell? ⟨w.heap.size + 1, 1, none⟩ = some (.slice Py ly ky) := ⟨(HBx.out.ext (((hy2.out.trans hy3.out).trans hy4.out).trans hy5.out)).c0, (HBx.out.ext (((hy2.out.trans hy3.out).trans hy4.out).trans hy5.out)).c1, (HBy.out.ext (((hy2.out.trans hy3.out).trans hy4.out).trans hy5.out)).c0, (HBy.out.ext (((hy2.out.trans hy3.out).trans hy4.out).trans hy5.out)).c1⟩
  go_upto_region 6 with (first
    | ((go_at_call 11); (with_reducible refine (wexact_yes (Hx.out.ext ((((hy1.out.trans hy2.out).trans hy3.out).trans hy4.out).trans hy5.out)) (Hy.out.ext ((((hy1.out.trans hy2.out).trans hy3.out).trans hy4.out).trans hy5.out)) (by omega) HY0.out HR0.out).mono ?_); rintro E6 w6 ⟨b6, A6, n6, c6, rfl, o6, hr6⟩; have O6 := hid o6; clear o6; have X6 := hid (X5.out.trans hr6); have hy6 := hid hr6; clear hr6))
  clear f5_0 f5_1 f5_2 f5_3
  have hy7 := hid ((Ext.refl w6).alloc (.cells #[.bool b6, .slice A6 n6 c6] 24))
  have Bp := (Bx.new w6 b6 A6 n6 c6)
  have HBp := hid Bp
  clear Bp
  generalize (w6.alloc (.cells #[.bool b6, .slice A6 n6 c6] 24)) = w7 at *
  have X7 := hid (X6.out.trans hy7.out)
  obtain ⟨f7_0, f7_1, f7_2, f7_3⟩ : w7.cell? ⟨w.heap.size, 0, none⟩ = some (.bool sx) ∧ w7.cell? ⟨w.heap.size, 1, none⟩ = some (.slice Px lx kx) ∧ w7.cell? ⟨w.heap.size + 1, 0, none⟩ = some (.bool sy) ∧ w7.cell? ⟨w.heap.size + 1, 1, none⟩ = some (.slice Py ly ky) := ⟨(HBx.out.ext (((((hy2.out.trans hy3.out).trans hy4.out).trans hy5.out).trans hy6.out).trans hy7.out)).c0, (HBx.out.ext (((((hy2.out.trans hy3.out).trans hy4.out).trans hy5.out).trans hy6.out).trans hy7.out)).c1, (HBy.out.ext (((((hy2.out.trans hy3.out).trans hy4.out).trans hy5.out).trans hy6.out).trans hy7.out)).c0, (HBy.out.ext (((((hy2.out.trans hy3.out).trans hy4.out).trans hy5.out).trans hy6.out).trans hy7.out)).c1⟩
  go_upto_region 7 with (first
    | ((go_at_call 12); (with_reducible refine (wgcd_v (Hx.out.ext ((((((hy1.out.trans hy2.out).trans hy3.out).trans hy4.out).trans hy5.out).trans hy6.out).trans hy7.out)) (Hy.out.ext ((((((hy1.out.trans hy2.out).trans hy3.out).trans hy4.out).trans hy5.out).trans hy6.out).trans hy7.out)) (by omega)).mono ?_); rintro E8 w8 ⟨b8, A8, n8, c8, rfl, o8, hr8⟩; have O8 := hid o8; clear o8; have X8 := hid (X7.out.trans hr8); have hy8 := hid hr8; clear hr8))
  clear f7_0 f7_1 f7_2 f7_3
  have hy9 := hid ((Ext.refl w8).alloc (.cells #[.bool b8, .slice A8 n8 c8] 24))
  have Bg := (Bx.new w8 b8 A8 n8 c8)
  have HBg := hid Bg
  clear Bg
  generalize (w8.alloc (.cells #[.bool b8, .slice A8 n8 c8] 24)) = w9 at *
  have X9 := hid (X8.out.trans hy9.out)
  obtain ⟨f9_0, f9_1, f9_2, f9_3⟩ : w9.cell? ⟨w.heap.size, 0, none⟩ = some (.bool sx) ∧ w9.cell? ⟨w.heap.size, 1, none⟩ = some (.slice Px lx kx) ∧ w9.cell? ⟨w.heap.size + 1, 0, none⟩ = some (.bool sy) ∧ w9.cell? ⟨w.heap.size + 1, 1, none⟩ = some (.slice Py ly ky) := ⟨(HBx.out.ext (((((((hy2.out.trans hy3.out).trans hy4.out).trans hy5.out).trans hy6.out).trans hy7.out).trans hy8.out).trans hy9.out)).c0, (HBx.out.ext (((((((hy2.out.trans hy3.out).trans hy4.out).trans hy5.out).trans hy6.out).trans hy7.out).trans hy8.out).trans hy9.out)).c1, (HBy.out.ext (((((((hy2.out.trans hy3.out).trans hy4.out).trans hy5.out).trans hy6.out).trans hy7.out).trans hy8.out).trans hy9.out)).c0, (HBy.out.ext (((((((hy2.out.trans hy3.out).trans hy4.out).trans hy5.out).trans hy6.out).trans hy7.out).trans hy8.out).trans hy9.out)).c1⟩
  go_cut [15, 16] (fun v15 v16 wx => ∃ (g15 : Nat) (b15 : Bool) (P15 : Option Addr) (l15 k15 : Nat) (er : Int), v15 = .pointer (some ⟨g15, 0, none⟩) ∧ v16 = .int .i64 er ∧ Bx wx g15 b15 P15 l15 k15 ∧ ((0 ≤ N ∧ N ≤ 6 ∧ er = 0 ∧ Ci 200 wx 0 b15 P15 l15 k15 (x ^ N.toNat)) ∨ ((N < 0 ∨ 1000 < N) ∧ er = 2 ∧ l15 = 0)) ∧ Ext w9 wx)
  case first =>
    by_cases hp : 0 ≤ N ∧ N ≤ 6
    · have HP := hid hp
      clear hp
      go_wp2_with (go_at_call 13; (with_reducible refine (wpow_is (N := N.toNat) (by have := HP.out; omega) (Hx.out.ext ((((((((hy1.out.trans hy2.out).trans hy3.out).trans hy4.out).trans hy5.out).trans hy6.out).trans hy7.out).trans hy8.out).trans hy9.out)) (by omega) (by have := HP.out; omega)).mono ?_); rintro E v ⟨b, A, n, c, rfl, o, hr⟩; have HO := hid o; have HR := hid hr; clear o hr)
      go_meet
      case rel => exact ⟨_, _, _, _, _, _, rfl, rfl, Bx.new v b A n c, .inl ⟨HP.out.1, HP.out.2, rfl, ((HO.out.ext ((Ext.refl v).alloc _)).mono (Nat.zero_le _)).weak (by have := HP.out; omega)⟩, HR.out.alloc _⟩
    · have HP : Hid (N < 0 ∨ 1000 < N) := by have := HN.out; show _ ∨ _; omega
      clear hp
      go_wp2_with (go_at_call 13; (with_reducible refine (wpow_bad HP.out).mono ?_); rintro E v ⟨b, A, n, c, rfl, o, hr⟩; have HO := hid o; have HR := hid hr; clear o hr)
      go_meet
      case rel => exact ⟨_, _, _, _, _, _, rfl, rfl, Bx.new v b A n c, .inr ⟨HP.out, rfl, HO.out.2.len0 rfl⟩, HR.out.alloc _⟩
  case rest =>
  clear f9_0 f9_1 f9_2 f9_3
  obtain ⟨g15, b15, P15, l15, k15, er, rfl, rfl, B15, hpw, hy10⟩ := hcut
  obtain ⟨w10, hw10⟩ : ∃ w10, w10 = wc := ⟨_, rfl⟩
  subst hw10
  have HBw := hid B15
  have HPW := hid hpw
  have hy10 := hid hy10
  have X10 := hid (X9.out.trans hy10.out)
  clear B15 hpw
  go_upto_region 8 with fail
  go_cut [102] (fun v102 wx => v102 = .bool false ∧ Ext w10 wx)
  case first =>
    rcases HPW.out with ⟨hn0, hn6, rfl, hci⟩ | ⟨hnb, rfl, rfl⟩
    · have hn1000 : N ≤ 1000 := by omega
      as_aux_lemma =>
        refine wp_region_held_drew (S := fun w' => Ext w10 w') (by kernel_rfl) (Ext.refl _).drew (fun hS0 => ?_)
        change wpAnyH _ _ _ _ _ 45 #[false, false, false, false, false, false, false, false, false, false, false, false, false, false, false, false, false, false, false, false, false, false, false, false, false, false, false, false, false, false, false, false, false, false, false, false, false, false, false, false, false, false, false, false, false] _ _
        refine drawn_loadG 0 58 24 (.tmp 14) none (w8.heap.size) 24 #[.bool b8, .slice A8 n8 c8] (0, 0) _ (by kernel_rfl) rfl rfl (fun w' hS => (HBg.out.ext hy10.out).ext hS) Try.underlying24 rfl info_int_s (by as_aux_lemma => kernel_rfl) (by as_aux_lemma => kernel_rfl) (by as_aux_lemma => kernel_rfl) (fun _ _ _ _ h => h) hS0 ?_
        simp only [Act.put, List.setIfInBounds_toArray, List.set_cons_zero, List.set_cons_succ]
        refine drawn_loadG 1 59 30 (.tmp 7) none (g7) 30 #[.bool bu, .slice Pu lu ku] (0, 0) _ (by kernel_rfl) rfl rfl (fun w' hS => (HBu.out.ext ((((((hy4.out.trans hy5.out).trans hy6.out).trans hy7.out).trans hy8.out).trans hy9.out).trans hy10.out)).ext hS) Try.underlying30 rfl info_z_s (by as_aux_lemma => kernel_rfl) (by as_aux_lemma => kernel_rfl) (by as_aux_lemma => kernel_rfl) (fun _ _ _ _ h => h) hS0 ?_
        simp only [Act.put, List.setIfInBounds_toArray, List.set_cons_zero, List.set_cons_succ]
        refine drawn_loadG 2 60 30 (.tmp 8) none (g8) 30 #[.bool bv, .slice Pv lv kv] (0, 0) _ (by kernel_rfl) rfl rfl (fun w' hS => (HBv.out.ext ((((((hy4.out.trans hy5.out).trans hy6.out).trans hy7.out).trans hy8.out).trans hy9.out).trans hy10.out)).ext hS) Try.underlying30 rfl info_z_s (by as_aux_lemma => kernel_rfl) (by as_aux_lemma => kernel_rfl) (by as_aux_lemma => kernel_rfl) (fun _ _ _ _ h => h) hS0 ?_
        simp only [Act.put, List.setIfInBounds_toArray, List.set_cons_zero, List.set_cons_succ]
        refine wpAnyH_ready (rs := [3]) (by kernel_rfl) (by simp) ?_
        refine drawn_callG2 3 (some 61) (.tmp 59) (.tmp 60) (ts := #[30, 30]) none (by kernel_rfl) rfl (enters_of Try.func15 (by kernel_rfl) rfl) rfl rfl (zgcd_v (((HOu.out.ext ((((((hy4.out.trans hy5.out).trans hy6.out).trans hy7.out).trans hy8.out).trans hy9.out).trans hy10.out))).ext hS0) (((HOv.out.ext ((((((hy4.out.trans hy5.out).trans hy6.out).trans hy7.out).trans hy8.out).trans hy9.out).trans hy10.out))).ext hS0) (by omega)) (fun E v3 hh => ?_) drawn_nil
        obtain ⟨b3, A3, n3, c3, rfl, o3, hx3⟩ := hh
        refine ⟨_, rfl, hS0.trans hx3, ?_⟩
        simp only [Act.put, List.setIfInBounds_toArray, List.set_cons_zero, List.set_cons_succ]
        have S3 := hS0.trans hx3
        refine wpAnyH_ready (rs := [4]) (by kernel_rfl) (by simp) ?_
        refine drawn_callG1 4 (some 62) (.tmp 61) (ts := #[30]) none (by kernel_rfl) rfl (enters_of Try.func16 (by kernel_rfl) rfl) rfl (zint_v o3 (by omega)) (fun E v4 hh => ?_) drawn_nil
        obtain ⟨b4, A4, n4, c4, rfl, o4, hx4⟩ := hh
        refine ⟨_, rfl, S3.trans hx4, ?_⟩
        simp only [Act.put, List.setIfInBounds_toArray, List.set_cons_zero, List.set_cons_succ]
        have S4 := S3.trans hx4
        refine wpAnyH_ready (rs := [5]) (by kernel_rfl) (by simp) ?_
        refine drawn_callG2 5 (some 63) (.tmp 58) (.tmp 62) (ts := #[24, 24]) none (by kernel_rfl) rfl (enters_of Try.func14 (by kernel_rfl) rfl) rfl rfl (zsame_v (((O8.out.ext (hy9.out.trans hy10.out))).ext S4) o4 (by omega) rfl) (fun E v5 hh => ?_) drawn_nil
        obtain ⟨rfl, hx5⟩ := hh
        refine ⟨_, rfl, S4.trans hx5, ?_⟩
        simp only [Act.put, List.setIfInBounds_toArray, List.set_cons_zero, List.set_cons_succ]
        have S5 := S4.trans hx5
        refine drawn_freeG 6 64 (v := ?v6_89) (.unOp .not 4 (.tmp 63)) none (by kernel_rfl) rfl ?hy6_89 (by as_aux_lemma => kernel_rfl) (by as_aux_lemma => kernel_rfl) (by as_aux_lemma => kernel_rfl) (fun _ _ _ _ h => h) S5 ?hr6_89
        case hy6_89 => (intro o ho w' hS; unfold execOp; simp only [ho]; go_simp; try with_reducible rfl)
        simp only [Act.put, List.setIfInBounds_toArray, List.set_cons_zero, List.set_cons_succ]
        refine drawn_freeG 7 65 (v := ?v7_90) (.move (.tmp 64)) none (by kernel_rfl) rfl ?hy7_90 (by as_aux_lemma => kernel_rfl) (by as_aux_lemma => kernel_rfl) (by as_aux_lemma => kernel_rfl) (fun _ _ _ _ h => h) S5 ?hr7_90
        case hy7_90 => (intro o ho w' hS; unfold execOp; simp only [ho]; go_simp; try with_reducible rfl)
        simp only [Act.put, List.setIfInBounds_toArray, List.set_cons_zero, List.set_cons_succ]
        refine drawn_freeG 8 66 (v := ?v8_91) (.move (.tmp 16)) (some (7, false)) (by kernel_rfl) rfl ?hy8_91 (by as_aux_lemma => kernel_rfl) (by as_aux_lemma => kernel_rfl) (by as_aux_lemma => kernel_rfl) (fun _ _ _ _ h => h) S5 ?hr8_91
        case hy8_91 => (intro o ho w' hS; unfold execOp; simp only [ho]; go_simp; try with_reducible rfl)
        simp only [Act.put, List.setIfInBounds_toArray, List.set_cons_zero, List.set_cons_succ]
        refine drawn_freeG 9 67 (v := ?v9_92) (.binOp .eql 32 (.tmp 66) (.const (.int .i64 0)) 32) (some (7, false)) (by kernel_rfl) rfl ?hy9_92 (by as_aux_lemma => kernel_rfl) (by as_aux_lemma => kernel_rfl) (by as_aux_lemma => kernel_rfl) (fun _ _ _ _ h => h) S5 ?hr9_92
        case hy9_92 => (intro o ho w' hS; unfold execOp; simp only [ho]; go_simp; try with_reducible rfl)
        simp only [Act.put, List.setIfInBounds_toArray, List.set_cons_zero, List.set_cons_succ]
        refine drawn_freeG 10 68 (v := ?v10_93) (.move (.tmp 2)) (some (7, false)) (by kernel_rfl) rfl ?hy10_93 (by as_aux_lemma => kernel_rfl) (by as_aux_lemma => kernel_rfl) (by as_aux_lemma => kernel_rfl) (fun _ _ _ _ h => h) S5 ?hr10_93
        case hy10_93 => (intro o ho w' hS; unfold execOp; simp only [ho]; go_simp; try with_reducible rfl)
        simp only [Act.put, List.setIfInBounds_toArray, List.set_cons_zero, List.set_cons_succ]
        refine drawn_freeG 11 69 (v := ?v11_94) (.binOp .geq 3 (.tmp 68) (.const (.int .i64 0)) 3) (some (7, false)) (by kernel_rfl) rfl ?hy11_94 (by as_aux_lemma => kernel_rfl) (by as_aux_lemma => kernel_rfl) (by as_aux_lemma => kernel_rfl) (fun _ _ _ _ h => h) S5 ?hr11_94
        case hy11_94 => (intro o ho w' hS; unfold execOp; simp only [ho]; go_simp; try with_reducible rfl)
        simp only [Act.put, List.setIfInBounds_toArray, List.set_cons_zero, List.set_cons_succ]
        refine drawn_freeG 12 70 (v := ?v12_95) (.move (.tmp 69)) (some (7, false)) (by kernel_rfl) rfl ?hy12_95 (by as_aux_lemma => kernel_rfl) (by as_aux_lemma => kernel_rfl) (by as_aux_lemma => kernel_rfl) (fun _ _ _ _ h => h) S5 ?hr12_95
        case hy12_95 => (intro o ho w' hS; unfold execOp; simp only [ho]; go_simp; try with_reducible rfl)
        simp only [Act.put, List.setIfInBounds_toArray, List.set_cons_zero, List.set_cons_succ]
        refine drawn_freeG 13 71 (v := ?v13_96) (.move (.tmp 2)) (some (12, true)) (by kernel_rfl) rfl ?hy13_96 (by as_aux_lemma => kernel_rfl) (by as_aux_lemma => kernel_rfl) (by as_aux_lemma => kernel_rfl) (fun _ _ _ _ h => h) S5 ?hr13_96
        case hy13_96 => (intro o ho w' hS; unfold execOp; simp only [ho]; go_simp; try with_reducible rfl)
        simp only [Act.put, List.setIfInBounds_toArray, List.set_cons_zero, List.set_cons_succ]
        refine drawn_freeG 14 72 (v := ?v14_97) (.binOp .leq 3 (.tmp 71) (.const (.int .i64 1000)) 3) (some (12, true)) (by kernel_rfl) rfl ?hy14_97 (by as_aux_lemma => kernel_rfl) (by as_aux_lemma => kernel_rfl) (by as_aux_lemma => kernel_rfl) (fun _ _ _ _ h => h) S5 ?hr14_97
        case hy14_97 => (intro o ho w' hS; unfold execOp; simp only [ho]; go_simp; try with_reducible rfl)
        simp only [Act.put, List.setIfInBounds_toArray, List.set_cons_zero, List.set_cons_succ]
        refine drawn_freeG 15 73 (v := ?v15_98) (.pick (.tmp 70) (.tmp 72) (.const (.bool false))) (some (7, false)) (by kernel_rfl) rfl ?hy15_98 (by as_aux_lemma => kernel_rfl) (by as_aux_lemma => kernel_rfl) (by as_aux_lemma => kernel_rfl) (fun _ _ _ _ h => h) S5 ?hr15_98
        case hy15_98 => (intro o ho w' hS; unfold execOp; simp only [ho]; go_simp; try with_reducible rfl)
        simp only [Act.put, List.setIfInBounds_toArray, List.set_cons_zero, List.set_cons_succ]
        refine drawn_freeG 16 74 (v := ?v16_99) (.binOp .neq 4 (.tmp 67) (.tmp 73) 4) (some (7, false)) (by kernel_rfl) rfl ?hy16_99 (by as_aux_lemma => kernel_rfl) (by as_aux_lemma => kernel_rfl) (by as_aux_lemma => kernel_rfl) (fun _ _ _ _ h => h) S5 ?hr16_99
        case hy16_99 => (intro o ho w' hS; unfold execOp; simp only [ho]; go_simp; try with_reducible rfl)
        simp only [Act.put, List.setIfInBounds_toArray, List.set_cons_zero, List.set_cons_succ]
        refine drawn_freeG 17 75 (v := ?v17_100) (.pick (.tmp 65) (.const (.bool true)) (.tmp 74)) none (by kernel_rfl) rfl ?hy17_100 (by as_aux_lemma => kernel_rfl) (by as_aux_lemma => kernel_rfl) (by as_aux_lemma => kernel_rfl) (fun _ _ _ _ h => h) S5 ?hr17_100
        case hy17_100 => (intro o ho w' hS; unfold execOp; simp only [ho]; go_simp; try with_reducible rfl)
        simp only [Act.put, List.setIfInBounds_toArray, List.set_cons_zero, List.set_cons_succ]
        refine drawn_freeG 18 76 (v := ?v18_101) (.move (.tmp 75)) none (by kernel_rfl) rfl ?hy18_101 (by as_aux_lemma => kernel_rfl) (by as_aux_lemma => kernel_rfl) (by as_aux_lemma => kernel_rfl) (fun _ _ _ _ h => h) S5 ?hr18_101
        case hy18_101 => (intro o ho w' hS; unfold execOp; simp only [ho]; go_simp; try with_reducible rfl)
        simp only [Act.put, List.setIfInBounds_toArray, List.set_cons_zero, List.set_cons_succ]
        refine drawn_freeG 19 77 (v := ?v19_102) (.move (.tmp 16)) (some (18, false)) (by kernel_rfl) rfl ?hy19_102 (by as_aux_lemma => kernel_rfl) (by as_aux_lemma => kernel_rfl) (by as_aux_lemma => kernel_rfl) (fun _ _ _ _ h => h) S5 ?hr19_102
        case hy19_102 => (intro o ho w' hS; unfold execOp; simp only [ho]; go_simp; try with_reducible rfl)
        simp only [Act.put, List.setIfInBounds_toArray, List.set_cons_zero, List.set_cons_succ]
        refine drawn_freeG 20 78 (v := ?v20_103) (.binOp .eql 32 (.tmp 77) (.const (.int .i64 0)) 32) (some (18, false)) (by kernel_rfl) rfl ?hy20_103 (by as_aux_lemma => kernel_rfl) (by as_aux_lemma => kernel_rfl) (by as_aux_lemma => kernel_rfl) (fun _ _ _ _ h => h) S5 ?hr20_103
        case hy20_103 => (intro o ho w' hS; unfold execOp; simp only [ho]; go_simp; try with_reducible rfl)
        simp only [Act.put, List.setIfInBounds_toArray, List.set_cons_zero, List.set_cons_succ]
        refine drawn_freeG 21 79 (v := ?v21_104) (.move (.tmp 78)) (some (18, false)) (by kernel_rfl) rfl ?hy21_104 (by as_aux_lemma => kernel_rfl) (by as_aux_lemma => kernel_rfl) (by as_aux_lemma => kernel_rfl) (fun _ _ _ _ h => h) S5 ?hr21_104
        case hy21_104 => (intro o ho w' hS; unfold execOp; simp only [ho]; go_simp; try with_reducible rfl)
        simp only [Act.put, List.setIfInBounds_toArray, List.set_cons_zero, List.set_cons_succ]
        refine drawn_loadG 22 80 24 (.tmp 15) (some (21, true)) (g15) 24 #[.bool b15, .slice P15 l15 k15] (0, 0) _ (by kernel_rfl) rfl rfl (fun w' hS => HBw.out.ext hS) Try.underlying24 rfl info_int_s (by as_aux_lemma => kernel_rfl) (by as_aux_lemma => kernel_rfl) (by as_aux_lemma => kernel_rfl) (fun _ _ _ _ h => h) S5 ?_
        simp only [Act.put, List.setIfInBounds_toArray, List.set_cons_zero, List.set_cons_succ]
        refine drawn_loadG 23 81 30 (.tmp 7) (some (21, true)) (g7) 30 #[.bool bu, .slice Pu lu ku] (0, 0) _ (by kernel_rfl) rfl rfl (fun w' hS => (HBu.out.ext ((((((hy4.out.trans hy5.out).trans hy6.out).trans hy7.out).trans hy8.out).trans hy9.out).trans hy10.out)).ext hS) Try.underlying30 rfl info_z_s (by as_aux_lemma => kernel_rfl) (by as_aux_lemma => kernel_rfl) (by as_aux_lemma => kernel_rfl) (fun _ _ _ _ h => h) S5 ?_
        simp only [Act.put, List.setIfInBounds_toArray, List.set_cons_zero, List.set_cons_succ]
        refine drawn_freeG 24 82 (v := ?v24_105) (.move (.tmp 2)) (some (21, true)) (by kernel_rfl) rfl ?hy24_105 (by as_aux_lemma => kernel_rfl) (by as_aux_lemma => kernel_rfl) (by as_aux_lemma => kernel_rfl) (fun _ _ _ _ h => h) S5 ?hr24_105
        case hy24_105 => (intro o ho w' hS; unfold execOp; simp only [ho]; go_simp; try with_reducible rfl)
        simp only [Act.put, List.setIfInBounds_toArray, List.set_cons_zero, List.set_cons_succ]
        refine wpAnyH_ready (rs := [25]) (by kernel_rfl) (by simp) ?_
        refine drawn_callG2 25 (some 83) (.tmp 81) (.tmp 82) (ts := #[30, 3]) (some (21, true)) (by kernel_rfl) rfl (enters_of Try.func17 (by kernel_rfl) rfl) rfl rfl (zpow_is (N := N.toNat) (by omega) (((HOu.out.ext ((((((hy4.out.trans hy5.out).trans hy6.out).trans hy7.out).trans hy8.out).trans hy9.out).trans hy10.out))).ext S5) (by omega) (by omega)) (fun E v25 hh => ?_) drawn_nil
        obtain ⟨b25, A25, n25, c25, rfl, o25, hx25⟩ := hh
        refine ⟨_, rfl, S5.trans hx25, ?_⟩
        simp only [Act.put, List.setIfInBounds_toArray, List.set_cons_zero, List.set_cons_succ]
        have S25 := S5.trans hx25
        refine wpAnyH_ready (rs := [26]) (by kernel_rfl) (by simp) ?_
        refine drawn_callG1 26 (some 84) (.tmp 83) (ts := #[30]) (some (21, true)) (by kernel_rfl) rfl (enters_of Try.func16 (by kernel_rfl) rfl) rfl (zint_v o25 (by omega)) (fun E v26 hh => ?_) drawn_nil
        obtain ⟨b26, A26, n26, c26, rfl, o26, hx26⟩ := hh
        refine ⟨_, rfl, S25.trans hx26, ?_⟩
        simp only [Act.put, List.setIfInBounds_toArray, List.set_cons_zero, List.set_cons_succ]
        have S26 := S25.trans hx26
        refine wpAnyH_ready (rs := [27]) (by kernel_rfl) (by simp) ?_
        refine drawn_callG2 27 (some 85) (.tmp 80) (.tmp 84) (ts := #[24, 24]) (some (21, true)) (by kernel_rfl) rfl (enters_of Try.func14 (by kernel_rfl) rfl) rfl rfl (zsame_v (hci.ext S26) o26 (by omega) rfl) (fun E v27 hh => ?_) drawn_nil
        obtain ⟨rfl, hx27⟩ := hh
        refine ⟨_, rfl, S26.trans hx27, ?_⟩
        simp only [Act.put, List.setIfInBounds_toArray, List.set_cons_zero, List.set_cons_succ]
        have S27 := S26.trans hx27
        refine drawn_freeG 28 86 (v := ?v28_106) (.unOp .not 4 (.tmp 85)) (some (21, true)) (by kernel_rfl) rfl ?hy28_106 (by as_aux_lemma => kernel_rfl) (by as_aux_lemma => kernel_rfl) (by as_aux_lemma => kernel_rfl) (fun _ _ _ _ h => h) S27 ?hr28_106
        case hy28_106 => (intro o ho w' hS; unfold execOp; simp only [ho]; go_simp; try with_reducible rfl)
        simp only [Act.put, List.setIfInBounds_toArray, List.set_cons_zero, List.set_cons_succ]
        refine drawn_freeG 29 87 (v := ?v29_107) (.pick (.tmp 79) (.tmp 86) (.const (.bool false))) (some (18, false)) (by kernel_rfl) rfl ?hy29_107 (by as_aux_lemma => kernel_rfl) (by as_aux_lemma => kernel_rfl) (by as_aux_lemma => kernel_rfl) (fun _ _ _ _ h => h) S27 ?hr29_107
        case hy29_107 => (intro o ho w' hS; unfold execOp; simp only [ho]; go_simp; try with_reducible rfl)
        simp only [Act.put, List.setIfInBounds_toArray, List.set_cons_zero, List.set_cons_succ]
        refine drawn_freeG 30 88 (v := ?v30_108) (.pick (.tmp 76) (.const (.bool true)) (.tmp 87)) none (by kernel_rfl) rfl ?hy30_108 (by as_aux_lemma => kernel_rfl) (by as_aux_lemma => kernel_rfl) (by as_aux_lemma => kernel_rfl) (fun _ _ _ _ h => h) S27 ?hr30_108
        case hy30_108 => (intro o ho w' hS; unfold execOp; simp only [ho]; go_simp; try with_reducible rfl)
        simp only [Act.put, List.setIfInBounds_toArray, List.set_cons_zero, List.set_cons_succ]
        refine drawn_freeG 31 89 (v := ?v31_109) (.move (.tmp 88)) none (by kernel_rfl) rfl ?hy31_109 (by as_aux_lemma => kernel_rfl) (by as_aux_lemma => kernel_rfl) (by as_aux_lemma => kernel_rfl) (fun _ _ _ _ h => h) S27 ?hr31_109
        case hy31_109 => (intro o ho w' hS; unfold execOp; simp only [ho]; go_simp; try with_reducible rfl)
        simp only [Act.put, List.setIfInBounds_toArray, List.set_cons_zero, List.set_cons_succ]
        refine drawn_freeG 32 90 (v := ?v32_110) (.move (.tmp 16)) (some (31, false)) (by kernel_rfl) rfl ?hy32_110 (by as_aux_lemma => kernel_rfl) (by as_aux_lemma => kernel_rfl) (by as_aux_lemma => kernel_rfl) (fun _ _ _ _ h => h) S27 ?hr32_110
        case hy32_110 => (intro o ho w' hS; unfold execOp; simp only [ho]; go_simp; try with_reducible rfl)
        simp only [Act.put, List.setIfInBounds_toArray, List.set_cons_zero, List.set_cons_succ]
        refine drawn_freeG 33 91 (v := ?v33_111) (.binOp .neq 32 (.tmp 90) (.const (.int .i64 0)) 32) (some (31, false)) (by kernel_rfl) rfl ?hy33_111 (by as_aux_lemma => kernel_rfl) (by as_aux_lemma => kernel_rfl) (by as_aux_lemma => kernel_rfl) (fun _ _ _ _ h => h) S27 ?hr33_111
        case hy33_111 => (intro o ho w' hS; unfold execOp; simp only [ho]; go_simp; try with_reducible rfl)
        simp only [Act.put, List.setIfInBounds_toArray, List.set_cons_zero, List.set_cons_succ]
        refine drawn_freeG 34 92 (v := ?v34_112) (.move (.tmp 91)) (some (31, false)) (by kernel_rfl) rfl ?hy34_112 (by as_aux_lemma => kernel_rfl) (by as_aux_lemma => kernel_rfl) (by as_aux_lemma => kernel_rfl) (fun _ _ _ _ h => h) S27 ?hr34_112
        case hy34_112 => (intro o ho w' hS; unfold execOp; simp only [ho]; go_simp; try with_reducible rfl)
        simp only [Act.put, List.setIfInBounds_toArray, List.set_cons_zero, List.set_cons_succ]
        refine drawn_skipG 35 93 (.move (.tmp 16)) (some (34, true)) (by kernel_rfl) rfl (by as_aux_lemma => kernel_rfl) (by as_aux_lemma => kernel_rfl) (by as_aux_lemma => kernel_rfl) (fun _ _ _ _ h => h) S27 ?_
        simp only [Act.put, List.setIfInBounds_toArray, List.set_cons_zero, List.set_cons_succ]
        refine drawn_skipG 36 94 (.binOp .neq 32 (.tmp 93) (.const (.int .i64 2)) 32) (some (34, true)) (by kernel_rfl) rfl (by as_aux_lemma => kernel_rfl) (by as_aux_lemma => kernel_rfl) (by as_aux_lemma => kernel_rfl) (fun _ _ _ _ h => h) S27 ?_
        simp only [Act.put, List.setIfInBounds_toArray, List.set_cons_zero, List.set_cons_succ]
        refine drawn_skipG 37 95 (.move (.tmp 94)) (some (34, true)) (by kernel_rfl) rfl (by as_aux_lemma => kernel_rfl) (by as_aux_lemma => kernel_rfl) (by as_aux_lemma => kernel_rfl) (fun _ _ _ _ h => h) S27 ?_
        simp only [Act.put, List.setIfInBounds_toArray, List.set_cons_zero, List.set_cons_succ]
        refine drawn_skipG 38 96 (.fieldAddr 24 (.tmp 15) 1) (some (37, false)) (by kernel_rfl) rfl (by as_aux_lemma => kernel_rfl) (by as_aux_lemma => kernel_rfl) (by as_aux_lemma => kernel_rfl) (fun _ _ _ _ h => h) S27 ?_
        simp only [Act.put, List.setIfInBounds_toArray, List.set_cons_zero, List.set_cons_succ]
        refine drawn_skipG 39 97 (.load 22 (.tmp 96)) (some (37, false)) (by kernel_rfl) rfl (by as_aux_lemma => kernel_rfl) (by as_aux_lemma => kernel_rfl) (by as_aux_lemma => kernel_rfl) (fun _ _ _ _ h => h) S27 ?_
        simp only [Act.put, List.setIfInBounds_toArray, List.set_cons_zero, List.set_cons_succ]
        refine drawn_skipG 40 98 (.call { callee := .builtin .len, args := #[.tmp 97], argTypes := #[22] }) (some (37, false)) (by kernel_rfl) rfl (by as_aux_lemma => kernel_rfl) (by as_aux_lemma => kernel_rfl) (by as_aux_lemma => kernel_rfl) (fun _ _ _ _ h => h) S27 ?_
        simp only [Act.put, List.setIfInBounds_toArray, List.set_cons_zero, List.set_cons_succ]
        refine drawn_skipG 41 99 (.binOp .gtr 3 (.tmp 98) (.const (.int .i64 0)) 3) (some (37, false)) (by kernel_rfl) rfl (by as_aux_lemma => kernel_rfl) (by as_aux_lemma => kernel_rfl) (by as_aux_lemma => kernel_rfl) (fun _ _ _ _ h => h) S27 ?_
        simp only [Act.put, List.setIfInBounds_toArray, List.set_cons_zero, List.set_cons_succ]
        refine drawn_skipG 42 100 (.pick (.tmp 95) (.const (.bool true)) (.tmp 99)) (some (34, true)) (by kernel_rfl) rfl (by as_aux_lemma => kernel_rfl) (by as_aux_lemma => kernel_rfl) (by as_aux_lemma => kernel_rfl) (fun _ _ _ _ h => h) S27 ?_
        simp only [Act.put, List.setIfInBounds_toArray, List.set_cons_zero, List.set_cons_succ]
        refine drawn_freeG 43 101 (v := ?v43_113) (.pick (.tmp 92) (.tmp 100) (.const (.bool false))) (some (31, false)) (by kernel_rfl) rfl ?hy43_113 (by as_aux_lemma => kernel_rfl) (by as_aux_lemma => kernel_rfl) (by as_aux_lemma => kernel_rfl) (fun _ _ _ _ h => h) S27 ?hr43_113
        case hy43_113 => (intro o ho w' hS; unfold execOp; simp only [ho]; go_simp; try with_reducible rfl)
        simp only [Act.put, List.setIfInBounds_toArray, List.set_cons_zero, List.set_cons_succ]
        refine drawn_freeG 44 102 (v := ?v44_114) (.pick (.tmp 89) (.const (.bool true)) (.tmp 101)) none (by kernel_rfl) rfl ?hy44_114 (by as_aux_lemma => kernel_rfl) (by as_aux_lemma => kernel_rfl) (by as_aux_lemma => kernel_rfl) (fun _ _ _ _ h => h) S27 ?hr44_114
        case hy44_114 => (intro o ho w' hS; unfold execOp; simp only [ho]; go_simp; try with_reducible rfl)
        simp only [Act.put, List.setIfInBounds_toArray, List.set_cons_zero, List.set_cons_succ]
        refine wpAnyH_done (by kernel_rfl) ?_ _
        go_step
        go_step
        go_meet
        case rel => exact ⟨rfl, S27⟩
    · by_cases hneg : N < 0
      · have hneg' : ¬ 0 ≤ N := by omega
        as_aux_lemma =>
          refine wp_region_held_drew (S := fun w' => Ext w10 w') (by kernel_rfl) (Ext.refl _).drew (fun hS0 => ?_)
          change wpAnyH _ _ _ _ _ 45 #[false, false, false, false, false, false, false, false, false, false, false, false, false, false, false, false, false, false, false, false, false, false, false, false, false, false, false, false, false, false, false, false, false, false, false, false, false, false, false, false, false, false, false, false, false] _ _
          refine drawn_loadG 0 58 24 (.tmp 14) none (w8.heap.size) 24 #[.bool b8, .slice A8 n8 c8] (0, 0) _ (by kernel_rfl) rfl rfl (fun w' hS => (HBg.out.ext hy10.out).ext hS) Try.underlying24 rfl info_int_s (by as_aux_lemma => kernel_rfl) (by as_aux_lemma => kernel_rfl) (by as_aux_lemma => kernel_rfl) (fun _ _ _ _ h => h) hS0 ?_
          simp only [Act.put, List.setIfInBounds_toArray, List.set_cons_zero, List.set_cons_succ]
          refine drawn_loadG 1 59 30 (.tmp 7) none (g7) 30 #[.bool bu, .slice Pu lu ku] (0, 0) _ (by kernel_rfl) rfl rfl (fun w' hS => (HBu.out.ext ((((((hy4.out.trans hy5.out).trans hy6.out).trans hy7.out).trans hy8.out).trans hy9.out).trans hy10.out)).ext hS) Try.underlying30 rfl info_z_s (by as_aux_lemma => kernel_rfl) (by as_aux_lemma => kernel_rfl) (by as_aux_lemma => kernel_rfl) (fun _ _ _ _ h => h) hS0 ?_
          simp only [Act.put, List.setIfInBounds_toArray, List.set_cons_zero, List.set_cons_succ]
          refine drawn_loadG 2 60 30 (.tmp 8) none (g8) 30 #[.bool bv, .slice Pv lv kv] (0, 0) _ (by kernel_rfl) rfl rfl (fun w' hS => (HBv.out.ext ((((((hy4.out.trans hy5.out).trans hy6.out).trans hy7.out).trans hy8.out).trans hy9.out).trans hy10.out)).ext hS) Try.underlying30 rfl info_z_s (by as_aux_lemma => kernel_rfl) (by as_aux_lemma => kernel_rfl) (by as_aux_lemma => kernel_rfl) (fun _ _ _ _ h => h) hS0 ?_
          simp only [Act.put, List.setIfInBounds_toArray, List.set_cons_zero, List.set_cons_succ]
          refine wpAnyH_ready (rs := [3]) (by kernel_rfl) (by simp) ?_
          refine drawn_callG2 3 (some 61) (.tmp 59) (.tmp 60) (ts := #[30, 30]) none (by kernel_rfl) rfl (enters_of Try.func15 (by kernel_rfl) rfl) rfl rfl (zgcd_v (((HOu.out.ext ((((((hy4.out.trans hy5.out).trans hy6.out).trans hy7.out).trans hy8.out).trans hy9.out).trans hy10.out))).ext hS0) (((HOv.out.ext ((((((hy4.out.trans hy5.out).trans hy6.out).trans hy7.out).trans hy8.out).trans hy9.out).trans hy10.out))).ext hS0) (by omega)) (fun E v3 hh => ?_) drawn_nil
          obtain ⟨b3, A3, n3, c3, rfl, o3, hx3⟩ := hh
          refine ⟨_, rfl, hS0.trans hx3, ?_⟩
          simp only [Act.put, List.setIfInBounds_toArray, List.set_cons_zero, List.set_cons_succ]
          have S3 := hS0.trans hx3
          refine wpAnyH_ready (rs := [4]) (by kernel_rfl) (by simp) ?_
          refine drawn_callG1 4 (some 62) (.tmp 61) (ts := #[30]) none (by kernel_rfl) rfl (enters_of Try.func16 (by kernel_rfl) rfl) rfl (zint_v o3 (by omega)) (fun E v4 hh => ?_) drawn_nil
          obtain ⟨b4, A4, n4, c4, rfl, o4, hx4⟩ := hh
          refine ⟨_, rfl, S3.trans hx4, ?_⟩
          simp only [Act.put, List.setIfInBounds_toArray, List.set_cons_zero, List.set_cons_succ]
          have S4 := S3.trans hx4
          refine wpAnyH_ready (rs := [5]) (by kernel_rfl) (by simp) ?_
          refine drawn_callG2 5 (some 63) (.tmp 58) (.tmp 62) (ts := #[24, 24]) none (by kernel_rfl) rfl (enters_of Try.func14 (by kernel_rfl) rfl) rfl rfl (zsame_v (((O8.out.ext (hy9.out.trans hy10.out))).ext S4) o4 (by omega) rfl) (fun E v5 hh => ?_) drawn_nil
          obtain ⟨rfl, hx5⟩ := hh
          refine ⟨_, rfl, S4.trans hx5, ?_⟩
          simp only [Act.put, List.setIfInBounds_toArray, List.set_cons_zero, List.set_cons_succ]
          have S5 := S4.trans hx5
          refine drawn_freeG 6 64 (v := ?v6_115) (.unOp .not 4 (.tmp 63)) none (by kernel_rfl) rfl ?hy6_115 (by as_aux_lemma => kernel_rfl) (by as_aux_lemma => kernel_rfl) (by as_aux_lemma => kernel_rfl) (fun _ _ _ _ h => h) S5 ?hr6_115
          case hy6_115 => (intro o ho w' hS; unfold execOp; simp only [ho]; go_simp; try with_reducible rfl)
          simp only [Act.put, List.setIfInBounds_toArray, List.set_cons_zero, List.set_cons_succ]
          refine drawn_freeG 7 65 (v := ?v7_116) (.move (.tmp 64)) none (by kernel_rfl) rfl ?hy7_116 (by as_aux_lemma => kernel_rfl) (by as_aux_lemma => kernel_rfl) (by as_aux_lemma => kernel_rfl) (fun _ _ _ _ h => h) S5 ?hr7_116
          case hy7_116 => (intro o ho w' hS; unfold execOp; simp only [ho]; go_simp; try with_reducible rfl)
          simp only [Act.put, List.setIfInBounds_toArray, List.set_cons_zero, List.set_cons_succ]
          refine drawn_freeG 8 66 (v := ?v8_117) (.move (.tmp 16)) (some (7, false)) (by kernel_rfl) rfl ?hy8_117 (by as_aux_lemma => kernel_rfl) (by as_aux_lemma => kernel_rfl) (by as_aux_lemma => kernel_rfl) (fun _ _ _ _ h => h) S5 ?hr8_117
          case hy8_117 => (intro o ho w' hS; unfold execOp; simp only [ho]; go_simp; try with_reducible rfl)
          simp only [Act.put, List.setIfInBounds_toArray, List.set_cons_zero, List.set_cons_succ]
          refine drawn_freeG 9 67 (v := ?v9_118) (.binOp .eql 32 (.tmp 66) (.const (.int .i64 0)) 32) (some (7, false)) (by kernel_rfl) rfl ?hy9_118 (by as_aux_lemma => kernel_rfl) (by as_aux_lemma => kernel_rfl) (by as_aux_lemma => kernel_rfl) (fun _ _ _ _ h => h) S5 ?hr9_118
          case hy9_118 => (intro o ho w' hS; unfold execOp; simp only [ho]; go_simp; try with_reducible rfl)
          simp only [Act.put, List.setIfInBounds_toArray, List.set_cons_zero, List.set_cons_succ]
          refine drawn_freeG 10 68 (v := ?v10_119) (.move (.tmp 2)) (some (7, false)) (by kernel_rfl) rfl ?hy10_119 (by as_aux_lemma => kernel_rfl) (by as_aux_lemma => kernel_rfl) (by as_aux_lemma => kernel_rfl) (fun _ _ _ _ h => h) S5 ?hr10_119
          case hy10_119 => (intro o ho w' hS; unfold execOp; simp only [ho]; go_simp; try with_reducible rfl)
          simp only [Act.put, List.setIfInBounds_toArray, List.set_cons_zero, List.set_cons_succ]
          refine drawn_freeG 11 69 (v := ?v11_120) (.binOp .geq 3 (.tmp 68) (.const (.int .i64 0)) 3) (some (7, false)) (by kernel_rfl) rfl ?hy11_120 (by as_aux_lemma => kernel_rfl) (by as_aux_lemma => kernel_rfl) (by as_aux_lemma => kernel_rfl) (fun _ _ _ _ h => h) S5 ?hr11_120
          case hy11_120 => (intro o ho w' hS; unfold execOp; simp only [ho]; go_simp; try with_reducible rfl)
          simp only [Act.put, List.setIfInBounds_toArray, List.set_cons_zero, List.set_cons_succ]
          refine drawn_freeG 12 70 (v := ?v12_121) (.move (.tmp 69)) (some (7, false)) (by kernel_rfl) rfl ?hy12_121 (by as_aux_lemma => kernel_rfl) (by as_aux_lemma => kernel_rfl) (by as_aux_lemma => kernel_rfl) (fun _ _ _ _ h => h) S5 ?hr12_121
          case hy12_121 => (intro o ho w' hS; unfold execOp; simp only [ho]; go_simp; try with_reducible rfl)
          simp only [Act.put, List.setIfInBounds_toArray, List.set_cons_zero, List.set_cons_succ]
          refine drawn_skipG 13 71 (.move (.tmp 2)) (some (12, true)) (by kernel_rfl) rfl (by as_aux_lemma => kernel_rfl) (by as_aux_lemma => kernel_rfl) (by as_aux_lemma => kernel_rfl) (fun _ _ _ _ h => h) S5 ?_
          simp only [Act.put, List.setIfInBounds_toArray, List.set_cons_zero, List.set_cons_succ]
          refine drawn_skipG 14 72 (.binOp .leq 3 (.tmp 71) (.const (.int .i64 1000)) 3) (some (12, true)) (by kernel_rfl) rfl (by as_aux_lemma => kernel_rfl) (by as_aux_lemma => kernel_rfl) (by as_aux_lemma => kernel_rfl) (fun _ _ _ _ h => h) S5 ?_
          simp only [Act.put, List.setIfInBounds_toArray, List.set_cons_zero, List.set_cons_succ]
          refine drawn_freeG 15 73 (v := ?v15_122) (.pick (.tmp 70) (.tmp 72) (.const (.bool false))) (some (7, false)) (by kernel_rfl) rfl ?hy15_122 (by as_aux_lemma => kernel_rfl) (by as_aux_lemma => kernel_rfl) (by as_aux_lemma => kernel_rfl) (fun _ _ _ _ h => h) S5 ?hr15_122
          case hy15_122 => (intro o ho w' hS; unfold execOp; simp only [ho]; go_simp; try with_reducible rfl)
          simp only [Act.put, List.setIfInBounds_toArray, List.set_cons_zero, List.set_cons_succ]
          refine drawn_freeG 16 74 (v := ?v16_123) (.binOp .neq 4 (.tmp 67) (.tmp 73) 4) (some (7, false)) (by kernel_rfl) rfl ?hy16_123 (by as_aux_lemma => kernel_rfl) (by as_aux_lemma => kernel_rfl) (by as_aux_lemma => kernel_rfl) (fun _ _ _ _ h => h) S5 ?hr16_123
          case hy16_123 => (intro o ho w' hS; unfold execOp; simp only [ho]; go_simp; try with_reducible rfl)
          simp only [Act.put, List.setIfInBounds_toArray, List.set_cons_zero, List.set_cons_succ]
          refine drawn_freeG 17 75 (v := ?v17_124) (.pick (.tmp 65) (.const (.bool true)) (.tmp 74)) none (by kernel_rfl) rfl ?hy17_124 (by as_aux_lemma => kernel_rfl) (by as_aux_lemma => kernel_rfl) (by as_aux_lemma => kernel_rfl) (fun _ _ _ _ h => h) S5 ?hr17_124
          case hy17_124 => (intro o ho w' hS; unfold execOp; simp only [ho]; go_simp; try with_reducible rfl)
          simp only [Act.put, List.setIfInBounds_toArray, List.set_cons_zero, List.set_cons_succ]
          refine drawn_freeG 18 76 (v := ?v18_125) (.move (.tmp 75)) none (by kernel_rfl) rfl ?hy18_125 (by as_aux_lemma => kernel_rfl) (by as_aux_lemma => kernel_rfl) (by as_aux_lemma => kernel_rfl) (fun _ _ _ _ h => h) S5 ?hr18_125
          case hy18_125 => (intro o ho w' hS; unfold execOp; simp only [ho]; go_simp; try with_reducible rfl)
          simp only [Act.put, List.setIfInBounds_toArray, List.set_cons_zero, List.set_cons_succ]
          refine drawn_freeG 19 77 (v := ?v19_126) (.move (.tmp 16)) (some (18, false)) (by kernel_rfl) rfl ?hy19_126 (by as_aux_lemma => kernel_rfl) (by as_aux_lemma => kernel_rfl) (by as_aux_lemma => kernel_rfl) (fun _ _ _ _ h => h) S5 ?hr19_126
          case hy19_126 => (intro o ho w' hS; unfold execOp; simp only [ho]; go_simp; try with_reducible rfl)
          simp only [Act.put, List.setIfInBounds_toArray, List.set_cons_zero, List.set_cons_succ]
          refine drawn_freeG 20 78 (v := ?v20_127) (.binOp .eql 32 (.tmp 77) (.const (.int .i64 0)) 32) (some (18, false)) (by kernel_rfl) rfl ?hy20_127 (by as_aux_lemma => kernel_rfl) (by as_aux_lemma => kernel_rfl) (by as_aux_lemma => kernel_rfl) (fun _ _ _ _ h => h) S5 ?hr20_127
          case hy20_127 => (intro o ho w' hS; unfold execOp; simp only [ho]; go_simp; try with_reducible rfl)
          simp only [Act.put, List.setIfInBounds_toArray, List.set_cons_zero, List.set_cons_succ]
          refine drawn_freeG 21 79 (v := ?v21_128) (.move (.tmp 78)) (some (18, false)) (by kernel_rfl) rfl ?hy21_128 (by as_aux_lemma => kernel_rfl) (by as_aux_lemma => kernel_rfl) (by as_aux_lemma => kernel_rfl) (fun _ _ _ _ h => h) S5 ?hr21_128
          case hy21_128 => (intro o ho w' hS; unfold execOp; simp only [ho]; go_simp; try with_reducible rfl)
          simp only [Act.put, List.setIfInBounds_toArray, List.set_cons_zero, List.set_cons_succ]
          refine drawn_skipG 22 80 (.load 24 (.tmp 15)) (some (21, true)) (by kernel_rfl) rfl (by as_aux_lemma => kernel_rfl) (by as_aux_lemma => kernel_rfl) (by as_aux_lemma => kernel_rfl) (fun _ _ _ _ h => h) S5 ?_
          simp only [Act.put, List.setIfInBounds_toArray, List.set_cons_zero, List.set_cons_succ]
          refine drawn_skipG 23 81 (.load 30 (.tmp 7)) (some (21, true)) (by kernel_rfl) rfl (by as_aux_lemma => kernel_rfl) (by as_aux_lemma => kernel_rfl) (by as_aux_lemma => kernel_rfl) (fun _ _ _ _ h => h) S5 ?_
          simp only [Act.put, List.setIfInBounds_toArray, List.set_cons_zero, List.set_cons_succ]
          refine drawn_skipG 24 82 (.move (.tmp 2)) (some (21, true)) (by kernel_rfl) rfl (by as_aux_lemma => kernel_rfl) (by as_aux_lemma => kernel_rfl) (by as_aux_lemma => kernel_rfl) (fun _ _ _ _ h => h) S5 ?_
          simp only [Act.put, List.setIfInBounds_toArray, List.set_cons_zero, List.set_cons_succ]
          refine drawn_skipG 25 83 (.call { callee := .value (Operand.func 17), args := #[.tmp 81, .tmp 82], argTypes := #[30, 3] }) (some (21, true)) (by kernel_rfl) rfl (by as_aux_lemma => kernel_rfl) (by as_aux_lemma => kernel_rfl) (by as_aux_lemma => kernel_rfl) (fun _ _ _ _ h => h) S5 ?_
          simp only [Act.put, List.setIfInBounds_toArray, List.set_cons_zero, List.set_cons_succ]
          refine drawn_skipG 26 84 (.call { callee := .value (Operand.func 16), args := #[.tmp 83], argTypes := #[30] }) (some (21, true)) (by kernel_rfl) rfl (by as_aux_lemma => kernel_rfl) (by as_aux_lemma => kernel_rfl) (by as_aux_lemma => kernel_rfl) (fun _ _ _ _ h => h) S5 ?_
          simp only [Act.put, List.setIfInBounds_toArray, List.set_cons_zero, List.set_cons_succ]
          refine drawn_skipG 27 85 (.call { callee := .value (Operand.func 14), args := #[.tmp 80, .tmp 84], argTypes := #[24, 24] }) (some (21, true)) (by kernel_rfl) rfl (by as_aux_lemma => kernel_rfl) (by as_aux_lemma => kernel_rfl) (by as_aux_lemma => kernel_rfl) (fun _ _ _ _ h => h) S5 ?_
          simp only [Act.put, List.setIfInBounds_toArray, List.set_cons_zero, List.set_cons_succ]
          refine drawn_skipG 28 86 (.unOp .not 4 (.tmp 85)) (some (21, true)) (by kernel_rfl) rfl (by as_aux_lemma => kernel_rfl) (by as_aux_lemma => kernel_rfl) (by as_aux_lemma => kernel_rfl) (fun _ _ _ _ h => h) S5 ?_
          simp only [Act.put, List.setIfInBounds_toArray, List.set_cons_zero, List.set_cons_succ]
          refine drawn_freeG 29 87 (v := ?v29_129) (.pick (.tmp 79) (.tmp 86) (.const (.bool false))) (some (18, false)) (by kernel_rfl) rfl ?hy29_129 (by as_aux_lemma => kernel_rfl) (by as_aux_lemma => kernel_rfl) (by as_aux_lemma => kernel_rfl) (fun _ _ _ _ h => h) S5 ?hr29_129
          case hy29_129 => (intro o ho w' hS; unfold execOp; simp only [ho]; go_simp; try with_reducible rfl)
          simp only [Act.put, List.setIfInBounds_toArray, List.set_cons_zero, List.set_cons_succ]
          refine drawn_freeG 30 88 (v := ?v30_130) (.pick (.tmp 76) (.const (.bool true)) (.tmp 87)) none (by kernel_rfl) rfl ?hy30_130 (by as_aux_lemma => kernel_rfl) (by as_aux_lemma => kernel_rfl) (by as_aux_lemma => kernel_rfl) (fun _ _ _ _ h => h) S5 ?hr30_130
          case hy30_130 => (intro o ho w' hS; unfold execOp; simp only [ho]; go_simp; try with_reducible rfl)
          simp only [Act.put, List.setIfInBounds_toArray, List.set_cons_zero, List.set_cons_succ]
          refine drawn_freeG 31 89 (v := ?v31_131) (.move (.tmp 88)) none (by kernel_rfl) rfl ?hy31_131 (by as_aux_lemma => kernel_rfl) (by as_aux_lemma => kernel_rfl) (by as_aux_lemma => kernel_rfl) (fun _ _ _ _ h => h) S5 ?hr31_131
          case hy31_131 => (intro o ho w' hS; unfold execOp; simp only [ho]; go_simp; try with_reducible rfl)
          simp only [Act.put, List.setIfInBounds_toArray, List.set_cons_zero, List.set_cons_succ]
          refine drawn_freeG 32 90 (v := ?v32_132) (.move (.tmp 16)) (some (31, false)) (by kernel_rfl) rfl ?hy32_132 (by as_aux_lemma => kernel_rfl) (by as_aux_lemma => kernel_rfl) (by as_aux_lemma => kernel_rfl) (fun _ _ _ _ h => h) S5 ?hr32_132
          case hy32_132 => (intro o ho w' hS; unfold execOp; simp only [ho]; go_simp; try with_reducible rfl)
          simp only [Act.put, List.setIfInBounds_toArray, List.set_cons_zero, List.set_cons_succ]
          refine drawn_freeG 33 91 (v := ?v33_133) (.binOp .neq 32 (.tmp 90) (.const (.int .i64 0)) 32) (some (31, false)) (by kernel_rfl) rfl ?hy33_133 (by as_aux_lemma => kernel_rfl) (by as_aux_lemma => kernel_rfl) (by as_aux_lemma => kernel_rfl) (fun _ _ _ _ h => h) S5 ?hr33_133
          case hy33_133 => (intro o ho w' hS; unfold execOp; simp only [ho]; go_simp; try with_reducible rfl)
          simp only [Act.put, List.setIfInBounds_toArray, List.set_cons_zero, List.set_cons_succ]
          refine drawn_freeG 34 92 (v := ?v34_134) (.move (.tmp 91)) (some (31, false)) (by kernel_rfl) rfl ?hy34_134 (by as_aux_lemma => kernel_rfl) (by as_aux_lemma => kernel_rfl) (by as_aux_lemma => kernel_rfl) (fun _ _ _ _ h => h) S5 ?hr34_134
          case hy34_134 => (intro o ho w' hS; unfold execOp; simp only [ho]; go_simp; try with_reducible rfl)
          simp only [Act.put, List.setIfInBounds_toArray, List.set_cons_zero, List.set_cons_succ]
          refine drawn_freeG 35 93 (v := ?v35_135) (.move (.tmp 16)) (some (34, true)) (by kernel_rfl) rfl ?hy35_135 (by as_aux_lemma => kernel_rfl) (by as_aux_lemma => kernel_rfl) (by as_aux_lemma => kernel_rfl) (fun _ _ _ _ h => h) S5 ?hr35_135
          case hy35_135 => (intro o ho w' hS; unfold execOp; simp only [ho]; go_simp; try with_reducible rfl)
          simp only [Act.put, List.setIfInBounds_toArray, List.set_cons_zero, List.set_cons_succ]
          refine drawn_freeG 36 94 (v := ?v36_136) (.binOp .neq 32 (.tmp 93) (.const (.int .i64 2)) 32) (some (34, true)) (by kernel_rfl) rfl ?hy36_136 (by as_aux_lemma => kernel_rfl) (by as_aux_lemma => kernel_rfl) (by as_aux_lemma => kernel_rfl) (fun _ _ _ _ h => h) S5 ?hr36_136
          case hy36_136 => (intro o ho w' hS; unfold execOp; simp only [ho]; go_simp; try with_reducible rfl)
          simp only [Act.put, List.setIfInBounds_toArray, List.set_cons_zero, List.set_cons_succ]
          refine drawn_freeG 37 95 (v := ?v37_137) (.move (.tmp 94)) (some (34, true)) (by kernel_rfl) rfl ?hy37_137 (by as_aux_lemma => kernel_rfl) (by as_aux_lemma => kernel_rfl) (by as_aux_lemma => kernel_rfl) (fun _ _ _ _ h => h) S5 ?hr37_137
          case hy37_137 => (intro o ho w' hS; unfold execOp; simp only [ho]; go_simp; try with_reducible rfl)
          simp only [Act.put, List.setIfInBounds_toArray, List.set_cons_zero, List.set_cons_succ]
          refine drawn_freeG 38 96 (v := ?v38_138) (.fieldAddr 24 (.tmp 15) 1) (some (37, false)) (by kernel_rfl) rfl ?hy38_138 (by as_aux_lemma => kernel_rfl) (by as_aux_lemma => kernel_rfl) (by as_aux_lemma => kernel_rfl) (fun _ _ _ _ h => h) S5 ?hr38_138
          case hy38_138 => (intro o ho w' hS; unfold execOp; simp only [ho]; go_simp; try with_reducible rfl)
          simp only [Act.put, List.setIfInBounds_toArray, List.set_cons_zero, List.set_cons_succ]
          refine drawn_freeG 39 97 (v := ?v39_139) (.load 22 (.tmp 96)) (some (37, false)) (by kernel_rfl) rfl ?hy39_139 (by as_aux_lemma => kernel_rfl) (by as_aux_lemma => kernel_rfl) (by as_aux_lemma => kernel_rfl) (fun _ _ _ _ h => h) S5 ?hr39_139
          case hy39_139 => (intro o ho w' hS; have h0 := (HBw.out.ext hS).c1; unfold execOp; simp only [ho]; go_simp; try with_reducible rfl)
          simp only [Act.put, List.setIfInBounds_toArray, List.set_cons_zero, List.set_cons_succ]
          refine drawn_freeG 40 98 (v := ?v40_140) (.call { callee := .builtin .len, args := #[.tmp 97], argTypes := #[22] }) (some (37, false)) (by kernel_rfl) rfl ?hy40_140 (by as_aux_lemma => kernel_rfl) (by as_aux_lemma => kernel_rfl) (by as_aux_lemma => kernel_rfl) (fun _ _ _ _ h => h) S5 ?hr40_140
          case hy40_140 => (intro o ho w' hS; unfold execOp; simp only [ho]; go_simp; try with_reducible rfl)
          simp only [Act.put, List.setIfInBounds_toArray, List.set_cons_zero, List.set_cons_succ]
          refine drawn_freeG 41 99 (v := ?v41_141) (.binOp .gtr 3 (.tmp 98) (.const (.int .i64 0)) 3) (some (37, false)) (by kernel_rfl) rfl ?hy41_141 (by as_aux_lemma => kernel_rfl) (by as_aux_lemma => kernel_rfl) (by as_aux_lemma => kernel_rfl) (fun _ _ _ _ h => h) S5 ?hr41_141
          case hy41_141 => (intro o ho w' hS; unfold execOp; simp only [ho]; go_simp; try with_reducible rfl)
          simp only [Act.put, List.setIfInBounds_toArray, List.set_cons_zero, List.set_cons_succ]
          refine drawn_freeG 42 100 (v := ?v42_142) (.pick (.tmp 95) (.const (.bool true)) (.tmp 99)) (some (34, true)) (by kernel_rfl) rfl ?hy42_142 (by as_aux_lemma => kernel_rfl) (by as_aux_lemma => kernel_rfl) (by as_aux_lemma => kernel_rfl) (fun _ _ _ _ h => h) S5 ?hr42_142
          case hy42_142 => (intro o ho w' hS; unfold execOp; simp only [ho]; go_simp; try with_reducible rfl)
          simp only [Act.put, List.setIfInBounds_toArray, List.set_cons_zero, List.set_cons_succ]
          refine drawn_freeG 43 101 (v := ?v43_143) (.pick (.tmp 92) (.tmp 100) (.const (.bool false))) (some (31, false)) (by kernel_rfl) rfl ?hy43_143 (by as_aux_lemma => kernel_rfl) (by as_aux_lemma => kernel_rfl) (by as_aux_lemma => kernel_rfl) (fun _ _ _ _ h => h) S5 ?hr43_143
          case hy43_143 => (intro o ho w' hS; unfold execOp; simp only [ho]; go_simp; try with_reducible rfl)
          simp only [Act.put, List.setIfInBounds_toArray, List.set_cons_zero, List.set_cons_succ]
          refine drawn_freeG 44 102 (v := ?v44_144) (.pick (.tmp 89) (.const (.bool true)) (.tmp 101)) none (by kernel_rfl) rfl ?hy44_144 (by as_aux_lemma => kernel_rfl) (by as_aux_lemma => kernel_rfl) (by as_aux_lemma => kernel_rfl) (fun _ _ _ _ h => h) S5 ?hr44_144
          case hy44_144 => (intro o ho w' hS; unfold execOp; simp only [ho]; go_simp; try with_reducible rfl)
          simp only [Act.put, List.setIfInBounds_toArray, List.set_cons_zero, List.set_cons_succ]
          refine wpAnyH_done (by kernel_rfl) ?_ _
          go_step
          go_step
          go_meet
          case rel => exact ⟨rfl, S5⟩
      · have hn0 : 0 ≤ N := by omega
        have hn1000 : ¬ N ≤ 1000 := by omega
        as_aux_lemma =>
          refine wp_region_held_drew (S := fun w' => Ext w10 w') (by kernel_rfl) (Ext.refl _).drew (fun hS0 => ?_)
          change wpAnyH _ _ _ _ _ 45 #[false, false, false, false, false, false, false, false, false, false, false, false, false, false, false, false, false, false, false, false, false, false, false, false, false, false, false, false, false, false, false, false, false, false, false, false, false, false, false, false, false, false, false, false, false] _ _
          refine drawn_loadG 0 58 24 (.tmp 14) none (w8.heap.size) 24 #[.bool b8, .slice A8 n8 c8] (0, 0) _ (by kernel_rfl) rfl rfl (fun w' hS => (HBg.out.ext hy10.out).ext hS) Try.underlying24 rfl info_int_s (by as_aux_lemma => kernel_rfl) (by as_aux_lemma => kernel_rfl) (by as_aux_lemma => kernel_rfl) (fun _ _ _ _ h => h) hS0 ?_
          simp only [Act.put, List.setIfInBounds_toArray, List.set_cons_zero, List.set_cons_succ]
          refine drawn_loadG 1 59 30 (.tmp 7) none (g7) 30 #[.bool bu, .slice Pu lu ku] (0, 0) _ (by kernel_rfl) rfl rfl (fun w' hS => (HBu.out.ext ((((((hy4.out.trans hy5.out).trans hy6.out).trans hy7.out).trans hy8.out).trans hy9.out).trans hy10.out)).ext hS) Try.underlying30 rfl info_z_s (by as_aux_lemma => kernel_rfl) (by as_aux_lemma => kernel_rfl) (by as_aux_lemma => kernel_rfl) (fun _ _ _ _ h => h) hS0 ?_
          simp only [Act.put, List.setIfInBounds_toArray, List.set_cons_zero, List.set_cons_succ]
          refine drawn_loadG 2 60 30 (.tmp 8) none (g8) 30 #[.bool bv, .slice Pv lv kv] (0, 0) _ (by kernel_rfl) rfl rfl (fun w' hS => (HBv.out.ext ((((((hy4.out.trans hy5.out).trans hy6.out).trans hy7.out).trans hy8.out).trans hy9.out).trans hy10.out)).ext hS) Try.underlying30 rfl info_z_s (by as_aux_lemma => kernel_rfl) (by as_aux_lemma => kernel_rfl) (by as_aux_lemma => kernel_rfl) (fun _ _ _ _ h => h) hS0 ?_
          simp only [Act.put, List.setIfInBounds_toArray, List.set_cons_zero, List.set_cons_succ]
          refine wpAnyH_ready (rs := [3]) (by kernel_rfl) (by simp) ?_
          refine drawn_callG2 3 (some 61) (.tmp 59) (.tmp 60) (ts := #[30, 30]) none (by kernel_rfl) rfl (enters_of Try.func15 (by kernel_rfl) rfl) rfl rfl (zgcd_v (((HOu.out.ext ((((((hy4.out.trans hy5.out).trans hy6.out).trans hy7.out).trans hy8.out).trans hy9.out).trans hy10.out))).ext hS0) (((HOv.out.ext ((((((hy4.out.trans hy5.out).trans hy6.out).trans hy7.out).trans hy8.out).trans hy9.out).trans hy10.out))).ext hS0) (by omega)) (fun E v3 hh => ?_) drawn_nil
          obtain ⟨b3, A3, n3, c3, rfl, o3, hx3⟩ := hh
          refine ⟨_, rfl, hS0.trans hx3, ?_⟩
          simp only [Act.put, List.setIfInBounds_toArray, List.set_cons_zero, List.set_cons_succ]
          have S3 := hS0.trans hx3
          refine wpAnyH_ready (rs := [4]) (by kernel_rfl) (by simp) ?_
          refine drawn_callG1 4 (some 62) (.tmp 61) (ts := #[30]) none (by kernel_rfl) rfl (enters_of Try.func16 (by kernel_rfl) rfl) rfl (zint_v o3 (by omega)) (fun E v4 hh => ?_) drawn_nil
          obtain ⟨b4, A4, n4, c4, rfl, o4, hx4⟩ := hh
          refine ⟨_, rfl, S3.trans hx4, ?_⟩
          simp only [Act.put, List.setIfInBounds_toArray, List.set_cons_zero, List.set_cons_succ]
          have S4 := S3.trans hx4
          refine wpAnyH_ready (rs := [5]) (by kernel_rfl) (by simp) ?_
          refine drawn_callG2 5 (some 63) (.tmp 58) (.tmp 62) (ts := #[24, 24]) none (by kernel_rfl) rfl (enters_of Try.func14 (by kernel_rfl) rfl) rfl rfl (zsame_v (((O8.out.ext (hy9.out.trans hy10.out))).ext S4) o4 (by omega) rfl) (fun E v5 hh => ?_) drawn_nil
          obtain ⟨rfl, hx5⟩ := hh
          refine ⟨_, rfl, S4.trans hx5, ?_⟩
          simp only [Act.put, List.setIfInBounds_toArray, List.set_cons_zero, List.set_cons_succ]
          have S5 := S4.trans hx5
          refine drawn_freeG 6 64 (v := ?v6_145) (.unOp .not 4 (.tmp 63)) none (by kernel_rfl) rfl ?hy6_145 (by as_aux_lemma => kernel_rfl) (by as_aux_lemma => kernel_rfl) (by as_aux_lemma => kernel_rfl) (fun _ _ _ _ h => h) S5 ?hr6_145
          case hy6_145 => (intro o ho w' hS; unfold execOp; simp only [ho]; go_simp; try with_reducible rfl)
          simp only [Act.put, List.setIfInBounds_toArray, List.set_cons_zero, List.set_cons_succ]
          refine drawn_freeG 7 65 (v := ?v7_146) (.move (.tmp 64)) none (by kernel_rfl) rfl ?hy7_146 (by as_aux_lemma => kernel_rfl) (by as_aux_lemma => kernel_rfl) (by as_aux_lemma => kernel_rfl) (fun _ _ _ _ h => h) S5 ?hr7_146
          case hy7_146 => (intro o ho w' hS; unfold execOp; simp only [ho]; go_simp; try with_reducible rfl)
          simp only [Act.put, List.setIfInBounds_toArray, List.set_cons_zero, List.set_cons_succ]
          refine drawn_freeG 8 66 (v := ?v8_147) (.move (.tmp 16)) (some (7, false)) (by kernel_rfl) rfl ?hy8_147 (by as_aux_lemma => kernel_rfl) (by as_aux_lemma => kernel_rfl) (by as_aux_lemma => kernel_rfl) (fun _ _ _ _ h => h) S5 ?hr8_147
          case hy8_147 => (intro o ho w' hS; unfold execOp; simp only [ho]; go_simp; try with_reducible rfl)
          simp only [Act.put, List.setIfInBounds_toArray, List.set_cons_zero, List.set_cons_succ]
          refine drawn_freeG 9 67 (v := ?v9_148) (.binOp .eql 32 (.tmp 66) (.const (.int .i64 0)) 32) (some (7, false)) (by kernel_rfl) rfl ?hy9_148 (by as_aux_lemma => kernel_rfl) (by as_aux_lemma => kernel_rfl) (by as_aux_lemma => kernel_rfl) (fun _ _ _ _ h => h) S5 ?hr9_148
          case hy9_148 => (intro o ho w' hS; unfold execOp; simp only [ho]; go_simp; try with_reducible rfl)
          simp only [Act.put, List.setIfInBounds_toArray, List.set_cons_zero, List.set_cons_succ]
          refine drawn_freeG 10 68 (v := ?v10_149) (.move (.tmp 2)) (some (7, false)) (by kernel_rfl) rfl ?hy10_149 (by as_aux_lemma => kernel_rfl) (by as_aux_lemma => kernel_rfl) (by as_aux_lemma => kernel_rfl) (fun _ _ _ _ h => h) S5 ?hr10_149
          case hy10_149 => (intro o ho w' hS; unfold execOp; simp only [ho]; go_simp; try with_reducible rfl)
          simp only [Act.put, List.setIfInBounds_toArray, List.set_cons_zero, List.set_cons_succ]
          refine drawn_freeG 11 69 (v := ?v11_150) (.binOp .geq 3 (.tmp 68) (.const (.int .i64 0)) 3) (some (7, false)) (by kernel_rfl) rfl ?hy11_150 (by as_aux_lemma => kernel_rfl) (by as_aux_lemma => kernel_rfl) (by as_aux_lemma => kernel_rfl) (fun _ _ _ _ h => h) S5 ?hr11_150
          case hy11_150 => (intro o ho w' hS; unfold execOp; simp only [ho]; go_simp; try with_reducible rfl)
          simp only [Act.put, List.setIfInBounds_toArray, List.set_cons_zero, List.set_cons_succ]
          refine drawn_freeG 12 70 (v := ?v12_151) (.move (.tmp 69)) (some (7, false)) (by kernel_rfl) rfl ?hy12_151 (by as_aux_lemma => kernel_rfl) (by as_aux_lemma => kernel_rfl) (by as_aux_lemma => kernel_rfl) (fun _ _ _ _ h => h) S5 ?hr12_151
          case hy12_151 => (intro o ho w' hS; unfold execOp; simp only [ho]; go_simp; try with_reducible rfl)
          simp only [Act.put, List.setIfInBounds_toArray, List.set_cons_zero, List.set_cons_succ]
          refine drawn_freeG 13 71 (v := ?v13_152) (.move (.tmp 2)) (some (12, true)) (by kernel_rfl) rfl ?hy13_152 (by as_aux_lemma => kernel_rfl) (by as_aux_lemma => kernel_rfl) (by as_aux_lemma => kernel_rfl) (fun _ _ _ _ h => h) S5 ?hr13_152
          case hy13_152 => (intro o ho w' hS; unfold execOp; simp only [ho]; go_simp; try with_reducible rfl)
          simp only [Act.put, List.setIfInBounds_toArray, List.set_cons_zero, List.set_cons_succ]
          refine drawn_freeG 14 72 (v := ?v14_153) (.binOp .leq 3 (.tmp 71) (.const (.int .i64 1000)) 3) (some (12, true)) (by kernel_rfl) rfl ?hy14_153 (by as_aux_lemma => kernel_rfl) (by as_aux_lemma => kernel_rfl) (by as_aux_lemma => kernel_rfl) (fun _ _ _ _ h => h) S5 ?hr14_153
          case hy14_153 => (intro o ho w' hS; unfold execOp; simp only [ho]; go_simp; try with_reducible rfl)
          simp only [Act.put, List.setIfInBounds_toArray, List.set_cons_zero, List.set_cons_succ]
          refine drawn_freeG 15 73 (v := ?v15_154) (.pick (.tmp 70) (.tmp 72) (.const (.bool false))) (some (7, false)) (by kernel_rfl) rfl ?hy15_154 (by as_aux_lemma => kernel_rfl) (by as_aux_lemma => kernel_rfl) (by as_aux_lemma => kernel_rfl) (fun _ _ _ _ h => h) S5 ?hr15_154
          case hy15_154 => (intro o ho w' hS; unfold execOp; simp only [ho]; go_simp; try with_reducible rfl)
          simp only [Act.put, List.setIfInBounds_toArray, List.set_cons_zero, List.set_cons_succ]
          refine drawn_freeG 16 74 (v := ?v16_155) (.binOp .neq 4 (.tmp 67) (.tmp 73) 4) (some (7, false)) (by kernel_rfl) rfl ?hy16_155 (by as_aux_lemma => kernel_rfl) (by as_aux_lemma => kernel_rfl) (by as_aux_lemma => kernel_rfl) (fun _ _ _ _ h => h) S5 ?hr16_155
          case hy16_155 => (intro o ho w' hS; unfold execOp; simp only [ho]; go_simp; try with_reducible rfl)
          simp only [Act.put, List.setIfInBounds_toArray, List.set_cons_zero, List.set_cons_succ]
          refine drawn_freeG 17 75 (v := ?v17_156) (.pick (.tmp 65) (.const (.bool true)) (.tmp 74)) none (by kernel_rfl) rfl ?hy17_156 (by as_aux_lemma => kernel_rfl) (by as_aux_lemma => kernel_rfl) (by as_aux_lemma => kernel_rfl) (fun _ _ _ _ h => h) S5 ?hr17_156
          case hy17_156 => (intro o ho w' hS; unfold execOp; simp only [ho]; go_simp; try with_reducible rfl)
          simp only [Act.put, List.setIfInBounds_toArray, List.set_cons_zero, List.set_cons_succ]
          refine drawn_freeG 18 76 (v := ?v18_157) (.move (.tmp 75)) none (by kernel_rfl) rfl ?hy18_157 (by as_aux_lemma => kernel_rfl) (by as_aux_lemma => kernel_rfl) (by as_aux_lemma => kernel_rfl) (fun _ _ _ _ h => h) S5 ?hr18_157
          case hy18_157 => (intro o ho w' hS; unfold execOp; simp only [ho]; go_simp; try with_reducible rfl)
          simp only [Act.put, List.setIfInBounds_toArray, List.set_cons_zero, List.set_cons_succ]
          refine drawn_freeG 19 77 (v := ?v19_158) (.move (.tmp 16)) (some (18, false)) (by kernel_rfl) rfl ?hy19_158 (by as_aux_lemma => kernel_rfl) (by as_aux_lemma => kernel_rfl) (by as_aux_lemma => kernel_rfl) (fun _ _ _ _ h => h) S5 ?hr19_158
          case hy19_158 => (intro o ho w' hS; unfold execOp; simp only [ho]; go_simp; try with_reducible rfl)
          simp only [Act.put, List.setIfInBounds_toArray, List.set_cons_zero, List.set_cons_succ]
          refine drawn_freeG 20 78 (v := ?v20_159) (.binOp .eql 32 (.tmp 77) (.const (.int .i64 0)) 32) (some (18, false)) (by kernel_rfl) rfl ?hy20_159 (by as_aux_lemma => kernel_rfl) (by as_aux_lemma => kernel_rfl) (by as_aux_lemma => kernel_rfl) (fun _ _ _ _ h => h) S5 ?hr20_159
          case hy20_159 => (intro o ho w' hS; unfold execOp; simp only [ho]; go_simp; try with_reducible rfl)
          simp only [Act.put, List.setIfInBounds_toArray, List.set_cons_zero, List.set_cons_succ]
          refine drawn_freeG 21 79 (v := ?v21_160) (.move (.tmp 78)) (some (18, false)) (by kernel_rfl) rfl ?hy21_160 (by as_aux_lemma => kernel_rfl) (by as_aux_lemma => kernel_rfl) (by as_aux_lemma => kernel_rfl) (fun _ _ _ _ h => h) S5 ?hr21_160
          case hy21_160 => (intro o ho w' hS; unfold execOp; simp only [ho]; go_simp; try with_reducible rfl)
          simp only [Act.put, List.setIfInBounds_toArray, List.set_cons_zero, List.set_cons_succ]
          refine drawn_skipG 22 80 (.load 24 (.tmp 15)) (some (21, true)) (by kernel_rfl) rfl (by as_aux_lemma => kernel_rfl) (by as_aux_lemma => kernel_rfl) (by as_aux_lemma => kernel_rfl) (fun _ _ _ _ h => h) S5 ?_
          simp only [Act.put, List.setIfInBounds_toArray, List.set_cons_zero, List.set_cons_succ]
          refine drawn_skipG 23 81 (.load 30 (.tmp 7)) (some (21, true)) (by kernel_rfl) rfl (by as_aux_lemma => kernel_rfl) (by as_aux_lemma => kernel_rfl) (by as_aux_lemma => kernel_rfl) (fun _ _ _ _ h => h) S5 ?_
          simp only [Act.put, List.setIfInBounds_toArray, List.set_cons_zero, List.set_cons_succ]
          refine drawn_skipG 24 82 (.move (.tmp 2)) (some (21, true)) (by kernel_rfl) rfl (by as_aux_lemma => kernel_rfl) (by as_aux_lemma => kernel_rfl) (by as_aux_lemma => kernel_rfl) (fun _ _ _ _ h => h) S5 ?_
          simp only [Act.put, List.setIfInBounds_toArray, List.set_cons_zero, List.set_cons_succ]
          refine drawn_skipG 25 83 (.call { callee := .value (Operand.func 17), args := #[.tmp 81, .tmp 82], argTypes := #[30, 3] }) (some (21, true)) (by kernel_rfl) rfl (by as_aux_lemma => kernel_rfl) (by as_aux_lemma => kernel_rfl) (by as_aux_lemma => kernel_rfl) (fun _ _ _ _ h => h) S5 ?_
          simp only [Act.put, List.setIfInBounds_toArray, List.set_cons_zero, List.set_cons_succ]
          refine drawn_skipG 26 84 (.call { callee := .value (Operand.func 16), args := #[.tmp 83], argTypes := #[30] }) (some (21, true)) (by kernel_rfl) rfl (by as_aux_lemma => kernel_rfl) (by as_aux_lemma => kernel_rfl) (by as_aux_lemma => kernel_rfl) (fun _ _ _ _ h => h) S5 ?_
          simp only [Act.put, List.setIfInBounds_toArray, List.set_cons_zero, List.set_cons_succ]
          refine drawn_skipG 27 85 (.call { callee := .value (Operand.func 14), args := #[.tmp 80, .tmp 84], argTypes := #[24, 24] }) (some (21, true)) (by kernel_rfl) rfl (by as_aux_lemma => kernel_rfl) (by as_aux_lemma => kernel_rfl) (by as_aux_lemma => kernel_rfl) (fun _ _ _ _ h => h) S5 ?_
          simp only [Act.put, List.setIfInBounds_toArray, List.set_cons_zero, List.set_cons_succ]
          refine drawn_skipG 28 86 (.unOp .not 4 (.tmp 85)) (some (21, true)) (by kernel_rfl) rfl (by as_aux_lemma => kernel_rfl) (by as_aux_lemma => kernel_rfl) (by as_aux_lemma => kernel_rfl) (fun _ _ _ _ h => h) S5 ?_
          simp only [Act.put, List.setIfInBounds_toArray, List.set_cons_zero, List.set_cons_succ]
          refine drawn_freeG 29 87 (v := ?v29_161) (.pick (.tmp 79) (.tmp 86) (.const (.bool false))) (some (18, false)) (by kernel_rfl) rfl ?hy29_161 (by as_aux_lemma => kernel_rfl) (by as_aux_lemma => kernel_rfl) (by as_aux_lemma => kernel_rfl) (fun _ _ _ _ h => h) S5 ?hr29_161
          case hy29_161 => (intro o ho w' hS; unfold execOp; simp only [ho]; go_simp; try with_reducible rfl)
          simp only [Act.put, List.setIfInBounds_toArray, List.set_cons_zero, List.set_cons_succ]
          refine drawn_freeG 30 88 (v := ?v30_162) (.pick (.tmp 76) (.const (.bool true)) (.tmp 87)) none (by kernel_rfl) rfl ?hy30_162 (by as_aux_lemma => kernel_rfl) (by as_aux_lemma => kernel_rfl) (by as_aux_lemma => kernel_rfl) (fun _ _ _ _ h => h) S5 ?hr30_162
          case hy30_162 => (intro o ho w' hS; unfold execOp; simp only [ho]; go_simp; try with_reducible rfl)
          simp only [Act.put, List.setIfInBounds_toArray, List.set_cons_zero, List.set_cons_succ]
          refine drawn_freeG 31 89 (v := ?v31_163) (.move (.tmp 88)) none (by kernel_rfl) rfl ?hy31_163 (by as_aux_lemma => kernel_rfl) (by as_aux_lemma => kernel_rfl) (by as_aux_lemma => kernel_rfl) (fun _ _ _ _ h => h) S5 ?hr31_163
          case hy31_163 => (intro o ho w' hS; unfold execOp; simp only [ho]; go_simp; try with_reducible rfl)
          simp only [Act.put, List.setIfInBounds_toArray, List.set_cons_zero, List.set_cons_succ]
          refine drawn_freeG 32 90 (v := ?v32_164) (.move (.tmp 16)) (some (31, false)) (by kernel_rfl) rfl ?hy32_164 (by as_aux_lemma => kernel_rfl) (by as_aux_lemma => kernel_rfl) (by as_aux_lemma => kernel_rfl) (fun _ _ _ _ h => h) S5 ?hr32_164
          case hy32_164 => (intro o ho w' hS; unfold execOp; simp only [ho]; go_simp; try with_reducible rfl)
          simp only [Act.put, List.setIfInBounds_toArray, List.set_cons_zero, List.set_cons_succ]
          refine drawn_freeG 33 91 (v := ?v33_165) (.binOp .neq 32 (.tmp 90) (.const (.int .i64 0)) 32) (some (31, false)) (by kernel_rfl) rfl ?hy33_165 (by as_aux_lemma => kernel_rfl) (by as_aux_lemma => kernel_rfl) (by as_aux_lemma => kernel_rfl) (fun _ _ _ _ h => h) S5 ?hr33_165
          case hy33_165 => (intro o ho w' hS; unfold execOp; simp only [ho]; go_simp; try with_reducible rfl)
          simp only [Act.put, List.setIfInBounds_toArray, List.set_cons_zero, List.set_cons_succ]
          refine drawn_freeG 34 92 (v := ?v34_166) (.move (.tmp 91)) (some (31, false)) (by kernel_rfl) rfl ?hy34_166 (by as_aux_lemma => kernel_rfl) (by as_aux_lemma => kernel_rfl) (by as_aux_lemma => kernel_rfl) (fun _ _ _ _ h => h) S5 ?hr34_166
          case hy34_166 => (intro o ho w' hS; unfold execOp; simp only [ho]; go_simp; try with_reducible rfl)
          simp only [Act.put, List.setIfInBounds_toArray, List.set_cons_zero, List.set_cons_succ]
          refine drawn_freeG 35 93 (v := ?v35_167) (.move (.tmp 16)) (some (34, true)) (by kernel_rfl) rfl ?hy35_167 (by as_aux_lemma => kernel_rfl) (by as_aux_lemma => kernel_rfl) (by as_aux_lemma => kernel_rfl) (fun _ _ _ _ h => h) S5 ?hr35_167
          case hy35_167 => (intro o ho w' hS; unfold execOp; simp only [ho]; go_simp; try with_reducible rfl)
          simp only [Act.put, List.setIfInBounds_toArray, List.set_cons_zero, List.set_cons_succ]
          refine drawn_freeG 36 94 (v := ?v36_168) (.binOp .neq 32 (.tmp 93) (.const (.int .i64 2)) 32) (some (34, true)) (by kernel_rfl) rfl ?hy36_168 (by as_aux_lemma => kernel_rfl) (by as_aux_lemma => kernel_rfl) (by as_aux_lemma => kernel_rfl) (fun _ _ _ _ h => h) S5 ?hr36_168
          case hy36_168 => (intro o ho w' hS; unfold execOp; simp only [ho]; go_simp; try with_reducible rfl)
          simp only [Act.put, List.setIfInBounds_toArray, List.set_cons_zero, List.set_cons_succ]
          refine drawn_freeG 37 95 (v := ?v37_169) (.move (.tmp 94)) (some (34, true)) (by kernel_rfl) rfl ?hy37_169 (by as_aux_lemma => kernel_rfl) (by as_aux_lemma => kernel_rfl) (by as_aux_lemma => kernel_rfl) (fun _ _ _ _ h => h) S5 ?hr37_169
          case hy37_169 => (intro o ho w' hS; unfold execOp; simp only [ho]; go_simp; try with_reducible rfl)
          simp only [Act.put, List.setIfInBounds_toArray, List.set_cons_zero, List.set_cons_succ]
          refine drawn_freeG 38 96 (v := ?v38_170) (.fieldAddr 24 (.tmp 15) 1) (some (37, false)) (by kernel_rfl) rfl ?hy38_170 (by as_aux_lemma => kernel_rfl) (by as_aux_lemma => kernel_rfl) (by as_aux_lemma => kernel_rfl) (fun _ _ _ _ h => h) S5 ?hr38_170
          case hy38_170 => (intro o ho w' hS; unfold execOp; simp only [ho]; go_simp; try with_reducible rfl)
          simp only [Act.put, List.setIfInBounds_toArray, List.set_cons_zero, List.set_cons_succ]
          refine drawn_freeG 39 97 (v := ?v39_171) (.load 22 (.tmp 96)) (some (37, false)) (by kernel_rfl) rfl ?hy39_171 (by as_aux_lemma => kernel_rfl) (by as_aux_lemma => kernel_rfl) (by as_aux_lemma => kernel_rfl) (fun _ _ _ _ h => h) S5 ?hr39_171
          case hy39_171 => (intro o ho w' hS; have h0 := (HBw.out.ext hS).c1; unfold execOp; simp only [ho]; go_simp; try with_reducible rfl)
          simp only [Act.put, List.setIfInBounds_toArray, List.set_cons_zero, List.set_cons_succ]
          refine drawn_freeG 40 98 (v := ?v40_172) (.call { callee := .builtin .len, args := #[.tmp 97], argTypes := #[22] }) (some (37, false)) (by kernel_rfl) rfl ?hy40_172 (by as_aux_lemma => kernel_rfl) (by as_aux_lemma => kernel_rfl) (by as_aux_lemma => kernel_rfl) (fun _ _ _ _ h => h) S5 ?hr40_172
          case hy40_172 => (intro o ho w' hS; unfold execOp; simp only [ho]; go_simp; try with_reducible rfl)
          simp only [Act.put, List.setIfInBounds_toArray, List.set_cons_zero, List.set_cons_succ]
          refine drawn_freeG 41 99 (v := ?v41_173) (.binOp .gtr 3 (.tmp 98) (.const (.int .i64 0)) 3) (some (37, false)) (by kernel_rfl) rfl ?hy41_173 (by as_aux_lemma => kernel_rfl) (by as_aux_lemma => kernel_rfl) (by as_aux_lemma => kernel_rfl) (fun _ _ _ _ h => h) S5 ?hr41_173
          case hy41_173 => (intro o ho w' hS; unfold execOp; simp only [ho]; go_simp; try with_reducible rfl)
          simp only [Act.put, List.setIfInBounds_toArray, List.set_cons_zero, List.set_cons_succ]
          refine drawn_freeG 42 100 (v := ?v42_174) (.pick (.tmp 95) (.const (.bool true)) (.tmp 99)) (some (34, true)) (by kernel_rfl) rfl ?hy42_174 (by as_aux_lemma => kernel_rfl) (by as_aux_lemma => kernel_rfl) (by as_aux_lemma => kernel_rfl) (fun _ _ _ _ h => h) S5 ?hr42_174
          case hy42_174 => (intro o ho w' hS; unfold execOp; simp only [ho]; go_simp; try with_reducible rfl)
          simp only [Act.put, List.setIfInBounds_toArray, List.set_cons_zero, List.set_cons_succ]
          refine drawn_freeG 43 101 (v := ?v43_175) (.pick (.tmp 92) (.tmp 100) (.const (.bool false))) (some (31, false)) (by kernel_rfl) rfl ?hy43_175 (by as_aux_lemma => kernel_rfl) (by as_aux_lemma => kernel_rfl) (by as_aux_lemma => kernel_rfl) (fun _ _ _ _ h => h) S5 ?hr43_175
          case hy43_175 => (intro o ho w' hS; unfold execOp; simp only [ho]; go_simp; try with_reducible rfl)
          simp only [Act.put, List.setIfInBounds_toArray, List.set_cons_zero, List.set_cons_succ]
          refine drawn_freeG 44 102 (v := ?v44_176) (.pick (.tmp 89) (.const (.bool true)) (.tmp 101)) none (by kernel_rfl) rfl ?hy44_176 (by as_aux_lemma => kernel_rfl) (by as_aux_lemma => kernel_rfl) (by as_aux_lemma => kernel_rfl) (fun _ _ _ _ h => h) S5 ?hr44_176
          case hy44_176 => (intro o ho w' hS; unfold execOp; simp only [ho]; go_simp; try with_reducible rfl)
          simp only [Act.put, List.setIfInBounds_toArray, List.set_cons_zero, List.set_cons_succ]
          refine wpAnyH_done (by kernel_rfl) ?_ _
          go_step
          go_step
          go_meet
          case rel => exact ⟨rfl, S5⟩
  case rest =>
  obtain ⟨rfl, Yk⟩ := hcut
  obtain ⟨w11, hw11⟩ : ∃ w11, w11 = wc := ⟨_, rfl⟩
  subst hw11
  have hy11 := hid Yk
  have X11 := hid (X10.out.trans hy11.out)
  clear Yk HPW
  obtain ⟨f11_0, f11_1, f11_2, f11_3⟩ : w11.cell? ⟨g8, 0, none⟩ = some (.bool bv) ∧ w11.cell? ⟨g8, 1, none⟩ = some (.slice Pv lv kv) ∧ w11.cell? ⟨g7, 0, none⟩ = some (.bool bu) ∧ w11.cell? ⟨g7, 1, none⟩ = some (.slice Pu lu ku) := ⟨(HBv.out.ext (((((((hy4.out.trans hy5.out).trans hy6.out).trans hy7.out).trans hy8.out).trans hy9.out).trans hy10.out).trans hy11.out)).c0, (HBv.out.ext (((((((hy4.out.trans hy5.out).trans hy6.out).trans hy7.out).trans hy8.out).trans hy9.out).trans hy10.out).trans hy11.out)).c1, (HBu.out.ext (((((((hy4.out.trans hy5.out).trans hy6.out).trans hy7.out).trans hy8.out).trans hy9.out).trans hy10.out).trans hy11.out)).c0, (HBu.out.ext (((((((hy4.out.trans hy5.out).trans hy6.out).trans hy7.out).trans hy8.out).trans hy9.out).trans hy10.out).trans hy11.out)).c1⟩
  go_upto_region 13 with (first
    | ((go_at_call 18); (with_reducible refine (zsign_is (HOv.out.ext (((((((hy4.out.trans hy5.out).trans hy6.out).trans hy7.out).trans hy8.out).trans hy9.out).trans hy10.out).trans hy11.out)) HSV.out).mono ?_); rintro E12 w12 ⟨rfl, hr12⟩; have X12 := hid (X11.out.trans hr12); have hy12 := hid hr12; clear hr12; obtain ⟨f12_0, f12_1, f12_2, f12_3⟩ : w12.cell? ⟨g8, 0, none⟩ = some (.bool bv) ∧ w12.cell? ⟨g8, 1, none⟩ = some (.slice Pv lv kv) ∧ w12.cell? ⟨g7, 0, none⟩ = some (.bool bu) ∧ w12.cell? ⟨g7, 1, none⟩ = some (.slice Pu lu ku) := ⟨(HBv.out.ext ((((((((hy4.out.trans hy5.out).trans hy6.out).trans hy7.out).trans hy8.out).trans hy9.out).trans hy10.out).trans hy11.out).trans hy12.out)).c0, (HBv.out.ext ((((((((hy4.out.trans hy5.out).trans hy6.out).trans hy7.out).trans hy8.out).trans hy9.out).trans hy10.out).trans hy11.out).trans hy12.out)).c1, (HBu.out.ext ((((((((hy4.out.trans hy5.out).trans hy6.out).trans hy7.out).trans hy8.out).trans hy9.out).trans hy10.out).trans hy11.out).trans hy12.out)).c0, (HBu.out.ext ((((((((hy4.out.trans hy5.out).trans hy6.out).trans hy7.out).trans hy8.out).trans hy9.out).trans hy10.out).trans hy11.out).trans hy12.out)).c1⟩)
    | ((go_at_call 19); (with_reducible refine (zdivmod_v (HOu.out.ext ((((((((hy4.out.trans hy5.out).trans hy6.out).trans hy7.out).trans hy8.out).trans hy9.out).trans hy10.out).trans hy11.out).trans hy12.out)) (HOv.out.ext ((((((((hy4.out.trans hy5.out).trans hy6.out).trans hy7.out).trans hy8.out).trans hy9.out).trans hy10.out).trans hy11.out).trans hy12.out)) (by omega) HY0.out).mono ?_); rintro E13 w13 ⟨b13, A13, n13, c13, e13, B13, m13, d13, rfl, o13, p13, hr13⟩; have O13 := hid o13; have P13 := hid p13; clear o13 p13; have X13 := hid (X12.out.trans hr13); have hy13 := hid hr13; clear hr13; obtain ⟨f13_0, f13_1, f13_2, f13_3⟩ : w13.cell? ⟨g8, 0, none⟩ = some (.bool bv) ∧ w13.cell? ⟨g8, 1, none⟩ = some (.slice Pv lv kv) ∧ w13.cell? ⟨g7, 0, none⟩ = some (.bool bu) ∧ w13.cell? ⟨g7, 1, none⟩ = some (.slice Pu lu ku) := ⟨(HBv.out.ext (((((((((hy4.out.trans hy5.out).trans hy6.out).trans hy7.out).trans hy8.out).trans hy9.out).trans hy10.out).trans hy11.out).trans hy12.out).trans hy13.out)).c0, (HBv.out.ext (((((((((hy4.out.trans hy5.out).trans hy6.out).trans hy7.out).trans hy8.out).trans hy9.out).trans hy10.out).trans hy11.out).trans hy12.out).trans hy13.out)).c1, (HBu.out.ext (((((((((hy4.out.trans hy5.out).trans hy6.out).trans hy7.out).trans hy8.out).trans hy9.out).trans hy10.out).trans hy11.out).trans hy12.out).trans hy13.out)).c0, (HBu.out.ext (((((((((hy4.out.trans hy5.out).trans hy6.out).trans hy7.out).trans hy8.out).trans hy9.out).trans hy10.out).trans hy11.out).trans hy12.out).trans hy13.out)).c1⟩))
  have hy14 := hid (((Ext.refl w13).alloc (.cells #[.bool b13, .slice A13 n13 c13] 30)).alloc (.cells #[.bool e13, .slice B13 m13 d13] 30))
  have Bs := ((Bz.new w13 b13 A13 n13 c13).ext ((Ext.refl (w13.alloc (.cells #[.bool b13, .slice A13 n13 c13] 30))).alloc (.cells #[.bool e13, .slice B13 m13 d13] 30)))
  have HBs := hid Bs
  clear Bs
  have Bt := (Bz.new (w13.alloc (.cells #[.bool b13, .slice A13 n13 c13] 30)) e13 B13 m13 d13)
  rw [size_alloc] at Bt
  have HBt := hid Bt
  clear Bt
  generalize ((w13.alloc (.cells #[.bool b13, .slice A13 n13 c13] 30)).alloc (.cells #[.bool e13, .slice B13 m13 d13] 30)) = w14 at *
  have X14 := hid (X13.out.trans hy14.out)
  have hk14 : w14.cell? ⟨w4.heap.size, 0, none⟩ = some (.bool b4) ∧ w14.cell? ⟨w4.heap.size, 1, none⟩ = some (.slice A4 n4 c4) ∧ w14.cell? ⟨w4.heap.size + 1, 0, none⟩ = some (.bool e4) ∧ w14.cell? ⟨w4.heap.size + 1, 1, none⟩ = some (.slice B4 m4 d4) ∧ w14.cell? ⟨w13.heap.size, 0, none⟩ = some (.bool b13) ∧ w14.cell? ⟨w13.heap.size, 1, none⟩ = some (.slice A13 n13 c13) ∧ w14.cell? ⟨w13.heap.size + 1, 0, none⟩ = some (.bool e13) ∧ w14.cell? ⟨w13.heap.size + 1, 1, none⟩ = some (.slice B13 m13 d13) := ⟨(HBq.out.ext ((((((((hy6.out.trans hy7.out).trans hy8.out).trans hy9.out).trans hy10.out).trans hy11.out).trans hy12.out).trans hy13.out).trans hy14.out)).c0, (HBq.out.ext ((((((((hy6.out.trans hy7.out).trans hy8.out).trans hy9.out).trans hy10.out).trans hy11.out).trans hy12.out).trans hy13.out).trans hy14.out)).c1, (HBr.out.ext ((((((((hy6.out.trans hy7.out).trans hy8.out).trans hy9.out).trans hy10.out).trans hy11.out).trans hy12.out).trans hy13.out).trans hy14.out)).c0, (HBr.out.ext ((((((((hy6.out.trans hy7.out).trans hy8.out).trans hy9.out).trans hy10.out).trans hy11.out).trans hy12.out).trans hy13.out).trans hy14.out)).c1, HBs.out.c0, HBs.out.c1, HBt.out.c0, HBt.out.c1⟩
  have hy15 := hid (Ext.refl w14).drew
  have X15 := hid (X14.out.trans hy15.out)
  have hk15 : w14.drew.cell? ⟨w4.heap.size, 0, none⟩ = some (.bool b4) ∧ w14.drew.cell? ⟨w4.heap.size, 1, none⟩ = some (.slice A4 n4 c4) ∧ w14.drew.cell? ⟨w4.heap.size + 1, 0, none⟩ = some (.bool e4) ∧ w14.drew.cell? ⟨w4.heap.size + 1, 1, none⟩ = some (.slice B4 m4 d4) ∧ w14.drew.cell? ⟨w13.heap.size, 0, none⟩ = some (.bool b13) ∧ w14.drew.cell? ⟨w13.heap.size, 1, none⟩ = some (.slice A13 n13 c13) ∧ w14.drew.cell? ⟨w13.heap.size + 1, 0, none⟩ = some (.bool e13) ∧ w14.drew.cell? ⟨w13.heap.size + 1, 1, none⟩ = some (.slice B13 m13 d13) := ⟨(HBq.out.ext (((((((((hy6.out.trans hy7.out).trans hy8.out).trans hy9.out).trans hy10.out).trans hy11.out).trans hy12.out).trans hy13.out).trans hy14.out).trans hy15.out)).c0, (HBq.out.ext (((((((((hy6.out.trans hy7.out).trans hy8.out).trans hy9.out).trans hy10.out).trans hy11.out).trans hy12.out).trans hy13.out).trans hy14.out).trans hy15.out)).c1, (HBr.out.ext (((((((((hy6.out.trans hy7.out).trans hy8.out).trans hy9.out).trans hy10.out).trans hy11.out).trans hy12.out).trans hy13.out).trans hy14.out).trans hy15.out)).c0, (HBr.out.ext (((((((((hy6.out.trans hy7.out).trans hy8.out).trans hy9.out).trans hy10.out).trans hy11.out).trans hy12.out).trans hy13.out).trans hy14.out).trans hy15.out)).c1, (HBs.out.ext hy15.out).c0, (HBs.out.ext hy15.out).c1, (HBt.out.ext hy15.out).c0, (HBt.out.ext hy15.out).c1⟩
  go_region_held3 (fun w' => w'.cell? ⟨w4.heap.size, 0, none⟩ = some (.bool b4) ∧ w'.cell? ⟨w4.heap.size, 1, none⟩ = some (.slice A4 n4 c4) ∧ w'.cell? ⟨w4.heap.size + 1, 0, none⟩ = some (.bool e4) ∧ w'.cell? ⟨w4.heap.size + 1, 1, none⟩ = some (.slice B4 m4 d4) ∧ w'.cell? ⟨w13.heap.size, 0, none⟩ = some (.bool b13) ∧ w'.cell? ⟨w13.heap.size, 1, none⟩ = some (.slice A13 n13 c13) ∧ w'.cell? ⟨w13.heap.size + 1, 0, none⟩ = some (.bool e13) ∧ w'.cell? ⟨w13.heap.size + 1, 1, none⟩ = some (.slice B13 m13 d13))
    (first | (with_reducible exact hk14) | (with_reducible exact hk15) | (with_reducible exact hk16) | (with_reducible exact hk17) | (with_reducible exact hk18) | (with_reducible exact hk19))
    (first
      | ((go_at_call 16); (with_reducible refine (zint_v (O13.out.ext (hy14.out.trans hy15.out)) (by omega)).mono ?_); rintro E16 w16 ⟨b16, A16, n16, c16, rfl, o16, hr16⟩; have O16 := hid o16; clear o16; have X16 := hid (X15.out.trans hr16); have hy16 := hid hr16; clear hr16; have hk16 : w16.cell? ⟨w4.heap.size, 0, none⟩ = some (.bool b4) ∧ w16.cell? ⟨w4.heap.size, 1, none⟩ = some (.slice A4 n4 c4) ∧ w16.cell? ⟨w4.heap.size + 1, 0, none⟩ = some (.bool e4) ∧ w16.cell? ⟨w4.heap.size + 1, 1, none⟩ = some (.slice B4 m4 d4) ∧ w16.cell? ⟨w13.heap.size, 0, none⟩ = some (.bool b13) ∧ w16.cell? ⟨w13.heap.size, 1, none⟩ = some (.slice A13 n13 c13) ∧ w16.cell? ⟨w13.heap.size + 1, 0, none⟩ = some (.bool e13) ∧ w16.cell? ⟨w13.heap.size + 1, 1, none⟩ = some (.slice B13 m13 d13) := ⟨(HBq.out.ext ((((((((((hy6.out.trans hy7.out).trans hy8.out).trans hy9.out).trans hy10.out).trans hy11.out).trans hy12.out).trans hy13.out).trans hy14.out).trans hy15.out).trans hy16.out)).c0, (HBq.out.ext ((((((((((hy6.out.trans hy7.out).trans hy8.out).trans hy9.out).trans hy10.out).trans hy11.out).trans hy12.out).trans hy13.out).trans hy14.out).trans hy15.out).trans hy16.out)).c1, (HBr.out.ext ((((((((((hy6.out.trans hy7.out).trans hy8.out).trans hy9.out).trans hy10.out).trans hy11.out).trans hy12.out).trans hy13.out).trans hy14.out).trans hy15.out).trans hy16.out)).c0, (HBr.out.ext ((((((((((hy6.out.trans hy7.out).trans hy8.out).trans hy9.out).trans hy10.out).trans hy11.out).trans hy12.out).trans hy13.out).trans hy14.out).trans hy15.out).trans hy16.out)).c1, (HBs.out.ext (hy15.out.trans hy16.out)).c0, (HBs.out.ext (hy15.out.trans hy16.out)).c1, (HBt.out.ext (hy15.out.trans hy16.out)).c0, (HBt.out.ext (hy15.out.trans hy16.out)).c1⟩)
      | ((go_at_call 14); (with_reducible refine (zsame_v (O4.out.ext (((((((((((hy5.out.trans hy6.out).trans hy7.out).trans hy8.out).trans hy9.out).trans hy10.out).trans hy11.out).trans hy12.out).trans hy13.out).trans hy14.out).trans hy15.out).trans hy16.out)) O16.out (by omega) rfl).mono ?_); rintro E17 w17 ⟨rfl, hr17⟩; have X17 := hid (X16.out.trans hr17); have hy17 := hid hr17; clear hr17; have hk17 : w17.cell? ⟨w4.heap.size, 0, none⟩ = some (.bool b4) ∧ w17.cell? ⟨w4.heap.size, 1, none⟩ = some (.slice A4 n4 c4) ∧ w17.cell? ⟨w4.heap.size + 1, 0, none⟩ = some (.bool e4) ∧ w17.cell? ⟨w4.heap.size + 1, 1, none⟩ = some (.slice B4 m4 d4) ∧ w17.cell? ⟨w13.heap.size, 0, none⟩ = some (.bool b13) ∧ w17.cell? ⟨w13.heap.size, 1, none⟩ = some (.slice A13 n13 c13) ∧ w17.cell? ⟨w13.heap.size + 1, 0, none⟩ = some (.bool e13) ∧ w17.cell? ⟨w13.heap.size + 1, 1, none⟩ = some (.slice B13 m13 d13) := ⟨(HBq.out.ext (((((((((((hy6.out.trans hy7.out).trans hy8.out).trans hy9.out).trans hy10.out).trans hy11.out).trans hy12.out).trans hy13.out).trans hy14.out).trans hy15.out).trans hy16.out).trans hy17.out)).c0, (HBq.out.ext (((((((((((hy6.out.trans hy7.out).trans hy8.out).trans hy9.out).trans hy10.out).trans hy11.out).trans hy12.out).trans hy13.out).trans hy14.out).trans hy15.out).trans hy16.out).trans hy17.out)).c1, (HBr.out.ext (((((((((((hy6.out.trans hy7.out).trans hy8.out).trans hy9.out).trans hy10.out).trans hy11.out).trans hy12.out).trans hy13.out).trans hy14.out).trans hy15.out).trans hy16.out).trans hy17.out)).c0, (HBr.out.ext (((((((((((hy6.out.trans hy7.out).trans hy8.out).trans hy9.out).trans hy10.out).trans hy11.out).trans hy12.out).trans hy13.out).trans hy14.out).trans hy15.out).trans hy16.out).trans hy17.out)).c1, (HBs.out.ext ((hy15.out.trans hy16.out).trans hy17.out)).c0, (HBs.out.ext ((hy15.out.trans hy16.out).trans hy17.out)).c1, (HBt.out.ext ((hy15.out.trans hy16.out).trans hy17.out)).c0, (HBt.out.ext ((hy15.out.trans hy16.out).trans hy17.out)).c1⟩)
      | ((go_at_call 16); (with_reducible refine (zint_v (P13.out.ext (((hy14.out.trans hy15.out).trans hy16.out).trans hy17.out)) (by omega)).mono ?_); rintro E18 w18 ⟨b18, A18, n18, c18, rfl, o18, hr18⟩; have O18 := hid o18; clear o18; have X18 := hid (X17.out.trans hr18); have hy18 := hid hr18; clear hr18; have hk18 : w18.cell? ⟨w4.heap.size, 0, none⟩ = some (.bool b4) ∧ w18.cell? ⟨w4.heap.size, 1, none⟩ = some (.slice A4 n4 c4) ∧ w18.cell? ⟨w4.heap.size + 1, 0, none⟩ = some (.bool e4) ∧ w18.cell? ⟨w4.heap.size + 1, 1, none⟩ = some (.slice B4 m4 d4) ∧ w18.cell? ⟨w13.heap.size, 0, none⟩ = some (.bool b13) ∧ w18.cell? ⟨w13.heap.size, 1, none⟩ = some (.slice A13 n13 c13) ∧ w18.cell? ⟨w13.heap.size + 1, 0, none⟩ = some (.bool e13) ∧ w18.cell? ⟨w13.heap.size + 1, 1, none⟩ = some (.slice B13 m13 d13) := ⟨(HBq.out.ext ((((((((((((hy6.out.trans hy7.out).trans hy8.out).trans hy9.out).trans hy10.out).trans hy11.out).trans hy12.out).trans hy13.out).trans hy14.out).trans hy15.out).trans hy16.out).trans hy17.out).trans hy18.out)).c0, (HBq.out.ext ((((((((((((hy6.out.trans hy7.out).trans hy8.out).trans hy9.out).trans hy10.out).trans hy11.out).trans hy12.out).trans hy13.out).trans hy14.out).trans hy15.out).trans hy16.out).trans hy17.out).trans hy18.out)).c1, (HBr.out.ext ((((((((((((hy6.out.trans hy7.out).trans hy8.out).trans hy9.out).trans hy10.out).trans hy11.out).trans hy12.out).trans hy13.out).trans hy14.out).trans hy15.out).trans hy16.out).trans hy17.out).trans hy18.out)).c0, (HBr.out.ext ((((((((((((hy6.out.trans hy7.out).trans hy8.out).trans hy9.out).trans hy10.out).trans hy11.out).trans hy12.out).trans hy13.out).trans hy14.out).trans hy15.out).trans hy16.out).trans hy17.out).trans hy18.out)).c1, (HBs.out.ext (((hy15.out.trans hy16.out).trans hy17.out).trans hy18.out)).c0, (HBs.out.ext (((hy15.out.trans hy16.out).trans hy17.out).trans hy18.out)).c1, (HBt.out.ext (((hy15.out.trans hy16.out).trans hy17.out).trans hy18.out)).c0, (HBt.out.ext (((hy15.out.trans hy16.out).trans hy17.out).trans hy18.out)).c1⟩)
      | ((go_at_call 14); (with_reducible refine (zsame_v (P4.out.ext (((((((((((((hy5.out.trans hy6.out).trans hy7.out).trans hy8.out).trans hy9.out).trans hy10.out).trans hy11.out).trans hy12.out).trans hy13.out).trans hy14.out).trans hy15.out).trans hy16.out).trans hy17.out).trans hy18.out)) O18.out (by omega) rfl).mono ?_); rintro E19 w19 ⟨rfl, hr19⟩; have X19 := hid (X18.out.trans hr19); have hy19 := hid hr19; clear hr19; have hk19 : w19.cell? ⟨w4.heap.size, 0, none⟩ = some (.bool b4) ∧ w19.cell? ⟨w4.heap.size, 1, none⟩ = some (.slice A4 n4 c4) ∧ w19.cell? ⟨w4.heap.size + 1, 0, none⟩ = some (.bool e4) ∧ w19.cell? ⟨w4.heap.size + 1, 1, none⟩ = some (.slice B4 m4 d4) ∧ w19.cell? ⟨w13.heap.size, 0, none⟩ = some (.bool b13) ∧ w19.cell? ⟨w13.heap.size, 1, none⟩ = some (.slice A13 n13 c13) ∧ w19.cell? ⟨w13.heap.size + 1, 0, none⟩ = some (.bool e13) ∧ w19.cell? ⟨w13.heap.size + 1, 1, none⟩ = some (.slice B13 m13 d13) := ⟨(HBq.out.ext (((((((((((((hy6.out.trans hy7.out).trans hy8.out).trans hy9.out).trans hy10.out).trans hy11.out).trans hy12.out).trans hy13.out).trans hy14.out).trans hy15.out).trans hy16.out).trans hy17.out).trans hy18.out).trans hy19.out)).c0, (HBq.out.ext (((((((((((((hy6.out.trans hy7.out).trans hy8.out).trans hy9.out).trans hy10.out).trans hy11.out).trans hy12.out).trans hy13.out).trans hy14.out).trans hy15.out).trans hy16.out).trans hy17.out).trans hy18.out).trans hy19.out)).c1, (HBr.out.ext (((((((((((((hy6.out.trans hy7.out).trans hy8.out).trans hy9.out).trans hy10.out).trans hy11.out).trans hy12.out).trans hy13.out).trans hy14.out).trans hy15.out).trans hy16.out).trans hy17.out).trans hy18.out).trans hy19.out)).c0, (HBr.out.ext (((((((((((((hy6.out.trans hy7.out).trans hy8.out).trans hy9.out).trans hy10.out).trans hy11.out).trans hy12.out).trans hy13.out).trans hy14.out).trans hy15.out).trans hy16.out).trans hy17.out).trans hy18.out).trans hy19.out)).c1, (HBs.out.ext ((((hy15.out.trans hy16.out).trans hy17.out).trans hy18.out).trans hy19.out)).c0, (HBs.out.ext ((((hy15.out.trans hy16.out).trans hy17.out).trans hy18.out).trans hy19.out)).c1, (HBt.out.ext ((((hy15.out.trans hy16.out).trans hy17.out).trans hy18.out).trans hy19.out)).c0, (HBt.out.ext ((((hy15.out.trans hy16.out).trans hy17.out).trans hy18.out).trans hy19.out)).c1⟩))
  clear hk14 hk15 hk16 hk17 hk18 hk19
  obtain ⟨f19_0, f19_1, f19_2, f19_3, f19_4, f19_5⟩ : w19.cell? ⟨w13.heap.size + 1, 0, none⟩ = some (.bool e13) ∧ w19.cell? ⟨w13.heap.size + 1, 1, none⟩ = some (.slice B13 m13 d13) ∧ w19.cell? ⟨w6.heap.size, 0, none⟩ = some (.bool b6) ∧ w19.cell? ⟨w6.heap.size, 1, none⟩ = some (.slice A6 n6 c6) ∧ w19.cell? ⟨w13.heap.size, 0, none⟩ = some (.bool b13) ∧ w19.cell? ⟨w13.heap.size, 1, none⟩ = some (.slice A13 n13 c13) := ⟨(HBt.out.ext ((((hy15.out.trans hy16.out).trans hy17.out).trans hy18.out).trans hy19.out)).c0, (HBt.out.ext ((((hy15.out.trans hy16.out).trans hy17.out).trans hy18.out).trans hy19.out)).c1, (HBp.out.ext (((((((((((hy8.out.trans hy9.out).trans hy10.out).trans hy11.out).trans hy12.out).trans hy13.out).trans hy14.out).trans hy15.out).trans hy16.out).trans hy17.out).trans hy18.out).trans hy19.out)).c0, (HBp.out.ext (((((((((((hy8.out.trans hy9.out).trans hy10.out).trans hy11.out).trans hy12.out).trans hy13.out).trans hy14.out).trans hy15.out).trans hy16.out).trans hy17.out).trans hy18.out).trans hy19.out)).c1, (HBs.out.ext ((((hy15.out.trans hy16.out).trans hy17.out).trans hy18.out).trans hy19.out)).c0, (HBs.out.ext ((((hy15.out.trans hy16.out).trans hy17.out).trans hy18.out).trans hy19.out)).c1⟩
  go_upto_region 17 with (first
    | ((go_at_call 18); (with_reducible refine (zsign_is (P13.out.ext (((((hy14.out.trans hy15.out).trans hy16.out).trans hy17.out).trans hy18.out).trans hy19.out)) hst.out).mono ?_); rintro E20 w20 ⟨rfl, hr20⟩; have X20 := hid (X19.out.trans hr20); have hy20 := hid hr20; clear hr20; obtain ⟨f20_0, f20_1, f20_2, f20_3, f20_4, f20_5⟩ : w20.cell? ⟨w13.heap.size + 1, 0, none⟩ = some (.bool e13) ∧ w20.cell? ⟨w13.heap.size + 1, 1, none⟩ = some (.slice B13 m13 d13) ∧ w20.cell? ⟨w6.heap.size, 0, none⟩ = some (.bool b6) ∧ w20.cell? ⟨w6.heap.size, 1, none⟩ = some (.slice A6 n6 c6) ∧ w20.cell? ⟨w13.heap.size, 0, none⟩ = some (.bool b13) ∧ w20.cell? ⟨w13.heap.size, 1, none⟩ = some (.slice A13 n13 c13) := ⟨(HBt.out.ext (((((hy15.out.trans hy16.out).trans hy17.out).trans hy18.out).trans hy19.out).trans hy20.out)).c0, (HBt.out.ext (((((hy15.out.trans hy16.out).trans hy17.out).trans hy18.out).trans hy19.out).trans hy20.out)).c1, (HBp.out.ext ((((((((((((hy8.out.trans hy9.out).trans hy10.out).trans hy11.out).trans hy12.out).trans hy13.out).trans hy14.out).trans hy15.out).trans hy16.out).trans hy17.out).trans hy18.out).trans hy19.out).trans hy20.out)).c0, (HBp.out.ext ((((((((((((hy8.out.trans hy9.out).trans hy10.out).trans hy11.out).trans hy12.out).trans hy13.out).trans hy14.out).trans hy15.out).trans hy16.out).trans hy17.out).trans hy18.out).trans hy19.out).trans hy20.out)).c1, (HBs.out.ext (((((hy15.out.trans hy16.out).trans hy17.out).trans hy18.out).trans hy19.out).trans hy20.out)).c0, (HBs.out.ext (((((hy15.out.trans hy16.out).trans hy17.out).trans hy18.out).trans hy19.out).trans hy20.out)).c1⟩))
  have hk20 : w20.cell? ⟨w6.heap.size, 0, none⟩ = some (.bool b6) ∧ w20.cell? ⟨w6.heap.size, 1, none⟩ = some (.slice A6 n6 c6) ∧ w20.cell? ⟨w13.heap.size, 0, none⟩ = some (.bool b13) ∧ w20.cell? ⟨w13.heap.size, 1, none⟩ = some (.slice A13 n13 c13) := ⟨(HBp.out.ext ((((((((((((hy8.out.trans hy9.out).trans hy10.out).trans hy11.out).trans hy12.out).trans hy13.out).trans hy14.out).trans hy15.out).trans hy16.out).trans hy17.out).trans hy18.out).trans hy19.out).trans hy20.out)).c0, (HBp.out.ext ((((((((((((hy8.out.trans hy9.out).trans hy10.out).trans hy11.out).trans hy12.out).trans hy13.out).trans hy14.out).trans hy15.out).trans hy16.out).trans hy17.out).trans hy18.out).trans hy19.out).trans hy20.out)).c1, (HBs.out.ext (((((hy15.out.trans hy16.out).trans hy17.out).trans hy18.out).trans hy19.out).trans hy20.out)).c0, (HBs.out.ext (((((hy15.out.trans hy16.out).trans hy17.out).trans hy18.out).trans hy19.out).trans hy20.out)).c1⟩
  have hy21 := hid (Ext.refl w20).drew
  have X21 := hid (X20.out.trans hy21.out)
  have hk21 : w20.drew.cell? ⟨w6.heap.size, 0, none⟩ = some (.bool b6) ∧ w20.drew.cell? ⟨w6.heap.size, 1, none⟩ = some (.slice A6 n6 c6) ∧ w20.drew.cell? ⟨w13.heap.size, 0, none⟩ = some (.bool b13) ∧ w20.drew.cell? ⟨w13.heap.size, 1, none⟩ = some (.slice A13 n13 c13) := ⟨(HBp.out.ext (((((((((((((hy8.out.trans hy9.out).trans hy10.out).trans hy11.out).trans hy12.out).trans hy13.out).trans hy14.out).trans hy15.out).trans hy16.out).trans hy17.out).trans hy18.out).trans hy19.out).trans hy20.out).trans hy21.out)).c0, (HBp.out.ext (((((((((((((hy8.out.trans hy9.out).trans hy10.out).trans hy11.out).trans hy12.out).trans hy13.out).trans hy14.out).trans hy15.out).trans hy16.out).trans hy17.out).trans hy18.out).trans hy19.out).trans hy20.out).trans hy21.out)).c1, (HBs.out.ext ((((((hy15.out.trans hy16.out).trans hy17.out).trans hy18.out).trans hy19.out).trans hy20.out).trans hy21.out)).c0, (HBs.out.ext ((((((hy15.out.trans hy16.out).trans hy17.out).trans hy18.out).trans hy19.out).trans hy20.out).trans hy21.out)).c1⟩
  go_region_held3 (fun w' => w'.cell? ⟨w6.heap.size, 0, none⟩ = some (.bool b6) ∧ w'.cell? ⟨w6.heap.size, 1, none⟩ = some (.slice A6 n6 c6) ∧ w'.cell? ⟨w13.heap.size, 0, none⟩ = some (.bool b13) ∧ w'.cell? ⟨w13.heap.size, 1, none⟩ = some (.slice A13 n13 c13))
    (first | (with_reducible exact hk20) | (with_reducible exact hk21) | (with_reducible exact hk22) | (with_reducible exact hk23) | (with_reducible exact hk24))
    (first
      | ((go_at_call 16); (with_reducible refine (zint_v (O13.out.ext (((((((hy14.out.trans hy15.out).trans hy16.out).trans hy17.out).trans hy18.out).trans hy19.out).trans hy20.out).trans hy21.out)) (by omega)).mono ?_); rintro E22 w22 ⟨b22, A22, n22, c22, rfl, o22, hr22⟩; have O22 := hid o22; clear o22; have X22 := hid (X21.out.trans hr22); have hy22 := hid hr22; clear hr22; have hk22 : w22.cell? ⟨w6.heap.size, 0, none⟩ = some (.bool b6) ∧ w22.cell? ⟨w6.heap.size, 1, none⟩ = some (.slice A6 n6 c6) ∧ w22.cell? ⟨w13.heap.size, 0, none⟩ = some (.bool b13) ∧ w22.cell? ⟨w13.heap.size, 1, none⟩ = some (.slice A13 n13 c13) := ⟨(HBp.out.ext ((((((((((((((hy8.out.trans hy9.out).trans hy10.out).trans hy11.out).trans hy12.out).trans hy13.out).trans hy14.out).trans hy15.out).trans hy16.out).trans hy17.out).trans hy18.out).trans hy19.out).trans hy20.out).trans hy21.out).trans hy22.out)).c0, (HBp.out.ext ((((((((((((((hy8.out.trans hy9.out).trans hy10.out).trans hy11.out).trans hy12.out).trans hy13.out).trans hy14.out).trans hy15.out).trans hy16.out).trans hy17.out).trans hy18.out).trans hy19.out).trans hy20.out).trans hy21.out).trans hy22.out)).c1, (HBs.out.ext (((((((hy15.out.trans hy16.out).trans hy17.out).trans hy18.out).trans hy19.out).trans hy20.out).trans hy21.out).trans hy22.out)).c0, (HBs.out.ext (((((((hy15.out.trans hy16.out).trans hy17.out).trans hy18.out).trans hy19.out).trans hy20.out).trans hy21.out).trans hy22.out)).c1⟩)
      | ((go_at_call 14); (with_reducible refine (zsame_v (O6.out.ext (((((((((((((((hy7.out.trans hy8.out).trans hy9.out).trans hy10.out).trans hy11.out).trans hy12.out).trans hy13.out).trans hy14.out).trans hy15.out).trans hy16.out).trans hy17.out).trans hy18.out).trans hy19.out).trans hy20.out).trans hy21.out).trans hy22.out)) O22.out (by omega) rfl).mono ?_); rintro E23 w23 ⟨rfl, hr23⟩; have X23 := hid (X22.out.trans hr23); have hy23 := hid hr23; clear hr23; have hk23 : w23.cell? ⟨w6.heap.size, 0, none⟩ = some (.bool b6) ∧ w23.cell? ⟨w6.heap.size, 1, none⟩ = some (.slice A6 n6 c6) ∧ w23.cell? ⟨w13.heap.size, 0, none⟩ = some (.bool b13) ∧ w23.cell? ⟨w13.heap.size, 1, none⟩ = some (.slice A13 n13 c13) := ⟨(HBp.out.ext (((((((((((((((hy8.out.trans hy9.out).trans hy10.out).trans hy11.out).trans hy12.out).trans hy13.out).trans hy14.out).trans hy15.out).trans hy16.out).trans hy17.out).trans hy18.out).trans hy19.out).trans hy20.out).trans hy21.out).trans hy22.out).trans hy23.out)).c0, (HBp.out.ext (((((((((((((((hy8.out.trans hy9.out).trans hy10.out).trans hy11.out).trans hy12.out).trans hy13.out).trans hy14.out).trans hy15.out).trans hy16.out).trans hy17.out).trans hy18.out).trans hy19.out).trans hy20.out).trans hy21.out).trans hy22.out).trans hy23.out)).c1, (HBs.out.ext ((((((((hy15.out.trans hy16.out).trans hy17.out).trans hy18.out).trans hy19.out).trans hy20.out).trans hy21.out).trans hy22.out).trans hy23.out)).c0, (HBs.out.ext ((((((((hy15.out.trans hy16.out).trans hy17.out).trans hy18.out).trans hy19.out).trans hy20.out).trans hy21.out).trans hy22.out).trans hy23.out)).c1⟩)
      | ((go_at_call 8); (with_reducible refine (known_any4).mono ?_); rintro E24 w24 ⟨rfl, hr24⟩; have X24 := hid (X23.out.trans hr24); have hy24 := hid hr24; clear hr24; have hk24 : w24.cell? ⟨w6.heap.size, 0, none⟩ = some (.bool b6) ∧ w24.cell? ⟨w6.heap.size, 1, none⟩ = some (.slice A6 n6 c6) ∧ w24.cell? ⟨w13.heap.size, 0, none⟩ = some (.bool b13) ∧ w24.cell? ⟨w13.heap.size, 1, none⟩ = some (.slice A13 n13 c13) := ⟨(HBp.out.ext ((((((((((((((((hy8.out.trans hy9.out).trans hy10.out).trans hy11.out).trans hy12.out).trans hy13.out).trans hy14.out).trans hy15.out).trans hy16.out).trans hy17.out).trans hy18.out).trans hy19.out).trans hy20.out).trans hy21.out).trans hy22.out).trans hy23.out).trans hy24.out)).c0, (HBp.out.ext ((((((((((((((((hy8.out.trans hy9.out).trans hy10.out).trans hy11.out).trans hy12.out).trans hy13.out).trans hy14.out).trans hy15.out).trans hy16.out).trans hy17.out).trans hy18.out).trans hy19.out).trans hy20.out).trans hy21.out).trans hy22.out).trans hy23.out).trans hy24.out)).c1, (HBs.out.ext (((((((((hy15.out.trans hy16.out).trans hy17.out).trans hy18.out).trans hy19.out).trans hy20.out).trans hy21.out).trans hy22.out).trans hy23.out).trans hy24.out)).c0, (HBs.out.ext (((((((((hy15.out.trans hy16.out).trans hy17.out).trans hy18.out).trans hy19.out).trans hy20.out).trans hy21.out).trans hy22.out).trans hy23.out).trans hy24.out)).c1⟩))
  clear hk20 hk21 hk22 hk23 hk24
  go_wp2_with fail
  go_ret
  exact ⟨rfl, X24.out⟩

end Go.Proofs.Ytbhiolpiaanckaa
