
/-
  The walk of the statement WholeRing. Printed by wip/gen/law4.py.
-/
import Derived.Test.YtmfgcjjoagdamaaKnown4
import Derived.Test.YtmfgcjjoagdamaaOwn
namespace Go.Proofs.Ytmfgcjjoagdamaa
open Go.RowKit
open Go.Lib (hid)

theorem may_is {w : World} {s b : Bool} {A : Option Addr} {n c : Nat} {xs : List Nat} (h : Sl .u32 w A n c xs) (hn : n ≤ 1000000) (hb : mayB s xs = b) : Calls Try.prog 40 #[.agg #[.bool s, .slice A n c]] w (RetE (.bool b) w) := hb ▸ may_any h hn
theorem rmay_is {w : World} {s b : Bool} {A : Option Addr} {n c K : Nat} {xs : List Nat} (h : Sl .u32 w A n c xs) (hx : Lim 4294967296 xs) (hn : n ≤ K) (hK : K ≤ 10000) (hb : mayB s xs = b) : Calls Try.prog 49 #[.agg #[.bool s, .slice A n c]] w (RetE (.bool b) w) := hb ▸ rmay_any h hx hn hK
theorem zsame_c {w : World} {s : Bool} {A B : Option Addr} {n c d lo : Nat} {e : TypeId} {xs : List Nat} (h : Own .u32 e w lo A n c xs) (h' : Sl .u32 w B n d xs) (hn : n ≤ 1099511627776) :
    Calls Try.prog 17 #[.agg #[.bool s, .slice A n c], .agg #[.bool s, .slice B n d]] w (RetE (.bool true) w) :=
  zsame_of rfl fun _ hx => same_yes (h.sl.ext hx) (h'.ext hx) rfl hn

set_option maxHeartbeats 6400000 in
set_option maxRecDepth 100000 in
theorem wholeRing_small {w : World} {sx sy : Bool} {Px Py : Option Addr} {lx kx ly ky : Nat} {Xx Xy : List Nat} {x y n : Int} (gx : Sl .u32 w Px lx kx Xx) (mx : Lim 4294967296 Xx) (gy : Sl .u32 w Py ly ky Xy) (my : Lim 4294967296 Xy) (ex : zv sx (nv 4294967296 Xx) = x) (ey : zv sy (nv 4294967296 Xy) = y) (bdx : lx ≤ 25) (bdy : ly ≤ 25) (hn0 : -9223372036854775808 ≤ n) (hn1 : n ≤ 9223372036854775807) :
    Calls Try.prog 12 #[.agg #[.bool sx, .slice Px lx kx], .agg #[.bool sy, .slice Py ly ky], .int .i64 n] w (RetE (.bool true) w) := by
  have Hx := hid (show Iz 25 w sx Px lx kx x from ex ▸ Iz.mk (Nv.mk gx mx bdx))
  have Hy := hid (show Iz 25 w sy Py ly ky y from ey ▸ Iz.mk (Nv.mk gy my bdy))
  have GX := hid gx
  have GY := hid gy
  have MX := hid mx
  have MY := hid my
  have EX := hid ex
  have EY := hid ey
  have N0 := hid hn0
  have N1 := hid hn1
  obtain ⟨C, hC0⟩ : ∃ C, sg x = C := ⟨_, rfl⟩
  obtain ⟨E, hE0⟩ : ∃ E, sg (x - y) = E := ⟨_, rfl⟩
  obtain ⟨M, hM0⟩ : ∃ M, mayB sx Xx = M := ⟨_, rfl⟩
  have hC := hid hC0
  have hE := hid hE0
  have hM := hid hM0
  clear gx mx gy my ex ey hn0 hn1 hC0 hE0 hM0
  go_enter Try.func12, Try.ntmps12
  go_wp2_with fail
  have hy1 := hid ((((Ext.refl w).alloc (.cells #[.bool sx, .slice Px lx kx] 24)).alloc (.cells #[.bool sy, .slice Py ly ky] 24)).alloc (.cells #[.bool sx, .slice Px lx kx, .bool sy, .slice Py ly ky] 24))
  have Bx := ((Bx.new w sx Px lx kx).ext (((Ext.refl (w.alloc (.cells #[.bool sx, .slice Px lx kx] 24))).alloc (.cells #[.bool sy, .slice Py ly ky] 24)).alloc (.cells #[.bool sx, .slice Px lx kx, .bool sy, .slice Py ly ky] 24)))
  have HBx := hid Bx
  clear Bx
  have By := ((Bx.new (w.alloc (.cells #[.bool sx, .slice Px lx kx] 24)) sy Py ly ky).ext ((Ext.refl ((w.alloc (.cells #[.bool sx, .slice Px lx kx] 24)).alloc (.cells #[.bool sy, .slice Py ly ky] 24))).alloc (.cells #[.bool sx, .slice Px lx kx, .bool sy, .slice Py ly ky] 24)))
  rw [size_alloc] at By
  have HBy := hid By
  clear By
  have BR := row2_new ((w.alloc (.cells #[.bool sx, .slice Px lx kx] 24)).alloc (.cells #[.bool sy, .slice Py ly ky] 24)) sx Px lx kx sy Py ly ky
  rw [size_alloc, size_alloc] at BR
  have HBR := hid BR
  clear BR
  generalize (((w.alloc (.cells #[.bool sx, .slice Px lx kx] 24)).alloc (.cells #[.bool sy, .slice Py ly ky] 24)).alloc (.cells #[.bool sx, .slice Px lx kx, .bool sy, .slice Py ly ky] 24)) = w1 at *
  have X1 := hid ((Ext.refl _).trans hy1.out)
  go_upto_region 3 with (first
    | ((go_at_call 33); (with_reducible refine (great2_no HBR.out bdx bdy).mono ?_); rintro E2 w2 ⟨rfl, hr2⟩; have X2 := hid (X1.out.trans hr2); have hy2 := hid hr2; clear hr2; obtain ⟨f2_0, f2_1, f2_2, f2_3⟩ : w2.cell? ⟨w.heap.size, 0, none⟩ = some (.bool sx) ∧ w2.cell? ⟨w.heap.size, 1, none⟩ = some (.slice Px lx kx) ∧ w2.cell? ⟨w.heap.size + 1, 0, none⟩ = some (.bool sy) ∧ w2.cell? ⟨w.heap.size + 1, 1, none⟩ = some (.slice Py ly ky) := ⟨(HBx.out.ext hy2.out).c0, (HBx.out.ext hy2.out).c1, (HBy.out.ext hy2.out).c0, (HBy.out.ext hy2.out).c1⟩))
  clear f2_0 f2_1 f2_2 f2_3
  go_cut [7, 8] (fun v7 v8 wx => ∃ (g7 : Nat) (P7 : Option Addr) (r7 g8 : Nat) (P8 : Option Addr) (r8 : Nat), v7 = .pointer (some ⟨g7, 0, none⟩) ∧ v8 = .pointer (some ⟨g8, 0, none⟩) ∧ Bx wx g7 sx P7 lx r7 ∧ Bx wx g8 sy P8 ly r8 ∧ Own .u32 39 wx 0 P7 lx r7 Xx ∧ Own .u32 39 wx 0 P8 ly r8 Xy ∧ Ext w2 wx)
  case first =>
    as_aux_lemma =>
      refine wp_region_held_drew (S := fun w' => Ext w2 w') (by kernel_rfl) (Ext.refl _).drew (fun hS0 => ?_)
      change wpAnyH _ _ _ _ _ 8 #[false, false, false, false, false, false, false, false] _ _
      refine drawn_load 0 20 24 (.tmp 3) (w.heap.size) 24 #[.bool sx, .slice Px lx kx] (0, 0) _ (by kernel_rfl) rfl (fun w' hS => (HBx.out.ext hy2.out).ext hS) Try.underlying24 rfl info_int_s (by kernel_rfl) (by kernel_rfl) (by kernel_rfl) (fun _ _ _ _ h => h) hS0 ?_
      simp only [Act.put, List.setIfInBounds_toArray, List.set_cons_zero, List.set_cons_succ]
      refine drawn_load 2 22 24 (.tmp 4) (w.heap.size + 1) 24 #[.bool sy, .slice Py ly ky] (0, 0) _ (by kernel_rfl) rfl (fun w' hS => (HBy.out.ext hy2.out).ext hS) Try.underlying24 rfl info_int_s (by kernel_rfl) (by kernel_rfl) (by kernel_rfl) (fun _ _ _ _ h => h) hS0 ?_
      simp only [Act.put, List.setIfInBounds_toArray, List.set_cons_zero, List.set_cons_succ]
      refine wpAnyH_ready (rs := [1, 4, 5]) (by kernel_rfl) (by simp) ?_
      refine drawn_call1 1 (some 21) (.tmp 20) (ts := #[24]) (by kernel_rfl) (enters_of Try.func46 (by kernel_rfl) rfl) rfl (own_v (GX.out.ext (X2.out.trans hS0)) (by omega)) (fun E v1 hh => ?_) ?_
      · skip
        obtain ⟨A1, c1, rfl, o1, hx1⟩ := hh
        refine ⟨_, rfl, hS0.trans hx1, ?_⟩
        simp only [Act.put, List.setIfInBounds_toArray, List.set_cons_zero, List.set_cons_succ]
        have S1 := hS0.trans hx1
        refine wpAnyH_ready (rs := [3, 4, 5]) (by kernel_rfl) (by simp) ?_
        refine drawn_call1 3 (some 23) (.tmp 22) (ts := #[24]) (by kernel_rfl) (enters_of Try.func46 (by kernel_rfl) rfl) rfl (own_v (GY.out.ext (X2.out.trans S1)) (by omega)) (fun E v3 hh => ?_) ?_
        · skip
          obtain ⟨A3, c3, rfl, o3, hx3⟩ := hh
          refine ⟨_, rfl, S1.trans hx3, ?_⟩
          simp only [Act.put, List.setIfInBounds_toArray, List.set_cons_zero, List.set_cons_succ]
          have S3 := S1.trans hx3
          refine wpAnyH_ready (rs := [4, 5]) (by kernel_rfl) (by simp) ?_
          refine drawn_alloc 4 (some 7) (by kernel_rfl) alloc_int (fun g4 v4 hb4 hx4 hg4 => ⟨S3.trans hx4, ?_⟩) ?_
          · skip
            simp only [Act.put, List.setIfInBounds_toArray, List.set_cons_zero, List.set_cons_succ]
            have S4 := S3.trans hx4
            have ge4 := Nat.le_trans S3.size hg4
            refine wpAnyH_ready (rs := [5]) (by kernel_rfl) (by simp) ?_
            refine drawn_alloc 5 (some 8) (by kernel_rfl) alloc_int (fun g5 v5 hb5 hx5 hg5 => ⟨S4.trans hx5, ?_⟩) ?_
            · skip
              simp only [Act.put, List.setIfInBounds_toArray, List.set_cons_zero, List.set_cons_succ]
              have S5 := S4.trans hx5
              have ge5 := Nat.le_trans S4.size hg5
              have ltB7_5 := Nat.lt_of_lt_of_le (show Bx v4 g4 false none 0 0 from hb4).lt hg5
              refine wpAnyH_ready (rs := [6]) (by kernel_rfl) (by simp) ?_
              refine drawn_store 6 24 (.tmp 7) (.tmp 21) g4 #[.bool sx, .slice A1 lx c1] #[.bool false, .slice none 0 0] 24 (by kernel_rfl) rfl rfl ((show Bx v4 g4 false none 0 0 from hb4).ext hx5) info_int_s rfl one_two (fun v6 hb6 hg6 => ⟨S5.gb hg6 ge4, ?_⟩) ?_
              · skip
                simp only [Act.put, List.setIfInBounds_toArray, List.set_cons_zero, List.set_cons_succ]
                have hq6 := ((show Bx v4 g4 false none 0 0 from hb4).ext hx5)
                have S6 := S5.gb hg6 ge4
                refine wpAnyH_ready (rs := [7]) (by kernel_rfl) (by simp) ?_
                refine drawn_store 7 24 (.tmp 8) (.tmp 23) g5 #[.bool sy, .slice A3 ly c3] #[.bool false, .slice none 0 0] 24 (by kernel_rfl) rfl rfl ((show Bx v5 g5 false none 0 0 from hb5).grown hg6 (by simp; omega)) info_int_s rfl one_two (fun v7 hb7 hg7 => ⟨S6.gb hg7 ge5, ?_⟩) ?_
                · skip
                  simp only [Act.put, List.setIfInBounds_toArray, List.set_cons_zero, List.set_cons_succ]
                  have hq7 := ((show Bx v5 g5 false none 0 0 from hb5).grown hg6 (by simp; omega))
                  have S7 := S6.gb hg7 ge5
                  refine wpAnyH_done (by kernel_rfl) ?_ _
                  go_step
                  go_step
                  go_meet
                  case rel => exact ⟨_, _, _, _, _, _, rfl, rfl, ((show Bx v6 g4 sx A1 lx c1 from hb6).grown hg7 (by simp; omega)), (show Bx v7 g5 sy A3 ly c3 from hb7), ((((((o1.ext hx3).ext hx4).ext hx5).gbx hq6 (by decide) hg6).gbx hq7 (by decide) hg7).mono (Nat.zero_le _)), (((((o3.ext hx4).ext hx5).gbx hq6 (by decide) hg6).gbx hq7 (by decide) hg7).mono (Nat.zero_le _)), S7⟩
                exact drawn_nil
              exact drawn_nil
            exact drawn_nil
          refine drawn_alloc 5 (some 8) (by kernel_rfl) alloc_int (fun g5 v5 hb5 hx5 hg5 => ⟨S3.trans hx5, ?_⟩) ?_
          · skip
            simp only [Act.put, List.setIfInBounds_toArray, List.set_cons_zero, List.set_cons_succ]
            have S5 := S3.trans hx5
            have ge5 := Nat.le_trans S3.size hg5
            refine wpAnyH_ready (rs := [4]) (by kernel_rfl) (by simp) ?_
            refine drawn_alloc 4 (some 7) (by kernel_rfl) alloc_int (fun g4 v4 hb4 hx4 hg4 => ⟨S5.trans hx4, ?_⟩) ?_
            · skip
              simp only [Act.put, List.setIfInBounds_toArray, List.set_cons_zero, List.set_cons_succ]
              have S4 := S5.trans hx4
              have ge4 := Nat.le_trans S5.size hg4
              have ltB8_4 := Nat.lt_of_lt_of_le (show Bx v5 g5 false none 0 0 from hb5).lt hg4
              refine wpAnyH_ready (rs := [6]) (by kernel_rfl) (by simp) ?_
              refine drawn_store 6 24 (.tmp 7) (.tmp 21) g4 #[.bool sx, .slice A1 lx c1] #[.bool false, .slice none 0 0] 24 (by kernel_rfl) rfl rfl (show Bx v4 g4 false none 0 0 from hb4) info_int_s rfl one_two (fun v6 hb6 hg6 => ⟨S4.gb hg6 ge4, ?_⟩) ?_
              · skip
                simp only [Act.put, List.setIfInBounds_toArray, List.set_cons_zero, List.set_cons_succ]
                have hq6 := (show Bx v4 g4 false none 0 0 from hb4)
                have S6 := S4.gb hg6 ge4
                refine wpAnyH_ready (rs := [7]) (by kernel_rfl) (by simp) ?_
                refine drawn_store 7 24 (.tmp 8) (.tmp 23) g5 #[.bool sy, .slice A3 ly c3] #[.bool false, .slice none 0 0] 24 (by kernel_rfl) rfl rfl (((show Bx v5 g5 false none 0 0 from hb5).ext hx4).grown hg6 (by simp; omega)) info_int_s rfl one_two (fun v7 hb7 hg7 => ⟨S6.gb hg7 ge5, ?_⟩) ?_
                · skip
                  simp only [Act.put, List.setIfInBounds_toArray, List.set_cons_zero, List.set_cons_succ]
                  have hq7 := (((show Bx v5 g5 false none 0 0 from hb5).ext hx4).grown hg6 (by simp; omega))
                  have S7 := S6.gb hg7 ge5
                  refine wpAnyH_done (by kernel_rfl) ?_ _
                  go_step
                  go_step
                  go_meet
                  case rel => exact ⟨_, _, _, _, _, _, rfl, rfl, ((show Bx v6 g4 sx A1 lx c1 from hb6).grown hg7 (by simp; omega)), (show Bx v7 g5 sy A3 ly c3 from hb7), ((((((o1.ext hx3).ext hx5).ext hx4).gbx hq6 (by decide) hg6).gbx hq7 (by decide) hg7).mono (Nat.zero_le _)), (((((o3.ext hx5).ext hx4).gbx hq6 (by decide) hg6).gbx hq7 (by decide) hg7).mono (Nat.zero_le _)), S7⟩
                exact drawn_nil
              exact drawn_nil
            exact drawn_nil
          exact drawn_nil
        refine drawn_alloc 4 (some 7) (by kernel_rfl) alloc_int (fun g4 v4 hb4 hx4 hg4 => ⟨S1.trans hx4, ?_⟩) ?_
        · skip
          simp only [Act.put, List.setIfInBounds_toArray, List.set_cons_zero, List.set_cons_succ]
          have S4 := S1.trans hx4
          have ge4 := Nat.le_trans S1.size hg4
          refine wpAnyH_ready (rs := [3, 5]) (by kernel_rfl) (by simp) ?_
          refine drawn_call1 3 (some 23) (.tmp 22) (ts := #[24]) (by kernel_rfl) (enters_of Try.func46 (by kernel_rfl) rfl) rfl (own_v (GY.out.ext (X2.out.trans S4)) (by omega)) (fun E v3 hh => ?_) ?_
          · skip
            obtain ⟨A3, c3, rfl, o3, hx3⟩ := hh
            refine ⟨_, rfl, S4.trans hx3, ?_⟩
            simp only [Act.put, List.setIfInBounds_toArray, List.set_cons_zero, List.set_cons_succ]
            have S3 := S4.trans hx3
            refine wpAnyH_ready (rs := [5]) (by kernel_rfl) (by simp) ?_
            refine drawn_alloc 5 (some 8) (by kernel_rfl) alloc_int (fun g5 v5 hb5 hx5 hg5 => ⟨S3.trans hx5, ?_⟩) ?_
            · skip
              simp only [Act.put, List.setIfInBounds_toArray, List.set_cons_zero, List.set_cons_succ]
              have S5 := S3.trans hx5
              have ge5 := Nat.le_trans S3.size hg5
              have ltB7_5 := Nat.lt_of_lt_of_le ((show Bx v4 g4 false none 0 0 from hb4).ext hx3).lt hg5
              refine wpAnyH_ready (rs := [6]) (by kernel_rfl) (by simp) ?_
              refine drawn_store 6 24 (.tmp 7) (.tmp 21) g4 #[.bool sx, .slice A1 lx c1] #[.bool false, .slice none 0 0] 24 (by kernel_rfl) rfl rfl (((show Bx v4 g4 false none 0 0 from hb4).ext hx3).ext hx5) info_int_s rfl one_two (fun v6 hb6 hg6 => ⟨S5.gb hg6 ge4, ?_⟩) ?_
              · skip
                simp only [Act.put, List.setIfInBounds_toArray, List.set_cons_zero, List.set_cons_succ]
                have hq6 := (((show Bx v4 g4 false none 0 0 from hb4).ext hx3).ext hx5)
                have S6 := S5.gb hg6 ge4
                refine wpAnyH_ready (rs := [7]) (by kernel_rfl) (by simp) ?_
                refine drawn_store 7 24 (.tmp 8) (.tmp 23) g5 #[.bool sy, .slice A3 ly c3] #[.bool false, .slice none 0 0] 24 (by kernel_rfl) rfl rfl ((show Bx v5 g5 false none 0 0 from hb5).grown hg6 (by simp; omega)) info_int_s rfl one_two (fun v7 hb7 hg7 => ⟨S6.gb hg7 ge5, ?_⟩) ?_
                · skip
                  simp only [Act.put, List.setIfInBounds_toArray, List.set_cons_zero, List.set_cons_succ]
                  have hq7 := ((show Bx v5 g5 false none 0 0 from hb5).grown hg6 (by simp; omega))
                  have S7 := S6.gb hg7 ge5
                  refine wpAnyH_done (by kernel_rfl) ?_ _
                  go_step
                  go_step
                  go_meet
                  case rel => exact ⟨_, _, _, _, _, _, rfl, rfl, ((show Bx v6 g4 sx A1 lx c1 from hb6).grown hg7 (by simp; omega)), (show Bx v7 g5 sy A3 ly c3 from hb7), ((((((o1.ext hx4).ext hx3).ext hx5).gbx hq6 (by decide) hg6).gbx hq7 (by decide) hg7).mono (Nat.zero_le _)), ((((o3.ext hx5).gbx hq6 (by decide) hg6).gbx hq7 (by decide) hg7).mono (Nat.zero_le _)), S7⟩
                exact drawn_nil
              exact drawn_nil
            exact drawn_nil
          refine drawn_alloc 5 (some 8) (by kernel_rfl) alloc_int (fun g5 v5 hb5 hx5 hg5 => ⟨S4.trans hx5, ?_⟩) ?_
          · skip
            simp only [Act.put, List.setIfInBounds_toArray, List.set_cons_zero, List.set_cons_succ]
            have S5 := S4.trans hx5
            have ge5 := Nat.le_trans S4.size hg5
            have ltB7_5 := Nat.lt_of_lt_of_le (show Bx v4 g4 false none 0 0 from hb4).lt hg5
            refine wpAnyH_ready (rs := [3]) (by kernel_rfl) (by simp) ?_
            refine drawn_call1 3 (some 23) (.tmp 22) (ts := #[24]) (by kernel_rfl) (enters_of Try.func46 (by kernel_rfl) rfl) rfl (own_v (GY.out.ext (X2.out.trans S5)) (by omega)) (fun E v3 hh => ?_) ?_
            · skip
              obtain ⟨A3, c3, rfl, o3, hx3⟩ := hh
              refine ⟨_, rfl, S5.trans hx3, ?_⟩
              simp only [Act.put, List.setIfInBounds_toArray, List.set_cons_zero, List.set_cons_succ]
              have S3 := S5.trans hx3
              refine wpAnyH_ready (rs := [6]) (by kernel_rfl) (by simp) ?_
              refine drawn_store 6 24 (.tmp 7) (.tmp 21) g4 #[.bool sx, .slice A1 lx c1] #[.bool false, .slice none 0 0] 24 (by kernel_rfl) rfl rfl (((show Bx v4 g4 false none 0 0 from hb4).ext hx5).ext hx3) info_int_s rfl one_two (fun v6 hb6 hg6 => ⟨S3.gb hg6 ge4, ?_⟩) ?_
              · skip
                simp only [Act.put, List.setIfInBounds_toArray, List.set_cons_zero, List.set_cons_succ]
                have hq6 := (((show Bx v4 g4 false none 0 0 from hb4).ext hx5).ext hx3)
                have S6 := S3.gb hg6 ge4
                refine wpAnyH_ready (rs := [7]) (by kernel_rfl) (by simp) ?_
                refine drawn_store 7 24 (.tmp 8) (.tmp 23) g5 #[.bool sy, .slice A3 ly c3] #[.bool false, .slice none 0 0] 24 (by kernel_rfl) rfl rfl (((show Bx v5 g5 false none 0 0 from hb5).ext hx3).grown hg6 (by simp; omega)) info_int_s rfl one_two (fun v7 hb7 hg7 => ⟨S6.gb hg7 ge5, ?_⟩) ?_
                · skip
                  simp only [Act.put, List.setIfInBounds_toArray, List.set_cons_zero, List.set_cons_succ]
                  have hq7 := (((show Bx v5 g5 false none 0 0 from hb5).ext hx3).grown hg6 (by simp; omega))
                  have S7 := S6.gb hg7 ge5
                  refine wpAnyH_done (by kernel_rfl) ?_ _
                  go_step
                  go_step
                  go_meet
                  case rel => exact ⟨_, _, _, _, _, _, rfl, rfl, ((show Bx v6 g4 sx A1 lx c1 from hb6).grown hg7 (by simp; omega)), (show Bx v7 g5 sy A3 ly c3 from hb7), ((((((o1.ext hx4).ext hx5).ext hx3).gbx hq6 (by decide) hg6).gbx hq7 (by decide) hg7).mono (Nat.zero_le _)), (((o3.gbx hq6 (by decide) hg6).gbx hq7 (by decide) hg7).mono (Nat.zero_le _)), S7⟩
                exact drawn_nil
              exact drawn_nil
            exact drawn_nil
          exact drawn_nil
        refine drawn_alloc 5 (some 8) (by kernel_rfl) alloc_int (fun g5 v5 hb5 hx5 hg5 => ⟨S1.trans hx5, ?_⟩) ?_
        · skip
          simp only [Act.put, List.setIfInBounds_toArray, List.set_cons_zero, List.set_cons_succ]
          have S5 := S1.trans hx5
          have ge5 := Nat.le_trans S1.size hg5
          refine wpAnyH_ready (rs := [3, 4]) (by kernel_rfl) (by simp) ?_
          refine drawn_call1 3 (some 23) (.tmp 22) (ts := #[24]) (by kernel_rfl) (enters_of Try.func46 (by kernel_rfl) rfl) rfl (own_v (GY.out.ext (X2.out.trans S5)) (by omega)) (fun E v3 hh => ?_) ?_
          · skip
            obtain ⟨A3, c3, rfl, o3, hx3⟩ := hh
            refine ⟨_, rfl, S5.trans hx3, ?_⟩
            simp only [Act.put, List.setIfInBounds_toArray, List.set_cons_zero, List.set_cons_succ]
            have S3 := S5.trans hx3
            refine wpAnyH_ready (rs := [4]) (by kernel_rfl) (by simp) ?_
            refine drawn_alloc 4 (some 7) (by kernel_rfl) alloc_int (fun g4 v4 hb4 hx4 hg4 => ⟨S3.trans hx4, ?_⟩) ?_
            · skip
              simp only [Act.put, List.setIfInBounds_toArray, List.set_cons_zero, List.set_cons_succ]
              have S4 := S3.trans hx4
              have ge4 := Nat.le_trans S3.size hg4
              have ltB8_4 := Nat.lt_of_lt_of_le ((show Bx v5 g5 false none 0 0 from hb5).ext hx3).lt hg4
              refine wpAnyH_ready (rs := [6]) (by kernel_rfl) (by simp) ?_
              refine drawn_store 6 24 (.tmp 7) (.tmp 21) g4 #[.bool sx, .slice A1 lx c1] #[.bool false, .slice none 0 0] 24 (by kernel_rfl) rfl rfl (show Bx v4 g4 false none 0 0 from hb4) info_int_s rfl one_two (fun v6 hb6 hg6 => ⟨S4.gb hg6 ge4, ?_⟩) ?_
              · skip
                simp only [Act.put, List.setIfInBounds_toArray, List.set_cons_zero, List.set_cons_succ]
                have hq6 := (show Bx v4 g4 false none 0 0 from hb4)
                have S6 := S4.gb hg6 ge4
                refine wpAnyH_ready (rs := [7]) (by kernel_rfl) (by simp) ?_
                refine drawn_store 7 24 (.tmp 8) (.tmp 23) g5 #[.bool sy, .slice A3 ly c3] #[.bool false, .slice none 0 0] 24 (by kernel_rfl) rfl rfl ((((show Bx v5 g5 false none 0 0 from hb5).ext hx3).ext hx4).grown hg6 (by simp; omega)) info_int_s rfl one_two (fun v7 hb7 hg7 => ⟨S6.gb hg7 ge5, ?_⟩) ?_
                · skip
                  simp only [Act.put, List.setIfInBounds_toArray, List.set_cons_zero, List.set_cons_succ]
                  have hq7 := ((((show Bx v5 g5 false none 0 0 from hb5).ext hx3).ext hx4).grown hg6 (by simp; omega))
                  have S7 := S6.gb hg7 ge5
                  refine wpAnyH_done (by kernel_rfl) ?_ _
                  go_step
                  go_step
                  go_meet
                  case rel => exact ⟨_, _, _, _, _, _, rfl, rfl, ((show Bx v6 g4 sx A1 lx c1 from hb6).grown hg7 (by simp; omega)), (show Bx v7 g5 sy A3 ly c3 from hb7), ((((((o1.ext hx5).ext hx3).ext hx4).gbx hq6 (by decide) hg6).gbx hq7 (by decide) hg7).mono (Nat.zero_le _)), ((((o3.ext hx4).gbx hq6 (by decide) hg6).gbx hq7 (by decide) hg7).mono (Nat.zero_le _)), S7⟩
                exact drawn_nil
              exact drawn_nil
            exact drawn_nil
          refine drawn_alloc 4 (some 7) (by kernel_rfl) alloc_int (fun g4 v4 hb4 hx4 hg4 => ⟨S5.trans hx4, ?_⟩) ?_
          · skip
            simp only [Act.put, List.setIfInBounds_toArray, List.set_cons_zero, List.set_cons_succ]
            have S4 := S5.trans hx4
            have ge4 := Nat.le_trans S5.size hg4
            have ltB8_4 := Nat.lt_of_lt_of_le (show Bx v5 g5 false none 0 0 from hb5).lt hg4
            refine wpAnyH_ready (rs := [3]) (by kernel_rfl) (by simp) ?_
            refine drawn_call1 3 (some 23) (.tmp 22) (ts := #[24]) (by kernel_rfl) (enters_of Try.func46 (by kernel_rfl) rfl) rfl (own_v (GY.out.ext (X2.out.trans S4)) (by omega)) (fun E v3 hh => ?_) ?_
            · skip
              obtain ⟨A3, c3, rfl, o3, hx3⟩ := hh
              refine ⟨_, rfl, S4.trans hx3, ?_⟩
              simp only [Act.put, List.setIfInBounds_toArray, List.set_cons_zero, List.set_cons_succ]
              have S3 := S4.trans hx3
              refine wpAnyH_ready (rs := [6]) (by kernel_rfl) (by simp) ?_
              refine drawn_store 6 24 (.tmp 7) (.tmp 21) g4 #[.bool sx, .slice A1 lx c1] #[.bool false, .slice none 0 0] 24 (by kernel_rfl) rfl rfl ((show Bx v4 g4 false none 0 0 from hb4).ext hx3) info_int_s rfl one_two (fun v6 hb6 hg6 => ⟨S3.gb hg6 ge4, ?_⟩) ?_
              · skip
                simp only [Act.put, List.setIfInBounds_toArray, List.set_cons_zero, List.set_cons_succ]
                have hq6 := ((show Bx v4 g4 false none 0 0 from hb4).ext hx3)
                have S6 := S3.gb hg6 ge4
                refine wpAnyH_ready (rs := [7]) (by kernel_rfl) (by simp) ?_
                refine drawn_store 7 24 (.tmp 8) (.tmp 23) g5 #[.bool sy, .slice A3 ly c3] #[.bool false, .slice none 0 0] 24 (by kernel_rfl) rfl rfl ((((show Bx v5 g5 false none 0 0 from hb5).ext hx4).ext hx3).grown hg6 (by simp; omega)) info_int_s rfl one_two (fun v7 hb7 hg7 => ⟨S6.gb hg7 ge5, ?_⟩) ?_
                · skip
                  simp only [Act.put, List.setIfInBounds_toArray, List.set_cons_zero, List.set_cons_succ]
                  have hq7 := ((((show Bx v5 g5 false none 0 0 from hb5).ext hx4).ext hx3).grown hg6 (by simp; omega))
                  have S7 := S6.gb hg7 ge5
                  refine wpAnyH_done (by kernel_rfl) ?_ _
                  go_step
                  go_step
                  go_meet
                  case rel => exact ⟨_, _, _, _, _, _, rfl, rfl, ((show Bx v6 g4 sx A1 lx c1 from hb6).grown hg7 (by simp; omega)), (show Bx v7 g5 sy A3 ly c3 from hb7), ((((((o1.ext hx5).ext hx4).ext hx3).gbx hq6 (by decide) hg6).gbx hq7 (by decide) hg7).mono (Nat.zero_le _)), (((o3.gbx hq6 (by decide) hg6).gbx hq7 (by decide) hg7).mono (Nat.zero_le _)), S7⟩
                exact drawn_nil
              exact drawn_nil
            exact drawn_nil
          exact drawn_nil
        exact drawn_nil
      refine drawn_alloc 4 (some 7) (by kernel_rfl) alloc_int (fun g4 v4 hb4 hx4 hg4 => ⟨hS0.trans hx4, ?_⟩) ?_
      · skip
        simp only [Act.put, List.setIfInBounds_toArray, List.set_cons_zero, List.set_cons_succ]
        have S4 := hS0.trans hx4
        have ge4 := Nat.le_trans hS0.size hg4
        refine wpAnyH_ready (rs := [1, 5]) (by kernel_rfl) (by simp) ?_
        refine drawn_call1 1 (some 21) (.tmp 20) (ts := #[24]) (by kernel_rfl) (enters_of Try.func46 (by kernel_rfl) rfl) rfl (own_v (GX.out.ext (X2.out.trans S4)) (by omega)) (fun E v1 hh => ?_) ?_
        · skip
          obtain ⟨A1, c1, rfl, o1, hx1⟩ := hh
          refine ⟨_, rfl, S4.trans hx1, ?_⟩
          simp only [Act.put, List.setIfInBounds_toArray, List.set_cons_zero, List.set_cons_succ]
          have S1 := S4.trans hx1
          refine wpAnyH_ready (rs := [3, 5]) (by kernel_rfl) (by simp) ?_
          refine drawn_call1 3 (some 23) (.tmp 22) (ts := #[24]) (by kernel_rfl) (enters_of Try.func46 (by kernel_rfl) rfl) rfl (own_v (GY.out.ext (X2.out.trans S1)) (by omega)) (fun E v3 hh => ?_) ?_
          · skip
            obtain ⟨A3, c3, rfl, o3, hx3⟩ := hh
            refine ⟨_, rfl, S1.trans hx3, ?_⟩
            simp only [Act.put, List.setIfInBounds_toArray, List.set_cons_zero, List.set_cons_succ]
            have S3 := S1.trans hx3
            refine wpAnyH_ready (rs := [5]) (by kernel_rfl) (by simp) ?_
            refine drawn_alloc 5 (some 8) (by kernel_rfl) alloc_int (fun g5 v5 hb5 hx5 hg5 => ⟨S3.trans hx5, ?_⟩) ?_
            · skip
              simp only [Act.put, List.setIfInBounds_toArray, List.set_cons_zero, List.set_cons_succ]
              have S5 := S3.trans hx5
              have ge5 := Nat.le_trans S3.size hg5
              have ltB7_5 := Nat.lt_of_lt_of_le (((show Bx v4 g4 false none 0 0 from hb4).ext hx1).ext hx3).lt hg5
              refine wpAnyH_ready (rs := [6]) (by kernel_rfl) (by simp) ?_
              refine drawn_store 6 24 (.tmp 7) (.tmp 21) g4 #[.bool sx, .slice A1 lx c1] #[.bool false, .slice none 0 0] 24 (by kernel_rfl) rfl rfl ((((show Bx v4 g4 false none 0 0 from hb4).ext hx1).ext hx3).ext hx5) info_int_s rfl one_two (fun v6 hb6 hg6 => ⟨S5.gb hg6 ge4, ?_⟩) ?_
              · skip
                simp only [Act.put, List.setIfInBounds_toArray, List.set_cons_zero, List.set_cons_succ]
                have hq6 := ((((show Bx v4 g4 false none 0 0 from hb4).ext hx1).ext hx3).ext hx5)
                have S6 := S5.gb hg6 ge4
                refine wpAnyH_ready (rs := [7]) (by kernel_rfl) (by simp) ?_
                refine drawn_store 7 24 (.tmp 8) (.tmp 23) g5 #[.bool sy, .slice A3 ly c3] #[.bool false, .slice none 0 0] 24 (by kernel_rfl) rfl rfl ((show Bx v5 g5 false none 0 0 from hb5).grown hg6 (by simp; omega)) info_int_s rfl one_two (fun v7 hb7 hg7 => ⟨S6.gb hg7 ge5, ?_⟩) ?_
                · skip
                  simp only [Act.put, List.setIfInBounds_toArray, List.set_cons_zero, List.set_cons_succ]
                  have hq7 := ((show Bx v5 g5 false none 0 0 from hb5).grown hg6 (by simp; omega))
                  have S7 := S6.gb hg7 ge5
                  refine wpAnyH_done (by kernel_rfl) ?_ _
                  go_step
                  go_step
                  go_meet
                  case rel => exact ⟨_, _, _, _, _, _, rfl, rfl, ((show Bx v6 g4 sx A1 lx c1 from hb6).grown hg7 (by simp; omega)), (show Bx v7 g5 sy A3 ly c3 from hb7), (((((o1.ext hx3).ext hx5).gbx hq6 (by decide) hg6).gbx hq7 (by decide) hg7).mono (Nat.zero_le _)), ((((o3.ext hx5).gbx hq6 (by decide) hg6).gbx hq7 (by decide) hg7).mono (Nat.zero_le _)), S7⟩
                exact drawn_nil
              exact drawn_nil
            exact drawn_nil
          refine drawn_alloc 5 (some 8) (by kernel_rfl) alloc_int (fun g5 v5 hb5 hx5 hg5 => ⟨S1.trans hx5, ?_⟩) ?_
          · skip
            simp only [Act.put, List.setIfInBounds_toArray, List.set_cons_zero, List.set_cons_succ]
            have S5 := S1.trans hx5
            have ge5 := Nat.le_trans S1.size hg5
            have ltB7_5 := Nat.lt_of_lt_of_le ((show Bx v4 g4 false none 0 0 from hb4).ext hx1).lt hg5
            refine wpAnyH_ready (rs := [3]) (by kernel_rfl) (by simp) ?_
            refine drawn_call1 3 (some 23) (.tmp 22) (ts := #[24]) (by kernel_rfl) (enters_of Try.func46 (by kernel_rfl) rfl) rfl (own_v (GY.out.ext (X2.out.trans S5)) (by omega)) (fun E v3 hh => ?_) ?_
            · skip
              obtain ⟨A3, c3, rfl, o3, hx3⟩ := hh
              refine ⟨_, rfl, S5.trans hx3, ?_⟩
              simp only [Act.put, List.setIfInBounds_toArray, List.set_cons_zero, List.set_cons_succ]
              have S3 := S5.trans hx3
              refine wpAnyH_ready (rs := [6]) (by kernel_rfl) (by simp) ?_
              refine drawn_store 6 24 (.tmp 7) (.tmp 21) g4 #[.bool sx, .slice A1 lx c1] #[.bool false, .slice none 0 0] 24 (by kernel_rfl) rfl rfl ((((show Bx v4 g4 false none 0 0 from hb4).ext hx1).ext hx5).ext hx3) info_int_s rfl one_two (fun v6 hb6 hg6 => ⟨S3.gb hg6 ge4, ?_⟩) ?_
              · skip
                simp only [Act.put, List.setIfInBounds_toArray, List.set_cons_zero, List.set_cons_succ]
                have hq6 := ((((show Bx v4 g4 false none 0 0 from hb4).ext hx1).ext hx5).ext hx3)
                have S6 := S3.gb hg6 ge4
                refine wpAnyH_ready (rs := [7]) (by kernel_rfl) (by simp) ?_
                refine drawn_store 7 24 (.tmp 8) (.tmp 23) g5 #[.bool sy, .slice A3 ly c3] #[.bool false, .slice none 0 0] 24 (by kernel_rfl) rfl rfl (((show Bx v5 g5 false none 0 0 from hb5).ext hx3).grown hg6 (by simp; omega)) info_int_s rfl one_two (fun v7 hb7 hg7 => ⟨S6.gb hg7 ge5, ?_⟩) ?_
                · skip
                  simp only [Act.put, List.setIfInBounds_toArray, List.set_cons_zero, List.set_cons_succ]
                  have hq7 := (((show Bx v5 g5 false none 0 0 from hb5).ext hx3).grown hg6 (by simp; omega))
                  have S7 := S6.gb hg7 ge5
                  refine wpAnyH_done (by kernel_rfl) ?_ _
                  go_step
                  go_step
                  go_meet
                  case rel => exact ⟨_, _, _, _, _, _, rfl, rfl, ((show Bx v6 g4 sx A1 lx c1 from hb6).grown hg7 (by simp; omega)), (show Bx v7 g5 sy A3 ly c3 from hb7), (((((o1.ext hx5).ext hx3).gbx hq6 (by decide) hg6).gbx hq7 (by decide) hg7).mono (Nat.zero_le _)), (((o3.gbx hq6 (by decide) hg6).gbx hq7 (by decide) hg7).mono (Nat.zero_le _)), S7⟩
                exact drawn_nil
              exact drawn_nil
            exact drawn_nil
          exact drawn_nil
        refine drawn_alloc 5 (some 8) (by kernel_rfl) alloc_int (fun g5 v5 hb5 hx5 hg5 => ⟨S4.trans hx5, ?_⟩) ?_
        · skip
          simp only [Act.put, List.setIfInBounds_toArray, List.set_cons_zero, List.set_cons_succ]
          have S5 := S4.trans hx5
          have ge5 := Nat.le_trans S4.size hg5
          have ltB7_5 := Nat.lt_of_lt_of_le (show Bx v4 g4 false none 0 0 from hb4).lt hg5
          refine wpAnyH_ready (rs := [1]) (by kernel_rfl) (by simp) ?_
          refine drawn_call1 1 (some 21) (.tmp 20) (ts := #[24]) (by kernel_rfl) (enters_of Try.func46 (by kernel_rfl) rfl) rfl (own_v (GX.out.ext (X2.out.trans S5)) (by omega)) (fun E v1 hh => ?_) ?_
          · skip
            obtain ⟨A1, c1, rfl, o1, hx1⟩ := hh
            refine ⟨_, rfl, S5.trans hx1, ?_⟩
            simp only [Act.put, List.setIfInBounds_toArray, List.set_cons_zero, List.set_cons_succ]
            have S1 := S5.trans hx1
            refine wpAnyH_ready (rs := [3]) (by kernel_rfl) (by simp) ?_
            refine drawn_call1 3 (some 23) (.tmp 22) (ts := #[24]) (by kernel_rfl) (enters_of Try.func46 (by kernel_rfl) rfl) rfl (own_v (GY.out.ext (X2.out.trans S1)) (by omega)) (fun E v3 hh => ?_) ?_
            · skip
              obtain ⟨A3, c3, rfl, o3, hx3⟩ := hh
              refine ⟨_, rfl, S1.trans hx3, ?_⟩
              simp only [Act.put, List.setIfInBounds_toArray, List.set_cons_zero, List.set_cons_succ]
              have S3 := S1.trans hx3
              refine wpAnyH_ready (rs := [6]) (by kernel_rfl) (by simp) ?_
              refine drawn_store 6 24 (.tmp 7) (.tmp 21) g4 #[.bool sx, .slice A1 lx c1] #[.bool false, .slice none 0 0] 24 (by kernel_rfl) rfl rfl ((((show Bx v4 g4 false none 0 0 from hb4).ext hx5).ext hx1).ext hx3) info_int_s rfl one_two (fun v6 hb6 hg6 => ⟨S3.gb hg6 ge4, ?_⟩) ?_
              · skip
                simp only [Act.put, List.setIfInBounds_toArray, List.set_cons_zero, List.set_cons_succ]
                have hq6 := ((((show Bx v4 g4 false none 0 0 from hb4).ext hx5).ext hx1).ext hx3)
                have S6 := S3.gb hg6 ge4
                refine wpAnyH_ready (rs := [7]) (by kernel_rfl) (by simp) ?_
                refine drawn_store 7 24 (.tmp 8) (.tmp 23) g5 #[.bool sy, .slice A3 ly c3] #[.bool false, .slice none 0 0] 24 (by kernel_rfl) rfl rfl ((((show Bx v5 g5 false none 0 0 from hb5).ext hx1).ext hx3).grown hg6 (by simp; omega)) info_int_s rfl one_two (fun v7 hb7 hg7 => ⟨S6.gb hg7 ge5, ?_⟩) ?_
                · skip
                  simp only [Act.put, List.setIfInBounds_toArray, List.set_cons_zero, List.set_cons_succ]
                  have hq7 := ((((show Bx v5 g5 false none 0 0 from hb5).ext hx1).ext hx3).grown hg6 (by simp; omega))
                  have S7 := S6.gb hg7 ge5
                  refine wpAnyH_done (by kernel_rfl) ?_ _
                  go_step
                  go_step
                  go_meet
                  case rel => exact ⟨_, _, _, _, _, _, rfl, rfl, ((show Bx v6 g4 sx A1 lx c1 from hb6).grown hg7 (by simp; omega)), (show Bx v7 g5 sy A3 ly c3 from hb7), ((((o1.ext hx3).gbx hq6 (by decide) hg6).gbx hq7 (by decide) hg7).mono (Nat.zero_le _)), (((o3.gbx hq6 (by decide) hg6).gbx hq7 (by decide) hg7).mono (Nat.zero_le _)), S7⟩
                exact drawn_nil
              exact drawn_nil
            exact drawn_nil
          exact drawn_nil
        exact drawn_nil
      refine drawn_alloc 5 (some 8) (by kernel_rfl) alloc_int (fun g5 v5 hb5 hx5 hg5 => ⟨hS0.trans hx5, ?_⟩) ?_
      · skip
        simp only [Act.put, List.setIfInBounds_toArray, List.set_cons_zero, List.set_cons_succ]
        have S5 := hS0.trans hx5
        have ge5 := Nat.le_trans hS0.size hg5
        refine wpAnyH_ready (rs := [1, 4]) (by kernel_rfl) (by simp) ?_
        refine drawn_call1 1 (some 21) (.tmp 20) (ts := #[24]) (by kernel_rfl) (enters_of Try.func46 (by kernel_rfl) rfl) rfl (own_v (GX.out.ext (X2.out.trans S5)) (by omega)) (fun E v1 hh => ?_) ?_
        · skip
          obtain ⟨A1, c1, rfl, o1, hx1⟩ := hh
          refine ⟨_, rfl, S5.trans hx1, ?_⟩
          simp only [Act.put, List.setIfInBounds_toArray, List.set_cons_zero, List.set_cons_succ]
          have S1 := S5.trans hx1
          refine wpAnyH_ready (rs := [3, 4]) (by kernel_rfl) (by simp) ?_
          refine drawn_call1 3 (some 23) (.tmp 22) (ts := #[24]) (by kernel_rfl) (enters_of Try.func46 (by kernel_rfl) rfl) rfl (own_v (GY.out.ext (X2.out.trans S1)) (by omega)) (fun E v3 hh => ?_) ?_
          · skip
            obtain ⟨A3, c3, rfl, o3, hx3⟩ := hh
            refine ⟨_, rfl, S1.trans hx3, ?_⟩
            simp only [Act.put, List.setIfInBounds_toArray, List.set_cons_zero, List.set_cons_succ]
            have S3 := S1.trans hx3
            refine wpAnyH_ready (rs := [4]) (by kernel_rfl) (by simp) ?_
            refine drawn_alloc 4 (some 7) (by kernel_rfl) alloc_int (fun g4 v4 hb4 hx4 hg4 => ⟨S3.trans hx4, ?_⟩) ?_
            · skip
              simp only [Act.put, List.setIfInBounds_toArray, List.set_cons_zero, List.set_cons_succ]
              have S4 := S3.trans hx4
              have ge4 := Nat.le_trans S3.size hg4
              have ltB8_4 := Nat.lt_of_lt_of_le (((show Bx v5 g5 false none 0 0 from hb5).ext hx1).ext hx3).lt hg4
              refine wpAnyH_ready (rs := [6]) (by kernel_rfl) (by simp) ?_
              refine drawn_store 6 24 (.tmp 7) (.tmp 21) g4 #[.bool sx, .slice A1 lx c1] #[.bool false, .slice none 0 0] 24 (by kernel_rfl) rfl rfl (show Bx v4 g4 false none 0 0 from hb4) info_int_s rfl one_two (fun v6 hb6 hg6 => ⟨S4.gb hg6 ge4, ?_⟩) ?_
              · skip
                simp only [Act.put, List.setIfInBounds_toArray, List.set_cons_zero, List.set_cons_succ]
                have hq6 := (show Bx v4 g4 false none 0 0 from hb4)
                have S6 := S4.gb hg6 ge4
                refine wpAnyH_ready (rs := [7]) (by kernel_rfl) (by simp) ?_
                refine drawn_store 7 24 (.tmp 8) (.tmp 23) g5 #[.bool sy, .slice A3 ly c3] #[.bool false, .slice none 0 0] 24 (by kernel_rfl) rfl rfl (((((show Bx v5 g5 false none 0 0 from hb5).ext hx1).ext hx3).ext hx4).grown hg6 (by simp; omega)) info_int_s rfl one_two (fun v7 hb7 hg7 => ⟨S6.gb hg7 ge5, ?_⟩) ?_
                · skip
                  simp only [Act.put, List.setIfInBounds_toArray, List.set_cons_zero, List.set_cons_succ]
                  have hq7 := (((((show Bx v5 g5 false none 0 0 from hb5).ext hx1).ext hx3).ext hx4).grown hg6 (by simp; omega))
                  have S7 := S6.gb hg7 ge5
                  refine wpAnyH_done (by kernel_rfl) ?_ _
                  go_step
                  go_step
                  go_meet
                  case rel => exact ⟨_, _, _, _, _, _, rfl, rfl, ((show Bx v6 g4 sx A1 lx c1 from hb6).grown hg7 (by simp; omega)), (show Bx v7 g5 sy A3 ly c3 from hb7), (((((o1.ext hx3).ext hx4).gbx hq6 (by decide) hg6).gbx hq7 (by decide) hg7).mono (Nat.zero_le _)), ((((o3.ext hx4).gbx hq6 (by decide) hg6).gbx hq7 (by decide) hg7).mono (Nat.zero_le _)), S7⟩
                exact drawn_nil
              exact drawn_nil
            exact drawn_nil
          refine drawn_alloc 4 (some 7) (by kernel_rfl) alloc_int (fun g4 v4 hb4 hx4 hg4 => ⟨S1.trans hx4, ?_⟩) ?_
          · skip
            simp only [Act.put, List.setIfInBounds_toArray, List.set_cons_zero, List.set_cons_succ]
            have S4 := S1.trans hx4
            have ge4 := Nat.le_trans S1.size hg4
            have ltB8_4 := Nat.lt_of_lt_of_le ((show Bx v5 g5 false none 0 0 from hb5).ext hx1).lt hg4
            refine wpAnyH_ready (rs := [3]) (by kernel_rfl) (by simp) ?_
            refine drawn_call1 3 (some 23) (.tmp 22) (ts := #[24]) (by kernel_rfl) (enters_of Try.func46 (by kernel_rfl) rfl) rfl (own_v (GY.out.ext (X2.out.trans S4)) (by omega)) (fun E v3 hh => ?_) ?_
            · skip
              obtain ⟨A3, c3, rfl, o3, hx3⟩ := hh
              refine ⟨_, rfl, S4.trans hx3, ?_⟩
              simp only [Act.put, List.setIfInBounds_toArray, List.set_cons_zero, List.set_cons_succ]
              have S3 := S4.trans hx3
              refine wpAnyH_ready (rs := [6]) (by kernel_rfl) (by simp) ?_
              refine drawn_store 6 24 (.tmp 7) (.tmp 21) g4 #[.bool sx, .slice A1 lx c1] #[.bool false, .slice none 0 0] 24 (by kernel_rfl) rfl rfl ((show Bx v4 g4 false none 0 0 from hb4).ext hx3) info_int_s rfl one_two (fun v6 hb6 hg6 => ⟨S3.gb hg6 ge4, ?_⟩) ?_
              · skip
                simp only [Act.put, List.setIfInBounds_toArray, List.set_cons_zero, List.set_cons_succ]
                have hq6 := ((show Bx v4 g4 false none 0 0 from hb4).ext hx3)
                have S6 := S3.gb hg6 ge4
                refine wpAnyH_ready (rs := [7]) (by kernel_rfl) (by simp) ?_
                refine drawn_store 7 24 (.tmp 8) (.tmp 23) g5 #[.bool sy, .slice A3 ly c3] #[.bool false, .slice none 0 0] 24 (by kernel_rfl) rfl rfl (((((show Bx v5 g5 false none 0 0 from hb5).ext hx1).ext hx4).ext hx3).grown hg6 (by simp; omega)) info_int_s rfl one_two (fun v7 hb7 hg7 => ⟨S6.gb hg7 ge5, ?_⟩) ?_
                · skip
                  simp only [Act.put, List.setIfInBounds_toArray, List.set_cons_zero, List.set_cons_succ]
                  have hq7 := (((((show Bx v5 g5 false none 0 0 from hb5).ext hx1).ext hx4).ext hx3).grown hg6 (by simp; omega))
                  have S7 := S6.gb hg7 ge5
                  refine wpAnyH_done (by kernel_rfl) ?_ _
                  go_step
                  go_step
                  go_meet
                  case rel => exact ⟨_, _, _, _, _, _, rfl, rfl, ((show Bx v6 g4 sx A1 lx c1 from hb6).grown hg7 (by simp; omega)), (show Bx v7 g5 sy A3 ly c3 from hb7), (((((o1.ext hx4).ext hx3).gbx hq6 (by decide) hg6).gbx hq7 (by decide) hg7).mono (Nat.zero_le _)), (((o3.gbx hq6 (by decide) hg6).gbx hq7 (by decide) hg7).mono (Nat.zero_le _)), S7⟩
                exact drawn_nil
              exact drawn_nil
            exact drawn_nil
          exact drawn_nil
        refine drawn_alloc 4 (some 7) (by kernel_rfl) alloc_int (fun g4 v4 hb4 hx4 hg4 => ⟨S5.trans hx4, ?_⟩) ?_
        · skip
          simp only [Act.put, List.setIfInBounds_toArray, List.set_cons_zero, List.set_cons_succ]
          have S4 := S5.trans hx4
          have ge4 := Nat.le_trans S5.size hg4
          have ltB8_4 := Nat.lt_of_lt_of_le (show Bx v5 g5 false none 0 0 from hb5).lt hg4
          refine wpAnyH_ready (rs := [1]) (by kernel_rfl) (by simp) ?_
          refine drawn_call1 1 (some 21) (.tmp 20) (ts := #[24]) (by kernel_rfl) (enters_of Try.func46 (by kernel_rfl) rfl) rfl (own_v (GX.out.ext (X2.out.trans S4)) (by omega)) (fun E v1 hh => ?_) ?_
          · skip
            obtain ⟨A1, c1, rfl, o1, hx1⟩ := hh
            refine ⟨_, rfl, S4.trans hx1, ?_⟩
            simp only [Act.put, List.setIfInBounds_toArray, List.set_cons_zero, List.set_cons_succ]
            have S1 := S4.trans hx1
            refine wpAnyH_ready (rs := [3]) (by kernel_rfl) (by simp) ?_
            refine drawn_call1 3 (some 23) (.tmp 22) (ts := #[24]) (by kernel_rfl) (enters_of Try.func46 (by kernel_rfl) rfl) rfl (own_v (GY.out.ext (X2.out.trans S1)) (by omega)) (fun E v3 hh => ?_) ?_
            · skip
              obtain ⟨A3, c3, rfl, o3, hx3⟩ := hh
              refine ⟨_, rfl, S1.trans hx3, ?_⟩
              simp only [Act.put, List.setIfInBounds_toArray, List.set_cons_zero, List.set_cons_succ]
              have S3 := S1.trans hx3
              refine wpAnyH_ready (rs := [6]) (by kernel_rfl) (by simp) ?_
              refine drawn_store 6 24 (.tmp 7) (.tmp 21) g4 #[.bool sx, .slice A1 lx c1] #[.bool false, .slice none 0 0] 24 (by kernel_rfl) rfl rfl (((show Bx v4 g4 false none 0 0 from hb4).ext hx1).ext hx3) info_int_s rfl one_two (fun v6 hb6 hg6 => ⟨S3.gb hg6 ge4, ?_⟩) ?_
              · skip
                simp only [Act.put, List.setIfInBounds_toArray, List.set_cons_zero, List.set_cons_succ]
                have hq6 := (((show Bx v4 g4 false none 0 0 from hb4).ext hx1).ext hx3)
                have S6 := S3.gb hg6 ge4
                refine wpAnyH_ready (rs := [7]) (by kernel_rfl) (by simp) ?_
                refine drawn_store 7 24 (.tmp 8) (.tmp 23) g5 #[.bool sy, .slice A3 ly c3] #[.bool false, .slice none 0 0] 24 (by kernel_rfl) rfl rfl (((((show Bx v5 g5 false none 0 0 from hb5).ext hx4).ext hx1).ext hx3).grown hg6 (by simp; omega)) info_int_s rfl one_two (fun v7 hb7 hg7 => ⟨S6.gb hg7 ge5, ?_⟩) ?_
                · skip
                  simp only [Act.put, List.setIfInBounds_toArray, List.set_cons_zero, List.set_cons_succ]
                  have hq7 := (((((show Bx v5 g5 false none 0 0 from hb5).ext hx4).ext hx1).ext hx3).grown hg6 (by simp; omega))
                  have S7 := S6.gb hg7 ge5
                  refine wpAnyH_done (by kernel_rfl) ?_ _
                  go_step
                  go_step
                  go_meet
                  case rel => exact ⟨_, _, _, _, _, _, rfl, rfl, ((show Bx v6 g4 sx A1 lx c1 from hb6).grown hg7 (by simp; omega)), (show Bx v7 g5 sy A3 ly c3 from hb7), ((((o1.ext hx3).gbx hq6 (by decide) hg6).gbx hq7 (by decide) hg7).mono (Nat.zero_le _)), (((o3.gbx hq6 (by decide) hg6).gbx hq7 (by decide) hg7).mono (Nat.zero_le _)), S7⟩
                exact drawn_nil
              exact drawn_nil
            exact drawn_nil
          exact drawn_nil
        exact drawn_nil
      exact drawn_nil
  case rest =>
  obtain ⟨g7, P7, r7, g8, P8, r8, rfl, rfl, Ba, Bb, Oa, Ob, hy3⟩ := hcut
  obtain ⟨w3, hw3⟩ : ∃ w3, w3 = wc := ⟨_, rfl⟩
  subst hw3
  have HBa := hid Ba
  have HBb := hid Bb
  have HOa := hid Oa
  have HOb := hid Ob
  have HIa := hid (show Iz 25 w3 sx P7 lx r7 x from EX.out ▸ Iz.mk (Nv.mk Oa.sl MX.out bdx))
  have HIb := hid (show Iz 25 w3 sy P8 ly r8 y from EY.out ▸ Iz.mk (Nv.mk Ob.sl MY.out bdy))
  have hy3 := hid hy3
  have X3 := hid (X2.out.trans hy3.out)
  clear Ba Bb Oa Ob
  go_upto_region 4 with fail
  go_cut [9, 10] (fun v9 v10 wx => ∃ (g9 : Nat) (p9 : Bool) (P9 : Option Addr) (q9 r9 : Nat) (g10 : Nat) (p10 : Bool) (P10 : Option Addr) (q10 r10 : Nat), v9 = .pointer (some ⟨g9, 0, none⟩) ∧ v10 = .pointer (some ⟨g10, 0, none⟩) ∧ Bz wx g9 p9 P9 q9 r9 ∧ Bz wx g10 p10 P10 q10 r10 ∧ Zd 250 wx p9 P9 q9 r9 x ∧ Zd 250 wx p10 P10 q10 r10 y ∧ Ext w3 wx)
  case first =>
    refine wp_region_held_drew (S := fun w' => Ext w3 w') (by kernel_rfl) (Ext.refl _).drew (fun hS0 => ?_)
    change wpAnyH _ _ _ _ _ 8 #[false, false, false, false, false, false, false, false] _ _
    refine drawn_load 0 24 24 (.tmp 3) (w.heap.size) 24 #[.bool sx, .slice Px lx kx] (0, 0) _ (by kernel_rfl) rfl (fun w' hS => (HBx.out.ext (hy2.out.trans hy3.out)).ext hS) Try.underlying24 rfl info_int_s (by kernel_rfl) (by kernel_rfl) (by kernel_rfl) (fun _ _ _ _ h => h) hS0 ?_
    simp only [Act.put, List.setIfInBounds_toArray, List.set_cons_zero, List.set_cons_succ]
    refine drawn_load 2 26 24 (.tmp 4) (w.heap.size + 1) 24 #[.bool sy, .slice Py ly ky] (0, 0) _ (by kernel_rfl) rfl (fun w' hS => (HBy.out.ext (hy2.out.trans hy3.out)).ext hS) Try.underlying24 rfl info_int_s (by kernel_rfl) (by kernel_rfl) (by kernel_rfl) (fun _ _ _ _ h => h) hS0 ?_
    simp only [Act.put, List.setIfInBounds_toArray, List.set_cons_zero, List.set_cons_succ]
    refine wpAnyH_ready (rs := [1, 4, 5]) (by kernel_rfl) (by simp) ?_
    refine drawn_call1 1 (some 25) (.tmp 24) (ts := #[24]) (by kernel_rfl) (enters_of Try.func18 (by kernel_rfl) rfl) rfl (zof_v (Hx.out.ext (X3.out.trans hS0)) (by omega)) (fun E v1 hh => ?_) ?_
    · skip
      obtain ⟨b1, A1, n1, c1, rfl, o1, hx1⟩ := hh
      refine ⟨_, rfl, hS0.trans hx1, ?_⟩
      simp only [Act.put, List.setIfInBounds_toArray, List.set_cons_zero, List.set_cons_succ]
      have S1 := hS0.trans hx1
      refine wpAnyH_ready (rs := [3, 4, 5]) (by kernel_rfl) (by simp) ?_
      refine drawn_call1 3 (some 27) (.tmp 26) (ts := #[24]) (by kernel_rfl) (enters_of Try.func18 (by kernel_rfl) rfl) rfl (zof_v (Hy.out.ext (X3.out.trans S1)) (by omega)) (fun E v3 hh => ?_) ?_
      · skip
        obtain ⟨b3, A3, n3, c3, rfl, o3, hx3⟩ := hh
        refine ⟨_, rfl, S1.trans hx3, ?_⟩
        simp only [Act.put, List.setIfInBounds_toArray, List.set_cons_zero, List.set_cons_succ]
        have S3 := S1.trans hx3
        refine wpAnyH_ready (rs := [4, 5]) (by kernel_rfl) (by simp) ?_
        refine drawn_alloc 4 (some 9) (by kernel_rfl) alloc_z (fun g4 v4 hb4 hx4 hg4 => ⟨S3.trans hx4, ?_⟩) ?_
        · skip
          simp only [Act.put, List.setIfInBounds_toArray, List.set_cons_zero, List.set_cons_succ]
          have S4 := S3.trans hx4
          have ge4 := Nat.le_trans S3.size hg4
          refine wpAnyH_ready (rs := [5]) (by kernel_rfl) (by simp) ?_
          refine drawn_alloc 5 (some 10) (by kernel_rfl) alloc_z (fun g5 v5 hb5 hx5 hg5 => ⟨S4.trans hx5, ?_⟩) ?_
          · skip
            simp only [Act.put, List.setIfInBounds_toArray, List.set_cons_zero, List.set_cons_succ]
            have S5 := S4.trans hx5
            have ge5 := Nat.le_trans S4.size hg5
            have ltB9_5 := Nat.lt_of_lt_of_le (show Bz v4 g4 false none 0 0 from hb4).lt hg5
            refine wpAnyH_ready (rs := [6]) (by kernel_rfl) (by simp) ?_
            refine drawn_store 6 34 (.tmp 9) (.tmp 25) g4 #[.bool b1, .slice A1 n1 c1] #[.bool false, .slice none 0 0] 34 (by kernel_rfl) rfl rfl ((show Bz v4 g4 false none 0 0 from hb4).ext hx5) info_z_s rfl one_two (fun v6 hb6 hg6 => ⟨S5.gb hg6 ge4, ?_⟩) ?_
            · skip
              simp only [Act.put, List.setIfInBounds_toArray, List.set_cons_zero, List.set_cons_succ]
              have hq6 := ((show Bz v4 g4 false none 0 0 from hb4).ext hx5)
              have S6 := S5.gb hg6 ge4
              refine wpAnyH_ready (rs := [7]) (by kernel_rfl) (by simp) ?_
              refine drawn_store 7 34 (.tmp 10) (.tmp 27) g5 #[.bool b3, .slice A3 n3 c3] #[.bool false, .slice none 0 0] 34 (by kernel_rfl) rfl rfl ((show Bz v5 g5 false none 0 0 from hb5).grown hg6 (by simp; omega)) info_z_s rfl one_two (fun v7 hb7 hg7 => ⟨S6.gb hg7 ge5, ?_⟩) ?_
              · skip
                simp only [Act.put, List.setIfInBounds_toArray, List.set_cons_zero, List.set_cons_succ]
                have hq7 := ((show Bz v5 g5 false none 0 0 from hb5).grown hg6 (by simp; omega))
                have S7 := S6.gb hg7 ge5
                refine wpAnyH_done (by kernel_rfl) ?_ _
                go_step
                go_step
                go_meet
                case rel => exact ⟨_, _, _, _, _, _, _, _, _, _, rfl, rfl, ((show Bz v6 g4 b1 A1 n1 c1 from hb6).grown hg7 (by simp; omega)), (show Bz v7 g5 b3 A3 n3 c3 from hb7), (((((o1.ext hx3).ext hx4).ext hx5).gbz hq6 hg6).gbz hq7 hg7), ((((o3.ext hx4).ext hx5).gbz hq6 hg6).gbz hq7 hg7), S7⟩
              exact drawn_nil
            exact drawn_nil
          exact drawn_nil
        refine drawn_alloc 5 (some 10) (by kernel_rfl) alloc_z (fun g5 v5 hb5 hx5 hg5 => ⟨S3.trans hx5, ?_⟩) ?_
        · skip
          simp only [Act.put, List.setIfInBounds_toArray, List.set_cons_zero, List.set_cons_succ]
          have S5 := S3.trans hx5
          have ge5 := Nat.le_trans S3.size hg5
          refine wpAnyH_ready (rs := [4]) (by kernel_rfl) (by simp) ?_
          refine drawn_alloc 4 (some 9) (by kernel_rfl) alloc_z (fun g4 v4 hb4 hx4 hg4 => ⟨S5.trans hx4, ?_⟩) ?_
          · skip
            simp only [Act.put, List.setIfInBounds_toArray, List.set_cons_zero, List.set_cons_succ]
            have S4 := S5.trans hx4
            have ge4 := Nat.le_trans S5.size hg4
            have ltB10_4 := Nat.lt_of_lt_of_le (show Bz v5 g5 false none 0 0 from hb5).lt hg4
            refine wpAnyH_ready (rs := [6]) (by kernel_rfl) (by simp) ?_
            refine drawn_store 6 34 (.tmp 9) (.tmp 25) g4 #[.bool b1, .slice A1 n1 c1] #[.bool false, .slice none 0 0] 34 (by kernel_rfl) rfl rfl (show Bz v4 g4 false none 0 0 from hb4) info_z_s rfl one_two (fun v6 hb6 hg6 => ⟨S4.gb hg6 ge4, ?_⟩) ?_
            · skip
              simp only [Act.put, List.setIfInBounds_toArray, List.set_cons_zero, List.set_cons_succ]
              have hq6 := (show Bz v4 g4 false none 0 0 from hb4)
              have S6 := S4.gb hg6 ge4
              refine wpAnyH_ready (rs := [7]) (by kernel_rfl) (by simp) ?_
              refine drawn_store 7 34 (.tmp 10) (.tmp 27) g5 #[.bool b3, .slice A3 n3 c3] #[.bool false, .slice none 0 0] 34 (by kernel_rfl) rfl rfl (((show Bz v5 g5 false none 0 0 from hb5).ext hx4).grown hg6 (by simp; omega)) info_z_s rfl one_two (fun v7 hb7 hg7 => ⟨S6.gb hg7 ge5, ?_⟩) ?_
              · skip
                simp only [Act.put, List.setIfInBounds_toArray, List.set_cons_zero, List.set_cons_succ]
                have hq7 := (((show Bz v5 g5 false none 0 0 from hb5).ext hx4).grown hg6 (by simp; omega))
                have S7 := S6.gb hg7 ge5
                refine wpAnyH_done (by kernel_rfl) ?_ _
                go_step
                go_step
                go_meet
                case rel => exact ⟨_, _, _, _, _, _, _, _, _, _, rfl, rfl, ((show Bz v6 g4 b1 A1 n1 c1 from hb6).grown hg7 (by simp; omega)), (show Bz v7 g5 b3 A3 n3 c3 from hb7), (((((o1.ext hx3).ext hx5).ext hx4).gbz hq6 hg6).gbz hq7 hg7), ((((o3.ext hx5).ext hx4).gbz hq6 hg6).gbz hq7 hg7), S7⟩
              exact drawn_nil
            exact drawn_nil
          exact drawn_nil
        exact drawn_nil
      refine drawn_alloc 4 (some 9) (by kernel_rfl) alloc_z (fun g4 v4 hb4 hx4 hg4 => ⟨S1.trans hx4, ?_⟩) ?_
      · skip
        simp only [Act.put, List.setIfInBounds_toArray, List.set_cons_zero, List.set_cons_succ]
        have S4 := S1.trans hx4
        have ge4 := Nat.le_trans S1.size hg4
        refine wpAnyH_ready (rs := [3, 5]) (by kernel_rfl) (by simp) ?_
        refine drawn_call1 3 (some 27) (.tmp 26) (ts := #[24]) (by kernel_rfl) (enters_of Try.func18 (by kernel_rfl) rfl) rfl (zof_v (Hy.out.ext (X3.out.trans S4)) (by omega)) (fun E v3 hh => ?_) ?_
        · skip
          obtain ⟨b3, A3, n3, c3, rfl, o3, hx3⟩ := hh
          refine ⟨_, rfl, S4.trans hx3, ?_⟩
          simp only [Act.put, List.setIfInBounds_toArray, List.set_cons_zero, List.set_cons_succ]
          have S3 := S4.trans hx3
          refine wpAnyH_ready (rs := [5]) (by kernel_rfl) (by simp) ?_
          refine drawn_alloc 5 (some 10) (by kernel_rfl) alloc_z (fun g5 v5 hb5 hx5 hg5 => ⟨S3.trans hx5, ?_⟩) ?_
          · skip
            simp only [Act.put, List.setIfInBounds_toArray, List.set_cons_zero, List.set_cons_succ]
            have S5 := S3.trans hx5
            have ge5 := Nat.le_trans S3.size hg5
            have ltB9_5 := Nat.lt_of_lt_of_le ((show Bz v4 g4 false none 0 0 from hb4).ext hx3).lt hg5
            refine wpAnyH_ready (rs := [6]) (by kernel_rfl) (by simp) ?_
            refine drawn_store 6 34 (.tmp 9) (.tmp 25) g4 #[.bool b1, .slice A1 n1 c1] #[.bool false, .slice none 0 0] 34 (by kernel_rfl) rfl rfl (((show Bz v4 g4 false none 0 0 from hb4).ext hx3).ext hx5) info_z_s rfl one_two (fun v6 hb6 hg6 => ⟨S5.gb hg6 ge4, ?_⟩) ?_
            · skip
              simp only [Act.put, List.setIfInBounds_toArray, List.set_cons_zero, List.set_cons_succ]
              have hq6 := (((show Bz v4 g4 false none 0 0 from hb4).ext hx3).ext hx5)
              have S6 := S5.gb hg6 ge4
              refine wpAnyH_ready (rs := [7]) (by kernel_rfl) (by simp) ?_
              refine drawn_store 7 34 (.tmp 10) (.tmp 27) g5 #[.bool b3, .slice A3 n3 c3] #[.bool false, .slice none 0 0] 34 (by kernel_rfl) rfl rfl ((show Bz v5 g5 false none 0 0 from hb5).grown hg6 (by simp; omega)) info_z_s rfl one_two (fun v7 hb7 hg7 => ⟨S6.gb hg7 ge5, ?_⟩) ?_
              · skip
                simp only [Act.put, List.setIfInBounds_toArray, List.set_cons_zero, List.set_cons_succ]
                have hq7 := ((show Bz v5 g5 false none 0 0 from hb5).grown hg6 (by simp; omega))
                have S7 := S6.gb hg7 ge5
                refine wpAnyH_done (by kernel_rfl) ?_ _
                go_step
                go_step
                go_meet
                case rel => exact ⟨_, _, _, _, _, _, _, _, _, _, rfl, rfl, ((show Bz v6 g4 b1 A1 n1 c1 from hb6).grown hg7 (by simp; omega)), (show Bz v7 g5 b3 A3 n3 c3 from hb7), (((((o1.ext hx4).ext hx3).ext hx5).gbz hq6 hg6).gbz hq7 hg7), (((o3.ext hx5).gbz hq6 hg6).gbz hq7 hg7), S7⟩
              exact drawn_nil
            exact drawn_nil
          exact drawn_nil
        refine drawn_alloc 5 (some 10) (by kernel_rfl) alloc_z (fun g5 v5 hb5 hx5 hg5 => ⟨S4.trans hx5, ?_⟩) ?_
        · skip
          simp only [Act.put, List.setIfInBounds_toArray, List.set_cons_zero, List.set_cons_succ]
          have S5 := S4.trans hx5
          have ge5 := Nat.le_trans S4.size hg5
          have ltB9_5 := Nat.lt_of_lt_of_le (show Bz v4 g4 false none 0 0 from hb4).lt hg5
          refine wpAnyH_ready (rs := [3]) (by kernel_rfl) (by simp) ?_
          refine drawn_call1 3 (some 27) (.tmp 26) (ts := #[24]) (by kernel_rfl) (enters_of Try.func18 (by kernel_rfl) rfl) rfl (zof_v (Hy.out.ext (X3.out.trans S5)) (by omega)) (fun E v3 hh => ?_) ?_
          · skip
            obtain ⟨b3, A3, n3, c3, rfl, o3, hx3⟩ := hh
            refine ⟨_, rfl, S5.trans hx3, ?_⟩
            simp only [Act.put, List.setIfInBounds_toArray, List.set_cons_zero, List.set_cons_succ]
            have S3 := S5.trans hx3
            refine wpAnyH_ready (rs := [6]) (by kernel_rfl) (by simp) ?_
            refine drawn_store 6 34 (.tmp 9) (.tmp 25) g4 #[.bool b1, .slice A1 n1 c1] #[.bool false, .slice none 0 0] 34 (by kernel_rfl) rfl rfl (((show Bz v4 g4 false none 0 0 from hb4).ext hx5).ext hx3) info_z_s rfl one_two (fun v6 hb6 hg6 => ⟨S3.gb hg6 ge4, ?_⟩) ?_
            · skip
              simp only [Act.put, List.setIfInBounds_toArray, List.set_cons_zero, List.set_cons_succ]
              have hq6 := (((show Bz v4 g4 false none 0 0 from hb4).ext hx5).ext hx3)
              have S6 := S3.gb hg6 ge4
              refine wpAnyH_ready (rs := [7]) (by kernel_rfl) (by simp) ?_
              refine drawn_store 7 34 (.tmp 10) (.tmp 27) g5 #[.bool b3, .slice A3 n3 c3] #[.bool false, .slice none 0 0] 34 (by kernel_rfl) rfl rfl (((show Bz v5 g5 false none 0 0 from hb5).ext hx3).grown hg6 (by simp; omega)) info_z_s rfl one_two (fun v7 hb7 hg7 => ⟨S6.gb hg7 ge5, ?_⟩) ?_
              · skip
                simp only [Act.put, List.setIfInBounds_toArray, List.set_cons_zero, List.set_cons_succ]
                have hq7 := (((show Bz v5 g5 false none 0 0 from hb5).ext hx3).grown hg6 (by simp; omega))
                have S7 := S6.gb hg7 ge5
                refine wpAnyH_done (by kernel_rfl) ?_ _
                go_step
                go_step
                go_meet
                case rel => exact ⟨_, _, _, _, _, _, _, _, _, _, rfl, rfl, ((show Bz v6 g4 b1 A1 n1 c1 from hb6).grown hg7 (by simp; omega)), (show Bz v7 g5 b3 A3 n3 c3 from hb7), (((((o1.ext hx4).ext hx5).ext hx3).gbz hq6 hg6).gbz hq7 hg7), ((o3.gbz hq6 hg6).gbz hq7 hg7), S7⟩
              exact drawn_nil
            exact drawn_nil
          exact drawn_nil
        exact drawn_nil
      refine drawn_alloc 5 (some 10) (by kernel_rfl) alloc_z (fun g5 v5 hb5 hx5 hg5 => ⟨S1.trans hx5, ?_⟩) ?_
      · skip
        simp only [Act.put, List.setIfInBounds_toArray, List.set_cons_zero, List.set_cons_succ]
        have S5 := S1.trans hx5
        have ge5 := Nat.le_trans S1.size hg5
        refine wpAnyH_ready (rs := [3, 4]) (by kernel_rfl) (by simp) ?_
        refine drawn_call1 3 (some 27) (.tmp 26) (ts := #[24]) (by kernel_rfl) (enters_of Try.func18 (by kernel_rfl) rfl) rfl (zof_v (Hy.out.ext (X3.out.trans S5)) (by omega)) (fun E v3 hh => ?_) ?_
        · skip
          obtain ⟨b3, A3, n3, c3, rfl, o3, hx3⟩ := hh
          refine ⟨_, rfl, S5.trans hx3, ?_⟩
          simp only [Act.put, List.setIfInBounds_toArray, List.set_cons_zero, List.set_cons_succ]
          have S3 := S5.trans hx3
          refine wpAnyH_ready (rs := [4]) (by kernel_rfl) (by simp) ?_
          refine drawn_alloc 4 (some 9) (by kernel_rfl) alloc_z (fun g4 v4 hb4 hx4 hg4 => ⟨S3.trans hx4, ?_⟩) ?_
          · skip
            simp only [Act.put, List.setIfInBounds_toArray, List.set_cons_zero, List.set_cons_succ]
            have S4 := S3.trans hx4
            have ge4 := Nat.le_trans S3.size hg4
            have ltB10_4 := Nat.lt_of_lt_of_le ((show Bz v5 g5 false none 0 0 from hb5).ext hx3).lt hg4
            refine wpAnyH_ready (rs := [6]) (by kernel_rfl) (by simp) ?_
            refine drawn_store 6 34 (.tmp 9) (.tmp 25) g4 #[.bool b1, .slice A1 n1 c1] #[.bool false, .slice none 0 0] 34 (by kernel_rfl) rfl rfl (show Bz v4 g4 false none 0 0 from hb4) info_z_s rfl one_two (fun v6 hb6 hg6 => ⟨S4.gb hg6 ge4, ?_⟩) ?_
            · skip
              simp only [Act.put, List.setIfInBounds_toArray, List.set_cons_zero, List.set_cons_succ]
              have hq6 := (show Bz v4 g4 false none 0 0 from hb4)
              have S6 := S4.gb hg6 ge4
              refine wpAnyH_ready (rs := [7]) (by kernel_rfl) (by simp) ?_
              refine drawn_store 7 34 (.tmp 10) (.tmp 27) g5 #[.bool b3, .slice A3 n3 c3] #[.bool false, .slice none 0 0] 34 (by kernel_rfl) rfl rfl ((((show Bz v5 g5 false none 0 0 from hb5).ext hx3).ext hx4).grown hg6 (by simp; omega)) info_z_s rfl one_two (fun v7 hb7 hg7 => ⟨S6.gb hg7 ge5, ?_⟩) ?_
              · skip
                simp only [Act.put, List.setIfInBounds_toArray, List.set_cons_zero, List.set_cons_succ]
                have hq7 := ((((show Bz v5 g5 false none 0 0 from hb5).ext hx3).ext hx4).grown hg6 (by simp; omega))
                have S7 := S6.gb hg7 ge5
                refine wpAnyH_done (by kernel_rfl) ?_ _
                go_step
                go_step
                go_meet
                case rel => exact ⟨_, _, _, _, _, _, _, _, _, _, rfl, rfl, ((show Bz v6 g4 b1 A1 n1 c1 from hb6).grown hg7 (by simp; omega)), (show Bz v7 g5 b3 A3 n3 c3 from hb7), (((((o1.ext hx5).ext hx3).ext hx4).gbz hq6 hg6).gbz hq7 hg7), (((o3.ext hx4).gbz hq6 hg6).gbz hq7 hg7), S7⟩
              exact drawn_nil
            exact drawn_nil
          exact drawn_nil
        refine drawn_alloc 4 (some 9) (by kernel_rfl) alloc_z (fun g4 v4 hb4 hx4 hg4 => ⟨S5.trans hx4, ?_⟩) ?_
        · skip
          simp only [Act.put, List.setIfInBounds_toArray, List.set_cons_zero, List.set_cons_succ]
          have S4 := S5.trans hx4
          have ge4 := Nat.le_trans S5.size hg4
          have ltB10_4 := Nat.lt_of_lt_of_le (show Bz v5 g5 false none 0 0 from hb5).lt hg4
          refine wpAnyH_ready (rs := [3]) (by kernel_rfl) (by simp) ?_
          refine drawn_call1 3 (some 27) (.tmp 26) (ts := #[24]) (by kernel_rfl) (enters_of Try.func18 (by kernel_rfl) rfl) rfl (zof_v (Hy.out.ext (X3.out.trans S4)) (by omega)) (fun E v3 hh => ?_) ?_
          · skip
            obtain ⟨b3, A3, n3, c3, rfl, o3, hx3⟩ := hh
            refine ⟨_, rfl, S4.trans hx3, ?_⟩
            simp only [Act.put, List.setIfInBounds_toArray, List.set_cons_zero, List.set_cons_succ]
            have S3 := S4.trans hx3
            refine wpAnyH_ready (rs := [6]) (by kernel_rfl) (by simp) ?_
            refine drawn_store 6 34 (.tmp 9) (.tmp 25) g4 #[.bool b1, .slice A1 n1 c1] #[.bool false, .slice none 0 0] 34 (by kernel_rfl) rfl rfl ((show Bz v4 g4 false none 0 0 from hb4).ext hx3) info_z_s rfl one_two (fun v6 hb6 hg6 => ⟨S3.gb hg6 ge4, ?_⟩) ?_
            · skip
              simp only [Act.put, List.setIfInBounds_toArray, List.set_cons_zero, List.set_cons_succ]
              have hq6 := ((show Bz v4 g4 false none 0 0 from hb4).ext hx3)
              have S6 := S3.gb hg6 ge4
              refine wpAnyH_ready (rs := [7]) (by kernel_rfl) (by simp) ?_
              refine drawn_store 7 34 (.tmp 10) (.tmp 27) g5 #[.bool b3, .slice A3 n3 c3] #[.bool false, .slice none 0 0] 34 (by kernel_rfl) rfl rfl ((((show Bz v5 g5 false none 0 0 from hb5).ext hx4).ext hx3).grown hg6 (by simp; omega)) info_z_s rfl one_two (fun v7 hb7 hg7 => ⟨S6.gb hg7 ge5, ?_⟩) ?_
              · skip
                simp only [Act.put, List.setIfInBounds_toArray, List.set_cons_zero, List.set_cons_succ]
                have hq7 := ((((show Bz v5 g5 false none 0 0 from hb5).ext hx4).ext hx3).grown hg6 (by simp; omega))
                have S7 := S6.gb hg7 ge5
                refine wpAnyH_done (by kernel_rfl) ?_ _
                go_step
                go_step
                go_meet
                case rel => exact ⟨_, _, _, _, _, _, _, _, _, _, rfl, rfl, ((show Bz v6 g4 b1 A1 n1 c1 from hb6).grown hg7 (by simp; omega)), (show Bz v7 g5 b3 A3 n3 c3 from hb7), (((((o1.ext hx5).ext hx4).ext hx3).gbz hq6 hg6).gbz hq7 hg7), ((o3.gbz hq6 hg6).gbz hq7 hg7), S7⟩
              exact drawn_nil
            exact drawn_nil
          exact drawn_nil
        exact drawn_nil
      exact drawn_nil
    refine drawn_alloc 4 (some 9) (by kernel_rfl) alloc_z (fun g4 v4 hb4 hx4 hg4 => ⟨hS0.trans hx4, ?_⟩) ?_
    · skip
      simp only [Act.put, List.setIfInBounds_toArray, List.set_cons_zero, List.set_cons_succ]
      have S4 := hS0.trans hx4
      have ge4 := Nat.le_trans hS0.size hg4
      refine wpAnyH_ready (rs := [1, 5]) (by kernel_rfl) (by simp) ?_
      refine drawn_call1 1 (some 25) (.tmp 24) (ts := #[24]) (by kernel_rfl) (enters_of Try.func18 (by kernel_rfl) rfl) rfl (zof_v (Hx.out.ext (X3.out.trans S4)) (by omega)) (fun E v1 hh => ?_) ?_
      · skip
        obtain ⟨b1, A1, n1, c1, rfl, o1, hx1⟩ := hh
        refine ⟨_, rfl, S4.trans hx1, ?_⟩
        simp only [Act.put, List.setIfInBounds_toArray, List.set_cons_zero, List.set_cons_succ]
        have S1 := S4.trans hx1
        refine wpAnyH_ready (rs := [3, 5]) (by kernel_rfl) (by simp) ?_
        refine drawn_call1 3 (some 27) (.tmp 26) (ts := #[24]) (by kernel_rfl) (enters_of Try.func18 (by kernel_rfl) rfl) rfl (zof_v (Hy.out.ext (X3.out.trans S1)) (by omega)) (fun E v3 hh => ?_) ?_
        · skip
          obtain ⟨b3, A3, n3, c3, rfl, o3, hx3⟩ := hh
          refine ⟨_, rfl, S1.trans hx3, ?_⟩
          simp only [Act.put, List.setIfInBounds_toArray, List.set_cons_zero, List.set_cons_succ]
          have S3 := S1.trans hx3
          refine wpAnyH_ready (rs := [5]) (by kernel_rfl) (by simp) ?_
          refine drawn_alloc 5 (some 10) (by kernel_rfl) alloc_z (fun g5 v5 hb5 hx5 hg5 => ⟨S3.trans hx5, ?_⟩) ?_
          · skip
            simp only [Act.put, List.setIfInBounds_toArray, List.set_cons_zero, List.set_cons_succ]
            have S5 := S3.trans hx5
            have ge5 := Nat.le_trans S3.size hg5
            have ltB9_5 := Nat.lt_of_lt_of_le (((show Bz v4 g4 false none 0 0 from hb4).ext hx1).ext hx3).lt hg5
            refine wpAnyH_ready (rs := [6]) (by kernel_rfl) (by simp) ?_
            refine drawn_store 6 34 (.tmp 9) (.tmp 25) g4 #[.bool b1, .slice A1 n1 c1] #[.bool false, .slice none 0 0] 34 (by kernel_rfl) rfl rfl ((((show Bz v4 g4 false none 0 0 from hb4).ext hx1).ext hx3).ext hx5) info_z_s rfl one_two (fun v6 hb6 hg6 => ⟨S5.gb hg6 ge4, ?_⟩) ?_
            · skip
              simp only [Act.put, List.setIfInBounds_toArray, List.set_cons_zero, List.set_cons_succ]
              have hq6 := ((((show Bz v4 g4 false none 0 0 from hb4).ext hx1).ext hx3).ext hx5)
              have S6 := S5.gb hg6 ge4
              refine wpAnyH_ready (rs := [7]) (by kernel_rfl) (by simp) ?_
              refine drawn_store 7 34 (.tmp 10) (.tmp 27) g5 #[.bool b3, .slice A3 n3 c3] #[.bool false, .slice none 0 0] 34 (by kernel_rfl) rfl rfl ((show Bz v5 g5 false none 0 0 from hb5).grown hg6 (by simp; omega)) info_z_s rfl one_two (fun v7 hb7 hg7 => ⟨S6.gb hg7 ge5, ?_⟩) ?_
              · skip
                simp only [Act.put, List.setIfInBounds_toArray, List.set_cons_zero, List.set_cons_succ]
                have hq7 := ((show Bz v5 g5 false none 0 0 from hb5).grown hg6 (by simp; omega))
                have S7 := S6.gb hg7 ge5
                refine wpAnyH_done (by kernel_rfl) ?_ _
                go_step
                go_step
                go_meet
                case rel => exact ⟨_, _, _, _, _, _, _, _, _, _, rfl, rfl, ((show Bz v6 g4 b1 A1 n1 c1 from hb6).grown hg7 (by simp; omega)), (show Bz v7 g5 b3 A3 n3 c3 from hb7), ((((o1.ext hx3).ext hx5).gbz hq6 hg6).gbz hq7 hg7), (((o3.ext hx5).gbz hq6 hg6).gbz hq7 hg7), S7⟩
              exact drawn_nil
            exact drawn_nil
          exact drawn_nil
        refine drawn_alloc 5 (some 10) (by kernel_rfl) alloc_z (fun g5 v5 hb5 hx5 hg5 => ⟨S1.trans hx5, ?_⟩) ?_
        · skip
          simp only [Act.put, List.setIfInBounds_toArray, List.set_cons_zero, List.set_cons_succ]
          have S5 := S1.trans hx5
          have ge5 := Nat.le_trans S1.size hg5
          have ltB9_5 := Nat.lt_of_lt_of_le ((show Bz v4 g4 false none 0 0 from hb4).ext hx1).lt hg5
          refine wpAnyH_ready (rs := [3]) (by kernel_rfl) (by simp) ?_
          refine drawn_call1 3 (some 27) (.tmp 26) (ts := #[24]) (by kernel_rfl) (enters_of Try.func18 (by kernel_rfl) rfl) rfl (zof_v (Hy.out.ext (X3.out.trans S5)) (by omega)) (fun E v3 hh => ?_) ?_
          · skip
            obtain ⟨b3, A3, n3, c3, rfl, o3, hx3⟩ := hh
            refine ⟨_, rfl, S5.trans hx3, ?_⟩
            simp only [Act.put, List.setIfInBounds_toArray, List.set_cons_zero, List.set_cons_succ]
            have S3 := S5.trans hx3
            refine wpAnyH_ready (rs := [6]) (by kernel_rfl) (by simp) ?_
            refine drawn_store 6 34 (.tmp 9) (.tmp 25) g4 #[.bool b1, .slice A1 n1 c1] #[.bool false, .slice none 0 0] 34 (by kernel_rfl) rfl rfl ((((show Bz v4 g4 false none 0 0 from hb4).ext hx1).ext hx5).ext hx3) info_z_s rfl one_two (fun v6 hb6 hg6 => ⟨S3.gb hg6 ge4, ?_⟩) ?_
            · skip
              simp only [Act.put, List.setIfInBounds_toArray, List.set_cons_zero, List.set_cons_succ]
              have hq6 := ((((show Bz v4 g4 false none 0 0 from hb4).ext hx1).ext hx5).ext hx3)
              have S6 := S3.gb hg6 ge4
              refine wpAnyH_ready (rs := [7]) (by kernel_rfl) (by simp) ?_
              refine drawn_store 7 34 (.tmp 10) (.tmp 27) g5 #[.bool b3, .slice A3 n3 c3] #[.bool false, .slice none 0 0] 34 (by kernel_rfl) rfl rfl (((show Bz v5 g5 false none 0 0 from hb5).ext hx3).grown hg6 (by simp; omega)) info_z_s rfl one_two (fun v7 hb7 hg7 => ⟨S6.gb hg7 ge5, ?_⟩) ?_
              · skip
                simp only [Act.put, List.setIfInBounds_toArray, List.set_cons_zero, List.set_cons_succ]
                have hq7 := (((show Bz v5 g5 false none 0 0 from hb5).ext hx3).grown hg6 (by simp; omega))
                have S7 := S6.gb hg7 ge5
                refine wpAnyH_done (by kernel_rfl) ?_ _
                go_step
                go_step
                go_meet
                case rel => exact ⟨_, _, _, _, _, _, _, _, _, _, rfl, rfl, ((show Bz v6 g4 b1 A1 n1 c1 from hb6).grown hg7 (by simp; omega)), (show Bz v7 g5 b3 A3 n3 c3 from hb7), ((((o1.ext hx5).ext hx3).gbz hq6 hg6).gbz hq7 hg7), ((o3.gbz hq6 hg6).gbz hq7 hg7), S7⟩
              exact drawn_nil
            exact drawn_nil
          exact drawn_nil
        exact drawn_nil
      refine drawn_alloc 5 (some 10) (by kernel_rfl) alloc_z (fun g5 v5 hb5 hx5 hg5 => ⟨S4.trans hx5, ?_⟩) ?_
      · skip
        simp only [Act.put, List.setIfInBounds_toArray, List.set_cons_zero, List.set_cons_succ]
        have S5 := S4.trans hx5
        have ge5 := Nat.le_trans S4.size hg5
        have ltB9_5 := Nat.lt_of_lt_of_le (show Bz v4 g4 false none 0 0 from hb4).lt hg5
        refine wpAnyH_ready (rs := [1]) (by kernel_rfl) (by simp) ?_
        refine drawn_call1 1 (some 25) (.tmp 24) (ts := #[24]) (by kernel_rfl) (enters_of Try.func18 (by kernel_rfl) rfl) rfl (zof_v (Hx.out.ext (X3.out.trans S5)) (by omega)) (fun E v1 hh => ?_) ?_
        · skip
          obtain ⟨b1, A1, n1, c1, rfl, o1, hx1⟩ := hh
          refine ⟨_, rfl, S5.trans hx1, ?_⟩
          simp only [Act.put, List.setIfInBounds_toArray, List.set_cons_zero, List.set_cons_succ]
          have S1 := S5.trans hx1
          refine wpAnyH_ready (rs := [3]) (by kernel_rfl) (by simp) ?_
          refine drawn_call1 3 (some 27) (.tmp 26) (ts := #[24]) (by kernel_rfl) (enters_of Try.func18 (by kernel_rfl) rfl) rfl (zof_v (Hy.out.ext (X3.out.trans S1)) (by omega)) (fun E v3 hh => ?_) ?_
          · skip
            obtain ⟨b3, A3, n3, c3, rfl, o3, hx3⟩ := hh
            refine ⟨_, rfl, S1.trans hx3, ?_⟩
            simp only [Act.put, List.setIfInBounds_toArray, List.set_cons_zero, List.set_cons_succ]
            have S3 := S1.trans hx3
            refine wpAnyH_ready (rs := [6]) (by kernel_rfl) (by simp) ?_
            refine drawn_store 6 34 (.tmp 9) (.tmp 25) g4 #[.bool b1, .slice A1 n1 c1] #[.bool false, .slice none 0 0] 34 (by kernel_rfl) rfl rfl ((((show Bz v4 g4 false none 0 0 from hb4).ext hx5).ext hx1).ext hx3) info_z_s rfl one_two (fun v6 hb6 hg6 => ⟨S3.gb hg6 ge4, ?_⟩) ?_
            · skip
              simp only [Act.put, List.setIfInBounds_toArray, List.set_cons_zero, List.set_cons_succ]
              have hq6 := ((((show Bz v4 g4 false none 0 0 from hb4).ext hx5).ext hx1).ext hx3)
              have S6 := S3.gb hg6 ge4
              refine wpAnyH_ready (rs := [7]) (by kernel_rfl) (by simp) ?_
              refine drawn_store 7 34 (.tmp 10) (.tmp 27) g5 #[.bool b3, .slice A3 n3 c3] #[.bool false, .slice none 0 0] 34 (by kernel_rfl) rfl rfl ((((show Bz v5 g5 false none 0 0 from hb5).ext hx1).ext hx3).grown hg6 (by simp; omega)) info_z_s rfl one_two (fun v7 hb7 hg7 => ⟨S6.gb hg7 ge5, ?_⟩) ?_
              · skip
                simp only [Act.put, List.setIfInBounds_toArray, List.set_cons_zero, List.set_cons_succ]
                have hq7 := ((((show Bz v5 g5 false none 0 0 from hb5).ext hx1).ext hx3).grown hg6 (by simp; omega))
                have S7 := S6.gb hg7 ge5
                refine wpAnyH_done (by kernel_rfl) ?_ _
                go_step
                go_step
                go_meet
                case rel => exact ⟨_, _, _, _, _, _, _, _, _, _, rfl, rfl, ((show Bz v6 g4 b1 A1 n1 c1 from hb6).grown hg7 (by simp; omega)), (show Bz v7 g5 b3 A3 n3 c3 from hb7), (((o1.ext hx3).gbz hq6 hg6).gbz hq7 hg7), ((o3.gbz hq6 hg6).gbz hq7 hg7), S7⟩
              exact drawn_nil
            exact drawn_nil
          exact drawn_nil
        exact drawn_nil
      exact drawn_nil
    refine drawn_alloc 5 (some 10) (by kernel_rfl) alloc_z (fun g5 v5 hb5 hx5 hg5 => ⟨hS0.trans hx5, ?_⟩) ?_
    · skip
      simp only [Act.put, List.setIfInBounds_toArray, List.set_cons_zero, List.set_cons_succ]
      have S5 := hS0.trans hx5
      have ge5 := Nat.le_trans hS0.size hg5
      refine wpAnyH_ready (rs := [1, 4]) (by kernel_rfl) (by simp) ?_
      refine drawn_call1 1 (some 25) (.tmp 24) (ts := #[24]) (by kernel_rfl) (enters_of Try.func18 (by kernel_rfl) rfl) rfl (zof_v (Hx.out.ext (X3.out.trans S5)) (by omega)) (fun E v1 hh => ?_) ?_
      · skip
        obtain ⟨b1, A1, n1, c1, rfl, o1, hx1⟩ := hh
        refine ⟨_, rfl, S5.trans hx1, ?_⟩
        simp only [Act.put, List.setIfInBounds_toArray, List.set_cons_zero, List.set_cons_succ]
        have S1 := S5.trans hx1
        refine wpAnyH_ready (rs := [3, 4]) (by kernel_rfl) (by simp) ?_
        refine drawn_call1 3 (some 27) (.tmp 26) (ts := #[24]) (by kernel_rfl) (enters_of Try.func18 (by kernel_rfl) rfl) rfl (zof_v (Hy.out.ext (X3.out.trans S1)) (by omega)) (fun E v3 hh => ?_) ?_
        · skip
          obtain ⟨b3, A3, n3, c3, rfl, o3, hx3⟩ := hh
          refine ⟨_, rfl, S1.trans hx3, ?_⟩
          simp only [Act.put, List.setIfInBounds_toArray, List.set_cons_zero, List.set_cons_succ]
          have S3 := S1.trans hx3
          refine wpAnyH_ready (rs := [4]) (by kernel_rfl) (by simp) ?_
          refine drawn_alloc 4 (some 9) (by kernel_rfl) alloc_z (fun g4 v4 hb4 hx4 hg4 => ⟨S3.trans hx4, ?_⟩) ?_
          · skip
            simp only [Act.put, List.setIfInBounds_toArray, List.set_cons_zero, List.set_cons_succ]
            have S4 := S3.trans hx4
            have ge4 := Nat.le_trans S3.size hg4
            have ltB10_4 := Nat.lt_of_lt_of_le (((show Bz v5 g5 false none 0 0 from hb5).ext hx1).ext hx3).lt hg4
            refine wpAnyH_ready (rs := [6]) (by kernel_rfl) (by simp) ?_
            refine drawn_store 6 34 (.tmp 9) (.tmp 25) g4 #[.bool b1, .slice A1 n1 c1] #[.bool false, .slice none 0 0] 34 (by kernel_rfl) rfl rfl (show Bz v4 g4 false none 0 0 from hb4) info_z_s rfl one_two (fun v6 hb6 hg6 => ⟨S4.gb hg6 ge4, ?_⟩) ?_
            · skip
              simp only [Act.put, List.setIfInBounds_toArray, List.set_cons_zero, List.set_cons_succ]
              have hq6 := (show Bz v4 g4 false none 0 0 from hb4)
              have S6 := S4.gb hg6 ge4
              refine wpAnyH_ready (rs := [7]) (by kernel_rfl) (by simp) ?_
              refine drawn_store 7 34 (.tmp 10) (.tmp 27) g5 #[.bool b3, .slice A3 n3 c3] #[.bool false, .slice none 0 0] 34 (by kernel_rfl) rfl rfl (((((show Bz v5 g5 false none 0 0 from hb5).ext hx1).ext hx3).ext hx4).grown hg6 (by simp; omega)) info_z_s rfl one_two (fun v7 hb7 hg7 => ⟨S6.gb hg7 ge5, ?_⟩) ?_
              · skip
                simp only [Act.put, List.setIfInBounds_toArray, List.set_cons_zero, List.set_cons_succ]
                have hq7 := (((((show Bz v5 g5 false none 0 0 from hb5).ext hx1).ext hx3).ext hx4).grown hg6 (by simp; omega))
                have S7 := S6.gb hg7 ge5
                refine wpAnyH_done (by kernel_rfl) ?_ _
                go_step
                go_step
                go_meet
                case rel => exact ⟨_, _, _, _, _, _, _, _, _, _, rfl, rfl, ((show Bz v6 g4 b1 A1 n1 c1 from hb6).grown hg7 (by simp; omega)), (show Bz v7 g5 b3 A3 n3 c3 from hb7), ((((o1.ext hx3).ext hx4).gbz hq6 hg6).gbz hq7 hg7), (((o3.ext hx4).gbz hq6 hg6).gbz hq7 hg7), S7⟩
              exact drawn_nil
            exact drawn_nil
          exact drawn_nil
        refine drawn_alloc 4 (some 9) (by kernel_rfl) alloc_z (fun g4 v4 hb4 hx4 hg4 => ⟨S1.trans hx4, ?_⟩) ?_
        · skip
          simp only [Act.put, List.setIfInBounds_toArray, List.set_cons_zero, List.set_cons_succ]
          have S4 := S1.trans hx4
          have ge4 := Nat.le_trans S1.size hg4
          have ltB10_4 := Nat.lt_of_lt_of_le ((show Bz v5 g5 false none 0 0 from hb5).ext hx1).lt hg4
          refine wpAnyH_ready (rs := [3]) (by kernel_rfl) (by simp) ?_
          refine drawn_call1 3 (some 27) (.tmp 26) (ts := #[24]) (by kernel_rfl) (enters_of Try.func18 (by kernel_rfl) rfl) rfl (zof_v (Hy.out.ext (X3.out.trans S4)) (by omega)) (fun E v3 hh => ?_) ?_
          · skip
            obtain ⟨b3, A3, n3, c3, rfl, o3, hx3⟩ := hh
            refine ⟨_, rfl, S4.trans hx3, ?_⟩
            simp only [Act.put, List.setIfInBounds_toArray, List.set_cons_zero, List.set_cons_succ]
            have S3 := S4.trans hx3
            refine wpAnyH_ready (rs := [6]) (by kernel_rfl) (by simp) ?_
            refine drawn_store 6 34 (.tmp 9) (.tmp 25) g4 #[.bool b1, .slice A1 n1 c1] #[.bool false, .slice none 0 0] 34 (by kernel_rfl) rfl rfl ((show Bz v4 g4 false none 0 0 from hb4).ext hx3) info_z_s rfl one_two (fun v6 hb6 hg6 => ⟨S3.gb hg6 ge4, ?_⟩) ?_
            · skip
              simp only [Act.put, List.setIfInBounds_toArray, List.set_cons_zero, List.set_cons_succ]
              have hq6 := ((show Bz v4 g4 false none 0 0 from hb4).ext hx3)
              have S6 := S3.gb hg6 ge4
              refine wpAnyH_ready (rs := [7]) (by kernel_rfl) (by simp) ?_
              refine drawn_store 7 34 (.tmp 10) (.tmp 27) g5 #[.bool b3, .slice A3 n3 c3] #[.bool false, .slice none 0 0] 34 (by kernel_rfl) rfl rfl (((((show Bz v5 g5 false none 0 0 from hb5).ext hx1).ext hx4).ext hx3).grown hg6 (by simp; omega)) info_z_s rfl one_two (fun v7 hb7 hg7 => ⟨S6.gb hg7 ge5, ?_⟩) ?_
              · skip
                simp only [Act.put, List.setIfInBounds_toArray, List.set_cons_zero, List.set_cons_succ]
                have hq7 := (((((show Bz v5 g5 false none 0 0 from hb5).ext hx1).ext hx4).ext hx3).grown hg6 (by simp; omega))
                have S7 := S6.gb hg7 ge5
                refine wpAnyH_done (by kernel_rfl) ?_ _
                go_step
                go_step
                go_meet
                case rel => exact ⟨_, _, _, _, _, _, _, _, _, _, rfl, rfl, ((show Bz v6 g4 b1 A1 n1 c1 from hb6).grown hg7 (by simp; omega)), (show Bz v7 g5 b3 A3 n3 c3 from hb7), ((((o1.ext hx4).ext hx3).gbz hq6 hg6).gbz hq7 hg7), ((o3.gbz hq6 hg6).gbz hq7 hg7), S7⟩
              exact drawn_nil
            exact drawn_nil
          exact drawn_nil
        exact drawn_nil
      refine drawn_alloc 4 (some 9) (by kernel_rfl) alloc_z (fun g4 v4 hb4 hx4 hg4 => ⟨S5.trans hx4, ?_⟩) ?_
      · skip
        simp only [Act.put, List.setIfInBounds_toArray, List.set_cons_zero, List.set_cons_succ]
        have S4 := S5.trans hx4
        have ge4 := Nat.le_trans S5.size hg4
        have ltB10_4 := Nat.lt_of_lt_of_le (show Bz v5 g5 false none 0 0 from hb5).lt hg4
        refine wpAnyH_ready (rs := [1]) (by kernel_rfl) (by simp) ?_
        refine drawn_call1 1 (some 25) (.tmp 24) (ts := #[24]) (by kernel_rfl) (enters_of Try.func18 (by kernel_rfl) rfl) rfl (zof_v (Hx.out.ext (X3.out.trans S4)) (by omega)) (fun E v1 hh => ?_) ?_
        · skip
          obtain ⟨b1, A1, n1, c1, rfl, o1, hx1⟩ := hh
          refine ⟨_, rfl, S4.trans hx1, ?_⟩
          simp only [Act.put, List.setIfInBounds_toArray, List.set_cons_zero, List.set_cons_succ]
          have S1 := S4.trans hx1
          refine wpAnyH_ready (rs := [3]) (by kernel_rfl) (by simp) ?_
          refine drawn_call1 3 (some 27) (.tmp 26) (ts := #[24]) (by kernel_rfl) (enters_of Try.func18 (by kernel_rfl) rfl) rfl (zof_v (Hy.out.ext (X3.out.trans S1)) (by omega)) (fun E v3 hh => ?_) ?_
          · skip
            obtain ⟨b3, A3, n3, c3, rfl, o3, hx3⟩ := hh
            refine ⟨_, rfl, S1.trans hx3, ?_⟩
            simp only [Act.put, List.setIfInBounds_toArray, List.set_cons_zero, List.set_cons_succ]
            have S3 := S1.trans hx3
            refine wpAnyH_ready (rs := [6]) (by kernel_rfl) (by simp) ?_
            refine drawn_store 6 34 (.tmp 9) (.tmp 25) g4 #[.bool b1, .slice A1 n1 c1] #[.bool false, .slice none 0 0] 34 (by kernel_rfl) rfl rfl (((show Bz v4 g4 false none 0 0 from hb4).ext hx1).ext hx3) info_z_s rfl one_two (fun v6 hb6 hg6 => ⟨S3.gb hg6 ge4, ?_⟩) ?_
            · skip
              simp only [Act.put, List.setIfInBounds_toArray, List.set_cons_zero, List.set_cons_succ]
              have hq6 := (((show Bz v4 g4 false none 0 0 from hb4).ext hx1).ext hx3)
              have S6 := S3.gb hg6 ge4
              refine wpAnyH_ready (rs := [7]) (by kernel_rfl) (by simp) ?_
              refine drawn_store 7 34 (.tmp 10) (.tmp 27) g5 #[.bool b3, .slice A3 n3 c3] #[.bool false, .slice none 0 0] 34 (by kernel_rfl) rfl rfl (((((show Bz v5 g5 false none 0 0 from hb5).ext hx4).ext hx1).ext hx3).grown hg6 (by simp; omega)) info_z_s rfl one_two (fun v7 hb7 hg7 => ⟨S6.gb hg7 ge5, ?_⟩) ?_
              · skip
                simp only [Act.put, List.setIfInBounds_toArray, List.set_cons_zero, List.set_cons_succ]
                have hq7 := (((((show Bz v5 g5 false none 0 0 from hb5).ext hx4).ext hx1).ext hx3).grown hg6 (by simp; omega))
                have S7 := S6.gb hg7 ge5
                refine wpAnyH_done (by kernel_rfl) ?_ _
                go_step
                go_step
                go_meet
                case rel => exact ⟨_, _, _, _, _, _, _, _, _, _, rfl, rfl, ((show Bz v6 g4 b1 A1 n1 c1 from hb6).grown hg7 (by simp; omega)), (show Bz v7 g5 b3 A3 n3 c3 from hb7), (((o1.ext hx3).gbz hq6 hg6).gbz hq7 hg7), ((o3.gbz hq6 hg6).gbz hq7 hg7), S7⟩
              exact drawn_nil
            exact drawn_nil
          exact drawn_nil
        exact drawn_nil
      exact drawn_nil
    exact drawn_nil
  case rest =>
  obtain ⟨g9, bu, Pu, lu, ku, g10, bv, Pv, lv, kv, rfl, rfl, Bu, Bv, Ou, Ov, hy4⟩ := hcut
  obtain ⟨w4, hw4⟩ : ∃ w4, w4 = wc := ⟨_, rfl⟩
  subst hw4
  have HBu := hid Bu
  have HOu := hid Ou
  clear Bu Ou
  have HBv := hid Bv
  have HOv := hid Ov
  clear Bv Ov
  have hy4 := hid hy4
  have X4 := hid (X3.out.trans hy4.out)
  go_upto_region 5 with fail
  have hk4 : w4.cell? ⟨g7, 0, none⟩ = some (.bool sx) ∧ w4.cell? ⟨g7, 1, none⟩ = some (.slice P7 lx r7) ∧ w4.cell? ⟨g8, 0, none⟩ = some (.bool sy) ∧ w4.cell? ⟨g8, 1, none⟩ = some (.slice P8 ly r8) ∧ w4.cell? ⟨g9, 0, none⟩ = some (.bool bu) ∧ w4.cell? ⟨g9, 1, none⟩ = some (.slice Pu lu ku) ∧ w4.cell? ⟨g10, 0, none⟩ = some (.bool bv) ∧ w4.cell? ⟨g10, 1, none⟩ = some (.slice Pv lv kv) ∧ w4.cell? ⟨w.heap.size, 0, none⟩ = some (.bool sx) ∧ w4.cell? ⟨w.heap.size, 1, none⟩ = some (.slice Px lx kx) := ⟨(HBa.out.ext hy4.out).c0, (HBa.out.ext hy4.out).c1, (HBb.out.ext hy4.out).c0, (HBb.out.ext hy4.out).c1, HBu.out.c0, HBu.out.c1, HBv.out.c0, HBv.out.c1, (HBx.out.ext ((hy2.out.trans hy3.out).trans hy4.out)).c0, (HBx.out.ext ((hy2.out.trans hy3.out).trans hy4.out)).c1⟩
  have hy5 := hid (Ext.refl w4).drew
  have X5 := hid (X4.out.trans hy5.out)
  have hk5 : w4.drew.cell? ⟨g7, 0, none⟩ = some (.bool sx) ∧ w4.drew.cell? ⟨g7, 1, none⟩ = some (.slice P7 lx r7) ∧ w4.drew.cell? ⟨g8, 0, none⟩ = some (.bool sy) ∧ w4.drew.cell? ⟨g8, 1, none⟩ = some (.slice P8 ly r8) ∧ w4.drew.cell? ⟨g9, 0, none⟩ = some (.bool bu) ∧ w4.drew.cell? ⟨g9, 1, none⟩ = some (.slice Pu lu ku) ∧ w4.drew.cell? ⟨g10, 0, none⟩ = some (.bool bv) ∧ w4.drew.cell? ⟨g10, 1, none⟩ = some (.slice Pv lv kv) ∧ w4.drew.cell? ⟨w.heap.size, 0, none⟩ = some (.bool sx) ∧ w4.drew.cell? ⟨w.heap.size, 1, none⟩ = some (.slice Px lx kx) := ⟨(HBa.out.ext (hy4.out.trans hy5.out)).c0, (HBa.out.ext (hy4.out.trans hy5.out)).c1, (HBb.out.ext (hy4.out.trans hy5.out)).c0, (HBb.out.ext (hy4.out.trans hy5.out)).c1, (HBu.out.ext hy5.out).c0, (HBu.out.ext hy5.out).c1, (HBv.out.ext hy5.out).c0, (HBv.out.ext hy5.out).c1, (HBx.out.ext (((hy2.out.trans hy3.out).trans hy4.out).trans hy5.out)).c0, (HBx.out.ext (((hy2.out.trans hy3.out).trans hy4.out).trans hy5.out)).c1⟩
  go_region_held3 (fun w' => w'.cell? ⟨g7, 0, none⟩ = some (.bool sx) ∧ w'.cell? ⟨g7, 1, none⟩ = some (.slice P7 lx r7) ∧ w'.cell? ⟨g8, 0, none⟩ = some (.bool sy) ∧ w'.cell? ⟨g8, 1, none⟩ = some (.slice P8 ly r8) ∧ w'.cell? ⟨g9, 0, none⟩ = some (.bool bu) ∧ w'.cell? ⟨g9, 1, none⟩ = some (.slice Pu lu ku) ∧ w'.cell? ⟨g10, 0, none⟩ = some (.bool bv) ∧ w'.cell? ⟨g10, 1, none⟩ = some (.slice Pv lv kv) ∧ w'.cell? ⟨w.heap.size, 0, none⟩ = some (.bool sx) ∧ w'.cell? ⟨w.heap.size, 1, none⟩ = some (.slice Px lx kx))
    (first | (with_reducible exact hk4) | (with_reducible exact hk5) | (with_reducible exact hk6) | (with_reducible exact hk7) | (with_reducible exact hk8) | (with_reducible exact hk9) | (with_reducible exact hk10) | (with_reducible exact hk11) | (with_reducible exact hk12) | (with_reducible exact hk13) | (with_reducible exact hk14) | (with_reducible exact hk15) | (with_reducible exact hk16) | (with_reducible exact hk17) | (with_reducible exact hk18) | (with_reducible exact hk19) | (with_reducible exact hk20) | (with_reducible exact hk21) | (with_reducible exact hk22) | (with_reducible exact hk23) | (with_reducible exact hk24) | (with_reducible exact hk25) | (with_reducible exact hk26) | (with_reducible exact hk27))
    (first
      | ((go_at_call 39); (with_reducible refine (wadd_v (HIa.out.ext (hy4.out.trans hy5.out)) (HIb.out.ext (hy4.out.trans hy5.out)) (by omega)).mono ?_); rintro E6 w6 ⟨b6, A6, n6, c6, rfl, o6, hr6⟩; have O6 := hid o6; clear o6; have X6 := hid (X5.out.trans hr6); have hy6 := hid hr6; clear hr6; have hk6 : w6.cell? ⟨g7, 0, none⟩ = some (.bool sx) ∧ w6.cell? ⟨g7, 1, none⟩ = some (.slice P7 lx r7) ∧ w6.cell? ⟨g8, 0, none⟩ = some (.bool sy) ∧ w6.cell? ⟨g8, 1, none⟩ = some (.slice P8 ly r8) ∧ w6.cell? ⟨g9, 0, none⟩ = some (.bool bu) ∧ w6.cell? ⟨g9, 1, none⟩ = some (.slice Pu lu ku) ∧ w6.cell? ⟨g10, 0, none⟩ = some (.bool bv) ∧ w6.cell? ⟨g10, 1, none⟩ = some (.slice Pv lv kv) ∧ w6.cell? ⟨w.heap.size, 0, none⟩ = some (.bool sx) ∧ w6.cell? ⟨w.heap.size, 1, none⟩ = some (.slice Px lx kx) := ⟨(HBa.out.ext ((hy4.out.trans hy5.out).trans hy6.out)).c0, (HBa.out.ext ((hy4.out.trans hy5.out).trans hy6.out)).c1, (HBb.out.ext ((hy4.out.trans hy5.out).trans hy6.out)).c0, (HBb.out.ext ((hy4.out.trans hy5.out).trans hy6.out)).c1, (HBu.out.ext (hy5.out.trans hy6.out)).c0, (HBu.out.ext (hy5.out.trans hy6.out)).c1, (HBv.out.ext (hy5.out.trans hy6.out)).c0, (HBv.out.ext (hy5.out.trans hy6.out)).c1, (HBx.out.ext ((((hy2.out.trans hy3.out).trans hy4.out).trans hy5.out).trans hy6.out)).c0, (HBx.out.ext ((((hy2.out.trans hy3.out).trans hy4.out).trans hy5.out).trans hy6.out)).c1⟩)
      | ((go_at_call 47); (with_reducible refine (zadd_v (HOu.out.ext (hy5.out.trans hy6.out)) (HOv.out.ext (hy5.out.trans hy6.out)) (by omega)).mono ?_); rintro E7 w7 ⟨b7, A7, n7, c7, rfl, o7, hr7⟩; have O7 := hid o7; clear o7; have X7 := hid (X6.out.trans hr7); have hy7 := hid hr7; clear hr7; have hk7 : w7.cell? ⟨g7, 0, none⟩ = some (.bool sx) ∧ w7.cell? ⟨g7, 1, none⟩ = some (.slice P7 lx r7) ∧ w7.cell? ⟨g8, 0, none⟩ = some (.bool sy) ∧ w7.cell? ⟨g8, 1, none⟩ = some (.slice P8 ly r8) ∧ w7.cell? ⟨g9, 0, none⟩ = some (.bool bu) ∧ w7.cell? ⟨g9, 1, none⟩ = some (.slice Pu lu ku) ∧ w7.cell? ⟨g10, 0, none⟩ = some (.bool bv) ∧ w7.cell? ⟨g10, 1, none⟩ = some (.slice Pv lv kv) ∧ w7.cell? ⟨w.heap.size, 0, none⟩ = some (.bool sx) ∧ w7.cell? ⟨w.heap.size, 1, none⟩ = some (.slice Px lx kx) := ⟨(HBa.out.ext (((hy4.out.trans hy5.out).trans hy6.out).trans hy7.out)).c0, (HBa.out.ext (((hy4.out.trans hy5.out).trans hy6.out).trans hy7.out)).c1, (HBb.out.ext (((hy4.out.trans hy5.out).trans hy6.out).trans hy7.out)).c0, (HBb.out.ext (((hy4.out.trans hy5.out).trans hy6.out).trans hy7.out)).c1, (HBu.out.ext ((hy5.out.trans hy6.out).trans hy7.out)).c0, (HBu.out.ext ((hy5.out.trans hy6.out).trans hy7.out)).c1, (HBv.out.ext ((hy5.out.trans hy6.out).trans hy7.out)).c0, (HBv.out.ext ((hy5.out.trans hy6.out).trans hy7.out)).c1, (HBx.out.ext (((((hy2.out.trans hy3.out).trans hy4.out).trans hy5.out).trans hy6.out).trans hy7.out)).c0, (HBx.out.ext (((((hy2.out.trans hy3.out).trans hy4.out).trans hy5.out).trans hy6.out).trans hy7.out)).c1⟩)
      | ((go_at_call 19); (with_reducible refine (zint_v O7.out (by omega)).mono ?_); rintro E8 w8 ⟨b8, A8, n8, c8, rfl, o8, hr8⟩; have O8 := hid o8; clear o8; have X8 := hid (X7.out.trans hr8); have hy8 := hid hr8; clear hr8; have hk8 : w8.cell? ⟨g7, 0, none⟩ = some (.bool sx) ∧ w8.cell? ⟨g7, 1, none⟩ = some (.slice P7 lx r7) ∧ w8.cell? ⟨g8, 0, none⟩ = some (.bool sy) ∧ w8.cell? ⟨g8, 1, none⟩ = some (.slice P8 ly r8) ∧ w8.cell? ⟨g9, 0, none⟩ = some (.bool bu) ∧ w8.cell? ⟨g9, 1, none⟩ = some (.slice Pu lu ku) ∧ w8.cell? ⟨g10, 0, none⟩ = some (.bool bv) ∧ w8.cell? ⟨g10, 1, none⟩ = some (.slice Pv lv kv) ∧ w8.cell? ⟨w.heap.size, 0, none⟩ = some (.bool sx) ∧ w8.cell? ⟨w.heap.size, 1, none⟩ = some (.slice Px lx kx) := ⟨(HBa.out.ext ((((hy4.out.trans hy5.out).trans hy6.out).trans hy7.out).trans hy8.out)).c0, (HBa.out.ext ((((hy4.out.trans hy5.out).trans hy6.out).trans hy7.out).trans hy8.out)).c1, (HBb.out.ext ((((hy4.out.trans hy5.out).trans hy6.out).trans hy7.out).trans hy8.out)).c0, (HBb.out.ext ((((hy4.out.trans hy5.out).trans hy6.out).trans hy7.out).trans hy8.out)).c1, (HBu.out.ext (((hy5.out.trans hy6.out).trans hy7.out).trans hy8.out)).c0, (HBu.out.ext (((hy5.out.trans hy6.out).trans hy7.out).trans hy8.out)).c1, (HBv.out.ext (((hy5.out.trans hy6.out).trans hy7.out).trans hy8.out)).c0, (HBv.out.ext (((hy5.out.trans hy6.out).trans hy7.out).trans hy8.out)).c1, (HBx.out.ext ((((((hy2.out.trans hy3.out).trans hy4.out).trans hy5.out).trans hy6.out).trans hy7.out).trans hy8.out)).c0, (HBx.out.ext ((((((hy2.out.trans hy3.out).trans hy4.out).trans hy5.out).trans hy6.out).trans hy7.out).trans hy8.out)).c1⟩)
      | ((go_at_call 17); (with_reducible refine (zsame_v (O6.out.ext (hy7.out.trans hy8.out)) O8.out (by omega) rfl).mono ?_); rintro E9 w9 ⟨rfl, hr9⟩; have X9 := hid (X8.out.trans hr9); have hy9 := hid hr9; clear hr9; have hk9 : w9.cell? ⟨g7, 0, none⟩ = some (.bool sx) ∧ w9.cell? ⟨g7, 1, none⟩ = some (.slice P7 lx r7) ∧ w9.cell? ⟨g8, 0, none⟩ = some (.bool sy) ∧ w9.cell? ⟨g8, 1, none⟩ = some (.slice P8 ly r8) ∧ w9.cell? ⟨g9, 0, none⟩ = some (.bool bu) ∧ w9.cell? ⟨g9, 1, none⟩ = some (.slice Pu lu ku) ∧ w9.cell? ⟨g10, 0, none⟩ = some (.bool bv) ∧ w9.cell? ⟨g10, 1, none⟩ = some (.slice Pv lv kv) ∧ w9.cell? ⟨w.heap.size, 0, none⟩ = some (.bool sx) ∧ w9.cell? ⟨w.heap.size, 1, none⟩ = some (.slice Px lx kx) := ⟨(HBa.out.ext (((((hy4.out.trans hy5.out).trans hy6.out).trans hy7.out).trans hy8.out).trans hy9.out)).c0, (HBa.out.ext (((((hy4.out.trans hy5.out).trans hy6.out).trans hy7.out).trans hy8.out).trans hy9.out)).c1, (HBb.out.ext (((((hy4.out.trans hy5.out).trans hy6.out).trans hy7.out).trans hy8.out).trans hy9.out)).c0, (HBb.out.ext (((((hy4.out.trans hy5.out).trans hy6.out).trans hy7.out).trans hy8.out).trans hy9.out)).c1, (HBu.out.ext ((((hy5.out.trans hy6.out).trans hy7.out).trans hy8.out).trans hy9.out)).c0, (HBu.out.ext ((((hy5.out.trans hy6.out).trans hy7.out).trans hy8.out).trans hy9.out)).c1, (HBv.out.ext ((((hy5.out.trans hy6.out).trans hy7.out).trans hy8.out).trans hy9.out)).c0, (HBv.out.ext ((((hy5.out.trans hy6.out).trans hy7.out).trans hy8.out).trans hy9.out)).c1, (HBx.out.ext (((((((hy2.out.trans hy3.out).trans hy4.out).trans hy5.out).trans hy6.out).trans hy7.out).trans hy8.out).trans hy9.out)).c0, (HBx.out.ext (((((((hy2.out.trans hy3.out).trans hy4.out).trans hy5.out).trans hy6.out).trans hy7.out).trans hy8.out).trans hy9.out)).c1⟩)
      | ((go_at_call 41); (with_reducible refine (wsub_v (HIa.out.ext (((((hy4.out.trans hy5.out).trans hy6.out).trans hy7.out).trans hy8.out).trans hy9.out)) (HIb.out.ext (((((hy4.out.trans hy5.out).trans hy6.out).trans hy7.out).trans hy8.out).trans hy9.out)) (by omega)).mono ?_); rintro E10 w10 ⟨b10, A10, n10, c10, rfl, o10, hr10⟩; have O10 := hid o10; clear o10; have X10 := hid (X9.out.trans hr10); have hy10 := hid hr10; clear hr10; have hk10 : w10.cell? ⟨g7, 0, none⟩ = some (.bool sx) ∧ w10.cell? ⟨g7, 1, none⟩ = some (.slice P7 lx r7) ∧ w10.cell? ⟨g8, 0, none⟩ = some (.bool sy) ∧ w10.cell? ⟨g8, 1, none⟩ = some (.slice P8 ly r8) ∧ w10.cell? ⟨g9, 0, none⟩ = some (.bool bu) ∧ w10.cell? ⟨g9, 1, none⟩ = some (.slice Pu lu ku) ∧ w10.cell? ⟨g10, 0, none⟩ = some (.bool bv) ∧ w10.cell? ⟨g10, 1, none⟩ = some (.slice Pv lv kv) ∧ w10.cell? ⟨w.heap.size, 0, none⟩ = some (.bool sx) ∧ w10.cell? ⟨w.heap.size, 1, none⟩ = some (.slice Px lx kx) := ⟨(HBa.out.ext ((((((hy4.out.trans hy5.out).trans hy6.out).trans hy7.out).trans hy8.out).trans hy9.out).trans hy10.out)).c0, (HBa.out.ext ((((((hy4.out.trans hy5.out).trans hy6.out).trans hy7.out).trans hy8.out).trans hy9.out).trans hy10.out)).c1, (HBb.out.ext ((((((hy4.out.trans hy5.out).trans hy6.out).trans hy7.out).trans hy8.out).trans hy9.out).trans hy10.out)).c0, (HBb.out.ext ((((((hy4.out.trans hy5.out).trans hy6.out).trans hy7.out).trans hy8.out).trans hy9.out).trans hy10.out)).c1, (HBu.out.ext (((((hy5.out.trans hy6.out).trans hy7.out).trans hy8.out).trans hy9.out).trans hy10.out)).c0, (HBu.out.ext (((((hy5.out.trans hy6.out).trans hy7.out).trans hy8.out).trans hy9.out).trans hy10.out)).c1, (HBv.out.ext (((((hy5.out.trans hy6.out).trans hy7.out).trans hy8.out).trans hy9.out).trans hy10.out)).c0, (HBv.out.ext (((((hy5.out.trans hy6.out).trans hy7.out).trans hy8.out).trans hy9.out).trans hy10.out)).c1, (HBx.out.ext ((((((((hy2.out.trans hy3.out).trans hy4.out).trans hy5.out).trans hy6.out).trans hy7.out).trans hy8.out).trans hy9.out).trans hy10.out)).c0, (HBx.out.ext ((((((((hy2.out.trans hy3.out).trans hy4.out).trans hy5.out).trans hy6.out).trans hy7.out).trans hy8.out).trans hy9.out).trans hy10.out)).c1⟩)
      | ((go_at_call 48); (with_reducible refine (zsub_v (HOu.out.ext (((((hy5.out.trans hy6.out).trans hy7.out).trans hy8.out).trans hy9.out).trans hy10.out)) (HOv.out.ext (((((hy5.out.trans hy6.out).trans hy7.out).trans hy8.out).trans hy9.out).trans hy10.out)) (by omega)).mono ?_); rintro E11 w11 ⟨b11, A11, n11, c11, rfl, o11, hr11⟩; have O11 := hid o11; clear o11; have X11 := hid (X10.out.trans hr11); have hy11 := hid hr11; clear hr11; have hk11 : w11.cell? ⟨g7, 0, none⟩ = some (.bool sx) ∧ w11.cell? ⟨g7, 1, none⟩ = some (.slice P7 lx r7) ∧ w11.cell? ⟨g8, 0, none⟩ = some (.bool sy) ∧ w11.cell? ⟨g8, 1, none⟩ = some (.slice P8 ly r8) ∧ w11.cell? ⟨g9, 0, none⟩ = some (.bool bu) ∧ w11.cell? ⟨g9, 1, none⟩ = some (.slice Pu lu ku) ∧ w11.cell? ⟨g10, 0, none⟩ = some (.bool bv) ∧ w11.cell? ⟨g10, 1, none⟩ = some (.slice Pv lv kv) ∧ w11.cell? ⟨w.heap.size, 0, none⟩ = some (.bool sx) ∧ w11.cell? ⟨w.heap.size, 1, none⟩ = some (.slice Px lx kx) := ⟨(HBa.out.ext (((((((hy4.out.trans hy5.out).trans hy6.out).trans hy7.out).trans hy8.out).trans hy9.out).trans hy10.out).trans hy11.out)).c0, (HBa.out.ext (((((((hy4.out.trans hy5.out).trans hy6.out).trans hy7.out).trans hy8.out).trans hy9.out).trans hy10.out).trans hy11.out)).c1, (HBb.out.ext (((((((hy4.out.trans hy5.out).trans hy6.out).trans hy7.out).trans hy8.out).trans hy9.out).trans hy10.out).trans hy11.out)).c0, (HBb.out.ext (((((((hy4.out.trans hy5.out).trans hy6.out).trans hy7.out).trans hy8.out).trans hy9.out).trans hy10.out).trans hy11.out)).c1, (HBu.out.ext ((((((hy5.out.trans hy6.out).trans hy7.out).trans hy8.out).trans hy9.out).trans hy10.out).trans hy11.out)).c0, (HBu.out.ext ((((((hy5.out.trans hy6.out).trans hy7.out).trans hy8.out).trans hy9.out).trans hy10.out).trans hy11.out)).c1, (HBv.out.ext ((((((hy5.out.trans hy6.out).trans hy7.out).trans hy8.out).trans hy9.out).trans hy10.out).trans hy11.out)).c0, (HBv.out.ext ((((((hy5.out.trans hy6.out).trans hy7.out).trans hy8.out).trans hy9.out).trans hy10.out).trans hy11.out)).c1, (HBx.out.ext (((((((((hy2.out.trans hy3.out).trans hy4.out).trans hy5.out).trans hy6.out).trans hy7.out).trans hy8.out).trans hy9.out).trans hy10.out).trans hy11.out)).c0, (HBx.out.ext (((((((((hy2.out.trans hy3.out).trans hy4.out).trans hy5.out).trans hy6.out).trans hy7.out).trans hy8.out).trans hy9.out).trans hy10.out).trans hy11.out)).c1⟩)
      | ((go_at_call 19); (with_reducible refine (zint_v O11.out (by omega)).mono ?_); rintro E12 w12 ⟨b12, A12, n12, c12, rfl, o12, hr12⟩; have O12 := hid o12; clear o12; have X12 := hid (X11.out.trans hr12); have hy12 := hid hr12; clear hr12; have hk12 : w12.cell? ⟨g7, 0, none⟩ = some (.bool sx) ∧ w12.cell? ⟨g7, 1, none⟩ = some (.slice P7 lx r7) ∧ w12.cell? ⟨g8, 0, none⟩ = some (.bool sy) ∧ w12.cell? ⟨g8, 1, none⟩ = some (.slice P8 ly r8) ∧ w12.cell? ⟨g9, 0, none⟩ = some (.bool bu) ∧ w12.cell? ⟨g9, 1, none⟩ = some (.slice Pu lu ku) ∧ w12.cell? ⟨g10, 0, none⟩ = some (.bool bv) ∧ w12.cell? ⟨g10, 1, none⟩ = some (.slice Pv lv kv) ∧ w12.cell? ⟨w.heap.size, 0, none⟩ = some (.bool sx) ∧ w12.cell? ⟨w.heap.size, 1, none⟩ = some (.slice Px lx kx) := ⟨(HBa.out.ext ((((((((hy4.out.trans hy5.out).trans hy6.out).trans hy7.out).trans hy8.out).trans hy9.out).trans hy10.out).trans hy11.out).trans hy12.out)).c0, (HBa.out.ext ((((((((hy4.out.trans hy5.out).trans hy6.out).trans hy7.out).trans hy8.out).trans hy9.out).trans hy10.out).trans hy11.out).trans hy12.out)).c1, (HBb.out.ext ((((((((hy4.out.trans hy5.out).trans hy6.out).trans hy7.out).trans hy8.out).trans hy9.out).trans hy10.out).trans hy11.out).trans hy12.out)).c0, (HBb.out.ext ((((((((hy4.out.trans hy5.out).trans hy6.out).trans hy7.out).trans hy8.out).trans hy9.out).trans hy10.out).trans hy11.out).trans hy12.out)).c1, (HBu.out.ext (((((((hy5.out.trans hy6.out).trans hy7.out).trans hy8.out).trans hy9.out).trans hy10.out).trans hy11.out).trans hy12.out)).c0, (HBu.out.ext (((((((hy5.out.trans hy6.out).trans hy7.out).trans hy8.out).trans hy9.out).trans hy10.out).trans hy11.out).trans hy12.out)).c1, (HBv.out.ext (((((((hy5.out.trans hy6.out).trans hy7.out).trans hy8.out).trans hy9.out).trans hy10.out).trans hy11.out).trans hy12.out)).c0, (HBv.out.ext (((((((hy5.out.trans hy6.out).trans hy7.out).trans hy8.out).trans hy9.out).trans hy10.out).trans hy11.out).trans hy12.out)).c1, (HBx.out.ext ((((((((((hy2.out.trans hy3.out).trans hy4.out).trans hy5.out).trans hy6.out).trans hy7.out).trans hy8.out).trans hy9.out).trans hy10.out).trans hy11.out).trans hy12.out)).c0, (HBx.out.ext ((((((((((hy2.out.trans hy3.out).trans hy4.out).trans hy5.out).trans hy6.out).trans hy7.out).trans hy8.out).trans hy9.out).trans hy10.out).trans hy11.out).trans hy12.out)).c1⟩)
      | ((go_at_call 17); (with_reducible refine (zsame_v (O10.out.ext (hy11.out.trans hy12.out)) O12.out (by omega) rfl).mono ?_); rintro E13 w13 ⟨rfl, hr13⟩; have X13 := hid (X12.out.trans hr13); have hy13 := hid hr13; clear hr13; have hk13 : w13.cell? ⟨g7, 0, none⟩ = some (.bool sx) ∧ w13.cell? ⟨g7, 1, none⟩ = some (.slice P7 lx r7) ∧ w13.cell? ⟨g8, 0, none⟩ = some (.bool sy) ∧ w13.cell? ⟨g8, 1, none⟩ = some (.slice P8 ly r8) ∧ w13.cell? ⟨g9, 0, none⟩ = some (.bool bu) ∧ w13.cell? ⟨g9, 1, none⟩ = some (.slice Pu lu ku) ∧ w13.cell? ⟨g10, 0, none⟩ = some (.bool bv) ∧ w13.cell? ⟨g10, 1, none⟩ = some (.slice Pv lv kv) ∧ w13.cell? ⟨w.heap.size, 0, none⟩ = some (.bool sx) ∧ w13.cell? ⟨w.heap.size, 1, none⟩ = some (.slice Px lx kx) := ⟨(HBa.out.ext (((((((((hy4.out.trans hy5.out).trans hy6.out).trans hy7.out).trans hy8.out).trans hy9.out).trans hy10.out).trans hy11.out).trans hy12.out).trans hy13.out)).c0, (HBa.out.ext (((((((((hy4.out.trans hy5.out).trans hy6.out).trans hy7.out).trans hy8.out).trans hy9.out).trans hy10.out).trans hy11.out).trans hy12.out).trans hy13.out)).c1, (HBb.out.ext (((((((((hy4.out.trans hy5.out).trans hy6.out).trans hy7.out).trans hy8.out).trans hy9.out).trans hy10.out).trans hy11.out).trans hy12.out).trans hy13.out)).c0, (HBb.out.ext (((((((((hy4.out.trans hy5.out).trans hy6.out).trans hy7.out).trans hy8.out).trans hy9.out).trans hy10.out).trans hy11.out).trans hy12.out).trans hy13.out)).c1, (HBu.out.ext ((((((((hy5.out.trans hy6.out).trans hy7.out).trans hy8.out).trans hy9.out).trans hy10.out).trans hy11.out).trans hy12.out).trans hy13.out)).c0, (HBu.out.ext ((((((((hy5.out.trans hy6.out).trans hy7.out).trans hy8.out).trans hy9.out).trans hy10.out).trans hy11.out).trans hy12.out).trans hy13.out)).c1, (HBv.out.ext ((((((((hy5.out.trans hy6.out).trans hy7.out).trans hy8.out).trans hy9.out).trans hy10.out).trans hy11.out).trans hy12.out).trans hy13.out)).c0, (HBv.out.ext ((((((((hy5.out.trans hy6.out).trans hy7.out).trans hy8.out).trans hy9.out).trans hy10.out).trans hy11.out).trans hy12.out).trans hy13.out)).c1, (HBx.out.ext (((((((((((hy2.out.trans hy3.out).trans hy4.out).trans hy5.out).trans hy6.out).trans hy7.out).trans hy8.out).trans hy9.out).trans hy10.out).trans hy11.out).trans hy12.out).trans hy13.out)).c0, (HBx.out.ext (((((((((((hy2.out.trans hy3.out).trans hy4.out).trans hy5.out).trans hy6.out).trans hy7.out).trans hy8.out).trans hy9.out).trans hy10.out).trans hy11.out).trans hy12.out).trans hy13.out)).c1⟩)
      | ((go_at_call 31); (with_reducible refine (wmul_v (HIa.out.ext (((((((((hy4.out.trans hy5.out).trans hy6.out).trans hy7.out).trans hy8.out).trans hy9.out).trans hy10.out).trans hy11.out).trans hy12.out).trans hy13.out)) (HIb.out.ext (((((((((hy4.out.trans hy5.out).trans hy6.out).trans hy7.out).trans hy8.out).trans hy9.out).trans hy10.out).trans hy11.out).trans hy12.out).trans hy13.out)) (by omega)).mono ?_); rintro E14 w14 ⟨b14, A14, n14, c14, rfl, o14, hr14⟩; have O14 := hid o14; clear o14; have X14 := hid (X13.out.trans hr14); have hy14 := hid hr14; clear hr14; have hk14 : w14.cell? ⟨g7, 0, none⟩ = some (.bool sx) ∧ w14.cell? ⟨g7, 1, none⟩ = some (.slice P7 lx r7) ∧ w14.cell? ⟨g8, 0, none⟩ = some (.bool sy) ∧ w14.cell? ⟨g8, 1, none⟩ = some (.slice P8 ly r8) ∧ w14.cell? ⟨g9, 0, none⟩ = some (.bool bu) ∧ w14.cell? ⟨g9, 1, none⟩ = some (.slice Pu lu ku) ∧ w14.cell? ⟨g10, 0, none⟩ = some (.bool bv) ∧ w14.cell? ⟨g10, 1, none⟩ = some (.slice Pv lv kv) ∧ w14.cell? ⟨w.heap.size, 0, none⟩ = some (.bool sx) ∧ w14.cell? ⟨w.heap.size, 1, none⟩ = some (.slice Px lx kx) := ⟨(HBa.out.ext ((((((((((hy4.out.trans hy5.out).trans hy6.out).trans hy7.out).trans hy8.out).trans hy9.out).trans hy10.out).trans hy11.out).trans hy12.out).trans hy13.out).trans hy14.out)).c0, (HBa.out.ext ((((((((((hy4.out.trans hy5.out).trans hy6.out).trans hy7.out).trans hy8.out).trans hy9.out).trans hy10.out).trans hy11.out).trans hy12.out).trans hy13.out).trans hy14.out)).c1, (HBb.out.ext ((((((((((hy4.out.trans hy5.out).trans hy6.out).trans hy7.out).trans hy8.out).trans hy9.out).trans hy10.out).trans hy11.out).trans hy12.out).trans hy13.out).trans hy14.out)).c0, (HBb.out.ext ((((((((((hy4.out.trans hy5.out).trans hy6.out).trans hy7.out).trans hy8.out).trans hy9.out).trans hy10.out).trans hy11.out).trans hy12.out).trans hy13.out).trans hy14.out)).c1, (HBu.out.ext (((((((((hy5.out.trans hy6.out).trans hy7.out).trans hy8.out).trans hy9.out).trans hy10.out).trans hy11.out).trans hy12.out).trans hy13.out).trans hy14.out)).c0, (HBu.out.ext (((((((((hy5.out.trans hy6.out).trans hy7.out).trans hy8.out).trans hy9.out).trans hy10.out).trans hy11.out).trans hy12.out).trans hy13.out).trans hy14.out)).c1, (HBv.out.ext (((((((((hy5.out.trans hy6.out).trans hy7.out).trans hy8.out).trans hy9.out).trans hy10.out).trans hy11.out).trans hy12.out).trans hy13.out).trans hy14.out)).c0, (HBv.out.ext (((((((((hy5.out.trans hy6.out).trans hy7.out).trans hy8.out).trans hy9.out).trans hy10.out).trans hy11.out).trans hy12.out).trans hy13.out).trans hy14.out)).c1, (HBx.out.ext ((((((((((((hy2.out.trans hy3.out).trans hy4.out).trans hy5.out).trans hy6.out).trans hy7.out).trans hy8.out).trans hy9.out).trans hy10.out).trans hy11.out).trans hy12.out).trans hy13.out).trans hy14.out)).c0, (HBx.out.ext ((((((((((((hy2.out.trans hy3.out).trans hy4.out).trans hy5.out).trans hy6.out).trans hy7.out).trans hy8.out).trans hy9.out).trans hy10.out).trans hy11.out).trans hy12.out).trans hy13.out).trans hy14.out)).c1⟩)
      | ((go_at_call 24); (with_reducible refine (zmul_v (HOu.out.ext (((((((((hy5.out.trans hy6.out).trans hy7.out).trans hy8.out).trans hy9.out).trans hy10.out).trans hy11.out).trans hy12.out).trans hy13.out).trans hy14.out)) (HOv.out.ext (((((((((hy5.out.trans hy6.out).trans hy7.out).trans hy8.out).trans hy9.out).trans hy10.out).trans hy11.out).trans hy12.out).trans hy13.out).trans hy14.out)) (by omega)).mono ?_); rintro E15 w15 ⟨b15, A15, n15, c15, rfl, o15, hr15⟩; have O15 := hid o15; clear o15; have X15 := hid (X14.out.trans hr15); have hy15 := hid hr15; clear hr15; have hk15 : w15.cell? ⟨g7, 0, none⟩ = some (.bool sx) ∧ w15.cell? ⟨g7, 1, none⟩ = some (.slice P7 lx r7) ∧ w15.cell? ⟨g8, 0, none⟩ = some (.bool sy) ∧ w15.cell? ⟨g8, 1, none⟩ = some (.slice P8 ly r8) ∧ w15.cell? ⟨g9, 0, none⟩ = some (.bool bu) ∧ w15.cell? ⟨g9, 1, none⟩ = some (.slice Pu lu ku) ∧ w15.cell? ⟨g10, 0, none⟩ = some (.bool bv) ∧ w15.cell? ⟨g10, 1, none⟩ = some (.slice Pv lv kv) ∧ w15.cell? ⟨w.heap.size, 0, none⟩ = some (.bool sx) ∧ w15.cell? ⟨w.heap.size, 1, none⟩ = some (.slice Px lx kx) := ⟨(HBa.out.ext (((((((((((hy4.out.trans hy5.out).trans hy6.out).trans hy7.out).trans hy8.out).trans hy9.out).trans hy10.out).trans hy11.out).trans hy12.out).trans hy13.out).trans hy14.out).trans hy15.out)).c0, (HBa.out.ext (((((((((((hy4.out.trans hy5.out).trans hy6.out).trans hy7.out).trans hy8.out).trans hy9.out).trans hy10.out).trans hy11.out).trans hy12.out).trans hy13.out).trans hy14.out).trans hy15.out)).c1, (HBb.out.ext (((((((((((hy4.out.trans hy5.out).trans hy6.out).trans hy7.out).trans hy8.out).trans hy9.out).trans hy10.out).trans hy11.out).trans hy12.out).trans hy13.out).trans hy14.out).trans hy15.out)).c0, (HBb.out.ext (((((((((((hy4.out.trans hy5.out).trans hy6.out).trans hy7.out).trans hy8.out).trans hy9.out).trans hy10.out).trans hy11.out).trans hy12.out).trans hy13.out).trans hy14.out).trans hy15.out)).c1, (HBu.out.ext ((((((((((hy5.out.trans hy6.out).trans hy7.out).trans hy8.out).trans hy9.out).trans hy10.out).trans hy11.out).trans hy12.out).trans hy13.out).trans hy14.out).trans hy15.out)).c0, (HBu.out.ext ((((((((((hy5.out.trans hy6.out).trans hy7.out).trans hy8.out).trans hy9.out).trans hy10.out).trans hy11.out).trans hy12.out).trans hy13.out).trans hy14.out).trans hy15.out)).c1, (HBv.out.ext ((((((((((hy5.out.trans hy6.out).trans hy7.out).trans hy8.out).trans hy9.out).trans hy10.out).trans hy11.out).trans hy12.out).trans hy13.out).trans hy14.out).trans hy15.out)).c0, (HBv.out.ext ((((((((((hy5.out.trans hy6.out).trans hy7.out).trans hy8.out).trans hy9.out).trans hy10.out).trans hy11.out).trans hy12.out).trans hy13.out).trans hy14.out).trans hy15.out)).c1, (HBx.out.ext (((((((((((((hy2.out.trans hy3.out).trans hy4.out).trans hy5.out).trans hy6.out).trans hy7.out).trans hy8.out).trans hy9.out).trans hy10.out).trans hy11.out).trans hy12.out).trans hy13.out).trans hy14.out).trans hy15.out)).c0, (HBx.out.ext (((((((((((((hy2.out.trans hy3.out).trans hy4.out).trans hy5.out).trans hy6.out).trans hy7.out).trans hy8.out).trans hy9.out).trans hy10.out).trans hy11.out).trans hy12.out).trans hy13.out).trans hy14.out).trans hy15.out)).c1⟩)
      | ((go_at_call 19); (with_reducible refine (zint_v O15.out (by omega)).mono ?_); rintro E16 w16 ⟨b16, A16, n16, c16, rfl, o16, hr16⟩; have O16 := hid o16; clear o16; have X16 := hid (X15.out.trans hr16); have hy16 := hid hr16; clear hr16; have hk16 : w16.cell? ⟨g7, 0, none⟩ = some (.bool sx) ∧ w16.cell? ⟨g7, 1, none⟩ = some (.slice P7 lx r7) ∧ w16.cell? ⟨g8, 0, none⟩ = some (.bool sy) ∧ w16.cell? ⟨g8, 1, none⟩ = some (.slice P8 ly r8) ∧ w16.cell? ⟨g9, 0, none⟩ = some (.bool bu) ∧ w16.cell? ⟨g9, 1, none⟩ = some (.slice Pu lu ku) ∧ w16.cell? ⟨g10, 0, none⟩ = some (.bool bv) ∧ w16.cell? ⟨g10, 1, none⟩ = some (.slice Pv lv kv) ∧ w16.cell? ⟨w.heap.size, 0, none⟩ = some (.bool sx) ∧ w16.cell? ⟨w.heap.size, 1, none⟩ = some (.slice Px lx kx) := ⟨(HBa.out.ext ((((((((((((hy4.out.trans hy5.out).trans hy6.out).trans hy7.out).trans hy8.out).trans hy9.out).trans hy10.out).trans hy11.out).trans hy12.out).trans hy13.out).trans hy14.out).trans hy15.out).trans hy16.out)).c0, (HBa.out.ext ((((((((((((hy4.out.trans hy5.out).trans hy6.out).trans hy7.out).trans hy8.out).trans hy9.out).trans hy10.out).trans hy11.out).trans hy12.out).trans hy13.out).trans hy14.out).trans hy15.out).trans hy16.out)).c1, (HBb.out.ext ((((((((((((hy4.out.trans hy5.out).trans hy6.out).trans hy7.out).trans hy8.out).trans hy9.out).trans hy10.out).trans hy11.out).trans hy12.out).trans hy13.out).trans hy14.out).trans hy15.out).trans hy16.out)).c0, (HBb.out.ext ((((((((((((hy4.out.trans hy5.out).trans hy6.out).trans hy7.out).trans hy8.out).trans hy9.out).trans hy10.out).trans hy11.out).trans hy12.out).trans hy13.out).trans hy14.out).trans hy15.out).trans hy16.out)).c1, (HBu.out.ext (((((((((((hy5.out.trans hy6.out).trans hy7.out).trans hy8.out).trans hy9.out).trans hy10.out).trans hy11.out).trans hy12.out).trans hy13.out).trans hy14.out).trans hy15.out).trans hy16.out)).c0, (HBu.out.ext (((((((((((hy5.out.trans hy6.out).trans hy7.out).trans hy8.out).trans hy9.out).trans hy10.out).trans hy11.out).trans hy12.out).trans hy13.out).trans hy14.out).trans hy15.out).trans hy16.out)).c1, (HBv.out.ext (((((((((((hy5.out.trans hy6.out).trans hy7.out).trans hy8.out).trans hy9.out).trans hy10.out).trans hy11.out).trans hy12.out).trans hy13.out).trans hy14.out).trans hy15.out).trans hy16.out)).c0, (HBv.out.ext (((((((((((hy5.out.trans hy6.out).trans hy7.out).trans hy8.out).trans hy9.out).trans hy10.out).trans hy11.out).trans hy12.out).trans hy13.out).trans hy14.out).trans hy15.out).trans hy16.out)).c1, (HBx.out.ext ((((((((((((((hy2.out.trans hy3.out).trans hy4.out).trans hy5.out).trans hy6.out).trans hy7.out).trans hy8.out).trans hy9.out).trans hy10.out).trans hy11.out).trans hy12.out).trans hy13.out).trans hy14.out).trans hy15.out).trans hy16.out)).c0, (HBx.out.ext ((((((((((((((hy2.out.trans hy3.out).trans hy4.out).trans hy5.out).trans hy6.out).trans hy7.out).trans hy8.out).trans hy9.out).trans hy10.out).trans hy11.out).trans hy12.out).trans hy13.out).trans hy14.out).trans hy15.out).trans hy16.out)).c1⟩)
      | ((go_at_call 17); (with_reducible refine (zsame_v (O14.out.ext (hy15.out.trans hy16.out)) O16.out (by omega) rfl).mono ?_); rintro E17 w17 ⟨rfl, hr17⟩; have X17 := hid (X16.out.trans hr17); have hy17 := hid hr17; clear hr17; have hk17 : w17.cell? ⟨g7, 0, none⟩ = some (.bool sx) ∧ w17.cell? ⟨g7, 1, none⟩ = some (.slice P7 lx r7) ∧ w17.cell? ⟨g8, 0, none⟩ = some (.bool sy) ∧ w17.cell? ⟨g8, 1, none⟩ = some (.slice P8 ly r8) ∧ w17.cell? ⟨g9, 0, none⟩ = some (.bool bu) ∧ w17.cell? ⟨g9, 1, none⟩ = some (.slice Pu lu ku) ∧ w17.cell? ⟨g10, 0, none⟩ = some (.bool bv) ∧ w17.cell? ⟨g10, 1, none⟩ = some (.slice Pv lv kv) ∧ w17.cell? ⟨w.heap.size, 0, none⟩ = some (.bool sx) ∧ w17.cell? ⟨w.heap.size, 1, none⟩ = some (.slice Px lx kx) := ⟨(HBa.out.ext (((((((((((((hy4.out.trans hy5.out).trans hy6.out).trans hy7.out).trans hy8.out).trans hy9.out).trans hy10.out).trans hy11.out).trans hy12.out).trans hy13.out).trans hy14.out).trans hy15.out).trans hy16.out).trans hy17.out)).c0, (HBa.out.ext (((((((((((((hy4.out.trans hy5.out).trans hy6.out).trans hy7.out).trans hy8.out).trans hy9.out).trans hy10.out).trans hy11.out).trans hy12.out).trans hy13.out).trans hy14.out).trans hy15.out).trans hy16.out).trans hy17.out)).c1, (HBb.out.ext (((((((((((((hy4.out.trans hy5.out).trans hy6.out).trans hy7.out).trans hy8.out).trans hy9.out).trans hy10.out).trans hy11.out).trans hy12.out).trans hy13.out).trans hy14.out).trans hy15.out).trans hy16.out).trans hy17.out)).c0, (HBb.out.ext (((((((((((((hy4.out.trans hy5.out).trans hy6.out).trans hy7.out).trans hy8.out).trans hy9.out).trans hy10.out).trans hy11.out).trans hy12.out).trans hy13.out).trans hy14.out).trans hy15.out).trans hy16.out).trans hy17.out)).c1, (HBu.out.ext ((((((((((((hy5.out.trans hy6.out).trans hy7.out).trans hy8.out).trans hy9.out).trans hy10.out).trans hy11.out).trans hy12.out).trans hy13.out).trans hy14.out).trans hy15.out).trans hy16.out).trans hy17.out)).c0, (HBu.out.ext ((((((((((((hy5.out.trans hy6.out).trans hy7.out).trans hy8.out).trans hy9.out).trans hy10.out).trans hy11.out).trans hy12.out).trans hy13.out).trans hy14.out).trans hy15.out).trans hy16.out).trans hy17.out)).c1, (HBv.out.ext ((((((((((((hy5.out.trans hy6.out).trans hy7.out).trans hy8.out).trans hy9.out).trans hy10.out).trans hy11.out).trans hy12.out).trans hy13.out).trans hy14.out).trans hy15.out).trans hy16.out).trans hy17.out)).c0, (HBv.out.ext ((((((((((((hy5.out.trans hy6.out).trans hy7.out).trans hy8.out).trans hy9.out).trans hy10.out).trans hy11.out).trans hy12.out).trans hy13.out).trans hy14.out).trans hy15.out).trans hy16.out).trans hy17.out)).c1, (HBx.out.ext (((((((((((((((hy2.out.trans hy3.out).trans hy4.out).trans hy5.out).trans hy6.out).trans hy7.out).trans hy8.out).trans hy9.out).trans hy10.out).trans hy11.out).trans hy12.out).trans hy13.out).trans hy14.out).trans hy15.out).trans hy16.out).trans hy17.out)).c0, (HBx.out.ext (((((((((((((((hy2.out.trans hy3.out).trans hy4.out).trans hy5.out).trans hy6.out).trans hy7.out).trans hy8.out).trans hy9.out).trans hy10.out).trans hy11.out).trans hy12.out).trans hy13.out).trans hy14.out).trans hy15.out).trans hy16.out).trans hy17.out)).c1⟩)
      | ((go_at_call 43); (with_reducible refine (neg_v (HIa.out.ext (((((((((((((hy4.out.trans hy5.out).trans hy6.out).trans hy7.out).trans hy8.out).trans hy9.out).trans hy10.out).trans hy11.out).trans hy12.out).trans hy13.out).trans hy14.out).trans hy15.out).trans hy16.out).trans hy17.out)) (by omega)).mono ?_); rintro E18 w18 ⟨b18, A18, n18, c18, rfl, o18, hr18⟩; have O18 := hid o18; clear o18; have X18 := hid (X17.out.trans hr18); have hy18 := hid hr18; clear hr18; have hk18 : w18.cell? ⟨g7, 0, none⟩ = some (.bool sx) ∧ w18.cell? ⟨g7, 1, none⟩ = some (.slice P7 lx r7) ∧ w18.cell? ⟨g8, 0, none⟩ = some (.bool sy) ∧ w18.cell? ⟨g8, 1, none⟩ = some (.slice P8 ly r8) ∧ w18.cell? ⟨g9, 0, none⟩ = some (.bool bu) ∧ w18.cell? ⟨g9, 1, none⟩ = some (.slice Pu lu ku) ∧ w18.cell? ⟨g10, 0, none⟩ = some (.bool bv) ∧ w18.cell? ⟨g10, 1, none⟩ = some (.slice Pv lv kv) ∧ w18.cell? ⟨w.heap.size, 0, none⟩ = some (.bool sx) ∧ w18.cell? ⟨w.heap.size, 1, none⟩ = some (.slice Px lx kx) := ⟨(HBa.out.ext ((((((((((((((hy4.out.trans hy5.out).trans hy6.out).trans hy7.out).trans hy8.out).trans hy9.out).trans hy10.out).trans hy11.out).trans hy12.out).trans hy13.out).trans hy14.out).trans hy15.out).trans hy16.out).trans hy17.out).trans hy18.out)).c0, (HBa.out.ext ((((((((((((((hy4.out.trans hy5.out).trans hy6.out).trans hy7.out).trans hy8.out).trans hy9.out).trans hy10.out).trans hy11.out).trans hy12.out).trans hy13.out).trans hy14.out).trans hy15.out).trans hy16.out).trans hy17.out).trans hy18.out)).c1, (HBb.out.ext ((((((((((((((hy4.out.trans hy5.out).trans hy6.out).trans hy7.out).trans hy8.out).trans hy9.out).trans hy10.out).trans hy11.out).trans hy12.out).trans hy13.out).trans hy14.out).trans hy15.out).trans hy16.out).trans hy17.out).trans hy18.out)).c0, (HBb.out.ext ((((((((((((((hy4.out.trans hy5.out).trans hy6.out).trans hy7.out).trans hy8.out).trans hy9.out).trans hy10.out).trans hy11.out).trans hy12.out).trans hy13.out).trans hy14.out).trans hy15.out).trans hy16.out).trans hy17.out).trans hy18.out)).c1, (HBu.out.ext (((((((((((((hy5.out.trans hy6.out).trans hy7.out).trans hy8.out).trans hy9.out).trans hy10.out).trans hy11.out).trans hy12.out).trans hy13.out).trans hy14.out).trans hy15.out).trans hy16.out).trans hy17.out).trans hy18.out)).c0, (HBu.out.ext (((((((((((((hy5.out.trans hy6.out).trans hy7.out).trans hy8.out).trans hy9.out).trans hy10.out).trans hy11.out).trans hy12.out).trans hy13.out).trans hy14.out).trans hy15.out).trans hy16.out).trans hy17.out).trans hy18.out)).c1, (HBv.out.ext (((((((((((((hy5.out.trans hy6.out).trans hy7.out).trans hy8.out).trans hy9.out).trans hy10.out).trans hy11.out).trans hy12.out).trans hy13.out).trans hy14.out).trans hy15.out).trans hy16.out).trans hy17.out).trans hy18.out)).c0, (HBv.out.ext (((((((((((((hy5.out.trans hy6.out).trans hy7.out).trans hy8.out).trans hy9.out).trans hy10.out).trans hy11.out).trans hy12.out).trans hy13.out).trans hy14.out).trans hy15.out).trans hy16.out).trans hy17.out).trans hy18.out)).c1, (HBx.out.ext ((((((((((((((((hy2.out.trans hy3.out).trans hy4.out).trans hy5.out).trans hy6.out).trans hy7.out).trans hy8.out).trans hy9.out).trans hy10.out).trans hy11.out).trans hy12.out).trans hy13.out).trans hy14.out).trans hy15.out).trans hy16.out).trans hy17.out).trans hy18.out)).c0, (HBx.out.ext ((((((((((((((((hy2.out.trans hy3.out).trans hy4.out).trans hy5.out).trans hy6.out).trans hy7.out).trans hy8.out).trans hy9.out).trans hy10.out).trans hy11.out).trans hy12.out).trans hy13.out).trans hy14.out).trans hy15.out).trans hy16.out).trans hy17.out).trans hy18.out)).c1⟩)
      | ((go_at_call 28); (with_reducible refine (zneg_v (HOu.out.ext (((((((((((((hy5.out.trans hy6.out).trans hy7.out).trans hy8.out).trans hy9.out).trans hy10.out).trans hy11.out).trans hy12.out).trans hy13.out).trans hy14.out).trans hy15.out).trans hy16.out).trans hy17.out).trans hy18.out))).mono ?_); rintro E19 w19 ⟨b19, A19, n19, c19, rfl, o19, hr19⟩; have O19 := hid o19; clear o19; have X19 := hid (X18.out.trans hr19); have hy19 := hid hr19; clear hr19; have hk19 : w19.cell? ⟨g7, 0, none⟩ = some (.bool sx) ∧ w19.cell? ⟨g7, 1, none⟩ = some (.slice P7 lx r7) ∧ w19.cell? ⟨g8, 0, none⟩ = some (.bool sy) ∧ w19.cell? ⟨g8, 1, none⟩ = some (.slice P8 ly r8) ∧ w19.cell? ⟨g9, 0, none⟩ = some (.bool bu) ∧ w19.cell? ⟨g9, 1, none⟩ = some (.slice Pu lu ku) ∧ w19.cell? ⟨g10, 0, none⟩ = some (.bool bv) ∧ w19.cell? ⟨g10, 1, none⟩ = some (.slice Pv lv kv) ∧ w19.cell? ⟨w.heap.size, 0, none⟩ = some (.bool sx) ∧ w19.cell? ⟨w.heap.size, 1, none⟩ = some (.slice Px lx kx) := ⟨(HBa.out.ext (((((((((((((((hy4.out.trans hy5.out).trans hy6.out).trans hy7.out).trans hy8.out).trans hy9.out).trans hy10.out).trans hy11.out).trans hy12.out).trans hy13.out).trans hy14.out).trans hy15.out).trans hy16.out).trans hy17.out).trans hy18.out).trans hy19.out)).c0, (HBa.out.ext (((((((((((((((hy4.out.trans hy5.out).trans hy6.out).trans hy7.out).trans hy8.out).trans hy9.out).trans hy10.out).trans hy11.out).trans hy12.out).trans hy13.out).trans hy14.out).trans hy15.out).trans hy16.out).trans hy17.out).trans hy18.out).trans hy19.out)).c1, (HBb.out.ext (((((((((((((((hy4.out.trans hy5.out).trans hy6.out).trans hy7.out).trans hy8.out).trans hy9.out).trans hy10.out).trans hy11.out).trans hy12.out).trans hy13.out).trans hy14.out).trans hy15.out).trans hy16.out).trans hy17.out).trans hy18.out).trans hy19.out)).c0, (HBb.out.ext (((((((((((((((hy4.out.trans hy5.out).trans hy6.out).trans hy7.out).trans hy8.out).trans hy9.out).trans hy10.out).trans hy11.out).trans hy12.out).trans hy13.out).trans hy14.out).trans hy15.out).trans hy16.out).trans hy17.out).trans hy18.out).trans hy19.out)).c1, (HBu.out.ext ((((((((((((((hy5.out.trans hy6.out).trans hy7.out).trans hy8.out).trans hy9.out).trans hy10.out).trans hy11.out).trans hy12.out).trans hy13.out).trans hy14.out).trans hy15.out).trans hy16.out).trans hy17.out).trans hy18.out).trans hy19.out)).c0, (HBu.out.ext ((((((((((((((hy5.out.trans hy6.out).trans hy7.out).trans hy8.out).trans hy9.out).trans hy10.out).trans hy11.out).trans hy12.out).trans hy13.out).trans hy14.out).trans hy15.out).trans hy16.out).trans hy17.out).trans hy18.out).trans hy19.out)).c1, (HBv.out.ext ((((((((((((((hy5.out.trans hy6.out).trans hy7.out).trans hy8.out).trans hy9.out).trans hy10.out).trans hy11.out).trans hy12.out).trans hy13.out).trans hy14.out).trans hy15.out).trans hy16.out).trans hy17.out).trans hy18.out).trans hy19.out)).c0, (HBv.out.ext ((((((((((((((hy5.out.trans hy6.out).trans hy7.out).trans hy8.out).trans hy9.out).trans hy10.out).trans hy11.out).trans hy12.out).trans hy13.out).trans hy14.out).trans hy15.out).trans hy16.out).trans hy17.out).trans hy18.out).trans hy19.out)).c1, (HBx.out.ext (((((((((((((((((hy2.out.trans hy3.out).trans hy4.out).trans hy5.out).trans hy6.out).trans hy7.out).trans hy8.out).trans hy9.out).trans hy10.out).trans hy11.out).trans hy12.out).trans hy13.out).trans hy14.out).trans hy15.out).trans hy16.out).trans hy17.out).trans hy18.out).trans hy19.out)).c0, (HBx.out.ext (((((((((((((((((hy2.out.trans hy3.out).trans hy4.out).trans hy5.out).trans hy6.out).trans hy7.out).trans hy8.out).trans hy9.out).trans hy10.out).trans hy11.out).trans hy12.out).trans hy13.out).trans hy14.out).trans hy15.out).trans hy16.out).trans hy17.out).trans hy18.out).trans hy19.out)).c1⟩)
      | ((go_at_call 19); (with_reducible refine (zint_v O19.out (by omega)).mono ?_); rintro E20 w20 ⟨b20, A20, n20, c20, rfl, o20, hr20⟩; have O20 := hid o20; clear o20; have X20 := hid (X19.out.trans hr20); have hy20 := hid hr20; clear hr20; have hk20 : w20.cell? ⟨g7, 0, none⟩ = some (.bool sx) ∧ w20.cell? ⟨g7, 1, none⟩ = some (.slice P7 lx r7) ∧ w20.cell? ⟨g8, 0, none⟩ = some (.bool sy) ∧ w20.cell? ⟨g8, 1, none⟩ = some (.slice P8 ly r8) ∧ w20.cell? ⟨g9, 0, none⟩ = some (.bool bu) ∧ w20.cell? ⟨g9, 1, none⟩ = some (.slice Pu lu ku) ∧ w20.cell? ⟨g10, 0, none⟩ = some (.bool bv) ∧ w20.cell? ⟨g10, 1, none⟩ = some (.slice Pv lv kv) ∧ w20.cell? ⟨w.heap.size, 0, none⟩ = some (.bool sx) ∧ w20.cell? ⟨w.heap.size, 1, none⟩ = some (.slice Px lx kx) := ⟨(HBa.out.ext ((((((((((((((((hy4.out.trans hy5.out).trans hy6.out).trans hy7.out).trans hy8.out).trans hy9.out).trans hy10.out).trans hy11.out).trans hy12.out).trans hy13.out).trans hy14.out).trans hy15.out).trans hy16.out).trans hy17.out).trans hy18.out).trans hy19.out).trans hy20.out)).c0, (HBa.out.ext ((((((((((((((((hy4.out.trans hy5.out).trans hy6.out).trans hy7.out).trans hy8.out).trans hy9.out).trans hy10.out).trans hy11.out).trans hy12.out).trans hy13.out).trans hy14.out).trans hy15.out).trans hy16.out).trans hy17.out).trans hy18.out).trans hy19.out).trans hy20.out)).c1, (HBb.out.ext ((((((((((((((((hy4.out.trans hy5.out).trans hy6.out).trans hy7.out).trans hy8.out).trans hy9.out).trans hy10.out).trans hy11.out).trans hy12.out).trans hy13.out).trans hy14.out).trans hy15.out).trans hy16.out).trans hy17.out).trans hy18.out).trans hy19.out).trans hy20.out)).c0, (HBb.out.ext ((((((((((((((((hy4.out.trans hy5.out).trans hy6.out).trans hy7.out).trans hy8.out).trans hy9.out).trans hy10.out).trans hy11.out).trans hy12.out).trans hy13.out).trans hy14.out).trans hy15.out).trans hy16.out).trans hy17.out).trans hy18.out).trans hy19.out).trans hy20.out)).c1, (HBu.out.ext (((((((((((((((hy5.out.trans hy6.out).trans hy7.out).trans hy8.out).trans hy9.out).trans hy10.out).trans hy11.out).trans hy12.out).trans hy13.out).trans hy14.out).trans hy15.out).trans hy16.out).trans hy17.out).trans hy18.out).trans hy19.out).trans hy20.out)).c0, (HBu.out.ext (((((((((((((((hy5.out.trans hy6.out).trans hy7.out).trans hy8.out).trans hy9.out).trans hy10.out).trans hy11.out).trans hy12.out).trans hy13.out).trans hy14.out).trans hy15.out).trans hy16.out).trans hy17.out).trans hy18.out).trans hy19.out).trans hy20.out)).c1, (HBv.out.ext (((((((((((((((hy5.out.trans hy6.out).trans hy7.out).trans hy8.out).trans hy9.out).trans hy10.out).trans hy11.out).trans hy12.out).trans hy13.out).trans hy14.out).trans hy15.out).trans hy16.out).trans hy17.out).trans hy18.out).trans hy19.out).trans hy20.out)).c0, (HBv.out.ext (((((((((((((((hy5.out.trans hy6.out).trans hy7.out).trans hy8.out).trans hy9.out).trans hy10.out).trans hy11.out).trans hy12.out).trans hy13.out).trans hy14.out).trans hy15.out).trans hy16.out).trans hy17.out).trans hy18.out).trans hy19.out).trans hy20.out)).c1, (HBx.out.ext ((((((((((((((((((hy2.out.trans hy3.out).trans hy4.out).trans hy5.out).trans hy6.out).trans hy7.out).trans hy8.out).trans hy9.out).trans hy10.out).trans hy11.out).trans hy12.out).trans hy13.out).trans hy14.out).trans hy15.out).trans hy16.out).trans hy17.out).trans hy18.out).trans hy19.out).trans hy20.out)).c0, (HBx.out.ext ((((((((((((((((((hy2.out.trans hy3.out).trans hy4.out).trans hy5.out).trans hy6.out).trans hy7.out).trans hy8.out).trans hy9.out).trans hy10.out).trans hy11.out).trans hy12.out).trans hy13.out).trans hy14.out).trans hy15.out).trans hy16.out).trans hy17.out).trans hy18.out).trans hy19.out).trans hy20.out)).c1⟩)
      | ((go_at_call 17); (with_reducible refine (zsame_v (O18.out.ext (hy19.out.trans hy20.out)) O20.out (by omega) rfl).mono ?_); rintro E21 w21 ⟨rfl, hr21⟩; have X21 := hid (X20.out.trans hr21); have hy21 := hid hr21; clear hr21; have hk21 : w21.cell? ⟨g7, 0, none⟩ = some (.bool sx) ∧ w21.cell? ⟨g7, 1, none⟩ = some (.slice P7 lx r7) ∧ w21.cell? ⟨g8, 0, none⟩ = some (.bool sy) ∧ w21.cell? ⟨g8, 1, none⟩ = some (.slice P8 ly r8) ∧ w21.cell? ⟨g9, 0, none⟩ = some (.bool bu) ∧ w21.cell? ⟨g9, 1, none⟩ = some (.slice Pu lu ku) ∧ w21.cell? ⟨g10, 0, none⟩ = some (.bool bv) ∧ w21.cell? ⟨g10, 1, none⟩ = some (.slice Pv lv kv) ∧ w21.cell? ⟨w.heap.size, 0, none⟩ = some (.bool sx) ∧ w21.cell? ⟨w.heap.size, 1, none⟩ = some (.slice Px lx kx) := ⟨(HBa.out.ext (((((((((((((((((hy4.out.trans hy5.out).trans hy6.out).trans hy7.out).trans hy8.out).trans hy9.out).trans hy10.out).trans hy11.out).trans hy12.out).trans hy13.out).trans hy14.out).trans hy15.out).trans hy16.out).trans hy17.out).trans hy18.out).trans hy19.out).trans hy20.out).trans hy21.out)).c0, (HBa.out.ext (((((((((((((((((hy4.out.trans hy5.out).trans hy6.out).trans hy7.out).trans hy8.out).trans hy9.out).trans hy10.out).trans hy11.out).trans hy12.out).trans hy13.out).trans hy14.out).trans hy15.out).trans hy16.out).trans hy17.out).trans hy18.out).trans hy19.out).trans hy20.out).trans hy21.out)).c1, (HBb.out.ext (((((((((((((((((hy4.out.trans hy5.out).trans hy6.out).trans hy7.out).trans hy8.out).trans hy9.out).trans hy10.out).trans hy11.out).trans hy12.out).trans hy13.out).trans hy14.out).trans hy15.out).trans hy16.out).trans hy17.out).trans hy18.out).trans hy19.out).trans hy20.out).trans hy21.out)).c0, (HBb.out.ext (((((((((((((((((hy4.out.trans hy5.out).trans hy6.out).trans hy7.out).trans hy8.out).trans hy9.out).trans hy10.out).trans hy11.out).trans hy12.out).trans hy13.out).trans hy14.out).trans hy15.out).trans hy16.out).trans hy17.out).trans hy18.out).trans hy19.out).trans hy20.out).trans hy21.out)).c1, (HBu.out.ext ((((((((((((((((hy5.out.trans hy6.out).trans hy7.out).trans hy8.out).trans hy9.out).trans hy10.out).trans hy11.out).trans hy12.out).trans hy13.out).trans hy14.out).trans hy15.out).trans hy16.out).trans hy17.out).trans hy18.out).trans hy19.out).trans hy20.out).trans hy21.out)).c0, (HBu.out.ext ((((((((((((((((hy5.out.trans hy6.out).trans hy7.out).trans hy8.out).trans hy9.out).trans hy10.out).trans hy11.out).trans hy12.out).trans hy13.out).trans hy14.out).trans hy15.out).trans hy16.out).trans hy17.out).trans hy18.out).trans hy19.out).trans hy20.out).trans hy21.out)).c1, (HBv.out.ext ((((((((((((((((hy5.out.trans hy6.out).trans hy7.out).trans hy8.out).trans hy9.out).trans hy10.out).trans hy11.out).trans hy12.out).trans hy13.out).trans hy14.out).trans hy15.out).trans hy16.out).trans hy17.out).trans hy18.out).trans hy19.out).trans hy20.out).trans hy21.out)).c0, (HBv.out.ext ((((((((((((((((hy5.out.trans hy6.out).trans hy7.out).trans hy8.out).trans hy9.out).trans hy10.out).trans hy11.out).trans hy12.out).trans hy13.out).trans hy14.out).trans hy15.out).trans hy16.out).trans hy17.out).trans hy18.out).trans hy19.out).trans hy20.out).trans hy21.out)).c1, (HBx.out.ext (((((((((((((((((((hy2.out.trans hy3.out).trans hy4.out).trans hy5.out).trans hy6.out).trans hy7.out).trans hy8.out).trans hy9.out).trans hy10.out).trans hy11.out).trans hy12.out).trans hy13.out).trans hy14.out).trans hy15.out).trans hy16.out).trans hy17.out).trans hy18.out).trans hy19.out).trans hy20.out).trans hy21.out)).c0, (HBx.out.ext (((((((((((((((((((hy2.out.trans hy3.out).trans hy4.out).trans hy5.out).trans hy6.out).trans hy7.out).trans hy8.out).trans hy9.out).trans hy10.out).trans hy11.out).trans hy12.out).trans hy13.out).trans hy14.out).trans hy15.out).trans hy16.out).trans hy17.out).trans hy18.out).trans hy19.out).trans hy20.out).trans hy21.out)).c1⟩)
      | ((go_at_call 32); (with_reducible refine (sign_is (HIa.out.ext (((((((((((((((((hy4.out.trans hy5.out).trans hy6.out).trans hy7.out).trans hy8.out).trans hy9.out).trans hy10.out).trans hy11.out).trans hy12.out).trans hy13.out).trans hy14.out).trans hy15.out).trans hy16.out).trans hy17.out).trans hy18.out).trans hy19.out).trans hy20.out).trans hy21.out)) (by omega) hC.out).mono ?_); rintro E22 w22 ⟨rfl, hr22⟩; have X22 := hid (X21.out.trans hr22); have hy22 := hid hr22; clear hr22; have hk22 : w22.cell? ⟨g7, 0, none⟩ = some (.bool sx) ∧ w22.cell? ⟨g7, 1, none⟩ = some (.slice P7 lx r7) ∧ w22.cell? ⟨g8, 0, none⟩ = some (.bool sy) ∧ w22.cell? ⟨g8, 1, none⟩ = some (.slice P8 ly r8) ∧ w22.cell? ⟨g9, 0, none⟩ = some (.bool bu) ∧ w22.cell? ⟨g9, 1, none⟩ = some (.slice Pu lu ku) ∧ w22.cell? ⟨g10, 0, none⟩ = some (.bool bv) ∧ w22.cell? ⟨g10, 1, none⟩ = some (.slice Pv lv kv) ∧ w22.cell? ⟨w.heap.size, 0, none⟩ = some (.bool sx) ∧ w22.cell? ⟨w.heap.size, 1, none⟩ = some (.slice Px lx kx) := ⟨(HBa.out.ext ((((((((((((((((((hy4.out.trans hy5.out).trans hy6.out).trans hy7.out).trans hy8.out).trans hy9.out).trans hy10.out).trans hy11.out).trans hy12.out).trans hy13.out).trans hy14.out).trans hy15.out).trans hy16.out).trans hy17.out).trans hy18.out).trans hy19.out).trans hy20.out).trans hy21.out).trans hy22.out)).c0, (HBa.out.ext ((((((((((((((((((hy4.out.trans hy5.out).trans hy6.out).trans hy7.out).trans hy8.out).trans hy9.out).trans hy10.out).trans hy11.out).trans hy12.out).trans hy13.out).trans hy14.out).trans hy15.out).trans hy16.out).trans hy17.out).trans hy18.out).trans hy19.out).trans hy20.out).trans hy21.out).trans hy22.out)).c1, (HBb.out.ext ((((((((((((((((((hy4.out.trans hy5.out).trans hy6.out).trans hy7.out).trans hy8.out).trans hy9.out).trans hy10.out).trans hy11.out).trans hy12.out).trans hy13.out).trans hy14.out).trans hy15.out).trans hy16.out).trans hy17.out).trans hy18.out).trans hy19.out).trans hy20.out).trans hy21.out).trans hy22.out)).c0, (HBb.out.ext ((((((((((((((((((hy4.out.trans hy5.out).trans hy6.out).trans hy7.out).trans hy8.out).trans hy9.out).trans hy10.out).trans hy11.out).trans hy12.out).trans hy13.out).trans hy14.out).trans hy15.out).trans hy16.out).trans hy17.out).trans hy18.out).trans hy19.out).trans hy20.out).trans hy21.out).trans hy22.out)).c1, (HBu.out.ext (((((((((((((((((hy5.out.trans hy6.out).trans hy7.out).trans hy8.out).trans hy9.out).trans hy10.out).trans hy11.out).trans hy12.out).trans hy13.out).trans hy14.out).trans hy15.out).trans hy16.out).trans hy17.out).trans hy18.out).trans hy19.out).trans hy20.out).trans hy21.out).trans hy22.out)).c0, (HBu.out.ext (((((((((((((((((hy5.out.trans hy6.out).trans hy7.out).trans hy8.out).trans hy9.out).trans hy10.out).trans hy11.out).trans hy12.out).trans hy13.out).trans hy14.out).trans hy15.out).trans hy16.out).trans hy17.out).trans hy18.out).trans hy19.out).trans hy20.out).trans hy21.out).trans hy22.out)).c1, (HBv.out.ext (((((((((((((((((hy5.out.trans hy6.out).trans hy7.out).trans hy8.out).trans hy9.out).trans hy10.out).trans hy11.out).trans hy12.out).trans hy13.out).trans hy14.out).trans hy15.out).trans hy16.out).trans hy17.out).trans hy18.out).trans hy19.out).trans hy20.out).trans hy21.out).trans hy22.out)).c0, (HBv.out.ext (((((((((((((((((hy5.out.trans hy6.out).trans hy7.out).trans hy8.out).trans hy9.out).trans hy10.out).trans hy11.out).trans hy12.out).trans hy13.out).trans hy14.out).trans hy15.out).trans hy16.out).trans hy17.out).trans hy18.out).trans hy19.out).trans hy20.out).trans hy21.out).trans hy22.out)).c1, (HBx.out.ext ((((((((((((((((((((hy2.out.trans hy3.out).trans hy4.out).trans hy5.out).trans hy6.out).trans hy7.out).trans hy8.out).trans hy9.out).trans hy10.out).trans hy11.out).trans hy12.out).trans hy13.out).trans hy14.out).trans hy15.out).trans hy16.out).trans hy17.out).trans hy18.out).trans hy19.out).trans hy20.out).trans hy21.out).trans hy22.out)).c0, (HBx.out.ext ((((((((((((((((((((hy2.out.trans hy3.out).trans hy4.out).trans hy5.out).trans hy6.out).trans hy7.out).trans hy8.out).trans hy9.out).trans hy10.out).trans hy11.out).trans hy12.out).trans hy13.out).trans hy14.out).trans hy15.out).trans hy16.out).trans hy17.out).trans hy18.out).trans hy19.out).trans hy20.out).trans hy21.out).trans hy22.out)).c1⟩)
      | ((go_at_call 22); (with_reducible refine (zsign_is (HOu.out.ext (((((((((((((((((hy5.out.trans hy6.out).trans hy7.out).trans hy8.out).trans hy9.out).trans hy10.out).trans hy11.out).trans hy12.out).trans hy13.out).trans hy14.out).trans hy15.out).trans hy16.out).trans hy17.out).trans hy18.out).trans hy19.out).trans hy20.out).trans hy21.out).trans hy22.out)) hC.out).mono ?_); rintro E23 w23 ⟨rfl, hr23⟩; have X23 := hid (X22.out.trans hr23); have hy23 := hid hr23; clear hr23; have hk23 : w23.cell? ⟨g7, 0, none⟩ = some (.bool sx) ∧ w23.cell? ⟨g7, 1, none⟩ = some (.slice P7 lx r7) ∧ w23.cell? ⟨g8, 0, none⟩ = some (.bool sy) ∧ w23.cell? ⟨g8, 1, none⟩ = some (.slice P8 ly r8) ∧ w23.cell? ⟨g9, 0, none⟩ = some (.bool bu) ∧ w23.cell? ⟨g9, 1, none⟩ = some (.slice Pu lu ku) ∧ w23.cell? ⟨g10, 0, none⟩ = some (.bool bv) ∧ w23.cell? ⟨g10, 1, none⟩ = some (.slice Pv lv kv) ∧ w23.cell? ⟨w.heap.size, 0, none⟩ = some (.bool sx) ∧ w23.cell? ⟨w.heap.size, 1, none⟩ = some (.slice Px lx kx) := ⟨(HBa.out.ext (((((((((((((((((((hy4.out.trans hy5.out).trans hy6.out).trans hy7.out).trans hy8.out).trans hy9.out).trans hy10.out).trans hy11.out).trans hy12.out).trans hy13.out).trans hy14.out).trans hy15.out).trans hy16.out).trans hy17.out).trans hy18.out).trans hy19.out).trans hy20.out).trans hy21.out).trans hy22.out).trans hy23.out)).c0, (HBa.out.ext (((((((((((((((((((hy4.out.trans hy5.out).trans hy6.out).trans hy7.out).trans hy8.out).trans hy9.out).trans hy10.out).trans hy11.out).trans hy12.out).trans hy13.out).trans hy14.out).trans hy15.out).trans hy16.out).trans hy17.out).trans hy18.out).trans hy19.out).trans hy20.out).trans hy21.out).trans hy22.out).trans hy23.out)).c1, (HBb.out.ext (((((((((((((((((((hy4.out.trans hy5.out).trans hy6.out).trans hy7.out).trans hy8.out).trans hy9.out).trans hy10.out).trans hy11.out).trans hy12.out).trans hy13.out).trans hy14.out).trans hy15.out).trans hy16.out).trans hy17.out).trans hy18.out).trans hy19.out).trans hy20.out).trans hy21.out).trans hy22.out).trans hy23.out)).c0, (HBb.out.ext (((((((((((((((((((hy4.out.trans hy5.out).trans hy6.out).trans hy7.out).trans hy8.out).trans hy9.out).trans hy10.out).trans hy11.out).trans hy12.out).trans hy13.out).trans hy14.out).trans hy15.out).trans hy16.out).trans hy17.out).trans hy18.out).trans hy19.out).trans hy20.out).trans hy21.out).trans hy22.out).trans hy23.out)).c1, (HBu.out.ext ((((((((((((((((((hy5.out.trans hy6.out).trans hy7.out).trans hy8.out).trans hy9.out).trans hy10.out).trans hy11.out).trans hy12.out).trans hy13.out).trans hy14.out).trans hy15.out).trans hy16.out).trans hy17.out).trans hy18.out).trans hy19.out).trans hy20.out).trans hy21.out).trans hy22.out).trans hy23.out)).c0, (HBu.out.ext ((((((((((((((((((hy5.out.trans hy6.out).trans hy7.out).trans hy8.out).trans hy9.out).trans hy10.out).trans hy11.out).trans hy12.out).trans hy13.out).trans hy14.out).trans hy15.out).trans hy16.out).trans hy17.out).trans hy18.out).trans hy19.out).trans hy20.out).trans hy21.out).trans hy22.out).trans hy23.out)).c1, (HBv.out.ext ((((((((((((((((((hy5.out.trans hy6.out).trans hy7.out).trans hy8.out).trans hy9.out).trans hy10.out).trans hy11.out).trans hy12.out).trans hy13.out).trans hy14.out).trans hy15.out).trans hy16.out).trans hy17.out).trans hy18.out).trans hy19.out).trans hy20.out).trans hy21.out).trans hy22.out).trans hy23.out)).c0, (HBv.out.ext ((((((((((((((((((hy5.out.trans hy6.out).trans hy7.out).trans hy8.out).trans hy9.out).trans hy10.out).trans hy11.out).trans hy12.out).trans hy13.out).trans hy14.out).trans hy15.out).trans hy16.out).trans hy17.out).trans hy18.out).trans hy19.out).trans hy20.out).trans hy21.out).trans hy22.out).trans hy23.out)).c1, (HBx.out.ext (((((((((((((((((((((hy2.out.trans hy3.out).trans hy4.out).trans hy5.out).trans hy6.out).trans hy7.out).trans hy8.out).trans hy9.out).trans hy10.out).trans hy11.out).trans hy12.out).trans hy13.out).trans hy14.out).trans hy15.out).trans hy16.out).trans hy17.out).trans hy18.out).trans hy19.out).trans hy20.out).trans hy21.out).trans hy22.out).trans hy23.out)).c0, (HBx.out.ext (((((((((((((((((((((hy2.out.trans hy3.out).trans hy4.out).trans hy5.out).trans hy6.out).trans hy7.out).trans hy8.out).trans hy9.out).trans hy10.out).trans hy11.out).trans hy12.out).trans hy13.out).trans hy14.out).trans hy15.out).trans hy16.out).trans hy17.out).trans hy18.out).trans hy19.out).trans hy20.out).trans hy21.out).trans hy22.out).trans hy23.out)).c1⟩)
      | ((go_at_call 42); (with_reducible refine (wcmp_is (HIa.out.ext (((((((((((((((((((hy4.out.trans hy5.out).trans hy6.out).trans hy7.out).trans hy8.out).trans hy9.out).trans hy10.out).trans hy11.out).trans hy12.out).trans hy13.out).trans hy14.out).trans hy15.out).trans hy16.out).trans hy17.out).trans hy18.out).trans hy19.out).trans hy20.out).trans hy21.out).trans hy22.out).trans hy23.out)) (HIb.out.ext (((((((((((((((((((hy4.out.trans hy5.out).trans hy6.out).trans hy7.out).trans hy8.out).trans hy9.out).trans hy10.out).trans hy11.out).trans hy12.out).trans hy13.out).trans hy14.out).trans hy15.out).trans hy16.out).trans hy17.out).trans hy18.out).trans hy19.out).trans hy20.out).trans hy21.out).trans hy22.out).trans hy23.out)) (by omega) hE.out).mono ?_); rintro E24 w24 ⟨rfl, hr24⟩; have X24 := hid (X23.out.trans hr24); have hy24 := hid hr24; clear hr24; have hk24 : w24.cell? ⟨g7, 0, none⟩ = some (.bool sx) ∧ w24.cell? ⟨g7, 1, none⟩ = some (.slice P7 lx r7) ∧ w24.cell? ⟨g8, 0, none⟩ = some (.bool sy) ∧ w24.cell? ⟨g8, 1, none⟩ = some (.slice P8 ly r8) ∧ w24.cell? ⟨g9, 0, none⟩ = some (.bool bu) ∧ w24.cell? ⟨g9, 1, none⟩ = some (.slice Pu lu ku) ∧ w24.cell? ⟨g10, 0, none⟩ = some (.bool bv) ∧ w24.cell? ⟨g10, 1, none⟩ = some (.slice Pv lv kv) ∧ w24.cell? ⟨w.heap.size, 0, none⟩ = some (.bool sx) ∧ w24.cell? ⟨w.heap.size, 1, none⟩ = some (.slice Px lx kx) := ⟨(HBa.out.ext ((((((((((((((((((((hy4.out.trans hy5.out).trans hy6.out).trans hy7.out).trans hy8.out).trans hy9.out).trans hy10.out).trans hy11.out).trans hy12.out).trans hy13.out).trans hy14.out).trans hy15.out).trans hy16.out).trans hy17.out).trans hy18.out).trans hy19.out).trans hy20.out).trans hy21.out).trans hy22.out).trans hy23.out).trans hy24.out)).c0, (HBa.out.ext ((((((((((((((((((((hy4.out.trans hy5.out).trans hy6.out).trans hy7.out).trans hy8.out).trans hy9.out).trans hy10.out).trans hy11.out).trans hy12.out).trans hy13.out).trans hy14.out).trans hy15.out).trans hy16.out).trans hy17.out).trans hy18.out).trans hy19.out).trans hy20.out).trans hy21.out).trans hy22.out).trans hy23.out).trans hy24.out)).c1, (HBb.out.ext ((((((((((((((((((((hy4.out.trans hy5.out).trans hy6.out).trans hy7.out).trans hy8.out).trans hy9.out).trans hy10.out).trans hy11.out).trans hy12.out).trans hy13.out).trans hy14.out).trans hy15.out).trans hy16.out).trans hy17.out).trans hy18.out).trans hy19.out).trans hy20.out).trans hy21.out).trans hy22.out).trans hy23.out).trans hy24.out)).c0, (HBb.out.ext ((((((((((((((((((((hy4.out.trans hy5.out).trans hy6.out).trans hy7.out).trans hy8.out).trans hy9.out).trans hy10.out).trans hy11.out).trans hy12.out).trans hy13.out).trans hy14.out).trans hy15.out).trans hy16.out).trans hy17.out).trans hy18.out).trans hy19.out).trans hy20.out).trans hy21.out).trans hy22.out).trans hy23.out).trans hy24.out)).c1, (HBu.out.ext (((((((((((((((((((hy5.out.trans hy6.out).trans hy7.out).trans hy8.out).trans hy9.out).trans hy10.out).trans hy11.out).trans hy12.out).trans hy13.out).trans hy14.out).trans hy15.out).trans hy16.out).trans hy17.out).trans hy18.out).trans hy19.out).trans hy20.out).trans hy21.out).trans hy22.out).trans hy23.out).trans hy24.out)).c0, (HBu.out.ext (((((((((((((((((((hy5.out.trans hy6.out).trans hy7.out).trans hy8.out).trans hy9.out).trans hy10.out).trans hy11.out).trans hy12.out).trans hy13.out).trans hy14.out).trans hy15.out).trans hy16.out).trans hy17.out).trans hy18.out).trans hy19.out).trans hy20.out).trans hy21.out).trans hy22.out).trans hy23.out).trans hy24.out)).c1, (HBv.out.ext (((((((((((((((((((hy5.out.trans hy6.out).trans hy7.out).trans hy8.out).trans hy9.out).trans hy10.out).trans hy11.out).trans hy12.out).trans hy13.out).trans hy14.out).trans hy15.out).trans hy16.out).trans hy17.out).trans hy18.out).trans hy19.out).trans hy20.out).trans hy21.out).trans hy22.out).trans hy23.out).trans hy24.out)).c0, (HBv.out.ext (((((((((((((((((((hy5.out.trans hy6.out).trans hy7.out).trans hy8.out).trans hy9.out).trans hy10.out).trans hy11.out).trans hy12.out).trans hy13.out).trans hy14.out).trans hy15.out).trans hy16.out).trans hy17.out).trans hy18.out).trans hy19.out).trans hy20.out).trans hy21.out).trans hy22.out).trans hy23.out).trans hy24.out)).c1, (HBx.out.ext ((((((((((((((((((((((hy2.out.trans hy3.out).trans hy4.out).trans hy5.out).trans hy6.out).trans hy7.out).trans hy8.out).trans hy9.out).trans hy10.out).trans hy11.out).trans hy12.out).trans hy13.out).trans hy14.out).trans hy15.out).trans hy16.out).trans hy17.out).trans hy18.out).trans hy19.out).trans hy20.out).trans hy21.out).trans hy22.out).trans hy23.out).trans hy24.out)).c0, (HBx.out.ext ((((((((((((((((((((((hy2.out.trans hy3.out).trans hy4.out).trans hy5.out).trans hy6.out).trans hy7.out).trans hy8.out).trans hy9.out).trans hy10.out).trans hy11.out).trans hy12.out).trans hy13.out).trans hy14.out).trans hy15.out).trans hy16.out).trans hy17.out).trans hy18.out).trans hy19.out).trans hy20.out).trans hy21.out).trans hy22.out).trans hy23.out).trans hy24.out)).c1⟩)
      | ((go_at_call 21); (with_reducible refine (zcmp_is (HOu.out.ext (((((((((((((((((((hy5.out.trans hy6.out).trans hy7.out).trans hy8.out).trans hy9.out).trans hy10.out).trans hy11.out).trans hy12.out).trans hy13.out).trans hy14.out).trans hy15.out).trans hy16.out).trans hy17.out).trans hy18.out).trans hy19.out).trans hy20.out).trans hy21.out).trans hy22.out).trans hy23.out).trans hy24.out)) (HOv.out.ext (((((((((((((((((((hy5.out.trans hy6.out).trans hy7.out).trans hy8.out).trans hy9.out).trans hy10.out).trans hy11.out).trans hy12.out).trans hy13.out).trans hy14.out).trans hy15.out).trans hy16.out).trans hy17.out).trans hy18.out).trans hy19.out).trans hy20.out).trans hy21.out).trans hy22.out).trans hy23.out).trans hy24.out)) (by omega) hE.out).mono ?_); rintro E25 w25 ⟨rfl, hr25⟩; have X25 := hid (X24.out.trans hr25); have hy25 := hid hr25; clear hr25; have hk25 : w25.cell? ⟨g7, 0, none⟩ = some (.bool sx) ∧ w25.cell? ⟨g7, 1, none⟩ = some (.slice P7 lx r7) ∧ w25.cell? ⟨g8, 0, none⟩ = some (.bool sy) ∧ w25.cell? ⟨g8, 1, none⟩ = some (.slice P8 ly r8) ∧ w25.cell? ⟨g9, 0, none⟩ = some (.bool bu) ∧ w25.cell? ⟨g9, 1, none⟩ = some (.slice Pu lu ku) ∧ w25.cell? ⟨g10, 0, none⟩ = some (.bool bv) ∧ w25.cell? ⟨g10, 1, none⟩ = some (.slice Pv lv kv) ∧ w25.cell? ⟨w.heap.size, 0, none⟩ = some (.bool sx) ∧ w25.cell? ⟨w.heap.size, 1, none⟩ = some (.slice Px lx kx) := ⟨(HBa.out.ext (((((((((((((((((((((hy4.out.trans hy5.out).trans hy6.out).trans hy7.out).trans hy8.out).trans hy9.out).trans hy10.out).trans hy11.out).trans hy12.out).trans hy13.out).trans hy14.out).trans hy15.out).trans hy16.out).trans hy17.out).trans hy18.out).trans hy19.out).trans hy20.out).trans hy21.out).trans hy22.out).trans hy23.out).trans hy24.out).trans hy25.out)).c0, (HBa.out.ext (((((((((((((((((((((hy4.out.trans hy5.out).trans hy6.out).trans hy7.out).trans hy8.out).trans hy9.out).trans hy10.out).trans hy11.out).trans hy12.out).trans hy13.out).trans hy14.out).trans hy15.out).trans hy16.out).trans hy17.out).trans hy18.out).trans hy19.out).trans hy20.out).trans hy21.out).trans hy22.out).trans hy23.out).trans hy24.out).trans hy25.out)).c1, (HBb.out.ext (((((((((((((((((((((hy4.out.trans hy5.out).trans hy6.out).trans hy7.out).trans hy8.out).trans hy9.out).trans hy10.out).trans hy11.out).trans hy12.out).trans hy13.out).trans hy14.out).trans hy15.out).trans hy16.out).trans hy17.out).trans hy18.out).trans hy19.out).trans hy20.out).trans hy21.out).trans hy22.out).trans hy23.out).trans hy24.out).trans hy25.out)).c0, (HBb.out.ext (((((((((((((((((((((hy4.out.trans hy5.out).trans hy6.out).trans hy7.out).trans hy8.out).trans hy9.out).trans hy10.out).trans hy11.out).trans hy12.out).trans hy13.out).trans hy14.out).trans hy15.out).trans hy16.out).trans hy17.out).trans hy18.out).trans hy19.out).trans hy20.out).trans hy21.out).trans hy22.out).trans hy23.out).trans hy24.out).trans hy25.out)).c1, (HBu.out.ext ((((((((((((((((((((hy5.out.trans hy6.out).trans hy7.out).trans hy8.out).trans hy9.out).trans hy10.out).trans hy11.out).trans hy12.out).trans hy13.out).trans hy14.out).trans hy15.out).trans hy16.out).trans hy17.out).trans hy18.out).trans hy19.out).trans hy20.out).trans hy21.out).trans hy22.out).trans hy23.out).trans hy24.out).trans hy25.out)).c0, (HBu.out.ext ((((((((((((((((((((hy5.out.trans hy6.out).trans hy7.out).trans hy8.out).trans hy9.out).trans hy10.out).trans hy11.out).trans hy12.out).trans hy13.out).trans hy14.out).trans hy15.out).trans hy16.out).trans hy17.out).trans hy18.out).trans hy19.out).trans hy20.out).trans hy21.out).trans hy22.out).trans hy23.out).trans hy24.out).trans hy25.out)).c1, (HBv.out.ext ((((((((((((((((((((hy5.out.trans hy6.out).trans hy7.out).trans hy8.out).trans hy9.out).trans hy10.out).trans hy11.out).trans hy12.out).trans hy13.out).trans hy14.out).trans hy15.out).trans hy16.out).trans hy17.out).trans hy18.out).trans hy19.out).trans hy20.out).trans hy21.out).trans hy22.out).trans hy23.out).trans hy24.out).trans hy25.out)).c0, (HBv.out.ext ((((((((((((((((((((hy5.out.trans hy6.out).trans hy7.out).trans hy8.out).trans hy9.out).trans hy10.out).trans hy11.out).trans hy12.out).trans hy13.out).trans hy14.out).trans hy15.out).trans hy16.out).trans hy17.out).trans hy18.out).trans hy19.out).trans hy20.out).trans hy21.out).trans hy22.out).trans hy23.out).trans hy24.out).trans hy25.out)).c1, (HBx.out.ext (((((((((((((((((((((((hy2.out.trans hy3.out).trans hy4.out).trans hy5.out).trans hy6.out).trans hy7.out).trans hy8.out).trans hy9.out).trans hy10.out).trans hy11.out).trans hy12.out).trans hy13.out).trans hy14.out).trans hy15.out).trans hy16.out).trans hy17.out).trans hy18.out).trans hy19.out).trans hy20.out).trans hy21.out).trans hy22.out).trans hy23.out).trans hy24.out).trans hy25.out)).c0, (HBx.out.ext (((((((((((((((((((((((hy2.out.trans hy3.out).trans hy4.out).trans hy5.out).trans hy6.out).trans hy7.out).trans hy8.out).trans hy9.out).trans hy10.out).trans hy11.out).trans hy12.out).trans hy13.out).trans hy14.out).trans hy15.out).trans hy16.out).trans hy17.out).trans hy18.out).trans hy19.out).trans hy20.out).trans hy21.out).trans hy22.out).trans hy23.out).trans hy24.out).trans hy25.out)).c1⟩)
      | ((go_at_call 40); (with_reducible refine (may_is ((HOa.out.ext (((((((((((((((((((((hy4.out.trans hy5.out).trans hy6.out).trans hy7.out).trans hy8.out).trans hy9.out).trans hy10.out).trans hy11.out).trans hy12.out).trans hy13.out).trans hy14.out).trans hy15.out).trans hy16.out).trans hy17.out).trans hy18.out).trans hy19.out).trans hy20.out).trans hy21.out).trans hy22.out).trans hy23.out).trans hy24.out).trans hy25.out))).sl (by omega) hM.out).mono ?_); rintro E26 w26 ⟨rfl, hr26⟩; have X26 := hid (X25.out.trans hr26); have hy26 := hid hr26; clear hr26; have hk26 : w26.cell? ⟨g7, 0, none⟩ = some (.bool sx) ∧ w26.cell? ⟨g7, 1, none⟩ = some (.slice P7 lx r7) ∧ w26.cell? ⟨g8, 0, none⟩ = some (.bool sy) ∧ w26.cell? ⟨g8, 1, none⟩ = some (.slice P8 ly r8) ∧ w26.cell? ⟨g9, 0, none⟩ = some (.bool bu) ∧ w26.cell? ⟨g9, 1, none⟩ = some (.slice Pu lu ku) ∧ w26.cell? ⟨g10, 0, none⟩ = some (.bool bv) ∧ w26.cell? ⟨g10, 1, none⟩ = some (.slice Pv lv kv) ∧ w26.cell? ⟨w.heap.size, 0, none⟩ = some (.bool sx) ∧ w26.cell? ⟨w.heap.size, 1, none⟩ = some (.slice Px lx kx) := ⟨(HBa.out.ext ((((((((((((((((((((((hy4.out.trans hy5.out).trans hy6.out).trans hy7.out).trans hy8.out).trans hy9.out).trans hy10.out).trans hy11.out).trans hy12.out).trans hy13.out).trans hy14.out).trans hy15.out).trans hy16.out).trans hy17.out).trans hy18.out).trans hy19.out).trans hy20.out).trans hy21.out).trans hy22.out).trans hy23.out).trans hy24.out).trans hy25.out).trans hy26.out)).c0, (HBa.out.ext ((((((((((((((((((((((hy4.out.trans hy5.out).trans hy6.out).trans hy7.out).trans hy8.out).trans hy9.out).trans hy10.out).trans hy11.out).trans hy12.out).trans hy13.out).trans hy14.out).trans hy15.out).trans hy16.out).trans hy17.out).trans hy18.out).trans hy19.out).trans hy20.out).trans hy21.out).trans hy22.out).trans hy23.out).trans hy24.out).trans hy25.out).trans hy26.out)).c1, (HBb.out.ext ((((((((((((((((((((((hy4.out.trans hy5.out).trans hy6.out).trans hy7.out).trans hy8.out).trans hy9.out).trans hy10.out).trans hy11.out).trans hy12.out).trans hy13.out).trans hy14.out).trans hy15.out).trans hy16.out).trans hy17.out).trans hy18.out).trans hy19.out).trans hy20.out).trans hy21.out).trans hy22.out).trans hy23.out).trans hy24.out).trans hy25.out).trans hy26.out)).c0, (HBb.out.ext ((((((((((((((((((((((hy4.out.trans hy5.out).trans hy6.out).trans hy7.out).trans hy8.out).trans hy9.out).trans hy10.out).trans hy11.out).trans hy12.out).trans hy13.out).trans hy14.out).trans hy15.out).trans hy16.out).trans hy17.out).trans hy18.out).trans hy19.out).trans hy20.out).trans hy21.out).trans hy22.out).trans hy23.out).trans hy24.out).trans hy25.out).trans hy26.out)).c1, (HBu.out.ext (((((((((((((((((((((hy5.out.trans hy6.out).trans hy7.out).trans hy8.out).trans hy9.out).trans hy10.out).trans hy11.out).trans hy12.out).trans hy13.out).trans hy14.out).trans hy15.out).trans hy16.out).trans hy17.out).trans hy18.out).trans hy19.out).trans hy20.out).trans hy21.out).trans hy22.out).trans hy23.out).trans hy24.out).trans hy25.out).trans hy26.out)).c0, (HBu.out.ext (((((((((((((((((((((hy5.out.trans hy6.out).trans hy7.out).trans hy8.out).trans hy9.out).trans hy10.out).trans hy11.out).trans hy12.out).trans hy13.out).trans hy14.out).trans hy15.out).trans hy16.out).trans hy17.out).trans hy18.out).trans hy19.out).trans hy20.out).trans hy21.out).trans hy22.out).trans hy23.out).trans hy24.out).trans hy25.out).trans hy26.out)).c1, (HBv.out.ext (((((((((((((((((((((hy5.out.trans hy6.out).trans hy7.out).trans hy8.out).trans hy9.out).trans hy10.out).trans hy11.out).trans hy12.out).trans hy13.out).trans hy14.out).trans hy15.out).trans hy16.out).trans hy17.out).trans hy18.out).trans hy19.out).trans hy20.out).trans hy21.out).trans hy22.out).trans hy23.out).trans hy24.out).trans hy25.out).trans hy26.out)).c0, (HBv.out.ext (((((((((((((((((((((hy5.out.trans hy6.out).trans hy7.out).trans hy8.out).trans hy9.out).trans hy10.out).trans hy11.out).trans hy12.out).trans hy13.out).trans hy14.out).trans hy15.out).trans hy16.out).trans hy17.out).trans hy18.out).trans hy19.out).trans hy20.out).trans hy21.out).trans hy22.out).trans hy23.out).trans hy24.out).trans hy25.out).trans hy26.out)).c1, (HBx.out.ext ((((((((((((((((((((((((hy2.out.trans hy3.out).trans hy4.out).trans hy5.out).trans hy6.out).trans hy7.out).trans hy8.out).trans hy9.out).trans hy10.out).trans hy11.out).trans hy12.out).trans hy13.out).trans hy14.out).trans hy15.out).trans hy16.out).trans hy17.out).trans hy18.out).trans hy19.out).trans hy20.out).trans hy21.out).trans hy22.out).trans hy23.out).trans hy24.out).trans hy25.out).trans hy26.out)).c0, (HBx.out.ext ((((((((((((((((((((((((hy2.out.trans hy3.out).trans hy4.out).trans hy5.out).trans hy6.out).trans hy7.out).trans hy8.out).trans hy9.out).trans hy10.out).trans hy11.out).trans hy12.out).trans hy13.out).trans hy14.out).trans hy15.out).trans hy16.out).trans hy17.out).trans hy18.out).trans hy19.out).trans hy20.out).trans hy21.out).trans hy22.out).trans hy23.out).trans hy24.out).trans hy25.out).trans hy26.out)).c1⟩)
      | ((go_at_call 49); (with_reducible refine (rmay_is (GX.out.ext (((((((((((((((((((((((((hy1.out.trans hy2.out).trans hy3.out).trans hy4.out).trans hy5.out).trans hy6.out).trans hy7.out).trans hy8.out).trans hy9.out).trans hy10.out).trans hy11.out).trans hy12.out).trans hy13.out).trans hy14.out).trans hy15.out).trans hy16.out).trans hy17.out).trans hy18.out).trans hy19.out).trans hy20.out).trans hy21.out).trans hy22.out).trans hy23.out).trans hy24.out).trans hy25.out).trans hy26.out)) MX.out bdx (by omega) hM.out).mono ?_); rintro E27 w27 ⟨rfl, hr27⟩; have X27 := hid (X26.out.trans hr27); have hy27 := hid hr27; clear hr27; have hk27 : w27.cell? ⟨g7, 0, none⟩ = some (.bool sx) ∧ w27.cell? ⟨g7, 1, none⟩ = some (.slice P7 lx r7) ∧ w27.cell? ⟨g8, 0, none⟩ = some (.bool sy) ∧ w27.cell? ⟨g8, 1, none⟩ = some (.slice P8 ly r8) ∧ w27.cell? ⟨g9, 0, none⟩ = some (.bool bu) ∧ w27.cell? ⟨g9, 1, none⟩ = some (.slice Pu lu ku) ∧ w27.cell? ⟨g10, 0, none⟩ = some (.bool bv) ∧ w27.cell? ⟨g10, 1, none⟩ = some (.slice Pv lv kv) ∧ w27.cell? ⟨w.heap.size, 0, none⟩ = some (.bool sx) ∧ w27.cell? ⟨w.heap.size, 1, none⟩ = some (.slice Px lx kx) := ⟨(HBa.out.ext (((((((((((((((((((((((hy4.out.trans hy5.out).trans hy6.out).trans hy7.out).trans hy8.out).trans hy9.out).trans hy10.out).trans hy11.out).trans hy12.out).trans hy13.out).trans hy14.out).trans hy15.out).trans hy16.out).trans hy17.out).trans hy18.out).trans hy19.out).trans hy20.out).trans hy21.out).trans hy22.out).trans hy23.out).trans hy24.out).trans hy25.out).trans hy26.out).trans hy27.out)).c0, (HBa.out.ext (((((((((((((((((((((((hy4.out.trans hy5.out).trans hy6.out).trans hy7.out).trans hy8.out).trans hy9.out).trans hy10.out).trans hy11.out).trans hy12.out).trans hy13.out).trans hy14.out).trans hy15.out).trans hy16.out).trans hy17.out).trans hy18.out).trans hy19.out).trans hy20.out).trans hy21.out).trans hy22.out).trans hy23.out).trans hy24.out).trans hy25.out).trans hy26.out).trans hy27.out)).c1, (HBb.out.ext (((((((((((((((((((((((hy4.out.trans hy5.out).trans hy6.out).trans hy7.out).trans hy8.out).trans hy9.out).trans hy10.out).trans hy11.out).trans hy12.out).trans hy13.out).trans hy14.out).trans hy15.out).trans hy16.out).trans hy17.out).trans hy18.out).trans hy19.out).trans hy20.out).trans hy21.out).trans hy22.out).trans hy23.out).trans hy24.out).trans hy25.out).trans hy26.out).trans hy27.out)).c0, (HBb.out.ext (((((((((((((((((((((((hy4.out.trans hy5.out).trans hy6.out).trans hy7.out).trans hy8.out).trans hy9.out).trans hy10.out).trans hy11.out).trans hy12.out).trans hy13.out).trans hy14.out).trans hy15.out).trans hy16.out).trans hy17.out).trans hy18.out).trans hy19.out).trans hy20.out).trans hy21.out).trans hy22.out).trans hy23.out).trans hy24.out).trans hy25.out).trans hy26.out).trans hy27.out)).c1, (HBu.out.ext ((((((((((((((((((((((hy5.out.trans hy6.out).trans hy7.out).trans hy8.out).trans hy9.out).trans hy10.out).trans hy11.out).trans hy12.out).trans hy13.out).trans hy14.out).trans hy15.out).trans hy16.out).trans hy17.out).trans hy18.out).trans hy19.out).trans hy20.out).trans hy21.out).trans hy22.out).trans hy23.out).trans hy24.out).trans hy25.out).trans hy26.out).trans hy27.out)).c0, (HBu.out.ext ((((((((((((((((((((((hy5.out.trans hy6.out).trans hy7.out).trans hy8.out).trans hy9.out).trans hy10.out).trans hy11.out).trans hy12.out).trans hy13.out).trans hy14.out).trans hy15.out).trans hy16.out).trans hy17.out).trans hy18.out).trans hy19.out).trans hy20.out).trans hy21.out).trans hy22.out).trans hy23.out).trans hy24.out).trans hy25.out).trans hy26.out).trans hy27.out)).c1, (HBv.out.ext ((((((((((((((((((((((hy5.out.trans hy6.out).trans hy7.out).trans hy8.out).trans hy9.out).trans hy10.out).trans hy11.out).trans hy12.out).trans hy13.out).trans hy14.out).trans hy15.out).trans hy16.out).trans hy17.out).trans hy18.out).trans hy19.out).trans hy20.out).trans hy21.out).trans hy22.out).trans hy23.out).trans hy24.out).trans hy25.out).trans hy26.out).trans hy27.out)).c0, (HBv.out.ext ((((((((((((((((((((((hy5.out.trans hy6.out).trans hy7.out).trans hy8.out).trans hy9.out).trans hy10.out).trans hy11.out).trans hy12.out).trans hy13.out).trans hy14.out).trans hy15.out).trans hy16.out).trans hy17.out).trans hy18.out).trans hy19.out).trans hy20.out).trans hy21.out).trans hy22.out).trans hy23.out).trans hy24.out).trans hy25.out).trans hy26.out).trans hy27.out)).c1, (HBx.out.ext (((((((((((((((((((((((((hy2.out.trans hy3.out).trans hy4.out).trans hy5.out).trans hy6.out).trans hy7.out).trans hy8.out).trans hy9.out).trans hy10.out).trans hy11.out).trans hy12.out).trans hy13.out).trans hy14.out).trans hy15.out).trans hy16.out).trans hy17.out).trans hy18.out).trans hy19.out).trans hy20.out).trans hy21.out).trans hy22.out).trans hy23.out).trans hy24.out).trans hy25.out).trans hy26.out).trans hy27.out)).c0, (HBx.out.ext (((((((((((((((((((((((((hy2.out.trans hy3.out).trans hy4.out).trans hy5.out).trans hy6.out).trans hy7.out).trans hy8.out).trans hy9.out).trans hy10.out).trans hy11.out).trans hy12.out).trans hy13.out).trans hy14.out).trans hy15.out).trans hy16.out).trans hy17.out).trans hy18.out).trans hy19.out).trans hy20.out).trans hy21.out).trans hy22.out).trans hy23.out).trans hy24.out).trans hy25.out).trans hy26.out).trans hy27.out)).c1⟩))
  clear hk4 hk5 hk6 hk7 hk8 hk9 hk10 hk11 hk12 hk13 hk14 hk15 hk16 hk17 hk18 hk19 hk20 hk21 hk22 hk23 hk24 hk25 hk26 hk27
  obtain ⟨f27_0, f27_1⟩ : w27.cell? ⟨g7, 0, none⟩ = some (.bool sx) ∧ w27.cell? ⟨g7, 1, none⟩ = some (.slice P7 lx r7) := ⟨(HBa.out.ext (((((((((((((((((((((((hy4.out.trans hy5.out).trans hy6.out).trans hy7.out).trans hy8.out).trans hy9.out).trans hy10.out).trans hy11.out).trans hy12.out).trans hy13.out).trans hy14.out).trans hy15.out).trans hy16.out).trans hy17.out).trans hy18.out).trans hy19.out).trans hy20.out).trans hy21.out).trans hy22.out).trans hy23.out).trans hy24.out).trans hy25.out).trans hy26.out).trans hy27.out)).c0, (HBa.out.ext (((((((((((((((((((((((hy4.out.trans hy5.out).trans hy6.out).trans hy7.out).trans hy8.out).trans hy9.out).trans hy10.out).trans hy11.out).trans hy12.out).trans hy13.out).trans hy14.out).trans hy15.out).trans hy16.out).trans hy17.out).trans hy18.out).trans hy19.out).trans hy20.out).trans hy21.out).trans hy22.out).trans hy23.out).trans hy24.out).trans hy25.out).trans hy26.out).trans hy27.out)).c1⟩
  go_upto_region 6 with fail
  go_cut [12, 13] (fun v12 v13 wx => ∃ (sv : Int) (b : Bool), v12 = .int .i64 sv ∧ v13 = .bool b ∧ ((-9223372036854775808 ≤ x ∧ x ≤ 9223372036854775807 ∧ sv = x ∧ b = true) ∨ ((x < -9223372036854775808 ∨ 9223372036854775807 < x) ∧ sv = 0 ∧ b = false)) ∧ Ext w27 wx)
  case first =>
    by_cases hr : -9223372036854775808 ≤ x ∧ x ≤ 9223372036854775807
    · have HR := hid hr
      clear hr
      go_wp2_with (go_at_call 45; (with_reducible refine (wsmall_v (HIa.out.ext (((((((((((((((((((((((hy4.out.trans hy5.out).trans hy6.out).trans hy7.out).trans hy8.out).trans hy9.out).trans hy10.out).trans hy11.out).trans hy12.out).trans hy13.out).trans hy14.out).trans hy15.out).trans hy16.out).trans hy17.out).trans hy18.out).trans hy19.out).trans hy20.out).trans hy21.out).trans hy22.out).trans hy23.out).trans hy24.out).trans hy25.out).trans hy26.out).trans hy27.out)) (by omega) HR.out.1 HR.out.2).mono ?_); rintro E v ⟨rfl, hr⟩; have HE := hid hr; clear hr)
      go_meet
      case rel => exact ⟨_, _, rfl, rfl, .inl ⟨HR.out.1, HR.out.2, rfl, rfl⟩, HE.out⟩
    · have HR : Hid (x < -9223372036854775808 ∨ 9223372036854775807 < x) := by show _ ∨ _; omega
      clear hr
      go_wp2_with (go_at_call 45; (with_reducible refine (wsmall_no (HIa.out.ext (((((((((((((((((((((((hy4.out.trans hy5.out).trans hy6.out).trans hy7.out).trans hy8.out).trans hy9.out).trans hy10.out).trans hy11.out).trans hy12.out).trans hy13.out).trans hy14.out).trans hy15.out).trans hy16.out).trans hy17.out).trans hy18.out).trans hy19.out).trans hy20.out).trans hy21.out).trans hy22.out).trans hy23.out).trans hy24.out).trans hy25.out).trans hy26.out).trans hy27.out)) (by omega) HR.out).mono ?_); rintro E v ⟨rfl, hr⟩; have HE := hid hr; clear hr)
      go_meet
      case rel => exact ⟨_, _, rfl, rfl, .inr ⟨HR.out, rfl, rfl⟩, HE.out⟩
  case rest =>
  clear f27_0 f27_1
  obtain ⟨sv, bs, rfl, rfl, hsm, hy28⟩ := hcut
  obtain ⟨w28, hw28⟩ : ∃ w28, w28 = wc := ⟨_, rfl⟩
  subst hw28
  have HSM := hid hsm
  have hy28 := hid hy28
  have X28 := hid (X27.out.trans hy28.out)
  clear hsm
  go_upto_region 7 with fail
  go_cut [14] (fun v14 wx => v14 = .bool bs ∧ Ext w28 wx)
  case first =>
    obtain ⟨c1, hc1⟩ : ∃ c, sg (x - -9223372036854775808) = c := ⟨_, rfl⟩
    obtain ⟨c2, hc2⟩ : ∃ c, sg (x - 9223372036854775807) = c := ⟨_, rfl⟩
    have q1 := hid hc1
    have q2 := hid hc2
    rcases HSM.out with ⟨h1, h2, _, rfl⟩ | ⟨h1, _, rfl⟩
    · have d1 : 0 ≤ c1 := by rw [← hc1]; rcases sg_cases (x - -9223372036854775808) with ⟨_, e⟩ | ⟨e, _⟩ | ⟨e, _⟩ <;> omega
      have d2 : c2 ≤ 0 := by rw [← hc2]; rcases sg_cases (x - 9223372036854775807) with ⟨e, _⟩ | ⟨e, _⟩ | ⟨_, e⟩ <;> omega
      clear h1 h2 hc1 hc2
      as_aux_lemma =>
        refine wp_region_held_drew (S := fun w' => Ext w28 w') (by kernel_rfl) (Ext.refl _).drew (fun hS0 => ?_)
        change wpAnyH _ _ _ _ _ 11 #[false, false, false, false, false, false, false, false, false, false, false] _ _
        refine drawn_loadG 0 92 34 (.tmp 9) none (g9) 34 #[.bool bu, .slice Pu lu ku] (0, 0) _ (by kernel_rfl) rfl rfl (fun w' hS => (HBu.out.ext (((((((((((((((((((((((hy5.out.trans hy6.out).trans hy7.out).trans hy8.out).trans hy9.out).trans hy10.out).trans hy11.out).trans hy12.out).trans hy13.out).trans hy14.out).trans hy15.out).trans hy16.out).trans hy17.out).trans hy18.out).trans hy19.out).trans hy20.out).trans hy21.out).trans hy22.out).trans hy23.out).trans hy24.out).trans hy25.out).trans hy26.out).trans hy27.out).trans hy28.out)).ext hS) Try.underlying34 rfl info_z_s (by as_aux_lemma => kernel_rfl) (by as_aux_lemma => kernel_rfl) (by as_aux_lemma => kernel_rfl) (fun _ _ _ _ h => h) hS0 ?_
        simp only [Act.put, List.setIfInBounds_toArray, List.set_cons_zero, List.set_cons_succ]
        refine wpAnyH_ready (rs := [1]) (by kernel_rfl) (by simp) ?_
        refine drawn_callG1 1 (some 93) (.const (.int .i64 (-9223372036854775808))) (ts := #[2]) none (by kernel_rfl) rfl (enters_of Try.func26 (by kernel_rfl) rfl) rfl (zsmall_v (n := -9223372036854775808) (by omega) (by omega)) (fun E v1 hh => ?_) drawn_nil
        obtain ⟨b1, A1, n1, c1, rfl, o1, hx1⟩ := hh
        refine ⟨_, rfl, hS0.trans hx1, ?_⟩
        simp only [Act.put, List.setIfInBounds_toArray, List.set_cons_zero, List.set_cons_succ]
        have S1 := hS0.trans hx1
        refine wpAnyH_ready (rs := [2]) (by kernel_rfl) (by simp) ?_
        refine drawn_callG2 2 (some 94) (.tmp 92) (.tmp 93) (ts := #[34, 34]) none (by kernel_rfl) rfl (enters_of Try.func21 (by kernel_rfl) rfl) rfl rfl (zcmp_is (((HOu.out.ext (((((((((((((((((((((((hy5.out.trans hy6.out).trans hy7.out).trans hy8.out).trans hy9.out).trans hy10.out).trans hy11.out).trans hy12.out).trans hy13.out).trans hy14.out).trans hy15.out).trans hy16.out).trans hy17.out).trans hy18.out).trans hy19.out).trans hy20.out).trans hy21.out).trans hy22.out).trans hy23.out).trans hy24.out).trans hy25.out).trans hy26.out).trans hy27.out).trans hy28.out))).ext S1) o1 (by omega) q1.out) (fun E v2 hh => ?_) drawn_nil
        obtain ⟨rfl, hx2⟩ := hh
        refine ⟨_, rfl, S1.trans hx2, ?_⟩
        simp only [Act.put, List.setIfInBounds_toArray, List.set_cons_zero, List.set_cons_succ]
        have S2 := S1.trans hx2
        refine drawn_freeG 3 95 (v := ?v3_265) (.binOp .geq 3 (.tmp 94) (.const (.int .i64 0)) 3) none (by kernel_rfl) rfl ?hy3_265 (by as_aux_lemma => kernel_rfl) (by as_aux_lemma => kernel_rfl) (by as_aux_lemma => kernel_rfl) (fun _ _ _ _ h => h) S2 ?hr3_265
        case hy3_265 => (intro o ho w' hS; unfold execOp; simp only [ho]; go_simp; try with_reducible rfl)
        simp only [Act.put, List.setIfInBounds_toArray, List.set_cons_zero, List.set_cons_succ]
        refine drawn_freeG 4 96 (v := ?v4_266) (.move (.tmp 95)) none (by kernel_rfl) rfl ?hy4_266 (by as_aux_lemma => kernel_rfl) (by as_aux_lemma => kernel_rfl) (by as_aux_lemma => kernel_rfl) (fun _ _ _ _ h => h) S2 ?hr4_266
        case hy4_266 => (intro o ho w' hS; unfold execOp; simp only [ho]; go_simp; try with_reducible rfl)
        simp only [Act.put, List.setIfInBounds_toArray, List.set_cons_zero, List.set_cons_succ]
        refine drawn_loadG 5 97 34 (.tmp 9) (some (4, true)) (g9) 34 #[.bool bu, .slice Pu lu ku] (0, 0) _ (by kernel_rfl) rfl rfl (fun w' hS => (HBu.out.ext (((((((((((((((((((((((hy5.out.trans hy6.out).trans hy7.out).trans hy8.out).trans hy9.out).trans hy10.out).trans hy11.out).trans hy12.out).trans hy13.out).trans hy14.out).trans hy15.out).trans hy16.out).trans hy17.out).trans hy18.out).trans hy19.out).trans hy20.out).trans hy21.out).trans hy22.out).trans hy23.out).trans hy24.out).trans hy25.out).trans hy26.out).trans hy27.out).trans hy28.out)).ext hS) Try.underlying34 rfl info_z_s (by as_aux_lemma => kernel_rfl) (by as_aux_lemma => kernel_rfl) (by as_aux_lemma => kernel_rfl) (fun _ _ _ _ h => h) S2 ?_
        simp only [Act.put, List.setIfInBounds_toArray, List.set_cons_zero, List.set_cons_succ]
        refine wpAnyH_ready (rs := [6]) (by kernel_rfl) (by simp) ?_
        refine drawn_callG1 6 (some 98) (.const (.int .i64 9223372036854775807)) (ts := #[2]) (some (4, true)) (by kernel_rfl) rfl (enters_of Try.func26 (by kernel_rfl) rfl) rfl (zsmall_v (n := 9223372036854775807) (by omega) (by omega)) (fun E v6 hh => ?_) drawn_nil
        obtain ⟨b6, A6, n6, c6, rfl, o6, hx6⟩ := hh
        refine ⟨_, rfl, S2.trans hx6, ?_⟩
        simp only [Act.put, List.setIfInBounds_toArray, List.set_cons_zero, List.set_cons_succ]
        have S6 := S2.trans hx6
        refine wpAnyH_ready (rs := [7]) (by kernel_rfl) (by simp) ?_
        refine drawn_callG2 7 (some 99) (.tmp 97) (.tmp 98) (ts := #[34, 34]) (some (4, true)) (by kernel_rfl) rfl (enters_of Try.func21 (by kernel_rfl) rfl) rfl rfl (zcmp_is (((HOu.out.ext (((((((((((((((((((((((hy5.out.trans hy6.out).trans hy7.out).trans hy8.out).trans hy9.out).trans hy10.out).trans hy11.out).trans hy12.out).trans hy13.out).trans hy14.out).trans hy15.out).trans hy16.out).trans hy17.out).trans hy18.out).trans hy19.out).trans hy20.out).trans hy21.out).trans hy22.out).trans hy23.out).trans hy24.out).trans hy25.out).trans hy26.out).trans hy27.out).trans hy28.out))).ext S6) o6 (by omega) q2.out) (fun E v7 hh => ?_) drawn_nil
        obtain ⟨rfl, hx7⟩ := hh
        refine ⟨_, rfl, S6.trans hx7, ?_⟩
        simp only [Act.put, List.setIfInBounds_toArray, List.set_cons_zero, List.set_cons_succ]
        have S7 := S6.trans hx7
        refine drawn_freeG 8 100 (v := ?v8_267) (.binOp .leq 3 (.tmp 99) (.const (.int .i64 0)) 3) (some (4, true)) (by kernel_rfl) rfl ?hy8_267 (by as_aux_lemma => kernel_rfl) (by as_aux_lemma => kernel_rfl) (by as_aux_lemma => kernel_rfl) (fun _ _ _ _ h => h) S7 ?hr8_267
        case hy8_267 => (intro o ho w' hS; unfold execOp; simp only [ho]; go_simp; try with_reducible rfl)
        simp only [Act.put, List.setIfInBounds_toArray, List.set_cons_zero, List.set_cons_succ]
        refine drawn_freeG 9 101 (v := ?v9_268) (.pick (.tmp 96) (.tmp 100) (.const (.bool false))) none (by kernel_rfl) rfl ?hy9_268 (by as_aux_lemma => kernel_rfl) (by as_aux_lemma => kernel_rfl) (by as_aux_lemma => kernel_rfl) (fun _ _ _ _ h => h) S7 ?hr9_268
        case hy9_268 => (intro o ho w' hS; unfold execOp; simp only [ho]; go_simp; try with_reducible rfl)
        simp only [Act.put, List.setIfInBounds_toArray, List.set_cons_zero, List.set_cons_succ]
        refine drawn_freeG 10 14 (v := ?v10_269) (.assign (.tmp 101)) none (by kernel_rfl) rfl ?hy10_269 (by as_aux_lemma => kernel_rfl) (by as_aux_lemma => kernel_rfl) (by as_aux_lemma => kernel_rfl) (fun _ _ _ _ h => h) S7 ?hr10_269
        case hy10_269 => (intro o ho w' hS; unfold execOp; simp only [ho]; go_simp; try with_reducible rfl)
        simp only [Act.put, List.setIfInBounds_toArray, List.set_cons_zero, List.set_cons_succ]
        refine wpAnyH_done (by kernel_rfl) ?_ _
        go_step
        go_step
        go_meet
        case rel => exact ⟨rfl, S7⟩
    · by_cases hlo : x < -9223372036854775808
      · have d1 : ¬ 0 ≤ c1 := by rw [← hc1]; rcases sg_cases (x - -9223372036854775808) with ⟨e, _⟩ | ⟨_, e⟩ | ⟨_, e⟩ <;> omega
        have d3 : decide (0 ≤ c1) = false := decide_eq_false d1
        clear h1 hc1 hc2 hlo
        as_aux_lemma =>
          refine wp_region_held_drew (S := fun w' => Ext w28 w') (by kernel_rfl) (Ext.refl _).drew (fun hS0 => ?_)
          change wpAnyH _ _ _ _ _ 11 #[false, false, false, false, false, false, false, false, false, false, false] _ _
          refine drawn_loadG 0 92 34 (.tmp 9) none (g9) 34 #[.bool bu, .slice Pu lu ku] (0, 0) _ (by kernel_rfl) rfl rfl (fun w' hS => (HBu.out.ext (((((((((((((((((((((((hy5.out.trans hy6.out).trans hy7.out).trans hy8.out).trans hy9.out).trans hy10.out).trans hy11.out).trans hy12.out).trans hy13.out).trans hy14.out).trans hy15.out).trans hy16.out).trans hy17.out).trans hy18.out).trans hy19.out).trans hy20.out).trans hy21.out).trans hy22.out).trans hy23.out).trans hy24.out).trans hy25.out).trans hy26.out).trans hy27.out).trans hy28.out)).ext hS) Try.underlying34 rfl info_z_s (by as_aux_lemma => kernel_rfl) (by as_aux_lemma => kernel_rfl) (by as_aux_lemma => kernel_rfl) (fun _ _ _ _ h => h) hS0 ?_
          simp only [Act.put, List.setIfInBounds_toArray, List.set_cons_zero, List.set_cons_succ]
          refine wpAnyH_ready (rs := [1]) (by kernel_rfl) (by simp) ?_
          refine drawn_callG1 1 (some 93) (.const (.int .i64 (-9223372036854775808))) (ts := #[2]) none (by kernel_rfl) rfl (enters_of Try.func26 (by kernel_rfl) rfl) rfl (zsmall_v (n := -9223372036854775808) (by omega) (by omega)) (fun E v1 hh => ?_) drawn_nil
          obtain ⟨b1, A1, n1, c1, rfl, o1, hx1⟩ := hh
          refine ⟨_, rfl, hS0.trans hx1, ?_⟩
          simp only [Act.put, List.setIfInBounds_toArray, List.set_cons_zero, List.set_cons_succ]
          have S1 := hS0.trans hx1
          refine wpAnyH_ready (rs := [2]) (by kernel_rfl) (by simp) ?_
          refine drawn_callG2 2 (some 94) (.tmp 92) (.tmp 93) (ts := #[34, 34]) none (by kernel_rfl) rfl (enters_of Try.func21 (by kernel_rfl) rfl) rfl rfl (zcmp_is (((HOu.out.ext (((((((((((((((((((((((hy5.out.trans hy6.out).trans hy7.out).trans hy8.out).trans hy9.out).trans hy10.out).trans hy11.out).trans hy12.out).trans hy13.out).trans hy14.out).trans hy15.out).trans hy16.out).trans hy17.out).trans hy18.out).trans hy19.out).trans hy20.out).trans hy21.out).trans hy22.out).trans hy23.out).trans hy24.out).trans hy25.out).trans hy26.out).trans hy27.out).trans hy28.out))).ext S1) o1 (by omega) q1.out) (fun E v2 hh => ?_) drawn_nil
          obtain ⟨rfl, hx2⟩ := hh
          refine ⟨_, rfl, S1.trans hx2, ?_⟩
          simp only [Act.put, List.setIfInBounds_toArray, List.set_cons_zero, List.set_cons_succ]
          have S2 := S1.trans hx2
          refine drawn_freeG 3 95 (v := ?v3_270) (.binOp .geq 3 (.tmp 94) (.const (.int .i64 0)) 3) none (by kernel_rfl) rfl ?hy3_270 (by as_aux_lemma => kernel_rfl) (by as_aux_lemma => kernel_rfl) (by as_aux_lemma => kernel_rfl) (fun _ _ _ _ h => h) S2 ?hr3_270
          case hy3_270 => (intro o ho w' hS; unfold execOp; simp only [ho]; go_simp; try with_reducible rfl)
          simp only [Act.put, List.setIfInBounds_toArray, List.set_cons_zero, List.set_cons_succ]
          refine drawn_freeG 4 96 (v := ?v4_271) (.move (.tmp 95)) none (by kernel_rfl) rfl ?hy4_271 (by as_aux_lemma => kernel_rfl) (by as_aux_lemma => kernel_rfl) (by as_aux_lemma => kernel_rfl) (fun _ _ _ _ h => h) S2 ?hr4_271
          case hy4_271 => (intro o ho w' hS; unfold execOp; simp only [ho]; go_simp; try with_reducible rfl)
          simp only [Act.put, List.setIfInBounds_toArray, List.set_cons_zero, List.set_cons_succ]
          refine drawn_skipG 5 97 (.load 34 (.tmp 9)) (some (4, true)) (by kernel_rfl) rfl (by as_aux_lemma => kernel_rfl) (by as_aux_lemma => kernel_rfl) (by as_aux_lemma => kernel_rfl) (fun _ _ _ _ h => h) S2 ?_
          simp only [Act.put, List.setIfInBounds_toArray, List.set_cons_zero, List.set_cons_succ]
          refine drawn_skipG 6 98 (.call { callee := .value (Operand.func 26), args := #[.const (.int .i64 9223372036854775807)], argTypes := #[2] }) (some (4, true)) (by kernel_rfl) rfl (by as_aux_lemma => kernel_rfl) (by as_aux_lemma => kernel_rfl) (by as_aux_lemma => kernel_rfl) (fun _ _ _ _ h => h) S2 ?_
          simp only [Act.put, List.setIfInBounds_toArray, List.set_cons_zero, List.set_cons_succ]
          refine drawn_skipG 7 99 (.call { callee := .value (Operand.func 21), args := #[.tmp 97, .tmp 98], argTypes := #[34, 34] }) (some (4, true)) (by kernel_rfl) rfl (by as_aux_lemma => kernel_rfl) (by as_aux_lemma => kernel_rfl) (by as_aux_lemma => kernel_rfl) (fun _ _ _ _ h => h) S2 ?_
          simp only [Act.put, List.setIfInBounds_toArray, List.set_cons_zero, List.set_cons_succ]
          refine drawn_skipG 8 100 (.binOp .leq 3 (.tmp 99) (.const (.int .i64 0)) 3) (some (4, true)) (by kernel_rfl) rfl (by as_aux_lemma => kernel_rfl) (by as_aux_lemma => kernel_rfl) (by as_aux_lemma => kernel_rfl) (fun _ _ _ _ h => h) S2 ?_
          simp only [Act.put, List.setIfInBounds_toArray, List.set_cons_zero, List.set_cons_succ]
          refine drawn_freeG 9 101 (v := ?v9_272) (.pick (.tmp 96) (.tmp 100) (.const (.bool false))) none (by kernel_rfl) rfl ?hy9_272 (by as_aux_lemma => kernel_rfl) (by as_aux_lemma => kernel_rfl) (by as_aux_lemma => kernel_rfl) (fun _ _ _ _ h => h) S2 ?hr9_272
          case hy9_272 => (intro o ho w' hS; unfold execOp; simp only [ho]; go_simp; try with_reducible rfl)
          simp only [Act.put, List.setIfInBounds_toArray, List.set_cons_zero, List.set_cons_succ]
          refine drawn_freeG 10 14 (v := ?v10_273) (.assign (.tmp 101)) none (by kernel_rfl) rfl ?hy10_273 (by as_aux_lemma => kernel_rfl) (by as_aux_lemma => kernel_rfl) (by as_aux_lemma => kernel_rfl) (fun _ _ _ _ h => h) S2 ?hr10_273
          case hy10_273 => (intro o ho w' hS; unfold execOp; simp only [ho]; go_simp; try with_reducible rfl)
          simp only [Act.put, List.setIfInBounds_toArray, List.set_cons_zero, List.set_cons_succ]
          refine wpAnyH_done (by kernel_rfl) ?_ _
          go_step
          go_step
          go_meet
          case rel => exact ⟨rfl, S2⟩
      · have d1 : 0 ≤ c1 := by rw [← hc1]; rcases sg_cases (x - -9223372036854775808) with ⟨_, e⟩ | ⟨e, _⟩ | ⟨e, _⟩ <;> omega
        have d2 : ¬ c2 ≤ 0 := by rw [← hc2]; rcases sg_cases (x - 9223372036854775807) with ⟨_, e⟩ | ⟨_, e⟩ | ⟨e, _⟩ <;> omega
        have d4 : decide (c2 ≤ 0) = false := decide_eq_false d2
        clear h1 hc1 hc2 hlo
        as_aux_lemma =>
          refine wp_region_held_drew (S := fun w' => Ext w28 w') (by kernel_rfl) (Ext.refl _).drew (fun hS0 => ?_)
          change wpAnyH _ _ _ _ _ 11 #[false, false, false, false, false, false, false, false, false, false, false] _ _
          refine drawn_loadG 0 92 34 (.tmp 9) none (g9) 34 #[.bool bu, .slice Pu lu ku] (0, 0) _ (by kernel_rfl) rfl rfl (fun w' hS => (HBu.out.ext (((((((((((((((((((((((hy5.out.trans hy6.out).trans hy7.out).trans hy8.out).trans hy9.out).trans hy10.out).trans hy11.out).trans hy12.out).trans hy13.out).trans hy14.out).trans hy15.out).trans hy16.out).trans hy17.out).trans hy18.out).trans hy19.out).trans hy20.out).trans hy21.out).trans hy22.out).trans hy23.out).trans hy24.out).trans hy25.out).trans hy26.out).trans hy27.out).trans hy28.out)).ext hS) Try.underlying34 rfl info_z_s (by as_aux_lemma => kernel_rfl) (by as_aux_lemma => kernel_rfl) (by as_aux_lemma => kernel_rfl) (fun _ _ _ _ h => h) hS0 ?_
          simp only [Act.put, List.setIfInBounds_toArray, List.set_cons_zero, List.set_cons_succ]
          refine wpAnyH_ready (rs := [1]) (by kernel_rfl) (by simp) ?_
          refine drawn_callG1 1 (some 93) (.const (.int .i64 (-9223372036854775808))) (ts := #[2]) none (by kernel_rfl) rfl (enters_of Try.func26 (by kernel_rfl) rfl) rfl (zsmall_v (n := -9223372036854775808) (by omega) (by omega)) (fun E v1 hh => ?_) drawn_nil
          obtain ⟨b1, A1, n1, c1, rfl, o1, hx1⟩ := hh
          refine ⟨_, rfl, hS0.trans hx1, ?_⟩
          simp only [Act.put, List.setIfInBounds_toArray, List.set_cons_zero, List.set_cons_succ]
          have S1 := hS0.trans hx1
          refine wpAnyH_ready (rs := [2]) (by kernel_rfl) (by simp) ?_
          refine drawn_callG2 2 (some 94) (.tmp 92) (.tmp 93) (ts := #[34, 34]) none (by kernel_rfl) rfl (enters_of Try.func21 (by kernel_rfl) rfl) rfl rfl (zcmp_is (((HOu.out.ext (((((((((((((((((((((((hy5.out.trans hy6.out).trans hy7.out).trans hy8.out).trans hy9.out).trans hy10.out).trans hy11.out).trans hy12.out).trans hy13.out).trans hy14.out).trans hy15.out).trans hy16.out).trans hy17.out).trans hy18.out).trans hy19.out).trans hy20.out).trans hy21.out).trans hy22.out).trans hy23.out).trans hy24.out).trans hy25.out).trans hy26.out).trans hy27.out).trans hy28.out))).ext S1) o1 (by omega) q1.out) (fun E v2 hh => ?_) drawn_nil
          obtain ⟨rfl, hx2⟩ := hh
          refine ⟨_, rfl, S1.trans hx2, ?_⟩
          simp only [Act.put, List.setIfInBounds_toArray, List.set_cons_zero, List.set_cons_succ]
          have S2 := S1.trans hx2
          refine drawn_freeG 3 95 (v := ?v3_274) (.binOp .geq 3 (.tmp 94) (.const (.int .i64 0)) 3) none (by kernel_rfl) rfl ?hy3_274 (by as_aux_lemma => kernel_rfl) (by as_aux_lemma => kernel_rfl) (by as_aux_lemma => kernel_rfl) (fun _ _ _ _ h => h) S2 ?hr3_274
          case hy3_274 => (intro o ho w' hS; unfold execOp; simp only [ho]; go_simp; try with_reducible rfl)
          simp only [Act.put, List.setIfInBounds_toArray, List.set_cons_zero, List.set_cons_succ]
          refine drawn_freeG 4 96 (v := ?v4_275) (.move (.tmp 95)) none (by kernel_rfl) rfl ?hy4_275 (by as_aux_lemma => kernel_rfl) (by as_aux_lemma => kernel_rfl) (by as_aux_lemma => kernel_rfl) (fun _ _ _ _ h => h) S2 ?hr4_275
          case hy4_275 => (intro o ho w' hS; unfold execOp; simp only [ho]; go_simp; try with_reducible rfl)
          simp only [Act.put, List.setIfInBounds_toArray, List.set_cons_zero, List.set_cons_succ]
          refine drawn_loadG 5 97 34 (.tmp 9) (some (4, true)) (g9) 34 #[.bool bu, .slice Pu lu ku] (0, 0) _ (by kernel_rfl) rfl rfl (fun w' hS => (HBu.out.ext (((((((((((((((((((((((hy5.out.trans hy6.out).trans hy7.out).trans hy8.out).trans hy9.out).trans hy10.out).trans hy11.out).trans hy12.out).trans hy13.out).trans hy14.out).trans hy15.out).trans hy16.out).trans hy17.out).trans hy18.out).trans hy19.out).trans hy20.out).trans hy21.out).trans hy22.out).trans hy23.out).trans hy24.out).trans hy25.out).trans hy26.out).trans hy27.out).trans hy28.out)).ext hS) Try.underlying34 rfl info_z_s (by as_aux_lemma => kernel_rfl) (by as_aux_lemma => kernel_rfl) (by as_aux_lemma => kernel_rfl) (fun _ _ _ _ h => h) S2 ?_
          simp only [Act.put, List.setIfInBounds_toArray, List.set_cons_zero, List.set_cons_succ]
          refine wpAnyH_ready (rs := [6]) (by kernel_rfl) (by simp) ?_
          refine drawn_callG1 6 (some 98) (.const (.int .i64 9223372036854775807)) (ts := #[2]) (some (4, true)) (by kernel_rfl) rfl (enters_of Try.func26 (by kernel_rfl) rfl) rfl (zsmall_v (n := 9223372036854775807) (by omega) (by omega)) (fun E v6 hh => ?_) drawn_nil
          obtain ⟨b6, A6, n6, c6, rfl, o6, hx6⟩ := hh
          refine ⟨_, rfl, S2.trans hx6, ?_⟩
          simp only [Act.put, List.setIfInBounds_toArray, List.set_cons_zero, List.set_cons_succ]
          have S6 := S2.trans hx6
          refine wpAnyH_ready (rs := [7]) (by kernel_rfl) (by simp) ?_
          refine drawn_callG2 7 (some 99) (.tmp 97) (.tmp 98) (ts := #[34, 34]) (some (4, true)) (by kernel_rfl) rfl (enters_of Try.func21 (by kernel_rfl) rfl) rfl rfl (zcmp_is (((HOu.out.ext (((((((((((((((((((((((hy5.out.trans hy6.out).trans hy7.out).trans hy8.out).trans hy9.out).trans hy10.out).trans hy11.out).trans hy12.out).trans hy13.out).trans hy14.out).trans hy15.out).trans hy16.out).trans hy17.out).trans hy18.out).trans hy19.out).trans hy20.out).trans hy21.out).trans hy22.out).trans hy23.out).trans hy24.out).trans hy25.out).trans hy26.out).trans hy27.out).trans hy28.out))).ext S6) o6 (by omega) q2.out) (fun E v7 hh => ?_) drawn_nil
          obtain ⟨rfl, hx7⟩ := hh
          refine ⟨_, rfl, S6.trans hx7, ?_⟩
          simp only [Act.put, List.setIfInBounds_toArray, List.set_cons_zero, List.set_cons_succ]
          have S7 := S6.trans hx7
          refine drawn_freeG 8 100 (v := ?v8_276) (.binOp .leq 3 (.tmp 99) (.const (.int .i64 0)) 3) (some (4, true)) (by kernel_rfl) rfl ?hy8_276 (by as_aux_lemma => kernel_rfl) (by as_aux_lemma => kernel_rfl) (by as_aux_lemma => kernel_rfl) (fun _ _ _ _ h => h) S7 ?hr8_276
          case hy8_276 => (intro o ho w' hS; unfold execOp; simp only [ho]; go_simp; try with_reducible rfl)
          simp only [Act.put, List.setIfInBounds_toArray, List.set_cons_zero, List.set_cons_succ]
          refine drawn_freeG 9 101 (v := ?v9_277) (.pick (.tmp 96) (.tmp 100) (.const (.bool false))) none (by kernel_rfl) rfl ?hy9_277 (by as_aux_lemma => kernel_rfl) (by as_aux_lemma => kernel_rfl) (by as_aux_lemma => kernel_rfl) (fun _ _ _ _ h => h) S7 ?hr9_277
          case hy9_277 => (intro o ho w' hS; unfold execOp; simp only [ho]; go_simp; try with_reducible rfl)
          simp only [Act.put, List.setIfInBounds_toArray, List.set_cons_zero, List.set_cons_succ]
          refine drawn_freeG 10 14 (v := ?v10_278) (.assign (.tmp 101)) none (by kernel_rfl) rfl ?hy10_278 (by as_aux_lemma => kernel_rfl) (by as_aux_lemma => kernel_rfl) (by as_aux_lemma => kernel_rfl) (fun _ _ _ _ h => h) S7 ?hr10_278
          case hy10_278 => (intro o ho w' hS; unfold execOp; simp only [ho]; go_simp; try with_reducible rfl)
          simp only [Act.put, List.setIfInBounds_toArray, List.set_cons_zero, List.set_cons_succ]
          refine wpAnyH_done (by kernel_rfl) ?_ _
          go_step
          go_step
          go_meet
          case rel => exact ⟨rfl, S7⟩
  case rest =>
  obtain ⟨rfl, hy29⟩ := hcut
  obtain ⟨w29, hw29⟩ : ∃ w29, w29 = wc := ⟨_, rfl⟩
  subst hw29
  have hy29 := hid hy29
  have X29 := hid (X28.out.trans hy29.out)
  go_upto_region 8 with fail
  go_cut [137] (fun v137 wx => v137 = .bool false ∧ Ext w29 wx)
  case first =>
    rcases HSM.out with ⟨h1, h2, rfl, rfl⟩ | ⟨h1, rfl, rfl⟩
    · skip
      as_aux_lemma =>
        refine wp_region_held_drew (S := fun w' => Ext w29 w') (by kernel_rfl) (Ext.refl _).drew (fun hS0 => ?_)
        change wpAnyH _ _ _ _ _ 36 #[false, false, false, false, false, false, false, false, false, false, false, false, false, false, false, false, false, false, false, false, false, false, false, false, false, false, false, false, false, false, false, false, false, false, false, false] _ _
        refine drawn_freeG 0 102 (v := ?v0_279) (.move (.tmp 11)) none (by kernel_rfl) rfl ?hy0_279 (by as_aux_lemma => kernel_rfl) (by as_aux_lemma => kernel_rfl) (by as_aux_lemma => kernel_rfl) (fun _ _ _ _ h => h) hS0 ?hr0_279
        case hy0_279 => (intro o ho w' hS; unfold execOp; simp only [ho]; go_simp; try with_reducible rfl)
        simp only [Act.put, List.setIfInBounds_toArray, List.set_cons_zero, List.set_cons_succ]
        refine drawn_freeG 1 103 (v := ?v1_280) (.unOp .not 4 (.tmp 102)) none (by kernel_rfl) rfl ?hy1_280 (by as_aux_lemma => kernel_rfl) (by as_aux_lemma => kernel_rfl) (by as_aux_lemma => kernel_rfl) (fun _ _ _ _ h => h) hS0 ?hr1_280
        case hy1_280 => (intro o ho w' hS; unfold execOp; simp only [ho]; go_simp; try with_reducible rfl)
        simp only [Act.put, List.setIfInBounds_toArray, List.set_cons_zero, List.set_cons_succ]
        refine drawn_freeG 2 104 (v := ?v2_281) (.move (.tmp 103)) none (by kernel_rfl) rfl ?hy2_281 (by as_aux_lemma => kernel_rfl) (by as_aux_lemma => kernel_rfl) (by as_aux_lemma => kernel_rfl) (fun _ _ _ _ h => h) hS0 ?hr2_281
        case hy2_281 => (intro o ho w' hS; unfold execOp; simp only [ho]; go_simp; try with_reducible rfl)
        simp only [Act.put, List.setIfInBounds_toArray, List.set_cons_zero, List.set_cons_succ]
        refine drawn_freeG 3 105 (v := ?v3_282) (.move (.tmp 13)) (some (2, false)) (by kernel_rfl) rfl ?hy3_282 (by as_aux_lemma => kernel_rfl) (by as_aux_lemma => kernel_rfl) (by as_aux_lemma => kernel_rfl) (fun _ _ _ _ h => h) hS0 ?hr3_282
        case hy3_282 => (intro o ho w' hS; unfold execOp; simp only [ho]; go_simp; try with_reducible rfl)
        simp only [Act.put, List.setIfInBounds_toArray, List.set_cons_zero, List.set_cons_succ]
        refine drawn_freeG 4 106 (v := ?v4_283) (.move (.tmp 14)) (some (2, false)) (by kernel_rfl) rfl ?hy4_283 (by as_aux_lemma => kernel_rfl) (by as_aux_lemma => kernel_rfl) (by as_aux_lemma => kernel_rfl) (fun _ _ _ _ h => h) hS0 ?hr4_283
        case hy4_283 => (intro o ho w' hS; unfold execOp; simp only [ho]; go_simp; try with_reducible rfl)
        simp only [Act.put, List.setIfInBounds_toArray, List.set_cons_zero, List.set_cons_succ]
        refine drawn_freeG 5 107 (v := ?v5_284) (.binOp .neq 4 (.tmp 105) (.tmp 106) 4) (some (2, false)) (by kernel_rfl) rfl ?hy5_284 (by as_aux_lemma => kernel_rfl) (by as_aux_lemma => kernel_rfl) (by as_aux_lemma => kernel_rfl) (fun _ _ _ _ h => h) hS0 ?hr5_284
        case hy5_284 => (intro o ho w' hS; unfold execOp; simp only [ho]; go_simp; try with_reducible rfl)
        simp only [Act.put, List.setIfInBounds_toArray, List.set_cons_zero, List.set_cons_succ]
        refine drawn_freeG 6 108 (v := ?v6_285) (.pick (.tmp 104) (.const (.bool true)) (.tmp 107)) none (by kernel_rfl) rfl ?hy6_285 (by as_aux_lemma => kernel_rfl) (by as_aux_lemma => kernel_rfl) (by as_aux_lemma => kernel_rfl) (fun _ _ _ _ h => h) hS0 ?hr6_285
        case hy6_285 => (intro o ho w' hS; unfold execOp; simp only [ho]; go_simp; try with_reducible rfl)
        simp only [Act.put, List.setIfInBounds_toArray, List.set_cons_zero, List.set_cons_succ]
        refine drawn_freeG 7 109 (v := ?v7_286) (.move (.tmp 108)) none (by kernel_rfl) rfl ?hy7_286 (by as_aux_lemma => kernel_rfl) (by as_aux_lemma => kernel_rfl) (by as_aux_lemma => kernel_rfl) (fun _ _ _ _ h => h) hS0 ?hr7_286
        case hy7_286 => (intro o ho w' hS; unfold execOp; simp only [ho]; go_simp; try with_reducible rfl)
        simp only [Act.put, List.setIfInBounds_toArray, List.set_cons_zero, List.set_cons_succ]
        refine drawn_freeG 8 110 (v := ?v8_287) (.move (.tmp 13)) (some (7, false)) (by kernel_rfl) rfl ?hy8_287 (by as_aux_lemma => kernel_rfl) (by as_aux_lemma => kernel_rfl) (by as_aux_lemma => kernel_rfl) (fun _ _ _ _ h => h) hS0 ?hr8_287
        case hy8_287 => (intro o ho w' hS; unfold execOp; simp only [ho]; go_simp; try with_reducible rfl)
        simp only [Act.put, List.setIfInBounds_toArray, List.set_cons_zero, List.set_cons_succ]
        refine drawn_freeG 9 111 (v := ?v9_288) (.move (.tmp 110)) (some (7, false)) (by kernel_rfl) rfl ?hy9_288 (by as_aux_lemma => kernel_rfl) (by as_aux_lemma => kernel_rfl) (by as_aux_lemma => kernel_rfl) (fun _ _ _ _ h => h) hS0 ?hr9_288
        case hy9_288 => (intro o ho w' hS; unfold execOp; simp only [ho]; go_simp; try with_reducible rfl)
        simp only [Act.put, List.setIfInBounds_toArray, List.set_cons_zero, List.set_cons_succ]
        refine drawn_freeG 10 112 (v := ?v10_289) (.move (.tmp 12)) (some (9, true)) (by kernel_rfl) rfl ?hy10_289 (by as_aux_lemma => kernel_rfl) (by as_aux_lemma => kernel_rfl) (by as_aux_lemma => kernel_rfl) (fun _ _ _ _ h => h) hS0 ?hr10_289
        case hy10_289 => (intro o ho w' hS; unfold execOp; simp only [ho]; go_simp; try with_reducible rfl)
        simp only [Act.put, List.setIfInBounds_toArray, List.set_cons_zero, List.set_cons_succ]
        refine drawn_loadG 13 115 34 (.tmp 9) (some (9, true)) (g9) 34 #[.bool bu, .slice Pu lu ku] (0, 0) _ (by kernel_rfl) rfl rfl (fun w' hS => (HBu.out.ext ((((((((((((((((((((((((hy5.out.trans hy6.out).trans hy7.out).trans hy8.out).trans hy9.out).trans hy10.out).trans hy11.out).trans hy12.out).trans hy13.out).trans hy14.out).trans hy15.out).trans hy16.out).trans hy17.out).trans hy18.out).trans hy19.out).trans hy20.out).trans hy21.out).trans hy22.out).trans hy23.out).trans hy24.out).trans hy25.out).trans hy26.out).trans hy27.out).trans hy28.out).trans hy29.out)).ext hS) Try.underlying34 rfl info_z_s (by as_aux_lemma => kernel_rfl) (by as_aux_lemma => kernel_rfl) (by as_aux_lemma => kernel_rfl) (fun _ _ _ _ h => h) hS0 ?_
        simp only [Act.put, List.setIfInBounds_toArray, List.set_cons_zero, List.set_cons_succ]
        refine wpAnyH_ready (rs := [11]) (by kernel_rfl) (by simp) ?_
        refine drawn_callG1 11 (some 113) (.tmp 112) (ts := #[2]) (some (9, true)) (by kernel_rfl) rfl (enters_of Try.func26 (by kernel_rfl) rfl) rfl (zsmall_v h1 h2) (fun E v11 hh => ?_) drawn_nil
        obtain ⟨b11, A11, n11, c11, rfl, o11, hx11⟩ := hh
        refine ⟨_, rfl, hS0.trans hx11, ?_⟩
        simp only [Act.put, List.setIfInBounds_toArray, List.set_cons_zero, List.set_cons_succ]
        have S11 := hS0.trans hx11
        refine wpAnyH_ready (rs := [12]) (by kernel_rfl) (by simp) ?_
        refine drawn_callG1 12 (some 114) (.tmp 113) (ts := #[34]) (some (9, true)) (by kernel_rfl) rfl (enters_of Try.func19 (by kernel_rfl) rfl) rfl (zint_v o11 (by omega)) (fun E v12 hh => ?_) drawn_nil
        obtain ⟨b12, A12, n12, c12, rfl, o12, hx12⟩ := hh
        refine ⟨_, rfl, S11.trans hx12, ?_⟩
        simp only [Act.put, List.setIfInBounds_toArray, List.set_cons_zero, List.set_cons_succ]
        have S12 := S11.trans hx12
        refine wpAnyH_ready (rs := [14]) (by kernel_rfl) (by simp) ?_
        refine drawn_callG1 14 (some 116) (.tmp 115) (ts := #[34]) (some (9, true)) (by kernel_rfl) rfl (enters_of Try.func19 (by kernel_rfl) rfl) rfl (zint_v (((HOu.out.ext ((((((((((((((((((((((((hy5.out.trans hy6.out).trans hy7.out).trans hy8.out).trans hy9.out).trans hy10.out).trans hy11.out).trans hy12.out).trans hy13.out).trans hy14.out).trans hy15.out).trans hy16.out).trans hy17.out).trans hy18.out).trans hy19.out).trans hy20.out).trans hy21.out).trans hy22.out).trans hy23.out).trans hy24.out).trans hy25.out).trans hy26.out).trans hy27.out).trans hy28.out).trans hy29.out))).ext S12) (by omega)) (fun E v14 hh => ?_) drawn_nil
        obtain ⟨b14, A14, n14, c14, rfl, o14, hx14⟩ := hh
        refine ⟨_, rfl, S12.trans hx14, ?_⟩
        simp only [Act.put, List.setIfInBounds_toArray, List.set_cons_zero, List.set_cons_succ]
        have S14 := S12.trans hx14
        refine wpAnyH_ready (rs := [15]) (by kernel_rfl) (by simp) ?_
        refine drawn_callG2 15 (some 117) (.tmp 114) (.tmp 116) (ts := #[24, 24]) (some (9, true)) (by kernel_rfl) rfl (enters_of Try.func17 (by kernel_rfl) rfl) rfl rfl (zsame_v (o12.ext hx14) o14 (by omega) rfl) (fun E v15 hh => ?_) drawn_nil
        obtain ⟨rfl, hx15⟩ := hh
        refine ⟨_, rfl, S14.trans hx15, ?_⟩
        simp only [Act.put, List.setIfInBounds_toArray, List.set_cons_zero, List.set_cons_succ]
        have S15 := S14.trans hx15
        refine drawn_freeG 16 118 (v := ?v16_290) (.unOp .not 4 (.tmp 117)) (some (9, true)) (by kernel_rfl) rfl ?hy16_290 (by as_aux_lemma => kernel_rfl) (by as_aux_lemma => kernel_rfl) (by as_aux_lemma => kernel_rfl) (fun _ _ _ _ h => h) S15 ?hr16_290
        case hy16_290 => (intro o ho w' hS; unfold execOp; simp only [ho]; go_simp; try with_reducible rfl)
        simp only [Act.put, List.setIfInBounds_toArray, List.set_cons_zero, List.set_cons_succ]
        refine drawn_freeG 17 119 (v := ?v17_291) (.pick (.tmp 111) (.tmp 118) (.const (.bool false))) (some (7, false)) (by kernel_rfl) rfl ?hy17_291 (by as_aux_lemma => kernel_rfl) (by as_aux_lemma => kernel_rfl) (by as_aux_lemma => kernel_rfl) (fun _ _ _ _ h => h) S15 ?hr17_291
        case hy17_291 => (intro o ho w' hS; unfold execOp; simp only [ho]; go_simp; try with_reducible rfl)
        simp only [Act.put, List.setIfInBounds_toArray, List.set_cons_zero, List.set_cons_succ]
        refine drawn_freeG 18 120 (v := ?v18_292) (.pick (.tmp 109) (.const (.bool true)) (.tmp 119)) none (by kernel_rfl) rfl ?hy18_292 (by as_aux_lemma => kernel_rfl) (by as_aux_lemma => kernel_rfl) (by as_aux_lemma => kernel_rfl) (fun _ _ _ _ h => h) S15 ?hr18_292
        case hy18_292 => (intro o ho w' hS; unfold execOp; simp only [ho]; go_simp; try with_reducible rfl)
        simp only [Act.put, List.setIfInBounds_toArray, List.set_cons_zero, List.set_cons_succ]
        refine drawn_freeG 19 121 (v := ?v19_293) (.move (.tmp 120)) none (by kernel_rfl) rfl ?hy19_293 (by as_aux_lemma => kernel_rfl) (by as_aux_lemma => kernel_rfl) (by as_aux_lemma => kernel_rfl) (fun _ _ _ _ h => h) S15 ?hr19_293
        case hy19_293 => (intro o ho w' hS; unfold execOp; simp only [ho]; go_simp; try with_reducible rfl)
        simp only [Act.put, List.setIfInBounds_toArray, List.set_cons_zero, List.set_cons_succ]
        refine drawn_freeG 20 122 (v := ?v20_294) (.move (.tmp 13)) (some (19, false)) (by kernel_rfl) rfl ?hy20_294 (by as_aux_lemma => kernel_rfl) (by as_aux_lemma => kernel_rfl) (by as_aux_lemma => kernel_rfl) (fun _ _ _ _ h => h) S15 ?hr20_294
        case hy20_294 => (intro o ho w' hS; unfold execOp; simp only [ho]; go_simp; try with_reducible rfl)
        simp only [Act.put, List.setIfInBounds_toArray, List.set_cons_zero, List.set_cons_succ]
        refine drawn_freeG 21 123 (v := ?v21_295) (.unOp .not 4 (.tmp 122)) (some (19, false)) (by kernel_rfl) rfl ?hy21_295 (by as_aux_lemma => kernel_rfl) (by as_aux_lemma => kernel_rfl) (by as_aux_lemma => kernel_rfl) (fun _ _ _ _ h => h) S15 ?hr21_295
        case hy21_295 => (intro o ho w' hS; unfold execOp; simp only [ho]; go_simp; try with_reducible rfl)
        simp only [Act.put, List.setIfInBounds_toArray, List.set_cons_zero, List.set_cons_succ]
        refine drawn_freeG 22 124 (v := ?v22_296) (.move (.tmp 123)) (some (19, false)) (by kernel_rfl) rfl ?hy22_296 (by as_aux_lemma => kernel_rfl) (by as_aux_lemma => kernel_rfl) (by as_aux_lemma => kernel_rfl) (fun _ _ _ _ h => h) S15 ?hr22_296
        case hy22_296 => (intro o ho w' hS; unfold execOp; simp only [ho]; go_simp; try with_reducible rfl)
        simp only [Act.put, List.setIfInBounds_toArray, List.set_cons_zero, List.set_cons_succ]
        refine drawn_skipG 23 125 (.move (.tmp 12)) (some (22, true)) (by kernel_rfl) rfl (by as_aux_lemma => kernel_rfl) (by as_aux_lemma => kernel_rfl) (by as_aux_lemma => kernel_rfl) (fun _ _ _ _ h => h) S15 ?_
        simp only [Act.put, List.setIfInBounds_toArray, List.set_cons_zero, List.set_cons_succ]
        refine drawn_skipG 24 126 (.binOp .neq 2 (.tmp 125) (.const (.int .i64 0)) 2) (some (22, true)) (by kernel_rfl) rfl (by as_aux_lemma => kernel_rfl) (by as_aux_lemma => kernel_rfl) (by as_aux_lemma => kernel_rfl) (fun _ _ _ _ h => h) S15 ?_
        simp only [Act.put, List.setIfInBounds_toArray, List.set_cons_zero, List.set_cons_succ]
        refine drawn_freeG 25 127 (v := ?v25_297) (.pick (.tmp 124) (.tmp 126) (.const (.bool false))) (some (19, false)) (by kernel_rfl) rfl ?hy25_297 (by as_aux_lemma => kernel_rfl) (by as_aux_lemma => kernel_rfl) (by as_aux_lemma => kernel_rfl) (fun _ _ _ _ h => h) S15 ?hr25_297
        case hy25_297 => (intro o ho w' hS; unfold execOp; simp only [ho]; go_simp; try with_reducible rfl)
        simp only [Act.put, List.setIfInBounds_toArray, List.set_cons_zero, List.set_cons_succ]
        refine drawn_freeG 26 128 (v := ?v26_298) (.pick (.tmp 121) (.const (.bool true)) (.tmp 127)) none (by kernel_rfl) rfl ?hy26_298 (by as_aux_lemma => kernel_rfl) (by as_aux_lemma => kernel_rfl) (by as_aux_lemma => kernel_rfl) (fun _ _ _ _ h => h) S15 ?hr26_298
        case hy26_298 => (intro o ho w' hS; unfold execOp; simp only [ho]; go_simp; try with_reducible rfl)
        simp only [Act.put, List.setIfInBounds_toArray, List.set_cons_zero, List.set_cons_succ]
        refine drawn_freeG 27 129 (v := ?v27_299) (.move (.tmp 128)) none (by kernel_rfl) rfl ?hy27_299 (by as_aux_lemma => kernel_rfl) (by as_aux_lemma => kernel_rfl) (by as_aux_lemma => kernel_rfl) (fun _ _ _ _ h => h) S15 ?hr27_299
        case hy27_299 => (intro o ho w' hS; unfold execOp; simp only [ho]; go_simp; try with_reducible rfl)
        simp only [Act.put, List.setIfInBounds_toArray, List.set_cons_zero, List.set_cons_succ]
        refine drawn_freeG 28 130 (v := ?v28_300) (.move (.tmp 2)) (some (27, false)) (by kernel_rfl) rfl ?hy28_300 (by as_aux_lemma => kernel_rfl) (by as_aux_lemma => kernel_rfl) (by as_aux_lemma => kernel_rfl) (fun _ _ _ _ h => h) S15 ?hr28_300
        case hy28_300 => (intro o ho w' hS; unfold execOp; simp only [ho]; go_simp; try with_reducible rfl)
        simp only [Act.put, List.setIfInBounds_toArray, List.set_cons_zero, List.set_cons_succ]
        refine drawn_freeG 30 132 (v := ?v30_301) (.move (.tmp 2)) (some (27, false)) (by kernel_rfl) rfl ?hy30_301 (by as_aux_lemma => kernel_rfl) (by as_aux_lemma => kernel_rfl) (by as_aux_lemma => kernel_rfl) (fun _ _ _ _ h => h) S15 ?hr30_301
        case hy30_301 => (intro o ho w' hS; unfold execOp; simp only [ho]; go_simp; try with_reducible rfl)
        simp only [Act.put, List.setIfInBounds_toArray, List.set_cons_zero, List.set_cons_succ]
        refine wpAnyH_ready (rs := [29]) (by kernel_rfl) (by simp) ?_
        refine drawn_callG1 29 (some 131) (.tmp 130) (ts := #[2]) (some (27, false)) (by kernel_rfl) rfl (enters_of Try.func44 (by kernel_rfl) rfl) rfl (wof_v N0.out N1.out) (fun E v29 hh => ?_) drawn_nil
        obtain ⟨b29, A29, n29, c29, rfl, o29, hx29⟩ := hh
        refine ⟨_, rfl, S15.trans hx29, ?_⟩
        simp only [Act.put, List.setIfInBounds_toArray, List.set_cons_zero, List.set_cons_succ]
        have S29 := S15.trans hx29
        refine wpAnyH_ready (rs := [31]) (by kernel_rfl) (by simp) ?_
        refine drawn_callG1 31 (some 133) (.tmp 132) (ts := #[2]) (some (27, false)) (by kernel_rfl) rfl (enters_of Try.func26 (by kernel_rfl) rfl) rfl (zsmall_v N0.out N1.out) (fun E v31 hh => ?_) drawn_nil
        obtain ⟨b31, A31, n31, c31, rfl, o31, hx31⟩ := hh
        refine ⟨_, rfl, S29.trans hx31, ?_⟩
        simp only [Act.put, List.setIfInBounds_toArray, List.set_cons_zero, List.set_cons_succ]
        have S31 := S29.trans hx31
        refine wpAnyH_ready (rs := [32]) (by kernel_rfl) (by simp) ?_
        refine drawn_callG1 32 (some 134) (.tmp 133) (ts := #[34]) (some (27, false)) (by kernel_rfl) rfl (enters_of Try.func19 (by kernel_rfl) rfl) rfl (zint_v o31 (by omega)) (fun E v32 hh => ?_) drawn_nil
        obtain ⟨b32, A32, n32, c32, rfl, o32, hx32⟩ := hh
        refine ⟨_, rfl, S31.trans hx32, ?_⟩
        simp only [Act.put, List.setIfInBounds_toArray, List.set_cons_zero, List.set_cons_succ]
        have S32 := S31.trans hx32
        refine wpAnyH_ready (rs := [33]) (by kernel_rfl) (by simp) ?_
        refine drawn_callG2 33 (some 135) (.tmp 131) (.tmp 134) (ts := #[24, 24]) (some (27, false)) (by kernel_rfl) rfl (enters_of Try.func17 (by kernel_rfl) rfl) rfl rfl (zsame_v ((o29.ext hx31).ext hx32) o32 (by omega) rfl) (fun E v33 hh => ?_) drawn_nil
        obtain ⟨rfl, hx33⟩ := hh
        refine ⟨_, rfl, S32.trans hx33, ?_⟩
        simp only [Act.put, List.setIfInBounds_toArray, List.set_cons_zero, List.set_cons_succ]
        have S33 := S32.trans hx33
        refine drawn_freeG 34 136 (v := ?v34_302) (.unOp .not 4 (.tmp 135)) (some (27, false)) (by kernel_rfl) rfl ?hy34_302 (by as_aux_lemma => kernel_rfl) (by as_aux_lemma => kernel_rfl) (by as_aux_lemma => kernel_rfl) (fun _ _ _ _ h => h) S33 ?hr34_302
        case hy34_302 => (intro o ho w' hS; unfold execOp; simp only [ho]; go_simp; try with_reducible rfl)
        simp only [Act.put, List.setIfInBounds_toArray, List.set_cons_zero, List.set_cons_succ]
        refine drawn_freeG 35 137 (v := ?v35_303) (.pick (.tmp 129) (.const (.bool true)) (.tmp 136)) none (by kernel_rfl) rfl ?hy35_303 (by as_aux_lemma => kernel_rfl) (by as_aux_lemma => kernel_rfl) (by as_aux_lemma => kernel_rfl) (fun _ _ _ _ h => h) S33 ?hr35_303
        case hy35_303 => (intro o ho w' hS; unfold execOp; simp only [ho]; go_simp; try with_reducible rfl)
        simp only [Act.put, List.setIfInBounds_toArray, List.set_cons_zero, List.set_cons_succ]
        refine wpAnyH_done (by kernel_rfl) ?_ _
        go_step
        go_step
        go_meet
        case rel => exact ⟨rfl, S33⟩
    · clear h1
      as_aux_lemma =>
        refine wp_region_held_drew (S := fun w' => Ext w29 w') (by kernel_rfl) (Ext.refl _).drew (fun hS0 => ?_)
        change wpAnyH _ _ _ _ _ 36 #[false, false, false, false, false, false, false, false, false, false, false, false, false, false, false, false, false, false, false, false, false, false, false, false, false, false, false, false, false, false, false, false, false, false, false, false] _ _
        refine drawn_freeG 0 102 (v := ?v0_304) (.move (.tmp 11)) none (by kernel_rfl) rfl ?hy0_304 (by as_aux_lemma => kernel_rfl) (by as_aux_lemma => kernel_rfl) (by as_aux_lemma => kernel_rfl) (fun _ _ _ _ h => h) hS0 ?hr0_304
        case hy0_304 => (intro o ho w' hS; unfold execOp; simp only [ho]; go_simp; try with_reducible rfl)
        simp only [Act.put, List.setIfInBounds_toArray, List.set_cons_zero, List.set_cons_succ]
        refine drawn_freeG 1 103 (v := ?v1_305) (.unOp .not 4 (.tmp 102)) none (by kernel_rfl) rfl ?hy1_305 (by as_aux_lemma => kernel_rfl) (by as_aux_lemma => kernel_rfl) (by as_aux_lemma => kernel_rfl) (fun _ _ _ _ h => h) hS0 ?hr1_305
        case hy1_305 => (intro o ho w' hS; unfold execOp; simp only [ho]; go_simp; try with_reducible rfl)
        simp only [Act.put, List.setIfInBounds_toArray, List.set_cons_zero, List.set_cons_succ]
        refine drawn_freeG 2 104 (v := ?v2_306) (.move (.tmp 103)) none (by kernel_rfl) rfl ?hy2_306 (by as_aux_lemma => kernel_rfl) (by as_aux_lemma => kernel_rfl) (by as_aux_lemma => kernel_rfl) (fun _ _ _ _ h => h) hS0 ?hr2_306
        case hy2_306 => (intro o ho w' hS; unfold execOp; simp only [ho]; go_simp; try with_reducible rfl)
        simp only [Act.put, List.setIfInBounds_toArray, List.set_cons_zero, List.set_cons_succ]
        refine drawn_freeG 3 105 (v := ?v3_307) (.move (.tmp 13)) (some (2, false)) (by kernel_rfl) rfl ?hy3_307 (by as_aux_lemma => kernel_rfl) (by as_aux_lemma => kernel_rfl) (by as_aux_lemma => kernel_rfl) (fun _ _ _ _ h => h) hS0 ?hr3_307
        case hy3_307 => (intro o ho w' hS; unfold execOp; simp only [ho]; go_simp; try with_reducible rfl)
        simp only [Act.put, List.setIfInBounds_toArray, List.set_cons_zero, List.set_cons_succ]
        refine drawn_freeG 4 106 (v := ?v4_308) (.move (.tmp 14)) (some (2, false)) (by kernel_rfl) rfl ?hy4_308 (by as_aux_lemma => kernel_rfl) (by as_aux_lemma => kernel_rfl) (by as_aux_lemma => kernel_rfl) (fun _ _ _ _ h => h) hS0 ?hr4_308
        case hy4_308 => (intro o ho w' hS; unfold execOp; simp only [ho]; go_simp; try with_reducible rfl)
        simp only [Act.put, List.setIfInBounds_toArray, List.set_cons_zero, List.set_cons_succ]
        refine drawn_freeG 5 107 (v := ?v5_309) (.binOp .neq 4 (.tmp 105) (.tmp 106) 4) (some (2, false)) (by kernel_rfl) rfl ?hy5_309 (by as_aux_lemma => kernel_rfl) (by as_aux_lemma => kernel_rfl) (by as_aux_lemma => kernel_rfl) (fun _ _ _ _ h => h) hS0 ?hr5_309
        case hy5_309 => (intro o ho w' hS; unfold execOp; simp only [ho]; go_simp; try with_reducible rfl)
        simp only [Act.put, List.setIfInBounds_toArray, List.set_cons_zero, List.set_cons_succ]
        refine drawn_freeG 6 108 (v := ?v6_310) (.pick (.tmp 104) (.const (.bool true)) (.tmp 107)) none (by kernel_rfl) rfl ?hy6_310 (by as_aux_lemma => kernel_rfl) (by as_aux_lemma => kernel_rfl) (by as_aux_lemma => kernel_rfl) (fun _ _ _ _ h => h) hS0 ?hr6_310
        case hy6_310 => (intro o ho w' hS; unfold execOp; simp only [ho]; go_simp; try with_reducible rfl)
        simp only [Act.put, List.setIfInBounds_toArray, List.set_cons_zero, List.set_cons_succ]
        refine drawn_freeG 7 109 (v := ?v7_311) (.move (.tmp 108)) none (by kernel_rfl) rfl ?hy7_311 (by as_aux_lemma => kernel_rfl) (by as_aux_lemma => kernel_rfl) (by as_aux_lemma => kernel_rfl) (fun _ _ _ _ h => h) hS0 ?hr7_311
        case hy7_311 => (intro o ho w' hS; unfold execOp; simp only [ho]; go_simp; try with_reducible rfl)
        simp only [Act.put, List.setIfInBounds_toArray, List.set_cons_zero, List.set_cons_succ]
        refine drawn_freeG 8 110 (v := ?v8_312) (.move (.tmp 13)) (some (7, false)) (by kernel_rfl) rfl ?hy8_312 (by as_aux_lemma => kernel_rfl) (by as_aux_lemma => kernel_rfl) (by as_aux_lemma => kernel_rfl) (fun _ _ _ _ h => h) hS0 ?hr8_312
        case hy8_312 => (intro o ho w' hS; unfold execOp; simp only [ho]; go_simp; try with_reducible rfl)
        simp only [Act.put, List.setIfInBounds_toArray, List.set_cons_zero, List.set_cons_succ]
        refine drawn_freeG 9 111 (v := ?v9_313) (.move (.tmp 110)) (some (7, false)) (by kernel_rfl) rfl ?hy9_313 (by as_aux_lemma => kernel_rfl) (by as_aux_lemma => kernel_rfl) (by as_aux_lemma => kernel_rfl) (fun _ _ _ _ h => h) hS0 ?hr9_313
        case hy9_313 => (intro o ho w' hS; unfold execOp; simp only [ho]; go_simp; try with_reducible rfl)
        simp only [Act.put, List.setIfInBounds_toArray, List.set_cons_zero, List.set_cons_succ]
        refine drawn_skipG 10 112 (.move (.tmp 12)) (some (9, true)) (by kernel_rfl) rfl (by as_aux_lemma => kernel_rfl) (by as_aux_lemma => kernel_rfl) (by as_aux_lemma => kernel_rfl) (fun _ _ _ _ h => h) hS0 ?_
        simp only [Act.put, List.setIfInBounds_toArray, List.set_cons_zero, List.set_cons_succ]
        refine drawn_skipG 11 113 (.call { callee := .value (Operand.func 26), args := #[.tmp 112], argTypes := #[2] }) (some (9, true)) (by kernel_rfl) rfl (by as_aux_lemma => kernel_rfl) (by as_aux_lemma => kernel_rfl) (by as_aux_lemma => kernel_rfl) (fun _ _ _ _ h => h) hS0 ?_
        simp only [Act.put, List.setIfInBounds_toArray, List.set_cons_zero, List.set_cons_succ]
        refine drawn_skipG 12 114 (.call { callee := .value (Operand.func 19), args := #[.tmp 113], argTypes := #[34] }) (some (9, true)) (by kernel_rfl) rfl (by as_aux_lemma => kernel_rfl) (by as_aux_lemma => kernel_rfl) (by as_aux_lemma => kernel_rfl) (fun _ _ _ _ h => h) hS0 ?_
        simp only [Act.put, List.setIfInBounds_toArray, List.set_cons_zero, List.set_cons_succ]
        refine drawn_skipG 13 115 (.load 34 (.tmp 9)) (some (9, true)) (by kernel_rfl) rfl (by as_aux_lemma => kernel_rfl) (by as_aux_lemma => kernel_rfl) (by as_aux_lemma => kernel_rfl) (fun _ _ _ _ h => h) hS0 ?_
        simp only [Act.put, List.setIfInBounds_toArray, List.set_cons_zero, List.set_cons_succ]
        refine drawn_skipG 14 116 (.call { callee := .value (Operand.func 19), args := #[.tmp 115], argTypes := #[34] }) (some (9, true)) (by kernel_rfl) rfl (by as_aux_lemma => kernel_rfl) (by as_aux_lemma => kernel_rfl) (by as_aux_lemma => kernel_rfl) (fun _ _ _ _ h => h) hS0 ?_
        simp only [Act.put, List.setIfInBounds_toArray, List.set_cons_zero, List.set_cons_succ]
        refine drawn_skipG 15 117 (.call { callee := .value (Operand.func 17), args := #[.tmp 114, .tmp 116], argTypes := #[24, 24] }) (some (9, true)) (by kernel_rfl) rfl (by as_aux_lemma => kernel_rfl) (by as_aux_lemma => kernel_rfl) (by as_aux_lemma => kernel_rfl) (fun _ _ _ _ h => h) hS0 ?_
        simp only [Act.put, List.setIfInBounds_toArray, List.set_cons_zero, List.set_cons_succ]
        refine drawn_skipG 16 118 (.unOp .not 4 (.tmp 117)) (some (9, true)) (by kernel_rfl) rfl (by as_aux_lemma => kernel_rfl) (by as_aux_lemma => kernel_rfl) (by as_aux_lemma => kernel_rfl) (fun _ _ _ _ h => h) hS0 ?_
        simp only [Act.put, List.setIfInBounds_toArray, List.set_cons_zero, List.set_cons_succ]
        refine drawn_freeG 17 119 (v := ?v17_314) (.pick (.tmp 111) (.tmp 118) (.const (.bool false))) (some (7, false)) (by kernel_rfl) rfl ?hy17_314 (by as_aux_lemma => kernel_rfl) (by as_aux_lemma => kernel_rfl) (by as_aux_lemma => kernel_rfl) (fun _ _ _ _ h => h) hS0 ?hr17_314
        case hy17_314 => (intro o ho w' hS; unfold execOp; simp only [ho]; go_simp; try with_reducible rfl)
        simp only [Act.put, List.setIfInBounds_toArray, List.set_cons_zero, List.set_cons_succ]
        refine drawn_freeG 18 120 (v := ?v18_315) (.pick (.tmp 109) (.const (.bool true)) (.tmp 119)) none (by kernel_rfl) rfl ?hy18_315 (by as_aux_lemma => kernel_rfl) (by as_aux_lemma => kernel_rfl) (by as_aux_lemma => kernel_rfl) (fun _ _ _ _ h => h) hS0 ?hr18_315
        case hy18_315 => (intro o ho w' hS; unfold execOp; simp only [ho]; go_simp; try with_reducible rfl)
        simp only [Act.put, List.setIfInBounds_toArray, List.set_cons_zero, List.set_cons_succ]
        refine drawn_freeG 19 121 (v := ?v19_316) (.move (.tmp 120)) none (by kernel_rfl) rfl ?hy19_316 (by as_aux_lemma => kernel_rfl) (by as_aux_lemma => kernel_rfl) (by as_aux_lemma => kernel_rfl) (fun _ _ _ _ h => h) hS0 ?hr19_316
        case hy19_316 => (intro o ho w' hS; unfold execOp; simp only [ho]; go_simp; try with_reducible rfl)
        simp only [Act.put, List.setIfInBounds_toArray, List.set_cons_zero, List.set_cons_succ]
        refine drawn_freeG 20 122 (v := ?v20_317) (.move (.tmp 13)) (some (19, false)) (by kernel_rfl) rfl ?hy20_317 (by as_aux_lemma => kernel_rfl) (by as_aux_lemma => kernel_rfl) (by as_aux_lemma => kernel_rfl) (fun _ _ _ _ h => h) hS0 ?hr20_317
        case hy20_317 => (intro o ho w' hS; unfold execOp; simp only [ho]; go_simp; try with_reducible rfl)
        simp only [Act.put, List.setIfInBounds_toArray, List.set_cons_zero, List.set_cons_succ]
        refine drawn_freeG 21 123 (v := ?v21_318) (.unOp .not 4 (.tmp 122)) (some (19, false)) (by kernel_rfl) rfl ?hy21_318 (by as_aux_lemma => kernel_rfl) (by as_aux_lemma => kernel_rfl) (by as_aux_lemma => kernel_rfl) (fun _ _ _ _ h => h) hS0 ?hr21_318
        case hy21_318 => (intro o ho w' hS; unfold execOp; simp only [ho]; go_simp; try with_reducible rfl)
        simp only [Act.put, List.setIfInBounds_toArray, List.set_cons_zero, List.set_cons_succ]
        refine drawn_freeG 22 124 (v := ?v22_319) (.move (.tmp 123)) (some (19, false)) (by kernel_rfl) rfl ?hy22_319 (by as_aux_lemma => kernel_rfl) (by as_aux_lemma => kernel_rfl) (by as_aux_lemma => kernel_rfl) (fun _ _ _ _ h => h) hS0 ?hr22_319
        case hy22_319 => (intro o ho w' hS; unfold execOp; simp only [ho]; go_simp; try with_reducible rfl)
        simp only [Act.put, List.setIfInBounds_toArray, List.set_cons_zero, List.set_cons_succ]
        refine drawn_freeG 23 125 (v := ?v23_320) (.move (.tmp 12)) (some (22, true)) (by kernel_rfl) rfl ?hy23_320 (by as_aux_lemma => kernel_rfl) (by as_aux_lemma => kernel_rfl) (by as_aux_lemma => kernel_rfl) (fun _ _ _ _ h => h) hS0 ?hr23_320
        case hy23_320 => (intro o ho w' hS; unfold execOp; simp only [ho]; go_simp; try with_reducible rfl)
        simp only [Act.put, List.setIfInBounds_toArray, List.set_cons_zero, List.set_cons_succ]
        refine drawn_freeG 24 126 (v := ?v24_321) (.binOp .neq 2 (.tmp 125) (.const (.int .i64 0)) 2) (some (22, true)) (by kernel_rfl) rfl ?hy24_321 (by as_aux_lemma => kernel_rfl) (by as_aux_lemma => kernel_rfl) (by as_aux_lemma => kernel_rfl) (fun _ _ _ _ h => h) hS0 ?hr24_321
        case hy24_321 => (intro o ho w' hS; unfold execOp; simp only [ho]; go_simp; try with_reducible rfl)
        simp only [Act.put, List.setIfInBounds_toArray, List.set_cons_zero, List.set_cons_succ]
        refine drawn_freeG 25 127 (v := ?v25_322) (.pick (.tmp 124) (.tmp 126) (.const (.bool false))) (some (19, false)) (by kernel_rfl) rfl ?hy25_322 (by as_aux_lemma => kernel_rfl) (by as_aux_lemma => kernel_rfl) (by as_aux_lemma => kernel_rfl) (fun _ _ _ _ h => h) hS0 ?hr25_322
        case hy25_322 => (intro o ho w' hS; unfold execOp; simp only [ho]; go_simp; try with_reducible rfl)
        simp only [Act.put, List.setIfInBounds_toArray, List.set_cons_zero, List.set_cons_succ]
        refine drawn_freeG 26 128 (v := ?v26_323) (.pick (.tmp 121) (.const (.bool true)) (.tmp 127)) none (by kernel_rfl) rfl ?hy26_323 (by as_aux_lemma => kernel_rfl) (by as_aux_lemma => kernel_rfl) (by as_aux_lemma => kernel_rfl) (fun _ _ _ _ h => h) hS0 ?hr26_323
        case hy26_323 => (intro o ho w' hS; unfold execOp; simp only [ho]; go_simp; try with_reducible rfl)
        simp only [Act.put, List.setIfInBounds_toArray, List.set_cons_zero, List.set_cons_succ]
        refine drawn_freeG 27 129 (v := ?v27_324) (.move (.tmp 128)) none (by kernel_rfl) rfl ?hy27_324 (by as_aux_lemma => kernel_rfl) (by as_aux_lemma => kernel_rfl) (by as_aux_lemma => kernel_rfl) (fun _ _ _ _ h => h) hS0 ?hr27_324
        case hy27_324 => (intro o ho w' hS; unfold execOp; simp only [ho]; go_simp; try with_reducible rfl)
        simp only [Act.put, List.setIfInBounds_toArray, List.set_cons_zero, List.set_cons_succ]
        refine drawn_freeG 28 130 (v := ?v28_325) (.move (.tmp 2)) (some (27, false)) (by kernel_rfl) rfl ?hy28_325 (by as_aux_lemma => kernel_rfl) (by as_aux_lemma => kernel_rfl) (by as_aux_lemma => kernel_rfl) (fun _ _ _ _ h => h) hS0 ?hr28_325
        case hy28_325 => (intro o ho w' hS; unfold execOp; simp only [ho]; go_simp; try with_reducible rfl)
        simp only [Act.put, List.setIfInBounds_toArray, List.set_cons_zero, List.set_cons_succ]
        refine drawn_freeG 30 132 (v := ?v30_326) (.move (.tmp 2)) (some (27, false)) (by kernel_rfl) rfl ?hy30_326 (by as_aux_lemma => kernel_rfl) (by as_aux_lemma => kernel_rfl) (by as_aux_lemma => kernel_rfl) (fun _ _ _ _ h => h) hS0 ?hr30_326
        case hy30_326 => (intro o ho w' hS; unfold execOp; simp only [ho]; go_simp; try with_reducible rfl)
        simp only [Act.put, List.setIfInBounds_toArray, List.set_cons_zero, List.set_cons_succ]
        refine wpAnyH_ready (rs := [29]) (by kernel_rfl) (by simp) ?_
        refine drawn_callG1 29 (some 131) (.tmp 130) (ts := #[2]) (some (27, false)) (by kernel_rfl) rfl (enters_of Try.func44 (by kernel_rfl) rfl) rfl (wof_v N0.out N1.out) (fun E v29 hh => ?_) drawn_nil
        obtain ⟨b29, A29, n29, c29, rfl, o29, hx29⟩ := hh
        refine ⟨_, rfl, hS0.trans hx29, ?_⟩
        simp only [Act.put, List.setIfInBounds_toArray, List.set_cons_zero, List.set_cons_succ]
        have S29 := hS0.trans hx29
        refine wpAnyH_ready (rs := [31]) (by kernel_rfl) (by simp) ?_
        refine drawn_callG1 31 (some 133) (.tmp 132) (ts := #[2]) (some (27, false)) (by kernel_rfl) rfl (enters_of Try.func26 (by kernel_rfl) rfl) rfl (zsmall_v N0.out N1.out) (fun E v31 hh => ?_) drawn_nil
        obtain ⟨b31, A31, n31, c31, rfl, o31, hx31⟩ := hh
        refine ⟨_, rfl, S29.trans hx31, ?_⟩
        simp only [Act.put, List.setIfInBounds_toArray, List.set_cons_zero, List.set_cons_succ]
        have S31 := S29.trans hx31
        refine wpAnyH_ready (rs := [32]) (by kernel_rfl) (by simp) ?_
        refine drawn_callG1 32 (some 134) (.tmp 133) (ts := #[34]) (some (27, false)) (by kernel_rfl) rfl (enters_of Try.func19 (by kernel_rfl) rfl) rfl (zint_v o31 (by omega)) (fun E v32 hh => ?_) drawn_nil
        obtain ⟨b32, A32, n32, c32, rfl, o32, hx32⟩ := hh
        refine ⟨_, rfl, S31.trans hx32, ?_⟩
        simp only [Act.put, List.setIfInBounds_toArray, List.set_cons_zero, List.set_cons_succ]
        have S32 := S31.trans hx32
        refine wpAnyH_ready (rs := [33]) (by kernel_rfl) (by simp) ?_
        refine drawn_callG2 33 (some 135) (.tmp 131) (.tmp 134) (ts := #[24, 24]) (some (27, false)) (by kernel_rfl) rfl (enters_of Try.func17 (by kernel_rfl) rfl) rfl rfl (zsame_v ((o29.ext hx31).ext hx32) o32 (by omega) rfl) (fun E v33 hh => ?_) drawn_nil
        obtain ⟨rfl, hx33⟩ := hh
        refine ⟨_, rfl, S32.trans hx33, ?_⟩
        simp only [Act.put, List.setIfInBounds_toArray, List.set_cons_zero, List.set_cons_succ]
        have S33 := S32.trans hx33
        refine drawn_freeG 34 136 (v := ?v34_327) (.unOp .not 4 (.tmp 135)) (some (27, false)) (by kernel_rfl) rfl ?hy34_327 (by as_aux_lemma => kernel_rfl) (by as_aux_lemma => kernel_rfl) (by as_aux_lemma => kernel_rfl) (fun _ _ _ _ h => h) S33 ?hr34_327
        case hy34_327 => (intro o ho w' hS; unfold execOp; simp only [ho]; go_simp; try with_reducible rfl)
        simp only [Act.put, List.setIfInBounds_toArray, List.set_cons_zero, List.set_cons_succ]
        refine drawn_freeG 35 137 (v := ?v35_328) (.pick (.tmp 129) (.const (.bool true)) (.tmp 136)) none (by kernel_rfl) rfl ?hy35_328 (by as_aux_lemma => kernel_rfl) (by as_aux_lemma => kernel_rfl) (by as_aux_lemma => kernel_rfl) (fun _ _ _ _ h => h) S33 ?hr35_328
        case hy35_328 => (intro o ho w' hS; unfold execOp; simp only [ho]; go_simp; try with_reducible rfl)
        simp only [Act.put, List.setIfInBounds_toArray, List.set_cons_zero, List.set_cons_succ]
        refine wpAnyH_done (by kernel_rfl) ?_ _
        go_step
        go_step
        go_meet
        case rel => exact ⟨rfl, S33⟩
  case rest =>
  obtain ⟨rfl, hy30⟩ := hcut
  obtain ⟨w30, hw30⟩ : ∃ w30, w30 = wc := ⟨_, rfl⟩
  subst hw30
  have hy30 := hid hy30
  have X30 := hid (X29.out.trans hy30.out)
  obtain ⟨f30_0, f30_1, f30_2, f30_3, f30_4, f30_5, f30_6, f30_7⟩ : w30.cell? ⟨g7, 0, none⟩ = some (.bool sx) ∧ w30.cell? ⟨g7, 1, none⟩ = some (.slice P7 lx r7) ∧ w30.cell? ⟨w.heap.size, 0, none⟩ = some (.bool sx) ∧ w30.cell? ⟨w.heap.size, 1, none⟩ = some (.slice Px lx kx) ∧ w30.cell? ⟨g8, 0, none⟩ = some (.bool sy) ∧ w30.cell? ⟨g8, 1, none⟩ = some (.slice P8 ly r8) ∧ w30.cell? ⟨w.heap.size + 1, 0, none⟩ = some (.bool sy) ∧ w30.cell? ⟨w.heap.size + 1, 1, none⟩ = some (.slice Py ly ky) := ⟨(HBa.out.ext ((((((((((((((((((((((((((hy4.out.trans hy5.out).trans hy6.out).trans hy7.out).trans hy8.out).trans hy9.out).trans hy10.out).trans hy11.out).trans hy12.out).trans hy13.out).trans hy14.out).trans hy15.out).trans hy16.out).trans hy17.out).trans hy18.out).trans hy19.out).trans hy20.out).trans hy21.out).trans hy22.out).trans hy23.out).trans hy24.out).trans hy25.out).trans hy26.out).trans hy27.out).trans hy28.out).trans hy29.out).trans hy30.out)).c0, (HBa.out.ext ((((((((((((((((((((((((((hy4.out.trans hy5.out).trans hy6.out).trans hy7.out).trans hy8.out).trans hy9.out).trans hy10.out).trans hy11.out).trans hy12.out).trans hy13.out).trans hy14.out).trans hy15.out).trans hy16.out).trans hy17.out).trans hy18.out).trans hy19.out).trans hy20.out).trans hy21.out).trans hy22.out).trans hy23.out).trans hy24.out).trans hy25.out).trans hy26.out).trans hy27.out).trans hy28.out).trans hy29.out).trans hy30.out)).c1, (HBx.out.ext ((((((((((((((((((((((((((((hy2.out.trans hy3.out).trans hy4.out).trans hy5.out).trans hy6.out).trans hy7.out).trans hy8.out).trans hy9.out).trans hy10.out).trans hy11.out).trans hy12.out).trans hy13.out).trans hy14.out).trans hy15.out).trans hy16.out).trans hy17.out).trans hy18.out).trans hy19.out).trans hy20.out).trans hy21.out).trans hy22.out).trans hy23.out).trans hy24.out).trans hy25.out).trans hy26.out).trans hy27.out).trans hy28.out).trans hy29.out).trans hy30.out)).c0, (HBx.out.ext ((((((((((((((((((((((((((((hy2.out.trans hy3.out).trans hy4.out).trans hy5.out).trans hy6.out).trans hy7.out).trans hy8.out).trans hy9.out).trans hy10.out).trans hy11.out).trans hy12.out).trans hy13.out).trans hy14.out).trans hy15.out).trans hy16.out).trans hy17.out).trans hy18.out).trans hy19.out).trans hy20.out).trans hy21.out).trans hy22.out).trans hy23.out).trans hy24.out).trans hy25.out).trans hy26.out).trans hy27.out).trans hy28.out).trans hy29.out).trans hy30.out)).c1, (HBb.out.ext ((((((((((((((((((((((((((hy4.out.trans hy5.out).trans hy6.out).trans hy7.out).trans hy8.out).trans hy9.out).trans hy10.out).trans hy11.out).trans hy12.out).trans hy13.out).trans hy14.out).trans hy15.out).trans hy16.out).trans hy17.out).trans hy18.out).trans hy19.out).trans hy20.out).trans hy21.out).trans hy22.out).trans hy23.out).trans hy24.out).trans hy25.out).trans hy26.out).trans hy27.out).trans hy28.out).trans hy29.out).trans hy30.out)).c0, (HBb.out.ext ((((((((((((((((((((((((((hy4.out.trans hy5.out).trans hy6.out).trans hy7.out).trans hy8.out).trans hy9.out).trans hy10.out).trans hy11.out).trans hy12.out).trans hy13.out).trans hy14.out).trans hy15.out).trans hy16.out).trans hy17.out).trans hy18.out).trans hy19.out).trans hy20.out).trans hy21.out).trans hy22.out).trans hy23.out).trans hy24.out).trans hy25.out).trans hy26.out).trans hy27.out).trans hy28.out).trans hy29.out).trans hy30.out)).c1, (HBy.out.ext ((((((((((((((((((((((((((((hy2.out.trans hy3.out).trans hy4.out).trans hy5.out).trans hy6.out).trans hy7.out).trans hy8.out).trans hy9.out).trans hy10.out).trans hy11.out).trans hy12.out).trans hy13.out).trans hy14.out).trans hy15.out).trans hy16.out).trans hy17.out).trans hy18.out).trans hy19.out).trans hy20.out).trans hy21.out).trans hy22.out).trans hy23.out).trans hy24.out).trans hy25.out).trans hy26.out).trans hy27.out).trans hy28.out).trans hy29.out).trans hy30.out)).c0, (HBy.out.ext ((((((((((((((((((((((((((((hy2.out.trans hy3.out).trans hy4.out).trans hy5.out).trans hy6.out).trans hy7.out).trans hy8.out).trans hy9.out).trans hy10.out).trans hy11.out).trans hy12.out).trans hy13.out).trans hy14.out).trans hy15.out).trans hy16.out).trans hy17.out).trans hy18.out).trans hy19.out).trans hy20.out).trans hy21.out).trans hy22.out).trans hy23.out).trans hy24.out).trans hy25.out).trans hy26.out).trans hy27.out).trans hy28.out).trans hy29.out).trans hy30.out)).c1⟩
  go_wp2_with (first
    | ((go_at_call 17); (with_reducible refine (zsame_c (HOa.out.ext ((((((((((((((((((((((((((hy4.out.trans hy5.out).trans hy6.out).trans hy7.out).trans hy8.out).trans hy9.out).trans hy10.out).trans hy11.out).trans hy12.out).trans hy13.out).trans hy14.out).trans hy15.out).trans hy16.out).trans hy17.out).trans hy18.out).trans hy19.out).trans hy20.out).trans hy21.out).trans hy22.out).trans hy23.out).trans hy24.out).trans hy25.out).trans hy26.out).trans hy27.out).trans hy28.out).trans hy29.out).trans hy30.out)) (GX.out.ext (((((((((((((((((((((((((((((hy1.out.trans hy2.out).trans hy3.out).trans hy4.out).trans hy5.out).trans hy6.out).trans hy7.out).trans hy8.out).trans hy9.out).trans hy10.out).trans hy11.out).trans hy12.out).trans hy13.out).trans hy14.out).trans hy15.out).trans hy16.out).trans hy17.out).trans hy18.out).trans hy19.out).trans hy20.out).trans hy21.out).trans hy22.out).trans hy23.out).trans hy24.out).trans hy25.out).trans hy26.out).trans hy27.out).trans hy28.out).trans hy29.out).trans hy30.out)) (by omega)).mono ?_); rintro E31 w31 ⟨rfl, hr31⟩; have X31 := hid (X30.out.trans hr31); have hy31 := hid hr31; clear hr31; obtain ⟨f31_0, f31_1, f31_2, f31_3, f31_4, f31_5, f31_6, f31_7⟩ : w31.cell? ⟨g7, 0, none⟩ = some (.bool sx) ∧ w31.cell? ⟨g7, 1, none⟩ = some (.slice P7 lx r7) ∧ w31.cell? ⟨w.heap.size, 0, none⟩ = some (.bool sx) ∧ w31.cell? ⟨w.heap.size, 1, none⟩ = some (.slice Px lx kx) ∧ w31.cell? ⟨g8, 0, none⟩ = some (.bool sy) ∧ w31.cell? ⟨g8, 1, none⟩ = some (.slice P8 ly r8) ∧ w31.cell? ⟨w.heap.size + 1, 0, none⟩ = some (.bool sy) ∧ w31.cell? ⟨w.heap.size + 1, 1, none⟩ = some (.slice Py ly ky) := ⟨(HBa.out.ext (((((((((((((((((((((((((((hy4.out.trans hy5.out).trans hy6.out).trans hy7.out).trans hy8.out).trans hy9.out).trans hy10.out).trans hy11.out).trans hy12.out).trans hy13.out).trans hy14.out).trans hy15.out).trans hy16.out).trans hy17.out).trans hy18.out).trans hy19.out).trans hy20.out).trans hy21.out).trans hy22.out).trans hy23.out).trans hy24.out).trans hy25.out).trans hy26.out).trans hy27.out).trans hy28.out).trans hy29.out).trans hy30.out).trans hy31.out)).c0, (HBa.out.ext (((((((((((((((((((((((((((hy4.out.trans hy5.out).trans hy6.out).trans hy7.out).trans hy8.out).trans hy9.out).trans hy10.out).trans hy11.out).trans hy12.out).trans hy13.out).trans hy14.out).trans hy15.out).trans hy16.out).trans hy17.out).trans hy18.out).trans hy19.out).trans hy20.out).trans hy21.out).trans hy22.out).trans hy23.out).trans hy24.out).trans hy25.out).trans hy26.out).trans hy27.out).trans hy28.out).trans hy29.out).trans hy30.out).trans hy31.out)).c1, (HBx.out.ext (((((((((((((((((((((((((((((hy2.out.trans hy3.out).trans hy4.out).trans hy5.out).trans hy6.out).trans hy7.out).trans hy8.out).trans hy9.out).trans hy10.out).trans hy11.out).trans hy12.out).trans hy13.out).trans hy14.out).trans hy15.out).trans hy16.out).trans hy17.out).trans hy18.out).trans hy19.out).trans hy20.out).trans hy21.out).trans hy22.out).trans hy23.out).trans hy24.out).trans hy25.out).trans hy26.out).trans hy27.out).trans hy28.out).trans hy29.out).trans hy30.out).trans hy31.out)).c0, (HBx.out.ext (((((((((((((((((((((((((((((hy2.out.trans hy3.out).trans hy4.out).trans hy5.out).trans hy6.out).trans hy7.out).trans hy8.out).trans hy9.out).trans hy10.out).trans hy11.out).trans hy12.out).trans hy13.out).trans hy14.out).trans hy15.out).trans hy16.out).trans hy17.out).trans hy18.out).trans hy19.out).trans hy20.out).trans hy21.out).trans hy22.out).trans hy23.out).trans hy24.out).trans hy25.out).trans hy26.out).trans hy27.out).trans hy28.out).trans hy29.out).trans hy30.out).trans hy31.out)).c1, (HBb.out.ext (((((((((((((((((((((((((((hy4.out.trans hy5.out).trans hy6.out).trans hy7.out).trans hy8.out).trans hy9.out).trans hy10.out).trans hy11.out).trans hy12.out).trans hy13.out).trans hy14.out).trans hy15.out).trans hy16.out).trans hy17.out).trans hy18.out).trans hy19.out).trans hy20.out).trans hy21.out).trans hy22.out).trans hy23.out).trans hy24.out).trans hy25.out).trans hy26.out).trans hy27.out).trans hy28.out).trans hy29.out).trans hy30.out).trans hy31.out)).c0, (HBb.out.ext (((((((((((((((((((((((((((hy4.out.trans hy5.out).trans hy6.out).trans hy7.out).trans hy8.out).trans hy9.out).trans hy10.out).trans hy11.out).trans hy12.out).trans hy13.out).trans hy14.out).trans hy15.out).trans hy16.out).trans hy17.out).trans hy18.out).trans hy19.out).trans hy20.out).trans hy21.out).trans hy22.out).trans hy23.out).trans hy24.out).trans hy25.out).trans hy26.out).trans hy27.out).trans hy28.out).trans hy29.out).trans hy30.out).trans hy31.out)).c1, (HBy.out.ext (((((((((((((((((((((((((((((hy2.out.trans hy3.out).trans hy4.out).trans hy5.out).trans hy6.out).trans hy7.out).trans hy8.out).trans hy9.out).trans hy10.out).trans hy11.out).trans hy12.out).trans hy13.out).trans hy14.out).trans hy15.out).trans hy16.out).trans hy17.out).trans hy18.out).trans hy19.out).trans hy20.out).trans hy21.out).trans hy22.out).trans hy23.out).trans hy24.out).trans hy25.out).trans hy26.out).trans hy27.out).trans hy28.out).trans hy29.out).trans hy30.out).trans hy31.out)).c0, (HBy.out.ext (((((((((((((((((((((((((((((hy2.out.trans hy3.out).trans hy4.out).trans hy5.out).trans hy6.out).trans hy7.out).trans hy8.out).trans hy9.out).trans hy10.out).trans hy11.out).trans hy12.out).trans hy13.out).trans hy14.out).trans hy15.out).trans hy16.out).trans hy17.out).trans hy18.out).trans hy19.out).trans hy20.out).trans hy21.out).trans hy22.out).trans hy23.out).trans hy24.out).trans hy25.out).trans hy26.out).trans hy27.out).trans hy28.out).trans hy29.out).trans hy30.out).trans hy31.out)).c1⟩)
    | ((go_at_call 17); (with_reducible refine (zsame_c (HOb.out.ext (((((((((((((((((((((((((((hy4.out.trans hy5.out).trans hy6.out).trans hy7.out).trans hy8.out).trans hy9.out).trans hy10.out).trans hy11.out).trans hy12.out).trans hy13.out).trans hy14.out).trans hy15.out).trans hy16.out).trans hy17.out).trans hy18.out).trans hy19.out).trans hy20.out).trans hy21.out).trans hy22.out).trans hy23.out).trans hy24.out).trans hy25.out).trans hy26.out).trans hy27.out).trans hy28.out).trans hy29.out).trans hy30.out).trans hy31.out)) (GY.out.ext ((((((((((((((((((((((((((((((hy1.out.trans hy2.out).trans hy3.out).trans hy4.out).trans hy5.out).trans hy6.out).trans hy7.out).trans hy8.out).trans hy9.out).trans hy10.out).trans hy11.out).trans hy12.out).trans hy13.out).trans hy14.out).trans hy15.out).trans hy16.out).trans hy17.out).trans hy18.out).trans hy19.out).trans hy20.out).trans hy21.out).trans hy22.out).trans hy23.out).trans hy24.out).trans hy25.out).trans hy26.out).trans hy27.out).trans hy28.out).trans hy29.out).trans hy30.out).trans hy31.out)) (by omega)).mono ?_); rintro E32 w32 ⟨rfl, hr32⟩; have X32 := hid (X31.out.trans hr32); have hy32 := hid hr32; clear hr32; obtain ⟨f32_0, f32_1, f32_2, f32_3, f32_4, f32_5, f32_6, f32_7⟩ : w32.cell? ⟨g7, 0, none⟩ = some (.bool sx) ∧ w32.cell? ⟨g7, 1, none⟩ = some (.slice P7 lx r7) ∧ w32.cell? ⟨w.heap.size, 0, none⟩ = some (.bool sx) ∧ w32.cell? ⟨w.heap.size, 1, none⟩ = some (.slice Px lx kx) ∧ w32.cell? ⟨g8, 0, none⟩ = some (.bool sy) ∧ w32.cell? ⟨g8, 1, none⟩ = some (.slice P8 ly r8) ∧ w32.cell? ⟨w.heap.size + 1, 0, none⟩ = some (.bool sy) ∧ w32.cell? ⟨w.heap.size + 1, 1, none⟩ = some (.slice Py ly ky) := ⟨(HBa.out.ext ((((((((((((((((((((((((((((hy4.out.trans hy5.out).trans hy6.out).trans hy7.out).trans hy8.out).trans hy9.out).trans hy10.out).trans hy11.out).trans hy12.out).trans hy13.out).trans hy14.out).trans hy15.out).trans hy16.out).trans hy17.out).trans hy18.out).trans hy19.out).trans hy20.out).trans hy21.out).trans hy22.out).trans hy23.out).trans hy24.out).trans hy25.out).trans hy26.out).trans hy27.out).trans hy28.out).trans hy29.out).trans hy30.out).trans hy31.out).trans hy32.out)).c0, (HBa.out.ext ((((((((((((((((((((((((((((hy4.out.trans hy5.out).trans hy6.out).trans hy7.out).trans hy8.out).trans hy9.out).trans hy10.out).trans hy11.out).trans hy12.out).trans hy13.out).trans hy14.out).trans hy15.out).trans hy16.out).trans hy17.out).trans hy18.out).trans hy19.out).trans hy20.out).trans hy21.out).trans hy22.out).trans hy23.out).trans hy24.out).trans hy25.out).trans hy26.out).trans hy27.out).trans hy28.out).trans hy29.out).trans hy30.out).trans hy31.out).trans hy32.out)).c1, (HBx.out.ext ((((((((((((((((((((((((((((((hy2.out.trans hy3.out).trans hy4.out).trans hy5.out).trans hy6.out).trans hy7.out).trans hy8.out).trans hy9.out).trans hy10.out).trans hy11.out).trans hy12.out).trans hy13.out).trans hy14.out).trans hy15.out).trans hy16.out).trans hy17.out).trans hy18.out).trans hy19.out).trans hy20.out).trans hy21.out).trans hy22.out).trans hy23.out).trans hy24.out).trans hy25.out).trans hy26.out).trans hy27.out).trans hy28.out).trans hy29.out).trans hy30.out).trans hy31.out).trans hy32.out)).c0, (HBx.out.ext ((((((((((((((((((((((((((((((hy2.out.trans hy3.out).trans hy4.out).trans hy5.out).trans hy6.out).trans hy7.out).trans hy8.out).trans hy9.out).trans hy10.out).trans hy11.out).trans hy12.out).trans hy13.out).trans hy14.out).trans hy15.out).trans hy16.out).trans hy17.out).trans hy18.out).trans hy19.out).trans hy20.out).trans hy21.out).trans hy22.out).trans hy23.out).trans hy24.out).trans hy25.out).trans hy26.out).trans hy27.out).trans hy28.out).trans hy29.out).trans hy30.out).trans hy31.out).trans hy32.out)).c1, (HBb.out.ext ((((((((((((((((((((((((((((hy4.out.trans hy5.out).trans hy6.out).trans hy7.out).trans hy8.out).trans hy9.out).trans hy10.out).trans hy11.out).trans hy12.out).trans hy13.out).trans hy14.out).trans hy15.out).trans hy16.out).trans hy17.out).trans hy18.out).trans hy19.out).trans hy20.out).trans hy21.out).trans hy22.out).trans hy23.out).trans hy24.out).trans hy25.out).trans hy26.out).trans hy27.out).trans hy28.out).trans hy29.out).trans hy30.out).trans hy31.out).trans hy32.out)).c0, (HBb.out.ext ((((((((((((((((((((((((((((hy4.out.trans hy5.out).trans hy6.out).trans hy7.out).trans hy8.out).trans hy9.out).trans hy10.out).trans hy11.out).trans hy12.out).trans hy13.out).trans hy14.out).trans hy15.out).trans hy16.out).trans hy17.out).trans hy18.out).trans hy19.out).trans hy20.out).trans hy21.out).trans hy22.out).trans hy23.out).trans hy24.out).trans hy25.out).trans hy26.out).trans hy27.out).trans hy28.out).trans hy29.out).trans hy30.out).trans hy31.out).trans hy32.out)).c1, (HBy.out.ext ((((((((((((((((((((((((((((((hy2.out.trans hy3.out).trans hy4.out).trans hy5.out).trans hy6.out).trans hy7.out).trans hy8.out).trans hy9.out).trans hy10.out).trans hy11.out).trans hy12.out).trans hy13.out).trans hy14.out).trans hy15.out).trans hy16.out).trans hy17.out).trans hy18.out).trans hy19.out).trans hy20.out).trans hy21.out).trans hy22.out).trans hy23.out).trans hy24.out).trans hy25.out).trans hy26.out).trans hy27.out).trans hy28.out).trans hy29.out).trans hy30.out).trans hy31.out).trans hy32.out)).c0, (HBy.out.ext ((((((((((((((((((((((((((((((hy2.out.trans hy3.out).trans hy4.out).trans hy5.out).trans hy6.out).trans hy7.out).trans hy8.out).trans hy9.out).trans hy10.out).trans hy11.out).trans hy12.out).trans hy13.out).trans hy14.out).trans hy15.out).trans hy16.out).trans hy17.out).trans hy18.out).trans hy19.out).trans hy20.out).trans hy21.out).trans hy22.out).trans hy23.out).trans hy24.out).trans hy25.out).trans hy26.out).trans hy27.out).trans hy28.out).trans hy29.out).trans hy30.out).trans hy31.out).trans hy32.out)).c1⟩)
    | ((go_at_call 29); (with_reducible refine (known_any4).mono ?_); rintro E33 w33 ⟨rfl, hr33⟩; have X33 := hid (X32.out.trans hr33); have hy33 := hid hr33; clear hr33; obtain ⟨f33_0, f33_1, f33_2, f33_3, f33_4, f33_5, f33_6, f33_7⟩ : w33.cell? ⟨g7, 0, none⟩ = some (.bool sx) ∧ w33.cell? ⟨g7, 1, none⟩ = some (.slice P7 lx r7) ∧ w33.cell? ⟨w.heap.size, 0, none⟩ = some (.bool sx) ∧ w33.cell? ⟨w.heap.size, 1, none⟩ = some (.slice Px lx kx) ∧ w33.cell? ⟨g8, 0, none⟩ = some (.bool sy) ∧ w33.cell? ⟨g8, 1, none⟩ = some (.slice P8 ly r8) ∧ w33.cell? ⟨w.heap.size + 1, 0, none⟩ = some (.bool sy) ∧ w33.cell? ⟨w.heap.size + 1, 1, none⟩ = some (.slice Py ly ky) := ⟨(HBa.out.ext (((((((((((((((((((((((((((((hy4.out.trans hy5.out).trans hy6.out).trans hy7.out).trans hy8.out).trans hy9.out).trans hy10.out).trans hy11.out).trans hy12.out).trans hy13.out).trans hy14.out).trans hy15.out).trans hy16.out).trans hy17.out).trans hy18.out).trans hy19.out).trans hy20.out).trans hy21.out).trans hy22.out).trans hy23.out).trans hy24.out).trans hy25.out).trans hy26.out).trans hy27.out).trans hy28.out).trans hy29.out).trans hy30.out).trans hy31.out).trans hy32.out).trans hy33.out)).c0, (HBa.out.ext (((((((((((((((((((((((((((((hy4.out.trans hy5.out).trans hy6.out).trans hy7.out).trans hy8.out).trans hy9.out).trans hy10.out).trans hy11.out).trans hy12.out).trans hy13.out).trans hy14.out).trans hy15.out).trans hy16.out).trans hy17.out).trans hy18.out).trans hy19.out).trans hy20.out).trans hy21.out).trans hy22.out).trans hy23.out).trans hy24.out).trans hy25.out).trans hy26.out).trans hy27.out).trans hy28.out).trans hy29.out).trans hy30.out).trans hy31.out).trans hy32.out).trans hy33.out)).c1, (HBx.out.ext (((((((((((((((((((((((((((((((hy2.out.trans hy3.out).trans hy4.out).trans hy5.out).trans hy6.out).trans hy7.out).trans hy8.out).trans hy9.out).trans hy10.out).trans hy11.out).trans hy12.out).trans hy13.out).trans hy14.out).trans hy15.out).trans hy16.out).trans hy17.out).trans hy18.out).trans hy19.out).trans hy20.out).trans hy21.out).trans hy22.out).trans hy23.out).trans hy24.out).trans hy25.out).trans hy26.out).trans hy27.out).trans hy28.out).trans hy29.out).trans hy30.out).trans hy31.out).trans hy32.out).trans hy33.out)).c0, (HBx.out.ext (((((((((((((((((((((((((((((((hy2.out.trans hy3.out).trans hy4.out).trans hy5.out).trans hy6.out).trans hy7.out).trans hy8.out).trans hy9.out).trans hy10.out).trans hy11.out).trans hy12.out).trans hy13.out).trans hy14.out).trans hy15.out).trans hy16.out).trans hy17.out).trans hy18.out).trans hy19.out).trans hy20.out).trans hy21.out).trans hy22.out).trans hy23.out).trans hy24.out).trans hy25.out).trans hy26.out).trans hy27.out).trans hy28.out).trans hy29.out).trans hy30.out).trans hy31.out).trans hy32.out).trans hy33.out)).c1, (HBb.out.ext (((((((((((((((((((((((((((((hy4.out.trans hy5.out).trans hy6.out).trans hy7.out).trans hy8.out).trans hy9.out).trans hy10.out).trans hy11.out).trans hy12.out).trans hy13.out).trans hy14.out).trans hy15.out).trans hy16.out).trans hy17.out).trans hy18.out).trans hy19.out).trans hy20.out).trans hy21.out).trans hy22.out).trans hy23.out).trans hy24.out).trans hy25.out).trans hy26.out).trans hy27.out).trans hy28.out).trans hy29.out).trans hy30.out).trans hy31.out).trans hy32.out).trans hy33.out)).c0, (HBb.out.ext (((((((((((((((((((((((((((((hy4.out.trans hy5.out).trans hy6.out).trans hy7.out).trans hy8.out).trans hy9.out).trans hy10.out).trans hy11.out).trans hy12.out).trans hy13.out).trans hy14.out).trans hy15.out).trans hy16.out).trans hy17.out).trans hy18.out).trans hy19.out).trans hy20.out).trans hy21.out).trans hy22.out).trans hy23.out).trans hy24.out).trans hy25.out).trans hy26.out).trans hy27.out).trans hy28.out).trans hy29.out).trans hy30.out).trans hy31.out).trans hy32.out).trans hy33.out)).c1, (HBy.out.ext (((((((((((((((((((((((((((((((hy2.out.trans hy3.out).trans hy4.out).trans hy5.out).trans hy6.out).trans hy7.out).trans hy8.out).trans hy9.out).trans hy10.out).trans hy11.out).trans hy12.out).trans hy13.out).trans hy14.out).trans hy15.out).trans hy16.out).trans hy17.out).trans hy18.out).trans hy19.out).trans hy20.out).trans hy21.out).trans hy22.out).trans hy23.out).trans hy24.out).trans hy25.out).trans hy26.out).trans hy27.out).trans hy28.out).trans hy29.out).trans hy30.out).trans hy31.out).trans hy32.out).trans hy33.out)).c0, (HBy.out.ext (((((((((((((((((((((((((((((((hy2.out.trans hy3.out).trans hy4.out).trans hy5.out).trans hy6.out).trans hy7.out).trans hy8.out).trans hy9.out).trans hy10.out).trans hy11.out).trans hy12.out).trans hy13.out).trans hy14.out).trans hy15.out).trans hy16.out).trans hy17.out).trans hy18.out).trans hy19.out).trans hy20.out).trans hy21.out).trans hy22.out).trans hy23.out).trans hy24.out).trans hy25.out).trans hy26.out).trans hy27.out).trans hy28.out).trans hy29.out).trans hy30.out).trans hy31.out).trans hy32.out).trans hy33.out)).c1⟩))
  go_ret
  exact ⟨rfl, X33.out⟩

set_option maxHeartbeats 6400000 in
set_option maxRecDepth 100000 in
theorem wholeRing_big {w : World} {sx sy : Bool} {Px Py : Option Addr} {lx kx ly ky : Nat} {n : Int} (hb : 25 < lx ∨ 25 < ly) :
    Calls Try.prog 12 #[.agg #[.bool sx, .slice Px lx kx], .agg #[.bool sy, .slice Py ly ky], .int .i64 n] w (RetE (.bool true) w) := by
  have hbig := hid hb
  clear hb
  go_enter Try.func12, Try.ntmps12
  go_wp2_with fail
  have hy1 := hid ((((Ext.refl w).alloc (.cells #[.bool sx, .slice Px lx kx] 24)).alloc (.cells #[.bool sy, .slice Py ly ky] 24)).alloc (.cells #[.bool sx, .slice Px lx kx, .bool sy, .slice Py ly ky] 24))
  have Bx := ((Bx.new w sx Px lx kx).ext (((Ext.refl (w.alloc (.cells #[.bool sx, .slice Px lx kx] 24))).alloc (.cells #[.bool sy, .slice Py ly ky] 24)).alloc (.cells #[.bool sx, .slice Px lx kx, .bool sy, .slice Py ly ky] 24)))
  have HBx := hid Bx
  clear Bx
  have By := ((Bx.new (w.alloc (.cells #[.bool sx, .slice Px lx kx] 24)) sy Py ly ky).ext ((Ext.refl ((w.alloc (.cells #[.bool sx, .slice Px lx kx] 24)).alloc (.cells #[.bool sy, .slice Py ly ky] 24))).alloc (.cells #[.bool sx, .slice Px lx kx, .bool sy, .slice Py ly ky] 24)))
  rw [size_alloc] at By
  have HBy := hid By
  clear By
  have BR := row2_new ((w.alloc (.cells #[.bool sx, .slice Px lx kx] 24)).alloc (.cells #[.bool sy, .slice Py ly ky] 24)) sx Px lx kx sy Py ly ky
  rw [size_alloc, size_alloc] at BR
  have HBR := hid BR
  clear BR
  generalize (((w.alloc (.cells #[.bool sx, .slice Px lx kx] 24)).alloc (.cells #[.bool sy, .slice Py ly ky] 24)).alloc (.cells #[.bool sx, .slice Px lx kx, .bool sy, .slice Py ly ky] 24)) = w1 at *
  have X1 := hid ((Ext.refl _).trans hy1.out)
  go_wp2_with (first
    | ((go_at_call 33); (with_reducible refine (great2_yes HBR.out hbig.out).mono ?_); rintro E2 w2 ⟨rfl, hr2⟩; have X2 := hid (X1.out.trans hr2); have hy2 := hid hr2; clear hr2; obtain ⟨f2_0, f2_1, f2_2, f2_3⟩ : w2.cell? ⟨w.heap.size, 0, none⟩ = some (.bool sx) ∧ w2.cell? ⟨w.heap.size, 1, none⟩ = some (.slice Px lx kx) ∧ w2.cell? ⟨w.heap.size + 1, 0, none⟩ = some (.bool sy) ∧ w2.cell? ⟨w.heap.size + 1, 1, none⟩ = some (.slice Py ly ky) := ⟨(HBx.out.ext hy2.out).c0, (HBx.out.ext hy2.out).c1, (HBy.out.ext hy2.out).c0, (HBy.out.ext hy2.out).c1⟩)
    | ((go_at_call 29); (with_reducible refine (known_any4).mono ?_); rintro E3 w3 ⟨rfl, hr3⟩; have X3 := hid (X2.out.trans hr3); have hy3 := hid hr3; clear hr3; obtain ⟨f3_0, f3_1, f3_2, f3_3⟩ : w3.cell? ⟨w.heap.size, 0, none⟩ = some (.bool sx) ∧ w3.cell? ⟨w.heap.size, 1, none⟩ = some (.slice Px lx kx) ∧ w3.cell? ⟨w.heap.size + 1, 0, none⟩ = some (.bool sy) ∧ w3.cell? ⟨w.heap.size + 1, 1, none⟩ = some (.slice Py ly ky) := ⟨(HBx.out.ext (hy2.out.trans hy3.out)).c0, (HBx.out.ext (hy2.out.trans hy3.out)).c1, (HBy.out.ext (hy2.out.trans hy3.out)).c0, (HBy.out.ext (hy2.out.trans hy3.out)).c1⟩))
  go_ret
  exact ⟨rfl, X3.out⟩

/-- The arguments as the machine hands them over. -/
theorem wholeRing_any {w : World} {sx sy : Bool} {Px Py : Option Addr} {lx kx ly ky : Nat} {Xx Xy : List Nat} {n : Int} (hx : Sl .u32 w Px lx kx Xx) (mx : Lim 4294967296 Xx) (hy : Sl .u32 w Py ly ky Xy) (my : Lim 4294967296 Xy) (hn0 : -9223372036854775808 ≤ n) (hn1 : n ≤ 9223372036854775807) :
    Calls Try.prog 12 #[.agg #[.bool sx, .slice Px lx kx], .agg #[.bool sy, .slice Py ly ky], .int .i64 n] w (RetE (.bool true) w) := by
  by_cases hb : lx ≤ 25 ∧ ly ≤ 25
  · exact wholeRing_small hx mx hy my rfl rfl hb.1 hb.2 hn0 hn1
  · exact wholeRing_big (by omega)

end Go.Proofs.Ytmfgcjjoagdamaa
