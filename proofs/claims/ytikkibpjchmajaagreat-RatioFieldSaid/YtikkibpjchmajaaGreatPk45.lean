/-
  The walk of RatioField: numbers that are not great. Printed by wip/gen/rat.py.
-/
import Derived.Test.YtikkibpjchmajaaGreatPk36
import Derived.Test.YtikkibpjchmajaaGreatPk29
import Derived.Test.YtikkibpjchmajaaGreatPk37
import Derived.Test.YtikkibpjchmajaaGreatPk39
import Derived.Test.YtikkibpjchmajaaGreatPk41
import Derived.Test.YtikkibpjchmajaaGreatPk44
import Derived.Test.YtikkibpjchmajaaGreatPk25
namespace Go.Proofs.YtikkibpjchmajaaGreat
open Go.RowKit
open Go.Lib (hid)

set_option maxHeartbeats 6400000 in
set_option maxRecDepth 100000 in
theorem ratioField_small {w : World} {sx tx sy ty : Bool} {Px Qx Py Qy : Option Addr} {lx kx mx dx ly ky my dy : Nat} {X Y U V : List Nat} {x y : Rat} (hx : Lq w sx Px lx kx tx Qx mx dx sx X tx Y) (hy : Lq w sy Py ly ky ty Qy my dy sy U ty V) (lx' : LL 8 sx X tx Y x) (ly' : LL 8 sy U ty V y) (b1 : lx ≤ 8) (b2 : mx ≤ 8) (b3 : ly ≤ 8) (b4 : my ≤ 8) :
    Calls Tryz.prog 3 #[.agg #[.bool sx, .slice Px lx kx, .bool tx, .slice Qx mx dx], .agg #[.bool sy, .slice Py ly ky, .bool ty, .slice Qy my dy]] w (RetE (.bool true) w) := by
  obtain ⟨p, hp⟩ : ∃ p, rs x = p := ⟨_, rfl⟩
  obtain ⟨q, hq⟩ : ∃ q, rs (x - y) = q := ⟨_, rfl⟩
  obtain ⟨e, he⟩ : ∃ e, mayR sx X tx Y = e := ⟨_, rfl⟩
  obtain ⟨S, hS⟩ : ∃ S, bts (txr x) = S := ⟨_, rfl⟩
  obtain ⟨N, hN⟩ : ∃ N, zv sx (nv 4294967296 X) = N := ⟨_, rfl⟩
  obtain ⟨D, hD⟩ : ∃ D, dn (zv tx (nv 4294967296 Y)) = D := ⟨_, rfl⟩
  obtain ⟨M, hM⟩ : ∃ M, zv sy (nv 4294967296 U) = M := ⟨_, rfl⟩
  obtain ⟨E, hE⟩ : ∃ E, dn (zv ty (nv 4294967296 V)) = E := ⟨_, rfl⟩
  have HX := hid (show D ≠ 0 ∧ x = (N : Rat) / (D : Rat) from ⟨hD ▸ dn_ne _, by rw [← lx'.2.2.2.2, ← hN, ← hD]; rfl⟩)
  have HY := hid (show E ≠ 0 ∧ y = (M : Rat) / (E : Rat) from ⟨hE ▸ dn_ne _, by rw [← ly'.2.2.2.2, ← hM, ← hE]; rfl⟩)
  have hpp : (p != p) = false := bne_self_eq_false _
  have hqq : (q != q) = false := bne_self_eq_false _
  have hee : (e != e) = false := by cases e <;> rfl
  have hSS : (S.toList == S.toList) = true := seq6 rfl
  have h0 := hid (show -x = ((0 : Int) : Rat) / ((1 : Int) : Rat) - x by
    have : ((1 : Int) : Rat) = 1 := Rat.intCast_one
    have : ((0 : Int) : Rat) = 0 := Rat.intCast_zero
    grind)
  have h1 := hid (rat_one N).symm
  obtain ⟨v, hv⟩ : ∃ v : Int, rs y = v := ⟨_, rfl⟩
  have HV := hid hv
  have HP := hid hp
  have HQ := hid hq
  have HE := hid he
  have HS := hid hS
  have HN := hid hN
  have HD := hid hD
  have HM := hid hM
  have HEE := hid hE
  have LX := hid lx'
  have LY := hid ly'
  have HIZ : ∀ (W : World) (b f : Bool) (A B : Option Addr) (n c m d : Nat), Lq W b A n c f B m d sx X tx Y → Iz 8 W b A n c N := fun _ _ _ _ _ _ _ _ _ h => hN ▸ h.iz lx'
  have HIZ' := hid HIZ
  have Hx := hid hx
  have Hy := hid hy
  clear hx hy
  clear hv hp hq he hS hN hD hM hE lx' ly' HIZ
  go_enter Tryz.func3, Tryz.ntmps3
  go_wp2_with fail
  have hy1 := hid ((((Ext.refl w).alloc (.cells #[.bool sx, .slice Px lx kx, .bool tx, .slice Qx mx dx] 26)).alloc (.cells #[.bool sy, .slice Py ly ky, .bool ty, .slice Qy my dy] 26)).alloc (.cells #[.bool sx, .slice Px lx kx, .bool tx, .slice Qx mx dx, .bool sy, .slice Py ly ky, .bool ty, .slice Qy my dy] 26))
  have Bx_ := ((Bk.new w 26 #[.bool sx, .slice Px lx kx, .bool tx, .slice Qx mx dx]).ext (((Ext.refl (w.alloc (.cells #[.bool sx, .slice Px lx kx, .bool tx, .slice Qx mx dx] 26))).alloc (.cells #[.bool sy, .slice Py ly ky, .bool ty, .slice Qy my dy] 26)).alloc (.cells #[.bool sx, .slice Px lx kx, .bool tx, .slice Qx mx dx, .bool sy, .slice Py ly ky, .bool ty, .slice Qy my dy] 26)))
  have Bx := hid Bx_
  clear Bx_
  have By_ := ((Bk.new (w.alloc (.cells #[.bool sx, .slice Px lx kx, .bool tx, .slice Qx mx dx] 26)) 26 #[.bool sy, .slice Py ly ky, .bool ty, .slice Qy my dy]).ext ((Ext.refl ((w.alloc (.cells #[.bool sx, .slice Px lx kx, .bool tx, .slice Qx mx dx] 26)).alloc (.cells #[.bool sy, .slice Py ly ky, .bool ty, .slice Qy my dy] 26))).alloc (.cells #[.bool sx, .slice Px lx kx, .bool tx, .slice Qx mx dx, .bool sy, .slice Py ly ky, .bool ty, .slice Qy my dy] 26)))
  rw [size_alloc] at By_
  have By := hid By_
  clear By_
  have Brow_ := (Bk.new ((w.alloc (.cells #[.bool sx, .slice Px lx kx, .bool tx, .slice Qx mx dx] 26)).alloc (.cells #[.bool sy, .slice Py ly ky, .bool ty, .slice Qy my dy] 26)) 26 #[.bool sx, .slice Px lx kx, .bool tx, .slice Qx mx dx, .bool sy, .slice Py ly ky, .bool ty, .slice Qy my dy])
  rw [size_alloc, size_alloc] at Brow_
  have Brow := hid Brow_
  clear Brow_
  generalize (((w.alloc (.cells #[.bool sx, .slice Px lx kx, .bool tx, .slice Qx mx dx] 26)).alloc (.cells #[.bool sy, .slice Py ly ky, .bool ty, .slice Qy my dy] 26)).alloc (.cells #[.bool sx, .slice Px lx kx, .bool tx, .slice Qx mx dx, .bool sy, .slice Py ly ky, .bool ty, .slice Qy my dy] 26)) = w1 at *
  have X1 := hid ((Ext.refl _).trans hy1.out)
  obtain ⟨f4_0, f4_1, f4_2, f4_3, f4_4, f4_5, f4_6, f4_7⟩ : w1.cell? ⟨w.heap.size, 0, none⟩ = some (.bool sx) ∧ w1.cell? ⟨w.heap.size, 1, none⟩ = some (.slice Px lx kx) ∧ w1.cell? ⟨w.heap.size, 2, none⟩ = some (.bool tx) ∧ w1.cell? ⟨w.heap.size, 3, none⟩ = some (.slice Qx mx dx) ∧ w1.cell? ⟨w.heap.size + 1, 0, none⟩ = some (.bool sy) ∧ w1.cell? ⟨w.heap.size + 1, 1, none⟩ = some (.slice Py ly ky) ∧ w1.cell? ⟨w.heap.size + 1, 2, none⟩ = some (.bool ty) ∧ w1.cell? ⟨w.heap.size + 1, 3, none⟩ = some (.slice Qy my dy) := ⟨Bx.out.c 0, Bx.out.c 1, Bx.out.c 2, Bx.out.c 3, By.out.c 0, By.out.c 1, By.out.c 2, By.out.c 3⟩
  go_upto_region 3 with (first
    | ((go_at_call 4); (with_reducible refine (great6_no2 Brow.out b1 b2 b3 b4).mono ?_); rintro E2 w2 ⟨rfl, hr2⟩; have X2 := hid (X1.out.trans hr2); have hy2 := hid hr2; clear hr2; obtain ⟨f5_0, f5_1, f5_2, f5_3, f5_4, f5_5, f5_6, f5_7⟩ : w2.cell? ⟨w.heap.size, 0, none⟩ = some (.bool sx) ∧ w2.cell? ⟨w.heap.size, 1, none⟩ = some (.slice Px lx kx) ∧ w2.cell? ⟨w.heap.size, 2, none⟩ = some (.bool tx) ∧ w2.cell? ⟨w.heap.size, 3, none⟩ = some (.slice Qx mx dx) ∧ w2.cell? ⟨w.heap.size + 1, 0, none⟩ = some (.bool sy) ∧ w2.cell? ⟨w.heap.size + 1, 1, none⟩ = some (.slice Py ly ky) ∧ w2.cell? ⟨w.heap.size + 1, 2, none⟩ = some (.bool ty) ∧ w2.cell? ⟨w.heap.size + 1, 3, none⟩ = some (.slice Qy my dy) := ⟨(Bx.out.ext hy2.out).c 0, (Bx.out.ext hy2.out).c 1, (Bx.out.ext hy2.out).c 2, (Bx.out.ext hy2.out).c 3, (By.out.ext hy2.out).c 0, (By.out.ext hy2.out).c 1, (By.out.ext hy2.out).c 2, (By.out.ext hy2.out).c 3⟩))
  clear f4_0 f4_1 f4_2 f4_3 f4_4 f4_5 f4_6 f4_7 f5_0 f5_1 f5_2 f5_3 f5_4 f5_5 f5_6 f5_7
  go_cut [5, 6] (fun v5 v6 wx => ∃ (g5c : Nat) (g6c : Nat) (b1q : Bool) (A1q : Option Addr) (n1q c1q : Nat) (e1q : Bool) (B1q : Option Addr) (m1q d1q : Nat) (b3q : Bool) (A3q : Option Addr) (n3q c3q : Nat) (e3q : Bool) (B3q : Option Addr) (m3q d3q : Nat), v5 = .pointer (some ⟨g5c, 0, none⟩) ∧ v6 = .pointer (some ⟨g6c, 0, none⟩) ∧ w2.heap.size ≤ g5c ∧ w2.heap.size ≤ g6c ∧ g5c ≠ g6c ∧ Bk 26 wx (w.heap.size) #[.bool sx, .slice Px lx kx, .bool tx, .slice Qx mx dx] ∧ Bk 26 wx (w.heap.size + 1) #[.bool sy, .slice Py ly ky, .bool ty, .slice Qy my dy] ∧ Bk 26 wx (g5c) #[.bool b1q, .slice A1q n1q c1q, .bool e1q, .slice B1q m1q d1q] ∧ Bk 26 wx (g6c) #[.bool b3q, .slice A3q n3q c3q, .bool e3q, .slice B3q m3q d3q] ∧ Lq wx b1q A1q n1q c1q e1q B1q m1q d1q sx X tx Y ∧ Lq wx b3q A3q n3q c3q e3q B3q m3q d3q sy U ty V ∧ Ext w wx)
  case first =>
    as_aux_lemma =>
      have RBx := hid (Bx.out.ext hy2.out)
      have RBy := hid (By.out.ext hy2.out)
      have T0 := (Ext.refl w2).drew
      have S0 := X2.out.trans T0
      refine wp_region_held_drew (S := fun w' => Ext w w' ∧ Bk 26 w' (w.heap.size) #[.bool sx, .slice Px lx kx, .bool tx, .slice Qx mx dx] ∧ Bk 26 w' (w.heap.size + 1) #[.bool sy, .slice Py ly ky, .bool ty, .slice Qy my dy]) (by kernel_rfl) ⟨S0, (RBx.out.ext T0), (RBy.out.ext T0)⟩ (fun hS0 => ?_)
      change wpAnyH _ _ _ _ _ 8 #[false, false, false, false, false, false, false, false] _ _
      refine drawn_load 0 16 26 (.tmp 2) (w.heap.size) 26 #[.bool sx, .slice Px lx kx, .bool tx, .slice Qx mx dx] (0, 0) _ (by kernel_rfl) rfl (fun w' hS => hS.2.1.h) Tryz.underlying26 rfl info_rat (by kernel_rfl) (by kernel_rfl) (by kernel_rfl) (fun _ _ _ _ h => h) hS0 ?_
      simp only [Act.put, List.setIfInBounds_toArray, List.set_cons_zero, List.set_cons_succ]
      refine drawn_load 2 18 26 (.tmp 3) (w.heap.size + 1) 26 #[.bool sy, .slice Py ly ky, .bool ty, .slice Qy my dy] (0, 0) _ (by kernel_rfl) rfl (fun w' hS => hS.2.2.h) Tryz.underlying26 rfl info_rat (by kernel_rfl) (by kernel_rfl) (by kernel_rfl) (fun _ _ _ _ h => h) hS0 ?_
      simp only [Act.put, List.setIfInBounds_toArray, List.set_cons_zero, List.set_cons_succ]
      refine wpAnyH_ready (rs := [1, 4, 5]) (by kernel_rfl) (by simp) ?_
      refine drawn_call1 1 (some 17) (.tmp 16) (ts := #[26]) (by kernel_rfl) (enters_of Tryz.func6 (by kernel_rfl) rfl) rfl (own6_v (Hx.out.ext S0).2.2.1 (Hx.out.ext S0).2.2.2 (by omega) (by omega)) (fun E v1 hh => ?_) ?_
      · skip
        obtain ⟨b1q, A1q, n1q, c1q, e1q, B1q, m1q, d1q, rfl, o1, hx1⟩ := hh
        have S1 := S0.trans hx1
        have T1 := T0.trans hx1
        refine ⟨_, rfl, ⟨S1, (RBx.out.ext T1), (RBy.out.ext T1)⟩, ?_⟩
        simp only [Act.put, List.setIfInBounds_toArray, List.set_cons_zero, List.set_cons_succ]
        refine wpAnyH_ready (rs := [3, 4, 5]) (by kernel_rfl) (by simp) ?_
        refine drawn_call1 3 (some 19) (.tmp 18) (ts := #[26]) (by kernel_rfl) (enters_of Tryz.func6 (by kernel_rfl) rfl) rfl (own6_v (Hy.out.ext S1).2.2.1 (Hy.out.ext S1).2.2.2 (by omega) (by omega)) (fun E v3 hh => ?_) ?_
        · skip
          obtain ⟨b3q, A3q, n3q, c3q, e3q, B3q, m3q, d3q, rfl, o3, hx3⟩ := hh
          have S3 := S1.trans hx3
          have T3 := T1.trans hx3
          refine ⟨_, rfl, ⟨S3, (RBx.out.ext T3), (RBy.out.ext T3)⟩, ?_⟩
          simp only [Act.put, List.setIfInBounds_toArray, List.set_cons_zero, List.set_cons_succ]
          refine wpAnyH_ready (rs := [4, 5]) (by kernel_rfl) (by simp) ?_
          refine drawn_alloc 4 (some 5) (by kernel_rfl) alloc_rat (fun g4 v4 hb4 hx4 hg4 => ?_) ?_
          · have HB4 := hid (show Bk 26 v4 g4 #[.bool false, .slice none 0 0, .bool false, .slice none 0 0] from hb4)
            have S4 := S3.trans hx4
            have T4 := T3.trans hx4
            refine ⟨⟨S4, (RBx.out.ext T4), (RBy.out.ext T4)⟩, ?_⟩
            simp only [Act.put, List.setIfInBounds_toArray, List.set_cons_zero, List.set_cons_succ]
            refine wpAnyH_ready (rs := [5]) (by kernel_rfl) (by simp) ?_
            refine drawn_alloc 5 (some 6) (by kernel_rfl) alloc_rat (fun g5 v5 hb5 hx5 hg5 => ?_) ?_
            · have HB5 := hid (show Bk 26 v5 g5 #[.bool false, .slice none 0 0, .bool false, .slice none 0 0] from hb5)
              have S5 := S4.trans hx5
              have T5 := T4.trans hx5
              refine ⟨⟨S5, (RBx.out.ext T5), (RBy.out.ext T5)⟩, ?_⟩
              simp only [Act.put, List.setIfInBounds_toArray, List.set_cons_zero, List.set_cons_succ]
              refine wpAnyH_ready (rs := [6]) (by kernel_rfl) (by simp) ?_
              have hq6 := (HB4.out.ext hx5)
              refine drawn_store 6 26 (.tmp 5) (.tmp 17) (g4) #[.bool b1q, .slice A1q n1q c1q, .bool e1q, .slice B1q m1q d1q] #[.bool false, .slice none 0 0, .bool false, .slice none 0 0] 26 (by kernel_rfl) rfl rfl hq6.h info_rat rfl one_four (fun v6 hb6 hg6 => ?_) ?_
              · have HB6 := hid (show Bk 26 v6 (g4) #[.bool b1q, .slice A1q n1q c1q, .bool e1q, .slice B1q m1q d1q] from hb6)
                have S6 := S5.gb hg6 (by have h := S3.size; have h1 := hg4; omega)
                refine ⟨⟨S6, ((RBx.out.ext T5).grown hg6 (by have h0 := (Nat.lt_of_lt_of_le RBx.out.lt T3.size); have h1 := hg4; omega)), ((RBy.out.ext T5).grown hg6 (by have h0 := (Nat.lt_of_lt_of_le RBy.out.lt T3.size); have h1 := hg4; omega))⟩, ?_⟩
                simp only [Act.put, List.setIfInBounds_toArray, List.set_cons_zero, List.set_cons_succ]
                refine wpAnyH_ready (rs := [7]) (by kernel_rfl) (by simp) ?_
                have hq7 := (HB5.out.grown hg6 (by have h0 := HB4.out.lt; have h1 := hg5; omega))
                refine drawn_store 7 26 (.tmp 6) (.tmp 19) (g5) #[.bool b3q, .slice A3q n3q c3q, .bool e3q, .slice B3q m3q d3q] #[.bool false, .slice none 0 0, .bool false, .slice none 0 0] 26 (by kernel_rfl) rfl rfl hq7.h info_rat rfl one_four (fun v7 hb7 hg7 => ?_) ?_
                · have HB7 := hid (show Bk 26 v7 (g5) #[.bool b3q, .slice A3q n3q c3q, .bool e3q, .slice B3q m3q d3q] from hb7)
                  have S7 := S6.gb hg7 (by have h := S4.size; have h1 := hg5; omega)
                  refine ⟨⟨S7, (((RBx.out.ext T5).grown hg6 (by have h0 := (Nat.lt_of_lt_of_le RBx.out.lt T3.size); have h1 := hg4; omega)).grown hg7 (by have h0 := (Nat.lt_of_lt_of_le RBx.out.lt T4.size); have h1 := hg5; omega)), (((RBy.out.ext T5).grown hg6 (by have h0 := (Nat.lt_of_lt_of_le RBy.out.lt T3.size); have h1 := hg4; omega)).grown hg7 (by have h0 := (Nat.lt_of_lt_of_le RBy.out.lt T4.size); have h1 := hg5; omega))⟩, ?_⟩
                  simp only [Act.put, List.setIfInBounds_toArray, List.set_cons_zero, List.set_cons_succ]
                  refine wpAnyH_done (by kernel_rfl) ?_ _
                  go_step
                  go_step
                  go_meet
                  case rel => exact ⟨_, _, _, _, _, _, _, _, _, _, _, _, _, _, _, _, _, _, rfl, rfl, (Nat.le_trans T3.size hg4), (Nat.le_trans T4.size hg5), (by have h0 := HB4.out.lt; have h1 := hg5; omega), (((RBx.out.ext T5).grown hg6 (by have h0 := (Nat.lt_of_lt_of_le RBx.out.lt T3.size); have h1 := hg4; omega)).grown hg7 (by have h0 := (Nat.lt_of_lt_of_le RBx.out.lt T4.size); have h1 := hg5; omega)), (((RBy.out.ext T5).grown hg6 (by have h0 := (Nat.lt_of_lt_of_le RBy.out.lt T3.size); have h1 := hg4; omega)).grown hg7 (by have h0 := (Nat.lt_of_lt_of_le RBy.out.lt T4.size); have h1 := hg5; omega)), (HB6.out.grown hg7 (by have h0 := HB4.out.lt; have h1 := hg5; omega)), HB7.out, (((o1.ext ((hx3.trans hx4).trans hx5)).gbk4 hq6 hg6).gbk4 hq7 hg7), (((o3.ext (hx4.trans hx5)).gbk4 hq6 hg6).gbk4 hq7 hg7), S7⟩
                exact drawn_nil
              exact drawn_nil
            exact drawn_nil
          refine drawn_alloc 5 (some 6) (by kernel_rfl) alloc_rat (fun g5 v5 hb5 hx5 hg5 => ?_) ?_
          · have HB5 := hid (show Bk 26 v5 g5 #[.bool false, .slice none 0 0, .bool false, .slice none 0 0] from hb5)
            have S5 := S3.trans hx5
            have T5 := T3.trans hx5
            refine ⟨⟨S5, (RBx.out.ext T5), (RBy.out.ext T5)⟩, ?_⟩
            simp only [Act.put, List.setIfInBounds_toArray, List.set_cons_zero, List.set_cons_succ]
            refine wpAnyH_ready (rs := [4]) (by kernel_rfl) (by simp) ?_
            refine drawn_alloc 4 (some 5) (by kernel_rfl) alloc_rat (fun g4 v4 hb4 hx4 hg4 => ?_) ?_
            · have HB4 := hid (show Bk 26 v4 g4 #[.bool false, .slice none 0 0, .bool false, .slice none 0 0] from hb4)
              have S4 := S5.trans hx4
              have T4 := T5.trans hx4
              refine ⟨⟨S4, (RBx.out.ext T4), (RBy.out.ext T4)⟩, ?_⟩
              simp only [Act.put, List.setIfInBounds_toArray, List.set_cons_zero, List.set_cons_succ]
              refine wpAnyH_ready (rs := [6]) (by kernel_rfl) (by simp) ?_
              have hq6 := HB4.out
              refine drawn_store 6 26 (.tmp 5) (.tmp 17) (g4) #[.bool b1q, .slice A1q n1q c1q, .bool e1q, .slice B1q m1q d1q] #[.bool false, .slice none 0 0, .bool false, .slice none 0 0] 26 (by kernel_rfl) rfl rfl hq6.h info_rat rfl one_four (fun v6 hb6 hg6 => ?_) ?_
              · have HB6 := hid (show Bk 26 v6 (g4) #[.bool b1q, .slice A1q n1q c1q, .bool e1q, .slice B1q m1q d1q] from hb6)
                have S6 := S4.gb hg6 (by have h := S5.size; have h1 := hg4; omega)
                refine ⟨⟨S6, ((RBx.out.ext T4).grown hg6 (by have h0 := (Nat.lt_of_lt_of_le RBx.out.lt T5.size); have h1 := hg4; omega)), ((RBy.out.ext T4).grown hg6 (by have h0 := (Nat.lt_of_lt_of_le RBy.out.lt T5.size); have h1 := hg4; omega))⟩, ?_⟩
                simp only [Act.put, List.setIfInBounds_toArray, List.set_cons_zero, List.set_cons_succ]
                refine wpAnyH_ready (rs := [7]) (by kernel_rfl) (by simp) ?_
                have hq7 := ((HB5.out.ext hx4).grown hg6 (by have h0 := HB5.out.lt; have h1 := hg4; omega))
                refine drawn_store 7 26 (.tmp 6) (.tmp 19) (g5) #[.bool b3q, .slice A3q n3q c3q, .bool e3q, .slice B3q m3q d3q] #[.bool false, .slice none 0 0, .bool false, .slice none 0 0] 26 (by kernel_rfl) rfl rfl hq7.h info_rat rfl one_four (fun v7 hb7 hg7 => ?_) ?_
                · have HB7 := hid (show Bk 26 v7 (g5) #[.bool b3q, .slice A3q n3q c3q, .bool e3q, .slice B3q m3q d3q] from hb7)
                  have S7 := S6.gb hg7 (by have h := S3.size; have h1 := hg5; omega)
                  refine ⟨⟨S7, (((RBx.out.ext T4).grown hg6 (by have h0 := (Nat.lt_of_lt_of_le RBx.out.lt T5.size); have h1 := hg4; omega)).grown hg7 (by have h0 := (Nat.lt_of_lt_of_le RBx.out.lt T3.size); have h1 := hg5; omega)), (((RBy.out.ext T4).grown hg6 (by have h0 := (Nat.lt_of_lt_of_le RBy.out.lt T5.size); have h1 := hg4; omega)).grown hg7 (by have h0 := (Nat.lt_of_lt_of_le RBy.out.lt T3.size); have h1 := hg5; omega))⟩, ?_⟩
                  simp only [Act.put, List.setIfInBounds_toArray, List.set_cons_zero, List.set_cons_succ]
                  refine wpAnyH_done (by kernel_rfl) ?_ _
                  go_step
                  go_step
                  go_meet
                  case rel => exact ⟨_, _, _, _, _, _, _, _, _, _, _, _, _, _, _, _, _, _, rfl, rfl, (Nat.le_trans T5.size hg4), (Nat.le_trans T3.size hg5), (by have h0 := HB5.out.lt; have h1 := hg4; omega), (((RBx.out.ext T4).grown hg6 (by have h0 := (Nat.lt_of_lt_of_le RBx.out.lt T5.size); have h1 := hg4; omega)).grown hg7 (by have h0 := (Nat.lt_of_lt_of_le RBx.out.lt T3.size); have h1 := hg5; omega)), (((RBy.out.ext T4).grown hg6 (by have h0 := (Nat.lt_of_lt_of_le RBy.out.lt T5.size); have h1 := hg4; omega)).grown hg7 (by have h0 := (Nat.lt_of_lt_of_le RBy.out.lt T3.size); have h1 := hg5; omega)), (HB6.out.grown hg7 (by have h0 := HB5.out.lt; have h1 := hg4; omega)), HB7.out, (((o1.ext ((hx3.trans hx5).trans hx4)).gbk4 hq6 hg6).gbk4 hq7 hg7), (((o3.ext (hx5.trans hx4)).gbk4 hq6 hg6).gbk4 hq7 hg7), S7⟩
                exact drawn_nil
              exact drawn_nil
            exact drawn_nil
          exact drawn_nil
        refine drawn_alloc 4 (some 5) (by kernel_rfl) alloc_rat (fun g4 v4 hb4 hx4 hg4 => ?_) ?_
        · have HB4 := hid (show Bk 26 v4 g4 #[.bool false, .slice none 0 0, .bool false, .slice none 0 0] from hb4)
          have S4 := S1.trans hx4
          have T4 := T1.trans hx4
          refine ⟨⟨S4, (RBx.out.ext T4), (RBy.out.ext T4)⟩, ?_⟩
          simp only [Act.put, List.setIfInBounds_toArray, List.set_cons_zero, List.set_cons_succ]
          refine wpAnyH_ready (rs := [3, 5]) (by kernel_rfl) (by simp) ?_
          refine drawn_call1 3 (some 19) (.tmp 18) (ts := #[26]) (by kernel_rfl) (enters_of Tryz.func6 (by kernel_rfl) rfl) rfl (own6_v (Hy.out.ext S4).2.2.1 (Hy.out.ext S4).2.2.2 (by omega) (by omega)) (fun E v3 hh => ?_) ?_
          · skip
            obtain ⟨b3q, A3q, n3q, c3q, e3q, B3q, m3q, d3q, rfl, o3, hx3⟩ := hh
            have S3 := S4.trans hx3
            have T3 := T4.trans hx3
            refine ⟨_, rfl, ⟨S3, (RBx.out.ext T3), (RBy.out.ext T3)⟩, ?_⟩
            simp only [Act.put, List.setIfInBounds_toArray, List.set_cons_zero, List.set_cons_succ]
            refine wpAnyH_ready (rs := [5]) (by kernel_rfl) (by simp) ?_
            refine drawn_alloc 5 (some 6) (by kernel_rfl) alloc_rat (fun g5 v5 hb5 hx5 hg5 => ?_) ?_
            · have HB5 := hid (show Bk 26 v5 g5 #[.bool false, .slice none 0 0, .bool false, .slice none 0 0] from hb5)
              have S5 := S3.trans hx5
              have T5 := T3.trans hx5
              refine ⟨⟨S5, (RBx.out.ext T5), (RBy.out.ext T5)⟩, ?_⟩
              simp only [Act.put, List.setIfInBounds_toArray, List.set_cons_zero, List.set_cons_succ]
              refine wpAnyH_ready (rs := [6]) (by kernel_rfl) (by simp) ?_
              have hq6 := (HB4.out.ext (hx3.trans hx5))
              refine drawn_store 6 26 (.tmp 5) (.tmp 17) (g4) #[.bool b1q, .slice A1q n1q c1q, .bool e1q, .slice B1q m1q d1q] #[.bool false, .slice none 0 0, .bool false, .slice none 0 0] 26 (by kernel_rfl) rfl rfl hq6.h info_rat rfl one_four (fun v6 hb6 hg6 => ?_) ?_
              · have HB6 := hid (show Bk 26 v6 (g4) #[.bool b1q, .slice A1q n1q c1q, .bool e1q, .slice B1q m1q d1q] from hb6)
                have S6 := S5.gb hg6 (by have h := S1.size; have h1 := hg4; omega)
                refine ⟨⟨S6, ((RBx.out.ext T5).grown hg6 (by have h0 := (Nat.lt_of_lt_of_le RBx.out.lt T1.size); have h1 := hg4; omega)), ((RBy.out.ext T5).grown hg6 (by have h0 := (Nat.lt_of_lt_of_le RBy.out.lt T1.size); have h1 := hg4; omega))⟩, ?_⟩
                simp only [Act.put, List.setIfInBounds_toArray, List.set_cons_zero, List.set_cons_succ]
                refine wpAnyH_ready (rs := [7]) (by kernel_rfl) (by simp) ?_
                have hq7 := (HB5.out.grown hg6 (by have h0 := (Nat.lt_of_lt_of_le HB4.out.lt hx3.size); have h1 := hg5; omega))
                refine drawn_store 7 26 (.tmp 6) (.tmp 19) (g5) #[.bool b3q, .slice A3q n3q c3q, .bool e3q, .slice B3q m3q d3q] #[.bool false, .slice none 0 0, .bool false, .slice none 0 0] 26 (by kernel_rfl) rfl rfl hq7.h info_rat rfl one_four (fun v7 hb7 hg7 => ?_) ?_
                · have HB7 := hid (show Bk 26 v7 (g5) #[.bool b3q, .slice A3q n3q c3q, .bool e3q, .slice B3q m3q d3q] from hb7)
                  have S7 := S6.gb hg7 (by have h := S3.size; have h1 := hg5; omega)
                  refine ⟨⟨S7, (((RBx.out.ext T5).grown hg6 (by have h0 := (Nat.lt_of_lt_of_le RBx.out.lt T1.size); have h1 := hg4; omega)).grown hg7 (by have h0 := (Nat.lt_of_lt_of_le RBx.out.lt T3.size); have h1 := hg5; omega)), (((RBy.out.ext T5).grown hg6 (by have h0 := (Nat.lt_of_lt_of_le RBy.out.lt T1.size); have h1 := hg4; omega)).grown hg7 (by have h0 := (Nat.lt_of_lt_of_le RBy.out.lt T3.size); have h1 := hg5; omega))⟩, ?_⟩
                  simp only [Act.put, List.setIfInBounds_toArray, List.set_cons_zero, List.set_cons_succ]
                  refine wpAnyH_done (by kernel_rfl) ?_ _
                  go_step
                  go_step
                  go_meet
                  case rel => exact ⟨_, _, _, _, _, _, _, _, _, _, _, _, _, _, _, _, _, _, rfl, rfl, (Nat.le_trans T1.size hg4), (Nat.le_trans T3.size hg5), (by have h0 := (Nat.lt_of_lt_of_le HB4.out.lt hx3.size); have h1 := hg5; omega), (((RBx.out.ext T5).grown hg6 (by have h0 := (Nat.lt_of_lt_of_le RBx.out.lt T1.size); have h1 := hg4; omega)).grown hg7 (by have h0 := (Nat.lt_of_lt_of_le RBx.out.lt T3.size); have h1 := hg5; omega)), (((RBy.out.ext T5).grown hg6 (by have h0 := (Nat.lt_of_lt_of_le RBy.out.lt T1.size); have h1 := hg4; omega)).grown hg7 (by have h0 := (Nat.lt_of_lt_of_le RBy.out.lt T3.size); have h1 := hg5; omega)), (HB6.out.grown hg7 (by have h0 := (Nat.lt_of_lt_of_le HB4.out.lt hx3.size); have h1 := hg5; omega)), HB7.out, (((o1.ext ((hx4.trans hx3).trans hx5)).gbk4 hq6 hg6).gbk4 hq7 hg7), (((o3.ext hx5).gbk4 hq6 hg6).gbk4 hq7 hg7), S7⟩
                exact drawn_nil
              exact drawn_nil
            exact drawn_nil
          refine drawn_alloc 5 (some 6) (by kernel_rfl) alloc_rat (fun g5 v5 hb5 hx5 hg5 => ?_) ?_
          · have HB5 := hid (show Bk 26 v5 g5 #[.bool false, .slice none 0 0, .bool false, .slice none 0 0] from hb5)
            have S5 := S4.trans hx5
            have T5 := T4.trans hx5
            refine ⟨⟨S5, (RBx.out.ext T5), (RBy.out.ext T5)⟩, ?_⟩
            simp only [Act.put, List.setIfInBounds_toArray, List.set_cons_zero, List.set_cons_succ]
            refine wpAnyH_ready (rs := [3]) (by kernel_rfl) (by simp) ?_
            refine drawn_call1 3 (some 19) (.tmp 18) (ts := #[26]) (by kernel_rfl) (enters_of Tryz.func6 (by kernel_rfl) rfl) rfl (own6_v (Hy.out.ext S5).2.2.1 (Hy.out.ext S5).2.2.2 (by omega) (by omega)) (fun E v3 hh => ?_) ?_
            · skip
              obtain ⟨b3q, A3q, n3q, c3q, e3q, B3q, m3q, d3q, rfl, o3, hx3⟩ := hh
              have S3 := S5.trans hx3
              have T3 := T5.trans hx3
              refine ⟨_, rfl, ⟨S3, (RBx.out.ext T3), (RBy.out.ext T3)⟩, ?_⟩
              simp only [Act.put, List.setIfInBounds_toArray, List.set_cons_zero, List.set_cons_succ]
              refine wpAnyH_ready (rs := [6]) (by kernel_rfl) (by simp) ?_
              have hq6 := (HB4.out.ext (hx5.trans hx3))
              refine drawn_store 6 26 (.tmp 5) (.tmp 17) (g4) #[.bool b1q, .slice A1q n1q c1q, .bool e1q, .slice B1q m1q d1q] #[.bool false, .slice none 0 0, .bool false, .slice none 0 0] 26 (by kernel_rfl) rfl rfl hq6.h info_rat rfl one_four (fun v6 hb6 hg6 => ?_) ?_
              · have HB6 := hid (show Bk 26 v6 (g4) #[.bool b1q, .slice A1q n1q c1q, .bool e1q, .slice B1q m1q d1q] from hb6)
                have S6 := S3.gb hg6 (by have h := S1.size; have h1 := hg4; omega)
                refine ⟨⟨S6, ((RBx.out.ext T3).grown hg6 (by have h0 := (Nat.lt_of_lt_of_le RBx.out.lt T1.size); have h1 := hg4; omega)), ((RBy.out.ext T3).grown hg6 (by have h0 := (Nat.lt_of_lt_of_le RBy.out.lt T1.size); have h1 := hg4; omega))⟩, ?_⟩
                simp only [Act.put, List.setIfInBounds_toArray, List.set_cons_zero, List.set_cons_succ]
                refine wpAnyH_ready (rs := [7]) (by kernel_rfl) (by simp) ?_
                have hq7 := ((HB5.out.ext hx3).grown hg6 (by have h0 := HB4.out.lt; have h1 := hg5; omega))
                refine drawn_store 7 26 (.tmp 6) (.tmp 19) (g5) #[.bool b3q, .slice A3q n3q c3q, .bool e3q, .slice B3q m3q d3q] #[.bool false, .slice none 0 0, .bool false, .slice none 0 0] 26 (by kernel_rfl) rfl rfl hq7.h info_rat rfl one_four (fun v7 hb7 hg7 => ?_) ?_
                · have HB7 := hid (show Bk 26 v7 (g5) #[.bool b3q, .slice A3q n3q c3q, .bool e3q, .slice B3q m3q d3q] from hb7)
                  have S7 := S6.gb hg7 (by have h := S4.size; have h1 := hg5; omega)
                  refine ⟨⟨S7, (((RBx.out.ext T3).grown hg6 (by have h0 := (Nat.lt_of_lt_of_le RBx.out.lt T1.size); have h1 := hg4; omega)).grown hg7 (by have h0 := (Nat.lt_of_lt_of_le RBx.out.lt T4.size); have h1 := hg5; omega)), (((RBy.out.ext T3).grown hg6 (by have h0 := (Nat.lt_of_lt_of_le RBy.out.lt T1.size); have h1 := hg4; omega)).grown hg7 (by have h0 := (Nat.lt_of_lt_of_le RBy.out.lt T4.size); have h1 := hg5; omega))⟩, ?_⟩
                  simp only [Act.put, List.setIfInBounds_toArray, List.set_cons_zero, List.set_cons_succ]
                  refine wpAnyH_done (by kernel_rfl) ?_ _
                  go_step
                  go_step
                  go_meet
                  case rel => exact ⟨_, _, _, _, _, _, _, _, _, _, _, _, _, _, _, _, _, _, rfl, rfl, (Nat.le_trans T1.size hg4), (Nat.le_trans T4.size hg5), (by have h0 := HB4.out.lt; have h1 := hg5; omega), (((RBx.out.ext T3).grown hg6 (by have h0 := (Nat.lt_of_lt_of_le RBx.out.lt T1.size); have h1 := hg4; omega)).grown hg7 (by have h0 := (Nat.lt_of_lt_of_le RBx.out.lt T4.size); have h1 := hg5; omega)), (((RBy.out.ext T3).grown hg6 (by have h0 := (Nat.lt_of_lt_of_le RBy.out.lt T1.size); have h1 := hg4; omega)).grown hg7 (by have h0 := (Nat.lt_of_lt_of_le RBy.out.lt T4.size); have h1 := hg5; omega)), (HB6.out.grown hg7 (by have h0 := HB4.out.lt; have h1 := hg5; omega)), HB7.out, (((o1.ext ((hx4.trans hx5).trans hx3)).gbk4 hq6 hg6).gbk4 hq7 hg7), ((o3.gbk4 hq6 hg6).gbk4 hq7 hg7), S7⟩
                exact drawn_nil
              exact drawn_nil
            exact drawn_nil
          exact drawn_nil
        refine drawn_alloc 5 (some 6) (by kernel_rfl) alloc_rat (fun g5 v5 hb5 hx5 hg5 => ?_) ?_
        · have HB5 := hid (show Bk 26 v5 g5 #[.bool false, .slice none 0 0, .bool false, .slice none 0 0] from hb5)
          have S5 := S1.trans hx5
          have T5 := T1.trans hx5
          refine ⟨⟨S5, (RBx.out.ext T5), (RBy.out.ext T5)⟩, ?_⟩
          simp only [Act.put, List.setIfInBounds_toArray, List.set_cons_zero, List.set_cons_succ]
          refine wpAnyH_ready (rs := [3, 4]) (by kernel_rfl) (by simp) ?_
          refine drawn_call1 3 (some 19) (.tmp 18) (ts := #[26]) (by kernel_rfl) (enters_of Tryz.func6 (by kernel_rfl) rfl) rfl (own6_v (Hy.out.ext S5).2.2.1 (Hy.out.ext S5).2.2.2 (by omega) (by omega)) (fun E v3 hh => ?_) ?_
          · skip
            obtain ⟨b3q, A3q, n3q, c3q, e3q, B3q, m3q, d3q, rfl, o3, hx3⟩ := hh
            have S3 := S5.trans hx3
            have T3 := T5.trans hx3
            refine ⟨_, rfl, ⟨S3, (RBx.out.ext T3), (RBy.out.ext T3)⟩, ?_⟩
            simp only [Act.put, List.setIfInBounds_toArray, List.set_cons_zero, List.set_cons_succ]
            refine wpAnyH_ready (rs := [4]) (by kernel_rfl) (by simp) ?_
            refine drawn_alloc 4 (some 5) (by kernel_rfl) alloc_rat (fun g4 v4 hb4 hx4 hg4 => ?_) ?_
            · have HB4 := hid (show Bk 26 v4 g4 #[.bool false, .slice none 0 0, .bool false, .slice none 0 0] from hb4)
              have S4 := S3.trans hx4
              have T4 := T3.trans hx4
              refine ⟨⟨S4, (RBx.out.ext T4), (RBy.out.ext T4)⟩, ?_⟩
              simp only [Act.put, List.setIfInBounds_toArray, List.set_cons_zero, List.set_cons_succ]
              refine wpAnyH_ready (rs := [6]) (by kernel_rfl) (by simp) ?_
              have hq6 := HB4.out
              refine drawn_store 6 26 (.tmp 5) (.tmp 17) (g4) #[.bool b1q, .slice A1q n1q c1q, .bool e1q, .slice B1q m1q d1q] #[.bool false, .slice none 0 0, .bool false, .slice none 0 0] 26 (by kernel_rfl) rfl rfl hq6.h info_rat rfl one_four (fun v6 hb6 hg6 => ?_) ?_
              · have HB6 := hid (show Bk 26 v6 (g4) #[.bool b1q, .slice A1q n1q c1q, .bool e1q, .slice B1q m1q d1q] from hb6)
                have S6 := S4.gb hg6 (by have h := S3.size; have h1 := hg4; omega)
                refine ⟨⟨S6, ((RBx.out.ext T4).grown hg6 (by have h0 := (Nat.lt_of_lt_of_le RBx.out.lt T3.size); have h1 := hg4; omega)), ((RBy.out.ext T4).grown hg6 (by have h0 := (Nat.lt_of_lt_of_le RBy.out.lt T3.size); have h1 := hg4; omega))⟩, ?_⟩
                simp only [Act.put, List.setIfInBounds_toArray, List.set_cons_zero, List.set_cons_succ]
                refine wpAnyH_ready (rs := [7]) (by kernel_rfl) (by simp) ?_
                have hq7 := ((HB5.out.ext (hx3.trans hx4)).grown hg6 (by have h0 := (Nat.lt_of_lt_of_le HB5.out.lt hx3.size); have h1 := hg4; omega))
                refine drawn_store 7 26 (.tmp 6) (.tmp 19) (g5) #[.bool b3q, .slice A3q n3q c3q, .bool e3q, .slice B3q m3q d3q] #[.bool false, .slice none 0 0, .bool false, .slice none 0 0] 26 (by kernel_rfl) rfl rfl hq7.h info_rat rfl one_four (fun v7 hb7 hg7 => ?_) ?_
                · have HB7 := hid (show Bk 26 v7 (g5) #[.bool b3q, .slice A3q n3q c3q, .bool e3q, .slice B3q m3q d3q] from hb7)
                  have S7 := S6.gb hg7 (by have h := S1.size; have h1 := hg5; omega)
                  refine ⟨⟨S7, (((RBx.out.ext T4).grown hg6 (by have h0 := (Nat.lt_of_lt_of_le RBx.out.lt T3.size); have h1 := hg4; omega)).grown hg7 (by have h0 := (Nat.lt_of_lt_of_le RBx.out.lt T1.size); have h1 := hg5; omega)), (((RBy.out.ext T4).grown hg6 (by have h0 := (Nat.lt_of_lt_of_le RBy.out.lt T3.size); have h1 := hg4; omega)).grown hg7 (by have h0 := (Nat.lt_of_lt_of_le RBy.out.lt T1.size); have h1 := hg5; omega))⟩, ?_⟩
                  simp only [Act.put, List.setIfInBounds_toArray, List.set_cons_zero, List.set_cons_succ]
                  refine wpAnyH_done (by kernel_rfl) ?_ _
                  go_step
                  go_step
                  go_meet
                  case rel => exact ⟨_, _, _, _, _, _, _, _, _, _, _, _, _, _, _, _, _, _, rfl, rfl, (Nat.le_trans T3.size hg4), (Nat.le_trans T1.size hg5), (by have h0 := (Nat.lt_of_lt_of_le HB5.out.lt hx3.size); have h1 := hg4; omega), (((RBx.out.ext T4).grown hg6 (by have h0 := (Nat.lt_of_lt_of_le RBx.out.lt T3.size); have h1 := hg4; omega)).grown hg7 (by have h0 := (Nat.lt_of_lt_of_le RBx.out.lt T1.size); have h1 := hg5; omega)), (((RBy.out.ext T4).grown hg6 (by have h0 := (Nat.lt_of_lt_of_le RBy.out.lt T3.size); have h1 := hg4; omega)).grown hg7 (by have h0 := (Nat.lt_of_lt_of_le RBy.out.lt T1.size); have h1 := hg5; omega)), (HB6.out.grown hg7 (by have h0 := (Nat.lt_of_lt_of_le HB5.out.lt hx3.size); have h1 := hg4; omega)), HB7.out, (((o1.ext ((hx5.trans hx3).trans hx4)).gbk4 hq6 hg6).gbk4 hq7 hg7), (((o3.ext hx4).gbk4 hq6 hg6).gbk4 hq7 hg7), S7⟩
                exact drawn_nil
              exact drawn_nil
            exact drawn_nil
          refine drawn_alloc 4 (some 5) (by kernel_rfl) alloc_rat (fun g4 v4 hb4 hx4 hg4 => ?_) ?_
          · have HB4 := hid (show Bk 26 v4 g4 #[.bool false, .slice none 0 0, .bool false, .slice none 0 0] from hb4)
            have S4 := S5.trans hx4
            have T4 := T5.trans hx4
            refine ⟨⟨S4, (RBx.out.ext T4), (RBy.out.ext T4)⟩, ?_⟩
            simp only [Act.put, List.setIfInBounds_toArray, List.set_cons_zero, List.set_cons_succ]
            refine wpAnyH_ready (rs := [3]) (by kernel_rfl) (by simp) ?_
            refine drawn_call1 3 (some 19) (.tmp 18) (ts := #[26]) (by kernel_rfl) (enters_of Tryz.func6 (by kernel_rfl) rfl) rfl (own6_v (Hy.out.ext S4).2.2.1 (Hy.out.ext S4).2.2.2 (by omega) (by omega)) (fun E v3 hh => ?_) ?_
            · skip
              obtain ⟨b3q, A3q, n3q, c3q, e3q, B3q, m3q, d3q, rfl, o3, hx3⟩ := hh
              have S3 := S4.trans hx3
              have T3 := T4.trans hx3
              refine ⟨_, rfl, ⟨S3, (RBx.out.ext T3), (RBy.out.ext T3)⟩, ?_⟩
              simp only [Act.put, List.setIfInBounds_toArray, List.set_cons_zero, List.set_cons_succ]
              refine wpAnyH_ready (rs := [6]) (by kernel_rfl) (by simp) ?_
              have hq6 := (HB4.out.ext hx3)
              refine drawn_store 6 26 (.tmp 5) (.tmp 17) (g4) #[.bool b1q, .slice A1q n1q c1q, .bool e1q, .slice B1q m1q d1q] #[.bool false, .slice none 0 0, .bool false, .slice none 0 0] 26 (by kernel_rfl) rfl rfl hq6.h info_rat rfl one_four (fun v6 hb6 hg6 => ?_) ?_
              · have HB6 := hid (show Bk 26 v6 (g4) #[.bool b1q, .slice A1q n1q c1q, .bool e1q, .slice B1q m1q d1q] from hb6)
                have S6 := S3.gb hg6 (by have h := S5.size; have h1 := hg4; omega)
                refine ⟨⟨S6, ((RBx.out.ext T3).grown hg6 (by have h0 := (Nat.lt_of_lt_of_le RBx.out.lt T5.size); have h1 := hg4; omega)), ((RBy.out.ext T3).grown hg6 (by have h0 := (Nat.lt_of_lt_of_le RBy.out.lt T5.size); have h1 := hg4; omega))⟩, ?_⟩
                simp only [Act.put, List.setIfInBounds_toArray, List.set_cons_zero, List.set_cons_succ]
                refine wpAnyH_ready (rs := [7]) (by kernel_rfl) (by simp) ?_
                have hq7 := ((HB5.out.ext (hx4.trans hx3)).grown hg6 (by have h0 := HB5.out.lt; have h1 := hg4; omega))
                refine drawn_store 7 26 (.tmp 6) (.tmp 19) (g5) #[.bool b3q, .slice A3q n3q c3q, .bool e3q, .slice B3q m3q d3q] #[.bool false, .slice none 0 0, .bool false, .slice none 0 0] 26 (by kernel_rfl) rfl rfl hq7.h info_rat rfl one_four (fun v7 hb7 hg7 => ?_) ?_
                · have HB7 := hid (show Bk 26 v7 (g5) #[.bool b3q, .slice A3q n3q c3q, .bool e3q, .slice B3q m3q d3q] from hb7)
                  have S7 := S6.gb hg7 (by have h := S1.size; have h1 := hg5; omega)
                  refine ⟨⟨S7, (((RBx.out.ext T3).grown hg6 (by have h0 := (Nat.lt_of_lt_of_le RBx.out.lt T5.size); have h1 := hg4; omega)).grown hg7 (by have h0 := (Nat.lt_of_lt_of_le RBx.out.lt T1.size); have h1 := hg5; omega)), (((RBy.out.ext T3).grown hg6 (by have h0 := (Nat.lt_of_lt_of_le RBy.out.lt T5.size); have h1 := hg4; omega)).grown hg7 (by have h0 := (Nat.lt_of_lt_of_le RBy.out.lt T1.size); have h1 := hg5; omega))⟩, ?_⟩
                  simp only [Act.put, List.setIfInBounds_toArray, List.set_cons_zero, List.set_cons_succ]
                  refine wpAnyH_done (by kernel_rfl) ?_ _
                  go_step
                  go_step
                  go_meet
                  case rel => exact ⟨_, _, _, _, _, _, _, _, _, _, _, _, _, _, _, _, _, _, rfl, rfl, (Nat.le_trans T5.size hg4), (Nat.le_trans T1.size hg5), (by have h0 := HB5.out.lt; have h1 := hg4; omega), (((RBx.out.ext T3).grown hg6 (by have h0 := (Nat.lt_of_lt_of_le RBx.out.lt T5.size); have h1 := hg4; omega)).grown hg7 (by have h0 := (Nat.lt_of_lt_of_le RBx.out.lt T1.size); have h1 := hg5; omega)), (((RBy.out.ext T3).grown hg6 (by have h0 := (Nat.lt_of_lt_of_le RBy.out.lt T5.size); have h1 := hg4; omega)).grown hg7 (by have h0 := (Nat.lt_of_lt_of_le RBy.out.lt T1.size); have h1 := hg5; omega)), (HB6.out.grown hg7 (by have h0 := HB5.out.lt; have h1 := hg4; omega)), HB7.out, (((o1.ext ((hx5.trans hx4).trans hx3)).gbk4 hq6 hg6).gbk4 hq7 hg7), ((o3.gbk4 hq6 hg6).gbk4 hq7 hg7), S7⟩
                exact drawn_nil
              exact drawn_nil
            exact drawn_nil
          exact drawn_nil
        exact drawn_nil
      refine drawn_alloc 4 (some 5) (by kernel_rfl) alloc_rat (fun g4 v4 hb4 hx4 hg4 => ?_) ?_
      · have HB4 := hid (show Bk 26 v4 g4 #[.bool false, .slice none 0 0, .bool false, .slice none 0 0] from hb4)
        have S4 := S0.trans hx4
        have T4 := T0.trans hx4
        refine ⟨⟨S4, (RBx.out.ext T4), (RBy.out.ext T4)⟩, ?_⟩
        simp only [Act.put, List.setIfInBounds_toArray, List.set_cons_zero, List.set_cons_succ]
        refine wpAnyH_ready (rs := [1, 5]) (by kernel_rfl) (by simp) ?_
        refine drawn_call1 1 (some 17) (.tmp 16) (ts := #[26]) (by kernel_rfl) (enters_of Tryz.func6 (by kernel_rfl) rfl) rfl (own6_v (Hx.out.ext S4).2.2.1 (Hx.out.ext S4).2.2.2 (by omega) (by omega)) (fun E v1 hh => ?_) ?_
        · skip
          obtain ⟨b1q, A1q, n1q, c1q, e1q, B1q, m1q, d1q, rfl, o1, hx1⟩ := hh
          have S1 := S4.trans hx1
          have T1 := T4.trans hx1
          refine ⟨_, rfl, ⟨S1, (RBx.out.ext T1), (RBy.out.ext T1)⟩, ?_⟩
          simp only [Act.put, List.setIfInBounds_toArray, List.set_cons_zero, List.set_cons_succ]
          refine wpAnyH_ready (rs := [3, 5]) (by kernel_rfl) (by simp) ?_
          refine drawn_call1 3 (some 19) (.tmp 18) (ts := #[26]) (by kernel_rfl) (enters_of Tryz.func6 (by kernel_rfl) rfl) rfl (own6_v (Hy.out.ext S1).2.2.1 (Hy.out.ext S1).2.2.2 (by omega) (by omega)) (fun E v3 hh => ?_) ?_
          · skip
            obtain ⟨b3q, A3q, n3q, c3q, e3q, B3q, m3q, d3q, rfl, o3, hx3⟩ := hh
            have S3 := S1.trans hx3
            have T3 := T1.trans hx3
            refine ⟨_, rfl, ⟨S3, (RBx.out.ext T3), (RBy.out.ext T3)⟩, ?_⟩
            simp only [Act.put, List.setIfInBounds_toArray, List.set_cons_zero, List.set_cons_succ]
            refine wpAnyH_ready (rs := [5]) (by kernel_rfl) (by simp) ?_
            refine drawn_alloc 5 (some 6) (by kernel_rfl) alloc_rat (fun g5 v5 hb5 hx5 hg5 => ?_) ?_
            · have HB5 := hid (show Bk 26 v5 g5 #[.bool false, .slice none 0 0, .bool false, .slice none 0 0] from hb5)
              have S5 := S3.trans hx5
              have T5 := T3.trans hx5
              refine ⟨⟨S5, (RBx.out.ext T5), (RBy.out.ext T5)⟩, ?_⟩
              simp only [Act.put, List.setIfInBounds_toArray, List.set_cons_zero, List.set_cons_succ]
              refine wpAnyH_ready (rs := [6]) (by kernel_rfl) (by simp) ?_
              have hq6 := (HB4.out.ext ((hx1.trans hx3).trans hx5))
              refine drawn_store 6 26 (.tmp 5) (.tmp 17) (g4) #[.bool b1q, .slice A1q n1q c1q, .bool e1q, .slice B1q m1q d1q] #[.bool false, .slice none 0 0, .bool false, .slice none 0 0] 26 (by kernel_rfl) rfl rfl hq6.h info_rat rfl one_four (fun v6 hb6 hg6 => ?_) ?_
              · have HB6 := hid (show Bk 26 v6 (g4) #[.bool b1q, .slice A1q n1q c1q, .bool e1q, .slice B1q m1q d1q] from hb6)
                have S6 := S5.gb hg6 (by have h := S0.size; have h1 := hg4; omega)
                refine ⟨⟨S6, ((RBx.out.ext T5).grown hg6 (by have h0 := (Nat.lt_of_lt_of_le RBx.out.lt T0.size); have h1 := hg4; omega)), ((RBy.out.ext T5).grown hg6 (by have h0 := (Nat.lt_of_lt_of_le RBy.out.lt T0.size); have h1 := hg4; omega))⟩, ?_⟩
                simp only [Act.put, List.setIfInBounds_toArray, List.set_cons_zero, List.set_cons_succ]
                refine wpAnyH_ready (rs := [7]) (by kernel_rfl) (by simp) ?_
                have hq7 := (HB5.out.grown hg6 (by have h0 := (Nat.lt_of_lt_of_le HB4.out.lt (Nat.le_trans hx1.size hx3.size)); have h1 := hg5; omega))
                refine drawn_store 7 26 (.tmp 6) (.tmp 19) (g5) #[.bool b3q, .slice A3q n3q c3q, .bool e3q, .slice B3q m3q d3q] #[.bool false, .slice none 0 0, .bool false, .slice none 0 0] 26 (by kernel_rfl) rfl rfl hq7.h info_rat rfl one_four (fun v7 hb7 hg7 => ?_) ?_
                · have HB7 := hid (show Bk 26 v7 (g5) #[.bool b3q, .slice A3q n3q c3q, .bool e3q, .slice B3q m3q d3q] from hb7)
                  have S7 := S6.gb hg7 (by have h := S3.size; have h1 := hg5; omega)
                  refine ⟨⟨S7, (((RBx.out.ext T5).grown hg6 (by have h0 := (Nat.lt_of_lt_of_le RBx.out.lt T0.size); have h1 := hg4; omega)).grown hg7 (by have h0 := (Nat.lt_of_lt_of_le RBx.out.lt T3.size); have h1 := hg5; omega)), (((RBy.out.ext T5).grown hg6 (by have h0 := (Nat.lt_of_lt_of_le RBy.out.lt T0.size); have h1 := hg4; omega)).grown hg7 (by have h0 := (Nat.lt_of_lt_of_le RBy.out.lt T3.size); have h1 := hg5; omega))⟩, ?_⟩
                  simp only [Act.put, List.setIfInBounds_toArray, List.set_cons_zero, List.set_cons_succ]
                  refine wpAnyH_done (by kernel_rfl) ?_ _
                  go_step
                  go_step
                  go_meet
                  case rel => exact ⟨_, _, _, _, _, _, _, _, _, _, _, _, _, _, _, _, _, _, rfl, rfl, (Nat.le_trans T0.size hg4), (Nat.le_trans T3.size hg5), (by have h0 := (Nat.lt_of_lt_of_le HB4.out.lt (Nat.le_trans hx1.size hx3.size)); have h1 := hg5; omega), (((RBx.out.ext T5).grown hg6 (by have h0 := (Nat.lt_of_lt_of_le RBx.out.lt T0.size); have h1 := hg4; omega)).grown hg7 (by have h0 := (Nat.lt_of_lt_of_le RBx.out.lt T3.size); have h1 := hg5; omega)), (((RBy.out.ext T5).grown hg6 (by have h0 := (Nat.lt_of_lt_of_le RBy.out.lt T0.size); have h1 := hg4; omega)).grown hg7 (by have h0 := (Nat.lt_of_lt_of_le RBy.out.lt T3.size); have h1 := hg5; omega)), (HB6.out.grown hg7 (by have h0 := (Nat.lt_of_lt_of_le HB4.out.lt (Nat.le_trans hx1.size hx3.size)); have h1 := hg5; omega)), HB7.out, (((o1.ext (hx3.trans hx5)).gbk4 hq6 hg6).gbk4 hq7 hg7), (((o3.ext hx5).gbk4 hq6 hg6).gbk4 hq7 hg7), S7⟩
                exact drawn_nil
              exact drawn_nil
            exact drawn_nil
          refine drawn_alloc 5 (some 6) (by kernel_rfl) alloc_rat (fun g5 v5 hb5 hx5 hg5 => ?_) ?_
          · have HB5 := hid (show Bk 26 v5 g5 #[.bool false, .slice none 0 0, .bool false, .slice none 0 0] from hb5)
            have S5 := S1.trans hx5
            have T5 := T1.trans hx5
            refine ⟨⟨S5, (RBx.out.ext T5), (RBy.out.ext T5)⟩, ?_⟩
            simp only [Act.put, List.setIfInBounds_toArray, List.set_cons_zero, List.set_cons_succ]
            refine wpAnyH_ready (rs := [3]) (by kernel_rfl) (by simp) ?_
            refine drawn_call1 3 (some 19) (.tmp 18) (ts := #[26]) (by kernel_rfl) (enters_of Tryz.func6 (by kernel_rfl) rfl) rfl (own6_v (Hy.out.ext S5).2.2.1 (Hy.out.ext S5).2.2.2 (by omega) (by omega)) (fun E v3 hh => ?_) ?_
            · skip
              obtain ⟨b3q, A3q, n3q, c3q, e3q, B3q, m3q, d3q, rfl, o3, hx3⟩ := hh
              have S3 := S5.trans hx3
              have T3 := T5.trans hx3
              refine ⟨_, rfl, ⟨S3, (RBx.out.ext T3), (RBy.out.ext T3)⟩, ?_⟩
              simp only [Act.put, List.setIfInBounds_toArray, List.set_cons_zero, List.set_cons_succ]
              refine wpAnyH_ready (rs := [6]) (by kernel_rfl) (by simp) ?_
              have hq6 := (HB4.out.ext ((hx1.trans hx5).trans hx3))
              refine drawn_store 6 26 (.tmp 5) (.tmp 17) (g4) #[.bool b1q, .slice A1q n1q c1q, .bool e1q, .slice B1q m1q d1q] #[.bool false, .slice none 0 0, .bool false, .slice none 0 0] 26 (by kernel_rfl) rfl rfl hq6.h info_rat rfl one_four (fun v6 hb6 hg6 => ?_) ?_
              · have HB6 := hid (show Bk 26 v6 (g4) #[.bool b1q, .slice A1q n1q c1q, .bool e1q, .slice B1q m1q d1q] from hb6)
                have S6 := S3.gb hg6 (by have h := S0.size; have h1 := hg4; omega)
                refine ⟨⟨S6, ((RBx.out.ext T3).grown hg6 (by have h0 := (Nat.lt_of_lt_of_le RBx.out.lt T0.size); have h1 := hg4; omega)), ((RBy.out.ext T3).grown hg6 (by have h0 := (Nat.lt_of_lt_of_le RBy.out.lt T0.size); have h1 := hg4; omega))⟩, ?_⟩
                simp only [Act.put, List.setIfInBounds_toArray, List.set_cons_zero, List.set_cons_succ]
                refine wpAnyH_ready (rs := [7]) (by kernel_rfl) (by simp) ?_
                have hq7 := ((HB5.out.ext hx3).grown hg6 (by have h0 := (Nat.lt_of_lt_of_le HB4.out.lt hx1.size); have h1 := hg5; omega))
                refine drawn_store 7 26 (.tmp 6) (.tmp 19) (g5) #[.bool b3q, .slice A3q n3q c3q, .bool e3q, .slice B3q m3q d3q] #[.bool false, .slice none 0 0, .bool false, .slice none 0 0] 26 (by kernel_rfl) rfl rfl hq7.h info_rat rfl one_four (fun v7 hb7 hg7 => ?_) ?_
                · have HB7 := hid (show Bk 26 v7 (g5) #[.bool b3q, .slice A3q n3q c3q, .bool e3q, .slice B3q m3q d3q] from hb7)
                  have S7 := S6.gb hg7 (by have h := S1.size; have h1 := hg5; omega)
                  refine ⟨⟨S7, (((RBx.out.ext T3).grown hg6 (by have h0 := (Nat.lt_of_lt_of_le RBx.out.lt T0.size); have h1 := hg4; omega)).grown hg7 (by have h0 := (Nat.lt_of_lt_of_le RBx.out.lt T1.size); have h1 := hg5; omega)), (((RBy.out.ext T3).grown hg6 (by have h0 := (Nat.lt_of_lt_of_le RBy.out.lt T0.size); have h1 := hg4; omega)).grown hg7 (by have h0 := (Nat.lt_of_lt_of_le RBy.out.lt T1.size); have h1 := hg5; omega))⟩, ?_⟩
                  simp only [Act.put, List.setIfInBounds_toArray, List.set_cons_zero, List.set_cons_succ]
                  refine wpAnyH_done (by kernel_rfl) ?_ _
                  go_step
                  go_step
                  go_meet
                  case rel => exact ⟨_, _, _, _, _, _, _, _, _, _, _, _, _, _, _, _, _, _, rfl, rfl, (Nat.le_trans T0.size hg4), (Nat.le_trans T1.size hg5), (by have h0 := (Nat.lt_of_lt_of_le HB4.out.lt hx1.size); have h1 := hg5; omega), (((RBx.out.ext T3).grown hg6 (by have h0 := (Nat.lt_of_lt_of_le RBx.out.lt T0.size); have h1 := hg4; omega)).grown hg7 (by have h0 := (Nat.lt_of_lt_of_le RBx.out.lt T1.size); have h1 := hg5; omega)), (((RBy.out.ext T3).grown hg6 (by have h0 := (Nat.lt_of_lt_of_le RBy.out.lt T0.size); have h1 := hg4; omega)).grown hg7 (by have h0 := (Nat.lt_of_lt_of_le RBy.out.lt T1.size); have h1 := hg5; omega)), (HB6.out.grown hg7 (by have h0 := (Nat.lt_of_lt_of_le HB4.out.lt hx1.size); have h1 := hg5; omega)), HB7.out, (((o1.ext (hx5.trans hx3)).gbk4 hq6 hg6).gbk4 hq7 hg7), ((o3.gbk4 hq6 hg6).gbk4 hq7 hg7), S7⟩
                exact drawn_nil
              exact drawn_nil
            exact drawn_nil
          exact drawn_nil
        refine drawn_alloc 5 (some 6) (by kernel_rfl) alloc_rat (fun g5 v5 hb5 hx5 hg5 => ?_) ?_
        · have HB5 := hid (show Bk 26 v5 g5 #[.bool false, .slice none 0 0, .bool false, .slice none 0 0] from hb5)
          have S5 := S4.trans hx5
          have T5 := T4.trans hx5
          refine ⟨⟨S5, (RBx.out.ext T5), (RBy.out.ext T5)⟩, ?_⟩
          simp only [Act.put, List.setIfInBounds_toArray, List.set_cons_zero, List.set_cons_succ]
          refine wpAnyH_ready (rs := [1]) (by kernel_rfl) (by simp) ?_
          refine drawn_call1 1 (some 17) (.tmp 16) (ts := #[26]) (by kernel_rfl) (enters_of Tryz.func6 (by kernel_rfl) rfl) rfl (own6_v (Hx.out.ext S5).2.2.1 (Hx.out.ext S5).2.2.2 (by omega) (by omega)) (fun E v1 hh => ?_) ?_
          · skip
            obtain ⟨b1q, A1q, n1q, c1q, e1q, B1q, m1q, d1q, rfl, o1, hx1⟩ := hh
            have S1 := S5.trans hx1
            have T1 := T5.trans hx1
            refine ⟨_, rfl, ⟨S1, (RBx.out.ext T1), (RBy.out.ext T1)⟩, ?_⟩
            simp only [Act.put, List.setIfInBounds_toArray, List.set_cons_zero, List.set_cons_succ]
            refine wpAnyH_ready (rs := [3]) (by kernel_rfl) (by simp) ?_
            refine drawn_call1 3 (some 19) (.tmp 18) (ts := #[26]) (by kernel_rfl) (enters_of Tryz.func6 (by kernel_rfl) rfl) rfl (own6_v (Hy.out.ext S1).2.2.1 (Hy.out.ext S1).2.2.2 (by omega) (by omega)) (fun E v3 hh => ?_) ?_
            · skip
              obtain ⟨b3q, A3q, n3q, c3q, e3q, B3q, m3q, d3q, rfl, o3, hx3⟩ := hh
              have S3 := S1.trans hx3
              have T3 := T1.trans hx3
              refine ⟨_, rfl, ⟨S3, (RBx.out.ext T3), (RBy.out.ext T3)⟩, ?_⟩
              simp only [Act.put, List.setIfInBounds_toArray, List.set_cons_zero, List.set_cons_succ]
              refine wpAnyH_ready (rs := [6]) (by kernel_rfl) (by simp) ?_
              have hq6 := (HB4.out.ext ((hx5.trans hx1).trans hx3))
              refine drawn_store 6 26 (.tmp 5) (.tmp 17) (g4) #[.bool b1q, .slice A1q n1q c1q, .bool e1q, .slice B1q m1q d1q] #[.bool false, .slice none 0 0, .bool false, .slice none 0 0] 26 (by kernel_rfl) rfl rfl hq6.h info_rat rfl one_four (fun v6 hb6 hg6 => ?_) ?_
              · have HB6 := hid (show Bk 26 v6 (g4) #[.bool b1q, .slice A1q n1q c1q, .bool e1q, .slice B1q m1q d1q] from hb6)
                have S6 := S3.gb hg6 (by have h := S0.size; have h1 := hg4; omega)
                refine ⟨⟨S6, ((RBx.out.ext T3).grown hg6 (by have h0 := (Nat.lt_of_lt_of_le RBx.out.lt T0.size); have h1 := hg4; omega)), ((RBy.out.ext T3).grown hg6 (by have h0 := (Nat.lt_of_lt_of_le RBy.out.lt T0.size); have h1 := hg4; omega))⟩, ?_⟩
                simp only [Act.put, List.setIfInBounds_toArray, List.set_cons_zero, List.set_cons_succ]
                refine wpAnyH_ready (rs := [7]) (by kernel_rfl) (by simp) ?_
                have hq7 := ((HB5.out.ext (hx1.trans hx3)).grown hg6 (by have h0 := HB4.out.lt; have h1 := hg5; omega))
                refine drawn_store 7 26 (.tmp 6) (.tmp 19) (g5) #[.bool b3q, .slice A3q n3q c3q, .bool e3q, .slice B3q m3q d3q] #[.bool false, .slice none 0 0, .bool false, .slice none 0 0] 26 (by kernel_rfl) rfl rfl hq7.h info_rat rfl one_four (fun v7 hb7 hg7 => ?_) ?_
                · have HB7 := hid (show Bk 26 v7 (g5) #[.bool b3q, .slice A3q n3q c3q, .bool e3q, .slice B3q m3q d3q] from hb7)
                  have S7 := S6.gb hg7 (by have h := S4.size; have h1 := hg5; omega)
                  refine ⟨⟨S7, (((RBx.out.ext T3).grown hg6 (by have h0 := (Nat.lt_of_lt_of_le RBx.out.lt T0.size); have h1 := hg4; omega)).grown hg7 (by have h0 := (Nat.lt_of_lt_of_le RBx.out.lt T4.size); have h1 := hg5; omega)), (((RBy.out.ext T3).grown hg6 (by have h0 := (Nat.lt_of_lt_of_le RBy.out.lt T0.size); have h1 := hg4; omega)).grown hg7 (by have h0 := (Nat.lt_of_lt_of_le RBy.out.lt T4.size); have h1 := hg5; omega))⟩, ?_⟩
                  simp only [Act.put, List.setIfInBounds_toArray, List.set_cons_zero, List.set_cons_succ]
                  refine wpAnyH_done (by kernel_rfl) ?_ _
                  go_step
                  go_step
                  go_meet
                  case rel => exact ⟨_, _, _, _, _, _, _, _, _, _, _, _, _, _, _, _, _, _, rfl, rfl, (Nat.le_trans T0.size hg4), (Nat.le_trans T4.size hg5), (by have h0 := HB4.out.lt; have h1 := hg5; omega), (((RBx.out.ext T3).grown hg6 (by have h0 := (Nat.lt_of_lt_of_le RBx.out.lt T0.size); have h1 := hg4; omega)).grown hg7 (by have h0 := (Nat.lt_of_lt_of_le RBx.out.lt T4.size); have h1 := hg5; omega)), (((RBy.out.ext T3).grown hg6 (by have h0 := (Nat.lt_of_lt_of_le RBy.out.lt T0.size); have h1 := hg4; omega)).grown hg7 (by have h0 := (Nat.lt_of_lt_of_le RBy.out.lt T4.size); have h1 := hg5; omega)), (HB6.out.grown hg7 (by have h0 := HB4.out.lt; have h1 := hg5; omega)), HB7.out, (((o1.ext hx3).gbk4 hq6 hg6).gbk4 hq7 hg7), ((o3.gbk4 hq6 hg6).gbk4 hq7 hg7), S7⟩
                exact drawn_nil
              exact drawn_nil
            exact drawn_nil
          exact drawn_nil
        exact drawn_nil
      refine drawn_alloc 5 (some 6) (by kernel_rfl) alloc_rat (fun g5 v5 hb5 hx5 hg5 => ?_) ?_
      · have HB5 := hid (show Bk 26 v5 g5 #[.bool false, .slice none 0 0, .bool false, .slice none 0 0] from hb5)
        have S5 := S0.trans hx5
        have T5 := T0.trans hx5
        refine ⟨⟨S5, (RBx.out.ext T5), (RBy.out.ext T5)⟩, ?_⟩
        simp only [Act.put, List.setIfInBounds_toArray, List.set_cons_zero, List.set_cons_succ]
        refine wpAnyH_ready (rs := [1, 4]) (by kernel_rfl) (by simp) ?_
        refine drawn_call1 1 (some 17) (.tmp 16) (ts := #[26]) (by kernel_rfl) (enters_of Tryz.func6 (by kernel_rfl) rfl) rfl (own6_v (Hx.out.ext S5).2.2.1 (Hx.out.ext S5).2.2.2 (by omega) (by omega)) (fun E v1 hh => ?_) ?_
        · skip
          obtain ⟨b1q, A1q, n1q, c1q, e1q, B1q, m1q, d1q, rfl, o1, hx1⟩ := hh
          have S1 := S5.trans hx1
          have T1 := T5.trans hx1
          refine ⟨_, rfl, ⟨S1, (RBx.out.ext T1), (RBy.out.ext T1)⟩, ?_⟩
          simp only [Act.put, List.setIfInBounds_toArray, List.set_cons_zero, List.set_cons_succ]
          refine wpAnyH_ready (rs := [3, 4]) (by kernel_rfl) (by simp) ?_
          refine drawn_call1 3 (some 19) (.tmp 18) (ts := #[26]) (by kernel_rfl) (enters_of Tryz.func6 (by kernel_rfl) rfl) rfl (own6_v (Hy.out.ext S1).2.2.1 (Hy.out.ext S1).2.2.2 (by omega) (by omega)) (fun E v3 hh => ?_) ?_
          · skip
            obtain ⟨b3q, A3q, n3q, c3q, e3q, B3q, m3q, d3q, rfl, o3, hx3⟩ := hh
            have S3 := S1.trans hx3
            have T3 := T1.trans hx3
            refine ⟨_, rfl, ⟨S3, (RBx.out.ext T3), (RBy.out.ext T3)⟩, ?_⟩
            simp only [Act.put, List.setIfInBounds_toArray, List.set_cons_zero, List.set_cons_succ]
            refine wpAnyH_ready (rs := [4]) (by kernel_rfl) (by simp) ?_
            refine drawn_alloc 4 (some 5) (by kernel_rfl) alloc_rat (fun g4 v4 hb4 hx4 hg4 => ?_) ?_
            · have HB4 := hid (show Bk 26 v4 g4 #[.bool false, .slice none 0 0, .bool false, .slice none 0 0] from hb4)
              have S4 := S3.trans hx4
              have T4 := T3.trans hx4
              refine ⟨⟨S4, (RBx.out.ext T4), (RBy.out.ext T4)⟩, ?_⟩
              simp only [Act.put, List.setIfInBounds_toArray, List.set_cons_zero, List.set_cons_succ]
              refine wpAnyH_ready (rs := [6]) (by kernel_rfl) (by simp) ?_
              have hq6 := HB4.out
              refine drawn_store 6 26 (.tmp 5) (.tmp 17) (g4) #[.bool b1q, .slice A1q n1q c1q, .bool e1q, .slice B1q m1q d1q] #[.bool false, .slice none 0 0, .bool false, .slice none 0 0] 26 (by kernel_rfl) rfl rfl hq6.h info_rat rfl one_four (fun v6 hb6 hg6 => ?_) ?_
              · have HB6 := hid (show Bk 26 v6 (g4) #[.bool b1q, .slice A1q n1q c1q, .bool e1q, .slice B1q m1q d1q] from hb6)
                have S6 := S4.gb hg6 (by have h := S3.size; have h1 := hg4; omega)
                refine ⟨⟨S6, ((RBx.out.ext T4).grown hg6 (by have h0 := (Nat.lt_of_lt_of_le RBx.out.lt T3.size); have h1 := hg4; omega)), ((RBy.out.ext T4).grown hg6 (by have h0 := (Nat.lt_of_lt_of_le RBy.out.lt T3.size); have h1 := hg4; omega))⟩, ?_⟩
                simp only [Act.put, List.setIfInBounds_toArray, List.set_cons_zero, List.set_cons_succ]
                refine wpAnyH_ready (rs := [7]) (by kernel_rfl) (by simp) ?_
                have hq7 := ((HB5.out.ext ((hx1.trans hx3).trans hx4)).grown hg6 (by have h0 := (Nat.lt_of_lt_of_le HB5.out.lt (Nat.le_trans hx1.size hx3.size)); have h1 := hg4; omega))
                refine drawn_store 7 26 (.tmp 6) (.tmp 19) (g5) #[.bool b3q, .slice A3q n3q c3q, .bool e3q, .slice B3q m3q d3q] #[.bool false, .slice none 0 0, .bool false, .slice none 0 0] 26 (by kernel_rfl) rfl rfl hq7.h info_rat rfl one_four (fun v7 hb7 hg7 => ?_) ?_
                · have HB7 := hid (show Bk 26 v7 (g5) #[.bool b3q, .slice A3q n3q c3q, .bool e3q, .slice B3q m3q d3q] from hb7)
                  have S7 := S6.gb hg7 (by have h := S0.size; have h1 := hg5; omega)
                  refine ⟨⟨S7, (((RBx.out.ext T4).grown hg6 (by have h0 := (Nat.lt_of_lt_of_le RBx.out.lt T3.size); have h1 := hg4; omega)).grown hg7 (by have h0 := (Nat.lt_of_lt_of_le RBx.out.lt T0.size); have h1 := hg5; omega)), (((RBy.out.ext T4).grown hg6 (by have h0 := (Nat.lt_of_lt_of_le RBy.out.lt T3.size); have h1 := hg4; omega)).grown hg7 (by have h0 := (Nat.lt_of_lt_of_le RBy.out.lt T0.size); have h1 := hg5; omega))⟩, ?_⟩
                  simp only [Act.put, List.setIfInBounds_toArray, List.set_cons_zero, List.set_cons_succ]
                  refine wpAnyH_done (by kernel_rfl) ?_ _
                  go_step
                  go_step
                  go_meet
                  case rel => exact ⟨_, _, _, _, _, _, _, _, _, _, _, _, _, _, _, _, _, _, rfl, rfl, (Nat.le_trans T3.size hg4), (Nat.le_trans T0.size hg5), (by have h0 := (Nat.lt_of_lt_of_le HB5.out.lt (Nat.le_trans hx1.size hx3.size)); have h1 := hg4; omega), (((RBx.out.ext T4).grown hg6 (by have h0 := (Nat.lt_of_lt_of_le RBx.out.lt T3.size); have h1 := hg4; omega)).grown hg7 (by have h0 := (Nat.lt_of_lt_of_le RBx.out.lt T0.size); have h1 := hg5; omega)), (((RBy.out.ext T4).grown hg6 (by have h0 := (Nat.lt_of_lt_of_le RBy.out.lt T3.size); have h1 := hg4; omega)).grown hg7 (by have h0 := (Nat.lt_of_lt_of_le RBy.out.lt T0.size); have h1 := hg5; omega)), (HB6.out.grown hg7 (by have h0 := (Nat.lt_of_lt_of_le HB5.out.lt (Nat.le_trans hx1.size hx3.size)); have h1 := hg4; omega)), HB7.out, (((o1.ext (hx3.trans hx4)).gbk4 hq6 hg6).gbk4 hq7 hg7), (((o3.ext hx4).gbk4 hq6 hg6).gbk4 hq7 hg7), S7⟩
                exact drawn_nil
              exact drawn_nil
            exact drawn_nil
          refine drawn_alloc 4 (some 5) (by kernel_rfl) alloc_rat (fun g4 v4 hb4 hx4 hg4 => ?_) ?_
          · have HB4 := hid (show Bk 26 v4 g4 #[.bool false, .slice none 0 0, .bool false, .slice none 0 0] from hb4)
            have S4 := S1.trans hx4
            have T4 := T1.trans hx4
            refine ⟨⟨S4, (RBx.out.ext T4), (RBy.out.ext T4)⟩, ?_⟩
            simp only [Act.put, List.setIfInBounds_toArray, List.set_cons_zero, List.set_cons_succ]
            refine wpAnyH_ready (rs := [3]) (by kernel_rfl) (by simp) ?_
            refine drawn_call1 3 (some 19) (.tmp 18) (ts := #[26]) (by kernel_rfl) (enters_of Tryz.func6 (by kernel_rfl) rfl) rfl (own6_v (Hy.out.ext S4).2.2.1 (Hy.out.ext S4).2.2.2 (by omega) (by omega)) (fun E v3 hh => ?_) ?_
            · skip
              obtain ⟨b3q, A3q, n3q, c3q, e3q, B3q, m3q, d3q, rfl, o3, hx3⟩ := hh
              have S3 := S4.trans hx3
              have T3 := T4.trans hx3
              refine ⟨_, rfl, ⟨S3, (RBx.out.ext T3), (RBy.out.ext T3)⟩, ?_⟩
              simp only [Act.put, List.setIfInBounds_toArray, List.set_cons_zero, List.set_cons_succ]
              refine wpAnyH_ready (rs := [6]) (by kernel_rfl) (by simp) ?_
              have hq6 := (HB4.out.ext hx3)
              refine drawn_store 6 26 (.tmp 5) (.tmp 17) (g4) #[.bool b1q, .slice A1q n1q c1q, .bool e1q, .slice B1q m1q d1q] #[.bool false, .slice none 0 0, .bool false, .slice none 0 0] 26 (by kernel_rfl) rfl rfl hq6.h info_rat rfl one_four (fun v6 hb6 hg6 => ?_) ?_
              · have HB6 := hid (show Bk 26 v6 (g4) #[.bool b1q, .slice A1q n1q c1q, .bool e1q, .slice B1q m1q d1q] from hb6)
                have S6 := S3.gb hg6 (by have h := S1.size; have h1 := hg4; omega)
                refine ⟨⟨S6, ((RBx.out.ext T3).grown hg6 (by have h0 := (Nat.lt_of_lt_of_le RBx.out.lt T1.size); have h1 := hg4; omega)), ((RBy.out.ext T3).grown hg6 (by have h0 := (Nat.lt_of_lt_of_le RBy.out.lt T1.size); have h1 := hg4; omega))⟩, ?_⟩
                simp only [Act.put, List.setIfInBounds_toArray, List.set_cons_zero, List.set_cons_succ]
                refine wpAnyH_ready (rs := [7]) (by kernel_rfl) (by simp) ?_
                have hq7 := ((HB5.out.ext ((hx1.trans hx4).trans hx3)).grown hg6 (by have h0 := (Nat.lt_of_lt_of_le HB5.out.lt hx1.size); have h1 := hg4; omega))
                refine drawn_store 7 26 (.tmp 6) (.tmp 19) (g5) #[.bool b3q, .slice A3q n3q c3q, .bool e3q, .slice B3q m3q d3q] #[.bool false, .slice none 0 0, .bool false, .slice none 0 0] 26 (by kernel_rfl) rfl rfl hq7.h info_rat rfl one_four (fun v7 hb7 hg7 => ?_) ?_
                · have HB7 := hid (show Bk 26 v7 (g5) #[.bool b3q, .slice A3q n3q c3q, .bool e3q, .slice B3q m3q d3q] from hb7)
                  have S7 := S6.gb hg7 (by have h := S0.size; have h1 := hg5; omega)
                  refine ⟨⟨S7, (((RBx.out.ext T3).grown hg6 (by have h0 := (Nat.lt_of_lt_of_le RBx.out.lt T1.size); have h1 := hg4; omega)).grown hg7 (by have h0 := (Nat.lt_of_lt_of_le RBx.out.lt T0.size); have h1 := hg5; omega)), (((RBy.out.ext T3).grown hg6 (by have h0 := (Nat.lt_of_lt_of_le RBy.out.lt T1.size); have h1 := hg4; omega)).grown hg7 (by have h0 := (Nat.lt_of_lt_of_le RBy.out.lt T0.size); have h1 := hg5; omega))⟩, ?_⟩
                  simp only [Act.put, List.setIfInBounds_toArray, List.set_cons_zero, List.set_cons_succ]
                  refine wpAnyH_done (by kernel_rfl) ?_ _
                  go_step
                  go_step
                  go_meet
                  case rel => exact ⟨_, _, _, _, _, _, _, _, _, _, _, _, _, _, _, _, _, _, rfl, rfl, (Nat.le_trans T1.size hg4), (Nat.le_trans T0.size hg5), (by have h0 := (Nat.lt_of_lt_of_le HB5.out.lt hx1.size); have h1 := hg4; omega), (((RBx.out.ext T3).grown hg6 (by have h0 := (Nat.lt_of_lt_of_le RBx.out.lt T1.size); have h1 := hg4; omega)).grown hg7 (by have h0 := (Nat.lt_of_lt_of_le RBx.out.lt T0.size); have h1 := hg5; omega)), (((RBy.out.ext T3).grown hg6 (by have h0 := (Nat.lt_of_lt_of_le RBy.out.lt T1.size); have h1 := hg4; omega)).grown hg7 (by have h0 := (Nat.lt_of_lt_of_le RBy.out.lt T0.size); have h1 := hg5; omega)), (HB6.out.grown hg7 (by have h0 := (Nat.lt_of_lt_of_le HB5.out.lt hx1.size); have h1 := hg4; omega)), HB7.out, (((o1.ext (hx4.trans hx3)).gbk4 hq6 hg6).gbk4 hq7 hg7), ((o3.gbk4 hq6 hg6).gbk4 hq7 hg7), S7⟩
                exact drawn_nil
              exact drawn_nil
            exact drawn_nil
          exact drawn_nil
        refine drawn_alloc 4 (some 5) (by kernel_rfl) alloc_rat (fun g4 v4 hb4 hx4 hg4 => ?_) ?_
        · have HB4 := hid (show Bk 26 v4 g4 #[.bool false, .slice none 0 0, .bool false, .slice none 0 0] from hb4)
          have S4 := S5.trans hx4
          have T4 := T5.trans hx4
          refine ⟨⟨S4, (RBx.out.ext T4), (RBy.out.ext T4)⟩, ?_⟩
          simp only [Act.put, List.setIfInBounds_toArray, List.set_cons_zero, List.set_cons_succ]
          refine wpAnyH_ready (rs := [1]) (by kernel_rfl) (by simp) ?_
          refine drawn_call1 1 (some 17) (.tmp 16) (ts := #[26]) (by kernel_rfl) (enters_of Tryz.func6 (by kernel_rfl) rfl) rfl (own6_v (Hx.out.ext S4).2.2.1 (Hx.out.ext S4).2.2.2 (by omega) (by omega)) (fun E v1 hh => ?_) ?_
          · skip
            obtain ⟨b1q, A1q, n1q, c1q, e1q, B1q, m1q, d1q, rfl, o1, hx1⟩ := hh
            have S1 := S4.trans hx1
            have T1 := T4.trans hx1
            refine ⟨_, rfl, ⟨S1, (RBx.out.ext T1), (RBy.out.ext T1)⟩, ?_⟩
            simp only [Act.put, List.setIfInBounds_toArray, List.set_cons_zero, List.set_cons_succ]
            refine wpAnyH_ready (rs := [3]) (by kernel_rfl) (by simp) ?_
            refine drawn_call1 3 (some 19) (.tmp 18) (ts := #[26]) (by kernel_rfl) (enters_of Tryz.func6 (by kernel_rfl) rfl) rfl (own6_v (Hy.out.ext S1).2.2.1 (Hy.out.ext S1).2.2.2 (by omega) (by omega)) (fun E v3 hh => ?_) ?_
            · skip
              obtain ⟨b3q, A3q, n3q, c3q, e3q, B3q, m3q, d3q, rfl, o3, hx3⟩ := hh
              have S3 := S1.trans hx3
              have T3 := T1.trans hx3
              refine ⟨_, rfl, ⟨S3, (RBx.out.ext T3), (RBy.out.ext T3)⟩, ?_⟩
              simp only [Act.put, List.setIfInBounds_toArray, List.set_cons_zero, List.set_cons_succ]
              refine wpAnyH_ready (rs := [6]) (by kernel_rfl) (by simp) ?_
              have hq6 := (HB4.out.ext (hx1.trans hx3))
              refine drawn_store 6 26 (.tmp 5) (.tmp 17) (g4) #[.bool b1q, .slice A1q n1q c1q, .bool e1q, .slice B1q m1q d1q] #[.bool false, .slice none 0 0, .bool false, .slice none 0 0] 26 (by kernel_rfl) rfl rfl hq6.h info_rat rfl one_four (fun v6 hb6 hg6 => ?_) ?_
              · have HB6 := hid (show Bk 26 v6 (g4) #[.bool b1q, .slice A1q n1q c1q, .bool e1q, .slice B1q m1q d1q] from hb6)
                have S6 := S3.gb hg6 (by have h := S5.size; have h1 := hg4; omega)
                refine ⟨⟨S6, ((RBx.out.ext T3).grown hg6 (by have h0 := (Nat.lt_of_lt_of_le RBx.out.lt T5.size); have h1 := hg4; omega)), ((RBy.out.ext T3).grown hg6 (by have h0 := (Nat.lt_of_lt_of_le RBy.out.lt T5.size); have h1 := hg4; omega))⟩, ?_⟩
                simp only [Act.put, List.setIfInBounds_toArray, List.set_cons_zero, List.set_cons_succ]
                refine wpAnyH_ready (rs := [7]) (by kernel_rfl) (by simp) ?_
                have hq7 := ((HB5.out.ext ((hx4.trans hx1).trans hx3)).grown hg6 (by have h0 := HB5.out.lt; have h1 := hg4; omega))
                refine drawn_store 7 26 (.tmp 6) (.tmp 19) (g5) #[.bool b3q, .slice A3q n3q c3q, .bool e3q, .slice B3q m3q d3q] #[.bool false, .slice none 0 0, .bool false, .slice none 0 0] 26 (by kernel_rfl) rfl rfl hq7.h info_rat rfl one_four (fun v7 hb7 hg7 => ?_) ?_
                · have HB7 := hid (show Bk 26 v7 (g5) #[.bool b3q, .slice A3q n3q c3q, .bool e3q, .slice B3q m3q d3q] from hb7)
                  have S7 := S6.gb hg7 (by have h := S0.size; have h1 := hg5; omega)
                  refine ⟨⟨S7, (((RBx.out.ext T3).grown hg6 (by have h0 := (Nat.lt_of_lt_of_le RBx.out.lt T5.size); have h1 := hg4; omega)).grown hg7 (by have h0 := (Nat.lt_of_lt_of_le RBx.out.lt T0.size); have h1 := hg5; omega)), (((RBy.out.ext T3).grown hg6 (by have h0 := (Nat.lt_of_lt_of_le RBy.out.lt T5.size); have h1 := hg4; omega)).grown hg7 (by have h0 := (Nat.lt_of_lt_of_le RBy.out.lt T0.size); have h1 := hg5; omega))⟩, ?_⟩
                  simp only [Act.put, List.setIfInBounds_toArray, List.set_cons_zero, List.set_cons_succ]
                  refine wpAnyH_done (by kernel_rfl) ?_ _
                  go_step
                  go_step
                  go_meet
                  case rel => exact ⟨_, _, _, _, _, _, _, _, _, _, _, _, _, _, _, _, _, _, rfl, rfl, (Nat.le_trans T5.size hg4), (Nat.le_trans T0.size hg5), (by have h0 := HB5.out.lt; have h1 := hg4; omega), (((RBx.out.ext T3).grown hg6 (by have h0 := (Nat.lt_of_lt_of_le RBx.out.lt T5.size); have h1 := hg4; omega)).grown hg7 (by have h0 := (Nat.lt_of_lt_of_le RBx.out.lt T0.size); have h1 := hg5; omega)), (((RBy.out.ext T3).grown hg6 (by have h0 := (Nat.lt_of_lt_of_le RBy.out.lt T5.size); have h1 := hg4; omega)).grown hg7 (by have h0 := (Nat.lt_of_lt_of_le RBy.out.lt T0.size); have h1 := hg5; omega)), (HB6.out.grown hg7 (by have h0 := HB5.out.lt; have h1 := hg4; omega)), HB7.out, (((o1.ext hx3).gbk4 hq6 hg6).gbk4 hq7 hg7), ((o3.gbk4 hq6 hg6).gbk4 hq7 hg7), S7⟩
                exact drawn_nil
              exact drawn_nil
            exact drawn_nil
          exact drawn_nil
        exact drawn_nil
      exact drawn_nil
  case rest =>
  obtain ⟨g5c, g6c, b1q, A1q, n1q, c1q, e1q, B1q, m1q, d1q, b3q, A3q, n3q, c3q, e3q, B3q, m3q, d3q, rfl, rfl, hgea3, hgeb3, hneab3, Bxc3, Byc3, Bac3, Bbc3, Oac3, Obc3, Xc3⟩ := hcut
  obtain ⟨w3, hw3⟩ : ∃ w3, w3 = wc := ⟨_, rfl⟩
  subst hw3
  have HBxc3 := hid Bxc3
  clear Bxc3
  have HByc3 := hid Byc3
  clear Byc3
  have HBac3 := hid Bac3
  clear Bac3
  have HBbc3 := hid Bbc3
  clear Bbc3
  have HOac3 := hid Oac3
  clear Oac3
  have HObc3 := hid Obc3
  clear Obc3
  have X3 := hid Xc3
  clear Xc3
  go_upto_region 4 with fail
  go_cut [7, 8] (fun v7 v8 wx => ∃ (g7c : Nat) (g8c : Nat)   (b1p : Bool) (A1p : Option Addr) (n1p c1p : Nat) (e1p : Bool) (B1p : Option Addr) (m1p d1p : Nat) (b3p : Bool) (A3p : Option Addr) (n3p c3p : Nat) (e3p : Bool) (B3p : Option Addr) (m3p d3p : Nat), v7 = .pointer (some ⟨g7c, 0, none⟩) ∧ v8 = .pointer (some ⟨g8c, 0, none⟩) ∧ w3.heap.size ≤ g7c ∧ w3.heap.size ≤ g8c ∧ g7c ≠ g8c ∧ Bk 26 wx (w.heap.size) #[.bool sx, .slice Px lx kx, .bool tx, .slice Qx mx dx] ∧ Bk 26 wx (w.heap.size + 1) #[.bool sy, .slice Py ly ky, .bool ty, .slice Qy my dy] ∧ Bk 26 wx (g5c) #[.bool b1q, .slice A1q n1q c1q, .bool e1q, .slice B1q m1q d1q] ∧ Bk 26 wx (g6c) #[.bool b3q, .slice A3q n3q c3q, .bool e3q, .slice B3q m3q d3q] ∧ Bk 35 wx (g7c) #[.bool b1p, .slice A1p n1p c1p, .bool e1p, .slice B1p m1p d1p] ∧ Bk 35 wx (g8c) #[.bool b3p, .slice A3p n3p c3p, .bool e3p, .slice B3p m3p d3p] ∧ Lq wx b1q A1q n1q c1q e1q B1q m1q d1q sx X tx Y ∧ Lq wx b3q A3q n3q c3q e3q B3q m3q d3q sy U ty V ∧ Qz (10 * 8 + 22) wx b1p A1p n1p c1p e1p B1p m1p d1p (zv sx (nv 4294967296 X)) (dn (zv tx (nv 4294967296 Y))) ∧ Qz (10 * 8 + 22) wx b3p A3p n3p c3p e3p B3p m3p d3p (zv sy (nv 4294967296 U)) (dn (zv ty (nv 4294967296 V))) ∧ Ext w wx)
  case first =>
    as_aux_lemma =>
      have T0 := (Ext.refl w3).drew
      have S0 := X3.out.trans T0
      refine wp_region_held_drew (S := fun w' => Ext w w' ∧ Bk 26 w' (w.heap.size) #[.bool sx, .slice Px lx kx, .bool tx, .slice Qx mx dx] ∧ Bk 26 w' (w.heap.size + 1) #[.bool sy, .slice Py ly ky, .bool ty, .slice Qy my dy]) (by kernel_rfl) ⟨S0, (HBxc3.out.ext T0), (HByc3.out.ext T0)⟩ (fun hS0 => ?_)
      change wpAnyH _ _ _ _ _ 8 #[false, false, false, false, false, false, false, false] _ _
      refine drawn_load 0 20 26 (.tmp 2) (w.heap.size) 26 #[.bool sx, .slice Px lx kx, .bool tx, .slice Qx mx dx] (0, 0) _ (by kernel_rfl) rfl (fun w' hS => hS.2.1.h) Tryz.underlying26 rfl info_rat (by kernel_rfl) (by kernel_rfl) (by kernel_rfl) (fun _ _ _ _ h => h) hS0 ?_
      simp only [Act.put, List.setIfInBounds_toArray, List.set_cons_zero, List.set_cons_succ]
      refine drawn_load 2 22 26 (.tmp 3) (w.heap.size + 1) 26 #[.bool sy, .slice Py ly ky, .bool ty, .slice Qy my dy] (0, 0) _ (by kernel_rfl) rfl (fun w' hS => hS.2.2.h) Tryz.underlying26 rfl info_rat (by kernel_rfl) (by kernel_rfl) (by kernel_rfl) (fun _ _ _ _ h => h) hS0 ?_
      simp only [Act.put, List.setIfInBounds_toArray, List.set_cons_zero, List.set_cons_succ]
      refine wpAnyH_ready (rs := [1, 4, 5]) (by kernel_rfl) (by simp) ?_
      refine drawn_call1 1 (some 21) (.tmp 20) (ts := #[26]) (by kernel_rfl) (enters_of Tryz.func7 (by kernel_rfl) rfl) rfl (dof_l (Hx.out.ext S0) LX.out (by omega)) (fun E v1 hh => ?_) ?_
      · skip
        obtain ⟨b1p, A1p, n1p, c1p, e1p, B1p, m1p, d1p, rfl, o1, hx1⟩ := hh
        have S1 := S0.trans hx1
        have T1 := T0.trans hx1
        refine ⟨_, rfl, ⟨S1, (HBxc3.out.ext T1), (HByc3.out.ext T1)⟩, ?_⟩
        simp only [Act.put, List.setIfInBounds_toArray, List.set_cons_zero, List.set_cons_succ]
        refine wpAnyH_ready (rs := [3, 4, 5]) (by kernel_rfl) (by simp) ?_
        refine drawn_call1 3 (some 23) (.tmp 22) (ts := #[26]) (by kernel_rfl) (enters_of Tryz.func7 (by kernel_rfl) rfl) rfl (dof_l (Hy.out.ext S1) LY.out (by omega)) (fun E v3 hh => ?_) ?_
        · skip
          obtain ⟨b3p, A3p, n3p, c3p, e3p, B3p, m3p, d3p, rfl, o3, hx3⟩ := hh
          have S3 := S1.trans hx3
          have T3 := T1.trans hx3
          refine ⟨_, rfl, ⟨S3, (HBxc3.out.ext T3), (HByc3.out.ext T3)⟩, ?_⟩
          simp only [Act.put, List.setIfInBounds_toArray, List.set_cons_zero, List.set_cons_succ]
          refine wpAnyH_ready (rs := [4, 5]) (by kernel_rfl) (by simp) ?_
          refine drawn_alloc 4 (some 7) (by kernel_rfl) alloc_q (fun g4 v4 hb4 hx4 hg4 => ?_) ?_
          · have HB4 := hid (show Bk 35 v4 g4 #[.bool false, .slice none 0 0, .bool false, .slice none 0 0] from hb4)
            have S4 := S3.trans hx4
            have T4 := T3.trans hx4
            refine ⟨⟨S4, (HBxc3.out.ext T4), (HByc3.out.ext T4)⟩, ?_⟩
            simp only [Act.put, List.setIfInBounds_toArray, List.set_cons_zero, List.set_cons_succ]
            refine wpAnyH_ready (rs := [5]) (by kernel_rfl) (by simp) ?_
            refine drawn_alloc 5 (some 8) (by kernel_rfl) alloc_q (fun g5 v5 hb5 hx5 hg5 => ?_) ?_
            · have HB5 := hid (show Bk 35 v5 g5 #[.bool false, .slice none 0 0, .bool false, .slice none 0 0] from hb5)
              have S5 := S4.trans hx5
              have T5 := T4.trans hx5
              refine ⟨⟨S5, (HBxc3.out.ext T5), (HByc3.out.ext T5)⟩, ?_⟩
              simp only [Act.put, List.setIfInBounds_toArray, List.set_cons_zero, List.set_cons_succ]
              refine wpAnyH_ready (rs := [6]) (by kernel_rfl) (by simp) ?_
              have hq6 := (HB4.out.ext hx5)
              refine drawn_store 6 35 (.tmp 7) (.tmp 21) (g4) #[.bool b1p, .slice A1p n1p c1p, .bool e1p, .slice B1p m1p d1p] #[.bool false, .slice none 0 0, .bool false, .slice none 0 0] 35 (by kernel_rfl) rfl rfl hq6.h info_q rfl one_four (fun v6 hb6 hg6 => ?_) ?_
              · have HB6 := hid (show Bk 35 v6 (g4) #[.bool b1p, .slice A1p n1p c1p, .bool e1p, .slice B1p m1p d1p] from hb6)
                have S6 := S5.gb hg6 (by have h := S3.size; have h1 := hg4; omega)
                refine ⟨⟨S6, ((HBxc3.out.ext T5).grown hg6 (by have h0 := (Nat.lt_of_lt_of_le HBxc3.out.lt T3.size); have h1 := hg4; omega)), ((HByc3.out.ext T5).grown hg6 (by have h0 := (Nat.lt_of_lt_of_le HByc3.out.lt T3.size); have h1 := hg4; omega))⟩, ?_⟩
                simp only [Act.put, List.setIfInBounds_toArray, List.set_cons_zero, List.set_cons_succ]
                refine wpAnyH_ready (rs := [7]) (by kernel_rfl) (by simp) ?_
                have hq7 := (HB5.out.grown hg6 (by have h0 := HB4.out.lt; have h1 := hg5; omega))
                refine drawn_store 7 35 (.tmp 8) (.tmp 23) (g5) #[.bool b3p, .slice A3p n3p c3p, .bool e3p, .slice B3p m3p d3p] #[.bool false, .slice none 0 0, .bool false, .slice none 0 0] 35 (by kernel_rfl) rfl rfl hq7.h info_q rfl one_four (fun v7 hb7 hg7 => ?_) ?_
                · have HB7 := hid (show Bk 35 v7 (g5) #[.bool b3p, .slice A3p n3p c3p, .bool e3p, .slice B3p m3p d3p] from hb7)
                  have S7 := S6.gb hg7 (by have h := S4.size; have h1 := hg5; omega)
                  refine ⟨⟨S7, (((HBxc3.out.ext T5).grown hg6 (by have h0 := (Nat.lt_of_lt_of_le HBxc3.out.lt T3.size); have h1 := hg4; omega)).grown hg7 (by have h0 := (Nat.lt_of_lt_of_le HBxc3.out.lt T4.size); have h1 := hg5; omega)), (((HByc3.out.ext T5).grown hg6 (by have h0 := (Nat.lt_of_lt_of_le HByc3.out.lt T3.size); have h1 := hg4; omega)).grown hg7 (by have h0 := (Nat.lt_of_lt_of_le HByc3.out.lt T4.size); have h1 := hg5; omega))⟩, ?_⟩
                  simp only [Act.put, List.setIfInBounds_toArray, List.set_cons_zero, List.set_cons_succ]
                  refine wpAnyH_done (by kernel_rfl) ?_ _
                  go_step
                  go_step
                  go_meet
                  case rel => exact ⟨_, _, _, _, _, _, _, _, _, _, _, _, _, _, _, _, _, _, rfl, rfl, (Nat.le_trans T3.size hg4), (Nat.le_trans T4.size hg5), (by have h0 := HB4.out.lt; have h1 := hg5; omega), (((HBxc3.out.ext T5).grown hg6 (by have h0 := (Nat.lt_of_lt_of_le HBxc3.out.lt T3.size); have h1 := hg4; omega)).grown hg7 (by have h0 := (Nat.lt_of_lt_of_le HBxc3.out.lt T4.size); have h1 := hg5; omega)), (((HByc3.out.ext T5).grown hg6 (by have h0 := (Nat.lt_of_lt_of_le HByc3.out.lt T3.size); have h1 := hg4; omega)).grown hg7 (by have h0 := (Nat.lt_of_lt_of_le HByc3.out.lt T4.size); have h1 := hg5; omega)), (((HBac3.out.ext T5).grown hg6 (by have h0 := (Nat.lt_of_lt_of_le HBac3.out.lt T3.size); have h1 := hg4; omega)).grown hg7 (by have h0 := (Nat.lt_of_lt_of_le HBac3.out.lt T4.size); have h1 := hg5; omega)), (((HBbc3.out.ext T5).grown hg6 (by have h0 := (Nat.lt_of_lt_of_le HBbc3.out.lt T3.size); have h1 := hg4; omega)).grown hg7 (by have h0 := (Nat.lt_of_lt_of_le HBbc3.out.lt T4.size); have h1 := hg5; omega)), (HB6.out.grown hg7 (by have h0 := HB4.out.lt; have h1 := hg5; omega)), HB7.out, (((HOac3.out.ext T5).gbk4 hq6 hg6).gbk4 hq7 hg7), (((HObc3.out.ext T5).gbk4 hq6 hg6).gbk4 hq7 hg7), (((o1.ext ((hx3.trans hx4).trans hx5)).gbk4 hq6 hg6).gbk4 hq7 hg7), (((o3.ext (hx4.trans hx5)).gbk4 hq6 hg6).gbk4 hq7 hg7), S7⟩
                exact drawn_nil
              exact drawn_nil
            exact drawn_nil
          refine drawn_alloc 5 (some 8) (by kernel_rfl) alloc_q (fun g5 v5 hb5 hx5 hg5 => ?_) ?_
          · have HB5 := hid (show Bk 35 v5 g5 #[.bool false, .slice none 0 0, .bool false, .slice none 0 0] from hb5)
            have S5 := S3.trans hx5
            have T5 := T3.trans hx5
            refine ⟨⟨S5, (HBxc3.out.ext T5), (HByc3.out.ext T5)⟩, ?_⟩
            simp only [Act.put, List.setIfInBounds_toArray, List.set_cons_zero, List.set_cons_succ]
            refine wpAnyH_ready (rs := [4]) (by kernel_rfl) (by simp) ?_
            refine drawn_alloc 4 (some 7) (by kernel_rfl) alloc_q (fun g4 v4 hb4 hx4 hg4 => ?_) ?_
            · have HB4 := hid (show Bk 35 v4 g4 #[.bool false, .slice none 0 0, .bool false, .slice none 0 0] from hb4)
              have S4 := S5.trans hx4
              have T4 := T5.trans hx4
              refine ⟨⟨S4, (HBxc3.out.ext T4), (HByc3.out.ext T4)⟩, ?_⟩
              simp only [Act.put, List.setIfInBounds_toArray, List.set_cons_zero, List.set_cons_succ]
              refine wpAnyH_ready (rs := [6]) (by kernel_rfl) (by simp) ?_
              have hq6 := HB4.out
              refine drawn_store 6 35 (.tmp 7) (.tmp 21) (g4) #[.bool b1p, .slice A1p n1p c1p, .bool e1p, .slice B1p m1p d1p] #[.bool false, .slice none 0 0, .bool false, .slice none 0 0] 35 (by kernel_rfl) rfl rfl hq6.h info_q rfl one_four (fun v6 hb6 hg6 => ?_) ?_
              · have HB6 := hid (show Bk 35 v6 (g4) #[.bool b1p, .slice A1p n1p c1p, .bool e1p, .slice B1p m1p d1p] from hb6)
                have S6 := S4.gb hg6 (by have h := S5.size; have h1 := hg4; omega)
                refine ⟨⟨S6, ((HBxc3.out.ext T4).grown hg6 (by have h0 := (Nat.lt_of_lt_of_le HBxc3.out.lt T5.size); have h1 := hg4; omega)), ((HByc3.out.ext T4).grown hg6 (by have h0 := (Nat.lt_of_lt_of_le HByc3.out.lt T5.size); have h1 := hg4; omega))⟩, ?_⟩
                simp only [Act.put, List.setIfInBounds_toArray, List.set_cons_zero, List.set_cons_succ]
                refine wpAnyH_ready (rs := [7]) (by kernel_rfl) (by simp) ?_
                have hq7 := ((HB5.out.ext hx4).grown hg6 (by have h0 := HB5.out.lt; have h1 := hg4; omega))
                refine drawn_store 7 35 (.tmp 8) (.tmp 23) (g5) #[.bool b3p, .slice A3p n3p c3p, .bool e3p, .slice B3p m3p d3p] #[.bool false, .slice none 0 0, .bool false, .slice none 0 0] 35 (by kernel_rfl) rfl rfl hq7.h info_q rfl one_four (fun v7 hb7 hg7 => ?_) ?_
                · have HB7 := hid (show Bk 35 v7 (g5) #[.bool b3p, .slice A3p n3p c3p, .bool e3p, .slice B3p m3p d3p] from hb7)
                  have S7 := S6.gb hg7 (by have h := S3.size; have h1 := hg5; omega)
                  refine ⟨⟨S7, (((HBxc3.out.ext T4).grown hg6 (by have h0 := (Nat.lt_of_lt_of_le HBxc3.out.lt T5.size); have h1 := hg4; omega)).grown hg7 (by have h0 := (Nat.lt_of_lt_of_le HBxc3.out.lt T3.size); have h1 := hg5; omega)), (((HByc3.out.ext T4).grown hg6 (by have h0 := (Nat.lt_of_lt_of_le HByc3.out.lt T5.size); have h1 := hg4; omega)).grown hg7 (by have h0 := (Nat.lt_of_lt_of_le HByc3.out.lt T3.size); have h1 := hg5; omega))⟩, ?_⟩
                  simp only [Act.put, List.setIfInBounds_toArray, List.set_cons_zero, List.set_cons_succ]
                  refine wpAnyH_done (by kernel_rfl) ?_ _
                  go_step
                  go_step
                  go_meet
                  case rel => exact ⟨_, _, _, _, _, _, _, _, _, _, _, _, _, _, _, _, _, _, rfl, rfl, (Nat.le_trans T5.size hg4), (Nat.le_trans T3.size hg5), (by have h0 := HB5.out.lt; have h1 := hg4; omega), (((HBxc3.out.ext T4).grown hg6 (by have h0 := (Nat.lt_of_lt_of_le HBxc3.out.lt T5.size); have h1 := hg4; omega)).grown hg7 (by have h0 := (Nat.lt_of_lt_of_le HBxc3.out.lt T3.size); have h1 := hg5; omega)), (((HByc3.out.ext T4).grown hg6 (by have h0 := (Nat.lt_of_lt_of_le HByc3.out.lt T5.size); have h1 := hg4; omega)).grown hg7 (by have h0 := (Nat.lt_of_lt_of_le HByc3.out.lt T3.size); have h1 := hg5; omega)), (((HBac3.out.ext T4).grown hg6 (by have h0 := (Nat.lt_of_lt_of_le HBac3.out.lt T5.size); have h1 := hg4; omega)).grown hg7 (by have h0 := (Nat.lt_of_lt_of_le HBac3.out.lt T3.size); have h1 := hg5; omega)), (((HBbc3.out.ext T4).grown hg6 (by have h0 := (Nat.lt_of_lt_of_le HBbc3.out.lt T5.size); have h1 := hg4; omega)).grown hg7 (by have h0 := (Nat.lt_of_lt_of_le HBbc3.out.lt T3.size); have h1 := hg5; omega)), (HB6.out.grown hg7 (by have h0 := HB5.out.lt; have h1 := hg4; omega)), HB7.out, (((HOac3.out.ext T4).gbk4 hq6 hg6).gbk4 hq7 hg7), (((HObc3.out.ext T4).gbk4 hq6 hg6).gbk4 hq7 hg7), (((o1.ext ((hx3.trans hx5).trans hx4)).gbk4 hq6 hg6).gbk4 hq7 hg7), (((o3.ext (hx5.trans hx4)).gbk4 hq6 hg6).gbk4 hq7 hg7), S7⟩
                exact drawn_nil
              exact drawn_nil
            exact drawn_nil
          exact drawn_nil
        refine drawn_alloc 4 (some 7) (by kernel_rfl) alloc_q (fun g4 v4 hb4 hx4 hg4 => ?_) ?_
        · have HB4 := hid (show Bk 35 v4 g4 #[.bool false, .slice none 0 0, .bool false, .slice none 0 0] from hb4)
          have S4 := S1.trans hx4
          have T4 := T1.trans hx4
          refine ⟨⟨S4, (HBxc3.out.ext T4), (HByc3.out.ext T4)⟩, ?_⟩
          simp only [Act.put, List.setIfInBounds_toArray, List.set_cons_zero, List.set_cons_succ]
          refine wpAnyH_ready (rs := [3, 5]) (by kernel_rfl) (by simp) ?_
          refine drawn_call1 3 (some 23) (.tmp 22) (ts := #[26]) (by kernel_rfl) (enters_of Tryz.func7 (by kernel_rfl) rfl) rfl (dof_l (Hy.out.ext S4) LY.out (by omega)) (fun E v3 hh => ?_) ?_
          · skip
            obtain ⟨b3p, A3p, n3p, c3p, e3p, B3p, m3p, d3p, rfl, o3, hx3⟩ := hh
            have S3 := S4.trans hx3
            have T3 := T4.trans hx3
            refine ⟨_, rfl, ⟨S3, (HBxc3.out.ext T3), (HByc3.out.ext T3)⟩, ?_⟩
            simp only [Act.put, List.setIfInBounds_toArray, List.set_cons_zero, List.set_cons_succ]
            refine wpAnyH_ready (rs := [5]) (by kernel_rfl) (by simp) ?_
            refine drawn_alloc 5 (some 8) (by kernel_rfl) alloc_q (fun g5 v5 hb5 hx5 hg5 => ?_) ?_
            · have HB5 := hid (show Bk 35 v5 g5 #[.bool false, .slice none 0 0, .bool false, .slice none 0 0] from hb5)
              have S5 := S3.trans hx5
              have T5 := T3.trans hx5
              refine ⟨⟨S5, (HBxc3.out.ext T5), (HByc3.out.ext T5)⟩, ?_⟩
              simp only [Act.put, List.setIfInBounds_toArray, List.set_cons_zero, List.set_cons_succ]
              refine wpAnyH_ready (rs := [6]) (by kernel_rfl) (by simp) ?_
              have hq6 := (HB4.out.ext (hx3.trans hx5))
              refine drawn_store 6 35 (.tmp 7) (.tmp 21) (g4) #[.bool b1p, .slice A1p n1p c1p, .bool e1p, .slice B1p m1p d1p] #[.bool false, .slice none 0 0, .bool false, .slice none 0 0] 35 (by kernel_rfl) rfl rfl hq6.h info_q rfl one_four (fun v6 hb6 hg6 => ?_) ?_
              · have HB6 := hid (show Bk 35 v6 (g4) #[.bool b1p, .slice A1p n1p c1p, .bool e1p, .slice B1p m1p d1p] from hb6)
                have S6 := S5.gb hg6 (by have h := S1.size; have h1 := hg4; omega)
                refine ⟨⟨S6, ((HBxc3.out.ext T5).grown hg6 (by have h0 := (Nat.lt_of_lt_of_le HBxc3.out.lt T1.size); have h1 := hg4; omega)), ((HByc3.out.ext T5).grown hg6 (by have h0 := (Nat.lt_of_lt_of_le HByc3.out.lt T1.size); have h1 := hg4; omega))⟩, ?_⟩
                simp only [Act.put, List.setIfInBounds_toArray, List.set_cons_zero, List.set_cons_succ]
                refine wpAnyH_ready (rs := [7]) (by kernel_rfl) (by simp) ?_
                have hq7 := (HB5.out.grown hg6 (by have h0 := (Nat.lt_of_lt_of_le HB4.out.lt hx3.size); have h1 := hg5; omega))
                refine drawn_store 7 35 (.tmp 8) (.tmp 23) (g5) #[.bool b3p, .slice A3p n3p c3p, .bool e3p, .slice B3p m3p d3p] #[.bool false, .slice none 0 0, .bool false, .slice none 0 0] 35 (by kernel_rfl) rfl rfl hq7.h info_q rfl one_four (fun v7 hb7 hg7 => ?_) ?_
                · have HB7 := hid (show Bk 35 v7 (g5) #[.bool b3p, .slice A3p n3p c3p, .bool e3p, .slice B3p m3p d3p] from hb7)
                  have S7 := S6.gb hg7 (by have h := S3.size; have h1 := hg5; omega)
                  refine ⟨⟨S7, (((HBxc3.out.ext T5).grown hg6 (by have h0 := (Nat.lt_of_lt_of_le HBxc3.out.lt T1.size); have h1 := hg4; omega)).grown hg7 (by have h0 := (Nat.lt_of_lt_of_le HBxc3.out.lt T3.size); have h1 := hg5; omega)), (((HByc3.out.ext T5).grown hg6 (by have h0 := (Nat.lt_of_lt_of_le HByc3.out.lt T1.size); have h1 := hg4; omega)).grown hg7 (by have h0 := (Nat.lt_of_lt_of_le HByc3.out.lt T3.size); have h1 := hg5; omega))⟩, ?_⟩
                  simp only [Act.put, List.setIfInBounds_toArray, List.set_cons_zero, List.set_cons_succ]
                  refine wpAnyH_done (by kernel_rfl) ?_ _
                  go_step
                  go_step
                  go_meet
                  case rel => exact ⟨_, _, _, _, _, _, _, _, _, _, _, _, _, _, _, _, _, _, rfl, rfl, (Nat.le_trans T1.size hg4), (Nat.le_trans T3.size hg5), (by have h0 := (Nat.lt_of_lt_of_le HB4.out.lt hx3.size); have h1 := hg5; omega), (((HBxc3.out.ext T5).grown hg6 (by have h0 := (Nat.lt_of_lt_of_le HBxc3.out.lt T1.size); have h1 := hg4; omega)).grown hg7 (by have h0 := (Nat.lt_of_lt_of_le HBxc3.out.lt T3.size); have h1 := hg5; omega)), (((HByc3.out.ext T5).grown hg6 (by have h0 := (Nat.lt_of_lt_of_le HByc3.out.lt T1.size); have h1 := hg4; omega)).grown hg7 (by have h0 := (Nat.lt_of_lt_of_le HByc3.out.lt T3.size); have h1 := hg5; omega)), (((HBac3.out.ext T5).grown hg6 (by have h0 := (Nat.lt_of_lt_of_le HBac3.out.lt T1.size); have h1 := hg4; omega)).grown hg7 (by have h0 := (Nat.lt_of_lt_of_le HBac3.out.lt T3.size); have h1 := hg5; omega)), (((HBbc3.out.ext T5).grown hg6 (by have h0 := (Nat.lt_of_lt_of_le HBbc3.out.lt T1.size); have h1 := hg4; omega)).grown hg7 (by have h0 := (Nat.lt_of_lt_of_le HBbc3.out.lt T3.size); have h1 := hg5; omega)), (HB6.out.grown hg7 (by have h0 := (Nat.lt_of_lt_of_le HB4.out.lt hx3.size); have h1 := hg5; omega)), HB7.out, (((HOac3.out.ext T5).gbk4 hq6 hg6).gbk4 hq7 hg7), (((HObc3.out.ext T5).gbk4 hq6 hg6).gbk4 hq7 hg7), (((o1.ext ((hx4.trans hx3).trans hx5)).gbk4 hq6 hg6).gbk4 hq7 hg7), (((o3.ext hx5).gbk4 hq6 hg6).gbk4 hq7 hg7), S7⟩
                exact drawn_nil
              exact drawn_nil
            exact drawn_nil
          refine drawn_alloc 5 (some 8) (by kernel_rfl) alloc_q (fun g5 v5 hb5 hx5 hg5 => ?_) ?_
          · have HB5 := hid (show Bk 35 v5 g5 #[.bool false, .slice none 0 0, .bool false, .slice none 0 0] from hb5)
            have S5 := S4.trans hx5
            have T5 := T4.trans hx5
            refine ⟨⟨S5, (HBxc3.out.ext T5), (HByc3.out.ext T5)⟩, ?_⟩
            simp only [Act.put, List.setIfInBounds_toArray, List.set_cons_zero, List.set_cons_succ]
            refine wpAnyH_ready (rs := [3]) (by kernel_rfl) (by simp) ?_
            refine drawn_call1 3 (some 23) (.tmp 22) (ts := #[26]) (by kernel_rfl) (enters_of Tryz.func7 (by kernel_rfl) rfl) rfl (dof_l (Hy.out.ext S5) LY.out (by omega)) (fun E v3 hh => ?_) ?_
            · skip
              obtain ⟨b3p, A3p, n3p, c3p, e3p, B3p, m3p, d3p, rfl, o3, hx3⟩ := hh
              have S3 := S5.trans hx3
              have T3 := T5.trans hx3
              refine ⟨_, rfl, ⟨S3, (HBxc3.out.ext T3), (HByc3.out.ext T3)⟩, ?_⟩
              simp only [Act.put, List.setIfInBounds_toArray, List.set_cons_zero, List.set_cons_succ]
              refine wpAnyH_ready (rs := [6]) (by kernel_rfl) (by simp) ?_
              have hq6 := (HB4.out.ext (hx5.trans hx3))
              refine drawn_store 6 35 (.tmp 7) (.tmp 21) (g4) #[.bool b1p, .slice A1p n1p c1p, .bool e1p, .slice B1p m1p d1p] #[.bool false, .slice none 0 0, .bool false, .slice none 0 0] 35 (by kernel_rfl) rfl rfl hq6.h info_q rfl one_four (fun v6 hb6 hg6 => ?_) ?_
              · have HB6 := hid (show Bk 35 v6 (g4) #[.bool b1p, .slice A1p n1p c1p, .bool e1p, .slice B1p m1p d1p] from hb6)
                have S6 := S3.gb hg6 (by have h := S1.size; have h1 := hg4; omega)
                refine ⟨⟨S6, ((HBxc3.out.ext T3).grown hg6 (by have h0 := (Nat.lt_of_lt_of_le HBxc3.out.lt T1.size); have h1 := hg4; omega)), ((HByc3.out.ext T3).grown hg6 (by have h0 := (Nat.lt_of_lt_of_le HByc3.out.lt T1.size); have h1 := hg4; omega))⟩, ?_⟩
                simp only [Act.put, List.setIfInBounds_toArray, List.set_cons_zero, List.set_cons_succ]
                refine wpAnyH_ready (rs := [7]) (by kernel_rfl) (by simp) ?_
                have hq7 := ((HB5.out.ext hx3).grown hg6 (by have h0 := HB4.out.lt; have h1 := hg5; omega))
                refine drawn_store 7 35 (.tmp 8) (.tmp 23) (g5) #[.bool b3p, .slice A3p n3p c3p, .bool e3p, .slice B3p m3p d3p] #[.bool false, .slice none 0 0, .bool false, .slice none 0 0] 35 (by kernel_rfl) rfl rfl hq7.h info_q rfl one_four (fun v7 hb7 hg7 => ?_) ?_
                · have HB7 := hid (show Bk 35 v7 (g5) #[.bool b3p, .slice A3p n3p c3p, .bool e3p, .slice B3p m3p d3p] from hb7)
                  have S7 := S6.gb hg7 (by have h := S4.size; have h1 := hg5; omega)
                  refine ⟨⟨S7, (((HBxc3.out.ext T3).grown hg6 (by have h0 := (Nat.lt_of_lt_of_le HBxc3.out.lt T1.size); have h1 := hg4; omega)).grown hg7 (by have h0 := (Nat.lt_of_lt_of_le HBxc3.out.lt T4.size); have h1 := hg5; omega)), (((HByc3.out.ext T3).grown hg6 (by have h0 := (Nat.lt_of_lt_of_le HByc3.out.lt T1.size); have h1 := hg4; omega)).grown hg7 (by have h0 := (Nat.lt_of_lt_of_le HByc3.out.lt T4.size); have h1 := hg5; omega))⟩, ?_⟩
                  simp only [Act.put, List.setIfInBounds_toArray, List.set_cons_zero, List.set_cons_succ]
                  refine wpAnyH_done (by kernel_rfl) ?_ _
                  go_step
                  go_step
                  go_meet
                  case rel => exact ⟨_, _, _, _, _, _, _, _, _, _, _, _, _, _, _, _, _, _, rfl, rfl, (Nat.le_trans T1.size hg4), (Nat.le_trans T4.size hg5), (by have h0 := HB4.out.lt; have h1 := hg5; omega), (((HBxc3.out.ext T3).grown hg6 (by have h0 := (Nat.lt_of_lt_of_le HBxc3.out.lt T1.size); have h1 := hg4; omega)).grown hg7 (by have h0 := (Nat.lt_of_lt_of_le HBxc3.out.lt T4.size); have h1 := hg5; omega)), (((HByc3.out.ext T3).grown hg6 (by have h0 := (Nat.lt_of_lt_of_le HByc3.out.lt T1.size); have h1 := hg4; omega)).grown hg7 (by have h0 := (Nat.lt_of_lt_of_le HByc3.out.lt T4.size); have h1 := hg5; omega)), (((HBac3.out.ext T3).grown hg6 (by have h0 := (Nat.lt_of_lt_of_le HBac3.out.lt T1.size); have h1 := hg4; omega)).grown hg7 (by have h0 := (Nat.lt_of_lt_of_le HBac3.out.lt T4.size); have h1 := hg5; omega)), (((HBbc3.out.ext T3).grown hg6 (by have h0 := (Nat.lt_of_lt_of_le HBbc3.out.lt T1.size); have h1 := hg4; omega)).grown hg7 (by have h0 := (Nat.lt_of_lt_of_le HBbc3.out.lt T4.size); have h1 := hg5; omega)), (HB6.out.grown hg7 (by have h0 := HB4.out.lt; have h1 := hg5; omega)), HB7.out, (((HOac3.out.ext T3).gbk4 hq6 hg6).gbk4 hq7 hg7), (((HObc3.out.ext T3).gbk4 hq6 hg6).gbk4 hq7 hg7), (((o1.ext ((hx4.trans hx5).trans hx3)).gbk4 hq6 hg6).gbk4 hq7 hg7), ((o3.gbk4 hq6 hg6).gbk4 hq7 hg7), S7⟩
                exact drawn_nil
              exact drawn_nil
            exact drawn_nil
          exact drawn_nil
        refine drawn_alloc 5 (some 8) (by kernel_rfl) alloc_q (fun g5 v5 hb5 hx5 hg5 => ?_) ?_
        · have HB5 := hid (show Bk 35 v5 g5 #[.bool false, .slice none 0 0, .bool false, .slice none 0 0] from hb5)
          have S5 := S1.trans hx5
          have T5 := T1.trans hx5
          refine ⟨⟨S5, (HBxc3.out.ext T5), (HByc3.out.ext T5)⟩, ?_⟩
          simp only [Act.put, List.setIfInBounds_toArray, List.set_cons_zero, List.set_cons_succ]
          refine wpAnyH_ready (rs := [3, 4]) (by kernel_rfl) (by simp) ?_
          refine drawn_call1 3 (some 23) (.tmp 22) (ts := #[26]) (by kernel_rfl) (enters_of Tryz.func7 (by kernel_rfl) rfl) rfl (dof_l (Hy.out.ext S5) LY.out (by omega)) (fun E v3 hh => ?_) ?_
          · skip
            obtain ⟨b3p, A3p, n3p, c3p, e3p, B3p, m3p, d3p, rfl, o3, hx3⟩ := hh
            have S3 := S5.trans hx3
            have T3 := T5.trans hx3
            refine ⟨_, rfl, ⟨S3, (HBxc3.out.ext T3), (HByc3.out.ext T3)⟩, ?_⟩
            simp only [Act.put, List.setIfInBounds_toArray, List.set_cons_zero, List.set_cons_succ]
            refine wpAnyH_ready (rs := [4]) (by kernel_rfl) (by simp) ?_
            refine drawn_alloc 4 (some 7) (by kernel_rfl) alloc_q (fun g4 v4 hb4 hx4 hg4 => ?_) ?_
            · have HB4 := hid (show Bk 35 v4 g4 #[.bool false, .slice none 0 0, .bool false, .slice none 0 0] from hb4)
              have S4 := S3.trans hx4
              have T4 := T3.trans hx4
              refine ⟨⟨S4, (HBxc3.out.ext T4), (HByc3.out.ext T4)⟩, ?_⟩
              simp only [Act.put, List.setIfInBounds_toArray, List.set_cons_zero, List.set_cons_succ]
              refine wpAnyH_ready (rs := [6]) (by kernel_rfl) (by simp) ?_
              have hq6 := HB4.out
              refine drawn_store 6 35 (.tmp 7) (.tmp 21) (g4) #[.bool b1p, .slice A1p n1p c1p, .bool e1p, .slice B1p m1p d1p] #[.bool false, .slice none 0 0, .bool false, .slice none 0 0] 35 (by kernel_rfl) rfl rfl hq6.h info_q rfl one_four (fun v6 hb6 hg6 => ?_) ?_
              · have HB6 := hid (show Bk 35 v6 (g4) #[.bool b1p, .slice A1p n1p c1p, .bool e1p, .slice B1p m1p d1p] from hb6)
                have S6 := S4.gb hg6 (by have h := S3.size; have h1 := hg4; omega)
                refine ⟨⟨S6, ((HBxc3.out.ext T4).grown hg6 (by have h0 := (Nat.lt_of_lt_of_le HBxc3.out.lt T3.size); have h1 := hg4; omega)), ((HByc3.out.ext T4).grown hg6 (by have h0 := (Nat.lt_of_lt_of_le HByc3.out.lt T3.size); have h1 := hg4; omega))⟩, ?_⟩
                simp only [Act.put, List.setIfInBounds_toArray, List.set_cons_zero, List.set_cons_succ]
                refine wpAnyH_ready (rs := [7]) (by kernel_rfl) (by simp) ?_
                have hq7 := ((HB5.out.ext (hx3.trans hx4)).grown hg6 (by have h0 := (Nat.lt_of_lt_of_le HB5.out.lt hx3.size); have h1 := hg4; omega))
                refine drawn_store 7 35 (.tmp 8) (.tmp 23) (g5) #[.bool b3p, .slice A3p n3p c3p, .bool e3p, .slice B3p m3p d3p] #[.bool false, .slice none 0 0, .bool false, .slice none 0 0] 35 (by kernel_rfl) rfl rfl hq7.h info_q rfl one_four (fun v7 hb7 hg7 => ?_) ?_
                · have HB7 := hid (show Bk 35 v7 (g5) #[.bool b3p, .slice A3p n3p c3p, .bool e3p, .slice B3p m3p d3p] from hb7)
                  have S7 := S6.gb hg7 (by have h := S1.size; have h1 := hg5; omega)
                  refine ⟨⟨S7, (((HBxc3.out.ext T4).grown hg6 (by have h0 := (Nat.lt_of_lt_of_le HBxc3.out.lt T3.size); have h1 := hg4; omega)).grown hg7 (by have h0 := (Nat.lt_of_lt_of_le HBxc3.out.lt T1.size); have h1 := hg5; omega)), (((HByc3.out.ext T4).grown hg6 (by have h0 := (Nat.lt_of_lt_of_le HByc3.out.lt T3.size); have h1 := hg4; omega)).grown hg7 (by have h0 := (Nat.lt_of_lt_of_le HByc3.out.lt T1.size); have h1 := hg5; omega))⟩, ?_⟩
                  simp only [Act.put, List.setIfInBounds_toArray, List.set_cons_zero, List.set_cons_succ]
                  refine wpAnyH_done (by kernel_rfl) ?_ _
                  go_step
                  go_step
                  go_meet
                  case rel => exact ⟨_, _, _, _, _, _, _, _, _, _, _, _, _, _, _, _, _, _, rfl, rfl, (Nat.le_trans T3.size hg4), (Nat.le_trans T1.size hg5), (by have h0 := (Nat.lt_of_lt_of_le HB5.out.lt hx3.size); have h1 := hg4; omega), (((HBxc3.out.ext T4).grown hg6 (by have h0 := (Nat.lt_of_lt_of_le HBxc3.out.lt T3.size); have h1 := hg4; omega)).grown hg7 (by have h0 := (Nat.lt_of_lt_of_le HBxc3.out.lt T1.size); have h1 := hg5; omega)), (((HByc3.out.ext T4).grown hg6 (by have h0 := (Nat.lt_of_lt_of_le HByc3.out.lt T3.size); have h1 := hg4; omega)).grown hg7 (by have h0 := (Nat.lt_of_lt_of_le HByc3.out.lt T1.size); have h1 := hg5; omega)), (((HBac3.out.ext T4).grown hg6 (by have h0 := (Nat.lt_of_lt_of_le HBac3.out.lt T3.size); have h1 := hg4; omega)).grown hg7 (by have h0 := (Nat.lt_of_lt_of_le HBac3.out.lt T1.size); have h1 := hg5; omega)), (((HBbc3.out.ext T4).grown hg6 (by have h0 := (Nat.lt_of_lt_of_le HBbc3.out.lt T3.size); have h1 := hg4; omega)).grown hg7 (by have h0 := (Nat.lt_of_lt_of_le HBbc3.out.lt T1.size); have h1 := hg5; omega)), (HB6.out.grown hg7 (by have h0 := (Nat.lt_of_lt_of_le HB5.out.lt hx3.size); have h1 := hg4; omega)), HB7.out, (((HOac3.out.ext T4).gbk4 hq6 hg6).gbk4 hq7 hg7), (((HObc3.out.ext T4).gbk4 hq6 hg6).gbk4 hq7 hg7), (((o1.ext ((hx5.trans hx3).trans hx4)).gbk4 hq6 hg6).gbk4 hq7 hg7), (((o3.ext hx4).gbk4 hq6 hg6).gbk4 hq7 hg7), S7⟩
                exact drawn_nil
              exact drawn_nil
            exact drawn_nil
          refine drawn_alloc 4 (some 7) (by kernel_rfl) alloc_q (fun g4 v4 hb4 hx4 hg4 => ?_) ?_
          · have HB4 := hid (show Bk 35 v4 g4 #[.bool false, .slice none 0 0, .bool false, .slice none 0 0] from hb4)
            have S4 := S5.trans hx4
            have T4 := T5.trans hx4
            refine ⟨⟨S4, (HBxc3.out.ext T4), (HByc3.out.ext T4)⟩, ?_⟩
            simp only [Act.put, List.setIfInBounds_toArray, List.set_cons_zero, List.set_cons_succ]
            refine wpAnyH_ready (rs := [3]) (by kernel_rfl) (by simp) ?_
            refine drawn_call1 3 (some 23) (.tmp 22) (ts := #[26]) (by kernel_rfl) (enters_of Tryz.func7 (by kernel_rfl) rfl) rfl (dof_l (Hy.out.ext S4) LY.out (by omega)) (fun E v3 hh => ?_) ?_
            · skip
              obtain ⟨b3p, A3p, n3p, c3p, e3p, B3p, m3p, d3p, rfl, o3, hx3⟩ := hh
              have S3 := S4.trans hx3
              have T3 := T4.trans hx3
              refine ⟨_, rfl, ⟨S3, (HBxc3.out.ext T3), (HByc3.out.ext T3)⟩, ?_⟩
              simp only [Act.put, List.setIfInBounds_toArray, List.set_cons_zero, List.set_cons_succ]
              refine wpAnyH_ready (rs := [6]) (by kernel_rfl) (by simp) ?_
              have hq6 := (HB4.out.ext hx3)
              refine drawn_store 6 35 (.tmp 7) (.tmp 21) (g4) #[.bool b1p, .slice A1p n1p c1p, .bool e1p, .slice B1p m1p d1p] #[.bool false, .slice none 0 0, .bool false, .slice none 0 0] 35 (by kernel_rfl) rfl rfl hq6.h info_q rfl one_four (fun v6 hb6 hg6 => ?_) ?_
              · have HB6 := hid (show Bk 35 v6 (g4) #[.bool b1p, .slice A1p n1p c1p, .bool e1p, .slice B1p m1p d1p] from hb6)
                have S6 := S3.gb hg6 (by have h := S5.size; have h1 := hg4; omega)
                refine ⟨⟨S6, ((HBxc3.out.ext T3).grown hg6 (by have h0 := (Nat.lt_of_lt_of_le HBxc3.out.lt T5.size); have h1 := hg4; omega)), ((HByc3.out.ext T3).grown hg6 (by have h0 := (Nat.lt_of_lt_of_le HByc3.out.lt T5.size); have h1 := hg4; omega))⟩, ?_⟩
                simp only [Act.put, List.setIfInBounds_toArray, List.set_cons_zero, List.set_cons_succ]
                refine wpAnyH_ready (rs := [7]) (by kernel_rfl) (by simp) ?_
                have hq7 := ((HB5.out.ext (hx4.trans hx3)).grown hg6 (by have h0 := HB5.out.lt; have h1 := hg4; omega))
                refine drawn_store 7 35 (.tmp 8) (.tmp 23) (g5) #[.bool b3p, .slice A3p n3p c3p, .bool e3p, .slice B3p m3p d3p] #[.bool false, .slice none 0 0, .bool false, .slice none 0 0] 35 (by kernel_rfl) rfl rfl hq7.h info_q rfl one_four (fun v7 hb7 hg7 => ?_) ?_
                · have HB7 := hid (show Bk 35 v7 (g5) #[.bool b3p, .slice A3p n3p c3p, .bool e3p, .slice B3p m3p d3p] from hb7)
                  have S7 := S6.gb hg7 (by have h := S1.size; have h1 := hg5; omega)
                  refine ⟨⟨S7, (((HBxc3.out.ext T3).grown hg6 (by have h0 := (Nat.lt_of_lt_of_le HBxc3.out.lt T5.size); have h1 := hg4; omega)).grown hg7 (by have h0 := (Nat.lt_of_lt_of_le HBxc3.out.lt T1.size); have h1 := hg5; omega)), (((HByc3.out.ext T3).grown hg6 (by have h0 := (Nat.lt_of_lt_of_le HByc3.out.lt T5.size); have h1 := hg4; omega)).grown hg7 (by have h0 := (Nat.lt_of_lt_of_le HByc3.out.lt T1.size); have h1 := hg5; omega))⟩, ?_⟩
                  simp only [Act.put, List.setIfInBounds_toArray, List.set_cons_zero, List.set_cons_succ]
                  refine wpAnyH_done (by kernel_rfl) ?_ _
                  go_step
                  go_step
                  go_meet
                  case rel => exact ⟨_, _, _, _, _, _, _, _, _, _, _, _, _, _, _, _, _, _, rfl, rfl, (Nat.le_trans T5.size hg4), (Nat.le_trans T1.size hg5), (by have h0 := HB5.out.lt; have h1 := hg4; omega), (((HBxc3.out.ext T3).grown hg6 (by have h0 := (Nat.lt_of_lt_of_le HBxc3.out.lt T5.size); have h1 := hg4; omega)).grown hg7 (by have h0 := (Nat.lt_of_lt_of_le HBxc3.out.lt T1.size); have h1 := hg5; omega)), (((HByc3.out.ext T3).grown hg6 (by have h0 := (Nat.lt_of_lt_of_le HByc3.out.lt T5.size); have h1 := hg4; omega)).grown hg7 (by have h0 := (Nat.lt_of_lt_of_le HByc3.out.lt T1.size); have h1 := hg5; omega)), (((HBac3.out.ext T3).grown hg6 (by have h0 := (Nat.lt_of_lt_of_le HBac3.out.lt T5.size); have h1 := hg4; omega)).grown hg7 (by have h0 := (Nat.lt_of_lt_of_le HBac3.out.lt T1.size); have h1 := hg5; omega)), (((HBbc3.out.ext T3).grown hg6 (by have h0 := (Nat.lt_of_lt_of_le HBbc3.out.lt T5.size); have h1 := hg4; omega)).grown hg7 (by have h0 := (Nat.lt_of_lt_of_le HBbc3.out.lt T1.size); have h1 := hg5; omega)), (HB6.out.grown hg7 (by have h0 := HB5.out.lt; have h1 := hg4; omega)), HB7.out, (((HOac3.out.ext T3).gbk4 hq6 hg6).gbk4 hq7 hg7), (((HObc3.out.ext T3).gbk4 hq6 hg6).gbk4 hq7 hg7), (((o1.ext ((hx5.trans hx4).trans hx3)).gbk4 hq6 hg6).gbk4 hq7 hg7), ((o3.gbk4 hq6 hg6).gbk4 hq7 hg7), S7⟩
                exact drawn_nil
              exact drawn_nil
            exact drawn_nil
          exact drawn_nil
        exact drawn_nil
      refine drawn_alloc 4 (some 7) (by kernel_rfl) alloc_q (fun g4 v4 hb4 hx4 hg4 => ?_) ?_
      · have HB4 := hid (show Bk 35 v4 g4 #[.bool false, .slice none 0 0, .bool false, .slice none 0 0] from hb4)
        have S4 := S0.trans hx4
        have T4 := T0.trans hx4
        refine ⟨⟨S4, (HBxc3.out.ext T4), (HByc3.out.ext T4)⟩, ?_⟩
        simp only [Act.put, List.setIfInBounds_toArray, List.set_cons_zero, List.set_cons_succ]
        refine wpAnyH_ready (rs := [1, 5]) (by kernel_rfl) (by simp) ?_
        refine drawn_call1 1 (some 21) (.tmp 20) (ts := #[26]) (by kernel_rfl) (enters_of Tryz.func7 (by kernel_rfl) rfl) rfl (dof_l (Hx.out.ext S4) LX.out (by omega)) (fun E v1 hh => ?_) ?_
        · skip
          obtain ⟨b1p, A1p, n1p, c1p, e1p, B1p, m1p, d1p, rfl, o1, hx1⟩ := hh
          have S1 := S4.trans hx1
          have T1 := T4.trans hx1
          refine ⟨_, rfl, ⟨S1, (HBxc3.out.ext T1), (HByc3.out.ext T1)⟩, ?_⟩
          simp only [Act.put, List.setIfInBounds_toArray, List.set_cons_zero, List.set_cons_succ]
          refine wpAnyH_ready (rs := [3, 5]) (by kernel_rfl) (by simp) ?_
          refine drawn_call1 3 (some 23) (.tmp 22) (ts := #[26]) (by kernel_rfl) (enters_of Tryz.func7 (by kernel_rfl) rfl) rfl (dof_l (Hy.out.ext S1) LY.out (by omega)) (fun E v3 hh => ?_) ?_
          · skip
            obtain ⟨b3p, A3p, n3p, c3p, e3p, B3p, m3p, d3p, rfl, o3, hx3⟩ := hh
            have S3 := S1.trans hx3
            have T3 := T1.trans hx3
            refine ⟨_, rfl, ⟨S3, (HBxc3.out.ext T3), (HByc3.out.ext T3)⟩, ?_⟩
            simp only [Act.put, List.setIfInBounds_toArray, List.set_cons_zero, List.set_cons_succ]
            refine wpAnyH_ready (rs := [5]) (by kernel_rfl) (by simp) ?_
            refine drawn_alloc 5 (some 8) (by kernel_rfl) alloc_q (fun g5 v5 hb5 hx5 hg5 => ?_) ?_
            · have HB5 := hid (show Bk 35 v5 g5 #[.bool false, .slice none 0 0, .bool false, .slice none 0 0] from hb5)
              have S5 := S3.trans hx5
              have T5 := T3.trans hx5
              refine ⟨⟨S5, (HBxc3.out.ext T5), (HByc3.out.ext T5)⟩, ?_⟩
              simp only [Act.put, List.setIfInBounds_toArray, List.set_cons_zero, List.set_cons_succ]
              refine wpAnyH_ready (rs := [6]) (by kernel_rfl) (by simp) ?_
              have hq6 := (HB4.out.ext ((hx1.trans hx3).trans hx5))
              refine drawn_store 6 35 (.tmp 7) (.tmp 21) (g4) #[.bool b1p, .slice A1p n1p c1p, .bool e1p, .slice B1p m1p d1p] #[.bool false, .slice none 0 0, .bool false, .slice none 0 0] 35 (by kernel_rfl) rfl rfl hq6.h info_q rfl one_four (fun v6 hb6 hg6 => ?_) ?_
              · have HB6 := hid (show Bk 35 v6 (g4) #[.bool b1p, .slice A1p n1p c1p, .bool e1p, .slice B1p m1p d1p] from hb6)
                have S6 := S5.gb hg6 (by have h := S0.size; have h1 := hg4; omega)
                refine ⟨⟨S6, ((HBxc3.out.ext T5).grown hg6 (by have h0 := (Nat.lt_of_lt_of_le HBxc3.out.lt T0.size); have h1 := hg4; omega)), ((HByc3.out.ext T5).grown hg6 (by have h0 := (Nat.lt_of_lt_of_le HByc3.out.lt T0.size); have h1 := hg4; omega))⟩, ?_⟩
                simp only [Act.put, List.setIfInBounds_toArray, List.set_cons_zero, List.set_cons_succ]
                refine wpAnyH_ready (rs := [7]) (by kernel_rfl) (by simp) ?_
                have hq7 := (HB5.out.grown hg6 (by have h0 := (Nat.lt_of_lt_of_le HB4.out.lt (Nat.le_trans hx1.size hx3.size)); have h1 := hg5; omega))
                refine drawn_store 7 35 (.tmp 8) (.tmp 23) (g5) #[.bool b3p, .slice A3p n3p c3p, .bool e3p, .slice B3p m3p d3p] #[.bool false, .slice none 0 0, .bool false, .slice none 0 0] 35 (by kernel_rfl) rfl rfl hq7.h info_q rfl one_four (fun v7 hb7 hg7 => ?_) ?_
                · have HB7 := hid (show Bk 35 v7 (g5) #[.bool b3p, .slice A3p n3p c3p, .bool e3p, .slice B3p m3p d3p] from hb7)
                  have S7 := S6.gb hg7 (by have h := S3.size; have h1 := hg5; omega)
                  refine ⟨⟨S7, (((HBxc3.out.ext T5).grown hg6 (by have h0 := (Nat.lt_of_lt_of_le HBxc3.out.lt T0.size); have h1 := hg4; omega)).grown hg7 (by have h0 := (Nat.lt_of_lt_of_le HBxc3.out.lt T3.size); have h1 := hg5; omega)), (((HByc3.out.ext T5).grown hg6 (by have h0 := (Nat.lt_of_lt_of_le HByc3.out.lt T0.size); have h1 := hg4; omega)).grown hg7 (by have h0 := (Nat.lt_of_lt_of_le HByc3.out.lt T3.size); have h1 := hg5; omega))⟩, ?_⟩
                  simp only [Act.put, List.setIfInBounds_toArray, List.set_cons_zero, List.set_cons_succ]
                  refine wpAnyH_done (by kernel_rfl) ?_ _
                  go_step
                  go_step
                  go_meet
                  case rel => exact ⟨_, _, _, _, _, _, _, _, _, _, _, _, _, _, _, _, _, _, rfl, rfl, (Nat.le_trans T0.size hg4), (Nat.le_trans T3.size hg5), (by have h0 := (Nat.lt_of_lt_of_le HB4.out.lt (Nat.le_trans hx1.size hx3.size)); have h1 := hg5; omega), (((HBxc3.out.ext T5).grown hg6 (by have h0 := (Nat.lt_of_lt_of_le HBxc3.out.lt T0.size); have h1 := hg4; omega)).grown hg7 (by have h0 := (Nat.lt_of_lt_of_le HBxc3.out.lt T3.size); have h1 := hg5; omega)), (((HByc3.out.ext T5).grown hg6 (by have h0 := (Nat.lt_of_lt_of_le HByc3.out.lt T0.size); have h1 := hg4; omega)).grown hg7 (by have h0 := (Nat.lt_of_lt_of_le HByc3.out.lt T3.size); have h1 := hg5; omega)), (((HBac3.out.ext T5).grown hg6 (by have h0 := (Nat.lt_of_lt_of_le HBac3.out.lt T0.size); have h1 := hg4; omega)).grown hg7 (by have h0 := (Nat.lt_of_lt_of_le HBac3.out.lt T3.size); have h1 := hg5; omega)), (((HBbc3.out.ext T5).grown hg6 (by have h0 := (Nat.lt_of_lt_of_le HBbc3.out.lt T0.size); have h1 := hg4; omega)).grown hg7 (by have h0 := (Nat.lt_of_lt_of_le HBbc3.out.lt T3.size); have h1 := hg5; omega)), (HB6.out.grown hg7 (by have h0 := (Nat.lt_of_lt_of_le HB4.out.lt (Nat.le_trans hx1.size hx3.size)); have h1 := hg5; omega)), HB7.out, (((HOac3.out.ext T5).gbk4 hq6 hg6).gbk4 hq7 hg7), (((HObc3.out.ext T5).gbk4 hq6 hg6).gbk4 hq7 hg7), (((o1.ext (hx3.trans hx5)).gbk4 hq6 hg6).gbk4 hq7 hg7), (((o3.ext hx5).gbk4 hq6 hg6).gbk4 hq7 hg7), S7⟩
                exact drawn_nil
              exact drawn_nil
            exact drawn_nil
          refine drawn_alloc 5 (some 8) (by kernel_rfl) alloc_q (fun g5 v5 hb5 hx5 hg5 => ?_) ?_
          · have HB5 := hid (show Bk 35 v5 g5 #[.bool false, .slice none 0 0, .bool false, .slice none 0 0] from hb5)
            have S5 := S1.trans hx5
            have T5 := T1.trans hx5
            refine ⟨⟨S5, (HBxc3.out.ext T5), (HByc3.out.ext T5)⟩, ?_⟩
            simp only [Act.put, List.setIfInBounds_toArray, List.set_cons_zero, List.set_cons_succ]
            refine wpAnyH_ready (rs := [3]) (by kernel_rfl) (by simp) ?_
            refine drawn_call1 3 (some 23) (.tmp 22) (ts := #[26]) (by kernel_rfl) (enters_of Tryz.func7 (by kernel_rfl) rfl) rfl (dof_l (Hy.out.ext S5) LY.out (by omega)) (fun E v3 hh => ?_) ?_
            · skip
              obtain ⟨b3p, A3p, n3p, c3p, e3p, B3p, m3p, d3p, rfl, o3, hx3⟩ := hh
              have S3 := S5.trans hx3
              have T3 := T5.trans hx3
              refine ⟨_, rfl, ⟨S3, (HBxc3.out.ext T3), (HByc3.out.ext T3)⟩, ?_⟩
              simp only [Act.put, List.setIfInBounds_toArray, List.set_cons_zero, List.set_cons_succ]
              refine wpAnyH_ready (rs := [6]) (by kernel_rfl) (by simp) ?_
              have hq6 := (HB4.out.ext ((hx1.trans hx5).trans hx3))
              refine drawn_store 6 35 (.tmp 7) (.tmp 21) (g4) #[.bool b1p, .slice A1p n1p c1p, .bool e1p, .slice B1p m1p d1p] #[.bool false, .slice none 0 0, .bool false, .slice none 0 0] 35 (by kernel_rfl) rfl rfl hq6.h info_q rfl one_four (fun v6 hb6 hg6 => ?_) ?_
              · have HB6 := hid (show Bk 35 v6 (g4) #[.bool b1p, .slice A1p n1p c1p, .bool e1p, .slice B1p m1p d1p] from hb6)
                have S6 := S3.gb hg6 (by have h := S0.size; have h1 := hg4; omega)
                refine ⟨⟨S6, ((HBxc3.out.ext T3).grown hg6 (by have h0 := (Nat.lt_of_lt_of_le HBxc3.out.lt T0.size); have h1 := hg4; omega)), ((HByc3.out.ext T3).grown hg6 (by have h0 := (Nat.lt_of_lt_of_le HByc3.out.lt T0.size); have h1 := hg4; omega))⟩, ?_⟩
                simp only [Act.put, List.setIfInBounds_toArray, List.set_cons_zero, List.set_cons_succ]
                refine wpAnyH_ready (rs := [7]) (by kernel_rfl) (by simp) ?_
                have hq7 := ((HB5.out.ext hx3).grown hg6 (by have h0 := (Nat.lt_of_lt_of_le HB4.out.lt hx1.size); have h1 := hg5; omega))
                refine drawn_store 7 35 (.tmp 8) (.tmp 23) (g5) #[.bool b3p, .slice A3p n3p c3p, .bool e3p, .slice B3p m3p d3p] #[.bool false, .slice none 0 0, .bool false, .slice none 0 0] 35 (by kernel_rfl) rfl rfl hq7.h info_q rfl one_four (fun v7 hb7 hg7 => ?_) ?_
                · have HB7 := hid (show Bk 35 v7 (g5) #[.bool b3p, .slice A3p n3p c3p, .bool e3p, .slice B3p m3p d3p] from hb7)
                  have S7 := S6.gb hg7 (by have h := S1.size; have h1 := hg5; omega)
                  refine ⟨⟨S7, (((HBxc3.out.ext T3).grown hg6 (by have h0 := (Nat.lt_of_lt_of_le HBxc3.out.lt T0.size); have h1 := hg4; omega)).grown hg7 (by have h0 := (Nat.lt_of_lt_of_le HBxc3.out.lt T1.size); have h1 := hg5; omega)), (((HByc3.out.ext T3).grown hg6 (by have h0 := (Nat.lt_of_lt_of_le HByc3.out.lt T0.size); have h1 := hg4; omega)).grown hg7 (by have h0 := (Nat.lt_of_lt_of_le HByc3.out.lt T1.size); have h1 := hg5; omega))⟩, ?_⟩
                  simp only [Act.put, List.setIfInBounds_toArray, List.set_cons_zero, List.set_cons_succ]
                  refine wpAnyH_done (by kernel_rfl) ?_ _
                  go_step
                  go_step
                  go_meet
                  case rel => exact ⟨_, _, _, _, _, _, _, _, _, _, _, _, _, _, _, _, _, _, rfl, rfl, (Nat.le_trans T0.size hg4), (Nat.le_trans T1.size hg5), (by have h0 := (Nat.lt_of_lt_of_le HB4.out.lt hx1.size); have h1 := hg5; omega), (((HBxc3.out.ext T3).grown hg6 (by have h0 := (Nat.lt_of_lt_of_le HBxc3.out.lt T0.size); have h1 := hg4; omega)).grown hg7 (by have h0 := (Nat.lt_of_lt_of_le HBxc3.out.lt T1.size); have h1 := hg5; omega)), (((HByc3.out.ext T3).grown hg6 (by have h0 := (Nat.lt_of_lt_of_le HByc3.out.lt T0.size); have h1 := hg4; omega)).grown hg7 (by have h0 := (Nat.lt_of_lt_of_le HByc3.out.lt T1.size); have h1 := hg5; omega)), (((HBac3.out.ext T3).grown hg6 (by have h0 := (Nat.lt_of_lt_of_le HBac3.out.lt T0.size); have h1 := hg4; omega)).grown hg7 (by have h0 := (Nat.lt_of_lt_of_le HBac3.out.lt T1.size); have h1 := hg5; omega)), (((HBbc3.out.ext T3).grown hg6 (by have h0 := (Nat.lt_of_lt_of_le HBbc3.out.lt T0.size); have h1 := hg4; omega)).grown hg7 (by have h0 := (Nat.lt_of_lt_of_le HBbc3.out.lt T1.size); have h1 := hg5; omega)), (HB6.out.grown hg7 (by have h0 := (Nat.lt_of_lt_of_le HB4.out.lt hx1.size); have h1 := hg5; omega)), HB7.out, (((HOac3.out.ext T3).gbk4 hq6 hg6).gbk4 hq7 hg7), (((HObc3.out.ext T3).gbk4 hq6 hg6).gbk4 hq7 hg7), (((o1.ext (hx5.trans hx3)).gbk4 hq6 hg6).gbk4 hq7 hg7), ((o3.gbk4 hq6 hg6).gbk4 hq7 hg7), S7⟩
                exact drawn_nil
              exact drawn_nil
            exact drawn_nil
          exact drawn_nil
        refine drawn_alloc 5 (some 8) (by kernel_rfl) alloc_q (fun g5 v5 hb5 hx5 hg5 => ?_) ?_
        · have HB5 := hid (show Bk 35 v5 g5 #[.bool false, .slice none 0 0, .bool false, .slice none 0 0] from hb5)
          have S5 := S4.trans hx5
          have T5 := T4.trans hx5
          refine ⟨⟨S5, (HBxc3.out.ext T5), (HByc3.out.ext T5)⟩, ?_⟩
          simp only [Act.put, List.setIfInBounds_toArray, List.set_cons_zero, List.set_cons_succ]
          refine wpAnyH_ready (rs := [1]) (by kernel_rfl) (by simp) ?_
          refine drawn_call1 1 (some 21) (.tmp 20) (ts := #[26]) (by kernel_rfl) (enters_of Tryz.func7 (by kernel_rfl) rfl) rfl (dof_l (Hx.out.ext S5) LX.out (by omega)) (fun E v1 hh => ?_) ?_
          · skip
            obtain ⟨b1p, A1p, n1p, c1p, e1p, B1p, m1p, d1p, rfl, o1, hx1⟩ := hh
            have S1 := S5.trans hx1
            have T1 := T5.trans hx1
            refine ⟨_, rfl, ⟨S1, (HBxc3.out.ext T1), (HByc3.out.ext T1)⟩, ?_⟩
            simp only [Act.put, List.setIfInBounds_toArray, List.set_cons_zero, List.set_cons_succ]
            refine wpAnyH_ready (rs := [3]) (by kernel_rfl) (by simp) ?_
            refine drawn_call1 3 (some 23) (.tmp 22) (ts := #[26]) (by kernel_rfl) (enters_of Tryz.func7 (by kernel_rfl) rfl) rfl (dof_l (Hy.out.ext S1) LY.out (by omega)) (fun E v3 hh => ?_) ?_
            · skip
              obtain ⟨b3p, A3p, n3p, c3p, e3p, B3p, m3p, d3p, rfl, o3, hx3⟩ := hh
              have S3 := S1.trans hx3
              have T3 := T1.trans hx3
              refine ⟨_, rfl, ⟨S3, (HBxc3.out.ext T3), (HByc3.out.ext T3)⟩, ?_⟩
              simp only [Act.put, List.setIfInBounds_toArray, List.set_cons_zero, List.set_cons_succ]
              refine wpAnyH_ready (rs := [6]) (by kernel_rfl) (by simp) ?_
              have hq6 := (HB4.out.ext ((hx5.trans hx1).trans hx3))
              refine drawn_store 6 35 (.tmp 7) (.tmp 21) (g4) #[.bool b1p, .slice A1p n1p c1p, .bool e1p, .slice B1p m1p d1p] #[.bool false, .slice none 0 0, .bool false, .slice none 0 0] 35 (by kernel_rfl) rfl rfl hq6.h info_q rfl one_four (fun v6 hb6 hg6 => ?_) ?_
              · have HB6 := hid (show Bk 35 v6 (g4) #[.bool b1p, .slice A1p n1p c1p, .bool e1p, .slice B1p m1p d1p] from hb6)
                have S6 := S3.gb hg6 (by have h := S0.size; have h1 := hg4; omega)
                refine ⟨⟨S6, ((HBxc3.out.ext T3).grown hg6 (by have h0 := (Nat.lt_of_lt_of_le HBxc3.out.lt T0.size); have h1 := hg4; omega)), ((HByc3.out.ext T3).grown hg6 (by have h0 := (Nat.lt_of_lt_of_le HByc3.out.lt T0.size); have h1 := hg4; omega))⟩, ?_⟩
                simp only [Act.put, List.setIfInBounds_toArray, List.set_cons_zero, List.set_cons_succ]
                refine wpAnyH_ready (rs := [7]) (by kernel_rfl) (by simp) ?_
                have hq7 := ((HB5.out.ext (hx1.trans hx3)).grown hg6 (by have h0 := HB4.out.lt; have h1 := hg5; omega))
                refine drawn_store 7 35 (.tmp 8) (.tmp 23) (g5) #[.bool b3p, .slice A3p n3p c3p, .bool e3p, .slice B3p m3p d3p] #[.bool false, .slice none 0 0, .bool false, .slice none 0 0] 35 (by kernel_rfl) rfl rfl hq7.h info_q rfl one_four (fun v7 hb7 hg7 => ?_) ?_
                · have HB7 := hid (show Bk 35 v7 (g5) #[.bool b3p, .slice A3p n3p c3p, .bool e3p, .slice B3p m3p d3p] from hb7)
                  have S7 := S6.gb hg7 (by have h := S4.size; have h1 := hg5; omega)
                  refine ⟨⟨S7, (((HBxc3.out.ext T3).grown hg6 (by have h0 := (Nat.lt_of_lt_of_le HBxc3.out.lt T0.size); have h1 := hg4; omega)).grown hg7 (by have h0 := (Nat.lt_of_lt_of_le HBxc3.out.lt T4.size); have h1 := hg5; omega)), (((HByc3.out.ext T3).grown hg6 (by have h0 := (Nat.lt_of_lt_of_le HByc3.out.lt T0.size); have h1 := hg4; omega)).grown hg7 (by have h0 := (Nat.lt_of_lt_of_le HByc3.out.lt T4.size); have h1 := hg5; omega))⟩, ?_⟩
                  simp only [Act.put, List.setIfInBounds_toArray, List.set_cons_zero, List.set_cons_succ]
                  refine wpAnyH_done (by kernel_rfl) ?_ _
                  go_step
                  go_step
                  go_meet
                  case rel => exact ⟨_, _, _, _, _, _, _, _, _, _, _, _, _, _, _, _, _, _, rfl, rfl, (Nat.le_trans T0.size hg4), (Nat.le_trans T4.size hg5), (by have h0 := HB4.out.lt; have h1 := hg5; omega), (((HBxc3.out.ext T3).grown hg6 (by have h0 := (Nat.lt_of_lt_of_le HBxc3.out.lt T0.size); have h1 := hg4; omega)).grown hg7 (by have h0 := (Nat.lt_of_lt_of_le HBxc3.out.lt T4.size); have h1 := hg5; omega)), (((HByc3.out.ext T3).grown hg6 (by have h0 := (Nat.lt_of_lt_of_le HByc3.out.lt T0.size); have h1 := hg4; omega)).grown hg7 (by have h0 := (Nat.lt_of_lt_of_le HByc3.out.lt T4.size); have h1 := hg5; omega)), (((HBac3.out.ext T3).grown hg6 (by have h0 := (Nat.lt_of_lt_of_le HBac3.out.lt T0.size); have h1 := hg4; omega)).grown hg7 (by have h0 := (Nat.lt_of_lt_of_le HBac3.out.lt T4.size); have h1 := hg5; omega)), (((HBbc3.out.ext T3).grown hg6 (by have h0 := (Nat.lt_of_lt_of_le HBbc3.out.lt T0.size); have h1 := hg4; omega)).grown hg7 (by have h0 := (Nat.lt_of_lt_of_le HBbc3.out.lt T4.size); have h1 := hg5; omega)), (HB6.out.grown hg7 (by have h0 := HB4.out.lt; have h1 := hg5; omega)), HB7.out, (((HOac3.out.ext T3).gbk4 hq6 hg6).gbk4 hq7 hg7), (((HObc3.out.ext T3).gbk4 hq6 hg6).gbk4 hq7 hg7), (((o1.ext hx3).gbk4 hq6 hg6).gbk4 hq7 hg7), ((o3.gbk4 hq6 hg6).gbk4 hq7 hg7), S7⟩
                exact drawn_nil
              exact drawn_nil
            exact drawn_nil
          exact drawn_nil
        exact drawn_nil
      refine drawn_alloc 5 (some 8) (by kernel_rfl) alloc_q (fun g5 v5 hb5 hx5 hg5 => ?_) ?_
      · have HB5 := hid (show Bk 35 v5 g5 #[.bool false, .slice none 0 0, .bool false, .slice none 0 0] from hb5)
        have S5 := S0.trans hx5
        have T5 := T0.trans hx5
        refine ⟨⟨S5, (HBxc3.out.ext T5), (HByc3.out.ext T5)⟩, ?_⟩
        simp only [Act.put, List.setIfInBounds_toArray, List.set_cons_zero, List.set_cons_succ]
        refine wpAnyH_ready (rs := [1, 4]) (by kernel_rfl) (by simp) ?_
        refine drawn_call1 1 (some 21) (.tmp 20) (ts := #[26]) (by kernel_rfl) (enters_of Tryz.func7 (by kernel_rfl) rfl) rfl (dof_l (Hx.out.ext S5) LX.out (by omega)) (fun E v1 hh => ?_) ?_
        · skip
          obtain ⟨b1p, A1p, n1p, c1p, e1p, B1p, m1p, d1p, rfl, o1, hx1⟩ := hh
          have S1 := S5.trans hx1
          have T1 := T5.trans hx1
          refine ⟨_, rfl, ⟨S1, (HBxc3.out.ext T1), (HByc3.out.ext T1)⟩, ?_⟩
          simp only [Act.put, List.setIfInBounds_toArray, List.set_cons_zero, List.set_cons_succ]
          refine wpAnyH_ready (rs := [3, 4]) (by kernel_rfl) (by simp) ?_
          refine drawn_call1 3 (some 23) (.tmp 22) (ts := #[26]) (by kernel_rfl) (enters_of Tryz.func7 (by kernel_rfl) rfl) rfl (dof_l (Hy.out.ext S1) LY.out (by omega)) (fun E v3 hh => ?_) ?_
          · skip
            obtain ⟨b3p, A3p, n3p, c3p, e3p, B3p, m3p, d3p, rfl, o3, hx3⟩ := hh
            have S3 := S1.trans hx3
            have T3 := T1.trans hx3
            refine ⟨_, rfl, ⟨S3, (HBxc3.out.ext T3), (HByc3.out.ext T3)⟩, ?_⟩
            simp only [Act.put, List.setIfInBounds_toArray, List.set_cons_zero, List.set_cons_succ]
            refine wpAnyH_ready (rs := [4]) (by kernel_rfl) (by simp) ?_
            refine drawn_alloc 4 (some 7) (by kernel_rfl) alloc_q (fun g4 v4 hb4 hx4 hg4 => ?_) ?_
            · have HB4 := hid (show Bk 35 v4 g4 #[.bool false, .slice none 0 0, .bool false, .slice none 0 0] from hb4)
              have S4 := S3.trans hx4
              have T4 := T3.trans hx4
              refine ⟨⟨S4, (HBxc3.out.ext T4), (HByc3.out.ext T4)⟩, ?_⟩
              simp only [Act.put, List.setIfInBounds_toArray, List.set_cons_zero, List.set_cons_succ]
              refine wpAnyH_ready (rs := [6]) (by kernel_rfl) (by simp) ?_
              have hq6 := HB4.out
              refine drawn_store 6 35 (.tmp 7) (.tmp 21) (g4) #[.bool b1p, .slice A1p n1p c1p, .bool e1p, .slice B1p m1p d1p] #[.bool false, .slice none 0 0, .bool false, .slice none 0 0] 35 (by kernel_rfl) rfl rfl hq6.h info_q rfl one_four (fun v6 hb6 hg6 => ?_) ?_
              · have HB6 := hid (show Bk 35 v6 (g4) #[.bool b1p, .slice A1p n1p c1p, .bool e1p, .slice B1p m1p d1p] from hb6)
                have S6 := S4.gb hg6 (by have h := S3.size; have h1 := hg4; omega)
                refine ⟨⟨S6, ((HBxc3.out.ext T4).grown hg6 (by have h0 := (Nat.lt_of_lt_of_le HBxc3.out.lt T3.size); have h1 := hg4; omega)), ((HByc3.out.ext T4).grown hg6 (by have h0 := (Nat.lt_of_lt_of_le HByc3.out.lt T3.size); have h1 := hg4; omega))⟩, ?_⟩
                simp only [Act.put, List.setIfInBounds_toArray, List.set_cons_zero, List.set_cons_succ]
                refine wpAnyH_ready (rs := [7]) (by kernel_rfl) (by simp) ?_
                have hq7 := ((HB5.out.ext ((hx1.trans hx3).trans hx4)).grown hg6 (by have h0 := (Nat.lt_of_lt_of_le HB5.out.lt (Nat.le_trans hx1.size hx3.size)); have h1 := hg4; omega))
                refine drawn_store 7 35 (.tmp 8) (.tmp 23) (g5) #[.bool b3p, .slice A3p n3p c3p, .bool e3p, .slice B3p m3p d3p] #[.bool false, .slice none 0 0, .bool false, .slice none 0 0] 35 (by kernel_rfl) rfl rfl hq7.h info_q rfl one_four (fun v7 hb7 hg7 => ?_) ?_
                · have HB7 := hid (show Bk 35 v7 (g5) #[.bool b3p, .slice A3p n3p c3p, .bool e3p, .slice B3p m3p d3p] from hb7)
                  have S7 := S6.gb hg7 (by have h := S0.size; have h1 := hg5; omega)
                  refine ⟨⟨S7, (((HBxc3.out.ext T4).grown hg6 (by have h0 := (Nat.lt_of_lt_of_le HBxc3.out.lt T3.size); have h1 := hg4; omega)).grown hg7 (by have h0 := (Nat.lt_of_lt_of_le HBxc3.out.lt T0.size); have h1 := hg5; omega)), (((HByc3.out.ext T4).grown hg6 (by have h0 := (Nat.lt_of_lt_of_le HByc3.out.lt T3.size); have h1 := hg4; omega)).grown hg7 (by have h0 := (Nat.lt_of_lt_of_le HByc3.out.lt T0.size); have h1 := hg5; omega))⟩, ?_⟩
                  simp only [Act.put, List.setIfInBounds_toArray, List.set_cons_zero, List.set_cons_succ]
                  refine wpAnyH_done (by kernel_rfl) ?_ _
                  go_step
                  go_step
                  go_meet
                  case rel => exact ⟨_, _, _, _, _, _, _, _, _, _, _, _, _, _, _, _, _, _, rfl, rfl, (Nat.le_trans T3.size hg4), (Nat.le_trans T0.size hg5), (by have h0 := (Nat.lt_of_lt_of_le HB5.out.lt (Nat.le_trans hx1.size hx3.size)); have h1 := hg4; omega), (((HBxc3.out.ext T4).grown hg6 (by have h0 := (Nat.lt_of_lt_of_le HBxc3.out.lt T3.size); have h1 := hg4; omega)).grown hg7 (by have h0 := (Nat.lt_of_lt_of_le HBxc3.out.lt T0.size); have h1 := hg5; omega)), (((HByc3.out.ext T4).grown hg6 (by have h0 := (Nat.lt_of_lt_of_le HByc3.out.lt T3.size); have h1 := hg4; omega)).grown hg7 (by have h0 := (Nat.lt_of_lt_of_le HByc3.out.lt T0.size); have h1 := hg5; omega)), (((HBac3.out.ext T4).grown hg6 (by have h0 := (Nat.lt_of_lt_of_le HBac3.out.lt T3.size); have h1 := hg4; omega)).grown hg7 (by have h0 := (Nat.lt_of_lt_of_le HBac3.out.lt T0.size); have h1 := hg5; omega)), (((HBbc3.out.ext T4).grown hg6 (by have h0 := (Nat.lt_of_lt_of_le HBbc3.out.lt T3.size); have h1 := hg4; omega)).grown hg7 (by have h0 := (Nat.lt_of_lt_of_le HBbc3.out.lt T0.size); have h1 := hg5; omega)), (HB6.out.grown hg7 (by have h0 := (Nat.lt_of_lt_of_le HB5.out.lt (Nat.le_trans hx1.size hx3.size)); have h1 := hg4; omega)), HB7.out, (((HOac3.out.ext T4).gbk4 hq6 hg6).gbk4 hq7 hg7), (((HObc3.out.ext T4).gbk4 hq6 hg6).gbk4 hq7 hg7), (((o1.ext (hx3.trans hx4)).gbk4 hq6 hg6).gbk4 hq7 hg7), (((o3.ext hx4).gbk4 hq6 hg6).gbk4 hq7 hg7), S7⟩
                exact drawn_nil
              exact drawn_nil
            exact drawn_nil
          refine drawn_alloc 4 (some 7) (by kernel_rfl) alloc_q (fun g4 v4 hb4 hx4 hg4 => ?_) ?_
          · have HB4 := hid (show Bk 35 v4 g4 #[.bool false, .slice none 0 0, .bool false, .slice none 0 0] from hb4)
            have S4 := S1.trans hx4
            have T4 := T1.trans hx4
            refine ⟨⟨S4, (HBxc3.out.ext T4), (HByc3.out.ext T4)⟩, ?_⟩
            simp only [Act.put, List.setIfInBounds_toArray, List.set_cons_zero, List.set_cons_succ]
            refine wpAnyH_ready (rs := [3]) (by kernel_rfl) (by simp) ?_
            refine drawn_call1 3 (some 23) (.tmp 22) (ts := #[26]) (by kernel_rfl) (enters_of Tryz.func7 (by kernel_rfl) rfl) rfl (dof_l (Hy.out.ext S4) LY.out (by omega)) (fun E v3 hh => ?_) ?_
            · skip
              obtain ⟨b3p, A3p, n3p, c3p, e3p, B3p, m3p, d3p, rfl, o3, hx3⟩ := hh
              have S3 := S4.trans hx3
              have T3 := T4.trans hx3
              refine ⟨_, rfl, ⟨S3, (HBxc3.out.ext T3), (HByc3.out.ext T3)⟩, ?_⟩
              simp only [Act.put, List.setIfInBounds_toArray, List.set_cons_zero, List.set_cons_succ]
              refine wpAnyH_ready (rs := [6]) (by kernel_rfl) (by simp) ?_
              have hq6 := (HB4.out.ext hx3)
              refine drawn_store 6 35 (.tmp 7) (.tmp 21) (g4) #[.bool b1p, .slice A1p n1p c1p, .bool e1p, .slice B1p m1p d1p] #[.bool false, .slice none 0 0, .bool false, .slice none 0 0] 35 (by kernel_rfl) rfl rfl hq6.h info_q rfl one_four (fun v6 hb6 hg6 => ?_) ?_
              · have HB6 := hid (show Bk 35 v6 (g4) #[.bool b1p, .slice A1p n1p c1p, .bool e1p, .slice B1p m1p d1p] from hb6)
                have S6 := S3.gb hg6 (by have h := S1.size; have h1 := hg4; omega)
                refine ⟨⟨S6, ((HBxc3.out.ext T3).grown hg6 (by have h0 := (Nat.lt_of_lt_of_le HBxc3.out.lt T1.size); have h1 := hg4; omega)), ((HByc3.out.ext T3).grown hg6 (by have h0 := (Nat.lt_of_lt_of_le HByc3.out.lt T1.size); have h1 := hg4; omega))⟩, ?_⟩
                simp only [Act.put, List.setIfInBounds_toArray, List.set_cons_zero, List.set_cons_succ]
                refine wpAnyH_ready (rs := [7]) (by kernel_rfl) (by simp) ?_
                have hq7 := ((HB5.out.ext ((hx1.trans hx4).trans hx3)).grown hg6 (by have h0 := (Nat.lt_of_lt_of_le HB5.out.lt hx1.size); have h1 := hg4; omega))
                refine drawn_store 7 35 (.tmp 8) (.tmp 23) (g5) #[.bool b3p, .slice A3p n3p c3p, .bool e3p, .slice B3p m3p d3p] #[.bool false, .slice none 0 0, .bool false, .slice none 0 0] 35 (by kernel_rfl) rfl rfl hq7.h info_q rfl one_four (fun v7 hb7 hg7 => ?_) ?_
                · have HB7 := hid (show Bk 35 v7 (g5) #[.bool b3p, .slice A3p n3p c3p, .bool e3p, .slice B3p m3p d3p] from hb7)
                  have S7 := S6.gb hg7 (by have h := S0.size; have h1 := hg5; omega)
                  refine ⟨⟨S7, (((HBxc3.out.ext T3).grown hg6 (by have h0 := (Nat.lt_of_lt_of_le HBxc3.out.lt T1.size); have h1 := hg4; omega)).grown hg7 (by have h0 := (Nat.lt_of_lt_of_le HBxc3.out.lt T0.size); have h1 := hg5; omega)), (((HByc3.out.ext T3).grown hg6 (by have h0 := (Nat.lt_of_lt_of_le HByc3.out.lt T1.size); have h1 := hg4; omega)).grown hg7 (by have h0 := (Nat.lt_of_lt_of_le HByc3.out.lt T0.size); have h1 := hg5; omega))⟩, ?_⟩
                  simp only [Act.put, List.setIfInBounds_toArray, List.set_cons_zero, List.set_cons_succ]
                  refine wpAnyH_done (by kernel_rfl) ?_ _
                  go_step
                  go_step
                  go_meet
                  case rel => exact ⟨_, _, _, _, _, _, _, _, _, _, _, _, _, _, _, _, _, _, rfl, rfl, (Nat.le_trans T1.size hg4), (Nat.le_trans T0.size hg5), (by have h0 := (Nat.lt_of_lt_of_le HB5.out.lt hx1.size); have h1 := hg4; omega), (((HBxc3.out.ext T3).grown hg6 (by have h0 := (Nat.lt_of_lt_of_le HBxc3.out.lt T1.size); have h1 := hg4; omega)).grown hg7 (by have h0 := (Nat.lt_of_lt_of_le HBxc3.out.lt T0.size); have h1 := hg5; omega)), (((HByc3.out.ext T3).grown hg6 (by have h0 := (Nat.lt_of_lt_of_le HByc3.out.lt T1.size); have h1 := hg4; omega)).grown hg7 (by have h0 := (Nat.lt_of_lt_of_le HByc3.out.lt T0.size); have h1 := hg5; omega)), (((HBac3.out.ext T3).grown hg6 (by have h0 := (Nat.lt_of_lt_of_le HBac3.out.lt T1.size); have h1 := hg4; omega)).grown hg7 (by have h0 := (Nat.lt_of_lt_of_le HBac3.out.lt T0.size); have h1 := hg5; omega)), (((HBbc3.out.ext T3).grown hg6 (by have h0 := (Nat.lt_of_lt_of_le HBbc3.out.lt T1.size); have h1 := hg4; omega)).grown hg7 (by have h0 := (Nat.lt_of_lt_of_le HBbc3.out.lt T0.size); have h1 := hg5; omega)), (HB6.out.grown hg7 (by have h0 := (Nat.lt_of_lt_of_le HB5.out.lt hx1.size); have h1 := hg4; omega)), HB7.out, (((HOac3.out.ext T3).gbk4 hq6 hg6).gbk4 hq7 hg7), (((HObc3.out.ext T3).gbk4 hq6 hg6).gbk4 hq7 hg7), (((o1.ext (hx4.trans hx3)).gbk4 hq6 hg6).gbk4 hq7 hg7), ((o3.gbk4 hq6 hg6).gbk4 hq7 hg7), S7⟩
                exact drawn_nil
              exact drawn_nil
            exact drawn_nil
          exact drawn_nil
        refine drawn_alloc 4 (some 7) (by kernel_rfl) alloc_q (fun g4 v4 hb4 hx4 hg4 => ?_) ?_
        · have HB4 := hid (show Bk 35 v4 g4 #[.bool false, .slice none 0 0, .bool false, .slice none 0 0] from hb4)
          have S4 := S5.trans hx4
          have T4 := T5.trans hx4
          refine ⟨⟨S4, (HBxc3.out.ext T4), (HByc3.out.ext T4)⟩, ?_⟩
          simp only [Act.put, List.setIfInBounds_toArray, List.set_cons_zero, List.set_cons_succ]
          refine wpAnyH_ready (rs := [1]) (by kernel_rfl) (by simp) ?_
          refine drawn_call1 1 (some 21) (.tmp 20) (ts := #[26]) (by kernel_rfl) (enters_of Tryz.func7 (by kernel_rfl) rfl) rfl (dof_l (Hx.out.ext S4) LX.out (by omega)) (fun E v1 hh => ?_) ?_
          · skip
            obtain ⟨b1p, A1p, n1p, c1p, e1p, B1p, m1p, d1p, rfl, o1, hx1⟩ := hh
            have S1 := S4.trans hx1
            have T1 := T4.trans hx1
            refine ⟨_, rfl, ⟨S1, (HBxc3.out.ext T1), (HByc3.out.ext T1)⟩, ?_⟩
            simp only [Act.put, List.setIfInBounds_toArray, List.set_cons_zero, List.set_cons_succ]
            refine wpAnyH_ready (rs := [3]) (by kernel_rfl) (by simp) ?_
            refine drawn_call1 3 (some 23) (.tmp 22) (ts := #[26]) (by kernel_rfl) (enters_of Tryz.func7 (by kernel_rfl) rfl) rfl (dof_l (Hy.out.ext S1) LY.out (by omega)) (fun E v3 hh => ?_) ?_
            · skip
              obtain ⟨b3p, A3p, n3p, c3p, e3p, B3p, m3p, d3p, rfl, o3, hx3⟩ := hh
              have S3 := S1.trans hx3
              have T3 := T1.trans hx3
              refine ⟨_, rfl, ⟨S3, (HBxc3.out.ext T3), (HByc3.out.ext T3)⟩, ?_⟩
              simp only [Act.put, List.setIfInBounds_toArray, List.set_cons_zero, List.set_cons_succ]
              refine wpAnyH_ready (rs := [6]) (by kernel_rfl) (by simp) ?_
              have hq6 := (HB4.out.ext (hx1.trans hx3))
              refine drawn_store 6 35 (.tmp 7) (.tmp 21) (g4) #[.bool b1p, .slice A1p n1p c1p, .bool e1p, .slice B1p m1p d1p] #[.bool false, .slice none 0 0, .bool false, .slice none 0 0] 35 (by kernel_rfl) rfl rfl hq6.h info_q rfl one_four (fun v6 hb6 hg6 => ?_) ?_
              · have HB6 := hid (show Bk 35 v6 (g4) #[.bool b1p, .slice A1p n1p c1p, .bool e1p, .slice B1p m1p d1p] from hb6)
                have S6 := S3.gb hg6 (by have h := S5.size; have h1 := hg4; omega)
                refine ⟨⟨S6, ((HBxc3.out.ext T3).grown hg6 (by have h0 := (Nat.lt_of_lt_of_le HBxc3.out.lt T5.size); have h1 := hg4; omega)), ((HByc3.out.ext T3).grown hg6 (by have h0 := (Nat.lt_of_lt_of_le HByc3.out.lt T5.size); have h1 := hg4; omega))⟩, ?_⟩
                simp only [Act.put, List.setIfInBounds_toArray, List.set_cons_zero, List.set_cons_succ]
                refine wpAnyH_ready (rs := [7]) (by kernel_rfl) (by simp) ?_
                have hq7 := ((HB5.out.ext ((hx4.trans hx1).trans hx3)).grown hg6 (by have h0 := HB5.out.lt; have h1 := hg4; omega))
                refine drawn_store 7 35 (.tmp 8) (.tmp 23) (g5) #[.bool b3p, .slice A3p n3p c3p, .bool e3p, .slice B3p m3p d3p] #[.bool false, .slice none 0 0, .bool false, .slice none 0 0] 35 (by kernel_rfl) rfl rfl hq7.h info_q rfl one_four (fun v7 hb7 hg7 => ?_) ?_
                · have HB7 := hid (show Bk 35 v7 (g5) #[.bool b3p, .slice A3p n3p c3p, .bool e3p, .slice B3p m3p d3p] from hb7)
                  have S7 := S6.gb hg7 (by have h := S0.size; have h1 := hg5; omega)
                  refine ⟨⟨S7, (((HBxc3.out.ext T3).grown hg6 (by have h0 := (Nat.lt_of_lt_of_le HBxc3.out.lt T5.size); have h1 := hg4; omega)).grown hg7 (by have h0 := (Nat.lt_of_lt_of_le HBxc3.out.lt T0.size); have h1 := hg5; omega)), (((HByc3.out.ext T3).grown hg6 (by have h0 := (Nat.lt_of_lt_of_le HByc3.out.lt T5.size); have h1 := hg4; omega)).grown hg7 (by have h0 := (Nat.lt_of_lt_of_le HByc3.out.lt T0.size); have h1 := hg5; omega))⟩, ?_⟩
                  simp only [Act.put, List.setIfInBounds_toArray, List.set_cons_zero, List.set_cons_succ]
                  refine wpAnyH_done (by kernel_rfl) ?_ _
                  go_step
                  go_step
                  go_meet
                  case rel => exact ⟨_, _, _, _, _, _, _, _, _, _, _, _, _, _, _, _, _, _, rfl, rfl, (Nat.le_trans T5.size hg4), (Nat.le_trans T0.size hg5), (by have h0 := HB5.out.lt; have h1 := hg4; omega), (((HBxc3.out.ext T3).grown hg6 (by have h0 := (Nat.lt_of_lt_of_le HBxc3.out.lt T5.size); have h1 := hg4; omega)).grown hg7 (by have h0 := (Nat.lt_of_lt_of_le HBxc3.out.lt T0.size); have h1 := hg5; omega)), (((HByc3.out.ext T3).grown hg6 (by have h0 := (Nat.lt_of_lt_of_le HByc3.out.lt T5.size); have h1 := hg4; omega)).grown hg7 (by have h0 := (Nat.lt_of_lt_of_le HByc3.out.lt T0.size); have h1 := hg5; omega)), (((HBac3.out.ext T3).grown hg6 (by have h0 := (Nat.lt_of_lt_of_le HBac3.out.lt T5.size); have h1 := hg4; omega)).grown hg7 (by have h0 := (Nat.lt_of_lt_of_le HBac3.out.lt T0.size); have h1 := hg5; omega)), (((HBbc3.out.ext T3).grown hg6 (by have h0 := (Nat.lt_of_lt_of_le HBbc3.out.lt T5.size); have h1 := hg4; omega)).grown hg7 (by have h0 := (Nat.lt_of_lt_of_le HBbc3.out.lt T0.size); have h1 := hg5; omega)), (HB6.out.grown hg7 (by have h0 := HB5.out.lt; have h1 := hg4; omega)), HB7.out, (((HOac3.out.ext T3).gbk4 hq6 hg6).gbk4 hq7 hg7), (((HObc3.out.ext T3).gbk4 hq6 hg6).gbk4 hq7 hg7), (((o1.ext hx3).gbk4 hq6 hg6).gbk4 hq7 hg7), ((o3.gbk4 hq6 hg6).gbk4 hq7 hg7), S7⟩
                exact drawn_nil
              exact drawn_nil
            exact drawn_nil
          exact drawn_nil
        exact drawn_nil
      exact drawn_nil
  case rest =>
  obtain ⟨g7c, g8c, b1p, A1p, n1p, c1p, e1p, B1p, m1p, d1p, b3p, A3p, n3p, c3p, e3p, B3p, m3p, d3p, rfl, rfl, hgeu4, hgev4, hneuv4, Bxc4, Byc4, Bac4, Bbc4, Buc4, Bvc4, Oac4, Obc4, Ouc4, Ovc4, Xc4⟩ := hcut
  obtain ⟨w4, hw4⟩ : ∃ w4, w4 = wc := ⟨_, rfl⟩
  subst hw4
  have HBxc4 := hid Bxc4
  clear Bxc4
  have HByc4 := hid Byc4
  clear Byc4
  have HBac4 := hid Bac4
  clear Bac4
  have HBbc4 := hid Bbc4
  clear Bbc4
  have HBuc4 := hid Buc4
  clear Buc4
  have HBvc4 := hid Bvc4
  clear Bvc4
  have HOac4 := hid Oac4
  clear Oac4
  have HObc4 := hid Obc4
  clear Obc4
  have HOuc4 := hid Ouc4
  clear Ouc4
  have HOvc4 := hid Ovc4
  clear Ovc4
  have X4 := hid Xc4
  clear Xc4
  rw [HN.out, HD.out] at HOuc4
  rw [HM.out, HEE.out] at HOvc4
  go_upto_region 5 with fail
  as_aux_lemma =>
    have hk10_0 : w4.cell? ⟨g5c, 0, none⟩ = some (.bool b1q) ∧ w4.cell? ⟨g5c, 1, none⟩ = some (.slice A1q n1q c1q) ∧ w4.cell? ⟨g5c, 2, none⟩ = some (.bool e1q) ∧ w4.cell? ⟨g5c, 3, none⟩ = some (.slice B1q m1q d1q) ∧ w4.cell? ⟨g6c, 0, none⟩ = some (.bool b3q) ∧ w4.cell? ⟨g6c, 1, none⟩ = some (.slice A3q n3q c3q) ∧ w4.cell? ⟨g6c, 2, none⟩ = some (.bool e3q) ∧ w4.cell? ⟨g6c, 3, none⟩ = some (.slice B3q m3q d3q) ∧ w4.cell? ⟨g7c, 0, none⟩ = some (.bool b1p) ∧ w4.cell? ⟨g7c, 1, none⟩ = some (.slice A1p n1p c1p) ∧ w4.cell? ⟨g7c, 2, none⟩ = some (.bool e1p) ∧ w4.cell? ⟨g7c, 3, none⟩ = some (.slice B1p m1p d1p) ∧ w4.cell? ⟨g8c, 0, none⟩ = some (.bool b3p) ∧ w4.cell? ⟨g8c, 1, none⟩ = some (.slice A3p n3p c3p) ∧ w4.cell? ⟨g8c, 2, none⟩ = some (.bool e3p) ∧ w4.cell? ⟨g8c, 3, none⟩ = some (.slice B3p m3p d3p) := ⟨HBac4.out.c 0, HBac4.out.c 1, HBac4.out.c 2, HBac4.out.c 3, HBbc4.out.c 0, HBbc4.out.c 1, HBbc4.out.c 2, HBbc4.out.c 3, HBuc4.out.c 0, HBuc4.out.c 1, HBuc4.out.c 2, HBuc4.out.c 3, HBvc4.out.c 0, HBvc4.out.c 1, HBvc4.out.c 2, HBvc4.out.c 3⟩
    have hk10_1 : w4.drew.cell? ⟨g5c, 0, none⟩ = some (.bool b1q) ∧ w4.drew.cell? ⟨g5c, 1, none⟩ = some (.slice A1q n1q c1q) ∧ w4.drew.cell? ⟨g5c, 2, none⟩ = some (.bool e1q) ∧ w4.drew.cell? ⟨g5c, 3, none⟩ = some (.slice B1q m1q d1q) ∧ w4.drew.cell? ⟨g6c, 0, none⟩ = some (.bool b3q) ∧ w4.drew.cell? ⟨g6c, 1, none⟩ = some (.slice A3q n3q c3q) ∧ w4.drew.cell? ⟨g6c, 2, none⟩ = some (.bool e3q) ∧ w4.drew.cell? ⟨g6c, 3, none⟩ = some (.slice B3q m3q d3q) ∧ w4.drew.cell? ⟨g7c, 0, none⟩ = some (.bool b1p) ∧ w4.drew.cell? ⟨g7c, 1, none⟩ = some (.slice A1p n1p c1p) ∧ w4.drew.cell? ⟨g7c, 2, none⟩ = some (.bool e1p) ∧ w4.drew.cell? ⟨g7c, 3, none⟩ = some (.slice B1p m1p d1p) ∧ w4.drew.cell? ⟨g8c, 0, none⟩ = some (.bool b3p) ∧ w4.drew.cell? ⟨g8c, 1, none⟩ = some (.slice A3p n3p c3p) ∧ w4.drew.cell? ⟨g8c, 2, none⟩ = some (.bool e3p) ∧ w4.drew.cell? ⟨g8c, 3, none⟩ = some (.slice B3p m3p d3p) := ⟨(HBac4.out.ext (Ext.refl _).drew).c 0, (HBac4.out.ext (Ext.refl _).drew).c 1, (HBac4.out.ext (Ext.refl _).drew).c 2, (HBac4.out.ext (Ext.refl _).drew).c 3, (HBbc4.out.ext (Ext.refl _).drew).c 0, (HBbc4.out.ext (Ext.refl _).drew).c 1, (HBbc4.out.ext (Ext.refl _).drew).c 2, (HBbc4.out.ext (Ext.refl _).drew).c 3, (HBuc4.out.ext (Ext.refl _).drew).c 0, (HBuc4.out.ext (Ext.refl _).drew).c 1, (HBuc4.out.ext (Ext.refl _).drew).c 2, (HBuc4.out.ext (Ext.refl _).drew).c 3, (HBvc4.out.ext (Ext.refl _).drew).c 0, (HBvc4.out.ext (Ext.refl _).drew).c 1, (HBvc4.out.ext (Ext.refl _).drew).c 2, (HBvc4.out.ext (Ext.refl _).drew).c 3⟩
    go_region_held3 (fun w' => w'.cell? ⟨g5c, 0, none⟩ = some (.bool b1q) ∧ w'.cell? ⟨g5c, 1, none⟩ = some (.slice A1q n1q c1q) ∧ w'.cell? ⟨g5c, 2, none⟩ = some (.bool e1q) ∧ w'.cell? ⟨g5c, 3, none⟩ = some (.slice B1q m1q d1q) ∧ w'.cell? ⟨g6c, 0, none⟩ = some (.bool b3q) ∧ w'.cell? ⟨g6c, 1, none⟩ = some (.slice A3q n3q c3q) ∧ w'.cell? ⟨g6c, 2, none⟩ = some (.bool e3q) ∧ w'.cell? ⟨g6c, 3, none⟩ = some (.slice B3q m3q d3q) ∧ w'.cell? ⟨g7c, 0, none⟩ = some (.bool b1p) ∧ w'.cell? ⟨g7c, 1, none⟩ = some (.slice A1p n1p c1p) ∧ w'.cell? ⟨g7c, 2, none⟩ = some (.bool e1p) ∧ w'.cell? ⟨g7c, 3, none⟩ = some (.slice B1p m1p d1p) ∧ w'.cell? ⟨g8c, 0, none⟩ = some (.bool b3p) ∧ w'.cell? ⟨g8c, 1, none⟩ = some (.slice A3p n3p c3p) ∧ w'.cell? ⟨g8c, 2, none⟩ = some (.bool e3p) ∧ w'.cell? ⟨g8c, 3, none⟩ = some (.slice B3p m3p d3p))
      (first | (with_reducible exact hk10_0) | (with_reducible exact hk10_1) | (with_reducible exact hk10_2) | (with_reducible exact hk10_3) | (with_reducible exact hk10_4) | (with_reducible exact hk10_5) | (with_reducible exact hk10_6) | (with_reducible exact hk10_7) | (with_reducible exact hk10_8) | (with_reducible exact hk10_9) | (with_reducible exact hk10_10) | (with_reducible exact hk10_11) | (with_reducible exact hk10_12) | (with_reducible exact hk10_13) | (with_reducible exact hk10_14) | (with_reducible exact hk10_15) | (with_reducible exact hk10_16) | (with_reducible exact hk10_17) | (with_reducible exact hk10_18))
      (first
        | ((go_at_call 9); (with_reducible refine (qadd_v ((HOac4.out.ext (Ext.refl _).drew).rv LX.out) ((HObc4.out.ext (Ext.refl _).drew).rv LY.out) (by omega)).mono ?_); rintro E6 w6 ⟨b6, A6, n6, c6, e6, B6, m6, d6, rfl, o6, hr6⟩; have X6 := hid ((X4.out.trans (Ext.refl _).drew).trans hr6); have hy6 := hid hr6; have Y6 := hid ((Ext.refl _).drew.trans hr6); clear hr6; have O6 := hid (o6.mono (X4.out.trans (Ext.refl _).drew).size); clear o6; have hk10_2 : w6.cell? ⟨g5c, 0, none⟩ = some (.bool b1q) ∧ w6.cell? ⟨g5c, 1, none⟩ = some (.slice A1q n1q c1q) ∧ w6.cell? ⟨g5c, 2, none⟩ = some (.bool e1q) ∧ w6.cell? ⟨g5c, 3, none⟩ = some (.slice B1q m1q d1q) ∧ w6.cell? ⟨g6c, 0, none⟩ = some (.bool b3q) ∧ w6.cell? ⟨g6c, 1, none⟩ = some (.slice A3q n3q c3q) ∧ w6.cell? ⟨g6c, 2, none⟩ = some (.bool e3q) ∧ w6.cell? ⟨g6c, 3, none⟩ = some (.slice B3q m3q d3q) ∧ w6.cell? ⟨g7c, 0, none⟩ = some (.bool b1p) ∧ w6.cell? ⟨g7c, 1, none⟩ = some (.slice A1p n1p c1p) ∧ w6.cell? ⟨g7c, 2, none⟩ = some (.bool e1p) ∧ w6.cell? ⟨g7c, 3, none⟩ = some (.slice B1p m1p d1p) ∧ w6.cell? ⟨g8c, 0, none⟩ = some (.bool b3p) ∧ w6.cell? ⟨g8c, 1, none⟩ = some (.slice A3p n3p c3p) ∧ w6.cell? ⟨g8c, 2, none⟩ = some (.bool e3p) ∧ w6.cell? ⟨g8c, 3, none⟩ = some (.slice B3p m3p d3p) := ⟨(HBac4.out.ext Y6.out).c 0, (HBac4.out.ext Y6.out).c 1, (HBac4.out.ext Y6.out).c 2, (HBac4.out.ext Y6.out).c 3, (HBbc4.out.ext Y6.out).c 0, (HBbc4.out.ext Y6.out).c 1, (HBbc4.out.ext Y6.out).c 2, (HBbc4.out.ext Y6.out).c 3, (HBuc4.out.ext Y6.out).c 0, (HBuc4.out.ext Y6.out).c 1, (HBuc4.out.ext Y6.out).c 2, (HBuc4.out.ext Y6.out).c 3, (HBvc4.out.ext Y6.out).c 0, (HBvc4.out.ext Y6.out).c 1, (HBvc4.out.ext Y6.out).c 2, (HBvc4.out.ext Y6.out).c 3⟩)
        | ((go_at_call 10); (with_reducible refine (dadd_v ((HOuc4.out.ext Y6.out).qd HX.out.1 HX.out.2) ((HOvc4.out.ext Y6.out).qd HY.out.1 HY.out.2) (by omega)).mono ?_); rintro E7 w7 ⟨b7, A7, n7, c7, e7, B7, m7, d7, rfl, o7, hr7⟩; have X7 := hid (X6.out.trans hr7); have hy7 := hid hr7; have Y7 := hid (Y6.out.trans hr7); clear hr7; have O7 := hid o7; clear o7; have hk10_3 : w7.cell? ⟨g5c, 0, none⟩ = some (.bool b1q) ∧ w7.cell? ⟨g5c, 1, none⟩ = some (.slice A1q n1q c1q) ∧ w7.cell? ⟨g5c, 2, none⟩ = some (.bool e1q) ∧ w7.cell? ⟨g5c, 3, none⟩ = some (.slice B1q m1q d1q) ∧ w7.cell? ⟨g6c, 0, none⟩ = some (.bool b3q) ∧ w7.cell? ⟨g6c, 1, none⟩ = some (.slice A3q n3q c3q) ∧ w7.cell? ⟨g6c, 2, none⟩ = some (.bool e3q) ∧ w7.cell? ⟨g6c, 3, none⟩ = some (.slice B3q m3q d3q) ∧ w7.cell? ⟨g7c, 0, none⟩ = some (.bool b1p) ∧ w7.cell? ⟨g7c, 1, none⟩ = some (.slice A1p n1p c1p) ∧ w7.cell? ⟨g7c, 2, none⟩ = some (.bool e1p) ∧ w7.cell? ⟨g7c, 3, none⟩ = some (.slice B1p m1p d1p) ∧ w7.cell? ⟨g8c, 0, none⟩ = some (.bool b3p) ∧ w7.cell? ⟨g8c, 1, none⟩ = some (.slice A3p n3p c3p) ∧ w7.cell? ⟨g8c, 2, none⟩ = some (.bool e3p) ∧ w7.cell? ⟨g8c, 3, none⟩ = some (.slice B3p m3p d3p) := ⟨(HBac4.out.ext Y7.out).c 0, (HBac4.out.ext Y7.out).c 1, (HBac4.out.ext Y7.out).c 2, (HBac4.out.ext Y7.out).c 3, (HBbc4.out.ext Y7.out).c 0, (HBbc4.out.ext Y7.out).c 1, (HBbc4.out.ext Y7.out).c 2, (HBbc4.out.ext Y7.out).c 3, (HBuc4.out.ext Y7.out).c 0, (HBuc4.out.ext Y7.out).c 1, (HBuc4.out.ext Y7.out).c 2, (HBuc4.out.ext Y7.out).c 3, (HBvc4.out.ext Y7.out).c 0, (HBvc4.out.ext Y7.out).c 1, (HBvc4.out.ext Y7.out).c 2, (HBvc4.out.ext Y7.out).c 3⟩)
        | ((go_at_call 11); (with_reducible refine (drat_v O7.out (by omega)).mono ?_); rintro E8 w8 ⟨b8, A8, n8, c8, e8, B8, m8, d8, rfl, o8, hr8⟩; have X8 := hid (X7.out.trans hr8); have hy8 := hid hr8; have Y8 := hid (Y7.out.trans hr8); clear hr8; have O8 := hid (o8.mono X7.out.size); clear o8; have hk10_4 : w8.cell? ⟨g5c, 0, none⟩ = some (.bool b1q) ∧ w8.cell? ⟨g5c, 1, none⟩ = some (.slice A1q n1q c1q) ∧ w8.cell? ⟨g5c, 2, none⟩ = some (.bool e1q) ∧ w8.cell? ⟨g5c, 3, none⟩ = some (.slice B1q m1q d1q) ∧ w8.cell? ⟨g6c, 0, none⟩ = some (.bool b3q) ∧ w8.cell? ⟨g6c, 1, none⟩ = some (.slice A3q n3q c3q) ∧ w8.cell? ⟨g6c, 2, none⟩ = some (.bool e3q) ∧ w8.cell? ⟨g6c, 3, none⟩ = some (.slice B3q m3q d3q) ∧ w8.cell? ⟨g7c, 0, none⟩ = some (.bool b1p) ∧ w8.cell? ⟨g7c, 1, none⟩ = some (.slice A1p n1p c1p) ∧ w8.cell? ⟨g7c, 2, none⟩ = some (.bool e1p) ∧ w8.cell? ⟨g7c, 3, none⟩ = some (.slice B1p m1p d1p) ∧ w8.cell? ⟨g8c, 0, none⟩ = some (.bool b3p) ∧ w8.cell? ⟨g8c, 1, none⟩ = some (.slice A3p n3p c3p) ∧ w8.cell? ⟨g8c, 2, none⟩ = some (.bool e3p) ∧ w8.cell? ⟨g8c, 3, none⟩ = some (.slice B3p m3p d3p) := ⟨(HBac4.out.ext Y8.out).c 0, (HBac4.out.ext Y8.out).c 1, (HBac4.out.ext Y8.out).c 2, (HBac4.out.ext Y8.out).c 3, (HBbc4.out.ext Y8.out).c 0, (HBbc4.out.ext Y8.out).c 1, (HBbc4.out.ext Y8.out).c 2, (HBbc4.out.ext Y8.out).c 3, (HBuc4.out.ext Y8.out).c 0, (HBuc4.out.ext Y8.out).c 1, (HBuc4.out.ext Y8.out).c 2, (HBuc4.out.ext Y8.out).c 3, (HBvc4.out.ext Y8.out).c 0, (HBvc4.out.ext Y8.out).c 1, (HBvc4.out.ext Y8.out).c 2, (HBvc4.out.ext Y8.out).c 3⟩)
        | ((go_at_call 8); (with_reducible refine (dsame_v (O6.out.ext (hy7.out.trans hy8.out)) O8.out (by omega) rfl).mono ?_); rintro E9 w9 ⟨rfl, hr9⟩; have X9 := hid (X8.out.trans hr9); have hy9 := hid hr9; have Y9 := hid (Y8.out.trans hr9); clear hr9; have hk10_5 : w9.cell? ⟨g5c, 0, none⟩ = some (.bool b1q) ∧ w9.cell? ⟨g5c, 1, none⟩ = some (.slice A1q n1q c1q) ∧ w9.cell? ⟨g5c, 2, none⟩ = some (.bool e1q) ∧ w9.cell? ⟨g5c, 3, none⟩ = some (.slice B1q m1q d1q) ∧ w9.cell? ⟨g6c, 0, none⟩ = some (.bool b3q) ∧ w9.cell? ⟨g6c, 1, none⟩ = some (.slice A3q n3q c3q) ∧ w9.cell? ⟨g6c, 2, none⟩ = some (.bool e3q) ∧ w9.cell? ⟨g6c, 3, none⟩ = some (.slice B3q m3q d3q) ∧ w9.cell? ⟨g7c, 0, none⟩ = some (.bool b1p) ∧ w9.cell? ⟨g7c, 1, none⟩ = some (.slice A1p n1p c1p) ∧ w9.cell? ⟨g7c, 2, none⟩ = some (.bool e1p) ∧ w9.cell? ⟨g7c, 3, none⟩ = some (.slice B1p m1p d1p) ∧ w9.cell? ⟨g8c, 0, none⟩ = some (.bool b3p) ∧ w9.cell? ⟨g8c, 1, none⟩ = some (.slice A3p n3p c3p) ∧ w9.cell? ⟨g8c, 2, none⟩ = some (.bool e3p) ∧ w9.cell? ⟨g8c, 3, none⟩ = some (.slice B3p m3p d3p) := ⟨(HBac4.out.ext Y9.out).c 0, (HBac4.out.ext Y9.out).c 1, (HBac4.out.ext Y9.out).c 2, (HBac4.out.ext Y9.out).c 3, (HBbc4.out.ext Y9.out).c 0, (HBbc4.out.ext Y9.out).c 1, (HBbc4.out.ext Y9.out).c 2, (HBbc4.out.ext Y9.out).c 3, (HBuc4.out.ext Y9.out).c 0, (HBuc4.out.ext Y9.out).c 1, (HBuc4.out.ext Y9.out).c 2, (HBuc4.out.ext Y9.out).c 3, (HBvc4.out.ext Y9.out).c 0, (HBvc4.out.ext Y9.out).c 1, (HBvc4.out.ext Y9.out).c 2, (HBvc4.out.ext Y9.out).c 3⟩)
        | ((go_at_call 12); (with_reducible refine (qsub_v ((HOac4.out.ext Y9.out).rv LX.out) ((HObc4.out.ext Y9.out).rv LY.out) (by omega)).mono ?_); rintro E10 w10 ⟨b10, A10, n10, c10, e10, B10, m10, d10, rfl, o10, hr10⟩; have X10 := hid (X9.out.trans hr10); have hy10 := hid hr10; have Y10 := hid (Y9.out.trans hr10); clear hr10; have O10 := hid (o10.mono X9.out.size); clear o10; have hk10_6 : w10.cell? ⟨g5c, 0, none⟩ = some (.bool b1q) ∧ w10.cell? ⟨g5c, 1, none⟩ = some (.slice A1q n1q c1q) ∧ w10.cell? ⟨g5c, 2, none⟩ = some (.bool e1q) ∧ w10.cell? ⟨g5c, 3, none⟩ = some (.slice B1q m1q d1q) ∧ w10.cell? ⟨g6c, 0, none⟩ = some (.bool b3q) ∧ w10.cell? ⟨g6c, 1, none⟩ = some (.slice A3q n3q c3q) ∧ w10.cell? ⟨g6c, 2, none⟩ = some (.bool e3q) ∧ w10.cell? ⟨g6c, 3, none⟩ = some (.slice B3q m3q d3q) ∧ w10.cell? ⟨g7c, 0, none⟩ = some (.bool b1p) ∧ w10.cell? ⟨g7c, 1, none⟩ = some (.slice A1p n1p c1p) ∧ w10.cell? ⟨g7c, 2, none⟩ = some (.bool e1p) ∧ w10.cell? ⟨g7c, 3, none⟩ = some (.slice B1p m1p d1p) ∧ w10.cell? ⟨g8c, 0, none⟩ = some (.bool b3p) ∧ w10.cell? ⟨g8c, 1, none⟩ = some (.slice A3p n3p c3p) ∧ w10.cell? ⟨g8c, 2, none⟩ = some (.bool e3p) ∧ w10.cell? ⟨g8c, 3, none⟩ = some (.slice B3p m3p d3p) := ⟨(HBac4.out.ext Y10.out).c 0, (HBac4.out.ext Y10.out).c 1, (HBac4.out.ext Y10.out).c 2, (HBac4.out.ext Y10.out).c 3, (HBbc4.out.ext Y10.out).c 0, (HBbc4.out.ext Y10.out).c 1, (HBbc4.out.ext Y10.out).c 2, (HBbc4.out.ext Y10.out).c 3, (HBuc4.out.ext Y10.out).c 0, (HBuc4.out.ext Y10.out).c 1, (HBuc4.out.ext Y10.out).c 2, (HBuc4.out.ext Y10.out).c 3, (HBvc4.out.ext Y10.out).c 0, (HBvc4.out.ext Y10.out).c 1, (HBvc4.out.ext Y10.out).c 2, (HBvc4.out.ext Y10.out).c 3⟩)
        | ((go_at_call 13); (with_reducible refine (dsub_v ((HOuc4.out.ext Y10.out).qd HX.out.1 HX.out.2) ((HOvc4.out.ext Y10.out).qd HY.out.1 HY.out.2) (by omega)).mono ?_); rintro E11 w11 ⟨b11, A11, n11, c11, e11, B11, m11, d11, rfl, o11, hr11⟩; have X11 := hid (X10.out.trans hr11); have hy11 := hid hr11; have Y11 := hid (Y10.out.trans hr11); clear hr11; have O11 := hid o11; clear o11; have hk10_7 : w11.cell? ⟨g5c, 0, none⟩ = some (.bool b1q) ∧ w11.cell? ⟨g5c, 1, none⟩ = some (.slice A1q n1q c1q) ∧ w11.cell? ⟨g5c, 2, none⟩ = some (.bool e1q) ∧ w11.cell? ⟨g5c, 3, none⟩ = some (.slice B1q m1q d1q) ∧ w11.cell? ⟨g6c, 0, none⟩ = some (.bool b3q) ∧ w11.cell? ⟨g6c, 1, none⟩ = some (.slice A3q n3q c3q) ∧ w11.cell? ⟨g6c, 2, none⟩ = some (.bool e3q) ∧ w11.cell? ⟨g6c, 3, none⟩ = some (.slice B3q m3q d3q) ∧ w11.cell? ⟨g7c, 0, none⟩ = some (.bool b1p) ∧ w11.cell? ⟨g7c, 1, none⟩ = some (.slice A1p n1p c1p) ∧ w11.cell? ⟨g7c, 2, none⟩ = some (.bool e1p) ∧ w11.cell? ⟨g7c, 3, none⟩ = some (.slice B1p m1p d1p) ∧ w11.cell? ⟨g8c, 0, none⟩ = some (.bool b3p) ∧ w11.cell? ⟨g8c, 1, none⟩ = some (.slice A3p n3p c3p) ∧ w11.cell? ⟨g8c, 2, none⟩ = some (.bool e3p) ∧ w11.cell? ⟨g8c, 3, none⟩ = some (.slice B3p m3p d3p) := ⟨(HBac4.out.ext Y11.out).c 0, (HBac4.out.ext Y11.out).c 1, (HBac4.out.ext Y11.out).c 2, (HBac4.out.ext Y11.out).c 3, (HBbc4.out.ext Y11.out).c 0, (HBbc4.out.ext Y11.out).c 1, (HBbc4.out.ext Y11.out).c 2, (HBbc4.out.ext Y11.out).c 3, (HBuc4.out.ext Y11.out).c 0, (HBuc4.out.ext Y11.out).c 1, (HBuc4.out.ext Y11.out).c 2, (HBuc4.out.ext Y11.out).c 3, (HBvc4.out.ext Y11.out).c 0, (HBvc4.out.ext Y11.out).c 1, (HBvc4.out.ext Y11.out).c 2, (HBvc4.out.ext Y11.out).c 3⟩)
        | ((go_at_call 11); (with_reducible refine (drat_v O11.out (by omega)).mono ?_); rintro E12 w12 ⟨b12, A12, n12, c12, e12, B12, m12, d12, rfl, o12, hr12⟩; have X12 := hid (X11.out.trans hr12); have hy12 := hid hr12; have Y12 := hid (Y11.out.trans hr12); clear hr12; have O12 := hid (o12.mono X11.out.size); clear o12; have hk10_8 : w12.cell? ⟨g5c, 0, none⟩ = some (.bool b1q) ∧ w12.cell? ⟨g5c, 1, none⟩ = some (.slice A1q n1q c1q) ∧ w12.cell? ⟨g5c, 2, none⟩ = some (.bool e1q) ∧ w12.cell? ⟨g5c, 3, none⟩ = some (.slice B1q m1q d1q) ∧ w12.cell? ⟨g6c, 0, none⟩ = some (.bool b3q) ∧ w12.cell? ⟨g6c, 1, none⟩ = some (.slice A3q n3q c3q) ∧ w12.cell? ⟨g6c, 2, none⟩ = some (.bool e3q) ∧ w12.cell? ⟨g6c, 3, none⟩ = some (.slice B3q m3q d3q) ∧ w12.cell? ⟨g7c, 0, none⟩ = some (.bool b1p) ∧ w12.cell? ⟨g7c, 1, none⟩ = some (.slice A1p n1p c1p) ∧ w12.cell? ⟨g7c, 2, none⟩ = some (.bool e1p) ∧ w12.cell? ⟨g7c, 3, none⟩ = some (.slice B1p m1p d1p) ∧ w12.cell? ⟨g8c, 0, none⟩ = some (.bool b3p) ∧ w12.cell? ⟨g8c, 1, none⟩ = some (.slice A3p n3p c3p) ∧ w12.cell? ⟨g8c, 2, none⟩ = some (.bool e3p) ∧ w12.cell? ⟨g8c, 3, none⟩ = some (.slice B3p m3p d3p) := ⟨(HBac4.out.ext Y12.out).c 0, (HBac4.out.ext Y12.out).c 1, (HBac4.out.ext Y12.out).c 2, (HBac4.out.ext Y12.out).c 3, (HBbc4.out.ext Y12.out).c 0, (HBbc4.out.ext Y12.out).c 1, (HBbc4.out.ext Y12.out).c 2, (HBbc4.out.ext Y12.out).c 3, (HBuc4.out.ext Y12.out).c 0, (HBuc4.out.ext Y12.out).c 1, (HBuc4.out.ext Y12.out).c 2, (HBuc4.out.ext Y12.out).c 3, (HBvc4.out.ext Y12.out).c 0, (HBvc4.out.ext Y12.out).c 1, (HBvc4.out.ext Y12.out).c 2, (HBvc4.out.ext Y12.out).c 3⟩)
        | ((go_at_call 8); (with_reducible refine (dsame_v (O10.out.ext (hy11.out.trans hy12.out)) O12.out (by omega) rfl).mono ?_); rintro E13 w13 ⟨rfl, hr13⟩; have X13 := hid (X12.out.trans hr13); have hy13 := hid hr13; have Y13 := hid (Y12.out.trans hr13); clear hr13; have hk10_9 : w13.cell? ⟨g5c, 0, none⟩ = some (.bool b1q) ∧ w13.cell? ⟨g5c, 1, none⟩ = some (.slice A1q n1q c1q) ∧ w13.cell? ⟨g5c, 2, none⟩ = some (.bool e1q) ∧ w13.cell? ⟨g5c, 3, none⟩ = some (.slice B1q m1q d1q) ∧ w13.cell? ⟨g6c, 0, none⟩ = some (.bool b3q) ∧ w13.cell? ⟨g6c, 1, none⟩ = some (.slice A3q n3q c3q) ∧ w13.cell? ⟨g6c, 2, none⟩ = some (.bool e3q) ∧ w13.cell? ⟨g6c, 3, none⟩ = some (.slice B3q m3q d3q) ∧ w13.cell? ⟨g7c, 0, none⟩ = some (.bool b1p) ∧ w13.cell? ⟨g7c, 1, none⟩ = some (.slice A1p n1p c1p) ∧ w13.cell? ⟨g7c, 2, none⟩ = some (.bool e1p) ∧ w13.cell? ⟨g7c, 3, none⟩ = some (.slice B1p m1p d1p) ∧ w13.cell? ⟨g8c, 0, none⟩ = some (.bool b3p) ∧ w13.cell? ⟨g8c, 1, none⟩ = some (.slice A3p n3p c3p) ∧ w13.cell? ⟨g8c, 2, none⟩ = some (.bool e3p) ∧ w13.cell? ⟨g8c, 3, none⟩ = some (.slice B3p m3p d3p) := ⟨(HBac4.out.ext Y13.out).c 0, (HBac4.out.ext Y13.out).c 1, (HBac4.out.ext Y13.out).c 2, (HBac4.out.ext Y13.out).c 3, (HBbc4.out.ext Y13.out).c 0, (HBbc4.out.ext Y13.out).c 1, (HBbc4.out.ext Y13.out).c 2, (HBbc4.out.ext Y13.out).c 3, (HBuc4.out.ext Y13.out).c 0, (HBuc4.out.ext Y13.out).c 1, (HBuc4.out.ext Y13.out).c 2, (HBuc4.out.ext Y13.out).c 3, (HBvc4.out.ext Y13.out).c 0, (HBvc4.out.ext Y13.out).c 1, (HBvc4.out.ext Y13.out).c 2, (HBvc4.out.ext Y13.out).c 3⟩)
        | ((go_at_call 14); (with_reducible refine (qmul_v ((HOac4.out.ext Y13.out).rv LX.out) ((HObc4.out.ext Y13.out).rv LY.out) (by omega)).mono ?_); rintro E14 w14 ⟨b14, A14, n14, c14, e14, B14, m14, d14, rfl, o14, hr14⟩; have X14 := hid (X13.out.trans hr14); have hy14 := hid hr14; have Y14 := hid (Y13.out.trans hr14); clear hr14; have O14 := hid (o14.mono X13.out.size); clear o14; have hk10_10 : w14.cell? ⟨g5c, 0, none⟩ = some (.bool b1q) ∧ w14.cell? ⟨g5c, 1, none⟩ = some (.slice A1q n1q c1q) ∧ w14.cell? ⟨g5c, 2, none⟩ = some (.bool e1q) ∧ w14.cell? ⟨g5c, 3, none⟩ = some (.slice B1q m1q d1q) ∧ w14.cell? ⟨g6c, 0, none⟩ = some (.bool b3q) ∧ w14.cell? ⟨g6c, 1, none⟩ = some (.slice A3q n3q c3q) ∧ w14.cell? ⟨g6c, 2, none⟩ = some (.bool e3q) ∧ w14.cell? ⟨g6c, 3, none⟩ = some (.slice B3q m3q d3q) ∧ w14.cell? ⟨g7c, 0, none⟩ = some (.bool b1p) ∧ w14.cell? ⟨g7c, 1, none⟩ = some (.slice A1p n1p c1p) ∧ w14.cell? ⟨g7c, 2, none⟩ = some (.bool e1p) ∧ w14.cell? ⟨g7c, 3, none⟩ = some (.slice B1p m1p d1p) ∧ w14.cell? ⟨g8c, 0, none⟩ = some (.bool b3p) ∧ w14.cell? ⟨g8c, 1, none⟩ = some (.slice A3p n3p c3p) ∧ w14.cell? ⟨g8c, 2, none⟩ = some (.bool e3p) ∧ w14.cell? ⟨g8c, 3, none⟩ = some (.slice B3p m3p d3p) := ⟨(HBac4.out.ext Y14.out).c 0, (HBac4.out.ext Y14.out).c 1, (HBac4.out.ext Y14.out).c 2, (HBac4.out.ext Y14.out).c 3, (HBbc4.out.ext Y14.out).c 0, (HBbc4.out.ext Y14.out).c 1, (HBbc4.out.ext Y14.out).c 2, (HBbc4.out.ext Y14.out).c 3, (HBuc4.out.ext Y14.out).c 0, (HBuc4.out.ext Y14.out).c 1, (HBuc4.out.ext Y14.out).c 2, (HBuc4.out.ext Y14.out).c 3, (HBvc4.out.ext Y14.out).c 0, (HBvc4.out.ext Y14.out).c 1, (HBvc4.out.ext Y14.out).c 2, (HBvc4.out.ext Y14.out).c 3⟩)
        | ((go_at_call 15); (with_reducible refine (dmul_v ((HOuc4.out.ext Y14.out).qd HX.out.1 HX.out.2) ((HOvc4.out.ext Y14.out).qd HY.out.1 HY.out.2) (by omega)).mono ?_); rintro E15 w15 ⟨b15, A15, n15, c15, e15, B15, m15, d15, rfl, o15, hr15⟩; have X15 := hid (X14.out.trans hr15); have hy15 := hid hr15; have Y15 := hid (Y14.out.trans hr15); clear hr15; have O15 := hid o15; clear o15; have hk10_11 : w15.cell? ⟨g5c, 0, none⟩ = some (.bool b1q) ∧ w15.cell? ⟨g5c, 1, none⟩ = some (.slice A1q n1q c1q) ∧ w15.cell? ⟨g5c, 2, none⟩ = some (.bool e1q) ∧ w15.cell? ⟨g5c, 3, none⟩ = some (.slice B1q m1q d1q) ∧ w15.cell? ⟨g6c, 0, none⟩ = some (.bool b3q) ∧ w15.cell? ⟨g6c, 1, none⟩ = some (.slice A3q n3q c3q) ∧ w15.cell? ⟨g6c, 2, none⟩ = some (.bool e3q) ∧ w15.cell? ⟨g6c, 3, none⟩ = some (.slice B3q m3q d3q) ∧ w15.cell? ⟨g7c, 0, none⟩ = some (.bool b1p) ∧ w15.cell? ⟨g7c, 1, none⟩ = some (.slice A1p n1p c1p) ∧ w15.cell? ⟨g7c, 2, none⟩ = some (.bool e1p) ∧ w15.cell? ⟨g7c, 3, none⟩ = some (.slice B1p m1p d1p) ∧ w15.cell? ⟨g8c, 0, none⟩ = some (.bool b3p) ∧ w15.cell? ⟨g8c, 1, none⟩ = some (.slice A3p n3p c3p) ∧ w15.cell? ⟨g8c, 2, none⟩ = some (.bool e3p) ∧ w15.cell? ⟨g8c, 3, none⟩ = some (.slice B3p m3p d3p) := ⟨(HBac4.out.ext Y15.out).c 0, (HBac4.out.ext Y15.out).c 1, (HBac4.out.ext Y15.out).c 2, (HBac4.out.ext Y15.out).c 3, (HBbc4.out.ext Y15.out).c 0, (HBbc4.out.ext Y15.out).c 1, (HBbc4.out.ext Y15.out).c 2, (HBbc4.out.ext Y15.out).c 3, (HBuc4.out.ext Y15.out).c 0, (HBuc4.out.ext Y15.out).c 1, (HBuc4.out.ext Y15.out).c 2, (HBuc4.out.ext Y15.out).c 3, (HBvc4.out.ext Y15.out).c 0, (HBvc4.out.ext Y15.out).c 1, (HBvc4.out.ext Y15.out).c 2, (HBvc4.out.ext Y15.out).c 3⟩)
        | ((go_at_call 11); (with_reducible refine (drat_v O15.out (by omega)).mono ?_); rintro E16 w16 ⟨b16, A16, n16, c16, e16, B16, m16, d16, rfl, o16, hr16⟩; have X16 := hid (X15.out.trans hr16); have hy16 := hid hr16; have Y16 := hid (Y15.out.trans hr16); clear hr16; have O16 := hid (o16.mono X15.out.size); clear o16; have hk10_12 : w16.cell? ⟨g5c, 0, none⟩ = some (.bool b1q) ∧ w16.cell? ⟨g5c, 1, none⟩ = some (.slice A1q n1q c1q) ∧ w16.cell? ⟨g5c, 2, none⟩ = some (.bool e1q) ∧ w16.cell? ⟨g5c, 3, none⟩ = some (.slice B1q m1q d1q) ∧ w16.cell? ⟨g6c, 0, none⟩ = some (.bool b3q) ∧ w16.cell? ⟨g6c, 1, none⟩ = some (.slice A3q n3q c3q) ∧ w16.cell? ⟨g6c, 2, none⟩ = some (.bool e3q) ∧ w16.cell? ⟨g6c, 3, none⟩ = some (.slice B3q m3q d3q) ∧ w16.cell? ⟨g7c, 0, none⟩ = some (.bool b1p) ∧ w16.cell? ⟨g7c, 1, none⟩ = some (.slice A1p n1p c1p) ∧ w16.cell? ⟨g7c, 2, none⟩ = some (.bool e1p) ∧ w16.cell? ⟨g7c, 3, none⟩ = some (.slice B1p m1p d1p) ∧ w16.cell? ⟨g8c, 0, none⟩ = some (.bool b3p) ∧ w16.cell? ⟨g8c, 1, none⟩ = some (.slice A3p n3p c3p) ∧ w16.cell? ⟨g8c, 2, none⟩ = some (.bool e3p) ∧ w16.cell? ⟨g8c, 3, none⟩ = some (.slice B3p m3p d3p) := ⟨(HBac4.out.ext Y16.out).c 0, (HBac4.out.ext Y16.out).c 1, (HBac4.out.ext Y16.out).c 2, (HBac4.out.ext Y16.out).c 3, (HBbc4.out.ext Y16.out).c 0, (HBbc4.out.ext Y16.out).c 1, (HBbc4.out.ext Y16.out).c 2, (HBbc4.out.ext Y16.out).c 3, (HBuc4.out.ext Y16.out).c 0, (HBuc4.out.ext Y16.out).c 1, (HBuc4.out.ext Y16.out).c 2, (HBuc4.out.ext Y16.out).c 3, (HBvc4.out.ext Y16.out).c 0, (HBvc4.out.ext Y16.out).c 1, (HBvc4.out.ext Y16.out).c 2, (HBvc4.out.ext Y16.out).c 3⟩)
        | ((go_at_call 8); (with_reducible refine (dsame_v (O14.out.ext (hy15.out.trans hy16.out)) O16.out (by omega) rfl).mono ?_); rintro E17 w17 ⟨rfl, hr17⟩; have X17 := hid (X16.out.trans hr17); have hy17 := hid hr17; have Y17 := hid (Y16.out.trans hr17); clear hr17; have hk10_13 : w17.cell? ⟨g5c, 0, none⟩ = some (.bool b1q) ∧ w17.cell? ⟨g5c, 1, none⟩ = some (.slice A1q n1q c1q) ∧ w17.cell? ⟨g5c, 2, none⟩ = some (.bool e1q) ∧ w17.cell? ⟨g5c, 3, none⟩ = some (.slice B1q m1q d1q) ∧ w17.cell? ⟨g6c, 0, none⟩ = some (.bool b3q) ∧ w17.cell? ⟨g6c, 1, none⟩ = some (.slice A3q n3q c3q) ∧ w17.cell? ⟨g6c, 2, none⟩ = some (.bool e3q) ∧ w17.cell? ⟨g6c, 3, none⟩ = some (.slice B3q m3q d3q) ∧ w17.cell? ⟨g7c, 0, none⟩ = some (.bool b1p) ∧ w17.cell? ⟨g7c, 1, none⟩ = some (.slice A1p n1p c1p) ∧ w17.cell? ⟨g7c, 2, none⟩ = some (.bool e1p) ∧ w17.cell? ⟨g7c, 3, none⟩ = some (.slice B1p m1p d1p) ∧ w17.cell? ⟨g8c, 0, none⟩ = some (.bool b3p) ∧ w17.cell? ⟨g8c, 1, none⟩ = some (.slice A3p n3p c3p) ∧ w17.cell? ⟨g8c, 2, none⟩ = some (.bool e3p) ∧ w17.cell? ⟨g8c, 3, none⟩ = some (.slice B3p m3p d3p) := ⟨(HBac4.out.ext Y17.out).c 0, (HBac4.out.ext Y17.out).c 1, (HBac4.out.ext Y17.out).c 2, (HBac4.out.ext Y17.out).c 3, (HBbc4.out.ext Y17.out).c 0, (HBbc4.out.ext Y17.out).c 1, (HBbc4.out.ext Y17.out).c 2, (HBbc4.out.ext Y17.out).c 3, (HBuc4.out.ext Y17.out).c 0, (HBuc4.out.ext Y17.out).c 1, (HBuc4.out.ext Y17.out).c 2, (HBuc4.out.ext Y17.out).c 3, (HBvc4.out.ext Y17.out).c 0, (HBvc4.out.ext Y17.out).c 1, (HBvc4.out.ext Y17.out).c 2, (HBvc4.out.ext Y17.out).c 3⟩)
        | ((go_at_call 16); (with_reducible refine (rneg_v ((HOac4.out.ext Y17.out).rv LX.out) (by omega)).mono ?_); rintro E18 w18 ⟨b18, A18, n18, c18, e18, B18, m18, d18, rfl, o18, hr18⟩; have X18 := hid (X17.out.trans hr18); have hy18 := hid hr18; have Y18 := hid (Y17.out.trans hr18); clear hr18; have O18 := hid (o18.mono X17.out.size); clear o18; have hk10_14 : w18.cell? ⟨g5c, 0, none⟩ = some (.bool b1q) ∧ w18.cell? ⟨g5c, 1, none⟩ = some (.slice A1q n1q c1q) ∧ w18.cell? ⟨g5c, 2, none⟩ = some (.bool e1q) ∧ w18.cell? ⟨g5c, 3, none⟩ = some (.slice B1q m1q d1q) ∧ w18.cell? ⟨g6c, 0, none⟩ = some (.bool b3q) ∧ w18.cell? ⟨g6c, 1, none⟩ = some (.slice A3q n3q c3q) ∧ w18.cell? ⟨g6c, 2, none⟩ = some (.bool e3q) ∧ w18.cell? ⟨g6c, 3, none⟩ = some (.slice B3q m3q d3q) ∧ w18.cell? ⟨g7c, 0, none⟩ = some (.bool b1p) ∧ w18.cell? ⟨g7c, 1, none⟩ = some (.slice A1p n1p c1p) ∧ w18.cell? ⟨g7c, 2, none⟩ = some (.bool e1p) ∧ w18.cell? ⟨g7c, 3, none⟩ = some (.slice B1p m1p d1p) ∧ w18.cell? ⟨g8c, 0, none⟩ = some (.bool b3p) ∧ w18.cell? ⟨g8c, 1, none⟩ = some (.slice A3p n3p c3p) ∧ w18.cell? ⟨g8c, 2, none⟩ = some (.bool e3p) ∧ w18.cell? ⟨g8c, 3, none⟩ = some (.slice B3p m3p d3p) := ⟨(HBac4.out.ext Y18.out).c 0, (HBac4.out.ext Y18.out).c 1, (HBac4.out.ext Y18.out).c 2, (HBac4.out.ext Y18.out).c 3, (HBbc4.out.ext Y18.out).c 0, (HBbc4.out.ext Y18.out).c 1, (HBbc4.out.ext Y18.out).c 2, (HBbc4.out.ext Y18.out).c 3, (HBuc4.out.ext Y18.out).c 0, (HBuc4.out.ext Y18.out).c 1, (HBuc4.out.ext Y18.out).c 2, (HBuc4.out.ext Y18.out).c 3, (HBvc4.out.ext Y18.out).c 0, (HBvc4.out.ext Y18.out).c 1, (HBvc4.out.ext Y18.out).c 2, (HBvc4.out.ext Y18.out).c 3⟩)
        | ((go_at_call 17); (with_reducible refine (dsmall_v (a := 0) (b := 1) (by omega) (by omega) (by omega) (by omega) (by omega)).mono ?_); rintro E19 w19 ⟨b19, A19, n19, c19, e19, B19, m19, d19, rfl, o19, hr19⟩; have X19 := hid (X18.out.trans hr19); have hy19 := hid hr19; have Y19 := hid (Y18.out.trans hr19); clear hr19; have O19 := hid o19; clear o19; have hk10_15 : w19.cell? ⟨g5c, 0, none⟩ = some (.bool b1q) ∧ w19.cell? ⟨g5c, 1, none⟩ = some (.slice A1q n1q c1q) ∧ w19.cell? ⟨g5c, 2, none⟩ = some (.bool e1q) ∧ w19.cell? ⟨g5c, 3, none⟩ = some (.slice B1q m1q d1q) ∧ w19.cell? ⟨g6c, 0, none⟩ = some (.bool b3q) ∧ w19.cell? ⟨g6c, 1, none⟩ = some (.slice A3q n3q c3q) ∧ w19.cell? ⟨g6c, 2, none⟩ = some (.bool e3q) ∧ w19.cell? ⟨g6c, 3, none⟩ = some (.slice B3q m3q d3q) ∧ w19.cell? ⟨g7c, 0, none⟩ = some (.bool b1p) ∧ w19.cell? ⟨g7c, 1, none⟩ = some (.slice A1p n1p c1p) ∧ w19.cell? ⟨g7c, 2, none⟩ = some (.bool e1p) ∧ w19.cell? ⟨g7c, 3, none⟩ = some (.slice B1p m1p d1p) ∧ w19.cell? ⟨g8c, 0, none⟩ = some (.bool b3p) ∧ w19.cell? ⟨g8c, 1, none⟩ = some (.slice A3p n3p c3p) ∧ w19.cell? ⟨g8c, 2, none⟩ = some (.bool e3p) ∧ w19.cell? ⟨g8c, 3, none⟩ = some (.slice B3p m3p d3p) := ⟨(HBac4.out.ext Y19.out).c 0, (HBac4.out.ext Y19.out).c 1, (HBac4.out.ext Y19.out).c 2, (HBac4.out.ext Y19.out).c 3, (HBbc4.out.ext Y19.out).c 0, (HBbc4.out.ext Y19.out).c 1, (HBbc4.out.ext Y19.out).c 2, (HBbc4.out.ext Y19.out).c 3, (HBuc4.out.ext Y19.out).c 0, (HBuc4.out.ext Y19.out).c 1, (HBuc4.out.ext Y19.out).c 2, (HBuc4.out.ext Y19.out).c 3, (HBvc4.out.ext Y19.out).c 0, (HBvc4.out.ext Y19.out).c 1, (HBvc4.out.ext Y19.out).c 2, (HBvc4.out.ext Y19.out).c 3⟩)
        | ((go_at_call 13); (with_reducible refine (dsub_v O19.out ((HOuc4.out.ext Y19.out).qd HX.out.1 HX.out.2) (by omega)).mono ?_); rintro E20 w20 ⟨b20, A20, n20, c20, e20, B20, m20, d20, rfl, o20, hr20⟩; have X20 := hid (X19.out.trans hr20); have hy20 := hid hr20; have Y20 := hid (Y19.out.trans hr20); clear hr20; have O20 := hid o20; clear o20; have hk10_16 : w20.cell? ⟨g5c, 0, none⟩ = some (.bool b1q) ∧ w20.cell? ⟨g5c, 1, none⟩ = some (.slice A1q n1q c1q) ∧ w20.cell? ⟨g5c, 2, none⟩ = some (.bool e1q) ∧ w20.cell? ⟨g5c, 3, none⟩ = some (.slice B1q m1q d1q) ∧ w20.cell? ⟨g6c, 0, none⟩ = some (.bool b3q) ∧ w20.cell? ⟨g6c, 1, none⟩ = some (.slice A3q n3q c3q) ∧ w20.cell? ⟨g6c, 2, none⟩ = some (.bool e3q) ∧ w20.cell? ⟨g6c, 3, none⟩ = some (.slice B3q m3q d3q) ∧ w20.cell? ⟨g7c, 0, none⟩ = some (.bool b1p) ∧ w20.cell? ⟨g7c, 1, none⟩ = some (.slice A1p n1p c1p) ∧ w20.cell? ⟨g7c, 2, none⟩ = some (.bool e1p) ∧ w20.cell? ⟨g7c, 3, none⟩ = some (.slice B1p m1p d1p) ∧ w20.cell? ⟨g8c, 0, none⟩ = some (.bool b3p) ∧ w20.cell? ⟨g8c, 1, none⟩ = some (.slice A3p n3p c3p) ∧ w20.cell? ⟨g8c, 2, none⟩ = some (.bool e3p) ∧ w20.cell? ⟨g8c, 3, none⟩ = some (.slice B3p m3p d3p) := ⟨(HBac4.out.ext Y20.out).c 0, (HBac4.out.ext Y20.out).c 1, (HBac4.out.ext Y20.out).c 2, (HBac4.out.ext Y20.out).c 3, (HBbc4.out.ext Y20.out).c 0, (HBbc4.out.ext Y20.out).c 1, (HBbc4.out.ext Y20.out).c 2, (HBbc4.out.ext Y20.out).c 3, (HBuc4.out.ext Y20.out).c 0, (HBuc4.out.ext Y20.out).c 1, (HBuc4.out.ext Y20.out).c 2, (HBuc4.out.ext Y20.out).c 3, (HBvc4.out.ext Y20.out).c 0, (HBvc4.out.ext Y20.out).c 1, (HBvc4.out.ext Y20.out).c 2, (HBvc4.out.ext Y20.out).c 3⟩)
        | ((go_at_call 11); (with_reducible refine (drat_v O20.out (by omega)).mono ?_); rintro E21 w21 ⟨b21, A21, n21, c21, e21, B21, m21, d21, rfl, o21, hr21⟩; have X21 := hid (X20.out.trans hr21); have hy21 := hid hr21; have Y21 := hid (Y20.out.trans hr21); clear hr21; have O21 := hid (o21.mono X20.out.size); clear o21; have hk10_17 : w21.cell? ⟨g5c, 0, none⟩ = some (.bool b1q) ∧ w21.cell? ⟨g5c, 1, none⟩ = some (.slice A1q n1q c1q) ∧ w21.cell? ⟨g5c, 2, none⟩ = some (.bool e1q) ∧ w21.cell? ⟨g5c, 3, none⟩ = some (.slice B1q m1q d1q) ∧ w21.cell? ⟨g6c, 0, none⟩ = some (.bool b3q) ∧ w21.cell? ⟨g6c, 1, none⟩ = some (.slice A3q n3q c3q) ∧ w21.cell? ⟨g6c, 2, none⟩ = some (.bool e3q) ∧ w21.cell? ⟨g6c, 3, none⟩ = some (.slice B3q m3q d3q) ∧ w21.cell? ⟨g7c, 0, none⟩ = some (.bool b1p) ∧ w21.cell? ⟨g7c, 1, none⟩ = some (.slice A1p n1p c1p) ∧ w21.cell? ⟨g7c, 2, none⟩ = some (.bool e1p) ∧ w21.cell? ⟨g7c, 3, none⟩ = some (.slice B1p m1p d1p) ∧ w21.cell? ⟨g8c, 0, none⟩ = some (.bool b3p) ∧ w21.cell? ⟨g8c, 1, none⟩ = some (.slice A3p n3p c3p) ∧ w21.cell? ⟨g8c, 2, none⟩ = some (.bool e3p) ∧ w21.cell? ⟨g8c, 3, none⟩ = some (.slice B3p m3p d3p) := ⟨(HBac4.out.ext Y21.out).c 0, (HBac4.out.ext Y21.out).c 1, (HBac4.out.ext Y21.out).c 2, (HBac4.out.ext Y21.out).c 3, (HBbc4.out.ext Y21.out).c 0, (HBbc4.out.ext Y21.out).c 1, (HBbc4.out.ext Y21.out).c 2, (HBbc4.out.ext Y21.out).c 3, (HBuc4.out.ext Y21.out).c 0, (HBuc4.out.ext Y21.out).c 1, (HBuc4.out.ext Y21.out).c 2, (HBuc4.out.ext Y21.out).c 3, (HBvc4.out.ext Y21.out).c 0, (HBvc4.out.ext Y21.out).c 1, (HBvc4.out.ext Y21.out).c 2, (HBvc4.out.ext Y21.out).c 3⟩)
        | ((go_at_call 8); (with_reducible refine (dsame_v (O18.out.ext ((hy19.out.trans hy20.out).trans hy21.out)) O21.out (by omega) h0.out).mono ?_); rintro E22 w22 ⟨rfl, hr22⟩; have X22 := hid (X21.out.trans hr22); have hy22 := hid hr22; have Y22 := hid (Y21.out.trans hr22); clear hr22; have hk10_18 : w22.cell? ⟨g5c, 0, none⟩ = some (.bool b1q) ∧ w22.cell? ⟨g5c, 1, none⟩ = some (.slice A1q n1q c1q) ∧ w22.cell? ⟨g5c, 2, none⟩ = some (.bool e1q) ∧ w22.cell? ⟨g5c, 3, none⟩ = some (.slice B1q m1q d1q) ∧ w22.cell? ⟨g6c, 0, none⟩ = some (.bool b3q) ∧ w22.cell? ⟨g6c, 1, none⟩ = some (.slice A3q n3q c3q) ∧ w22.cell? ⟨g6c, 2, none⟩ = some (.bool e3q) ∧ w22.cell? ⟨g6c, 3, none⟩ = some (.slice B3q m3q d3q) ∧ w22.cell? ⟨g7c, 0, none⟩ = some (.bool b1p) ∧ w22.cell? ⟨g7c, 1, none⟩ = some (.slice A1p n1p c1p) ∧ w22.cell? ⟨g7c, 2, none⟩ = some (.bool e1p) ∧ w22.cell? ⟨g7c, 3, none⟩ = some (.slice B1p m1p d1p) ∧ w22.cell? ⟨g8c, 0, none⟩ = some (.bool b3p) ∧ w22.cell? ⟨g8c, 1, none⟩ = some (.slice A3p n3p c3p) ∧ w22.cell? ⟨g8c, 2, none⟩ = some (.bool e3p) ∧ w22.cell? ⟨g8c, 3, none⟩ = some (.slice B3p m3p d3p) := ⟨(HBac4.out.ext Y22.out).c 0, (HBac4.out.ext Y22.out).c 1, (HBac4.out.ext Y22.out).c 2, (HBac4.out.ext Y22.out).c 3, (HBbc4.out.ext Y22.out).c 0, (HBbc4.out.ext Y22.out).c 1, (HBbc4.out.ext Y22.out).c 2, (HBbc4.out.ext Y22.out).c 3, (HBuc4.out.ext Y22.out).c 0, (HBuc4.out.ext Y22.out).c 1, (HBuc4.out.ext Y22.out).c 2, (HBuc4.out.ext Y22.out).c 3, (HBvc4.out.ext Y22.out).c 0, (HBvc4.out.ext Y22.out).c 1, (HBvc4.out.ext Y22.out).c 2, (HBvc4.out.ext Y22.out).c 3⟩))
    clear hk10_0 hk10_1 hk10_2 hk10_3 hk10_4 hk10_5 hk10_6 hk10_7 hk10_8 hk10_9 hk10_10 hk10_11 hk10_12 hk10_13 hk10_14 hk10_15 hk10_16 hk10_17 hk10_18
    go_upto_region 7 with fail
    as_aux_lemma =>
      have RBa11 := hid (HBac4.out.ext Y22.out)
      have RBb11 := hid (HBbc4.out.ext Y22.out)
      have RBu11 := hid (HBuc4.out.ext Y22.out)
      have RBv11 := hid (HBvc4.out.ext Y22.out)
      have RBx11 := hid (HBxc4.out.ext Y22.out)
      have RFa11 := hid (HOac4.out.ext Y22.out)
      have RFb11 := hid (HObc4.out.ext Y22.out)
      have RFu11 := hid (HOuc4.out.ext Y22.out)
      have RFv11 := hid (HOvc4.out.ext Y22.out)
      have hk11_0 : w22.cell? ⟨g5c, 0, none⟩ = some (.bool b1q) ∧ w22.cell? ⟨g5c, 1, none⟩ = some (.slice A1q n1q c1q) ∧ w22.cell? ⟨g5c, 2, none⟩ = some (.bool e1q) ∧ w22.cell? ⟨g5c, 3, none⟩ = some (.slice B1q m1q d1q) ∧ w22.cell? ⟨g6c, 0, none⟩ = some (.bool b3q) ∧ w22.cell? ⟨g6c, 1, none⟩ = some (.slice A3q n3q c3q) ∧ w22.cell? ⟨g6c, 2, none⟩ = some (.bool e3q) ∧ w22.cell? ⟨g6c, 3, none⟩ = some (.slice B3q m3q d3q) ∧ w22.cell? ⟨g7c, 0, none⟩ = some (.bool b1p) ∧ w22.cell? ⟨g7c, 1, none⟩ = some (.slice A1p n1p c1p) ∧ w22.cell? ⟨g7c, 2, none⟩ = some (.bool e1p) ∧ w22.cell? ⟨g7c, 3, none⟩ = some (.slice B1p m1p d1p) ∧ w22.cell? ⟨g8c, 0, none⟩ = some (.bool b3p) ∧ w22.cell? ⟨g8c, 1, none⟩ = some (.slice A3p n3p c3p) ∧ w22.cell? ⟨g8c, 2, none⟩ = some (.bool e3p) ∧ w22.cell? ⟨g8c, 3, none⟩ = some (.slice B3p m3p d3p) ∧ w22.cell? ⟨w.heap.size, 0, none⟩ = some (.bool sx) ∧ w22.cell? ⟨w.heap.size, 1, none⟩ = some (.slice Px lx kx) ∧ w22.cell? ⟨w.heap.size, 2, none⟩ = some (.bool tx) ∧ w22.cell? ⟨w.heap.size, 3, none⟩ = some (.slice Qx mx dx) := ⟨RBa11.out.c 0, RBa11.out.c 1, RBa11.out.c 2, RBa11.out.c 3, RBb11.out.c 0, RBb11.out.c 1, RBb11.out.c 2, RBb11.out.c 3, RBu11.out.c 0, RBu11.out.c 1, RBu11.out.c 2, RBu11.out.c 3, RBv11.out.c 0, RBv11.out.c 1, RBv11.out.c 2, RBv11.out.c 3, RBx11.out.c 0, RBx11.out.c 1, RBx11.out.c 2, RBx11.out.c 3⟩
      have hk11_1 : w22.drew.cell? ⟨g5c, 0, none⟩ = some (.bool b1q) ∧ w22.drew.cell? ⟨g5c, 1, none⟩ = some (.slice A1q n1q c1q) ∧ w22.drew.cell? ⟨g5c, 2, none⟩ = some (.bool e1q) ∧ w22.drew.cell? ⟨g5c, 3, none⟩ = some (.slice B1q m1q d1q) ∧ w22.drew.cell? ⟨g6c, 0, none⟩ = some (.bool b3q) ∧ w22.drew.cell? ⟨g6c, 1, none⟩ = some (.slice A3q n3q c3q) ∧ w22.drew.cell? ⟨g6c, 2, none⟩ = some (.bool e3q) ∧ w22.drew.cell? ⟨g6c, 3, none⟩ = some (.slice B3q m3q d3q) ∧ w22.drew.cell? ⟨g7c, 0, none⟩ = some (.bool b1p) ∧ w22.drew.cell? ⟨g7c, 1, none⟩ = some (.slice A1p n1p c1p) ∧ w22.drew.cell? ⟨g7c, 2, none⟩ = some (.bool e1p) ∧ w22.drew.cell? ⟨g7c, 3, none⟩ = some (.slice B1p m1p d1p) ∧ w22.drew.cell? ⟨g8c, 0, none⟩ = some (.bool b3p) ∧ w22.drew.cell? ⟨g8c, 1, none⟩ = some (.slice A3p n3p c3p) ∧ w22.drew.cell? ⟨g8c, 2, none⟩ = some (.bool e3p) ∧ w22.drew.cell? ⟨g8c, 3, none⟩ = some (.slice B3p m3p d3p) ∧ w22.drew.cell? ⟨w.heap.size, 0, none⟩ = some (.bool sx) ∧ w22.drew.cell? ⟨w.heap.size, 1, none⟩ = some (.slice Px lx kx) ∧ w22.drew.cell? ⟨w.heap.size, 2, none⟩ = some (.bool tx) ∧ w22.drew.cell? ⟨w.heap.size, 3, none⟩ = some (.slice Qx mx dx) := ⟨(RBa11.out.ext (Ext.refl _).drew).c 0, (RBa11.out.ext (Ext.refl _).drew).c 1, (RBa11.out.ext (Ext.refl _).drew).c 2, (RBa11.out.ext (Ext.refl _).drew).c 3, (RBb11.out.ext (Ext.refl _).drew).c 0, (RBb11.out.ext (Ext.refl _).drew).c 1, (RBb11.out.ext (Ext.refl _).drew).c 2, (RBb11.out.ext (Ext.refl _).drew).c 3, (RBu11.out.ext (Ext.refl _).drew).c 0, (RBu11.out.ext (Ext.refl _).drew).c 1, (RBu11.out.ext (Ext.refl _).drew).c 2, (RBu11.out.ext (Ext.refl _).drew).c 3, (RBv11.out.ext (Ext.refl _).drew).c 0, (RBv11.out.ext (Ext.refl _).drew).c 1, (RBv11.out.ext (Ext.refl _).drew).c 2, (RBv11.out.ext (Ext.refl _).drew).c 3, (RBx11.out.ext (Ext.refl _).drew).c 0, (RBx11.out.ext (Ext.refl _).drew).c 1, (RBx11.out.ext (Ext.refl _).drew).c 2, (RBx11.out.ext (Ext.refl _).drew).c 3⟩
      go_region_held3 (fun w' => w'.cell? ⟨g5c, 0, none⟩ = some (.bool b1q) ∧ w'.cell? ⟨g5c, 1, none⟩ = some (.slice A1q n1q c1q) ∧ w'.cell? ⟨g5c, 2, none⟩ = some (.bool e1q) ∧ w'.cell? ⟨g5c, 3, none⟩ = some (.slice B1q m1q d1q) ∧ w'.cell? ⟨g6c, 0, none⟩ = some (.bool b3q) ∧ w'.cell? ⟨g6c, 1, none⟩ = some (.slice A3q n3q c3q) ∧ w'.cell? ⟨g6c, 2, none⟩ = some (.bool e3q) ∧ w'.cell? ⟨g6c, 3, none⟩ = some (.slice B3q m3q d3q) ∧ w'.cell? ⟨g7c, 0, none⟩ = some (.bool b1p) ∧ w'.cell? ⟨g7c, 1, none⟩ = some (.slice A1p n1p c1p) ∧ w'.cell? ⟨g7c, 2, none⟩ = some (.bool e1p) ∧ w'.cell? ⟨g7c, 3, none⟩ = some (.slice B1p m1p d1p) ∧ w'.cell? ⟨g8c, 0, none⟩ = some (.bool b3p) ∧ w'.cell? ⟨g8c, 1, none⟩ = some (.slice A3p n3p c3p) ∧ w'.cell? ⟨g8c, 2, none⟩ = some (.bool e3p) ∧ w'.cell? ⟨g8c, 3, none⟩ = some (.slice B3p m3p d3p) ∧ w'.cell? ⟨w.heap.size, 0, none⟩ = some (.bool sx) ∧ w'.cell? ⟨w.heap.size, 1, none⟩ = some (.slice Px lx kx) ∧ w'.cell? ⟨w.heap.size, 2, none⟩ = some (.bool tx) ∧ w'.cell? ⟨w.heap.size, 3, none⟩ = some (.slice Qx mx dx))
        (first | (with_reducible exact hk11_0) | (with_reducible exact hk11_1) | (with_reducible exact hk11_2) | (with_reducible exact hk11_3) | (with_reducible exact hk11_4) | (with_reducible exact hk11_5) | (with_reducible exact hk11_6) | (with_reducible exact hk11_7) | (with_reducible exact hk11_8) | (with_reducible exact hk11_9) | (with_reducible exact hk11_10) | (with_reducible exact hk11_11) | (with_reducible exact hk11_12) | (with_reducible exact hk11_13) | (with_reducible exact hk11_14))
        (first
          | ((go_at_call 18); (with_reducible refine (rsign_is ((RFa11.out.ext (Ext.refl _).drew).rv LX.out) (by omega) HP.out).mono ?_); rintro E24 w24 ⟨rfl, hr24⟩; have X24 := hid ((X22.out.trans (Ext.refl _).drew).trans hr24); have hy24 := hid hr24; have Y24 := hid ((Ext.refl _).drew.trans hr24); clear hr24; have hk11_2 : w24.cell? ⟨g5c, 0, none⟩ = some (.bool b1q) ∧ w24.cell? ⟨g5c, 1, none⟩ = some (.slice A1q n1q c1q) ∧ w24.cell? ⟨g5c, 2, none⟩ = some (.bool e1q) ∧ w24.cell? ⟨g5c, 3, none⟩ = some (.slice B1q m1q d1q) ∧ w24.cell? ⟨g6c, 0, none⟩ = some (.bool b3q) ∧ w24.cell? ⟨g6c, 1, none⟩ = some (.slice A3q n3q c3q) ∧ w24.cell? ⟨g6c, 2, none⟩ = some (.bool e3q) ∧ w24.cell? ⟨g6c, 3, none⟩ = some (.slice B3q m3q d3q) ∧ w24.cell? ⟨g7c, 0, none⟩ = some (.bool b1p) ∧ w24.cell? ⟨g7c, 1, none⟩ = some (.slice A1p n1p c1p) ∧ w24.cell? ⟨g7c, 2, none⟩ = some (.bool e1p) ∧ w24.cell? ⟨g7c, 3, none⟩ = some (.slice B1p m1p d1p) ∧ w24.cell? ⟨g8c, 0, none⟩ = some (.bool b3p) ∧ w24.cell? ⟨g8c, 1, none⟩ = some (.slice A3p n3p c3p) ∧ w24.cell? ⟨g8c, 2, none⟩ = some (.bool e3p) ∧ w24.cell? ⟨g8c, 3, none⟩ = some (.slice B3p m3p d3p) ∧ w24.cell? ⟨w.heap.size, 0, none⟩ = some (.bool sx) ∧ w24.cell? ⟨w.heap.size, 1, none⟩ = some (.slice Px lx kx) ∧ w24.cell? ⟨w.heap.size, 2, none⟩ = some (.bool tx) ∧ w24.cell? ⟨w.heap.size, 3, none⟩ = some (.slice Qx mx dx) := ⟨(RBa11.out.ext Y24.out).c 0, (RBa11.out.ext Y24.out).c 1, (RBa11.out.ext Y24.out).c 2, (RBa11.out.ext Y24.out).c 3, (RBb11.out.ext Y24.out).c 0, (RBb11.out.ext Y24.out).c 1, (RBb11.out.ext Y24.out).c 2, (RBb11.out.ext Y24.out).c 3, (RBu11.out.ext Y24.out).c 0, (RBu11.out.ext Y24.out).c 1, (RBu11.out.ext Y24.out).c 2, (RBu11.out.ext Y24.out).c 3, (RBv11.out.ext Y24.out).c 0, (RBv11.out.ext Y24.out).c 1, (RBv11.out.ext Y24.out).c 2, (RBv11.out.ext Y24.out).c 3, (RBx11.out.ext Y24.out).c 0, (RBx11.out.ext Y24.out).c 1, (RBx11.out.ext Y24.out).c 2, (RBx11.out.ext Y24.out).c 3⟩)
          | ((go_at_call 19); (with_reducible refine (dsign_is ((RFu11.out.ext Y24.out).qd HX.out.1 HX.out.2) HP.out).mono ?_); rintro E25 w25 ⟨rfl, hr25⟩; have X25 := hid (X24.out.trans hr25); have hy25 := hid hr25; have Y25 := hid (Y24.out.trans hr25); clear hr25; have hk11_3 : w25.cell? ⟨g5c, 0, none⟩ = some (.bool b1q) ∧ w25.cell? ⟨g5c, 1, none⟩ = some (.slice A1q n1q c1q) ∧ w25.cell? ⟨g5c, 2, none⟩ = some (.bool e1q) ∧ w25.cell? ⟨g5c, 3, none⟩ = some (.slice B1q m1q d1q) ∧ w25.cell? ⟨g6c, 0, none⟩ = some (.bool b3q) ∧ w25.cell? ⟨g6c, 1, none⟩ = some (.slice A3q n3q c3q) ∧ w25.cell? ⟨g6c, 2, none⟩ = some (.bool e3q) ∧ w25.cell? ⟨g6c, 3, none⟩ = some (.slice B3q m3q d3q) ∧ w25.cell? ⟨g7c, 0, none⟩ = some (.bool b1p) ∧ w25.cell? ⟨g7c, 1, none⟩ = some (.slice A1p n1p c1p) ∧ w25.cell? ⟨g7c, 2, none⟩ = some (.bool e1p) ∧ w25.cell? ⟨g7c, 3, none⟩ = some (.slice B1p m1p d1p) ∧ w25.cell? ⟨g8c, 0, none⟩ = some (.bool b3p) ∧ w25.cell? ⟨g8c, 1, none⟩ = some (.slice A3p n3p c3p) ∧ w25.cell? ⟨g8c, 2, none⟩ = some (.bool e3p) ∧ w25.cell? ⟨g8c, 3, none⟩ = some (.slice B3p m3p d3p) ∧ w25.cell? ⟨w.heap.size, 0, none⟩ = some (.bool sx) ∧ w25.cell? ⟨w.heap.size, 1, none⟩ = some (.slice Px lx kx) ∧ w25.cell? ⟨w.heap.size, 2, none⟩ = some (.bool tx) ∧ w25.cell? ⟨w.heap.size, 3, none⟩ = some (.slice Qx mx dx) := ⟨(RBa11.out.ext Y25.out).c 0, (RBa11.out.ext Y25.out).c 1, (RBa11.out.ext Y25.out).c 2, (RBa11.out.ext Y25.out).c 3, (RBb11.out.ext Y25.out).c 0, (RBb11.out.ext Y25.out).c 1, (RBb11.out.ext Y25.out).c 2, (RBb11.out.ext Y25.out).c 3, (RBu11.out.ext Y25.out).c 0, (RBu11.out.ext Y25.out).c 1, (RBu11.out.ext Y25.out).c 2, (RBu11.out.ext Y25.out).c 3, (RBv11.out.ext Y25.out).c 0, (RBv11.out.ext Y25.out).c 1, (RBv11.out.ext Y25.out).c 2, (RBv11.out.ext Y25.out).c 3, (RBx11.out.ext Y25.out).c 0, (RBx11.out.ext Y25.out).c 1, (RBx11.out.ext Y25.out).c 2, (RBx11.out.ext Y25.out).c 3⟩)
          | ((go_at_call 20); (with_reducible refine (qcmp_is ((RFa11.out.ext Y25.out).rv LX.out) ((RFb11.out.ext Y25.out).rv LY.out) (by omega) HQ.out).mono ?_); rintro E26 w26 ⟨rfl, hr26⟩; have X26 := hid (X25.out.trans hr26); have hy26 := hid hr26; have Y26 := hid (Y25.out.trans hr26); clear hr26; have hk11_4 : w26.cell? ⟨g5c, 0, none⟩ = some (.bool b1q) ∧ w26.cell? ⟨g5c, 1, none⟩ = some (.slice A1q n1q c1q) ∧ w26.cell? ⟨g5c, 2, none⟩ = some (.bool e1q) ∧ w26.cell? ⟨g5c, 3, none⟩ = some (.slice B1q m1q d1q) ∧ w26.cell? ⟨g6c, 0, none⟩ = some (.bool b3q) ∧ w26.cell? ⟨g6c, 1, none⟩ = some (.slice A3q n3q c3q) ∧ w26.cell? ⟨g6c, 2, none⟩ = some (.bool e3q) ∧ w26.cell? ⟨g6c, 3, none⟩ = some (.slice B3q m3q d3q) ∧ w26.cell? ⟨g7c, 0, none⟩ = some (.bool b1p) ∧ w26.cell? ⟨g7c, 1, none⟩ = some (.slice A1p n1p c1p) ∧ w26.cell? ⟨g7c, 2, none⟩ = some (.bool e1p) ∧ w26.cell? ⟨g7c, 3, none⟩ = some (.slice B1p m1p d1p) ∧ w26.cell? ⟨g8c, 0, none⟩ = some (.bool b3p) ∧ w26.cell? ⟨g8c, 1, none⟩ = some (.slice A3p n3p c3p) ∧ w26.cell? ⟨g8c, 2, none⟩ = some (.bool e3p) ∧ w26.cell? ⟨g8c, 3, none⟩ = some (.slice B3p m3p d3p) ∧ w26.cell? ⟨w.heap.size, 0, none⟩ = some (.bool sx) ∧ w26.cell? ⟨w.heap.size, 1, none⟩ = some (.slice Px lx kx) ∧ w26.cell? ⟨w.heap.size, 2, none⟩ = some (.bool tx) ∧ w26.cell? ⟨w.heap.size, 3, none⟩ = some (.slice Qx mx dx) := ⟨(RBa11.out.ext Y26.out).c 0, (RBa11.out.ext Y26.out).c 1, (RBa11.out.ext Y26.out).c 2, (RBa11.out.ext Y26.out).c 3, (RBb11.out.ext Y26.out).c 0, (RBb11.out.ext Y26.out).c 1, (RBb11.out.ext Y26.out).c 2, (RBb11.out.ext Y26.out).c 3, (RBu11.out.ext Y26.out).c 0, (RBu11.out.ext Y26.out).c 1, (RBu11.out.ext Y26.out).c 2, (RBu11.out.ext Y26.out).c 3, (RBv11.out.ext Y26.out).c 0, (RBv11.out.ext Y26.out).c 1, (RBv11.out.ext Y26.out).c 2, (RBv11.out.ext Y26.out).c 3, (RBx11.out.ext Y26.out).c 0, (RBx11.out.ext Y26.out).c 1, (RBx11.out.ext Y26.out).c 2, (RBx11.out.ext Y26.out).c 3⟩)
          | ((go_at_call 13); (with_reducible refine (dsub_v ((RFu11.out.ext Y26.out).qd HX.out.1 HX.out.2) ((RFv11.out.ext Y26.out).qd HY.out.1 HY.out.2) (by omega)).mono ?_); rintro E27 w27 ⟨b27, A27, n27, c27, e27, B27, m27, d27, rfl, o27, hr27⟩; have X27 := hid (X26.out.trans hr27); have hy27 := hid hr27; have Y27 := hid (Y26.out.trans hr27); clear hr27; have O27 := hid o27; clear o27; have hk11_5 : w27.cell? ⟨g5c, 0, none⟩ = some (.bool b1q) ∧ w27.cell? ⟨g5c, 1, none⟩ = some (.slice A1q n1q c1q) ∧ w27.cell? ⟨g5c, 2, none⟩ = some (.bool e1q) ∧ w27.cell? ⟨g5c, 3, none⟩ = some (.slice B1q m1q d1q) ∧ w27.cell? ⟨g6c, 0, none⟩ = some (.bool b3q) ∧ w27.cell? ⟨g6c, 1, none⟩ = some (.slice A3q n3q c3q) ∧ w27.cell? ⟨g6c, 2, none⟩ = some (.bool e3q) ∧ w27.cell? ⟨g6c, 3, none⟩ = some (.slice B3q m3q d3q) ∧ w27.cell? ⟨g7c, 0, none⟩ = some (.bool b1p) ∧ w27.cell? ⟨g7c, 1, none⟩ = some (.slice A1p n1p c1p) ∧ w27.cell? ⟨g7c, 2, none⟩ = some (.bool e1p) ∧ w27.cell? ⟨g7c, 3, none⟩ = some (.slice B1p m1p d1p) ∧ w27.cell? ⟨g8c, 0, none⟩ = some (.bool b3p) ∧ w27.cell? ⟨g8c, 1, none⟩ = some (.slice A3p n3p c3p) ∧ w27.cell? ⟨g8c, 2, none⟩ = some (.bool e3p) ∧ w27.cell? ⟨g8c, 3, none⟩ = some (.slice B3p m3p d3p) ∧ w27.cell? ⟨w.heap.size, 0, none⟩ = some (.bool sx) ∧ w27.cell? ⟨w.heap.size, 1, none⟩ = some (.slice Px lx kx) ∧ w27.cell? ⟨w.heap.size, 2, none⟩ = some (.bool tx) ∧ w27.cell? ⟨w.heap.size, 3, none⟩ = some (.slice Qx mx dx) := ⟨(RBa11.out.ext Y27.out).c 0, (RBa11.out.ext Y27.out).c 1, (RBa11.out.ext Y27.out).c 2, (RBa11.out.ext Y27.out).c 3, (RBb11.out.ext Y27.out).c 0, (RBb11.out.ext Y27.out).c 1, (RBb11.out.ext Y27.out).c 2, (RBb11.out.ext Y27.out).c 3, (RBu11.out.ext Y27.out).c 0, (RBu11.out.ext Y27.out).c 1, (RBu11.out.ext Y27.out).c 2, (RBu11.out.ext Y27.out).c 3, (RBv11.out.ext Y27.out).c 0, (RBv11.out.ext Y27.out).c 1, (RBv11.out.ext Y27.out).c 2, (RBv11.out.ext Y27.out).c 3, (RBx11.out.ext Y27.out).c 0, (RBx11.out.ext Y27.out).c 1, (RBx11.out.ext Y27.out).c 2, (RBx11.out.ext Y27.out).c 3⟩)
          | ((go_at_call 19); (with_reducible refine (dsign_is O27.out HQ.out).mono ?_); rintro E28 w28 ⟨rfl, hr28⟩; have X28 := hid (X27.out.trans hr28); have hy28 := hid hr28; have Y28 := hid (Y27.out.trans hr28); clear hr28; have hk11_6 : w28.cell? ⟨g5c, 0, none⟩ = some (.bool b1q) ∧ w28.cell? ⟨g5c, 1, none⟩ = some (.slice A1q n1q c1q) ∧ w28.cell? ⟨g5c, 2, none⟩ = some (.bool e1q) ∧ w28.cell? ⟨g5c, 3, none⟩ = some (.slice B1q m1q d1q) ∧ w28.cell? ⟨g6c, 0, none⟩ = some (.bool b3q) ∧ w28.cell? ⟨g6c, 1, none⟩ = some (.slice A3q n3q c3q) ∧ w28.cell? ⟨g6c, 2, none⟩ = some (.bool e3q) ∧ w28.cell? ⟨g6c, 3, none⟩ = some (.slice B3q m3q d3q) ∧ w28.cell? ⟨g7c, 0, none⟩ = some (.bool b1p) ∧ w28.cell? ⟨g7c, 1, none⟩ = some (.slice A1p n1p c1p) ∧ w28.cell? ⟨g7c, 2, none⟩ = some (.bool e1p) ∧ w28.cell? ⟨g7c, 3, none⟩ = some (.slice B1p m1p d1p) ∧ w28.cell? ⟨g8c, 0, none⟩ = some (.bool b3p) ∧ w28.cell? ⟨g8c, 1, none⟩ = some (.slice A3p n3p c3p) ∧ w28.cell? ⟨g8c, 2, none⟩ = some (.bool e3p) ∧ w28.cell? ⟨g8c, 3, none⟩ = some (.slice B3p m3p d3p) ∧ w28.cell? ⟨w.heap.size, 0, none⟩ = some (.bool sx) ∧ w28.cell? ⟨w.heap.size, 1, none⟩ = some (.slice Px lx kx) ∧ w28.cell? ⟨w.heap.size, 2, none⟩ = some (.bool tx) ∧ w28.cell? ⟨w.heap.size, 3, none⟩ = some (.slice Qx mx dx) := ⟨(RBa11.out.ext Y28.out).c 0, (RBa11.out.ext Y28.out).c 1, (RBa11.out.ext Y28.out).c 2, (RBa11.out.ext Y28.out).c 3, (RBb11.out.ext Y28.out).c 0, (RBb11.out.ext Y28.out).c 1, (RBb11.out.ext Y28.out).c 2, (RBb11.out.ext Y28.out).c 3, (RBu11.out.ext Y28.out).c 0, (RBu11.out.ext Y28.out).c 1, (RBu11.out.ext Y28.out).c 2, (RBu11.out.ext Y28.out).c 3, (RBv11.out.ext Y28.out).c 0, (RBv11.out.ext Y28.out).c 1, (RBv11.out.ext Y28.out).c 2, (RBv11.out.ext Y28.out).c 3, (RBx11.out.ext Y28.out).c 0, (RBx11.out.ext Y28.out).c 1, (RBx11.out.ext Y28.out).c 2, (RBx11.out.ext Y28.out).c 3⟩)
          | ((go_at_call 21); (with_reducible refine (qmay_l (RFa11.out.ext Y28.out) LX.out (by omega) HE.out).mono ?_); rintro E29 w29 ⟨rfl, hr29⟩; have X29 := hid (X28.out.trans hr29); have hy29 := hid hr29; have Y29 := hid (Y28.out.trans hr29); clear hr29; have hk11_7 : w29.cell? ⟨g5c, 0, none⟩ = some (.bool b1q) ∧ w29.cell? ⟨g5c, 1, none⟩ = some (.slice A1q n1q c1q) ∧ w29.cell? ⟨g5c, 2, none⟩ = some (.bool e1q) ∧ w29.cell? ⟨g5c, 3, none⟩ = some (.slice B1q m1q d1q) ∧ w29.cell? ⟨g6c, 0, none⟩ = some (.bool b3q) ∧ w29.cell? ⟨g6c, 1, none⟩ = some (.slice A3q n3q c3q) ∧ w29.cell? ⟨g6c, 2, none⟩ = some (.bool e3q) ∧ w29.cell? ⟨g6c, 3, none⟩ = some (.slice B3q m3q d3q) ∧ w29.cell? ⟨g7c, 0, none⟩ = some (.bool b1p) ∧ w29.cell? ⟨g7c, 1, none⟩ = some (.slice A1p n1p c1p) ∧ w29.cell? ⟨g7c, 2, none⟩ = some (.bool e1p) ∧ w29.cell? ⟨g7c, 3, none⟩ = some (.slice B1p m1p d1p) ∧ w29.cell? ⟨g8c, 0, none⟩ = some (.bool b3p) ∧ w29.cell? ⟨g8c, 1, none⟩ = some (.slice A3p n3p c3p) ∧ w29.cell? ⟨g8c, 2, none⟩ = some (.bool e3p) ∧ w29.cell? ⟨g8c, 3, none⟩ = some (.slice B3p m3p d3p) ∧ w29.cell? ⟨w.heap.size, 0, none⟩ = some (.bool sx) ∧ w29.cell? ⟨w.heap.size, 1, none⟩ = some (.slice Px lx kx) ∧ w29.cell? ⟨w.heap.size, 2, none⟩ = some (.bool tx) ∧ w29.cell? ⟨w.heap.size, 3, none⟩ = some (.slice Qx mx dx) := ⟨(RBa11.out.ext Y29.out).c 0, (RBa11.out.ext Y29.out).c 1, (RBa11.out.ext Y29.out).c 2, (RBa11.out.ext Y29.out).c 3, (RBb11.out.ext Y29.out).c 0, (RBb11.out.ext Y29.out).c 1, (RBb11.out.ext Y29.out).c 2, (RBb11.out.ext Y29.out).c 3, (RBu11.out.ext Y29.out).c 0, (RBu11.out.ext Y29.out).c 1, (RBu11.out.ext Y29.out).c 2, (RBu11.out.ext Y29.out).c 3, (RBv11.out.ext Y29.out).c 0, (RBv11.out.ext Y29.out).c 1, (RBv11.out.ext Y29.out).c 2, (RBv11.out.ext Y29.out).c 3, (RBx11.out.ext Y29.out).c 0, (RBx11.out.ext Y29.out).c 1, (RBx11.out.ext Y29.out).c 2, (RBx11.out.ext Y29.out).c 3⟩)
          | ((go_at_call 22); (with_reducible refine (dmay_l (Hx.out.ext X29.out) LX.out (by omega) HE.out).mono ?_); rintro E30 w30 ⟨rfl, hr30⟩; have X30 := hid (X29.out.trans hr30); have hy30 := hid hr30; have Y30 := hid (Y29.out.trans hr30); clear hr30; have hk11_8 : w30.cell? ⟨g5c, 0, none⟩ = some (.bool b1q) ∧ w30.cell? ⟨g5c, 1, none⟩ = some (.slice A1q n1q c1q) ∧ w30.cell? ⟨g5c, 2, none⟩ = some (.bool e1q) ∧ w30.cell? ⟨g5c, 3, none⟩ = some (.slice B1q m1q d1q) ∧ w30.cell? ⟨g6c, 0, none⟩ = some (.bool b3q) ∧ w30.cell? ⟨g6c, 1, none⟩ = some (.slice A3q n3q c3q) ∧ w30.cell? ⟨g6c, 2, none⟩ = some (.bool e3q) ∧ w30.cell? ⟨g6c, 3, none⟩ = some (.slice B3q m3q d3q) ∧ w30.cell? ⟨g7c, 0, none⟩ = some (.bool b1p) ∧ w30.cell? ⟨g7c, 1, none⟩ = some (.slice A1p n1p c1p) ∧ w30.cell? ⟨g7c, 2, none⟩ = some (.bool e1p) ∧ w30.cell? ⟨g7c, 3, none⟩ = some (.slice B1p m1p d1p) ∧ w30.cell? ⟨g8c, 0, none⟩ = some (.bool b3p) ∧ w30.cell? ⟨g8c, 1, none⟩ = some (.slice A3p n3p c3p) ∧ w30.cell? ⟨g8c, 2, none⟩ = some (.bool e3p) ∧ w30.cell? ⟨g8c, 3, none⟩ = some (.slice B3p m3p d3p) ∧ w30.cell? ⟨w.heap.size, 0, none⟩ = some (.bool sx) ∧ w30.cell? ⟨w.heap.size, 1, none⟩ = some (.slice Px lx kx) ∧ w30.cell? ⟨w.heap.size, 2, none⟩ = some (.bool tx) ∧ w30.cell? ⟨w.heap.size, 3, none⟩ = some (.slice Qx mx dx) := ⟨(RBa11.out.ext Y30.out).c 0, (RBa11.out.ext Y30.out).c 1, (RBa11.out.ext Y30.out).c 2, (RBa11.out.ext Y30.out).c 3, (RBb11.out.ext Y30.out).c 0, (RBb11.out.ext Y30.out).c 1, (RBb11.out.ext Y30.out).c 2, (RBb11.out.ext Y30.out).c 3, (RBu11.out.ext Y30.out).c 0, (RBu11.out.ext Y30.out).c 1, (RBu11.out.ext Y30.out).c 2, (RBu11.out.ext Y30.out).c 3, (RBv11.out.ext Y30.out).c 0, (RBv11.out.ext Y30.out).c 1, (RBv11.out.ext Y30.out).c 2, (RBv11.out.ext Y30.out).c 3, (RBx11.out.ext Y30.out).c 0, (RBx11.out.ext Y30.out).c 1, (RBx11.out.ext Y30.out).c 2, (RBx11.out.ext Y30.out).c 3⟩)
          | ((go_at_call 23); (with_reducible refine (rtext_qis ((RFa11.out.ext Y30.out).rv LX.out) (by omega) HS.out).mono ?_); rintro E31 w31 ⟨rfl, hr31⟩; have X31 := hid (X30.out.trans hr31); have hy31 := hid hr31; have Y31 := hid (Y30.out.trans hr31); clear hr31; have hk11_9 : w31.cell? ⟨g5c, 0, none⟩ = some (.bool b1q) ∧ w31.cell? ⟨g5c, 1, none⟩ = some (.slice A1q n1q c1q) ∧ w31.cell? ⟨g5c, 2, none⟩ = some (.bool e1q) ∧ w31.cell? ⟨g5c, 3, none⟩ = some (.slice B1q m1q d1q) ∧ w31.cell? ⟨g6c, 0, none⟩ = some (.bool b3q) ∧ w31.cell? ⟨g6c, 1, none⟩ = some (.slice A3q n3q c3q) ∧ w31.cell? ⟨g6c, 2, none⟩ = some (.bool e3q) ∧ w31.cell? ⟨g6c, 3, none⟩ = some (.slice B3q m3q d3q) ∧ w31.cell? ⟨g7c, 0, none⟩ = some (.bool b1p) ∧ w31.cell? ⟨g7c, 1, none⟩ = some (.slice A1p n1p c1p) ∧ w31.cell? ⟨g7c, 2, none⟩ = some (.bool e1p) ∧ w31.cell? ⟨g7c, 3, none⟩ = some (.slice B1p m1p d1p) ∧ w31.cell? ⟨g8c, 0, none⟩ = some (.bool b3p) ∧ w31.cell? ⟨g8c, 1, none⟩ = some (.slice A3p n3p c3p) ∧ w31.cell? ⟨g8c, 2, none⟩ = some (.bool e3p) ∧ w31.cell? ⟨g8c, 3, none⟩ = some (.slice B3p m3p d3p) ∧ w31.cell? ⟨w.heap.size, 0, none⟩ = some (.bool sx) ∧ w31.cell? ⟨w.heap.size, 1, none⟩ = some (.slice Px lx kx) ∧ w31.cell? ⟨w.heap.size, 2, none⟩ = some (.bool tx) ∧ w31.cell? ⟨w.heap.size, 3, none⟩ = some (.slice Qx mx dx) := ⟨(RBa11.out.ext Y31.out).c 0, (RBa11.out.ext Y31.out).c 1, (RBa11.out.ext Y31.out).c 2, (RBa11.out.ext Y31.out).c 3, (RBb11.out.ext Y31.out).c 0, (RBb11.out.ext Y31.out).c 1, (RBb11.out.ext Y31.out).c 2, (RBb11.out.ext Y31.out).c 3, (RBu11.out.ext Y31.out).c 0, (RBu11.out.ext Y31.out).c 1, (RBu11.out.ext Y31.out).c 2, (RBu11.out.ext Y31.out).c 3, (RBv11.out.ext Y31.out).c 0, (RBv11.out.ext Y31.out).c 1, (RBv11.out.ext Y31.out).c 2, (RBv11.out.ext Y31.out).c 3, (RBx11.out.ext Y31.out).c 0, (RBx11.out.ext Y31.out).c 1, (RBx11.out.ext Y31.out).c 2, (RBx11.out.ext Y31.out).c 3⟩)
          | ((go_at_call 24); (with_reducible refine (dtext_is ((RFu11.out.ext Y31.out).qd HX.out.1 HX.out.2) (by omega) (L := 8) (by omega) (((RFa11.out.ext Y31.out).rv LX.out)).bound HS.out).mono ?_); rintro E32 w32 ⟨rfl, hr32⟩; have X32 := hid (X31.out.trans hr32); have hy32 := hid hr32; have Y32 := hid (Y31.out.trans hr32); clear hr32; have hk11_10 : w32.cell? ⟨g5c, 0, none⟩ = some (.bool b1q) ∧ w32.cell? ⟨g5c, 1, none⟩ = some (.slice A1q n1q c1q) ∧ w32.cell? ⟨g5c, 2, none⟩ = some (.bool e1q) ∧ w32.cell? ⟨g5c, 3, none⟩ = some (.slice B1q m1q d1q) ∧ w32.cell? ⟨g6c, 0, none⟩ = some (.bool b3q) ∧ w32.cell? ⟨g6c, 1, none⟩ = some (.slice A3q n3q c3q) ∧ w32.cell? ⟨g6c, 2, none⟩ = some (.bool e3q) ∧ w32.cell? ⟨g6c, 3, none⟩ = some (.slice B3q m3q d3q) ∧ w32.cell? ⟨g7c, 0, none⟩ = some (.bool b1p) ∧ w32.cell? ⟨g7c, 1, none⟩ = some (.slice A1p n1p c1p) ∧ w32.cell? ⟨g7c, 2, none⟩ = some (.bool e1p) ∧ w32.cell? ⟨g7c, 3, none⟩ = some (.slice B1p m1p d1p) ∧ w32.cell? ⟨g8c, 0, none⟩ = some (.bool b3p) ∧ w32.cell? ⟨g8c, 1, none⟩ = some (.slice A3p n3p c3p) ∧ w32.cell? ⟨g8c, 2, none⟩ = some (.bool e3p) ∧ w32.cell? ⟨g8c, 3, none⟩ = some (.slice B3p m3p d3p) ∧ w32.cell? ⟨w.heap.size, 0, none⟩ = some (.bool sx) ∧ w32.cell? ⟨w.heap.size, 1, none⟩ = some (.slice Px lx kx) ∧ w32.cell? ⟨w.heap.size, 2, none⟩ = some (.bool tx) ∧ w32.cell? ⟨w.heap.size, 3, none⟩ = some (.slice Qx mx dx) := ⟨(RBa11.out.ext Y32.out).c 0, (RBa11.out.ext Y32.out).c 1, (RBa11.out.ext Y32.out).c 2, (RBa11.out.ext Y32.out).c 3, (RBb11.out.ext Y32.out).c 0, (RBb11.out.ext Y32.out).c 1, (RBb11.out.ext Y32.out).c 2, (RBb11.out.ext Y32.out).c 3, (RBu11.out.ext Y32.out).c 0, (RBu11.out.ext Y32.out).c 1, (RBu11.out.ext Y32.out).c 2, (RBu11.out.ext Y32.out).c 3, (RBv11.out.ext Y32.out).c 0, (RBv11.out.ext Y32.out).c 1, (RBv11.out.ext Y32.out).c 2, (RBv11.out.ext Y32.out).c 3, (RBx11.out.ext Y32.out).c 0, (RBx11.out.ext Y32.out).c 1, (RBx11.out.ext Y32.out).c 2, (RBx11.out.ext Y32.out).c 3⟩)
          | ((go_at_call 25); (with_reducible refine (rwhole_v (HIZ'.out _ _ _ _ _ _ _ _ _ (RFa11.out.ext Y32.out)) (by omega)).mono ?_); rintro E33 w33 ⟨b33, A33, n33, c33, e33, B33, m33, d33, rfl, o33, hr33⟩; have X33 := hid (X32.out.trans hr33); have hy33 := hid hr33; have Y33 := hid (Y32.out.trans hr33); clear hr33; have O33 := hid (o33.mono X32.out.size); clear o33; have hk11_11 : w33.cell? ⟨g5c, 0, none⟩ = some (.bool b1q) ∧ w33.cell? ⟨g5c, 1, none⟩ = some (.slice A1q n1q c1q) ∧ w33.cell? ⟨g5c, 2, none⟩ = some (.bool e1q) ∧ w33.cell? ⟨g5c, 3, none⟩ = some (.slice B1q m1q d1q) ∧ w33.cell? ⟨g6c, 0, none⟩ = some (.bool b3q) ∧ w33.cell? ⟨g6c, 1, none⟩ = some (.slice A3q n3q c3q) ∧ w33.cell? ⟨g6c, 2, none⟩ = some (.bool e3q) ∧ w33.cell? ⟨g6c, 3, none⟩ = some (.slice B3q m3q d3q) ∧ w33.cell? ⟨g7c, 0, none⟩ = some (.bool b1p) ∧ w33.cell? ⟨g7c, 1, none⟩ = some (.slice A1p n1p c1p) ∧ w33.cell? ⟨g7c, 2, none⟩ = some (.bool e1p) ∧ w33.cell? ⟨g7c, 3, none⟩ = some (.slice B1p m1p d1p) ∧ w33.cell? ⟨g8c, 0, none⟩ = some (.bool b3p) ∧ w33.cell? ⟨g8c, 1, none⟩ = some (.slice A3p n3p c3p) ∧ w33.cell? ⟨g8c, 2, none⟩ = some (.bool e3p) ∧ w33.cell? ⟨g8c, 3, none⟩ = some (.slice B3p m3p d3p) ∧ w33.cell? ⟨w.heap.size, 0, none⟩ = some (.bool sx) ∧ w33.cell? ⟨w.heap.size, 1, none⟩ = some (.slice Px lx kx) ∧ w33.cell? ⟨w.heap.size, 2, none⟩ = some (.bool tx) ∧ w33.cell? ⟨w.heap.size, 3, none⟩ = some (.slice Qx mx dx) := ⟨(RBa11.out.ext Y33.out).c 0, (RBa11.out.ext Y33.out).c 1, (RBa11.out.ext Y33.out).c 2, (RBa11.out.ext Y33.out).c 3, (RBb11.out.ext Y33.out).c 0, (RBb11.out.ext Y33.out).c 1, (RBb11.out.ext Y33.out).c 2, (RBb11.out.ext Y33.out).c 3, (RBu11.out.ext Y33.out).c 0, (RBu11.out.ext Y33.out).c 1, (RBu11.out.ext Y33.out).c 2, (RBu11.out.ext Y33.out).c 3, (RBv11.out.ext Y33.out).c 0, (RBv11.out.ext Y33.out).c 1, (RBv11.out.ext Y33.out).c 2, (RBv11.out.ext Y33.out).c 3, (RBx11.out.ext Y33.out).c 0, (RBx11.out.ext Y33.out).c 1, (RBx11.out.ext Y33.out).c 2, (RBx11.out.ext Y33.out).c 3⟩)
          | ((go_at_call 17); (with_reducible refine (dsmall_p (a := 1) (b := 1) (by omega) (by omega) (by omega) (by omega)).mono ?_); rintro E34 w34 ⟨b34, A34, n34, c34, e34, B34, m34, d34, rfl, o34, hr34⟩; have X34 := hid (X33.out.trans hr34); have hy34 := hid hr34; have Y34 := hid (Y33.out.trans hr34); clear hr34; have O34 := hid o34; clear o34; have hk11_12 : w34.cell? ⟨g5c, 0, none⟩ = some (.bool b1q) ∧ w34.cell? ⟨g5c, 1, none⟩ = some (.slice A1q n1q c1q) ∧ w34.cell? ⟨g5c, 2, none⟩ = some (.bool e1q) ∧ w34.cell? ⟨g5c, 3, none⟩ = some (.slice B1q m1q d1q) ∧ w34.cell? ⟨g6c, 0, none⟩ = some (.bool b3q) ∧ w34.cell? ⟨g6c, 1, none⟩ = some (.slice A3q n3q c3q) ∧ w34.cell? ⟨g6c, 2, none⟩ = some (.bool e3q) ∧ w34.cell? ⟨g6c, 3, none⟩ = some (.slice B3q m3q d3q) ∧ w34.cell? ⟨g7c, 0, none⟩ = some (.bool b1p) ∧ w34.cell? ⟨g7c, 1, none⟩ = some (.slice A1p n1p c1p) ∧ w34.cell? ⟨g7c, 2, none⟩ = some (.bool e1p) ∧ w34.cell? ⟨g7c, 3, none⟩ = some (.slice B1p m1p d1p) ∧ w34.cell? ⟨g8c, 0, none⟩ = some (.bool b3p) ∧ w34.cell? ⟨g8c, 1, none⟩ = some (.slice A3p n3p c3p) ∧ w34.cell? ⟨g8c, 2, none⟩ = some (.bool e3p) ∧ w34.cell? ⟨g8c, 3, none⟩ = some (.slice B3p m3p d3p) ∧ w34.cell? ⟨w.heap.size, 0, none⟩ = some (.bool sx) ∧ w34.cell? ⟨w.heap.size, 1, none⟩ = some (.slice Px lx kx) ∧ w34.cell? ⟨w.heap.size, 2, none⟩ = some (.bool tx) ∧ w34.cell? ⟨w.heap.size, 3, none⟩ = some (.slice Qx mx dx) := ⟨(RBa11.out.ext Y34.out).c 0, (RBa11.out.ext Y34.out).c 1, (RBa11.out.ext Y34.out).c 2, (RBa11.out.ext Y34.out).c 3, (RBb11.out.ext Y34.out).c 0, (RBb11.out.ext Y34.out).c 1, (RBb11.out.ext Y34.out).c 2, (RBb11.out.ext Y34.out).c 3, (RBu11.out.ext Y34.out).c 0, (RBu11.out.ext Y34.out).c 1, (RBu11.out.ext Y34.out).c 2, (RBu11.out.ext Y34.out).c 3, (RBv11.out.ext Y34.out).c 0, (RBv11.out.ext Y34.out).c 1, (RBv11.out.ext Y34.out).c 2, (RBv11.out.ext Y34.out).c 3, (RBx11.out.ext Y34.out).c 0, (RBx11.out.ext Y34.out).c 1, (RBx11.out.ext Y34.out).c 2, (RBx11.out.ext Y34.out).c 3⟩; have fq := fun W => field_q b34 e34 A34 B34 n34 c34 m34 d34 W)
          | ((go_at_call 11); (with_reducible refine (drat_v (Qd.mk (RFu11.out.ext Y34.out).zn (O34.out.zd.weak (by omega)) (by decide) rfl) (by omega)).mono ?_); rintro E35 w35 ⟨b35, A35, n35, c35, e35, B35, m35, d35, rfl, o35, hr35⟩; have X35 := hid (X34.out.trans hr35); have hy35 := hid hr35; have Y35 := hid (Y34.out.trans hr35); clear hr35; have O35 := hid (o35.mono X34.out.size); clear o35; have hk11_13 : w35.cell? ⟨g5c, 0, none⟩ = some (.bool b1q) ∧ w35.cell? ⟨g5c, 1, none⟩ = some (.slice A1q n1q c1q) ∧ w35.cell? ⟨g5c, 2, none⟩ = some (.bool e1q) ∧ w35.cell? ⟨g5c, 3, none⟩ = some (.slice B1q m1q d1q) ∧ w35.cell? ⟨g6c, 0, none⟩ = some (.bool b3q) ∧ w35.cell? ⟨g6c, 1, none⟩ = some (.slice A3q n3q c3q) ∧ w35.cell? ⟨g6c, 2, none⟩ = some (.bool e3q) ∧ w35.cell? ⟨g6c, 3, none⟩ = some (.slice B3q m3q d3q) ∧ w35.cell? ⟨g7c, 0, none⟩ = some (.bool b1p) ∧ w35.cell? ⟨g7c, 1, none⟩ = some (.slice A1p n1p c1p) ∧ w35.cell? ⟨g7c, 2, none⟩ = some (.bool e1p) ∧ w35.cell? ⟨g7c, 3, none⟩ = some (.slice B1p m1p d1p) ∧ w35.cell? ⟨g8c, 0, none⟩ = some (.bool b3p) ∧ w35.cell? ⟨g8c, 1, none⟩ = some (.slice A3p n3p c3p) ∧ w35.cell? ⟨g8c, 2, none⟩ = some (.bool e3p) ∧ w35.cell? ⟨g8c, 3, none⟩ = some (.slice B3p m3p d3p) ∧ w35.cell? ⟨w.heap.size, 0, none⟩ = some (.bool sx) ∧ w35.cell? ⟨w.heap.size, 1, none⟩ = some (.slice Px lx kx) ∧ w35.cell? ⟨w.heap.size, 2, none⟩ = some (.bool tx) ∧ w35.cell? ⟨w.heap.size, 3, none⟩ = some (.slice Qx mx dx) := ⟨(RBa11.out.ext Y35.out).c 0, (RBa11.out.ext Y35.out).c 1, (RBa11.out.ext Y35.out).c 2, (RBa11.out.ext Y35.out).c 3, (RBb11.out.ext Y35.out).c 0, (RBb11.out.ext Y35.out).c 1, (RBb11.out.ext Y35.out).c 2, (RBb11.out.ext Y35.out).c 3, (RBu11.out.ext Y35.out).c 0, (RBu11.out.ext Y35.out).c 1, (RBu11.out.ext Y35.out).c 2, (RBu11.out.ext Y35.out).c 3, (RBv11.out.ext Y35.out).c 0, (RBv11.out.ext Y35.out).c 1, (RBv11.out.ext Y35.out).c 2, (RBv11.out.ext Y35.out).c 3, (RBx11.out.ext Y35.out).c 0, (RBx11.out.ext Y35.out).c 1, (RBx11.out.ext Y35.out).c 2, (RBx11.out.ext Y35.out).c 3⟩)
          | ((go_at_call 8); (with_reducible refine (dsame_v (O33.out.ext (hy34.out.trans hy35.out)) O35.out (by omega) h1.out).mono ?_); rintro E36 w36 ⟨rfl, hr36⟩; have X36 := hid (X35.out.trans hr36); have hy36 := hid hr36; have Y36 := hid (Y35.out.trans hr36); clear hr36; have hk11_14 : w36.cell? ⟨g5c, 0, none⟩ = some (.bool b1q) ∧ w36.cell? ⟨g5c, 1, none⟩ = some (.slice A1q n1q c1q) ∧ w36.cell? ⟨g5c, 2, none⟩ = some (.bool e1q) ∧ w36.cell? ⟨g5c, 3, none⟩ = some (.slice B1q m1q d1q) ∧ w36.cell? ⟨g6c, 0, none⟩ = some (.bool b3q) ∧ w36.cell? ⟨g6c, 1, none⟩ = some (.slice A3q n3q c3q) ∧ w36.cell? ⟨g6c, 2, none⟩ = some (.bool e3q) ∧ w36.cell? ⟨g6c, 3, none⟩ = some (.slice B3q m3q d3q) ∧ w36.cell? ⟨g7c, 0, none⟩ = some (.bool b1p) ∧ w36.cell? ⟨g7c, 1, none⟩ = some (.slice A1p n1p c1p) ∧ w36.cell? ⟨g7c, 2, none⟩ = some (.bool e1p) ∧ w36.cell? ⟨g7c, 3, none⟩ = some (.slice B1p m1p d1p) ∧ w36.cell? ⟨g8c, 0, none⟩ = some (.bool b3p) ∧ w36.cell? ⟨g8c, 1, none⟩ = some (.slice A3p n3p c3p) ∧ w36.cell? ⟨g8c, 2, none⟩ = some (.bool e3p) ∧ w36.cell? ⟨g8c, 3, none⟩ = some (.slice B3p m3p d3p) ∧ w36.cell? ⟨w.heap.size, 0, none⟩ = some (.bool sx) ∧ w36.cell? ⟨w.heap.size, 1, none⟩ = some (.slice Px lx kx) ∧ w36.cell? ⟨w.heap.size, 2, none⟩ = some (.bool tx) ∧ w36.cell? ⟨w.heap.size, 3, none⟩ = some (.slice Qx mx dx) := ⟨(RBa11.out.ext Y36.out).c 0, (RBa11.out.ext Y36.out).c 1, (RBa11.out.ext Y36.out).c 2, (RBa11.out.ext Y36.out).c 3, (RBb11.out.ext Y36.out).c 0, (RBb11.out.ext Y36.out).c 1, (RBb11.out.ext Y36.out).c 2, (RBb11.out.ext Y36.out).c 3, (RBu11.out.ext Y36.out).c 0, (RBu11.out.ext Y36.out).c 1, (RBu11.out.ext Y36.out).c 2, (RBu11.out.ext Y36.out).c 3, (RBv11.out.ext Y36.out).c 0, (RBv11.out.ext Y36.out).c 1, (RBv11.out.ext Y36.out).c 2, (RBv11.out.ext Y36.out).c 3, (RBx11.out.ext Y36.out).c 0, (RBx11.out.ext Y36.out).c 1, (RBx11.out.ext Y36.out).c 2, (RBx11.out.ext Y36.out).c 3⟩))
      clear hk11_0 hk11_1 hk11_2 hk11_3 hk11_4 hk11_5 hk11_6 hk11_7 hk11_8 hk11_9 hk11_10 hk11_11 hk11_12 hk11_13 hk11_14
      go_upto_region 9 with fail
      by_cases hy0 : y = 0
      · skip
        have hv0 : (v == 0) = true := by have h := HV.out; rw [rs_zero.2 hy0] at h; rw [← h]; rfl
        have HY0 := hid hy0
        clear hy0
        as_aux_lemma =>
          obtain ⟨f12_0, f12_1, f12_2, f12_3, f12_4, f12_5, f12_6, f12_7⟩ : w36.cell? ⟨g5c, 0, none⟩ = some (.bool b1q) ∧ w36.cell? ⟨g5c, 1, none⟩ = some (.slice A1q n1q c1q) ∧ w36.cell? ⟨g5c, 2, none⟩ = some (.bool e1q) ∧ w36.cell? ⟨g5c, 3, none⟩ = some (.slice B1q m1q d1q) ∧ w36.cell? ⟨g6c, 0, none⟩ = some (.bool b3q) ∧ w36.cell? ⟨g6c, 1, none⟩ = some (.slice A3q n3q c3q) ∧ w36.cell? ⟨g6c, 2, none⟩ = some (.bool e3q) ∧ w36.cell? ⟨g6c, 3, none⟩ = some (.slice B3q m3q d3q) := ⟨(RBa11.out.ext Y36.out).c 0, (RBa11.out.ext Y36.out).c 1, (RBa11.out.ext Y36.out).c 2, (RBa11.out.ext Y36.out).c 3, (RBb11.out.ext Y36.out).c 0, (RBb11.out.ext Y36.out).c 1, (RBb11.out.ext Y36.out).c 2, (RBb11.out.ext Y36.out).c 3⟩
          go_upto_region 10 with (first
            | ((go_at_call 26); (with_reducible refine (qdiv_zero ((RFa11.out.ext Y36.out).rv LX.out) ((RFb11.out.ext Y36.out).rv LY.out) (by omega) HY0.out).mono ?_); rintro E37 w37 ⟨rfl, hr37⟩; have X37 := hid (X36.out.trans hr37); have hy37 := hid hr37; clear hr37; obtain ⟨f13_0, f13_1, f13_2, f13_3, f13_4, f13_5, f13_6, f13_7⟩ : w37.cell? ⟨g5c, 0, none⟩ = some (.bool b1q) ∧ w37.cell? ⟨g5c, 1, none⟩ = some (.slice A1q n1q c1q) ∧ w37.cell? ⟨g5c, 2, none⟩ = some (.bool e1q) ∧ w37.cell? ⟨g5c, 3, none⟩ = some (.slice B1q m1q d1q) ∧ w37.cell? ⟨g6c, 0, none⟩ = some (.bool b3q) ∧ w37.cell? ⟨g6c, 1, none⟩ = some (.slice A3q n3q c3q) ∧ w37.cell? ⟨g6c, 2, none⟩ = some (.bool e3q) ∧ w37.cell? ⟨g6c, 3, none⟩ = some (.slice B3q m3q d3q) := ⟨(RBa11.out.ext (Y36.out.trans hy37.out)).c 0, (RBa11.out.ext (Y36.out.trans hy37.out)).c 1, (RBa11.out.ext (Y36.out.trans hy37.out)).c 2, (RBa11.out.ext (Y36.out.trans hy37.out)).c 3, (RBb11.out.ext (Y36.out.trans hy37.out)).c 0, (RBb11.out.ext (Y36.out.trans hy37.out)).c 1, (RBb11.out.ext (Y36.out.trans hy37.out)).c 2, (RBb11.out.ext (Y36.out.trans hy37.out)).c 3⟩))
          clear f12_0 f12_1 f12_2 f12_3 f12_4 f12_5 f12_6 f12_7 f13_0 f13_1 f13_2 f13_3 f13_4 f13_5 f13_6 f13_7
          have hy38 := hid ((Ext.refl w37).alloc (.cells #[.bool false, .slice none 0 0, .bool false, .slice none 0 0] 26))
          have Bq_ := (Bk.new w37 26 #[.bool false, .slice none 0 0, .bool false, .slice none 0 0])
          have Bq := hid Bq_
          clear Bq_
          generalize (w37.alloc (.cells #[.bool false, .slice none 0 0, .bool false, .slice none 0 0] 26)) = w38 at *
          have X38 := hid (X37.out.trans hy38.out)
          obtain ⟨f15_0, f15_1, f15_2, f15_3⟩ : w38.cell? ⟨g8c, 0, none⟩ = some (.bool b3p) ∧ w38.cell? ⟨g8c, 1, none⟩ = some (.slice A3p n3p c3p) ∧ w38.cell? ⟨g8c, 2, none⟩ = some (.bool e3p) ∧ w38.cell? ⟨g8c, 3, none⟩ = some (.slice B3p m3p d3p) := ⟨(RBv11.out.ext ((Y36.out.trans hy37.out).trans hy38.out)).c 0, (RBv11.out.ext ((Y36.out.trans hy37.out).trans hy38.out)).c 1, (RBv11.out.ext ((Y36.out.trans hy37.out).trans hy38.out)).c 2, (RBv11.out.ext ((Y36.out.trans hy37.out).trans hy38.out)).c 3⟩
          go_upto_region 11 with (first
            | ((go_at_call 19); (with_reducible refine (dsign_is ((RFv11.out.ext ((Y36.out.trans hy37.out).trans hy38.out)).qd HY.out.1 HY.out.2) HV.out).mono ?_); rintro E39 w39 ⟨rfl, hr39⟩; have X39 := hid (X38.out.trans hr39); have hy39 := hid hr39; clear hr39; obtain ⟨f16_0, f16_1, f16_2, f16_3⟩ : w39.cell? ⟨g8c, 0, none⟩ = some (.bool b3p) ∧ w39.cell? ⟨g8c, 1, none⟩ = some (.slice A3p n3p c3p) ∧ w39.cell? ⟨g8c, 2, none⟩ = some (.bool e3p) ∧ w39.cell? ⟨g8c, 3, none⟩ = some (.slice B3p m3p d3p) := ⟨(RBv11.out.ext (((Y36.out.trans hy37.out).trans hy38.out).trans hy39.out)).c 0, (RBv11.out.ext (((Y36.out.trans hy37.out).trans hy38.out).trans hy39.out)).c 1, (RBv11.out.ext (((Y36.out.trans hy37.out).trans hy38.out).trans hy39.out)).c 2, (RBv11.out.ext (((Y36.out.trans hy37.out).trans hy38.out).trans hy39.out)).c 3⟩))
          clear f15_0 f15_1 f15_2 f15_3 f16_0 f16_1 f16_2 f16_3
          obtain ⟨f17_0, f17_1, f17_2, f17_3, f17_4, f17_5, f17_6, f17_7, f17_8, f17_9, f17_10, f17_11, f17_12, f17_13, f17_14, f17_15, f17_16, f17_17, f17_18, f17_19⟩ : w39.cell? ⟨w37.heap.size, 0, none⟩ = some (.bool false) ∧ w39.cell? ⟨w37.heap.size, 1, none⟩ = some (.slice none 0 0) ∧ w39.cell? ⟨w37.heap.size, 2, none⟩ = some (.bool false) ∧ w39.cell? ⟨w37.heap.size, 3, none⟩ = some (.slice none 0 0) ∧ w39.cell? ⟨g5c, 0, none⟩ = some (.bool b1q) ∧ w39.cell? ⟨g5c, 1, none⟩ = some (.slice A1q n1q c1q) ∧ w39.cell? ⟨g5c, 2, none⟩ = some (.bool e1q) ∧ w39.cell? ⟨g5c, 3, none⟩ = some (.slice B1q m1q d1q) ∧ w39.cell? ⟨g6c, 0, none⟩ = some (.bool b3q) ∧ w39.cell? ⟨g6c, 1, none⟩ = some (.slice A3q n3q c3q) ∧ w39.cell? ⟨g6c, 2, none⟩ = some (.bool e3q) ∧ w39.cell? ⟨g6c, 3, none⟩ = some (.slice B3q m3q d3q) ∧ w39.cell? ⟨w.heap.size, 0, none⟩ = some (.bool sx) ∧ w39.cell? ⟨w.heap.size, 1, none⟩ = some (.slice Px lx kx) ∧ w39.cell? ⟨w.heap.size, 2, none⟩ = some (.bool tx) ∧ w39.cell? ⟨w.heap.size, 3, none⟩ = some (.slice Qx mx dx) ∧ w39.cell? ⟨w.heap.size + 1, 0, none⟩ = some (.bool sy) ∧ w39.cell? ⟨w.heap.size + 1, 1, none⟩ = some (.slice Py ly ky) ∧ w39.cell? ⟨w.heap.size + 1, 2, none⟩ = some (.bool ty) ∧ w39.cell? ⟨w.heap.size + 1, 3, none⟩ = some (.slice Qy my dy) := ⟨(Bq.out.ext hy39.out).c 0, (Bq.out.ext hy39.out).c 1, (Bq.out.ext hy39.out).c 2, (Bq.out.ext hy39.out).c 3, (RBa11.out.ext (((Y36.out.trans hy37.out).trans hy38.out).trans hy39.out)).c 0, (RBa11.out.ext (((Y36.out.trans hy37.out).trans hy38.out).trans hy39.out)).c 1, (RBa11.out.ext (((Y36.out.trans hy37.out).trans hy38.out).trans hy39.out)).c 2, (RBa11.out.ext (((Y36.out.trans hy37.out).trans hy38.out).trans hy39.out)).c 3, (RBb11.out.ext (((Y36.out.trans hy37.out).trans hy38.out).trans hy39.out)).c 0, (RBb11.out.ext (((Y36.out.trans hy37.out).trans hy38.out).trans hy39.out)).c 1, (RBb11.out.ext (((Y36.out.trans hy37.out).trans hy38.out).trans hy39.out)).c 2, (RBb11.out.ext (((Y36.out.trans hy37.out).trans hy38.out).trans hy39.out)).c 3, (RBx11.out.ext (((Y36.out.trans hy37.out).trans hy38.out).trans hy39.out)).c 0, (RBx11.out.ext (((Y36.out.trans hy37.out).trans hy38.out).trans hy39.out)).c 1, (RBx11.out.ext (((Y36.out.trans hy37.out).trans hy38.out).trans hy39.out)).c 2, (RBx11.out.ext (((Y36.out.trans hy37.out).trans hy38.out).trans hy39.out)).c 3, (HByc4.out.ext ((((Y22.out.trans Y36.out).trans hy37.out).trans hy38.out).trans hy39.out)).c 0, (HByc4.out.ext ((((Y22.out.trans Y36.out).trans hy37.out).trans hy38.out).trans hy39.out)).c 1, (HByc4.out.ext ((((Y22.out.trans Y36.out).trans hy37.out).trans hy38.out).trans hy39.out)).c 2, (HByc4.out.ext ((((Y22.out.trans Y36.out).trans hy37.out).trans hy38.out).trans hy39.out)).c 3⟩
          go_wp2_with (first
            | ((go_at_call 8); (with_reducible refine (dsame_l (RFa11.out.ext (((Y36.out.trans hy37.out).trans hy38.out).trans hy39.out)) (Hx.out.ext X39.out) LX.out (by omega)).mono ?_); rintro E40 w40 ⟨rfl, hr40⟩; have X40 := hid (X39.out.trans hr40); have hy40 := hid hr40; clear hr40; obtain ⟨f18_0, f18_1, f18_2, f18_3, f18_4, f18_5, f18_6, f18_7, f18_8, f18_9, f18_10, f18_11, f18_12, f18_13, f18_14, f18_15, f18_16, f18_17, f18_18, f18_19⟩ : w40.cell? ⟨w37.heap.size, 0, none⟩ = some (.bool false) ∧ w40.cell? ⟨w37.heap.size, 1, none⟩ = some (.slice none 0 0) ∧ w40.cell? ⟨w37.heap.size, 2, none⟩ = some (.bool false) ∧ w40.cell? ⟨w37.heap.size, 3, none⟩ = some (.slice none 0 0) ∧ w40.cell? ⟨g5c, 0, none⟩ = some (.bool b1q) ∧ w40.cell? ⟨g5c, 1, none⟩ = some (.slice A1q n1q c1q) ∧ w40.cell? ⟨g5c, 2, none⟩ = some (.bool e1q) ∧ w40.cell? ⟨g5c, 3, none⟩ = some (.slice B1q m1q d1q) ∧ w40.cell? ⟨g6c, 0, none⟩ = some (.bool b3q) ∧ w40.cell? ⟨g6c, 1, none⟩ = some (.slice A3q n3q c3q) ∧ w40.cell? ⟨g6c, 2, none⟩ = some (.bool e3q) ∧ w40.cell? ⟨g6c, 3, none⟩ = some (.slice B3q m3q d3q) ∧ w40.cell? ⟨w.heap.size, 0, none⟩ = some (.bool sx) ∧ w40.cell? ⟨w.heap.size, 1, none⟩ = some (.slice Px lx kx) ∧ w40.cell? ⟨w.heap.size, 2, none⟩ = some (.bool tx) ∧ w40.cell? ⟨w.heap.size, 3, none⟩ = some (.slice Qx mx dx) ∧ w40.cell? ⟨w.heap.size + 1, 0, none⟩ = some (.bool sy) ∧ w40.cell? ⟨w.heap.size + 1, 1, none⟩ = some (.slice Py ly ky) ∧ w40.cell? ⟨w.heap.size + 1, 2, none⟩ = some (.bool ty) ∧ w40.cell? ⟨w.heap.size + 1, 3, none⟩ = some (.slice Qy my dy) := ⟨(Bq.out.ext (hy39.out.trans hy40.out)).c 0, (Bq.out.ext (hy39.out.trans hy40.out)).c 1, (Bq.out.ext (hy39.out.trans hy40.out)).c 2, (Bq.out.ext (hy39.out.trans hy40.out)).c 3, (RBa11.out.ext ((((Y36.out.trans hy37.out).trans hy38.out).trans hy39.out).trans hy40.out)).c 0, (RBa11.out.ext ((((Y36.out.trans hy37.out).trans hy38.out).trans hy39.out).trans hy40.out)).c 1, (RBa11.out.ext ((((Y36.out.trans hy37.out).trans hy38.out).trans hy39.out).trans hy40.out)).c 2, (RBa11.out.ext ((((Y36.out.trans hy37.out).trans hy38.out).trans hy39.out).trans hy40.out)).c 3, (RBb11.out.ext ((((Y36.out.trans hy37.out).trans hy38.out).trans hy39.out).trans hy40.out)).c 0, (RBb11.out.ext ((((Y36.out.trans hy37.out).trans hy38.out).trans hy39.out).trans hy40.out)).c 1, (RBb11.out.ext ((((Y36.out.trans hy37.out).trans hy38.out).trans hy39.out).trans hy40.out)).c 2, (RBb11.out.ext ((((Y36.out.trans hy37.out).trans hy38.out).trans hy39.out).trans hy40.out)).c 3, (RBx11.out.ext ((((Y36.out.trans hy37.out).trans hy38.out).trans hy39.out).trans hy40.out)).c 0, (RBx11.out.ext ((((Y36.out.trans hy37.out).trans hy38.out).trans hy39.out).trans hy40.out)).c 1, (RBx11.out.ext ((((Y36.out.trans hy37.out).trans hy38.out).trans hy39.out).trans hy40.out)).c 2, (RBx11.out.ext ((((Y36.out.trans hy37.out).trans hy38.out).trans hy39.out).trans hy40.out)).c 3, (HByc4.out.ext (((((Y22.out.trans Y36.out).trans hy37.out).trans hy38.out).trans hy39.out).trans hy40.out)).c 0, (HByc4.out.ext (((((Y22.out.trans Y36.out).trans hy37.out).trans hy38.out).trans hy39.out).trans hy40.out)).c 1, (HByc4.out.ext (((((Y22.out.trans Y36.out).trans hy37.out).trans hy38.out).trans hy39.out).trans hy40.out)).c 2, (HByc4.out.ext (((((Y22.out.trans Y36.out).trans hy37.out).trans hy38.out).trans hy39.out).trans hy40.out)).c 3⟩)
            | ((go_at_call 8); (with_reducible refine (dsame_l (RFb11.out.ext ((((Y36.out.trans hy37.out).trans hy38.out).trans hy39.out).trans hy40.out)) (Hy.out.ext X40.out) LY.out (by omega)).mono ?_); rintro E41 w41 ⟨rfl, hr41⟩; have X41 := hid (X40.out.trans hr41); have hy41 := hid hr41; clear hr41; obtain ⟨f19_0, f19_1, f19_2, f19_3, f19_4, f19_5, f19_6, f19_7, f19_8, f19_9, f19_10, f19_11, f19_12, f19_13, f19_14, f19_15, f19_16, f19_17, f19_18, f19_19⟩ : w41.cell? ⟨w37.heap.size, 0, none⟩ = some (.bool false) ∧ w41.cell? ⟨w37.heap.size, 1, none⟩ = some (.slice none 0 0) ∧ w41.cell? ⟨w37.heap.size, 2, none⟩ = some (.bool false) ∧ w41.cell? ⟨w37.heap.size, 3, none⟩ = some (.slice none 0 0) ∧ w41.cell? ⟨g5c, 0, none⟩ = some (.bool b1q) ∧ w41.cell? ⟨g5c, 1, none⟩ = some (.slice A1q n1q c1q) ∧ w41.cell? ⟨g5c, 2, none⟩ = some (.bool e1q) ∧ w41.cell? ⟨g5c, 3, none⟩ = some (.slice B1q m1q d1q) ∧ w41.cell? ⟨g6c, 0, none⟩ = some (.bool b3q) ∧ w41.cell? ⟨g6c, 1, none⟩ = some (.slice A3q n3q c3q) ∧ w41.cell? ⟨g6c, 2, none⟩ = some (.bool e3q) ∧ w41.cell? ⟨g6c, 3, none⟩ = some (.slice B3q m3q d3q) ∧ w41.cell? ⟨w.heap.size, 0, none⟩ = some (.bool sx) ∧ w41.cell? ⟨w.heap.size, 1, none⟩ = some (.slice Px lx kx) ∧ w41.cell? ⟨w.heap.size, 2, none⟩ = some (.bool tx) ∧ w41.cell? ⟨w.heap.size, 3, none⟩ = some (.slice Qx mx dx) ∧ w41.cell? ⟨w.heap.size + 1, 0, none⟩ = some (.bool sy) ∧ w41.cell? ⟨w.heap.size + 1, 1, none⟩ = some (.slice Py ly ky) ∧ w41.cell? ⟨w.heap.size + 1, 2, none⟩ = some (.bool ty) ∧ w41.cell? ⟨w.heap.size + 1, 3, none⟩ = some (.slice Qy my dy) := ⟨(Bq.out.ext ((hy39.out.trans hy40.out).trans hy41.out)).c 0, (Bq.out.ext ((hy39.out.trans hy40.out).trans hy41.out)).c 1, (Bq.out.ext ((hy39.out.trans hy40.out).trans hy41.out)).c 2, (Bq.out.ext ((hy39.out.trans hy40.out).trans hy41.out)).c 3, (RBa11.out.ext (((((Y36.out.trans hy37.out).trans hy38.out).trans hy39.out).trans hy40.out).trans hy41.out)).c 0, (RBa11.out.ext (((((Y36.out.trans hy37.out).trans hy38.out).trans hy39.out).trans hy40.out).trans hy41.out)).c 1, (RBa11.out.ext (((((Y36.out.trans hy37.out).trans hy38.out).trans hy39.out).trans hy40.out).trans hy41.out)).c 2, (RBa11.out.ext (((((Y36.out.trans hy37.out).trans hy38.out).trans hy39.out).trans hy40.out).trans hy41.out)).c 3, (RBb11.out.ext (((((Y36.out.trans hy37.out).trans hy38.out).trans hy39.out).trans hy40.out).trans hy41.out)).c 0, (RBb11.out.ext (((((Y36.out.trans hy37.out).trans hy38.out).trans hy39.out).trans hy40.out).trans hy41.out)).c 1, (RBb11.out.ext (((((Y36.out.trans hy37.out).trans hy38.out).trans hy39.out).trans hy40.out).trans hy41.out)).c 2, (RBb11.out.ext (((((Y36.out.trans hy37.out).trans hy38.out).trans hy39.out).trans hy40.out).trans hy41.out)).c 3, (RBx11.out.ext (((((Y36.out.trans hy37.out).trans hy38.out).trans hy39.out).trans hy40.out).trans hy41.out)).c 0, (RBx11.out.ext (((((Y36.out.trans hy37.out).trans hy38.out).trans hy39.out).trans hy40.out).trans hy41.out)).c 1, (RBx11.out.ext (((((Y36.out.trans hy37.out).trans hy38.out).trans hy39.out).trans hy40.out).trans hy41.out)).c 2, (RBx11.out.ext (((((Y36.out.trans hy37.out).trans hy38.out).trans hy39.out).trans hy40.out).trans hy41.out)).c 3, (HByc4.out.ext ((((((Y22.out.trans Y36.out).trans hy37.out).trans hy38.out).trans hy39.out).trans hy40.out).trans hy41.out)).c 0, (HByc4.out.ext ((((((Y22.out.trans Y36.out).trans hy37.out).trans hy38.out).trans hy39.out).trans hy40.out).trans hy41.out)).c 1, (HByc4.out.ext ((((((Y22.out.trans Y36.out).trans hy37.out).trans hy38.out).trans hy39.out).trans hy40.out).trans hy41.out)).c 2, (HByc4.out.ext ((((((Y22.out.trans Y36.out).trans hy37.out).trans hy38.out).trans hy39.out).trans hy40.out).trans hy41.out)).c 3⟩)
            | ((go_at_call 5); (with_reducible refine (known_any6).mono ?_); rintro E42 w42 ⟨rfl, hr42⟩; have X42 := hid (X41.out.trans hr42); have hy42 := hid hr42; clear hr42; obtain ⟨f20_0, f20_1, f20_2, f20_3, f20_4, f20_5, f20_6, f20_7, f20_8, f20_9, f20_10, f20_11, f20_12, f20_13, f20_14, f20_15, f20_16, f20_17, f20_18, f20_19⟩ : w42.cell? ⟨w37.heap.size, 0, none⟩ = some (.bool false) ∧ w42.cell? ⟨w37.heap.size, 1, none⟩ = some (.slice none 0 0) ∧ w42.cell? ⟨w37.heap.size, 2, none⟩ = some (.bool false) ∧ w42.cell? ⟨w37.heap.size, 3, none⟩ = some (.slice none 0 0) ∧ w42.cell? ⟨g5c, 0, none⟩ = some (.bool b1q) ∧ w42.cell? ⟨g5c, 1, none⟩ = some (.slice A1q n1q c1q) ∧ w42.cell? ⟨g5c, 2, none⟩ = some (.bool e1q) ∧ w42.cell? ⟨g5c, 3, none⟩ = some (.slice B1q m1q d1q) ∧ w42.cell? ⟨g6c, 0, none⟩ = some (.bool b3q) ∧ w42.cell? ⟨g6c, 1, none⟩ = some (.slice A3q n3q c3q) ∧ w42.cell? ⟨g6c, 2, none⟩ = some (.bool e3q) ∧ w42.cell? ⟨g6c, 3, none⟩ = some (.slice B3q m3q d3q) ∧ w42.cell? ⟨w.heap.size, 0, none⟩ = some (.bool sx) ∧ w42.cell? ⟨w.heap.size, 1, none⟩ = some (.slice Px lx kx) ∧ w42.cell? ⟨w.heap.size, 2, none⟩ = some (.bool tx) ∧ w42.cell? ⟨w.heap.size, 3, none⟩ = some (.slice Qx mx dx) ∧ w42.cell? ⟨w.heap.size + 1, 0, none⟩ = some (.bool sy) ∧ w42.cell? ⟨w.heap.size + 1, 1, none⟩ = some (.slice Py ly ky) ∧ w42.cell? ⟨w.heap.size + 1, 2, none⟩ = some (.bool ty) ∧ w42.cell? ⟨w.heap.size + 1, 3, none⟩ = some (.slice Qy my dy) := ⟨(Bq.out.ext (((hy39.out.trans hy40.out).trans hy41.out).trans hy42.out)).c 0, (Bq.out.ext (((hy39.out.trans hy40.out).trans hy41.out).trans hy42.out)).c 1, (Bq.out.ext (((hy39.out.trans hy40.out).trans hy41.out).trans hy42.out)).c 2, (Bq.out.ext (((hy39.out.trans hy40.out).trans hy41.out).trans hy42.out)).c 3, (RBa11.out.ext ((((((Y36.out.trans hy37.out).trans hy38.out).trans hy39.out).trans hy40.out).trans hy41.out).trans hy42.out)).c 0, (RBa11.out.ext ((((((Y36.out.trans hy37.out).trans hy38.out).trans hy39.out).trans hy40.out).trans hy41.out).trans hy42.out)).c 1, (RBa11.out.ext ((((((Y36.out.trans hy37.out).trans hy38.out).trans hy39.out).trans hy40.out).trans hy41.out).trans hy42.out)).c 2, (RBa11.out.ext ((((((Y36.out.trans hy37.out).trans hy38.out).trans hy39.out).trans hy40.out).trans hy41.out).trans hy42.out)).c 3, (RBb11.out.ext ((((((Y36.out.trans hy37.out).trans hy38.out).trans hy39.out).trans hy40.out).trans hy41.out).trans hy42.out)).c 0, (RBb11.out.ext ((((((Y36.out.trans hy37.out).trans hy38.out).trans hy39.out).trans hy40.out).trans hy41.out).trans hy42.out)).c 1, (RBb11.out.ext ((((((Y36.out.trans hy37.out).trans hy38.out).trans hy39.out).trans hy40.out).trans hy41.out).trans hy42.out)).c 2, (RBb11.out.ext ((((((Y36.out.trans hy37.out).trans hy38.out).trans hy39.out).trans hy40.out).trans hy41.out).trans hy42.out)).c 3, (RBx11.out.ext ((((((Y36.out.trans hy37.out).trans hy38.out).trans hy39.out).trans hy40.out).trans hy41.out).trans hy42.out)).c 0, (RBx11.out.ext ((((((Y36.out.trans hy37.out).trans hy38.out).trans hy39.out).trans hy40.out).trans hy41.out).trans hy42.out)).c 1, (RBx11.out.ext ((((((Y36.out.trans hy37.out).trans hy38.out).trans hy39.out).trans hy40.out).trans hy41.out).trans hy42.out)).c 2, (RBx11.out.ext ((((((Y36.out.trans hy37.out).trans hy38.out).trans hy39.out).trans hy40.out).trans hy41.out).trans hy42.out)).c 3, (HByc4.out.ext (((((((Y22.out.trans Y36.out).trans hy37.out).trans hy38.out).trans hy39.out).trans hy40.out).trans hy41.out).trans hy42.out)).c 0, (HByc4.out.ext (((((((Y22.out.trans Y36.out).trans hy37.out).trans hy38.out).trans hy39.out).trans hy40.out).trans hy41.out).trans hy42.out)).c 1, (HByc4.out.ext (((((((Y22.out.trans Y36.out).trans hy37.out).trans hy38.out).trans hy39.out).trans hy40.out).trans hy41.out).trans hy42.out)).c 2, (HByc4.out.ext (((((((Y22.out.trans Y36.out).trans hy37.out).trans hy38.out).trans hy39.out).trans hy40.out).trans hy41.out).trans hy42.out)).c 3⟩))
          clear f17_0 f17_1 f17_2 f17_3 f17_4 f17_5 f17_6 f17_7 f17_8 f17_9 f17_10 f17_11 f17_12 f17_13 f17_14 f17_15 f17_16 f17_17 f17_18 f17_19 f18_0 f18_1 f18_2 f18_3 f18_4 f18_5 f18_6 f18_7 f18_8 f18_9 f18_10 f18_11 f18_12 f18_13 f18_14 f18_15 f18_16 f18_17 f18_18 f18_19 f19_0 f19_1 f19_2 f19_3 f19_4 f19_5 f19_6 f19_7 f19_8 f19_9 f19_10 f19_11 f19_12 f19_13 f19_14 f19_15 f19_16 f19_17 f19_18 f19_19 f20_0 f20_1 f20_2 f20_3 f20_4 f20_5 f20_6 f20_7 f20_8 f20_9 f20_10 f20_11 f20_12 f20_13 f20_14 f20_15 f20_16 f20_17 f20_18 f20_19
          go_ret
          exact ⟨rfl, X42.out⟩
      · skip
        have hv0 : (v == 0) = false := beq_eq_false_iff_ne.2 fun h => hy0 (rs_zero.1 (HV.out.trans h))
        have HY0 := hid hy0
        clear hy0
        as_aux_lemma =>
          obtain ⟨f12_0, f12_1, f12_2, f12_3, f12_4, f12_5, f12_6, f12_7⟩ : w36.cell? ⟨g5c, 0, none⟩ = some (.bool b1q) ∧ w36.cell? ⟨g5c, 1, none⟩ = some (.slice A1q n1q c1q) ∧ w36.cell? ⟨g5c, 2, none⟩ = some (.bool e1q) ∧ w36.cell? ⟨g5c, 3, none⟩ = some (.slice B1q m1q d1q) ∧ w36.cell? ⟨g6c, 0, none⟩ = some (.bool b3q) ∧ w36.cell? ⟨g6c, 1, none⟩ = some (.slice A3q n3q c3q) ∧ w36.cell? ⟨g6c, 2, none⟩ = some (.bool e3q) ∧ w36.cell? ⟨g6c, 3, none⟩ = some (.slice B3q m3q d3q) := ⟨(RBa11.out.ext Y36.out).c 0, (RBa11.out.ext Y36.out).c 1, (RBa11.out.ext Y36.out).c 2, (RBa11.out.ext Y36.out).c 3, (RBb11.out.ext Y36.out).c 0, (RBb11.out.ext Y36.out).c 1, (RBb11.out.ext Y36.out).c 2, (RBb11.out.ext Y36.out).c 3⟩
          go_upto_region 10 with (first
            | ((go_at_call 26); (with_reducible refine (qdiv_v ((RFa11.out.ext Y36.out).rv LX.out) ((RFb11.out.ext Y36.out).rv LY.out) (by omega) HY0.out).mono ?_); rintro E37 w37 ⟨b37, A37, n37, c37, e37, B37, m37, d37, rfl, o37, hr37⟩; have X37 := hid (X36.out.trans hr37); have hy37 := hid hr37; clear hr37; have O37 := hid (o37.mono X36.out.size); clear o37; obtain ⟨f13_0, f13_1, f13_2, f13_3, f13_4, f13_5, f13_6, f13_7⟩ : w37.cell? ⟨g5c, 0, none⟩ = some (.bool b1q) ∧ w37.cell? ⟨g5c, 1, none⟩ = some (.slice A1q n1q c1q) ∧ w37.cell? ⟨g5c, 2, none⟩ = some (.bool e1q) ∧ w37.cell? ⟨g5c, 3, none⟩ = some (.slice B1q m1q d1q) ∧ w37.cell? ⟨g6c, 0, none⟩ = some (.bool b3q) ∧ w37.cell? ⟨g6c, 1, none⟩ = some (.slice A3q n3q c3q) ∧ w37.cell? ⟨g6c, 2, none⟩ = some (.bool e3q) ∧ w37.cell? ⟨g6c, 3, none⟩ = some (.slice B3q m3q d3q) := ⟨(RBa11.out.ext (Y36.out.trans hy37.out)).c 0, (RBa11.out.ext (Y36.out.trans hy37.out)).c 1, (RBa11.out.ext (Y36.out.trans hy37.out)).c 2, (RBa11.out.ext (Y36.out.trans hy37.out)).c 3, (RBb11.out.ext (Y36.out.trans hy37.out)).c 0, (RBb11.out.ext (Y36.out.trans hy37.out)).c 1, (RBb11.out.ext (Y36.out.trans hy37.out)).c 2, (RBb11.out.ext (Y36.out.trans hy37.out)).c 3⟩))
          clear f12_0 f12_1 f12_2 f12_3 f12_4 f12_5 f12_6 f12_7 f13_0 f13_1 f13_2 f13_3 f13_4 f13_5 f13_6 f13_7
          have hy38 := hid ((Ext.refl w37).alloc (.cells #[.bool b37, .slice A37 n37 c37, .bool e37, .slice B37 m37 d37] 26))
          have Bq_ := (Bk.new w37 26 #[.bool b37, .slice A37 n37 c37, .bool e37, .slice B37 m37 d37])
          have Bq := hid Bq_
          clear Bq_
          generalize (w37.alloc (.cells #[.bool b37, .slice A37 n37 c37, .bool e37, .slice B37 m37 d37] 26)) = w38 at *
          have X38 := hid (X37.out.trans hy38.out)
          obtain ⟨f15_0, f15_1, f15_2, f15_3⟩ : w38.cell? ⟨g8c, 0, none⟩ = some (.bool b3p) ∧ w38.cell? ⟨g8c, 1, none⟩ = some (.slice A3p n3p c3p) ∧ w38.cell? ⟨g8c, 2, none⟩ = some (.bool e3p) ∧ w38.cell? ⟨g8c, 3, none⟩ = some (.slice B3p m3p d3p) := ⟨(RBv11.out.ext ((Y36.out.trans hy37.out).trans hy38.out)).c 0, (RBv11.out.ext ((Y36.out.trans hy37.out).trans hy38.out)).c 1, (RBv11.out.ext ((Y36.out.trans hy37.out).trans hy38.out)).c 2, (RBv11.out.ext ((Y36.out.trans hy37.out).trans hy38.out)).c 3⟩
          go_upto_region 12 with (first
            | ((go_at_call 19); (with_reducible refine (dsign_is ((RFv11.out.ext ((Y36.out.trans hy37.out).trans hy38.out)).qd HY.out.1 HY.out.2) HV.out).mono ?_); rintro E39 w39 ⟨rfl, hr39⟩; have X39 := hid (X38.out.trans hr39); have hy39 := hid hr39; clear hr39; obtain ⟨f16_0, f16_1, f16_2, f16_3⟩ : w39.cell? ⟨g8c, 0, none⟩ = some (.bool b3p) ∧ w39.cell? ⟨g8c, 1, none⟩ = some (.slice A3p n3p c3p) ∧ w39.cell? ⟨g8c, 2, none⟩ = some (.bool e3p) ∧ w39.cell? ⟨g8c, 3, none⟩ = some (.slice B3p m3p d3p) := ⟨(RBv11.out.ext (((Y36.out.trans hy37.out).trans hy38.out).trans hy39.out)).c 0, (RBv11.out.ext (((Y36.out.trans hy37.out).trans hy38.out).trans hy39.out)).c 1, (RBv11.out.ext (((Y36.out.trans hy37.out).trans hy38.out).trans hy39.out)).c 2, (RBv11.out.ext (((Y36.out.trans hy37.out).trans hy38.out).trans hy39.out)).c 3⟩))
          clear f15_0 f15_1 f15_2 f15_3 f16_0 f16_1 f16_2 f16_3
          have RBu17 := hid (RBu11.out.ext (((Y36.out.trans hy37.out).trans hy38.out).trans hy39.out))
          have RBv17 := hid (RBv11.out.ext (((Y36.out.trans hy37.out).trans hy38.out).trans hy39.out))
          have RBa17 := hid (RBa11.out.ext (((Y36.out.trans hy37.out).trans hy38.out).trans hy39.out))
          have RBb17 := hid (RBb11.out.ext (((Y36.out.trans hy37.out).trans hy38.out).trans hy39.out))
          have RBx17 := hid (RBx11.out.ext (((Y36.out.trans hy37.out).trans hy38.out).trans hy39.out))
          have RBy17 := hid (HByc4.out.ext ((((Y22.out.trans Y36.out).trans hy37.out).trans hy38.out).trans hy39.out))
          have RFa17 := hid (RFa11.out.ext (((Y36.out.trans hy37.out).trans hy38.out).trans hy39.out))
          have RFb17 := hid (RFb11.out.ext (((Y36.out.trans hy37.out).trans hy38.out).trans hy39.out))
          have RFu17 := hid (RFu11.out.ext (((Y36.out.trans hy37.out).trans hy38.out).trans hy39.out))
          have RFv17 := hid (RFv11.out.ext (((Y36.out.trans hy37.out).trans hy38.out).trans hy39.out))
          have RFq17 := hid (O37.out.ext (hy38.out.trans hy39.out))
          have hk17_0 : w39.cell? ⟨w37.heap.size, 0, none⟩ = some (.bool b37) ∧ w39.cell? ⟨w37.heap.size, 1, none⟩ = some (.slice A37 n37 c37) ∧ w39.cell? ⟨w37.heap.size, 2, none⟩ = some (.bool e37) ∧ w39.cell? ⟨w37.heap.size, 3, none⟩ = some (.slice B37 m37 d37) ∧ w39.cell? ⟨g7c, 0, none⟩ = some (.bool b1p) ∧ w39.cell? ⟨g7c, 1, none⟩ = some (.slice A1p n1p c1p) ∧ w39.cell? ⟨g7c, 2, none⟩ = some (.bool e1p) ∧ w39.cell? ⟨g7c, 3, none⟩ = some (.slice B1p m1p d1p) ∧ w39.cell? ⟨g8c, 0, none⟩ = some (.bool b3p) ∧ w39.cell? ⟨g8c, 1, none⟩ = some (.slice A3p n3p c3p) ∧ w39.cell? ⟨g8c, 2, none⟩ = some (.bool e3p) ∧ w39.cell? ⟨g8c, 3, none⟩ = some (.slice B3p m3p d3p) ∧ w39.cell? ⟨g5c, 0, none⟩ = some (.bool b1q) ∧ w39.cell? ⟨g5c, 1, none⟩ = some (.slice A1q n1q c1q) ∧ w39.cell? ⟨g5c, 2, none⟩ = some (.bool e1q) ∧ w39.cell? ⟨g5c, 3, none⟩ = some (.slice B1q m1q d1q) ∧ w39.cell? ⟨g6c, 0, none⟩ = some (.bool b3q) ∧ w39.cell? ⟨g6c, 1, none⟩ = some (.slice A3q n3q c3q) ∧ w39.cell? ⟨g6c, 2, none⟩ = some (.bool e3q) ∧ w39.cell? ⟨g6c, 3, none⟩ = some (.slice B3q m3q d3q) ∧ w39.cell? ⟨w.heap.size, 0, none⟩ = some (.bool sx) ∧ w39.cell? ⟨w.heap.size, 1, none⟩ = some (.slice Px lx kx) ∧ w39.cell? ⟨w.heap.size, 2, none⟩ = some (.bool tx) ∧ w39.cell? ⟨w.heap.size, 3, none⟩ = some (.slice Qx mx dx) ∧ w39.cell? ⟨w.heap.size + 1, 0, none⟩ = some (.bool sy) ∧ w39.cell? ⟨w.heap.size + 1, 1, none⟩ = some (.slice Py ly ky) ∧ w39.cell? ⟨w.heap.size + 1, 2, none⟩ = some (.bool ty) ∧ w39.cell? ⟨w.heap.size + 1, 3, none⟩ = some (.slice Qy my dy) := ⟨(Bq.out.ext hy39.out).c 0, (Bq.out.ext hy39.out).c 1, (Bq.out.ext hy39.out).c 2, (Bq.out.ext hy39.out).c 3, RBu17.out.c 0, RBu17.out.c 1, RBu17.out.c 2, RBu17.out.c 3, RBv17.out.c 0, RBv17.out.c 1, RBv17.out.c 2, RBv17.out.c 3, RBa17.out.c 0, RBa17.out.c 1, RBa17.out.c 2, RBa17.out.c 3, RBb17.out.c 0, RBb17.out.c 1, RBb17.out.c 2, RBb17.out.c 3, RBx17.out.c 0, RBx17.out.c 1, RBx17.out.c 2, RBx17.out.c 3, RBy17.out.c 0, RBy17.out.c 1, RBy17.out.c 2, RBy17.out.c 3⟩
          have hk17_1 : w39.drew.cell? ⟨w37.heap.size, 0, none⟩ = some (.bool b37) ∧ w39.drew.cell? ⟨w37.heap.size, 1, none⟩ = some (.slice A37 n37 c37) ∧ w39.drew.cell? ⟨w37.heap.size, 2, none⟩ = some (.bool e37) ∧ w39.drew.cell? ⟨w37.heap.size, 3, none⟩ = some (.slice B37 m37 d37) ∧ w39.drew.cell? ⟨g7c, 0, none⟩ = some (.bool b1p) ∧ w39.drew.cell? ⟨g7c, 1, none⟩ = some (.slice A1p n1p c1p) ∧ w39.drew.cell? ⟨g7c, 2, none⟩ = some (.bool e1p) ∧ w39.drew.cell? ⟨g7c, 3, none⟩ = some (.slice B1p m1p d1p) ∧ w39.drew.cell? ⟨g8c, 0, none⟩ = some (.bool b3p) ∧ w39.drew.cell? ⟨g8c, 1, none⟩ = some (.slice A3p n3p c3p) ∧ w39.drew.cell? ⟨g8c, 2, none⟩ = some (.bool e3p) ∧ w39.drew.cell? ⟨g8c, 3, none⟩ = some (.slice B3p m3p d3p) ∧ w39.drew.cell? ⟨g5c, 0, none⟩ = some (.bool b1q) ∧ w39.drew.cell? ⟨g5c, 1, none⟩ = some (.slice A1q n1q c1q) ∧ w39.drew.cell? ⟨g5c, 2, none⟩ = some (.bool e1q) ∧ w39.drew.cell? ⟨g5c, 3, none⟩ = some (.slice B1q m1q d1q) ∧ w39.drew.cell? ⟨g6c, 0, none⟩ = some (.bool b3q) ∧ w39.drew.cell? ⟨g6c, 1, none⟩ = some (.slice A3q n3q c3q) ∧ w39.drew.cell? ⟨g6c, 2, none⟩ = some (.bool e3q) ∧ w39.drew.cell? ⟨g6c, 3, none⟩ = some (.slice B3q m3q d3q) ∧ w39.drew.cell? ⟨w.heap.size, 0, none⟩ = some (.bool sx) ∧ w39.drew.cell? ⟨w.heap.size, 1, none⟩ = some (.slice Px lx kx) ∧ w39.drew.cell? ⟨w.heap.size, 2, none⟩ = some (.bool tx) ∧ w39.drew.cell? ⟨w.heap.size, 3, none⟩ = some (.slice Qx mx dx) ∧ w39.drew.cell? ⟨w.heap.size + 1, 0, none⟩ = some (.bool sy) ∧ w39.drew.cell? ⟨w.heap.size + 1, 1, none⟩ = some (.slice Py ly ky) ∧ w39.drew.cell? ⟨w.heap.size + 1, 2, none⟩ = some (.bool ty) ∧ w39.drew.cell? ⟨w.heap.size + 1, 3, none⟩ = some (.slice Qy my dy) := ⟨(Bq.out.ext (hy39.out.trans (Ext.refl _).drew)).c 0, (Bq.out.ext (hy39.out.trans (Ext.refl _).drew)).c 1, (Bq.out.ext (hy39.out.trans (Ext.refl _).drew)).c 2, (Bq.out.ext (hy39.out.trans (Ext.refl _).drew)).c 3, (RBu17.out.ext (Ext.refl _).drew).c 0, (RBu17.out.ext (Ext.refl _).drew).c 1, (RBu17.out.ext (Ext.refl _).drew).c 2, (RBu17.out.ext (Ext.refl _).drew).c 3, (RBv17.out.ext (Ext.refl _).drew).c 0, (RBv17.out.ext (Ext.refl _).drew).c 1, (RBv17.out.ext (Ext.refl _).drew).c 2, (RBv17.out.ext (Ext.refl _).drew).c 3, (RBa17.out.ext (Ext.refl _).drew).c 0, (RBa17.out.ext (Ext.refl _).drew).c 1, (RBa17.out.ext (Ext.refl _).drew).c 2, (RBa17.out.ext (Ext.refl _).drew).c 3, (RBb17.out.ext (Ext.refl _).drew).c 0, (RBb17.out.ext (Ext.refl _).drew).c 1, (RBb17.out.ext (Ext.refl _).drew).c 2, (RBb17.out.ext (Ext.refl _).drew).c 3, (RBx17.out.ext (Ext.refl _).drew).c 0, (RBx17.out.ext (Ext.refl _).drew).c 1, (RBx17.out.ext (Ext.refl _).drew).c 2, (RBx17.out.ext (Ext.refl _).drew).c 3, (RBy17.out.ext (Ext.refl _).drew).c 0, (RBy17.out.ext (Ext.refl _).drew).c 1, (RBy17.out.ext (Ext.refl _).drew).c 2, (RBy17.out.ext (Ext.refl _).drew).c 3⟩
          go_region_held3 (fun w' => w'.cell? ⟨w37.heap.size, 0, none⟩ = some (.bool b37) ∧ w'.cell? ⟨w37.heap.size, 1, none⟩ = some (.slice A37 n37 c37) ∧ w'.cell? ⟨w37.heap.size, 2, none⟩ = some (.bool e37) ∧ w'.cell? ⟨w37.heap.size, 3, none⟩ = some (.slice B37 m37 d37) ∧ w'.cell? ⟨g7c, 0, none⟩ = some (.bool b1p) ∧ w'.cell? ⟨g7c, 1, none⟩ = some (.slice A1p n1p c1p) ∧ w'.cell? ⟨g7c, 2, none⟩ = some (.bool e1p) ∧ w'.cell? ⟨g7c, 3, none⟩ = some (.slice B1p m1p d1p) ∧ w'.cell? ⟨g8c, 0, none⟩ = some (.bool b3p) ∧ w'.cell? ⟨g8c, 1, none⟩ = some (.slice A3p n3p c3p) ∧ w'.cell? ⟨g8c, 2, none⟩ = some (.bool e3p) ∧ w'.cell? ⟨g8c, 3, none⟩ = some (.slice B3p m3p d3p) ∧ w'.cell? ⟨g5c, 0, none⟩ = some (.bool b1q) ∧ w'.cell? ⟨g5c, 1, none⟩ = some (.slice A1q n1q c1q) ∧ w'.cell? ⟨g5c, 2, none⟩ = some (.bool e1q) ∧ w'.cell? ⟨g5c, 3, none⟩ = some (.slice B1q m1q d1q) ∧ w'.cell? ⟨g6c, 0, none⟩ = some (.bool b3q) ∧ w'.cell? ⟨g6c, 1, none⟩ = some (.slice A3q n3q c3q) ∧ w'.cell? ⟨g6c, 2, none⟩ = some (.bool e3q) ∧ w'.cell? ⟨g6c, 3, none⟩ = some (.slice B3q m3q d3q) ∧ w'.cell? ⟨w.heap.size, 0, none⟩ = some (.bool sx) ∧ w'.cell? ⟨w.heap.size, 1, none⟩ = some (.slice Px lx kx) ∧ w'.cell? ⟨w.heap.size, 2, none⟩ = some (.bool tx) ∧ w'.cell? ⟨w.heap.size, 3, none⟩ = some (.slice Qx mx dx) ∧ w'.cell? ⟨w.heap.size + 1, 0, none⟩ = some (.bool sy) ∧ w'.cell? ⟨w.heap.size + 1, 1, none⟩ = some (.slice Py ly ky) ∧ w'.cell? ⟨w.heap.size + 1, 2, none⟩ = some (.bool ty) ∧ w'.cell? ⟨w.heap.size + 1, 3, none⟩ = some (.slice Qy my dy))
            (first | (with_reducible exact hk17_0) | (with_reducible exact hk17_1) | (with_reducible exact hk17_2) | (with_reducible exact hk17_3) | (with_reducible exact hk17_4) | (with_reducible exact hk17_5) | (with_reducible exact hk17_6) | (with_reducible exact hk17_7))
            (first
              | ((go_at_call 27); (with_reducible refine (ddiv_v ((RFu17.out.ext (Ext.refl _).drew).qd HX.out.1 HX.out.2) ((RFv17.out.ext (Ext.refl _).drew).qd HY.out.1 HY.out.2) HY0.out (by omega)).mono ?_); rintro E41 w41 ⟨b41, A41, n41, c41, e41, B41, m41, d41, rfl, o41, hr41⟩; have X41 := hid ((X39.out.trans (Ext.refl _).drew).trans hr41); have hy41 := hid hr41; have Y41 := hid ((Ext.refl _).drew.trans hr41); clear hr41; have O41 := hid o41; clear o41; have hk17_2 : w41.cell? ⟨w37.heap.size, 0, none⟩ = some (.bool b37) ∧ w41.cell? ⟨w37.heap.size, 1, none⟩ = some (.slice A37 n37 c37) ∧ w41.cell? ⟨w37.heap.size, 2, none⟩ = some (.bool e37) ∧ w41.cell? ⟨w37.heap.size, 3, none⟩ = some (.slice B37 m37 d37) ∧ w41.cell? ⟨g7c, 0, none⟩ = some (.bool b1p) ∧ w41.cell? ⟨g7c, 1, none⟩ = some (.slice A1p n1p c1p) ∧ w41.cell? ⟨g7c, 2, none⟩ = some (.bool e1p) ∧ w41.cell? ⟨g7c, 3, none⟩ = some (.slice B1p m1p d1p) ∧ w41.cell? ⟨g8c, 0, none⟩ = some (.bool b3p) ∧ w41.cell? ⟨g8c, 1, none⟩ = some (.slice A3p n3p c3p) ∧ w41.cell? ⟨g8c, 2, none⟩ = some (.bool e3p) ∧ w41.cell? ⟨g8c, 3, none⟩ = some (.slice B3p m3p d3p) ∧ w41.cell? ⟨g5c, 0, none⟩ = some (.bool b1q) ∧ w41.cell? ⟨g5c, 1, none⟩ = some (.slice A1q n1q c1q) ∧ w41.cell? ⟨g5c, 2, none⟩ = some (.bool e1q) ∧ w41.cell? ⟨g5c, 3, none⟩ = some (.slice B1q m1q d1q) ∧ w41.cell? ⟨g6c, 0, none⟩ = some (.bool b3q) ∧ w41.cell? ⟨g6c, 1, none⟩ = some (.slice A3q n3q c3q) ∧ w41.cell? ⟨g6c, 2, none⟩ = some (.bool e3q) ∧ w41.cell? ⟨g6c, 3, none⟩ = some (.slice B3q m3q d3q) ∧ w41.cell? ⟨w.heap.size, 0, none⟩ = some (.bool sx) ∧ w41.cell? ⟨w.heap.size, 1, none⟩ = some (.slice Px lx kx) ∧ w41.cell? ⟨w.heap.size, 2, none⟩ = some (.bool tx) ∧ w41.cell? ⟨w.heap.size, 3, none⟩ = some (.slice Qx mx dx) ∧ w41.cell? ⟨w.heap.size + 1, 0, none⟩ = some (.bool sy) ∧ w41.cell? ⟨w.heap.size + 1, 1, none⟩ = some (.slice Py ly ky) ∧ w41.cell? ⟨w.heap.size + 1, 2, none⟩ = some (.bool ty) ∧ w41.cell? ⟨w.heap.size + 1, 3, none⟩ = some (.slice Qy my dy) := ⟨(Bq.out.ext (hy39.out.trans Y41.out)).c 0, (Bq.out.ext (hy39.out.trans Y41.out)).c 1, (Bq.out.ext (hy39.out.trans Y41.out)).c 2, (Bq.out.ext (hy39.out.trans Y41.out)).c 3, (RBu17.out.ext Y41.out).c 0, (RBu17.out.ext Y41.out).c 1, (RBu17.out.ext Y41.out).c 2, (RBu17.out.ext Y41.out).c 3, (RBv17.out.ext Y41.out).c 0, (RBv17.out.ext Y41.out).c 1, (RBv17.out.ext Y41.out).c 2, (RBv17.out.ext Y41.out).c 3, (RBa17.out.ext Y41.out).c 0, (RBa17.out.ext Y41.out).c 1, (RBa17.out.ext Y41.out).c 2, (RBa17.out.ext Y41.out).c 3, (RBb17.out.ext Y41.out).c 0, (RBb17.out.ext Y41.out).c 1, (RBb17.out.ext Y41.out).c 2, (RBb17.out.ext Y41.out).c 3, (RBx17.out.ext Y41.out).c 0, (RBx17.out.ext Y41.out).c 1, (RBx17.out.ext Y41.out).c 2, (RBx17.out.ext Y41.out).c 3, (RBy17.out.ext Y41.out).c 0, (RBy17.out.ext Y41.out).c 1, (RBy17.out.ext Y41.out).c 2, (RBy17.out.ext Y41.out).c 3⟩)
              | ((go_at_call 11); (with_reducible refine (drat_v O41.out (by omega)).mono ?_); rintro E42 w42 ⟨b42, A42, n42, c42, e42, B42, m42, d42, rfl, o42, hr42⟩; have X42 := hid (X41.out.trans hr42); have hy42 := hid hr42; have Y42 := hid (Y41.out.trans hr42); clear hr42; have O42 := hid (o42.mono X41.out.size); clear o42; have hk17_3 : w42.cell? ⟨w37.heap.size, 0, none⟩ = some (.bool b37) ∧ w42.cell? ⟨w37.heap.size, 1, none⟩ = some (.slice A37 n37 c37) ∧ w42.cell? ⟨w37.heap.size, 2, none⟩ = some (.bool e37) ∧ w42.cell? ⟨w37.heap.size, 3, none⟩ = some (.slice B37 m37 d37) ∧ w42.cell? ⟨g7c, 0, none⟩ = some (.bool b1p) ∧ w42.cell? ⟨g7c, 1, none⟩ = some (.slice A1p n1p c1p) ∧ w42.cell? ⟨g7c, 2, none⟩ = some (.bool e1p) ∧ w42.cell? ⟨g7c, 3, none⟩ = some (.slice B1p m1p d1p) ∧ w42.cell? ⟨g8c, 0, none⟩ = some (.bool b3p) ∧ w42.cell? ⟨g8c, 1, none⟩ = some (.slice A3p n3p c3p) ∧ w42.cell? ⟨g8c, 2, none⟩ = some (.bool e3p) ∧ w42.cell? ⟨g8c, 3, none⟩ = some (.slice B3p m3p d3p) ∧ w42.cell? ⟨g5c, 0, none⟩ = some (.bool b1q) ∧ w42.cell? ⟨g5c, 1, none⟩ = some (.slice A1q n1q c1q) ∧ w42.cell? ⟨g5c, 2, none⟩ = some (.bool e1q) ∧ w42.cell? ⟨g5c, 3, none⟩ = some (.slice B1q m1q d1q) ∧ w42.cell? ⟨g6c, 0, none⟩ = some (.bool b3q) ∧ w42.cell? ⟨g6c, 1, none⟩ = some (.slice A3q n3q c3q) ∧ w42.cell? ⟨g6c, 2, none⟩ = some (.bool e3q) ∧ w42.cell? ⟨g6c, 3, none⟩ = some (.slice B3q m3q d3q) ∧ w42.cell? ⟨w.heap.size, 0, none⟩ = some (.bool sx) ∧ w42.cell? ⟨w.heap.size, 1, none⟩ = some (.slice Px lx kx) ∧ w42.cell? ⟨w.heap.size, 2, none⟩ = some (.bool tx) ∧ w42.cell? ⟨w.heap.size, 3, none⟩ = some (.slice Qx mx dx) ∧ w42.cell? ⟨w.heap.size + 1, 0, none⟩ = some (.bool sy) ∧ w42.cell? ⟨w.heap.size + 1, 1, none⟩ = some (.slice Py ly ky) ∧ w42.cell? ⟨w.heap.size + 1, 2, none⟩ = some (.bool ty) ∧ w42.cell? ⟨w.heap.size + 1, 3, none⟩ = some (.slice Qy my dy) := ⟨(Bq.out.ext (hy39.out.trans Y42.out)).c 0, (Bq.out.ext (hy39.out.trans Y42.out)).c 1, (Bq.out.ext (hy39.out.trans Y42.out)).c 2, (Bq.out.ext (hy39.out.trans Y42.out)).c 3, (RBu17.out.ext Y42.out).c 0, (RBu17.out.ext Y42.out).c 1, (RBu17.out.ext Y42.out).c 2, (RBu17.out.ext Y42.out).c 3, (RBv17.out.ext Y42.out).c 0, (RBv17.out.ext Y42.out).c 1, (RBv17.out.ext Y42.out).c 2, (RBv17.out.ext Y42.out).c 3, (RBa17.out.ext Y42.out).c 0, (RBa17.out.ext Y42.out).c 1, (RBa17.out.ext Y42.out).c 2, (RBa17.out.ext Y42.out).c 3, (RBb17.out.ext Y42.out).c 0, (RBb17.out.ext Y42.out).c 1, (RBb17.out.ext Y42.out).c 2, (RBb17.out.ext Y42.out).c 3, (RBx17.out.ext Y42.out).c 0, (RBx17.out.ext Y42.out).c 1, (RBx17.out.ext Y42.out).c 2, (RBx17.out.ext Y42.out).c 3, (RBy17.out.ext Y42.out).c 0, (RBy17.out.ext Y42.out).c 1, (RBy17.out.ext Y42.out).c 2, (RBy17.out.ext Y42.out).c 3⟩)
              | ((go_at_call 8); (with_reducible refine (dsame_v (RFq17.out.ext Y42.out) O42.out (by omega) rfl).mono ?_); rintro E43 w43 ⟨rfl, hr43⟩; have X43 := hid (X42.out.trans hr43); have hy43 := hid hr43; have Y43 := hid (Y42.out.trans hr43); clear hr43; have hk17_4 : w43.cell? ⟨w37.heap.size, 0, none⟩ = some (.bool b37) ∧ w43.cell? ⟨w37.heap.size, 1, none⟩ = some (.slice A37 n37 c37) ∧ w43.cell? ⟨w37.heap.size, 2, none⟩ = some (.bool e37) ∧ w43.cell? ⟨w37.heap.size, 3, none⟩ = some (.slice B37 m37 d37) ∧ w43.cell? ⟨g7c, 0, none⟩ = some (.bool b1p) ∧ w43.cell? ⟨g7c, 1, none⟩ = some (.slice A1p n1p c1p) ∧ w43.cell? ⟨g7c, 2, none⟩ = some (.bool e1p) ∧ w43.cell? ⟨g7c, 3, none⟩ = some (.slice B1p m1p d1p) ∧ w43.cell? ⟨g8c, 0, none⟩ = some (.bool b3p) ∧ w43.cell? ⟨g8c, 1, none⟩ = some (.slice A3p n3p c3p) ∧ w43.cell? ⟨g8c, 2, none⟩ = some (.bool e3p) ∧ w43.cell? ⟨g8c, 3, none⟩ = some (.slice B3p m3p d3p) ∧ w43.cell? ⟨g5c, 0, none⟩ = some (.bool b1q) ∧ w43.cell? ⟨g5c, 1, none⟩ = some (.slice A1q n1q c1q) ∧ w43.cell? ⟨g5c, 2, none⟩ = some (.bool e1q) ∧ w43.cell? ⟨g5c, 3, none⟩ = some (.slice B1q m1q d1q) ∧ w43.cell? ⟨g6c, 0, none⟩ = some (.bool b3q) ∧ w43.cell? ⟨g6c, 1, none⟩ = some (.slice A3q n3q c3q) ∧ w43.cell? ⟨g6c, 2, none⟩ = some (.bool e3q) ∧ w43.cell? ⟨g6c, 3, none⟩ = some (.slice B3q m3q d3q) ∧ w43.cell? ⟨w.heap.size, 0, none⟩ = some (.bool sx) ∧ w43.cell? ⟨w.heap.size, 1, none⟩ = some (.slice Px lx kx) ∧ w43.cell? ⟨w.heap.size, 2, none⟩ = some (.bool tx) ∧ w43.cell? ⟨w.heap.size, 3, none⟩ = some (.slice Qx mx dx) ∧ w43.cell? ⟨w.heap.size + 1, 0, none⟩ = some (.bool sy) ∧ w43.cell? ⟨w.heap.size + 1, 1, none⟩ = some (.slice Py ly ky) ∧ w43.cell? ⟨w.heap.size + 1, 2, none⟩ = some (.bool ty) ∧ w43.cell? ⟨w.heap.size + 1, 3, none⟩ = some (.slice Qy my dy) := ⟨(Bq.out.ext (hy39.out.trans Y43.out)).c 0, (Bq.out.ext (hy39.out.trans Y43.out)).c 1, (Bq.out.ext (hy39.out.trans Y43.out)).c 2, (Bq.out.ext (hy39.out.trans Y43.out)).c 3, (RBu17.out.ext Y43.out).c 0, (RBu17.out.ext Y43.out).c 1, (RBu17.out.ext Y43.out).c 2, (RBu17.out.ext Y43.out).c 3, (RBv17.out.ext Y43.out).c 0, (RBv17.out.ext Y43.out).c 1, (RBv17.out.ext Y43.out).c 2, (RBv17.out.ext Y43.out).c 3, (RBa17.out.ext Y43.out).c 0, (RBa17.out.ext Y43.out).c 1, (RBa17.out.ext Y43.out).c 2, (RBa17.out.ext Y43.out).c 3, (RBb17.out.ext Y43.out).c 0, (RBb17.out.ext Y43.out).c 1, (RBb17.out.ext Y43.out).c 2, (RBb17.out.ext Y43.out).c 3, (RBx17.out.ext Y43.out).c 0, (RBx17.out.ext Y43.out).c 1, (RBx17.out.ext Y43.out).c 2, (RBx17.out.ext Y43.out).c 3, (RBy17.out.ext Y43.out).c 0, (RBy17.out.ext Y43.out).c 1, (RBy17.out.ext Y43.out).c 2, (RBy17.out.ext Y43.out).c 3⟩)
              | ((go_at_call 8); (with_reducible refine (dsame_l (RFa17.out.ext Y43.out) (Hx.out.ext X43.out) LX.out (by omega)).mono ?_); rintro E44 w44 ⟨rfl, hr44⟩; have X44 := hid (X43.out.trans hr44); have hy44 := hid hr44; have Y44 := hid (Y43.out.trans hr44); clear hr44; have hk17_5 : w44.cell? ⟨w37.heap.size, 0, none⟩ = some (.bool b37) ∧ w44.cell? ⟨w37.heap.size, 1, none⟩ = some (.slice A37 n37 c37) ∧ w44.cell? ⟨w37.heap.size, 2, none⟩ = some (.bool e37) ∧ w44.cell? ⟨w37.heap.size, 3, none⟩ = some (.slice B37 m37 d37) ∧ w44.cell? ⟨g7c, 0, none⟩ = some (.bool b1p) ∧ w44.cell? ⟨g7c, 1, none⟩ = some (.slice A1p n1p c1p) ∧ w44.cell? ⟨g7c, 2, none⟩ = some (.bool e1p) ∧ w44.cell? ⟨g7c, 3, none⟩ = some (.slice B1p m1p d1p) ∧ w44.cell? ⟨g8c, 0, none⟩ = some (.bool b3p) ∧ w44.cell? ⟨g8c, 1, none⟩ = some (.slice A3p n3p c3p) ∧ w44.cell? ⟨g8c, 2, none⟩ = some (.bool e3p) ∧ w44.cell? ⟨g8c, 3, none⟩ = some (.slice B3p m3p d3p) ∧ w44.cell? ⟨g5c, 0, none⟩ = some (.bool b1q) ∧ w44.cell? ⟨g5c, 1, none⟩ = some (.slice A1q n1q c1q) ∧ w44.cell? ⟨g5c, 2, none⟩ = some (.bool e1q) ∧ w44.cell? ⟨g5c, 3, none⟩ = some (.slice B1q m1q d1q) ∧ w44.cell? ⟨g6c, 0, none⟩ = some (.bool b3q) ∧ w44.cell? ⟨g6c, 1, none⟩ = some (.slice A3q n3q c3q) ∧ w44.cell? ⟨g6c, 2, none⟩ = some (.bool e3q) ∧ w44.cell? ⟨g6c, 3, none⟩ = some (.slice B3q m3q d3q) ∧ w44.cell? ⟨w.heap.size, 0, none⟩ = some (.bool sx) ∧ w44.cell? ⟨w.heap.size, 1, none⟩ = some (.slice Px lx kx) ∧ w44.cell? ⟨w.heap.size, 2, none⟩ = some (.bool tx) ∧ w44.cell? ⟨w.heap.size, 3, none⟩ = some (.slice Qx mx dx) ∧ w44.cell? ⟨w.heap.size + 1, 0, none⟩ = some (.bool sy) ∧ w44.cell? ⟨w.heap.size + 1, 1, none⟩ = some (.slice Py ly ky) ∧ w44.cell? ⟨w.heap.size + 1, 2, none⟩ = some (.bool ty) ∧ w44.cell? ⟨w.heap.size + 1, 3, none⟩ = some (.slice Qy my dy) := ⟨(Bq.out.ext (hy39.out.trans Y44.out)).c 0, (Bq.out.ext (hy39.out.trans Y44.out)).c 1, (Bq.out.ext (hy39.out.trans Y44.out)).c 2, (Bq.out.ext (hy39.out.trans Y44.out)).c 3, (RBu17.out.ext Y44.out).c 0, (RBu17.out.ext Y44.out).c 1, (RBu17.out.ext Y44.out).c 2, (RBu17.out.ext Y44.out).c 3, (RBv17.out.ext Y44.out).c 0, (RBv17.out.ext Y44.out).c 1, (RBv17.out.ext Y44.out).c 2, (RBv17.out.ext Y44.out).c 3, (RBa17.out.ext Y44.out).c 0, (RBa17.out.ext Y44.out).c 1, (RBa17.out.ext Y44.out).c 2, (RBa17.out.ext Y44.out).c 3, (RBb17.out.ext Y44.out).c 0, (RBb17.out.ext Y44.out).c 1, (RBb17.out.ext Y44.out).c 2, (RBb17.out.ext Y44.out).c 3, (RBx17.out.ext Y44.out).c 0, (RBx17.out.ext Y44.out).c 1, (RBx17.out.ext Y44.out).c 2, (RBx17.out.ext Y44.out).c 3, (RBy17.out.ext Y44.out).c 0, (RBy17.out.ext Y44.out).c 1, (RBy17.out.ext Y44.out).c 2, (RBy17.out.ext Y44.out).c 3⟩)
              | ((go_at_call 8); (with_reducible refine (dsame_l (RFb17.out.ext Y44.out) (Hy.out.ext X44.out) LY.out (by omega)).mono ?_); rintro E45 w45 ⟨rfl, hr45⟩; have X45 := hid (X44.out.trans hr45); have hy45 := hid hr45; have Y45 := hid (Y44.out.trans hr45); clear hr45; have hk17_6 : w45.cell? ⟨w37.heap.size, 0, none⟩ = some (.bool b37) ∧ w45.cell? ⟨w37.heap.size, 1, none⟩ = some (.slice A37 n37 c37) ∧ w45.cell? ⟨w37.heap.size, 2, none⟩ = some (.bool e37) ∧ w45.cell? ⟨w37.heap.size, 3, none⟩ = some (.slice B37 m37 d37) ∧ w45.cell? ⟨g7c, 0, none⟩ = some (.bool b1p) ∧ w45.cell? ⟨g7c, 1, none⟩ = some (.slice A1p n1p c1p) ∧ w45.cell? ⟨g7c, 2, none⟩ = some (.bool e1p) ∧ w45.cell? ⟨g7c, 3, none⟩ = some (.slice B1p m1p d1p) ∧ w45.cell? ⟨g8c, 0, none⟩ = some (.bool b3p) ∧ w45.cell? ⟨g8c, 1, none⟩ = some (.slice A3p n3p c3p) ∧ w45.cell? ⟨g8c, 2, none⟩ = some (.bool e3p) ∧ w45.cell? ⟨g8c, 3, none⟩ = some (.slice B3p m3p d3p) ∧ w45.cell? ⟨g5c, 0, none⟩ = some (.bool b1q) ∧ w45.cell? ⟨g5c, 1, none⟩ = some (.slice A1q n1q c1q) ∧ w45.cell? ⟨g5c, 2, none⟩ = some (.bool e1q) ∧ w45.cell? ⟨g5c, 3, none⟩ = some (.slice B1q m1q d1q) ∧ w45.cell? ⟨g6c, 0, none⟩ = some (.bool b3q) ∧ w45.cell? ⟨g6c, 1, none⟩ = some (.slice A3q n3q c3q) ∧ w45.cell? ⟨g6c, 2, none⟩ = some (.bool e3q) ∧ w45.cell? ⟨g6c, 3, none⟩ = some (.slice B3q m3q d3q) ∧ w45.cell? ⟨w.heap.size, 0, none⟩ = some (.bool sx) ∧ w45.cell? ⟨w.heap.size, 1, none⟩ = some (.slice Px lx kx) ∧ w45.cell? ⟨w.heap.size, 2, none⟩ = some (.bool tx) ∧ w45.cell? ⟨w.heap.size, 3, none⟩ = some (.slice Qx mx dx) ∧ w45.cell? ⟨w.heap.size + 1, 0, none⟩ = some (.bool sy) ∧ w45.cell? ⟨w.heap.size + 1, 1, none⟩ = some (.slice Py ly ky) ∧ w45.cell? ⟨w.heap.size + 1, 2, none⟩ = some (.bool ty) ∧ w45.cell? ⟨w.heap.size + 1, 3, none⟩ = some (.slice Qy my dy) := ⟨(Bq.out.ext (hy39.out.trans Y45.out)).c 0, (Bq.out.ext (hy39.out.trans Y45.out)).c 1, (Bq.out.ext (hy39.out.trans Y45.out)).c 2, (Bq.out.ext (hy39.out.trans Y45.out)).c 3, (RBu17.out.ext Y45.out).c 0, (RBu17.out.ext Y45.out).c 1, (RBu17.out.ext Y45.out).c 2, (RBu17.out.ext Y45.out).c 3, (RBv17.out.ext Y45.out).c 0, (RBv17.out.ext Y45.out).c 1, (RBv17.out.ext Y45.out).c 2, (RBv17.out.ext Y45.out).c 3, (RBa17.out.ext Y45.out).c 0, (RBa17.out.ext Y45.out).c 1, (RBa17.out.ext Y45.out).c 2, (RBa17.out.ext Y45.out).c 3, (RBb17.out.ext Y45.out).c 0, (RBb17.out.ext Y45.out).c 1, (RBb17.out.ext Y45.out).c 2, (RBb17.out.ext Y45.out).c 3, (RBx17.out.ext Y45.out).c 0, (RBx17.out.ext Y45.out).c 1, (RBx17.out.ext Y45.out).c 2, (RBx17.out.ext Y45.out).c 3, (RBy17.out.ext Y45.out).c 0, (RBy17.out.ext Y45.out).c 1, (RBy17.out.ext Y45.out).c 2, (RBy17.out.ext Y45.out).c 3⟩)
              | ((go_at_call 5); (with_reducible refine (known_any6).mono ?_); rintro E46 w46 ⟨rfl, hr46⟩; have X46 := hid (X45.out.trans hr46); have hy46 := hid hr46; have Y46 := hid (Y45.out.trans hr46); clear hr46; have hk17_7 : w46.cell? ⟨w37.heap.size, 0, none⟩ = some (.bool b37) ∧ w46.cell? ⟨w37.heap.size, 1, none⟩ = some (.slice A37 n37 c37) ∧ w46.cell? ⟨w37.heap.size, 2, none⟩ = some (.bool e37) ∧ w46.cell? ⟨w37.heap.size, 3, none⟩ = some (.slice B37 m37 d37) ∧ w46.cell? ⟨g7c, 0, none⟩ = some (.bool b1p) ∧ w46.cell? ⟨g7c, 1, none⟩ = some (.slice A1p n1p c1p) ∧ w46.cell? ⟨g7c, 2, none⟩ = some (.bool e1p) ∧ w46.cell? ⟨g7c, 3, none⟩ = some (.slice B1p m1p d1p) ∧ w46.cell? ⟨g8c, 0, none⟩ = some (.bool b3p) ∧ w46.cell? ⟨g8c, 1, none⟩ = some (.slice A3p n3p c3p) ∧ w46.cell? ⟨g8c, 2, none⟩ = some (.bool e3p) ∧ w46.cell? ⟨g8c, 3, none⟩ = some (.slice B3p m3p d3p) ∧ w46.cell? ⟨g5c, 0, none⟩ = some (.bool b1q) ∧ w46.cell? ⟨g5c, 1, none⟩ = some (.slice A1q n1q c1q) ∧ w46.cell? ⟨g5c, 2, none⟩ = some (.bool e1q) ∧ w46.cell? ⟨g5c, 3, none⟩ = some (.slice B1q m1q d1q) ∧ w46.cell? ⟨g6c, 0, none⟩ = some (.bool b3q) ∧ w46.cell? ⟨g6c, 1, none⟩ = some (.slice A3q n3q c3q) ∧ w46.cell? ⟨g6c, 2, none⟩ = some (.bool e3q) ∧ w46.cell? ⟨g6c, 3, none⟩ = some (.slice B3q m3q d3q) ∧ w46.cell? ⟨w.heap.size, 0, none⟩ = some (.bool sx) ∧ w46.cell? ⟨w.heap.size, 1, none⟩ = some (.slice Px lx kx) ∧ w46.cell? ⟨w.heap.size, 2, none⟩ = some (.bool tx) ∧ w46.cell? ⟨w.heap.size, 3, none⟩ = some (.slice Qx mx dx) ∧ w46.cell? ⟨w.heap.size + 1, 0, none⟩ = some (.bool sy) ∧ w46.cell? ⟨w.heap.size + 1, 1, none⟩ = some (.slice Py ly ky) ∧ w46.cell? ⟨w.heap.size + 1, 2, none⟩ = some (.bool ty) ∧ w46.cell? ⟨w.heap.size + 1, 3, none⟩ = some (.slice Qy my dy) := ⟨(Bq.out.ext (hy39.out.trans Y46.out)).c 0, (Bq.out.ext (hy39.out.trans Y46.out)).c 1, (Bq.out.ext (hy39.out.trans Y46.out)).c 2, (Bq.out.ext (hy39.out.trans Y46.out)).c 3, (RBu17.out.ext Y46.out).c 0, (RBu17.out.ext Y46.out).c 1, (RBu17.out.ext Y46.out).c 2, (RBu17.out.ext Y46.out).c 3, (RBv17.out.ext Y46.out).c 0, (RBv17.out.ext Y46.out).c 1, (RBv17.out.ext Y46.out).c 2, (RBv17.out.ext Y46.out).c 3, (RBa17.out.ext Y46.out).c 0, (RBa17.out.ext Y46.out).c 1, (RBa17.out.ext Y46.out).c 2, (RBa17.out.ext Y46.out).c 3, (RBb17.out.ext Y46.out).c 0, (RBb17.out.ext Y46.out).c 1, (RBb17.out.ext Y46.out).c 2, (RBb17.out.ext Y46.out).c 3, (RBx17.out.ext Y46.out).c 0, (RBx17.out.ext Y46.out).c 1, (RBx17.out.ext Y46.out).c 2, (RBx17.out.ext Y46.out).c 3, (RBy17.out.ext Y46.out).c 0, (RBy17.out.ext Y46.out).c 1, (RBy17.out.ext Y46.out).c 2, (RBy17.out.ext Y46.out).c 3⟩))
          clear hk17_0 hk17_1 hk17_2 hk17_3 hk17_4 hk17_5 hk17_6 hk17_7
          go_wp2_with fail
          go_ret
          exact ⟨rfl, X46.out⟩


end Go.Proofs.YtikkibpjchmajaaGreat

