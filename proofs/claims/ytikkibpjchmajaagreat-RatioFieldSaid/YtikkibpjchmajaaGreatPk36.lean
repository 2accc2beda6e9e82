/-
  May of any rational number, the layer's and the document's. Printed by wip/gen/rat.py.
-/
import Derived.Test.YtikkibpjchmajaaGreatPk23
import Derived.Test.YtikkibpjchmajaaGreatPk29
import Derived.Test.YtikkibpjchmajaaGreatPk35
namespace Go.Proofs.YtikkibpjchmajaaGreat
open Go.RowKit
open Go.Lib (hid)

theorem zsame_any {w : World} {s t : Bool} {A B : Option Addr} {n c m d K lo : Nat} {xs : List Nat} {z : Int} (h : Sl .u32 w A n c xs) (hx : Lim 4294967296 xs) (hn : n ≤ 1000000) (h' : Ci K w lo t B m d z) (hK : K ≤ 1000000) :
    Calls Tryz.prog 33 #[.agg #[.bool s, .slice A n c], .agg #[.bool t, .slice B m d]] w (RetE (.bool (mayB s xs && decide (zv s (nv 4294967296 xs) = z))) w) := by
  by_cases e : zv s (nv 4294967296 xs) = z
  · rw [decide_eq_true e, Bool.and_true]
    subst e
    exact zsame_may h hx hn h' hK
  · rw [decide_eq_false e, Bool.and_false]
    by_cases hst : s = t
    · subst hst
      refine zsame_no fun W hW => same_no (h.ext hW) (h'.2.sl.ext hW) (fun e' => e ?_) (by omega) (by have := h'.2.2; omega)
      rw [e', nv_nd (by omega), h'.1]
      exact zv_of z
    · exact zsame_ne hst
/-- What May says of these signs and limbs. -/
def mayR (s : Bool) (X : List Nat) (t : Bool) (Y : List Nat) : Bool := mayB s X && mayB t Y && decide (0 < zv t (nv 4294967296 Y) ∧ Nat.gcd (zv s (nv 4294967296 X)).natAbs (zv t (nv 4294967296 Y)).natAbs = 1)
theorem mayR_eq (s : Bool) (X : List Nat) (t : Bool) (Y : List Nat) : mayR s X t Y = ((mayB s X && decide (zv s (nv 4294967296 X) = (rl s X t Y).num)) && (mayB t Y && decide (zv t (nv 4294967296 Y) = ((rl s X t Y).den : Int)))) := by
  unfold mayR rl
  generalize zv s (nv 4294967296 X) = N
  generalize zv t (nv 4294967296 Y) = D
  have key : (0 < D ∧ Nat.gcd N.natAbs D.natAbs = 1) ↔ (N = ((N : Rat) / (dn D : Rat)).num ∧ D = (((N : Rat) / (dn D : Rat)).den : Int)) := by
    constructor
    · rintro ⟨h1, h2⟩
      rw [dn_of (by omega)]
      obtain ⟨h3, h4⟩ := rat_of h1 h2
      exact ⟨h3.symm, h4.symm⟩
    · rintro ⟨h1, h2⟩
      have hp := den_pos ((N : Rat) / (dn D : Rat))
      refine ⟨by omega, ?_⟩
      have hr := ((N : Rat) / (dn D : Rat)).reduced
      rw [← h1] at hr
      have h3 : D.natAbs = ((N : Rat) / (dn D : Rat)).den := by omega
      rw [h3]
      exact hr
  rw [show decide (0 < D ∧ Nat.gcd N.natAbs D.natAbs = 1) = decide (N = ((N : Rat) / (dn D : Rat)).num ∧ D = (((N : Rat) / (dn D : Rat)).den : Int)) from decide_eq_decide.2 key]
  cases mayB s X <;> cases mayB t Y <;> simp
theorem qmay_any {w : World} {sx tx : Bool} {Px Qx : Option Addr} {lx kx mx dx : Nat} {X Y : List Nat} (hx : Sl .u32 w Px lx kx X) (hy : Sl .u32 w Qx mx dx Y) (lx' : Lim 4294967296 X) (ly' : Lim 4294967296 Y) (hl : lx ≤ 10000) (hm : mx ≤ 10000) :
    Calls Tryz.prog 21 #[.agg #[.bool sx, .slice Px lx kx, .bool tx, .slice Qx mx dx]] w (RetE (.bool (mayR sx X tx Y)) w) := by
  have a1 : ∀ W, Ext w W → Calls Tryz.prog 48 #[.agg #[.bool sx, .slice Px lx kx]] W (RetE (.bool (mayB sx X)) W) := fun W hW => may_any (hx.ext hW) (by omega)
  have a2 : ∀ W, Ext w W → Calls Tryz.prog 48 #[.agg #[.bool tx, .slice Qx mx dx]] W (RetE (.bool (mayB tx Y)) W) := fun W hW => may_any (hy.ext hW) (by omega)
  have i1 : Iz 10000 w sx Px lx kx (zv sx (nv 4294967296 X)) := Iz.mk (Nv.mk hx lx' hl)
  have i2 : Iz 10000 w tx Qx mx dx (zv tx (nv 4294967296 Y)) := Iz.mk (Nv.mk hy ly' hm)
  unfold mayR
  generalize mayB sx X = b at *
  generalize mayB tx Y = c at *
  generalize zv sx (nv 4294967296 X) = N at *
  generalize zv tx (nv 4294967296 Y) = D at *
  cases b
  · exact rmay_num a1
  · cases c
    · exact rmay_den a1 a2
    · by_cases h1 : 0 < D
      · by_cases h2 : Nat.gcd N.natAbs D.natAbs = 1
        · rw [decide_eq_true ⟨h1, h2⟩]
          exact rmay_one i1 i2 a1 a2 (by omega) h1 h2
        · rw [decide_eq_false (fun h => h2 h.2)]
          exact rmay_more i1 i2 a1 a2 (by omega) h1 h2
      · rw [decide_eq_false (fun h => h1 h.1)]
        by_cases h2 : D = 0
        · exact rmay_zero i1 i2 a1 a2 (by omega) h2
        · exact rmay_neg i1 i2 a1 a2 (by omega) (by omega)
theorem dsame_may {w : World} {sx tx sy ty : Bool} {Px Qx Py Qy : Option Addr} {lx kx mx dx ly ky my dy : Nat} {X Y : List Nat} {K lo : Nat} {r : Rat} (hx : Sl .u32 w Px lx kx X) (hy : Sl .u32 w Qx mx dx Y) (lx' : Lim 4294967296 X) (ly' : Lim 4294967296 Y) (hl : lx ≤ 10000) (hm : mx ≤ 10000) (h : Rc K w lo sy Py ly ky ty Qy my dy r) (hK : K ≤ 1000000) (hr : rl sx X tx Y = r) :
    Calls Tryz.prog 8 #[.agg #[.bool sx, .slice Px lx kx, .bool tx, .slice Qx mx dx], .agg #[.bool sy, .slice Py ly ky, .bool ty, .slice Qy my dy]] w (RetE (.bool (mayR sx X tx Y)) w) := by
  subst hr
  rw [mayR_eq]
  exact dsame_b (fun W hW => zsame_any (hx.ext hW) lx' (by omega) (h.nu.ext hW) hK) (fun W hW => zsame_any (hy.ext hW) ly' (by omega) (h.de.ext hW) hK)
set_option maxHeartbeats 6400000 in
set_option maxRecDepth 100000 in
theorem dmay_any {w : World} {sx tx : Bool} {Px Qx : Option Addr} {lx kx mx dx : Nat} {X Y : List Nat} {x : Rat} (hx : Lq w sx Px lx kx tx Qx mx dx sx X tx Y) (hl : LL 1000 sx X tx Y x) :
    Calls Tryz.prog 22 #[.agg #[.bool sx, .slice Px lx kx, .bool tx, .slice Qx mx dx]] w (RetE (.bool (mayR sx X tx Y)) w) := by
  have b1 : lx ≤ 10000 := by have := hx.2.2.1.len; have := hl.2.2.1; omega
  have b2 : mx ≤ 10000 := by have := hx.2.2.2.len; have := hl.2.2.2.1; omega
  have HL := hid hl
  have Hx := hid hx
  clear hl hx
  go_enter Tryz.func22, Tryz.ntmps22
  go_upto_region 1 with fail
  have hy1 := hid ((Ext.refl w).alloc (.cells #[.bool sx, .slice Px lx kx, .bool tx, .slice Qx mx dx] 26))
  have Bx_ := (Bk.new w 26 #[.bool sx, .slice Px lx kx, .bool tx, .slice Qx mx dx])
  have Bx := hid Bx_
  clear Bx_
  generalize (w.alloc (.cells #[.bool sx, .slice Px lx kx, .bool tx, .slice Qx mx dx] 26)) = w1 at *
  have X1 := hid ((Ext.refl _).trans hy1.out)
  have T0 := (Ext.refl w1).drew
  have S0 := X1.out.trans T0
  refine wp_region_held_drew (S := fun w' => Ext w w' ∧ Bk 26 w' (w.heap.size) #[.bool sx, .slice Px lx kx, .bool tx, .slice Qx mx dx]) (by kernel_rfl) ⟨S0, (Bx.out.ext T0)⟩ (fun hS0 => ?_)
  change wpAnyH _ _ _ _ _ 6 #[false, false, false, false, false, false] _ _
  refine drawn_load 0 3 26 (.tmp 1) (w.heap.size) 26 #[.bool sx, .slice Px lx kx, .bool tx, .slice Qx mx dx] (0, 0) _ (by kernel_rfl) rfl (fun w' hS => hS.2.h) Tryz.underlying26 rfl info_rat (by kernel_rfl) (by kernel_rfl) (by kernel_rfl) (fun _ _ _ _ h => h) hS0 ?_
  simp only [Act.put, List.setIfInBounds_toArray, List.set_cons_zero, List.set_cons_succ]
  refine drawn_load 1 4 26 (.tmp 1) (w.heap.size) 26 #[.bool sx, .slice Px lx kx, .bool tx, .slice Qx mx dx] (0, 0) _ (by kernel_rfl) rfl (fun w' hS => hS.2.h) Tryz.underlying26 rfl info_rat (by kernel_rfl) (by kernel_rfl) (by kernel_rfl) (fun _ _ _ _ h => h) hS0 ?_
  simp only [Act.put, List.setIfInBounds_toArray, List.set_cons_zero, List.set_cons_succ]
  refine wpAnyH_ready (rs := [2]) (by kernel_rfl) (by simp) ?_
  refine drawn_call1 2 (some 5) (.tmp 4) (ts := #[26]) (by kernel_rfl) (enters_of Tryz.func7 (by kernel_rfl) rfl) rfl (dof_v ((Hx.out.ext S0).rv HL.out) (by omega)) (fun E v2 hh => ?_) ?_
  · skip
    obtain ⟨b2q, A2q, n2q, c2q, e2q, B2q, m2q, d2q, rfl, o2, hx2⟩ := hh
    have S2 := S0.trans hx2
    have T2 := T0.trans hx2
    refine ⟨_, rfl, ⟨S2, (Bx.out.ext T2)⟩, ?_⟩
    simp only [Act.put, List.setIfInBounds_toArray, List.set_cons_zero, List.set_cons_succ]
    refine wpAnyH_ready (rs := [3]) (by kernel_rfl) (by simp) ?_
    refine drawn_call1 3 (some 6) (.tmp 5) (ts := #[35]) (by kernel_rfl) (enters_of Tryz.func11 (by kernel_rfl) rfl) rfl (drat_v o2 (by omega)) (fun E v3 hh => ?_) ?_
    · skip
      obtain ⟨b3q, A3q, n3q, c3q, e3q, B3q, m3q, d3q, rfl, o3, hx3⟩ := hh
      have S3 := S2.trans hx3
      have T3 := T2.trans hx3
      refine ⟨_, rfl, ⟨S3, (Bx.out.ext T3)⟩, ?_⟩
      simp only [Act.put, List.setIfInBounds_toArray, List.set_cons_zero, List.set_cons_succ]
      refine wpAnyH_ready (rs := [4]) (by kernel_rfl) (by simp) ?_
      refine drawn_call2 4 (some 7) (.tmp 3) (.tmp 6) (ts := #[26, 26]) (by kernel_rfl) (enters_of Tryz.func8 (by kernel_rfl) rfl) rfl rfl (dsame_may (Hx.out.ext S3).2.2.1 (Hx.out.ext S3).2.2.2 HL.out.1 HL.out.2.1 b1 b2 (o3.mono S2.size) (by omega) HL.out.2.2.2.2) (fun E v4 hh => ?_) ?_
      · skip
        obtain ⟨rfl, hx4⟩ := hh
        have S4 := S3.trans hx4
        have T4 := T3.trans hx4
        refine ⟨_, rfl, ⟨S4, (Bx.out.ext T4)⟩, ?_⟩
        simp only [Act.put, List.setIfInBounds_toArray, List.set_cons_zero, List.set_cons_succ]
        refine drawn_free 5 2 (v := ?v5_1) (.assign (.tmp 7)) (by kernel_rfl) ?hy5_1 (by kernel_rfl) (by kernel_rfl) (by kernel_rfl) (fun _ _ _ _ h => h) ⟨S4, (Bx.out.ext T4)⟩ ?hr5_1
        case hy5_1 => (intro o ho w' hS; unfold execOp; simp only [ho]; go_simp; try with_reducible rfl)
        simp only [Act.put, List.setIfInBounds_toArray, List.set_cons_zero, List.set_cons_succ]
        refine wpAnyH_done (by kernel_rfl) ?_ _
        go_wp2_with fail
        go_ret
        exact ⟨rfl, S4⟩
      exact drawn_nil
    exact drawn_nil
  exact drawn_nil

theorem dsame_l {w : World} {sx tx sy ty : Bool} {Px Qx Py Qy : Option Addr} {lx kx mx dx ly ky my dy : Nat} {s t : Bool} {X Y : List Nat} {K : Nat} {x : Rat} (hx : Lq w sx Px lx kx tx Qx mx dx s X t Y) (hy : Lq w sy Py ly ky ty Qy my dy s X t Y) (hl : LL K s X t Y x) (hK : K ≤ 10000) :
    Calls Tryz.prog 8 #[.agg #[.bool sx, .slice Px lx kx, .bool tx, .slice Qx mx dx], .agg #[.bool sy, .slice Py ly ky, .bool ty, .slice Qy my dy]] w (RetE (.bool true) w) := by
  obtain ⟨rfl, rfl, h1, h2⟩ := hx
  obtain ⟨rfl, rfl, h3, h4⟩ := hy
  have b1 : lx ≤ 10000 := by have := h1.len; have := hl.2.2.1; omega
  have b2 : mx ≤ 10000 := by have := h2.len; have := hl.2.2.2.1; omega
  exact dsame_b (b := true) (c := true) (fun W hW => zsame_sl (h1.ext hW) (h3.ext hW) (by omega)) (fun W hW => zsame_sl (h2.ext hW) (h4.ext hW) (by omega))
theorem qmay_l {w : World} {sx tx : Bool} {Px Qx : Option Addr} {lx kx mx dx : Nat} {s t b : Bool} {X Y : List Nat} {K : Nat} {x : Rat} (hx : Lq w sx Px lx kx tx Qx mx dx s X t Y) (hl : LL K s X t Y x) (hK : K ≤ 10000) (hb : mayR s X t Y = b) :
    Calls Tryz.prog 21 #[.agg #[.bool sx, .slice Px lx kx, .bool tx, .slice Qx mx dx]] w (RetE (.bool b) w) := by
  subst hb
  obtain ⟨rfl, rfl, h1, h2⟩ := hx
  exact qmay_any h1 h2 hl.1 hl.2.1 (by have := h1.len; have := hl.2.2.1; omega) (by have := h2.len; have := hl.2.2.2.1; omega)
theorem LL.weak {K L : Nat} {s t : Bool} {X Y : List Nat} {x : Rat} (h : LL K s X t Y x) (hl : K ≤ L) : LL L s X t Y x := ⟨h.1, h.2.1, Nat.le_trans h.2.2.1 hl, Nat.le_trans h.2.2.2.1 hl, h.2.2.2.2⟩
theorem dmay_l {w : World} {sx tx : Bool} {Px Qx : Option Addr} {lx kx mx dx : Nat} {s t b : Bool} {X Y : List Nat} {K : Nat} {x : Rat} (hx : Lq w sx Px lx kx tx Qx mx dx s X t Y) (hl : LL K s X t Y x) (hK : K ≤ 1000) (hb : mayR s X t Y = b) :
    Calls Tryz.prog 22 #[.agg #[.bool sx, .slice Px lx kx, .bool tx, .slice Qx mx dx]] w (RetE (.bool b) w) := by
  subst hb
  obtain ⟨rfl, rfl, h1, h2⟩ := hx
  exact dmay_any ⟨rfl, rfl, h1, h2⟩ (hl.weak hK)
theorem field_q (b e : Bool) (A B : Option Addr) (n c m d : Nat) (w : World) : (Instr.field 35 (.agg #[.bool b, .slice A n c, .bool e, .slice B m d]) 1).run Tryz.prog w = .ok (.agg #[.bool e, .slice B m d]) w := by
  unfold Instr.field
  go_simp
  simp [asAgg, Result.andThen]
theorem dof_l {w : World} {sx tx : Bool} {Px Qx : Option Addr} {lx kx mx dx : Nat} {s t : Bool} {X Y : List Nat} {K : Nat} {x : Rat} (hx : Lq w sx Px lx kx tx Qx mx dx s X t Y) (hl : LL K s X t Y x) (hK : K ≤ 10000) :
    Calls Tryz.prog 7 #[.agg #[.bool sx, .slice Px lx kx, .bool tx, .slice Qx mx dx]] w (RetP (10 * K + 22) (zv s (nv 4294967296 X)) (dn (zv t (nv 4294967296 Y))) w) := by
  obtain ⟨rfl, rfl, h1, h2⟩ := hx
  obtain ⟨l1, l2, l3, l4, rfl⟩ := hl
  exact dof_p (Iz.mk (Nv.mk h1 l1 (h1.len ▸ l3))) (Iz.mk (Nv.mk h2 l2 (h2.len ▸ l4))) hK

end Go.Proofs.YtikkibpjchmajaaGreat

