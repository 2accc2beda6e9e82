
/-
  The contracts of layer 4's functions: whole.made, Neg, Sign ..
-/
import Derived.Test.YtmfgcjjoagdamaaInt
import Derived.Test.YtmfgcjjoagdamaaKara
import Derived.Test.YtmfgcjjoagdamaaDivMain
import Derived.Deep.RegionHeld3
namespace Go.Proofs.Ytmfgcjjoagdamaa
open Go.RowKit
open Go.Lib (hid)

theorem made_any {w : World} {s : Bool} {A : Option Addr} {n c m K : Nat} (h : Nv K w A n c m) (hK : K ≤ 1099511627776) :
    Calls Try.prog 70 #[.bool s, .slice A n c] w (RetI K (zv s m) w) := by
  have H := hid h
  clear h
  go_enter Try.func70, Try.ntmps70
  go_wp2_with fail
  have HB := hid (Bx.new w false none 0 0)
  refine (trim_v (H.out.ext ((Ext.refl w).alloc _)) hK).mono ?_
  rintro E w1 ⟨A1, n1, c1, rfl, o1, x1⟩
  have hB := HB.out.ext x1
  have hc0 := hB.c0
  have hc1 := hB.c1
  have hf0 := hB.fr 0
  have hf1 := hB.fr 1
  have HB1 := hid hB
  have O1 := hid o1
  have X1 := hid (((Ext.refl w).alloc _).trans x1)
  have hn := o1.len
  have hfin : (s && decide (0 < n1)) = decide (zv s m < 0) := by
    rw [zv_lt]
    congr 1
    by_cases h0 : m = 0
    · subst h0; rw [hn]; rfl
    · have h1 := (cn_lenp o1 (by omega)).1
      rw [decide_eq_true h1, decide_eq_true (show 0 < m by omega)]
  have HF := hid hfin
  have HZ := hid (zv_abs s m)
  clear o1 x1 hn hfin hB
  cases s
  · go_wp2_with fail
    refine ret_b rfl HB1.out.put rfl rfl (fin_i ⟨by rw [← HF.out]; rfl, by rw [HZ.out]; exact O1.out⟩ (by rw [size_alloc]; omega) (Nat.le_refl _) X1.out)
  · go_wp2_with fail
    refine ret_b rfl HB1.out.put rfl rfl (fin_i ⟨by rw [← HF.out, Bool.true_and], by rw [HZ.out]; exact O1.out⟩ (by rw [size_alloc]; omega) (Nat.le_refl _) X1.out)

theorem neg_v {w : World} {s : Bool} {A : Option Addr} {n c K : Nat} {z : Int} (h : Iz K w s A n c z) (hK : K ≤ 1099511627776) :
    Calls Try.prog 43 #[.agg #[.bool s, .slice A n c]] w (RetI K (-z) w) := by
  have H := hid h
  clear h
  go_enter Try.func43, Try.ntmps43
  go_wp2_with fail
  have hb := hid (Bx.new (w.alloc (.cells #[.bool s, .slice A n c] 24)) false none 0 0)
  rw [size_alloc] at hb
  have hX := hid (((Ext.refl w).alloc (.cells #[.bool s, .slice A n c] 24)).alloc (.cells #[.bool false, .slice none 0 0] 24))
  refine (made_any (s := !s) (H.out.nv.1.ext hX.out) hK).mono ?_
  rintro E w1 ⟨b1, A1, n1, c1, rfl, o1, x1⟩
  have hB := hb.out.ext x1
  have hc0 := hB.c0
  have hc1 := hB.c1
  have hf0 := hB.fr 0
  have hf1 := hB.fr 1
  have HB1 := hid hB
  have O1 := hid o1
  have X1 := hid (hX.out.trans x1)
  have HZ : Hid (zv (!s) z.natAbs = -z) := by show _ = _; rw [zv_neg, ← H.out.nv.2]
  clear o1 x1 hB
  rw [HZ.out] at O1
  go_wp2_with fail
  refine ret_b rfl HB1.out.put rfl rfl (fin_i O1.out (by rw [size_alloc, size_alloc]; omega) (by omega) X1.out)

theorem sign_v {w : World} {s : Bool} {A : Option Addr} {n c K : Nat} {z : Int} (h : Iz K w s A n c z) (hK : K ≤ 1099511627776) :
    Calls Try.prog 32 #[.agg #[.bool s, .slice A n c]] w (RetE (.int .i64 (sg z)) w) := by
  have hX := hid ((Ext.refl w).alloc (.cells #[.bool s, .slice A n c] 24))
  have bt := hid (bits_v (h.nv.1.ext hX.out) hK)
  have hs := h.sgn
  clear h
  by_cases h0 : z = 0
  · subst h0
    have hb : bl (0 : Int).natAbs = 0 := rfl
    rw [hb] at bt
    clear hs hb
    go_enter Try.func32, Try.ntmps32
    go_wp2_with (go_at_call 72; refine bt.out.mono ?_; rintro E w' ⟨rfl, rfl⟩)
    go_ret
    exact ⟨rfl, hX.out⟩
  · have hs := hs h0
    have hb := (bl_bounds (show z.natAbs ≠ 0 by omega)).1
    generalize bl z.natAbs = L at *
    have hL : ((L : Int) == 0) = false := beq_eq_false_iff_ne.2 (by omega)
    by_cases hz : z < 0
    · rw [sg_neg hz]
      rw [decide_eq_true hz] at hs
      subst hs
      clear h0 hz
      go_enter Try.func32, Try.ntmps32
      go_wp2_with (go_at_call 72; refine bt.out.mono ?_; rintro E w' ⟨rfl, rfl⟩)
      go_ret
      exact ⟨rfl, hX.out⟩
    · rw [sg_pos (by omega)]
      rw [decide_eq_false hz] at hs
      subst hs
      clear h0 hz
      go_enter Try.func32, Try.ntmps32
      go_wp2_with (go_at_call 72; refine bt.out.mono ?_; rintro E w' ⟨rfl, rfl⟩)
      go_ret
      exact ⟨rfl, hX.out⟩
end Go.Proofs.Ytmfgcjjoagdamaa
