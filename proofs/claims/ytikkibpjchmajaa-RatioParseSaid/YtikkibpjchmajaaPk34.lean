/-
  The contracts of the document's whole numbers: Int, Neg, Mul, Sign ..
-/
import Derived.Test.YtikkibpjchmajaaPk23
import Derived.Test.YtikkibpjchmajaaPk14
import Derived.Deep.RegionWith
namespace Go.Proofs.Ytikkibpjchmajaa
open Go.RowKit
open Go.Lib (hid)

set_option maxRecDepth 100000 in
set_option maxHeartbeats 1600000 in
theorem zint_v {w : World} {s : Bool} {A : Option Addr} {n c K : Nat} {z : Int} (h : Zd K w s A n c z) (hK : K ≤ 1000000) :
    Calls Try.prog 44 #[.agg #[.bool s, .slice A n c]] w (RetI K z w) := by
  have X := hid (((Ext.refl w).alloc (.cells #[.bool s, .slice A n c] 35)).alloc (.cells #[.bool false, .slice none 0 0] 24))
  have b0 := (Bz.new w s A n c).ext ((Ext.refl _).alloc (.cells #[.bool false, .slice none 0 0] 24))
  have b1 := Bx.new (w.alloc (.cells #[.bool s, .slice A n c] 35)) false none 0 0
  rw [size_alloc] at b1
  have HB0 := hid b0
  have HB1 := hid b1
  have hsz : ((w.alloc (.cells #[.bool s, .slice A n c] 35)).alloc (.cells #[.bool false, .slice none 0 0] 24)).heap.size = w.heap.size + 2 := by rw [size_alloc, size_alloc]
  have HF := hid h.flag
  have H := hid h
  have HS := hid h.1
  clear b0 b1 h
  cases s
  · go_enter Try.func44, Try.ntmps44
    go_wp2_with fail
    generalize (w.alloc (.cells #[.bool false, .slice A n c] 35)).alloc (.cells #[.bool false, .slice none 0 0] 24) = wA at *
    have t1 := hid (fun W (Y : Ext wA W) => limbs_v (H.out.2.ext (X.out.trans Y)) (by omega))
    have hc0 := HB0.out.c0
    have hc1 := HB0.out.c1
    have hd0 : wA.drew.cell? ⟨w.heap.size, 0, none⟩ = some (.bool false) := hc0
    have hd1 : wA.drew.cell? ⟨w.heap.size, 1, none⟩ = some (.slice A n c) := hc1
    first
      | (go_region_with ((go_at_call 69); (with_reducible refine (t1.out _ (Ext.refl _).drew).mono ?_); rintro e w1 ⟨A1, n1, c1, rfl, o1, x1⟩; have x1 := (Ext.refl wA).drew.trans x1; have B1 := HB1.out.ext x1; have hr0 := B1.c0; have hr1 := B1.c1; have hr2 := B1.fr 0; have hr3 := B1.fr 1; have he0 := (HB0.out.ext x1).c0; have he1 := (HB0.out.ext x1).c1; have HB := hid B1; have O1 := hid o1; have X1 := hid x1; clear o1 x1 B1))
      | skip
    all_goals
      clear hr0 hr1 hr2 hr3 he0 he1 hc0 hc1 hd0 hd1
      go_wp2_with fail
      have hb := HB.out.lt
      have hs1 := X1.out.size
      refine ret_b rfl HB.out.put rfl rfl (fin_i ⟨by rw [← HF.out]; rfl, O1.out⟩ (by rw [show wA.drew.heap.size = wA.heap.size from rfl]; omega) (by omega) (X.out.trans X1.out))
  · go_enter Try.func44, Try.ntmps44
    go_wp2_with fail
    generalize (w.alloc (.cells #[.bool true, .slice A n c] 35)).alloc (.cells #[.bool false, .slice none 0 0] 24) = wA at *
    have t1 := hid (fun W (Y : Ext wA W) => limbs_v (H.out.2.ext (X.out.trans Y)) (by omega))
    have hk0 : wA.cell? ⟨w.heap.size, 0, none⟩ = some (.bool true) ∧ wA.cell? ⟨w.heap.size, 1, none⟩ = some (.slice A n c) := ⟨HB0.out.c0, HB0.out.c1⟩
    have hkd : wA.drew.cell? ⟨w.heap.size, 0, none⟩ = some (.bool true) ∧ wA.drew.cell? ⟨w.heap.size, 1, none⟩ = some (.slice A n c) := hk0
    go_region_held3 (fun w' => w'.cell? ⟨w.heap.size, 0, none⟩ = some (.bool true) ∧ w'.cell? ⟨w.heap.size, 1, none⟩ = some (.slice A n c))
      (first | (with_reducible exact hk0) | (with_reducible exact hkd) | (with_reducible exact hk1) | (with_reducible exact hk3 _ _))
      (first
        | ((go_at_call 69); (with_reducible refine (t1.out _ (Ext.refl _).drew).mono ?_); rintro e w1 ⟨A1, n1, c1, rfl, o1, x1⟩; have x1 := (Ext.refl wA).drew.trans x1; have B0 := HB0.out.ext x1; have B1 := HB1.out.ext x1; have hk1 : w1.cell? ⟨w.heap.size, 0, none⟩ = some (.bool true) ∧ w1.cell? ⟨w.heap.size, 1, none⟩ = some (.slice A n c) := ⟨B0.c0, B0.c1⟩; have hk3 : ∀ u v, ((w1.setCell ⟨w.heap.size + 1, 0, none⟩ u).setCell ⟨w.heap.size + 1, 1, none⟩ v).cell? ⟨w.heap.size, 0, none⟩ = some (.bool true) ∧ ((w1.setCell ⟨w.heap.size + 1, 0, none⟩ u).setCell ⟨w.heap.size + 1, 1, none⟩ v).cell? ⟨w.heap.size, 1, none⟩ = some (.slice A n c) := fun u v => ⟨(B0.other (g' := w.heap.size + 1) (u := u) (v := v) (by omega)).c0, (B0.other (g' := w.heap.size + 1) (u := u) (v := v) (by omega)).c1⟩; have hr0 := B1.c0; have hr1 := B1.c1; have hr2 := B1.fr 0; have hr3 := B1.fr 1; have HB := hid B1; have O1 := hid o1; have X1 := hid x1; clear o1 x1 t1 B0 B1))
    clear hk0 hkd hk1 hk3 hr0 hr1 hr2 hr3
    go_wp2_with fail
    have hb := HB.out.lt
    have hs1 := X1.out.size
    refine ret_b rfl HB.out.put rfl rfl (fin_i ⟨by rw [← HF.out, Bool.true_and], O1.out⟩ (by rw [show wA.drew.heap.size = wA.heap.size from rfl]; omega) (by omega) (X.out.trans X1.out))
end Go.Proofs.Ytikkibpjchmajaa

