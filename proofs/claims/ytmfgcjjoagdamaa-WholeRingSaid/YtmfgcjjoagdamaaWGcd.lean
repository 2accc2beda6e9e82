
/-
  The contract of layer 4's Gcd.
-/
import Derived.Test.YtmfgcjjoagdamaaWDiv
import Derived.Deep.LoopGhost
namespace Go.Proofs.Ytmfgcjjoagdamaa
open Go.RowKit
open Go.Lib (hid)

theorem Nv.weak {K L : Nat} {w : World} {A : Option Addr} {n c m : Nat} (h : Nv K w A n c m) (hl : K ≤ L) : Nv L w A n c m := let ⟨xs, h1, h2, h3, h4⟩ := h; ⟨xs, h1, h2, h3, Nat.le_trans h4 hl⟩
theorem Cn.weak {K L : Nat} {w : World} {lo : Nat} {A : Option Addr} {n c m : Nat} (h : Cn K w lo A n c m) (hl : K ≤ L) : Cn L w lo A n c m := ⟨h.1, Nat.le_trans h.2 hl⟩
theorem Ci.weak {K L : Nat} {w : World} {lo : Nat} {b : Bool} {A : Option Addr} {n c : Nat} {z : Int} (h : Ci K w lo b A n c z) (hl : K ≤ L) : Ci L w lo b A n c z := ⟨h.1, h.2.weak hl⟩

set_option maxHeartbeats 3200000 in
theorem wgcd_v {w : World} {s t : Bool} {A B : Option Addr} {n c m d K K' : Nat} {x y : Int} (h : Iz K w s A n c x) (h' : Iz K' w t B m d y) (hK : K + K' ≤ 500000000) :
    Calls Try.prog 36 #[.agg #[.bool s, .slice A n c], .agg #[.bool t, .slice B m d]] w (RetI (K + K') ((Nat.gcd x.natAbs y.natAbs : Nat) : Int) w) := by
  have T := hid (Tri.mk' w s A n c t B m d)
  have H := hid h.nv.1
  have H' := hid h'.nv.1
  clear h h'
  generalize x.natAbs = p at *
  generalize y.natAbs = q at *
  go_enter Try.func36, Try.ntmps36
  go_wp2_with fail
  generalize (((w.alloc (.cells #[.bool s, .slice A n c] 24)).alloc (.cells #[.bool t, .slice B m d] 24)).alloc (.cells #[.bool false, .slice none 0 0] 24)) = wA at *
  have t1 := hid (fun W (X : Ext wA W) => trim_v (H.out.ext (T.out.x.trans X)) (by omega))
  have t2 := hid (fun W (X : Ext wA W) => trim_v (H'.out.ext (T.out.x.trans X)) (by omega))
  have hk0 := T.out.cs (Ext.refl wA)
  have hkd := T.out.cs ((Ext.refl wA).drew)
  go_region_held3 (fun w' => w'.cell? ⟨w.heap.size, 0, none⟩ = some (.bool s) ∧ w'.cell? ⟨w.heap.size, 1, none⟩ = some (.slice A n c) ∧ w'.cell? ⟨w.heap.size + 1, 0, none⟩ = some (.bool t) ∧ w'.cell? ⟨w.heap.size + 1, 1, none⟩ = some (.slice B m d))
    (first | (with_reducible exact hk0) | (with_reducible exact hkd) | (with_reducible exact hk1) | (with_reducible exact hk2))
    (first
      | ((go_at_call 50); (with_reducible refine (t1.out _ (Ext.refl _).drew).mono ?_); rintro e w1 ⟨A1, n1, c1, rfl, o1, x1⟩; have hk1 := T.out.cs ((Ext.refl _).drew.trans x1); have O1 := hid o1; have X1 := hid ((Ext.refl wA).drew.trans x1); clear o1 x1 t1)
      | ((go_at_call 50); (with_reducible refine (t2.out _ X1.out).mono ?_); rintro e w2 ⟨A2, n2, c2, rfl, o2, x2⟩; have hk2 := T.out.cs (X1.out.trans x2); have O2 := hid (o2.mono (Nat.zero_le _)); have O3 := hid (O1.out.nv.ext x2); have X2 := hid (X1.out.trans x2); clear o2 x2 t2))
  clear hk0 hkd hk1 hk2
  obtain ⟨G, hG⟩ : ∃ G, Nat.gcd p q = G := ⟨_, rfl⟩
  have HG := hid hG
  have HGG := hid hG
  clear hG
  go_wp2_with fail
  go_loopg [5, 6] q (fun k sa sb wr => ∃ (A : Option Addr) (n c p : Nat) (B : Option Addr) (m d q : Nat), sa = .slice A n c ∧ sb = .slice B m d ∧ q ≤ k ∧ Nv (K + K') wr A n c p ∧ Cn (K + K') wr 0 B m d q ∧ Nat.gcd p q = G ∧ Ext wA wr)
  case atStart => exact ⟨_, _, _, _, _, _, _, _, rfl, rfl, Nat.le_refl _, O3.out.weak (by omega), O2.out.weak (by omega), HG.out, X2.out⟩
  case round =>
    clear O1 O2 O3 X1 X2 HG
    obtain ⟨A1, n1, c1, p1, B1, m1, d1, q1, rfl, rfl, hq, ha, hb, hg, hx⟩ := hrel
    have HA := hid ha
    have HB := hid hb
    have HG := hid hg
    have HX := hid hx
    by_cases h0 : q1 = 0
    · have hm : m1 = 0 := by rw [hb.len, h0]; rfl
      rw [h0, Nat.gcd_zero_right] at hg
      subst hm
      have HP := hid hg
      clear ha hb hg hx HB HG h0
      go_wp2_with fail
      refine (made_any (s := false) HA.out (by omega)).mono ?_
      rintro E w3 ⟨b3, A3, n3, c3, rfl, o3, x3⟩
      have X3 := hid (HX.out.trans x3)
      have O3 := hid o3
      obtain ⟨hr0, hr1, hr2, hr3⟩ := T.out.cr X3.out
      clear o3 x3
      have e : zv false G = ((Nat.gcd p q : Nat) : Int) := by rw [HGG.out]; simp [zv]
      rw [HP.out, e] at O3
      clear e
      go_wp2_with fail
      refine ret_b rfl (T.out.put X3.out) rfl rfl (T.out.fin X3.out O3.out HX.out.size)
    · have hmp := (cn_lenp hb (by omega)).1
      have dm := hid (divmod_v ha hb.nv (by omega) (show 0 < q1 by omega))
      have hml := hid (Nat.mod_lt p1 (show 0 < q1 by omega))
      clear ha hb hg hx
      go_wp2_with fail
      refine dm.out.mono ?_
      rintro E w3 ⟨A3, n3, c3, B3, m3, d3, rfl, o3, p3, x3⟩
      have P3 := hid (p3.mono (Nat.zero_le _))
      have X3 := hid x3
      clear dm o3 p3 x3
      go_wp2_with fail
      go_roundg (p1 % q1)
      case measure => have := hml.out; omega
      case rel => exact ⟨_, _, _, _, _, _, _, _, rfl, rfl, Nat.le_refl _, HB.out.nv.ext X3.out, P3.out, by rw [← HG.out, Nat.gcd_comm p1 q1, Nat.gcd_rec q1 p1, Nat.gcd_comm], HX.out.trans X3.out⟩
end Go.Proofs.Ytmfgcjjoagdamaa
