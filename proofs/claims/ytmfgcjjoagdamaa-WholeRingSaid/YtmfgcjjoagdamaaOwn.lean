
/-
  What WholeRing needs beside: a copy of one's own; May of any number, the layer's and the document's.
-/
import Derived.Test.YtmfgcjjoagdamaaZB
namespace Go.Proofs.Ytmfgcjjoagdamaa
open Go.RowKit
open Go.Lib (hid)

set_option maxHeartbeats 1600000 in
theorem own_v {w : World} {s : Bool} {P : Option Addr} {l k : Nat} {xs : List Nat} (h : Sl .u32 w P l k xs) (hl : l ≤ 1000000) :
    Calls Try.prog 46 #[.agg #[.bool s, .slice P l k]] w (fun E w' => ∃ A c, E = .returned (.agg #[.bool s, .slice A l c]) ∧ Own .u32 39 w' w.heap.size A l c xs ∧ Ext w w') := by
  have X := hid (((Ext.refl w).alloc (.cells #[.bool s, .slice P l k] 24)).alloc (.cells #[.bool false, .slice none 0 0] 24))
  have b0 := (Bx.new w s P l k).ext ((Ext.refl _).alloc (.cells #[.bool false, .slice none 0 0] 24))
  have b1 := Bx.new (w.alloc (.cells #[.bool s, .slice P l k] 24)) false none 0 0
  rw [size_alloc] at b1
  have hsz : Hid (((w.alloc (.cells #[.bool s, .slice P l k] 24)).alloc (.cells #[.bool false, .slice none 0 0] 24)).heap.size = w.heap.size + 2) := by show _ = _; rw [size_alloc, size_alloc]
  have HB0 := hid b0
  have HB1 := hid b1
  have HS := hid (h.ext X.out)
  clear b0 b1 h
  go_enter Try.func46, Try.ntmps46
  go_wp2_with fail
  generalize (w.alloc (.cells #[.bool s, .slice P l k] 24)).alloc (.cells #[.bool false, .slice none 0 0] 24) = wA at *
  have XE := hid ((Ext.refl wA).drew.alloc (.cells #[] 39))
  have OE := hid (own_empty wA.drew .u32 39)
  have hk0 : wA.cell? ⟨w.heap.size, 0, none⟩ = some (.bool s) ∧ wA.cell? ⟨w.heap.size, 1, none⟩ = some (.slice P l k) := ⟨HB0.out.c0, HB0.out.c1⟩
  have hkd : wA.drew.cell? ⟨w.heap.size, 0, none⟩ = some (.bool s) ∧ wA.drew.cell? ⟨w.heap.size, 1, none⟩ = some (.slice P l k) := hk0
  have hk1 : ∀ o, ((wA.alloc o).drew).cell? ⟨w.heap.size, 0, none⟩ = some (.bool s) ∧ ((wA.alloc o).drew).cell? ⟨w.heap.size, 1, none⟩ = some (.slice P l k) := fun o => ⟨(HB0.out.ext ((Ext.refl wA).alloc o).drew).c0, (HB0.out.ext ((Ext.refl wA).alloc o).drew).c1⟩
  go_region_held3 (fun w' => w'.cell? ⟨w.heap.size, 0, none⟩ = some (.bool s) ∧ w'.cell? ⟨w.heap.size, 1, none⟩ = some (.slice P l k)) (first | (with_reducible exact hk0) | (with_reducible exact hkd) | (with_reducible exact hk1 _) | (with_reducible exact hk2) | (with_reducible exact hk3 _ _))
    ((refine step_own (w0 := wA) (B := some ⟨wA.heap.size, 0, none⟩) (d := 0) (A := P) (n := l) (c := k) (xs := xs) (k := .u32) (e := 39) (bytes := 4) (by rfl) _ _ _ (by rfl) Try.underlying22 info_u32 (by rfl) (by rfl) OE.out (HS.out.ext XE.out) XE.out (by omega) (by simp only [maxLen]; omega) ?_; intro A2 c2 w2 ho2 hx2; have hk2 : w2.cell? ⟨w.heap.size, 0, none⟩ = some (.bool s) ∧ w2.cell? ⟨w.heap.size, 1, none⟩ = some (.slice P l k) := ⟨(HB0.out.ext hx2).c0, (HB0.out.ext hx2).c1⟩; have hk3 : ∀ u v, ((w2.setCell ⟨w.heap.size + 1, 0, none⟩ u).setCell ⟨w.heap.size + 1, 1, none⟩ v).cell? ⟨w.heap.size, 0, none⟩ = some (.bool s) ∧ ((w2.setCell ⟨w.heap.size + 1, 0, none⟩ u).setCell ⟨w.heap.size + 1, 1, none⟩ v).cell? ⟨w.heap.size, 1, none⟩ = some (.slice P l k) := fun u v => ⟨((HB0.out.ext hx2).other (g' := w.heap.size + 1) (u := u) (v := v) (by omega)).c0, ((HB0.out.ext hx2).other (g' := w.heap.size + 1) (u := u) (v := v) (by omega)).c1⟩; have hr0 := (HB1.out.ext hx2).c0; have hr1 := (HB1.out.ext hx2).c1; have hr2 := (HB1.out.ext hx2).fr 0; have hr3 := (HB1.out.ext hx2).fr 1; have HO2 := hid ho2; have HX2 := hid hx2; clear ho2 hx2))
  clear hk0 hkd hk1 hk2 hk3 hr0 hr1 hr2 hr3
  go_wp2_with fail
  have hz := hsz.out
  refine ret_b rfl (HB1.out.ext HX2.out).put rfl rfl ⟨_, _, rfl, ((HO2.out.gbx (HB1.out.ext HX2.out) (by decide) (put_gb _ _ _ _)).mono (by omega)), (X.out.trans HX2.out).put (by omega) _ _⟩

/-- Canonical, as May asks it. -/
def mayB (s : Bool) (xs : List Nat) : Bool := if xs = [] then !s else decide (xs.getLast? ≠ some 0)

theorem may_any {w : World} {s : Bool} {A : Option Addr} {n c : Nat} {xs : List Nat} (h : Sl .u32 w A n c xs) (hn : n ≤ 1000000) : Calls Try.prog 40 #[.agg #[.bool s, .slice A n c]] w (RetE (.bool (mayB s xs)) w) := by
  have X := hid ((Ext.refl w).alloc (.cells #[.bool s, .slice A n c] 24))
  by_cases h0 : xs = []
  · have hn0 : n = 0 := by rw [← h.len, h0]; rfl
    have HM : Hid (mayB s xs = !s) := by show _ = _; unfold mayB; rw [if_pos h0]
    subst hn0
    clear h h0
    cases s
    · go_enter Try.func40, Try.ntmps40
      go_wp2_with (go_quiet (fail))
      go_ret
      exact ⟨by rw [HM.out]; rfl, X.out⟩
    · go_enter Try.func40, Try.ntmps40
      go_wp2_with (go_quiet (fail))
      go_ret
      exact ⟨by rw [HM.out]; rfl, X.out⟩
  · obtain ⟨j, rfl⟩ : ∃ j, n = j + 1 := by
      have := h.len
      have := List.length_pos_iff.2 h0
      exact ⟨n - 1, by omega⟩
    have hlen := h.len
    obtain ⟨b, o, rfl, _, hc⟩ := (h.ext X.out).at_ (by omega)
    have hlast : xs[j]? = some (xs.getLast h0) := by rw [List.getLast_eq_getElem, List.getElem?_eq_getElem (by omega)]; congr 1; congr 1; omega
    have hg := hc j _ hlast
    have hcap := h.cap
    have HM : Hid (mayB s xs = decide (xs.getLast h0 ≠ 0)) := by
      show _ = _
      unfold mayB
      rw [if_neg h0, List.getLast?_eq_some_getLast h0]
      simp
    generalize xs.getLast h0 = x at *
    have hne : ((j : Int) + 1 == 0) = false := beq_eq_false_iff_ne.2 (by omega)
    have hpos : (0 : Int) < (j : Int) + 1 := by omega
    clear hlast hc h hlen h0
    by_cases hx : x = 0
    · subst hx
      have HM' : Hid (mayB s xs = false) := by show _ = _; rw [HM.out]; rfl
      clear HM
      go_enter Try.func40, Try.ntmps40
      go_wp2_with (go_quiet (fail))
      go_ret
      exact ⟨by rw [HM'.out]; rfl, X.out⟩
    · have hxn : ((x : Int) != 0) = true := by rw [bne_iff_ne]; omega
      have HM' : Hid (mayB s xs = true) := by show _ = _; rw [HM.out]; exact decide_eq_true hx
      clear HM
      go_enter Try.func40, Try.ntmps40
      go_wp2_with (go_quiet (fail))
      go_ret
      exact ⟨by rw [HM'.out]; rfl, X.out⟩

theorem zsame_ne {w : World} {s t : Bool} {A B : Option Addr} {n c m d : Nat} (hst : s ≠ t) :
    Calls Try.prog 17 #[.agg #[.bool s, .slice A n c], .agg #[.bool t, .slice B m d]] w (RetE (.bool false) w) := by
  have X := hid (((Ext.refl w).alloc (.cells #[.bool s, .slice A n c] 24)).alloc (.cells #[.bool t, .slice B m d] 24))
  cases s <;> cases t
  · exact absurd rfl hst
  · clear hst
    go_enter Try.func17, Try.ntmps17
    go_wp2_with fail
    go_ret
    exact ⟨rfl, X.out⟩
  · clear hst
    go_enter Try.func17, Try.ntmps17
    go_wp2_with fail
    go_ret
    exact ⟨rfl, X.out⟩
  · exact absurd rfl hst
theorem zsame_no {w : World} {s : Bool} {A B : Option Addr} {n c m d : Nat} (h : ∀ W, Ext w W → Calls Try.prog 56 #[.slice A n c, .slice B m d] W (RetE (.bool false) W)) :
    Calls Try.prog 17 #[.agg #[.bool s, .slice A n c], .agg #[.bool s, .slice B m d]] w (RetE (.bool false) w) := by
  have X := hid (((Ext.refl w).alloc (.cells #[.bool s, .slice A n c] 24)).alloc (.cells #[.bool s, .slice B m d] 24))
  have hc := hid (h _ X.out)
  clear h
  cases s
  · go_enter Try.func17, Try.ntmps17
    go_wp2_with fail
    refine hc.out.mono ?_
    rintro E w1 ⟨rfl, x1⟩
    go_wp2_with fail
    go_ret
    exact ⟨rfl, X.out.trans x1⟩
  · go_enter Try.func17, Try.ntmps17
    go_wp2_with fail
    refine hc.out.mono ?_
    rintro E w1 ⟨rfl, x1⟩
    go_wp2_with fail
    go_ret
    exact ⟨rfl, X.out.trans x1⟩
/-- A number against its canonical form. -/
theorem zsame_may {w : World} {s t : Bool} {A B : Option Addr} {n c m d K lo : Nat} {xs : List Nat} (h : Sl .u32 w A n c xs) (hx : Lim 4294967296 xs) (hn : n ≤ 1000000) (h' : Ci K w lo t B m d (zv s (nv 4294967296 xs))) (hK : K ≤ 1000000) :
    Calls Try.prog 17 #[.agg #[.bool s, .slice A n c], .agg #[.bool t, .slice B m d]] w (RetE (.bool (mayB s xs)) w) := by
  have ht := h'.1
  have hc := h'.2
  rw [zv_abs] at hc
  rw [zv_lt] at ht
  by_cases h0 : xs = []
  · subst h0
    have hM : mayB s [] = !s := rfl
    rw [hM]
    have ht : t = false := by rw [ht]; cases s <;> rfl
    subst ht
    cases s
    · exact zsame_of rfl fun W hW => same_yes (h.ext hW) (hc.sl.ext hW) (by rfl) (by omega)
    · exact zsame_ne (by decide)
  · by_cases hl : xs.getLast? = some 0
    · have hM : mayB s xs = false := by unfold mayB; rw [if_neg h0]; exact decide_eq_false (fun e => e hl)
      rw [hM]
      by_cases hst : s = t
      · subst hst
        refine zsame_no fun W hW => same_no (h.ext hW) (hc.sl.ext hW) (fun e => ?_) (by omega) (by have := hc.2; omega)
        have := nd_last (b := 4294967296) (by omega) (nv 4294967296 xs)
        rw [← e] at this
        exact this hl
      · exact zsame_ne hst
    · have hM : mayB s xs = true := by unfold mayB; rw [if_neg h0]; exact decide_eq_true hl
      have he : xs = nd 4294967296 (nv 4294967296 xs) := eq_nd (by omega) ⟨hx, hl⟩ rfl
      have hp : 0 < nv 4294967296 xs := by
        rcases Nat.eq_zero_or_pos (nv 4294967296 xs) with h1 | h1
        · rw [h1, nd_zero] at he; exact absurd he h0
        · exact h1
      rw [hM]
      have hst : s = t := by rw [ht, decide_eq_true hp, Bool.and_true]
      exact zsame_of hst fun W hW => same_yes (h.ext hW) (hc.sl.ext hW) he (by omega)
set_option maxHeartbeats 1600000 in
theorem rmay_any {w : World} {s : Bool} {A : Option Addr} {n c K : Nat} {xs : List Nat} (h : Sl .u32 w A n c xs) (hx : Lim 4294967296 xs) (hn : n ≤ K) (hK : K ≤ 10000) : Calls Try.prog 49 #[.agg #[.bool s, .slice A n c]] w (RetE (.bool (mayB s xs)) w) := by
  have B0 := Bx.new w s A n c
  have X0 := hid ((Ext.refl w).alloc (.cells #[.bool s, .slice A n c] 24))
  have HB := hid B0
  have H := hid h
  have HI := hid (show Iz K w s A n c (zv s (nv 4294967296 xs)) from Iz.mk (Nv.mk h hx hn))
  have HL := hid hx
  clear B0 h hx
  go_enter Try.func49, Try.ntmps49
  go_wp2_with fail
  generalize w.alloc (.cells #[.bool s, .slice A n c] 24) = wA at *
  have hk0 : wA.cell? ⟨w.heap.size, 0, none⟩ = some (.bool s) ∧ wA.cell? ⟨w.heap.size, 1, none⟩ = some (.slice A n c) := ⟨HB.out.c0, HB.out.c1⟩
  have hkd : wA.drew.cell? ⟨w.heap.size, 0, none⟩ = some (.bool s) ∧ wA.drew.cell? ⟨w.heap.size, 1, none⟩ = some (.slice A n c) := hk0
  go_region_held3 (fun w' => w'.cell? ⟨w.heap.size, 0, none⟩ = some (.bool s) ∧ w'.cell? ⟨w.heap.size, 1, none⟩ = some (.slice A n c)) (first | (with_reducible exact hk0) | (with_reducible exact hkd) | (with_reducible exact hk1) | (with_reducible exact hk2) | (with_reducible exact hk3))
    (first
      | ((go_at_call 18); (with_reducible refine (zof_v (HI.out.ext (X0.out.trans (Ext.refl _).drew)) (by omega)).mono ?_); rintro e w1 ⟨b1, A1, n1, c1, rfl, o1, x1⟩; have X1 := hid ((Ext.refl wA).drew.trans x1); have hk1 : w1.cell? ⟨w.heap.size, 0, none⟩ = some (.bool s) ∧ w1.cell? ⟨w.heap.size, 1, none⟩ = some (.slice A n c) := ⟨(HB.out.ext X1.out).c0, (HB.out.ext X1.out).c1⟩; have O1 := hid o1; clear o1 x1)
      | ((go_at_call 19); (with_reducible refine (zint_v O1.out (by omega)).mono ?_); rintro e w2 ⟨b2, A2, n2, c2, rfl, o2, x2⟩; have X2 := hid (X1.out.trans x2); have hk2 : w2.cell? ⟨w.heap.size, 0, none⟩ = some (.bool s) ∧ w2.cell? ⟨w.heap.size, 1, none⟩ = some (.slice A n c) := ⟨(HB.out.ext X2.out).c0, (HB.out.ext X2.out).c1⟩; have O2 := hid o2; clear o2 x2)
      | ((go_at_call 17); (with_reducible refine (zsame_may (H.out.ext (X0.out.trans X2.out)) HL.out (by omega) O2.out (by omega)).mono ?_); rintro e w3 ⟨rfl, x3⟩; have X3 := hid (X2.out.trans x3); have hk3 : w3.cell? ⟨w.heap.size, 0, none⟩ = some (.bool s) ∧ w3.cell? ⟨w.heap.size, 1, none⟩ = some (.slice A n c) := ⟨(HB.out.ext X3.out).c0, (HB.out.ext X3.out).c1⟩; clear x3))
  clear hk0 hkd hk1 hk2 hk3
  go_wp2_with fail
  go_ret
  exact ⟨rfl, X0.out.trans X3.out⟩
end Go.Proofs.Ytmfgcjjoagdamaa
