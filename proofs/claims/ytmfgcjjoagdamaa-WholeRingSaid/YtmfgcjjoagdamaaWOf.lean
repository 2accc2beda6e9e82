
/-
  The contracts of layer 4's Of, Small, May and of the document's Same.
-/
import Derived.Test.YtmfgcjjoagdamaaWAdd
import Derived.Test.YtmfgcjjoagdamaaCn
namespace Go.Proofs.Ytmfgcjjoagdamaa
open Go.RowKit
open Go.Lib (hid)

theorem zsame_of {w : World} {s t : Bool} {A B : Option Addr} {n c m d : Nat} (hst : s = t) (h : ∀ W, Ext w W → Calls Try.prog 56 #[.slice A n c, .slice B m d] W (RetE (.bool true) W)) :
    Calls Try.prog 17 #[.agg #[.bool s, .slice A n c], .agg #[.bool t, .slice B m d]] w (RetE (.bool true) w) := by
  subst hst
  have X := hid (((Ext.refl w).alloc (.cells #[.bool s, .slice A n c] 24)).alloc (.cells #[.bool s, .slice B m d] 24))
  have hc := hid (h _ X.out)
  clear h
  cases s
  · go_enter Try.func17, Try.ntmps17
    go_wp2_with fail
    refine hc.out.mono ?_
    rintro E w1 ⟨rfl, x1⟩
    go_wp2_with fail
    go_ret
    exact ⟨rfl, X.out.trans x1⟩
  · go_enter Try.func17, Try.ntmps17
    go_wp2_with fail
    refine hc.out.mono ?_
    rintro E w1 ⟨rfl, x1⟩
    go_wp2_with fail
    go_ret
    exact ⟨rfl, X.out.trans x1⟩
/-- Two canonical numbers that are one. -/
theorem zsame_v {w : World} {s t : Bool} {A B : Option Addr} {n c m d K K' lo lo' : Nat} {x y : Int} (h : Ci K w lo s A n c x) (h' : Ci K' w lo' t B m d y) (hK : K ≤ 1099511627776) (he : x = y) :
    Calls Try.prog 17 #[.agg #[.bool s, .slice A n c], .agg #[.bool t, .slice B m d]] w (RetE (.bool true) w) := by
  subst he
  exact zsame_of (h.1.trans h'.1.symm) fun W hx => same_c (h.2.ext hx) (h'.2.ext hx) hK rfl

theorem wof_v {w : World} {n : Int} (h0 : -9223372036854775808 ≤ n) (h1 : n ≤ 9223372036854775807) : Calls Try.prog 44 #[.int .i64 n] w (RetI 2 n w) := by
  have hb := hid (Bx.new w false none 0 0)
  have X := hid ((Ext.refl w).alloc (.cells #[.bool false, .slice none 0 0] 24))
  by_cases hn : n < 0
  · have HE : Hid (IntKind.u64.wrap (-IntKind.u64.wrap n) = (n.natAbs : Int)) := by show _ = _; rw [IntKind.wrap_u64, IntKind.wrap_u64]; omega
    have hz : Hid (zv true n.natAbs = n) := by show _ = _; simp [zv]; omega
    have hbd : n.natAbs < 18446744073709551616 := by omega
    go_enter Try.func44, Try.ntmps44
    go_wp2_with fail
    refine (small_v HE.out hbd).mono ?_
    rintro E w1 ⟨A1, n1, c1, rfl, o1, x1⟩
    go_wp2_with fail
    refine (made_any o1.nv (by omega)).mono ?_
    rintro E w2 ⟨b2, A2, n2, c2, rfl, o2, x2⟩
    have O2 := hid o2
    rw [hz.out] at O2
    have X1 := hid (X.out.trans x1)
    have X2 := hid (X1.out.trans x2)
    have hsz : (w.alloc (.cells #[.bool false, .slice none 0 0] 24)).heap.size ≤ w1.heap.size := x1.size
    rw [size_alloc] at hsz
    have HB := hid ((hb.out.ext x1).ext x2)
    have hc0 := HB.out.c0
    have hc1 := HB.out.c1
    have hf0 := HB.out.fr 0
    have hf1 := HB.out.fr 1
    clear o1 o2 x1 x2
    go_wp2_with fail
    refine ret_b rfl HB.out.put rfl rfl (fin_i O2.out (by omega) (Nat.le_refl _) X2.out)
  · have HE : Hid (IntKind.u64.wrap n = (n.natAbs : Int)) := by show _ = _; rw [IntKind.wrap_u64]; omega
    have HE' : Hid (n = (n.natAbs : Int)) := by show _ = _; omega
    have hz : Hid (zv false n.natAbs = n) := by show _ = _; simp [zv]; omega
    have hbd : n.natAbs < 18446744073709551616 := by omega
    go_enter Try.func44, Try.ntmps44
    go_wp2_with fail
    first | (with_reducible refine (small_v HE'.out hbd).mono ?_) | (with_reducible refine (small_v HE.out hbd).mono ?_)
    rintro E w1 ⟨A1, n1, c1, rfl, o1, x1⟩
    go_wp2_with fail
    refine (made_any o1.nv (by omega)).mono ?_
    rintro E w2 ⟨b2, A2, n2, c2, rfl, o2, x2⟩
    have O2 := hid o2
    rw [hz.out] at O2
    have X1 := hid (X.out.trans x1)
    have X2 := hid (X1.out.trans x2)
    have hsz : (w.alloc (.cells #[.bool false, .slice none 0 0] 24)).heap.size ≤ w1.heap.size := x1.size
    rw [size_alloc] at hsz
    have HB := hid ((hb.out.ext x1).ext x2)
    have hc0 := HB.out.c0
    have hc1 := HB.out.c1
    have hf0 := HB.out.fr 0
    have hf1 := HB.out.fr 1
    clear o1 o2 x1 x2
    go_wp2_with fail
    refine ret_b rfl HB.out.put rfl rfl (fin_i O2.out (by omega) (Nat.le_refl _) X2.out)

theorem may_c {w : World} {s : Bool} {A : Option Addr} {n c K lo : Nat} {z : Int} (h : Ci K w lo s A n c z) (hK : K ≤ 1099511627776) : Calls Try.prog 40 #[.agg #[.bool s, .slice A n c]] w (RetE (.bool true) w) := by
  have X := hid ((Ext.refl w).alloc (.cells #[.bool s, .slice A n c] 24))
  by_cases h0 : z = 0
  · subst h0
    have hn := h.2.len0 rfl
    subst hn
    have hs : s = false := h.1
    clear h
    subst hs
    go_enter Try.func40, Try.ntmps40
    go_wp2_with (go_quiet (fail))
    go_ret
    exact ⟨rfl, X.out⟩
  · obtain ⟨j, g, x, rfl, rfl, hx0, hc⟩ := h.2.top (show z.natAbs ≠ 0 by omega)
    have hg := hc _ X.out
    have hxn : ((x : Int) != 0) = true := by rw [bne_iff_ne]; omega
    have hne : ((j : Int) + 1 == 0) = false := beq_eq_false_iff_ne.2 (by omega)
    have hjb : j ≤ 1099511627776 := by have := h.2.2; omega
    clear h hc hx0
    go_enter Try.func40, Try.ntmps40
    go_wp2_with (go_quiet (fail))
    go_ret
    exact ⟨rfl, X.out⟩

theorem wsmall_v {w : World} {s : Bool} {A : Option Addr} {n c K : Nat} {z : Int} (h : Iz K w s A n c z) (hK : K ≤ 1099511627776) (h0 : -9223372036854775808 ≤ z) (h1 : z ≤ 9223372036854775807) :
    Calls Try.prog 45 #[.agg #[.bool s, .slice A n c]] w fun e w' => e = .returned (.tuple #[.int .i64 z, .bool true]) ∧ Ext w w' := by
  have X := hid ((Ext.refl w).alloc (.cells #[.bool s, .slice A n c] 24))
  have hz := h.nv.2
  have wd := hid (word_v (h.nv.1.ext X.out) hK (by omega))
  clear h
  generalize z.natAbs = m at *
  subst hz
  have g0 : ¬ (9223372036854775808 : Int) < (m : Int) := by cases s <;> simp [zv] at h0 h1 <;> omega
  have hd : decide ((9223372036854775808 : Int) < (m : Int)) = false := decide_eq_false g0
  cases s
  · simp only [zv, Bool.false_eq_true, if_false] at h0 h1 ⊢
    have g1 : ((m : Int) == 9223372036854775808) = false := beq_eq_false_iff_ne.2 (by omega)
    go_enter Try.func45, Try.ntmps45
    go_wp2_with (go_at_call 78; refine wd.out.mono ?_; rintro E w' ⟨rfl, rfl⟩)
    go_ret2
    exact ⟨rfl, X.out⟩
  · simp only [zv, if_true] at h0 h1 ⊢
    by_cases g1 : (m : Int) = 9223372036854775808
    · have g1' : ((m : Int) == 9223372036854775808) = true := by rw [beq_iff_eq]; exact g1
      have G1 := hid g1
      have hw : wrap64 (-wrap64 (m : Int)) = -(m : Int) := by rw [g1]; simp [wrap64]
      have HW := hid hw
      clear g1 hw
      go_enter Try.func45, Try.ntmps45
      go_wp2_with (first | (go_at_call 78; refine wd.out.mono ?_; rintro E w' ⟨rfl, rfl⟩) | (go_quiet (fail)))
      go_ret2
      refine ⟨?_, X.out⟩
      show Ending.returned (.tuple #[.int .i64 (wrap64 (-wrap64 (m : Int))), .bool true]) = _
      rw [HW.out]
    · have g1' : ((m : Int) == 9223372036854775808) = false := beq_eq_false_iff_ne.2 g1
      go_enter Try.func45, Try.ntmps45
      go_wp2_with (go_at_call 78; refine wd.out.mono ?_; rintro E w' ⟨rfl, rfl⟩)
      go_ret2
      exact ⟨rfl, X.out⟩

theorem wsmall_no {w : World} {s : Bool} {A : Option Addr} {n c K : Nat} {z : Int} (h : Iz K w s A n c z) (hK : K ≤ 1099511627776) (h0 : z < -9223372036854775808 ∨ 9223372036854775807 < z) :
    Calls Try.prog 45 #[.agg #[.bool s, .slice A n c]] w fun e w' => e = .returned (.tuple #[.int .i64 0, .bool false]) ∧ Ext w w' := by
  have X := hid ((Ext.refl w).alloc (.cells #[.bool s, .slice A n c] 24))
  have hz := h.nv.2
  have hn := h.nv.1.ext X.out
  clear h
  generalize z.natAbs = m at *
  subst hz
  by_cases hm : m < 18446744073709551616
  · have wd := hid (word_v hn hK hm)
    clear hn
    by_cases hg : (9223372036854775808 : Int) < (m : Int)
    · have hd : decide ((9223372036854775808 : Int) < (m : Int)) = true := decide_eq_true hg
      clear h0
      go_enter Try.func45, Try.ntmps45
      go_wp2_with (go_at_call 78; refine wd.out.mono ?_; rintro E w' ⟨rfl, rfl⟩)
      go_ret2
      exact ⟨rfl, X.out⟩
    · have hd : decide ((9223372036854775808 : Int) < (m : Int)) = false := decide_eq_false hg
      have hs : s = false := by cases s <;> simp [zv] at h0 ⊢ <;> omega
      have g1 : ((m : Int) == 9223372036854775808) = true := by subst hs; simp [zv] at h0; rw [beq_iff_eq]; omega
      clear h0
      subst hs
      go_enter Try.func45, Try.ntmps45
      go_wp2_with (first | (go_at_call 78; refine wd.out.mono ?_; rintro E w' ⟨rfl, rfl⟩) | (go_quiet (fail)))
      go_ret2
      exact ⟨rfl, X.out⟩
  · have wd := hid (word_n hn hK (Nat.le_of_not_lt hm))
    clear hn h0 hm
    go_enter Try.func45, Try.ntmps45
    go_wp2_with (go_at_call 78; refine wd.out.mono ?_; rintro E w' ⟨rfl, rfl⟩)
    go_ret2
    exact ⟨rfl, X.out⟩
end Go.Proofs.Ytmfgcjjoagdamaa
