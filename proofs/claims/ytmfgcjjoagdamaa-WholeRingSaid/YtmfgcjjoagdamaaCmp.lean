
/-
  The contracts of nat.Cmp, Same.
-/
import Derived.Test.YtmfgcjjoagdamaaShort
namespace Go.Proofs.Ytmfgcjjoagdamaa
open Go.RowKit
open Go.Lib (hid)

/-- What Cmp tells of two numbers. -/
def cmpN (m n : Nat) : Int := if m < n then -1 else if n < m then 1 else 0

theorem cmpN_lt {m n : Nat} (h : m < n) : cmpN m n = -1 := by simp [cmpN, h]
theorem cmpN_gt {m n : Nat} (h : n < m) : cmpN m n = 1 := by simp [cmpN, h]; omega
theorem cmpN_eq (m : Nat) : cmpN m m = 0 := by simp [cmpN]

/-- An answer in a world that has grown. -/
def RetE (v : Value) (w : World) : Ending → World → Prop := fun e w' => e = .returned v ∧ Ext w w'

set_option maxHeartbeats 800000 in
theorem cmp_any {w : World} {A A' : Option Addr} {n c n' c' : Nat} {xs ys : List Nat} (h : Sl .u32 w A n c xs) (hl : Lim 4294967296 xs) (h' : Sl .u32 w A' n' c' ys) (hl' : Lim 4294967296 ys)
    (hn : n ≤ 1099511627776) (hn' : n' ≤ 1099511627776) :
    Calls Try.prog 93 #[.slice A n c, .slice A' n' c'] w (RetE (.int .i64 (cmpN (nv 4294967296 xs) (nv 4294967296 ys))) w) := by
  have h1 := h.short hl
  have h1' := h'.short hl'
  have s1 := hid (short_any h hl)
  have s2 := hid (short_any h' hl')
  have q1 : (nd 4294967296 (nv 4294967296 xs)).length ≤ 1099511627776 := by have := nd_length_le (b := 4294967296) (by omega) hl; have := h.len; omega
  have q2 : (nd 4294967296 (nv 4294967296 ys)).length ≤ 1099511627776 := by have := nd_length_le (b := 4294967296) (by omega) hl'; have := h'.len; omega
  generalize nv 4294967296 xs = p at *
  generalize nv 4294967296 ys = q at *
  have e1 : nv 4294967296 (nd 4294967296 p) = p := nv_nd (by omega) p
  have e2 : nv 4294967296 (nd 4294967296 q) = q := nv_nd (by omega) q
  have k1 := canon_nd (b := 4294967296) (by omega) p
  have k2 := canon_nd (b := 4294967296) (by omega) q
  clear h h' hl hl'
  generalize nd 4294967296 p = X at *
  generalize nd 4294967296 q = Y at *
  subst e1
  subst e2
  have K1 := hid k1
  have K2 := hid k2
  clear k1 k2
  rcases Nat.lt_trichotomy X.length Y.length with hlt | heq | hgt
  · have hv : cmpN (nv 4294967296 X) (nv 4294967296 Y) = -1 := cmpN_lt (nv_lt_len (by omega) K1.out.1 K2.out hlt)
    rw [hv]
    clear hv
    go_enter Try.func93, Try.ntmps93
    go_wp2_with fail
    refine s1.out.mono ?_
    rintro e w' ⟨rfl, rfl⟩
    go_wp2_with fail
    refine s2.out.mono ?_
    rintro e w' ⟨rfl, rfl⟩
    go_wp2_with fail
    go_ret
    exact ⟨rfl, Ext.refl _⟩
  · generalize hY : Y.length = m at *
    have HX := hid heq
    have HY := hid hY
    clear hY
    rw [heq] at h1 s1
    clear heq q1
    go_enter Try.func93, Try.ntmps93
    go_wp2_with fail
    refine s1.out.mono ?_
    rintro e w' ⟨rfl, rfl⟩
    go_wp2_with fail
    refine s2.out.mono ?_
    rintro e w' ⟨rfl, rfl⟩
    go_wp2_with fail
    go_loopw [25] (fun s wr => ∃ i : Nat, i ≤ m ∧ s = .int .i64 i ∧ X.drop (m - i) = Y.drop (m - i) ∧ Ext w wr) (fun s _ => m - (intOf s).toNat)
    case atStart => exact ⟨0, Nat.zero_le _, rfl, by rw [List.drop_eq_nil_of_le (by rw [HX.out]; omega), List.drop_eq_nil_of_le (by rw [HY.out]; omega)], Ext.refl _⟩
    case round =>
      obtain ⟨i, hi, rfl, hd, hx⟩ := hrel
      have HD := hid hd
      have H1 := hid (h1.ext hx)
      have H2 := hid (h1'.ext hx)
      have HE := hid hx
      clear hd hx h1 h1'
      by_cases hlt : i < m
      · obtain ⟨b1, o1, rfl, g1⟩ := H1.out.get (i := m - 1 - i) (by omega)
        obtain ⟨b2, o2, rfl, g2⟩ := H2.out.get (i := m - 1 - i) (by omega)
        have hdrop : X[m - 1 - i]?.getD 0 = Y[m - 1 - i]?.getD 0 → X.drop (m - (i + 1)) = Y.drop (m - (i + 1)) := fun e => by
          have e1 : m - 1 - i + 1 = m - i := by omega
          have e2 : m - (i + 1) = m - 1 - i := by omega
          rw [e2]
          exact drop_step (by rw [HX.out, HY.out]) (by rw [e1]; exact HD.out) e
        have hltv : X[m - 1 - i]?.getD 0 < Y[m - 1 - i]?.getD 0 → nv 4294967296 X < nv 4294967296 Y := fun e => by
          have e1 : m - 1 - i + 1 = m - i := by omega
          exact nv_lt_at (by omega) K1.out.1 (by rw [e1]; exact HD.out) (by rw [HX.out, HY.out]) e
        have hgtv : Y[m - 1 - i]?.getD 0 < X[m - 1 - i]?.getD 0 → nv 4294967296 Y < nv 4294967296 X := fun e => by
          have e1 : m - 1 - i + 1 = m - i := by omega
          exact nv_lt_at (by omega) K2.out.1 (by rw [e1]; exact HD.out.symm) (by rw [HX.out, HY.out]) e
        have HS := hid hdrop
        have HL := hid hltv
        have HG := hid hgtv
        clear hdrop hltv hgtv
        generalize X[m - 1 - i]?.getD 0 = x at *
        generalize Y[m - 1 - i]?.getD 0 = y at *
        rcases Nat.lt_trichotomy x y with hc | hc | hc
        · have hc' : (x : Int) < (y : Int) := by omega
          have hv := hid (cmpN_lt (HL.out hc))
          go_wp2_with (go_quiet (fail))
          go_ret
          exact ⟨by rw [hv.out]; rfl, HE.out.drewN _⟩
        · subst hc
          have hv := hid (HS.out rfl)
          clear HS HL HG
          go_wp2_with (go_quiet (fail))
          go_roundw
          case rel => exact ⟨i + 1, by omega, by go_num, hv.out, by first | exact HE.out.drewN _ | exact (HE.out.drewN _).drewN _⟩
          case measure => simp [intOf]; omega
        · have hc' : (y : Int) < (x : Int) := by omega
          have hc'' : ¬ (x : Int) < (y : Int) := by omega
          have hv := hid (cmpN_gt (HG.out hc))
          clear HS HL HG
          go_wp2_with (go_quiet (fail))
          go_ret
          exact ⟨by rw [hv.out]; rfl, by first | exact HE.out.drewN _ | exact (HE.out.drewN _).drewN _⟩
      · obtain rfl : i = m := by omega
        have hxy : X = Y := by have := HD.out; simpa using this
        have hv : cmpN (nv 4294967296 X) (nv 4294967296 Y) = 0 := by rw [hxy]; exact cmpN_eq _
        have hv := hid hv
        clear hxy
        go_wp2_with (go_quiet (fail))
        go_ret
        exact ⟨by rw [hv.out]; rfl, HE.out⟩
  · have hv : cmpN (nv 4294967296 X) (nv 4294967296 Y) = 1 := cmpN_gt (nv_lt_len (by omega) K2.out.1 K1.out hgt)
    rw [hv]
    clear hv
    have hng : ¬ X.length < Y.length := by omega
    go_enter Try.func93, Try.ntmps93
    go_wp2_with fail
    refine s1.out.mono ?_
    rintro e w' ⟨rfl, rfl⟩
    go_wp2_with fail
    refine s2.out.mono ?_
    rintro e w' ⟨rfl, rfl⟩
    go_wp2_with fail
    go_ret
    exact ⟨rfl, Ext.refl _⟩
end Go.Proofs.Ytmfgcjjoagdamaa
