
/-
  The contracts of the document's answer for layer 1: Cmp, Add, Sub.
-/
import Derived.Test.YtmfgcjjoagdamaaRef1
import Derived.Test.YtmfgcjjoagdamaaCmp
import Derived.Test.YtmfgcjjoagdamaaMath2
namespace Go.Proofs.Ytmfgcjjoagdamaa
open Go.RowKit
open Go.Lib (hid)

set_option maxHeartbeats 1600000 in
theorem rcmp_any {w : World} {A A' : Option Addr} {n c n' c' p q : Nat} (h : Sl .i64 w A n c (nd 10 p)) (h' : Sl .i64 w A' n' c' (nd 10 q)) (hn : n ≤ 1099511627776) (hn' : n' ≤ 1099511627776) :
    Calls Try.prog 79 #[.slice A n c, .slice A' n' c'] w (RetE (.int .i64 (cmpN p q)) w) := by
  have e1 : nv 10 (nd 10 p) = p := nv_nd (by omega) p
  have e2 : nv 10 (nd 10 q) = q := nv_nd (by omega) q
  have k1 := canon_nd (b := 10) (by omega) p
  have k2 := canon_nd (b := 10) (by omega) q
  generalize nd 10 p = X at *
  generalize nd 10 q = Y at *
  subst e1
  subst e2
  have K1 := hid k1
  have K2 := hid k2
  clear k1 k2
  have HX := hid h.len
  have HY := hid h'.len
  have H := hid h
  have H' := hid h'
  clear h h'
  rcases Nat.lt_trichotomy n n' with hlt | heq | hgt
  · have hv : cmpN (nv 10 X) (nv 10 Y) = -1 := cmpN_lt (nv_lt_len (by omega) K1.out.1 K2.out (by rw [HX.out, HY.out]; exact hlt))
    rw [hv]
    clear hv
    have hb : ((n : Int) != (n' : Int)) = true := by rw [bne_iff_ne]; omega
    go_enter Try.func79, Try.ntmps79
    go_wp2_with fail
    go_ret
    exact ⟨rfl, Ext.refl _⟩
  · subst heq
    go_enter Try.func79, Try.ntmps79
    go_wp2_with fail
    go_loopw [5] (fun s wr => ∃ j : Nat, j ≤ n ∧ s = .int .i64 ((j : Int) - 1) ∧ X.drop j = Y.drop j ∧ Ext w wr) (fun s _ => (intOf s + 1).toNat)
    case atStart => exact ⟨n, Nat.le_refl _, rfl, by rw [List.drop_eq_nil_of_le (by rw [HX.out]; omega), List.drop_eq_nil_of_le (by rw [HY.out]; omega)], Ext.refl _⟩
    case round =>
      obtain ⟨j, hj, rfl, hd, hx⟩ := hrel
      have HD := hid hd
      have H1 := hid (H.out.ext hx)
      have H2 := hid (H'.out.ext hx)
      have HE := hid hx
      clear hd hx
      rcases Nat.eq_zero_or_pos j with h0 | h0
      · subst h0
        have hxy : X = Y := by have := HD.out; simpa using this
        have hv : cmpN (nv 10 X) (nv 10 Y) = 0 := by rw [hxy]; exact cmpN_eq _
        have hv := hid hv
        clear hxy
        go_wp2_with (go_quiet (fail))
        go_ret
        exact ⟨by rw [hv.out]; rfl, HE.out⟩
      · obtain ⟨i, rfl⟩ : ∃ i, j = i + 1 := ⟨j - 1, by omega⟩
        obtain ⟨b1, o1, rfl, g1⟩ := H1.out.get (i := i) (by omega)
        obtain ⟨b2, o2, rfl, g2⟩ := H2.out.get (i := i) (by omega)
        have HS := hid (fun e : X[i]?.getD 0 = Y[i]?.getD 0 => drop_step (by rw [HX.out, HY.out]) HD.out e)
        have HL := hid (fun e : X[i]?.getD 0 < Y[i]?.getD 0 => nv_lt_at (b := 10) (by omega) K1.out.1 HD.out (by rw [HX.out, HY.out]) e)
        have HG := hid (fun e : Y[i]?.getD 0 < X[i]?.getD 0 => nv_lt_at (b := 10) (by omega) K2.out.1 HD.out.symm (by rw [HX.out, HY.out]) e)
        generalize X[i]?.getD 0 = x at *
        generalize Y[i]?.getD 0 = y at *
        have hb0 : (0 : Int) ≤ (i : Int) := by omega
        have hb1 : (i : Int) < (n : Int) := by omega
        rcases Nat.lt_trichotomy x y with hc | hc | hc
        · have hc' : (x : Int) < (y : Int) := by omega
          have hv := hid (cmpN_lt (HL.out hc))
          clear HS HL HG
          go_wp2_with (go_quiet (fail))
          go_ret
          exact ⟨by rw [hv.out]; rfl, HE.out.drewN _⟩
        · subst hc
          have hv := hid (HS.out rfl)
          clear HS HL HG
          go_wp2_with (go_quiet (fail))
          go_roundw
          case rel => exact ⟨i, by omega, by first | rfl | go_num, hv.out, by first | exact HE.out.drewN _ | exact (HE.out.drewN _).drewN _⟩
          case measure => simp [intOf]
        · have hc' : (y : Int) < (x : Int) := by omega
          have hc'' : ¬ (x : Int) < (y : Int) := by omega
          have hv := hid (cmpN_gt (HG.out hc))
          clear HS HL HG
          go_wp2_with (go_quiet (fail))
          go_ret
          exact ⟨by rw [hv.out]; rfl, by first | exact HE.out.drewN _ | exact (HE.out.drewN _).drewN _⟩
  · have hv : cmpN (nv 10 X) (nv 10 Y) = 1 := cmpN_gt (nv_lt_len (by omega) K2.out.1 K1.out (by rw [HX.out, HY.out]; exact hgt))
    rw [hv]
    clear hv
    have hb : ((n : Int) != (n' : Int)) = true := by rw [bne_iff_ne]; omega
    have hng : ¬ n < n' := by omega
    go_enter Try.func79, Try.ntmps79
    go_wp2_with fail
    go_ret
    exact ⟨rfl, Ext.refl _⟩
theorem radd_end {b m cy : Nat} {os xs ys : List Nat} (hx : xs.length ≤ m) (hy : ys.length ≤ m) (h0 : cy = 0) (hinv : nv b os + b ^ m * cy = nv b (xs.take m) + nv b (ys.take m)) : nv b os = nv b xs + nv b ys := by
  rw [List.take_of_length_le hx, List.take_of_length_le hy] at hinv
  subst h0
  simpa using hinv

theorem add_cast (cy x y : Nat) : ((cy : Int) + x + y) % 10 = (((cy + x + y) % 10 : Nat) : Int) ∧ ((cy : Int) + x + y) / 10 = (((cy + x + y) / 10 : Nat) : Int) := by omega
theorem add_cast' (cy x : Nat) : ((cy : Int) + x) % 10 = (((cy + x) % 10 : Nat) : Int) ∧ ((cy : Int) + x) / 10 = (((cy + x) / 10 : Nat) : Int) := by omega
theorem add_cast'' (cy : Nat) : (cy : Int) % 10 = ((cy % 10 : Nat) : Int) ∧ (cy : Int) / 10 = ((cy / 10 : Nat) : Int) := by omega

set_option maxHeartbeats 3200000 in
theorem radd_any {w : World} {A B : Option Addr} {n c n' c' p q : Nat} (h : Sl .i64 w A n c (nd 10 p)) (h' : Sl .i64 w B n' c' (nd 10 q)) (hn : n ≤ 1099511627776) (hn' : n' ≤ 1099511627776) :
    Calls Try.prog 67 #[.slice A n c, .slice B n' c'] w (RetO .i64 3 (nd 10 (p + q)) w) := by
  have e1 : nv 10 (nd 10 p) = p := nv_nd (by omega) p
  have e2 : nv 10 (nd 10 q) = q := nv_nd (by omega) q
  have k1 := hid (nd_lim (b := 10) (by omega) p)
  have k2 := hid (nd_lim (b := 10) (by omega) q)
  generalize nd 10 p = X at *
  generalize nd 10 q = Y at *
  subst e1
  subst e2
  obtain ⟨m, hm1, hm2, hm3⟩ : ∃ m, n ≤ m ∧ n' ≤ m ∧ m ≤ 1099511627776 := ⟨max n n', by omega, by omega, by omega⟩
  have H := hid h
  have H' := hid h'
  clear h h'
  go_enter Try.func67, Try.ntmps67
  go_wp2_with fail
  go_loopw [5, 6, 7] (fun so sc si wr => ∃ (i cy : Nat) (A' : Option Addr) (d : Nat) (os : List Nat), i ≤ m + 1 ∧ (i = m + 1 → cy = 0) ∧ so = .slice A' i d ∧ sc = .int .i64 cy ∧ si = .int .i64 i ∧ cy ≤ 1 ∧ Lim 10 os ∧
      nv 10 os + 10 ^ i * cy = nv 10 (X.take i) + nv 10 (Y.take i) ∧ Own .i64 3 wr w.heap.size A' i d os ∧ Ext w wr) (fun _ _ si _ => m + 2 - (intOf si).toNat)
  case atStart => exact ⟨0, 0, none, 0, [], by omega, fun _ => rfl, rfl, rfl, rfl, by omega, fun x hx => by simp at hx, by simp [nv], ⟨by simp, .inl ⟨rfl, rfl⟩⟩, Ext.refl _⟩
  case round =>
    obtain ⟨i, cy, A', d, os, hi, hi2, rfl, rfl, rfl, hcy, hos, hinv, ho, hx⟩ := hrel
    have H1 := hid (H.out.ext hx)
    have H2 := hid (H'.out.ext hx)
    have HE := hid hx
    have HI := hid hinv
    have HO := hid ho
    have HOS := hid hos
    have HI2 := hid hi2
    have HOL := hid ho.len
    clear hx hinv ho hos hi2
    have b1 := lim_getD (b := 10) (by omega) k1.out i
    have b2 := lim_getD (b := 10) (by omega) k2.out i
    by_cases hend : n ≤ i ∧ n' ≤ i ∧ cy = 0
    · obtain ⟨hA, hB, rfl⟩ := hend
      have hv := radd_end (b := 10) (m := i) (by rw [H1.out.len]; exact hA) (by rw [H2.out.len]; exact hB) rfl HI.out
      have hs := hid (rtrim_any HO.out.sl HOS.out)
      have hsh := HO.out.rtrim HOS.out
      rw [hv] at hs hsh
      have HS := hid hsh
      clear hsh hv b1 b2
      have g1 : ¬ i < n := by omega
      have g2 : ¬ i < n' := by omega
      go_wp2_with (go_at_call 90; refine hs.out.mono ?_; rintro e w' ⟨rfl, rfl⟩)
      go_ret
      exact ⟨_, _, rfl, HS.out, HE.out⟩
    · have him : i ≤ m := by
        rcases Nat.lt_or_ge m i with h | h
        · have := HI2.out (by omega); omega
        · exact h
      have hstep : ∀ t, t = cy + X[i]?.getD 0 + Y[i]?.getD 0 → nv 10 (os ++ [t % 10]) + 10 ^ (i + 1) * (t / 10) = nv 10 (X.take (i + 1)) + nv 10 (Y.take (i + 1)) := fun t ht =>
        add_step HOL.out HI.out (by omega)
      have HST := hid hstep
      have hx0 : ¬ i < n → X[i]?.getD 0 = 0 := fun h => by rw [List.getElem?_eq_none (by rw [H1.out.len]; omega)]; rfl
      have hy0 : ¬ i < n' → Y[i]?.getD 0 = 0 := fun h => by rw [List.getElem?_eq_none (by rw [H2.out.len]; omega)]; rfl
      have HX0 := hid hx0
      have HY0 := hid hy0
      clear hstep hx0 hy0
      by_cases g1 : i < n
      · obtain ⟨ba, oa, rfl, gx⟩ := H1.out.get g1
        by_cases g2 : i < n'
        · obtain ⟨bb, ob, rfl, gy⟩ := H2.out.get g2
          generalize X[i]?.getD 0 = x at *
          generalize Y[i]?.getD 0 = y at *
          have HV := hid (add_cast cy x y)
          go_wp2_with (at_builtin; refine wpl_append1 (w0 := w) rfl (.tmp 44) (.tmp 47) _ rfl 3 .i64 8 Try.underlying32 info_int _ ((cy + x + y) % 10) rfl rfl HV.out.1 HO.out HE.out (by omega) (by simp only [maxLen]; omega) ?_; intro A2 c2 w2 ho2 hx2 _)
          go_roundw
          case rel => exact ⟨i + 1, (cy + x + y) / 10, A2, c2, _, by omega, fun h => by omega, rfl, by rw [HV.out.2], by go_num, by omega, lim_append HOS.out (lim_one (Nat.mod_lt _ (by omega))), HST.out _ rfl, ho2, hx2⟩
          case measure => simp [intOf]; omega
        · have hy0 := HY0.out g2
          rw [hy0] at HST
          generalize X[i]?.getD 0 = x at *
          have HV := hid (add_cast' cy x)
          clear hy0 b2
          go_wp2_with (at_builtin; refine wpl_append1 (w0 := w) rfl (.tmp 44) (.tmp 47) _ rfl 3 .i64 8 Try.underlying32 info_int _ ((cy + x) % 10) rfl rfl HV.out.1 HO.out HE.out (by omega) (by simp only [maxLen]; omega) ?_; intro A2 c2 w2 ho2 hx2 _)
          go_roundw
          case rel => exact ⟨i + 1, (cy + x) / 10, A2, c2, _, by omega, fun h => by omega, rfl, by rw [HV.out.2], by go_num, by omega, lim_append HOS.out (lim_one (Nat.mod_lt _ (by omega))), HST.out _ rfl, ho2, hx2⟩
          case measure => simp [intOf]; omega
      · have hx0 := HX0.out g1
        rw [hx0] at HST
        clear hx0 b1
        by_cases g2 : i < n'
        · obtain ⟨bb, ob, rfl, gy⟩ := H2.out.get g2
          generalize Y[i]?.getD 0 = y at *
          have HV := hid (add_cast' cy y)
          go_wp2_with (at_builtin; refine wpl_append1 (w0 := w) rfl (.tmp 44) (.tmp 47) _ rfl 3 .i64 8 Try.underlying32 info_int _ ((cy + y) % 10) rfl rfl HV.out.1 HO.out HE.out (by omega) (by simp only [maxLen]; omega) ?_; intro A2 c2 w2 ho2 hx2 _)
          go_roundw
          case rel => exact ⟨i + 1, (cy + y) / 10, A2, c2, _, by omega, fun h => by omega, rfl, by rw [HV.out.2], by go_num, by omega, lim_append HOS.out (lim_one (Nat.mod_lt _ (by omega))), HST.out _ rfl, ho2, hx2⟩
          case measure => simp [intOf]; omega
        · have hy0 := HY0.out g2
          rw [hy0] at HST
          have hcp : 0 < cy := by omega
          have HV := hid (add_cast'' cy)
          clear hy0 b2
          go_wp2_with (at_builtin; refine wpl_append1 (w0 := w) rfl (.tmp 44) (.tmp 47) _ rfl 3 .i64 8 Try.underlying32 info_int _ (cy % 10) rfl rfl HV.out.1 HO.out HE.out (by omega) (by simp only [maxLen]; omega) ?_; intro A2 c2 w2 ho2 hx2 _)
          go_roundw
          case rel => exact ⟨i + 1, cy / 10, A2, c2, _, by omega, fun h => by omega, rfl, by rw [HV.out.2], by go_num, by omega, lim_append HOS.out (lim_one (Nat.mod_lt _ (by omega))), HST.out _ rfl, ho2, hx2⟩
          case measure => simp [intOf]; omega

set_option maxHeartbeats 3200000 in
theorem rsub_any {w : World} {A B : Option Addr} {n c n' c' p q : Nat} (h : Sl .i64 w A n c (nd 10 p)) (h' : Sl .i64 w B n' c' (nd 10 q)) (hn : n ≤ 1099511627776) (hn' : n' ≤ 1099511627776) (hle : q ≤ p) :
    Calls Try.prog 80 #[.slice A n c, .slice B n' c'] w (RetO .i64 3 (nd 10 (p - q)) w) := by
  have hlen : n' ≤ n := by rw [← h.len, ← h'.len]; exact nd_len_mono (by omega) hle
  have e1 : nv 10 (nd 10 p) = p := nv_nd (by omega) p
  have e2 : nv 10 (nd 10 q) = q := nv_nd (by omega) q
  have k1 := hid (nd_lim (b := 10) (by omega) p)
  have k2 := hid (nd_lim (b := 10) (by omega) q)
  generalize nd 10 p = X at *
  generalize nd 10 q = Y at *
  subst e1
  subst e2
  have HLE := hid hle
  have H := hid h
  have H' := hid h'
  clear h h' hle
  go_enter Try.func80, Try.ntmps80
  go_wp2_with fail
  go_loopw [5, 6, 7] (fun so sc si wr => ∃ (i bw : Nat) (A' : Option Addr) (d : Nat) (os : List Nat), i ≤ n ∧ so = .slice A' i d ∧ sc = .int .i64 bw ∧ si = .int .i64 i ∧ bw ≤ 1 ∧ Lim 10 os ∧
      nv 10 os + nv 10 (Y.take i) = nv 10 (X.take i) + 10 ^ i * bw ∧ Own .i64 3 wr w.heap.size A' i d os ∧ Ext w wr) (fun _ _ si _ => n - (intOf si).toNat)
  case atStart => exact ⟨0, 0, none, 0, [], by omega, rfl, rfl, rfl, by omega, fun x hx => by simp at hx, by simp [nv], ⟨by simp, .inl ⟨rfl, rfl⟩⟩, Ext.refl _⟩
  case round =>
    obtain ⟨i, bw, A', d, os, hi, rfl, rfl, rfl, hbw, hos, hinv, ho, hx⟩ := hrel
    have H1 := hid (H.out.ext hx)
    have H2 := hid (H'.out.ext hx)
    have HE := hid hx
    have HI := hid hinv
    have HO := hid ho
    have HOS := hid hos
    have HOL := hid ho.len
    clear hx hinv ho hos
    by_cases g1 : i < n
    · have b1 := lim_getD (b := 10) (by omega) k1.out i
      have b2 := lim_getD (b := 10) (by omega) k2.out i
      have HST := hid (fun (d bw' : Nat) (hd : d + Y[i]?.getD 0 + bw = X[i]?.getD 0 + 10 * bw') => sub_step (b := 10) HOL.out HI.out hd)
      have hy0 : ¬ i < n' → Y[i]?.getD 0 = 0 := fun h => by rw [List.getElem?_eq_none (by rw [H2.out.len]; omega)]; rfl
      have HY0 := hid hy0
      clear hy0
      obtain ⟨ba, oa, rfl, gx⟩ := H1.out.get g1
      by_cases g2 : i < n'
      · obtain ⟨bb, ob, rfl, gy⟩ := H2.out.get g2
        generalize X[i]?.getD 0 = x at *
        generalize Y[i]?.getD 0 = y at *
        by_cases hneg : x < bw + y
        · have hneg' : (x : Int) - bw - y < 0 := by omega
          have HV : Hid ((x : Int) - bw - y + 10 = ((x + 10 - bw - y : Nat) : Int)) := by show _ = _; omega
          go_wp2_with (at_builtin; refine wpl_append1 (w0 := w) rfl (.tmp 35) (.tmp 37) _ rfl 3 .i64 8 Try.underlying32 info_int _ (x + 10 - bw - y) rfl rfl HV.out HO.out HE.out (by omega) (by simp only [maxLen]; omega) ?_; intro A2 c2 w2 ho2 hx2 _)
          go_roundw
          case rel => exact ⟨i + 1, 1, A2, c2, _, by omega, rfl, rfl, by go_num, by omega, lim_append HOS.out (lim_one (by omega)), HST.out _ _ (by omega), ho2, hx2⟩
          case measure => simp [intOf]; omega
        · have hneg' : ¬ (x : Int) - bw - y < 0 := by omega
          have HV : Hid ((x : Int) - bw - y = ((x - bw - y : Nat) : Int)) := by show _ = _; omega
          go_wp2_with (at_builtin; refine wpl_append1 (w0 := w) rfl (.tmp 35) (.tmp 37) _ rfl 3 .i64 8 Try.underlying32 info_int _ (x - bw - y) rfl rfl HV.out HO.out HE.out (by omega) (by simp only [maxLen]; omega) ?_; intro A2 c2 w2 ho2 hx2 _)
          go_roundw
          case rel => exact ⟨i + 1, 0, A2, c2, _, by omega, rfl, rfl, by go_num, by omega, lim_append HOS.out (lim_one (by omega)), HST.out _ _ (by omega), ho2, hx2⟩
          case measure => simp [intOf]; omega
      · have hy0 := HY0.out g2
        rw [hy0] at HST
        clear hy0 b2
        generalize X[i]?.getD 0 = x at *
        by_cases hneg : x < bw
        · have hneg' : (x : Int) - bw < 0 := by omega
          have HV : Hid ((x : Int) - bw + 10 = ((x + 10 - bw : Nat) : Int)) := by show _ = _; omega
          go_wp2_with (at_builtin; refine wpl_append1 (w0 := w) rfl (.tmp 35) (.tmp 37) _ rfl 3 .i64 8 Try.underlying32 info_int _ (x + 10 - bw) rfl rfl HV.out HO.out HE.out (by omega) (by simp only [maxLen]; omega) ?_; intro A2 c2 w2 ho2 hx2 _)
          go_roundw
          case rel => exact ⟨i + 1, 1, A2, c2, _, by omega, rfl, rfl, by go_num, by omega, lim_append HOS.out (lim_one (by omega)), HST.out _ _ (by omega), ho2, hx2⟩
          case measure => simp [intOf]; omega
        · have hneg' : ¬ (x : Int) - bw < 0 := by omega
          have HV : Hid ((x : Int) - bw = ((x - bw : Nat) : Int)) := by show _ = _; omega
          go_wp2_with (at_builtin; refine wpl_append1 (w0 := w) rfl (.tmp 35) (.tmp 37) _ rfl 3 .i64 8 Try.underlying32 info_int _ (x - bw) rfl rfl HV.out HO.out HE.out (by omega) (by simp only [maxLen]; omega) ?_; intro A2 c2 w2 ho2 hx2 _)
          go_roundw
          case rel => exact ⟨i + 1, 0, A2, c2, _, by omega, rfl, rfl, by go_num, by omega, lim_append HOS.out (lim_one (by omega)), HST.out _ _ (by omega), ho2, hx2⟩
          case measure => simp [intOf]; omega
    · obtain rfl : i = n := by omega
      have hv := sub_end (b := 10) (by omega) H1.out.len (by rw [H2.out.len]; exact hlen) HOL.out HOS.out HLE.out HI.out
      have hs := hid (rtrim_any HO.out.sl HOS.out)
      have hsh := HO.out.rtrim HOS.out
      rw [hv] at hs hsh
      have HS := hid hsh
      clear hsh hv
      go_wp2_with (go_at_call 90; refine hs.out.mono ?_; rintro e w' ⟨rfl, rfl⟩)
      go_ret
      exact ⟨_, _, rfl, HS.out, HE.out⟩
end Go.Proofs.Ytmfgcjjoagdamaa
