/-
  The contract of divide.DivMod: long division.
-/
import Derived.Test.YtikkibpjchmajaaPk12
namespace Go.Proofs.Ytikkibpjchmajaa
open Go.RowKit
open Go.Lib (hid)

theorem set_zero {qs : List Nat} {k z : Nat} : (List.replicate (k + 1) 0 ++ qs).set k z = List.replicate k 0 ++ z :: qs := by
  rw [List.replicate_succ', List.append_assoc, List.set_append_right _ _ (by simp)]
  simp
theorem off_pos {b k l x V r0 N : Nat} (hN : N < b ^ (k + l)) (hoff : N + b ^ k * (x * V) = r0 + b ^ (k + l)) : 0 < x := by
  rcases Nat.eq_zero_or_pos x with h | h
  · subst h; simp at hoff; omega
  · exact h

set_option maxHeartbeats 6400000 in
theorem divmod_main {w : World} {A B : Option Addr} {n c n' c' p q K K' : Nat} (h : Nv K w A n c p) (h' : Nv K' w B n' c' q) (hK : K + K' ≤ 1073741824) (hqB : 4294967296 ≤ q) (hle : q ≤ p) :
    Calls Try.prog 59 #[.slice A n c, .slice B n' c'] w (RetCCE K K' (p / q) (p % q) 0 w) := by
  have t1 := hid (trim_v h (by omega))
  have t2 := hid (fun (w1 : World) (x1 : Ext w w1) => trim_v (h'.ext x1) (by omega))
  have bp := hid h.bound
  have bq := hid h'.bound
  clear h h'
  go_enter Try.func59, Try.ntmps59
  go_wp2_with fail
  refine t1.out.mono ?_
  rintro E w1 ⟨A1, n1, c1, rfl, o1, x1⟩
  have t2 := hid (t2.out _ x1)
  go_wp2_with fail
  refine t2.out.mono ?_
  rintro E w2 ⟨B1, n2, c2, rfl, o2, x2⟩
  have h0 := cn_lenp o2 (by omega)
  have h01 := cn_lenp o1 (by omega)
  have hn2 : 2 ≤ n2 := by
    refine Nat.lt_of_not_le fun hh => ?_
    have : 4294967296 ^ n2 ≤ 4294967296 ^ 1 := Nat.pow_le_pow_right (by omega) hh
    omega
  have hn12 : n2 ≤ n1 := by
    refine Nat.le_of_not_lt fun hh => ?_
    have : 4294967296 ^ n1 ≤ 4294967296 ^ (n2 - 1) := Nat.pow_le_pow_right (by omega) (by omega)
    omega
  have hk1 := o1.2
  have hk2 := o2.2
  have hd : ((n2 : Int) == 0) = false := beq_eq_false_iff_ne.2 (by omega)
  have hd1 : ((n2 : Int) == 1) = false := beq_eq_false_iff_ne.2 (by omega)
  have O1 := hid (o1.ext x2)
  have O2 := hid o2
  have X := hid (x1.trans x2)
  have hv0 : ∃ v : Int, (v = 0 ∨ v = 1) ∧ cmpN p q = v := by
    rcases Nat.eq_or_lt_of_le hle with h | h
    · subst h; exact ⟨0, .inl rfl, cmpN_eq _⟩
    · exact ⟨1, .inr rfl, cmpN_gt h⟩
  obtain ⟨v, hv, hcv⟩ := hv0
  have hv' : 0 ≤ v := by omega
  have cm := hid (cmp_is (v := v) O1.out.nv o2.nv (by omega) hcv)
  have sh := shift_by h0.1 h0.2.1 h0.2.2
  have P1 := hid h01.2.2
  clear t1 t2 o1 o2 x1 x2 h0 h01 hv hcv
  go_wp2_with fail
  refine cm.out.mono ?_
  rintro E w3 ⟨rfl, x3⟩
  have bt := hid (bits_v (O2.out.ext x3).nv (by omega))
  have O1 := hid (O1.out.ext x3)
  have O2 := hid (O2.out.ext x3)
  have X := hid (X.out.trans x3)
  clear cm x3
  obtain ⟨L, hL⟩ : ∃ L, bl q = L := ⟨_, rfl⟩
  rw [hL] at bt sh
  clear hL
  obtain ⟨s, hs⟩ : ∃ s, 32 * n2 - L = s := ⟨_, rfl⟩
  rw [hs] at sh
  have hsL : L + s = 32 * n2 := by omega
  have hs31 := sh.2.1
  have V1 := hid sh.2.2.1
  have V2 := hid sh.2.2.2
  clear sh hs
  go_wp2_with (go_at_call 57; refine bt.out.mono ?_; rintro E w' ⟨rfl, rfl⟩)
  have s1 := hid (shl_v (v := s) (V := 32 * (n2 : Int) - L) (by omega) O2.out.nv (by omega) (by omega))
  refine s1.out.mono ?_
  rintro E w4 ⟨B2, nv2, cv2, rfl, o4, x4⟩
  have hnv : nv2 = n2 := by
    rw [o4.len]
    have h1 := (nd_len_le (b := 4294967296) (n := q * 2 ^ s) (k := n2) (by omega)).2 V2.out
    have h2 : ¬ (nd 4294967296 (q * 2 ^ s)).length ≤ n2 - 1 := fun hh => by
      have h3 := (nd_len_le (b := 4294967296) (by omega)).1 hh
      have h4 : (4294967296 : Nat) ^ n2 = 4294967296 ^ (n2 - 1) * 4294967296 := by rw [← Nat.pow_succ]; congr 1; omega
      have := V1.out
      omega
    omega
  subst hnv
  have O1 := hid (O1.out.ext x4)
  have O4 := hid o4
  have X := hid (X.out.trans x4)
  clear s1 o4 x4 bt O2
  have s2 := hid (shl_v (v := s) (V := 32 * (nv2 : Int) - L) (by omega) O1.out.nv (by omega) (by omega))
  go_wp2_with fail
  refine s2.out.mono ?_
  rintro E w5 ⟨A5, l5, c5, rfl, o5, x5⟩
  have hl5 : l5 ≤ n1 + 1 := by
    rw [o5.len]
    refine (nd_len_le (b := 4294967296) (by omega)).2 ?_
    have h31 : 2 ^ s ≤ 2 ^ 31 := Nat.pow_le_pow_right (by omega) hs31
    rw [Nat.pow_succ]
    exact Nat.mul_lt_mul_of_lt_of_le P1.out (by omega) (by omega)
  have QS := hid (quo_start (b := 4294967296) (s := s) (w := q) (n := nv2) (la := n1) (by have h31 : 2 ^ s ≤ 2 ^ 31 := Nat.pow_le_pow_right (by omega) hs31; omega) P1.out V1.out hn12)
  have VP := hid (Nat.mul_pos (show 0 < q by omega) (Nat.two_pow_pos s))
  have HE2 := hid (fun (N Q : Nat) h1 h2 => quo_end (p := p) (w := q) (s := s) (N := N) (Q := Q) (by omega) h1 h2)
  obtain ⟨V, hV⟩ : ∃ V, q * 2 ^ s = V := ⟨_, rfl⟩
  obtain ⟨P2, hP2⟩ : ∃ P2, p * 2 ^ s = P2 := ⟨_, rfl⟩
  have LV := hid (nd_lim (b := 4294967296) (by omega) (q * 2 ^ s))
  have SV := hid O4.out.sl
  have EV := hid ((nv_nd (b := 4294967296) (by omega) (q * 2 ^ s)).trans hV)
  have o5s := o5.1
  have LU := hid (nd_lim (b := 4294967296) (by omega) (p * 2 ^ s))
  have EU := hid ((nv_nd (b := 4294967296) (by omega) (p * 2 ^ s)).trans hP2)
  rw [hP2] at HE2 QS
  rw [hV] at HE2 QS V1 V2 VP
  generalize nd 4294967296 (p * 2 ^ s) = U0 at *
  generalize nd 4294967296 (q * 2 ^ s) = Y at *
  have O5 := hid o5s
  have X5 := hid x5
  clear s2 o5 o5s x5 hV hP2 O4 O1
  go_wp2_with fail
  go_loopw [13] (fun su wr => ∃ (A' : Option Addr) (l c' : Nat) (zs : List Nat), su = .slice A' l c' ∧ l ≤ n1 + 1 ∧ Lim 4294967296 zs ∧ nv 4294967296 zs = P2 ∧ Own .u32 100 wr w4.heap.size A' l c' zs ∧ Ext w4 wr)
    (fun su _ => match su with | .slice _ l _ => n1 + 1 - l | _ => 0)
  case atStart => exact ⟨_, _, _, U0, rfl, hl5, LU.out, EU.out, O5.out, X5.out⟩
  case round =>
    clear O5 X5 LU EU
    obtain ⟨A', l, c', U, rfl, hl, lU, eU, ho, hx⟩ := hrel
    have HE := hid hx
    have HO := hid ho
    have HL := hid lU
    have HV := hid eU
    clear hx ho lU eU hl5
    by_cases hlt : l ≤ n1
    · go_wp2_with (at_builtin; refine wpl_append1 (w0 := w4) rfl (.tmp 75) (.tmp 76) _ rfl 100 .u32 4 Try.underlying22 info_u32 _ 0 rfl rfl rfl HO.out HE.out (by omega) (by simp only [maxLen]; omega) ?_; intro A2 c2 w6 ho2 hx2 _)
      go_roundw
      case rel => exact ⟨_, _, _, U ++ [0], rfl, by omega, lim_append HL.out (lim_one (by omega)), by rw [nv_append, HV.out]; simp [nv], ho2, hx2⟩
      case measure => simp; omega
    · obtain rfl : l = n1 + 1 := by omega
      rcases HO.out.form with ⟨_, h0, _⟩ | ⟨g, rfl, hg1, hg2⟩
      · omega
      · clear hl hlt
        go_wp2_with (at_make; refine wpl_make (w0 := wr) (Ext.refl _) rfl (.tmp 83) (.tmp 83) _ rfl 100 .u32 4 Try.underlying22 info_u32 _ (n1 + 1 - nv2) rfl rfl (by omega) (by omega) (by simp only [maxLen]; omega) ?_; intro gq w6 hgq hoq hxq)
        have HQ := hid hoq
        have XQ := hid (HE.out.trans hxq)
        have HO := hid (HO.out.ext hxq)
        have hgg : gq ≠ g := by omega
        have hgq2 : wr.heap.size ≤ gq := hgq
        have hwq : w4.heap.size ≤ wr.heap.size := HE.out.size
        have HNE : Hid (∀ b o, B2 = some ⟨b, o, none⟩ → 0 < nv2 → some b ≠ some g) := fun b o e _ e2 => by
          obtain ⟨b', o', e', hlt', _⟩ := SV.out.at_ (by omega)
          rw [e] at e'
          injection e' with e'; injection e' with e'
          injection e2 with e2
          omega
        have HYT : Hid (2147483648 ≤ Y[nv2 - 1]?.getD 0) := by
          show _ ≤ _
          rw [← (top_eq' (b := 4294967296) (by omega) LV.out SV.out.len hn2).2, EV.out, Nat.le_div_iff_mul_le (Nat.pow_pos (by omega))]
          have h1 : (4294967296 : Nat) ^ nv2 = 4294967296 ^ (nv2 - 1) * 4294967296 := by rw [← Nat.pow_succ]; congr 1; omega
          have := V1.out
          omega
        have hlq : n1 + 1 - nv2 + nv2 = n1 + 1 := by omega
        clear hoq hxq
        generalize n1 + 1 - nv2 = lq at *
        obtain ⟨wz, rfl⟩ : ∃ wz : World, wz = w6 := ⟨_, rfl⟩
        go_loopw [87] (fun si wx => ∃ (i : Nat) (R qs : List Nat), i ≤ lq ∧ si = .int .i64 i ∧ Lim 4294967296 R ∧ Own .u32 100 wx w4.heap.size (some ⟨g, 0, none⟩) (n1 + 1) c' R ∧ Own .u32 100 wx wr.heap.size (some ⟨gq, 0, none⟩) lq lq (List.replicate (lq - i) 0 ++ qs) ∧
            qs.length = i ∧ Lim 4294967296 qs ∧ nv 4294967296 R + 4294967296 ^ (lq - i) * (V * nv 4294967296 qs) = P2 ∧ nv 4294967296 R < 4294967296 ^ (lq - i) * V ∧ Ext w4 wx) (fun si _ => lq - (intOf si).toNat)
        case atStart => exact ⟨0, U, [], by omega, rfl, HL.out, HO.out, by simpa using HQ.out, rfl, fun y hy => by simp at hy, by simp [nv, HV.out], by rw [HV.out]; exact QS.out, XQ.out⟩
        case round =>
          clear HO HQ XQ HL HV QS
          obtain ⟨i, R, qs, hi, rfl, lR, hoR, hoQ, hql, lqs, hinv, hsm, hx⟩ := hrel
          have HE := hid hx
          have HO := hid hoR
          have HQ := hid hoQ
          have HL := hid lR
          have HI := hid hinv
          have HS := hid hsm
          have HQL := hid hql
          have LQ := hid lqs
          clear hx hoR hoQ lR hinv hsm hql lqs
          by_cases hlt : i < lq
          · have hk : lq - 1 - i + (nv2 + 1) ≤ n1 + 1 := by omega
            have hcap := HO.out.cap
            have hkB : ∀ j : Nat, (4294967296 : Nat) ^ (j + 1) * V = 4294967296 ^ j * (V * 4294967296) := fun j => by rw [Nat.pow_succ, Nat.mul_assoc, Nat.mul_comm 4294967296 V]
            have e1 : lq - i = (lq - 1 - i) + 1 := by omega
            rw [e1] at HI HS HQ
            have hs1 := HS.out
            rw [hkB] at hs1
            have hwl : nv 4294967296 R < 4294967296 ^ (lq - 1 - i + (nv2 + 1)) := by
              have h1 : 4294967296 ^ (lq - 1 - i) * (V * 4294967296) ≤ 4294967296 ^ (lq - 1 - i) * 4294967296 ^ (nv2 + 1) := by
                rw [Nat.pow_succ 4294967296 nv2]
                exact Nat.mul_le_mul_left _ (Nat.mul_le_mul_right _ (Nat.le_of_lt V2.out))
              rw [Nat.pow_add]; omega
            have HWL := hid hwl
            have hw := window_val (b := 4294967296) (k := lq - 1 - i) (l := nv2 + 1) (by omega) HL.out hwl
            have hws : nv 4294967296 ((R.drop (lq - 1 - i)).take (nv2 + 1)) < nv 4294967296 Y * 4294967296 := by
              rw [hw, EV.out]
              exact Nat.div_lt_of_lt_mul hs1
            have HW := hid hw
            have HPT := hid (HO.out.part (k := lq - 1 - i) (l := nv2 + 1) (cc := nv2 + 1) hk (Nat.le_refl _) (by simp only [maxLen]; omega))
            have gs := guess_any HPT.out (lim_take (fun y hy => HL.out y (List.mem_of_mem_drop hy)) _) (SV.out.ext HE.out) LV.out hn2 (by omega) HYT.out hws
            rw [hw, EV.out] at gs
            have GS := hid gs
            clear e1 hs1 hwl hw hws gs hkB
            have hlen : lq - 1 - i + nv2 + 1 - (lq - 1 - i) = nv2 + 1 := by omega
            have HLN := hid hlen
            have hkl := hid (show lq - (i + 1) = lq - 1 - i from by omega)
            clear hlen
            go_wp2_with (go_quiet (fail))
            rw [HLN.out]
            refine GS.out.mono ?_
            rintro E wa ⟨x, rfl, hxB, hxlo, hxhi, xg⟩
            have HO := hid (HO.out.ext xg)
            have HQ := hid (HQ.out.ext xg)
            have HE := hid (HE.out.trans xg)
            have XLO := hid hxlo
            have XHI := hid hxhi
            have of1 := hid (off_any (k := lq - 1 - i) (l := nv2 + 1) (cc := nv2 + 1) HO.out HL.out hk (by omega) (SV.out.ext HE.out) LV.out HNE.out (by omega) hxB)
            rw [EV.out] at of1
            clear GS HPT xg hxlo hxhi
            go_wp2_with (go_quiet (fail))
            refine of1.out.mono ?_
            rintro E wb ⟨R1, lR1, hd1', ho1, hgb, hcase⟩
            have HO1 := hid ho1
            have HL1 := hid lR1
            have HD1 := hid hd1'
            have HQ1 := hid (HQ.out.grown hgb (fun g' e => by injection e with e; injection e with e; subst e; exact fun e2 => hgg (by injection e2)))
            have HE1 := hid (HE.out.trans_own hgb (fun g' e => by injection e with e; subst e; exact hg1))
            have HN1 := hid (high_lt (b := 4294967296) (by omega) HL.out HL1.out HD1.out HWL.out)
            have gfq := HQ1.out.frozen (lq - 1 - i)
            have gzq := HQ1.out.cell (i := lq - 1 - i) (by omega)
            clear ho1 lR1 hd1' hgb of1
            rcases hcase with ⟨rfl, hv1⟩ | ⟨rfl, hv1⟩
            · have hfin := off_no (b := 4294967296) (k := lq - 1 - i) (x := x) (by omega) VP.out XLO.out hv1
              have F1 := hid hfin.1
              have F2 := hid (quo_step (b := 4294967296) (k := lq - 1 - i) (V := V) hfin.2 HI.out)
              clear hfin hv1
              have HZ := hid (set_zero (qs := qs) (k := lq - 1 - i) (z := x))
              go_wp2_with (go_quiet (fail))
              refine ⟨⟨i + 1, R1, x :: qs, by omega, by go_num, HL1.out, HO1.out.far (fun g' e => by injection e with e; injection e with e; subst e; exact fun e2 => hgg e2.symm) _, ?_, by rw [List.length_cons, HQL.out], fun y hy => ?_, ?_, ?_, HE1.out.setCell (Nat.le_trans hwq hgq2) _⟩, by simp [intOf]; omega⟩
              · rw [hkl.out, ← HZ.out]; exact HQ1.out.set _ _
              · rcases List.mem_cons.1 hy with rfl | hy
                · exact hxB
                · exact LQ.out y hy
              · rw [hkl.out]; exact F2.out
              · rw [hkl.out]; exact F1.out
            · have hx0 := off_pos HN1.out hv1
              have HV1 := hid hv1
              have on1 := hid (on_any (k := lq - 1 - i) (l := nv2 + 1) (cc := nv2 + 1) HO1.out HL1.out hk (by omega) (SV.out.ext HE1.out) LV.out HNE.out (by omega))
              rw [EV.out] at on1
              clear hv1 gfq gzq
              go_wp2_with (go_quiet (fail))
              refine on1.out.mono ?_
              rintro E wc ⟨R2, cy, rfl, lR2, hd2', ho2, hgb2, hv2⟩
              have HO2 := hid ho2
              have HL2 := hid lR2
              have HQ2 := hid (HQ1.out.grown hgb2 (fun g' e => by injection e with e; injection e with e; subst e; exact fun e2 => hgg (by injection e2)))
              have HE2' := hid (HE1.out.trans_own hgb2 (fun g' e => by injection e with e; subst e; exact hg1))
              have hn2' := high_lt (b := 4294967296) (by omega) HL.out lR2 (hd2'.trans HD1.out) HWL.out
              have hfin := off_yes (b := 4294967296) (k := lq - 1 - i) (l := nv2 + 1) (x := x) (by omega) VP.out (Nat.lt_trans V2.out (Nat.pow_lt_pow_right (by omega) (by omega))) XHI.out HN1.out hn2' HWL.out HV1.out hv2
              have F1 := hid hfin.2.1
              have F2 := hid (quo_step (b := 4294967296) (k := lq - 1 - i) (V := V) hfin.2.2 HI.out)
              have gfq := HQ2.out.frozen (lq - 1 - i)
              have gzq := HQ2.out.cell (i := lq - 1 - i) (by omega)
              obtain ⟨y, hy⟩ : ∃ y, x = y + 1 := ⟨x - 1, by omega⟩
              have HZ := hid (set_zero (qs := qs) (k := lq - 1 - i) (z := x - 1))
              have hx1 : ((x : Int) - 1) = ((x - 1 : Nat) : Int) := by omega
              have HX1 := hid hx1
              clear hx1 hy ho2 lR2 hd2' hgb2 hv2 hn2' hfin on1 HV1
              go_wp2_with (go_quiet (fail))
              rw [HX1.out]
              refine ⟨⟨i + 1, R2, (x - 1) :: qs, by omega, by go_num, HL2.out, HO2.out.far (fun g' e => by injection e with e; injection e with e; subst e; exact fun e2 => hgg e2.symm) _, ?_, by rw [List.length_cons, HQL.out], fun y hy => ?_, ?_, ?_, HE2'.out.setCell (Nat.le_trans hwq hgq2) _⟩, by simp [intOf]; omega⟩
              · rw [hkl.out, ← HZ.out]; exact HQ2.out.set _ _
              · rcases List.mem_cons.1 hy with rfl | hy
                · omega
                · exact LQ.out y hy
              · rw [hkl.out]; exact F2.out
              · rw [hkl.out]; exact F1.out
          · obtain rfl : i = lq := by omega
            have hv := HI.out
            have hs := HS.out
            have hQ := HQ.out
            rw [Nat.sub_self, Nat.pow_zero, Nat.one_mul] at hv hs
            rw [Nat.sub_self, List.replicate_zero, List.nil_append] at hQ
            have hfin := HE2.out _ _ hs hv
            have hRV : nv 4294967296 (R.take nv2) = nv 4294967296 R := take_small (by omega) HL.out (Nat.lt_trans hs V2.out)
            have HT := hid (HO.out.take (m := nv2) (by omega))
            have sr := shr_v (v := s) (V := 32 * (nv2 : Int) - L) (by omega) (Nv.mk (K := nv2) HT.out.sl (lim_take HL.out _) (Nat.le_refl _)) (by omega) (by omega)
            rw [hRV, hfin.2.1] at sr
            have SR := hid sr
            have hQ2 := hid hQ
            have FQ := hid hfin.1
            have hcap := HO.out.cap
            have hcn : nv2 ≤ c' := by omega
            clear hv hs hQ hfin hRV sr
            go_wp2_with (go_quiet (fail))
            refine SR.out.mono ?_
            rintro E wd ⟨A6, n6, c6, rfl, o6, x6⟩
            have tq := hid (trim_any (hQ2.out.sl.ext x6) LQ.out (by omega))
            rw [FQ.out] at tq
            have O6 := hid o6
            have X6 := hid x6
            clear SR o6 x6
            go_wp2_with (go_quiet (fail))
            refine tq.out.mono ?_
            rintro E we ⟨A7, c7, rfl, o7, x7⟩
            go_wp2_with (go_quiet (fail))
            go_ret3
            have hsz : w.heap.size ≤ wr.heap.size := (X.out.trans HE.out).size
            refine ⟨_, _, _, _, _, _, rfl, ⟨o7.mono (Nat.le_trans hsz X6.out.size), ?_⟩, ⟨(O6.out.ext x7).1.mono hsz, ?_⟩, ((X.out.trans HE.out).trans X6.out).trans x7⟩
            · exact (nd_len_le (b := 4294967296) (by omega)).2 (Nat.lt_of_le_of_lt (Nat.div_le_self p q) bp.out)
            · rw [O6.out.len]
              exact (nd_len_le (b := 4294967296) (by omega)).2 (Nat.lt_trans (Nat.mod_lt p (by omega)) bq.out)

/-- Quotient and rest, whatever the divisor is but 0. -/
theorem divmod_v {w : World} {A B : Option Addr} {n c n' c' p q K K' : Nat} (h : Nv K w A n c p) (h' : Nv K' w B n' c' q) (hK : K + K' ≤ 1073741824) (hq : 0 < q) :
    Calls Try.prog 59 #[.slice A n c, .slice B n' c'] w (RetCCE K K' (p / q) (p % q) 0 w) := by
  by_cases hlt : p < q
  · rw [Nat.div_eq_of_lt hlt, Nat.mod_eq_of_lt hlt]
    exact divmod_less h h' (by omega) hlt
  · by_cases hb : q < 4294967296
    · exact divmod_limb h h' (by omega) hq hb (by omega)
    · exact divmod_main h h' hK (by omega) (by omega)

theorem exact_zero {w : World} {A B : Option Addr} {n c n' c' p K K' : Nat} (h : Nv K w A n c p) (h' : Nv K' w B n' c' 0) (hK : K + K' ≤ 1073741824) :
    Calls Try.prog 61 #[.slice A n c, .slice B n' c'] w (RetNE 7 w) := by
  have t1 := hid (divmod_zero h h' (by omega))
  clear h h'
  go_enter Try.func61, Try.ntmps61
  go_wp2_with fail
  refine t1.out.mono ?_
  rintro E w1 ⟨A1, n1, c1, A2, n2, c2, rfl, o1, o2, x1⟩
  go_wp2_with fail
  go_ret2
  exact ⟨rfl, x1⟩
theorem exact_yes {w : World} {A B : Option Addr} {n c n' c' p q K K' : Nat} (h : Nv K w A n c p) (h' : Nv K' w B n' c' q) (hK : K + K' ≤ 1073741824) (hq : 0 < q) (hr : p % q = 0) :
    Calls Try.prog 61 #[.slice A n c, .slice B n' c'] w (RetCE K (p / q) 0 w) := by
  have t1 := hid (divmod_v h h' (by omega) hq)
  rw [hr] at t1
  clear h h'
  go_enter Try.func61, Try.ntmps61
  go_wp2_with fail
  refine t1.out.mono ?_
  rintro E w1 ⟨A1, n1, c1, A2, n2, c2, rfl, o1, o2, x1⟩
  have h0 := cn_len0 o2 rfl
  subst h0
  go_wp2_with fail
  go_ret2
  exact ⟨_, _, _, rfl, o1, x1⟩
theorem exact_no {w : World} {A B : Option Addr} {n c n' c' p q K K' : Nat} (h : Nv K w A n c p) (h' : Nv K' w B n' c' q) (hK : K + K' ≤ 1073741824) (hq : 0 < q) (hr : p % q ≠ 0) :
    Calls Try.prog 61 #[.slice A n c, .slice B n' c'] w (RetNE 2 w) := by
  have t1 := hid (divmod_v h h' (by omega) hq)
  clear h h'
  go_enter Try.func61, Try.ntmps61
  go_wp2_with fail
  refine t1.out.mono ?_
  rintro E w1 ⟨A1, n1, c1, A2, n2, c2, rfl, o1, o2, x1⟩
  have h0 := (cn_lenp o2 (by omega)).1
  have h1 : (0 : Int) < n2 := by omega
  clear t1 o1 o2 hr
  go_wp2_with fail
  go_ret2
  exact ⟨rfl, x1⟩
end Go.Proofs.Ytikkibpjchmajaa

