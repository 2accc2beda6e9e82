/-
  The contract of the document's answer for layer 1: DivMod.
-/
import Derived.Test.YtikkibpjchmajaaPk10
import Derived.Test.YtikkibpjchmajaaPk1
namespace Go.Proofs.Ytikkibpjchmajaa
open Go.RowKit
open Go.Lib (hid)

/-- Quotient and rest. -/
def RetQR (K K' p q : Nat) (w : World) : Ending → World → Prop := fun E w' =>
  ∃ A n c B m d, E = .returned (.tuple #[.slice A n c, .slice B m d]) ∧ Sl .i64 w' A n c (nd 10 p) ∧ Sl .i64 w' B m d (nd 10 q) ∧ n ≤ K ∧ m ≤ K' ∧ Ext w w'

theorem div_row {i q r x t rr : Nat} {qs xs : List Nat} (hi : i < xs.length) (hx : xs[i]?.getD 0 = x) (hinv : nv 10 qs * q + r = nv 10 (xs.drop (i + 1))) (ht : rr + t * q = x + 10 * r) : nv 10 (t :: qs) * q + rr = nv 10 (xs.drop i) := by
  rw [List.drop_eq_getElem_cons hi, nv_cons, nv_cons, ← hinv]
  rw [List.getElem?_eq_getElem hi] at hx
  have hx : xs[i] = x := hx
  rw [hx, Nat.add_mul, Nat.mul_assoc]
  generalize nv 10 qs * q = t1 at *
  generalize t * q = t2 at *
  omega
theorem div_dig {q r x t rr : Nat} (hr : r < q) (hx : x < 10) (ht : rr + t * q = x + 10 * r) (hge : q ≤ rr) : t + 1 < 10 := by
  rcases Nat.lt_or_ge (t + 1) 10 with h | h
  · exact h
  · exfalso
    have h1 : 9 * q ≤ t * q := Nat.mul_le_mul_right _ (by omega)
    omega

theorem rtrim_own {w : World} {lo v : Nat} {A : Option Addr} {n c : Nat} {zs : List Nat} (h : Own .i64 3 w lo A n c zs) (hl : Lim 10 zs) (hv : nv 10 zs = v) :
    Calls Try.prog 89 #[.slice A n c] w fun e w' => ∃ z, e = .returned (.slice A z c) ∧ w = w' ∧ Hid (Own .i64 3 w lo A z c (nd 10 v)) := by
  subst hv
  exact (rtrim_any h.sl hl).mono fun e w' ⟨h1, h2⟩ => ⟨_, h1, h2, h.rtrim hl⟩

set_option maxHeartbeats 3200000 in
theorem rdivmod_any {w : World} {A B : Option Addr} {n c n' c' p q : Nat} (h : Sl .i64 w A n c (nd 10 p)) (h' : Sl .i64 w B n' c' (nd 10 q)) (hn : n ≤ 1073741824) (hn' : n' ≤ 1073741824) (hq : 0 < q) :
    Calls Try.prog 68 #[.slice A n c, .slice B n' c'] w (RetQR n n' (p / q) (p % q) w) := by
  have e1 : nv 10 (nd 10 p) = p := nv_nd (by omega) p
  have k1 := hid (nd_lim (b := 10) (by omega) p)
  generalize nd 10 p = X at *
  subst e1
  have H := hid h
  have H' := hid h'
  have HQ := hid (fun r (hr : r < q) => show (nd 10 r).length ≤ n' by rw [← h'.len]; exact nd_len_mono (by omega) (by omega))
  clear h h'
  go_enter Try.func68, Try.ntmps68
  go_wp2_with (at_make; refine wpl_make (w0 := w) (Ext.refl _) rfl (.tmp 10) (.tmp 10) _ rfl 3 .i64 8 Try.underlying33 info_int _ n rfl rfl (by omega) (by omega) (by simp only [maxLen]; omega) ?_; intro g w1 hg1 ho1 hx1)
  have O1 := hid ho1
  have X1 := hid hx1
  clear ho1 hx1
  go_loopw [7, 8] (fun sr si wr => ∃ (j r l : Nat) (R : Option Addr) (d : Nat) (qs : List Nat), j ≤ n ∧ si = .int .i64 ((j : Int) - 1) ∧ sr = .slice R l d ∧ r < q ∧ l ≤ n' ∧ qs.length = n - j ∧ Lim 10 qs ∧ nv 10 qs * q + r = nv 10 (X.drop j) ∧
      Sl .i64 wr R l d (nd 10 r) ∧ (∀ b o, R = some ⟨b, o, none⟩ → 0 < l → b ≠ g) ∧ Own .i64 3 wr w.heap.size (some ⟨g, 0, none⟩) n n (List.replicate j 0 ++ qs) ∧ Ext w wr) (fun _ si _ => (intOf si + 1).toNat)
  case atStart =>
    exact ⟨n, 0, 0, none, 0, [], Nat.le_refl _, rfl, rfl, hq, by omega, by simp, fun x hx => by simp at hx, by rw [List.drop_eq_nil_of_le (by rw [H.out.len]; omega)]; simp [nv],
      ⟨rfl, Nat.le_refl _, by simp [maxLen], fun h => absurd h (by omega)⟩, fun b o h => (by cases h), by simpa using O1.out, X1.out⟩
  case round =>
    clear O1 X1
    obtain ⟨j, r, l, R, d, qs, hj, rfl, rfl, hr, hl, hql, hqs, hinv, hsr, hne, ho, hx⟩ := hrel
    have HE := hid hx
    have HI := hid hinv
    have HO := hid ho
    have HL := hid hqs
    have HQL := hid hql
    have HR := hid hsr
    have HNE := hid hne
    clear hx hinv ho hqs hql hsr hne
    rcases Nat.eq_zero_or_pos j with h0 | h0
    · subst h0
      have ho := HO.out
      simp only [List.replicate_zero, List.nil_append] at ho
      have hv : nv 10 qs * q + r = nv 10 X := by have := HI.out; simpa using this
      have hqv : nv 10 qs = nv 10 X / q := by rw [← hv, Nat.mul_comm, Nat.mul_add_div hq, Nat.div_eq_of_lt hr, Nat.add_zero]
      have hm : r = nv 10 X % q := by rw [← hv, Nat.mul_comm, Nat.mul_add_mod, Nat.mod_eq_of_lt hr]
      have hs := hid (rtrim_any ho.sl HL.out)
      have hsh := ho.rtrim HL.out
      have hln := nd_length_le (b := 10) (by omega) HL.out
      rw [HQL.out, Nat.sub_zero] at hln
      rw [hqv] at hs hsh hln
      have HS := hid hsh
      have HM := hid hm
      have HLN := hid hln
      clear hsh hv hqv hm ho hln
      go_wp2_with (go_at_call 89; refine hs.out.mono ?_; rintro e w' ⟨rfl, rfl⟩)
      go_ret2
      exact ⟨_, _, _, _, _, _, rfl, HS.out.sl, HM.out ▸ HR.out, HLN.out, hl, HE.out⟩
    · obtain ⟨i, rfl⟩ : ∃ i, j = i + 1 := ⟨j - 1, by omega⟩
      obtain ⟨ba, oa, rfl, g1⟩ := (H.out.ext HE.out).get (i := i) (by omega)
      have b1 := lim_getD (b := 10) (by omega) k1.out i
      have hxi : i < X.length := by rw [H.out.len]; omega
      have HXI := hid hxi
      obtain ⟨x, hxd⟩ : ∃ x, X[i]?.getD 0 = x := ⟨_, rfl⟩
      have HXD := hid hxd
      rw [hxd] at b1 g1
      clear hxi hxd
      have hgl := HO.out.lo_le.2
      have hval : nv 10 ([x] ++ nd 10 r) = x + 10 * r := by rw [List.singleton_append, nv_cons, nv_nd (by omega)]
      have hlim : Lim 10 ([x] ++ nd 10 r) := lim_append (lim_one b1) (nd_lim (by omega) r)
      have HVL := hid hval
      have HLM := hid hlim
      clear hval hlim
      have hb0 : (0 : Int) ≤ (i : Int) := by omega
      have hb1 : (i : Int) < (n : Int) := by omega
      go_wp2_with (first
        | ((with_reducible refine wpl_lit1 (w0 := wr) (Ext.refl _) rfl _ _ rfl 3 .i64 8 Try.underlying33 info_int _ x rfl rfl ?_); intro ga wa hga oa hxa hya; have OA := hid oa; have XA := hid hxa; clear oa hxa hya)
        | (at_builtin; refine wpl_append (w0 := wr) rfl (.tmp 23) (.tmp 24) _ rfl 3 .i64 8 Try.underlying33 info_int rfl rfl OA.out (HR.out.ext XA.out) XA.out (by omega) (by simp only [maxLen]; omega) ?_; intro A2 n2 c2 w2 o2 hx2 hg2 hn2; have O2 : Hid (Own .i64 3 w2 wr.heap.size A2 n2 c2 ([x] ++ nd 10 r)) := hid o2; have X2 := hid hx2; clear o2 hx2 hg2 XA OA)
        | (go_at_call 89; (with_reducible refine (rtrim_own O2.out HLM.out HVL.out).mono ?_); rintro E3 w3 ⟨z, rfl, rfl, R1⟩))
      have hr1 := R1.out
      have ON := hid (HO.out.ext X2.out)
      have XN := hid (HE.out.trans X2.out)
      have hl2 : z ≤ n' + 1 := by
        rw [← hr1.len, nd_len_le (by omega)]
        have h1 : r < 10 ^ n' := by rw [← nd_len_le (by omega)]; exact HQ.out r hr
        rw [Nat.pow_succ]
        omega
      clear hr1 HO HE HR HNE
      obtain ⟨wo, rfl⟩ : ∃ wo : World, wo = wr := ⟨_, rfl⟩
      go_loopw [7] (fun sr wr => ∃ (t rr l : Nat) (R : Option Addr) (d : Nat), sr = .slice R l d ∧ rr + t * q = x + 10 * r ∧ t < 10 ∧ l ≤ n' + 1 ∧ Sl .i64 wr R l d (nd 10 rr) ∧ (∀ b o, R = some ⟨b, o, none⟩ → 0 < l → b ≠ g) ∧
          Own .i64 3 wr w.heap.size (some ⟨g, 0, none⟩) n n (List.replicate i 0 ++ t :: qs) ∧ Ext w wr) (fun _ wr => 10 - (((wr.cell? ⟨g, i, none⟩).elim 0 intOf)).toNat)
      case atStart =>
        refine ⟨0, x + 10 * r, z, A2, c2, rfl, by omega, by omega, hl2, R1.out.sl, fun b o hb hp => ?_, ?_, XN.out⟩
        · rcases R1.out.form with ⟨h1, h2, _⟩ | ⟨g', h1, h2, _⟩
          · omega
          · rw [h1] at hb
            injection hb with hb
            injection hb with hb
            omega
        · have := ON.out
          rw [← List.replicate_append_replicate, List.append_assoc] at this
          exact this
      case round =>
        clear R1 ON XN O2 X2 hl2
        obtain ⟨t, rr, l2, R2, d2, rfl, ht, ht10, hl2, hsr, hne, ho, hx⟩ := hrel
        have HE := hid hx
        have HO := hid ho
        have HR := hid hsr
        have HNE := hid hne
        have HT := hid ht
        clear hx ho hsr hne ht
        have gc := HO.out.cell (i := i) (by omega)
        have gf := HO.out.frozen i
        rw [List.getElem?_append_right (by simp), List.length_replicate, Nat.sub_self] at gc
        have gc : wr.cell? ⟨g, i, none⟩ = some (.int .i64 (t : Int)) := gc
        have cc := hid (rcmp_any HR.out (H'.out.ext HE.out) (by omega) (by omega))
        by_cases hge : q ≤ rr
        · have hv0 : 0 ≤ cmpN rr q := by unfold cmpN; rw [if_neg (by omega)]; split <;> omega
          generalize cmpN rr q = v at cc hv0
          have hd := div_dig hr b1 HT.out hge
          go_wp2_with fail
          refine cc.out.mono ?_
          rintro E w4 ⟨rfl, x4⟩
          have sc := hid (rsub_any (HR.out.ext x4) (H'.out.ext (HE.out.trans x4)) (by omega) (by omega) hge)
          have X4 := hid x4
          clear x4 cc
          go_wp2_with fail
          refine sc.out.mono ?_
          rintro E w5 ⟨A5, c5, rfl, o5, x5⟩
          have X5 := hid (X4.out.trans x5)
          have O5 := hid o5
          have gg := HO.out.lo_le.2
          have s4 := X4.out.size
          have OO := hid (HO.out.ext X5.out)
          have gc5 := (Below.cell X5.out (p := ⟨g, i, none⟩) gg).trans gc
          have gf5 := OO.out.frozen i
          have hl5 : (nd 10 (rr - q)).length ≤ n' + 1 := by
            have h1 := nd_len_mono (b := 10) (by omega) (Nat.sub_le rr q)
            have h2 := HR.out.len
            omega
          clear o5 x5 sc gc gf
          have hov : ((t : Int) + 1) = ((t + 1 : Nat) : Int) := by omega
          generalize hz2 : nd 10 (rr - q) = Z2 at *
          have HZ2 := hid hz2
          clear hz2
          generalize hz3 : Z2.length = z2 at *
          have HZ3 := hid hz3
          clear hz3 hov
          go_wp2_with fail
          have ht1 : rr - q + (t + 1) * q = x + 10 * r := by
            have := HT.out
            rw [Nat.add_mul, Nat.one_mul]
            omega
          have hset := OO.out.set i (t + 1)
          rw [List.set_append_right _ _ (by simp), List.length_replicate, Nat.sub_self, List.set_cons_zero] at hset
          have hcell2 : (w5.setCell ⟨g, i, none⟩ (.int .i64 ((t : Int) + 1))).cell? ⟨g, i, none⟩ = some (.int .i64 ((t + 1 : Nat) : Int)) := by
            have := hset.cell (i := i) (by omega)
            rw [List.getElem?_append_right (by simp), List.length_replicate, Nat.sub_self] at this
            exact this
          refine ⟨⟨t + 1, rr - q, z2, A5, c5, rfl, ht1, hd, hl5, ?_, fun b o hb hp => ?_, hset, (HE.out.trans X5.out).setCell hg1 _⟩, ?_⟩
          · rw [HZ2.out]
            refine (O5.out.far (p := ⟨g, i, none⟩) (fun g' e => ?_) _).sl
            subst e
            have := O5.out.lo_le.1
            show g' ≠ g
            omega
          · rcases O5.out.form with ⟨h1, h2, _⟩ | ⟨g', h1, h2, _⟩
            · omega
            · rw [h1] at hb
              injection hb with hb
              injection hb with hb
              omega
          · rw [hcell2]
            have gcw : wr.cell? ⟨g, i, none⟩ = some (.int .i64 (t : Int)) := by rw [← gc5]; exact (Below.cell X5.out (p := ⟨g, i, none⟩) gg).symm
            rw [gcw]
            simp [intOf]
            omega
        · have hlt : rr < q := by omega
          rw [cmpN_lt hlt] at cc
          have hrow := div_row HXI.out HXD.out HI.out HT.out
          have HRW := hid hrow
          have hl3 := HQ.out rr hlt
          have hl4 : l2 ≤ n' := by rw [← HR.out.len]; exact hl3
          clear hrow hl3
          go_wp2_with fail
          refine cc.out.mono ?_
          rintro E w4 ⟨rfl, x4⟩
          have X4 := hid x4
          clear x4 cc gc gf
          go_wp2_with fail
          go_roundw
          case rel => exact ⟨i, rr, l2, R2, d2, t :: qs, by omega, rfl, rfl, hlt, hl4, by rw [List.length_cons, HQL.out]; omega, fun y hy => by
            rcases List.mem_cons.1 hy with rfl | hy
            · exact ht10
            · exact HL.out y hy, HRW.out, HR.out.ext X4.out, HNE.out, HO.out.ext X4.out, HE.out.trans X4.out⟩
          case measure => simp [intOf]
end Go.Proofs.Ytikkibpjchmajaa

