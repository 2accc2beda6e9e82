/-
  The contract of divide.guess: the limb told is the quotient's, or one more.
  The contracts of divide.off and divide.on: a part of a row of limbs, in its place.
  The contract of divide.DivMod.
-/
import Derived.Test.YtikkibpjchmajaaPk11
import Derived.Test.YtikkibpjchmajaaPk1
namespace Go.Proofs.Ytikkibpjchmajaa
open Go.RowKit
open Go.Lib (hid)

theorem Sl.gets {k : IntKind} {w : World} {A : Option Addr} {n c : Nat} {zs : List Nat} (h : Sl k w A n c zs) (hn : 0 < n) : ∃ b o, A = some ⟨b, o, none⟩ ∧ ∀ w', Ext w w' → ∀ i, i < n → w'.cell? ⟨b, o + i, none⟩ = some (.int k ((zs[i]?.getD 0 : Nat) : Int)) := by
  obtain ⟨b, o, e, hlt, hc⟩ := h.at_ hn
  refine ⟨b, o, e, fun w' hx i hi => ?_⟩
  rw [Below.cell hx (p := ⟨b, o + i, none⟩) hlt]
  refine hc i _ ?_
  have := h.len
  rw [List.getElem?_eq_getElem (by omega)]; rfl

def RetG (lo : Nat) (w : World) : Ending → World → Prop := fun E w' => ∃ q : Nat, E = .returned (.int .u64 q) ∧ q < 4294967296 ∧ lo ≤ q ∧ q ≤ lo + 1 ∧ Ext w w'

theorem guess_first {x1 x2 y1 : Nat} (h1 : x1 < 4294967296) (h2 : x2 < 4294967296) (hy : 2147483648 ≤ y1) : (x1 + 4294967296 * x2) / y1 ≤ 8589934592 := by
  refine Nat.le_of_lt_succ ?_
  rw [Nat.div_lt_iff_lt_mul (by omega)]
  omega
theorem u64_tdiv {T d : Nat} (h : T / d ≤ 8589934592) : IntKind.u64.wrap ((T : Int).tdiv d) = ((T / d : Nat) : Int) := by
  rw [IntKind.wrap_u64, ← Int.ofNat_tdiv]
  generalize T / d = q at *
  omega
theorem guess_next {t q r y1 : Nat} (ht : t = q * y1 + r) (hq : 1 ≤ q) : t = (q - 1) * y1 + (r + y1) := by
  obtain ⟨j, rfl⟩ : ∃ j, q = j + 1 := ⟨q - 1, by omega⟩
  rw [ht, Nat.add_sub_cancel, Nat.add_mul]; omega
theorem guess_fin {q y0 r x0 : Nat} (hq : q < 4294967296) (hy : y0 < 4294967296) (hr : 4294967296 ≤ r) : q * y0 ≤ r * 4294967296 + x0 := by
  have := le_sq hq hy
  omega
/-- Where the loop is broken off the guess is a limb. -/
theorem guess_brk {x1 x2 q r y1 : Nat} (h1 : x1 < 4294967296) (hx : x2 ≤ y1) (ht : x1 + 4294967296 * x2 = q * y1 + r) (hr : 4294967296 ≤ r) : q < 4294967296 := by
  refine Nat.lt_of_not_le fun h => ?_
  have := Nat.mul_le_mul_right y1 h
  omega

set_option maxHeartbeats 3200000 in
theorem guess_any {w : World} {A B : Option Addr} {n c c' : Nat} {X Y : List Nat} (h : Sl .u32 w A (n + 1) c X) (lX : Lim 4294967296 X) (h' : Sl .u32 w B n c' Y) (lY : Lim 4294967296 Y) (h2 : 2 ≤ n) (hn : n ≤ 1073741824)
    (hv : 2147483648 ≤ Y[n - 1]?.getD 0) (hs : nv 4294967296 X < nv 4294967296 Y * 4294967296) :
    Calls Try.prog 84 #[.slice A (n + 1) c, .slice B n c'] w (RetG (nv 4294967296 X / nv 4294967296 Y) w) := by
  have HT := hid (Tops.of (b := 4294967296) (n := n) (by omega) lX h.len lY h'.len h2 hs (by omega))
  have HLE := hid (top_le (b := 4294967296) (n := n) (by omega) lX h.len lY h'.len h2 hs)
  have hcx := h.cap
  have hcy := h'.cap
  obtain ⟨ba, oa, rfl, ca⟩ := h.gets (by omega)
  obtain ⟨bb, ob, rfl, cb⟩ := h'.gets (by omega)
  have CA := hid ca
  have CB := hid cb
  have b0 := lim_getD (b := 4294967296) (by omega) lX (n - 2)
  have b1 := lim_getD (b := 4294967296) (by omega) lX (n - 1)
  have b2 := lim_getD (b := 4294967296) (by omega) lX n
  have d0 := lim_getD (b := 4294967296) (by omega) lY (n - 2)
  have d1 := lim_getD (b := 4294967296) (by omega) lY (n - 1)
  clear ca cb h h' lX lY hs
  have G : Hid (∀ w', Ext w w' → w'.cell? ⟨ba, oa + n, none⟩ = some (.int .u32 (X[n]?.getD 0 : Nat)) ∧ w'.cell? ⟨ba, oa + (n - 1), none⟩ = some (.int .u32 (X[n - 1]?.getD 0 : Nat)) ∧ w'.cell? ⟨ba, oa + (n - 2), none⟩ = some (.int .u32 (X[n - 2]?.getD 0 : Nat)) ∧
      w'.cell? ⟨bb, ob + (n - 1), none⟩ = some (.int .u32 (Y[n - 1]?.getD 0 : Nat)) ∧ w'.cell? ⟨bb, ob + (n - 2), none⟩ = some (.int .u32 (Y[n - 2]?.getD 0 : Nat))) :=
    fun w' hx => ⟨CA.out w' hx _ (by omega), CA.out w' hx _ (by omega), CA.out w' hx _ (by omega), CB.out w' hx _ (by omega), CB.out w' hx _ (by omega)⟩
  clear CA CB
  generalize nv 4294967296 X = U at *
  generalize nv 4294967296 Y = V at *
  generalize X[n]?.getD 0 = x2 at *
  generalize X[n - 1]?.getD 0 = x1 at *
  generalize X[n - 2]?.getD 0 = x0 at *
  generalize Y[n - 1]?.getD 0 = y1 at *
  generalize Y[n - 2]?.getD 0 = y0 at *
  obtain ⟨Q, hQ⟩ : ∃ Q, U / V = Q := ⟨_, rfl⟩
  rw [hQ]
  have I0 := HT.out.init
  have I1 := hid (fun (q r : Nat) ht hc => HT.out.step (q := q) (r := r) ht hc)
  have I2 := hid (fun (q r : Nat) hq ht hc => HT.out.done (q := q) (r := r) hq ht hc)
  rw [hQ] at I0 I1 I2
  have I0 := hid I0
  clear hQ HT
  have hle := HLE.out
  clear HLE
  have F0 := guess_first b1 b2 hv
  obtain ⟨T, hT⟩ : ∃ T, x1 + 4294967296 * x2 = T := ⟨_, rfl⟩
  rw [hT] at I0 I1 I2 F0
  have HTT := hid hT
  have e1 : ∀ x0 : Nat, x0 < 4294967296 → bits BinOp.or IntKind.u64 ((x2 : Int) * 4294967296) (x1 : Int) = (T : Int) := fun _ _ => by rw [or_hi b1 b2, ← hT]; congr 1; omega
  have E1 := hid (e1 0 (by omega))
  have E2 := hid (u64_tdiv F0)
  clear hT e1
  obtain ⟨ga2, ga1, ga0, gb1, gb0⟩ := G.out w (Ext.refl w)
  have hyne : ((y1 : Int) == 0) = false := beq_eq_false_iff_ne.2 (by omega)
  have w1 : IntKind.i64.wrap ((n : Int) - 1) = ((n - 1 : Nat) : Int) := by rw [IntKind.wrap_i64] <;> omega
  have w2 : IntKind.i64.wrap ((n : Int) - 2) = ((n - 2 : Nat) : Int) := by rw [IntKind.wrap_i64] <;> omega
  go_enter Try.func84, Try.ntmps84
  go_wp2
  go_step3
  go_wp2_with (go_quiet (fail))
  go_step3
  clear ga2 ga1 ga0 gb1 gb0
  go_wp2
  go_loopw [7, 8] (fun sq sr wr => ∃ q r : Nat, sq = .int .u64 q ∧ sr = .int .u64 r ∧ Q ≤ q ∧ q ≤ 8589934592 ∧ T = q * y1 + r ∧ r < 4294967296 ∧ Ext w wr) (fun sq _ _ => (intOf sq).toNat)
  case atStart =>
    refine ⟨T / y1, T % y1, ?_, ?_, I0.out, F0, ?_, ?_, ((Ext.refl w).drewN _).drewN _⟩
    · show Value.int _ _ = _
      rw [E1.out, E2.out]
    · show Value.int _ _ = _
      rw [E1.out, ← Int.ofNat_tmod]
    · rw [Nat.mul_comm]; exact (Nat.div_add_mod T y1).symm
    · have := Nat.mod_lt T (show 0 < y1 by omega)
      omega
  case round =>
    clear I0 E1 E2 F0
    obtain ⟨q, r, rfl, rfl, hq, hqb, ht, hr, hx⟩ := hrel
    obtain ⟨ga2, ga1, ga0, gb1, gb0⟩ := G.out _ hx
    have HE := hid hx
    have HTQ := hid ht
    clear hx ht
    by_cases hbig : 4294967296 ≤ q
    · have hlt := I1.out q r HTQ.out (.inl hbig)
      have HN := hid (guess_next HTQ.out (by omega))
      have hd : decide ((4294967296 : Int) ≤ q) = true := decide_eq_true (by omega)
      by_cases hb2 : 4294967296 ≤ r + y1
      · have hqs := guess_brk (q := q - 1) (r := r + y1) b1 hle (by rw [HTT.out]; exact HN.out) hb2
        have HF := hid (I2.out (q - 1) (r + y1) hqs HN.out (guess_fin hqs d0 hb2))
        have hd2 : decide ((4294967296 : Int) ≤ (r : Int) + y1) = true := decide_eq_true (by omega)
        go_wp2_with (go_quiet (fail))
        rw [Exit.noGoto_ret]
        go_ret
        exact ⟨q - 1, by go_num, hqs, by omega, HF.out, HE.out.drewN _⟩
      · have hd2 : ¬ (4294967296 : Int) ≤ (r : Int) + y1 := by omega
        go_wp2_with (go_quiet (fail))
        exact ⟨⟨q - 1, r + y1, by go_num, by go_num, by omega, by omega, HN.out, by omega, HE.out.drewN _⟩, by simp [intOf]; omega⟩
    · have hd : decide ((4294967296 : Int) ≤ q) = false := decide_eq_false (by omega)
      have hsq := le_sq (show q < 4294967296 by omega) d0
      have w3 : IntKind.u64.wrap ((q : Int) * y0) = (q : Int) * y0 := by rw [← Int.natCast_mul, IntKind.wrap_u64]; omega
      have hor := or_hi b0 hr
      have HS := hid hsq
      clear hsq
      by_cases hgt : r * 4294967296 + x0 < q * y0
      · have hlt := I1.out q r HTQ.out (.inr hgt)
        have HN := hid (guess_next HTQ.out (by omega))
        have hdc : decide (bits BinOp.or IntKind.u64 ((r : Int) * 4294967296) (x0 : Int) < (q : Int) * y0) = true := decide_eq_true (by rw [hor, ← Int.natCast_mul]; omega)
        clear hor
        by_cases hb2 : 4294967296 ≤ r + y1
        · have hqs := guess_brk (q := q - 1) (r := r + y1) b1 hle (by rw [HTT.out]; exact HN.out) hb2
          have HF := hid (I2.out (q - 1) (r + y1) hqs HN.out (guess_fin hqs d0 hb2))
          have hd2 : decide ((4294967296 : Int) ≤ (r : Int) + y1) = true := decide_eq_true (by omega)
          go_wp2_with (go_quiet (fail))
          rw [Exit.noGoto_ret]
          go_ret
          exact ⟨q - 1, by go_num, hqs, by omega, HF.out, HE.out.drewN _⟩
        · have hd2 : ¬ (4294967296 : Int) ≤ (r : Int) + y1 := by omega
          go_wp2_with (go_quiet (fail))
          exact ⟨⟨q - 1, r + y1, by go_num, by go_num, by omega, by omega, HN.out, by omega, HE.out.drewN _⟩, by simp [intOf]; omega⟩
      · have HF := hid (I2.out q r (by omega) HTQ.out (Nat.le_of_not_lt hgt))
        have hdc : decide (bits BinOp.or IntKind.u64 ((r : Int) * 4294967296) (x0 : Int) < (q : Int) * y0) = false := decide_eq_false (by rw [hor, ← Int.natCast_mul]; omega)
        clear hor hgt
        go_wp2_with (go_quiet (fail))
        rw [Exit.noGoto_ret]
        go_ret
        exact ⟨q, rfl, by omega, hq, HF.out, HE.out.drewN _⟩
end Go.Proofs.Ytikkibpjchmajaa

namespace Go.Proofs.Ytikkibpjchmajaa
open Go.RowKit
open Go.Lib (hid)

theorem gb_drewN {a b : World} {row : Option Nat} (h : a.grownBy b row) (n : Nat) : a.grownBy (b.drewN n) row := ⟨h.os, h.tape, h.output, h.size, h.block⟩

def RetOff (lo g k l m c q V : Nat) (R : List Nat) (w : World) : Ending → World → Prop := fun E w' => ∃ R', Lim 4294967296 R' ∧ R'.drop (k + l) = R.drop (k + l) ∧ Own .u32 100 w' lo (some ⟨g, 0, none⟩) m c R' ∧ w.grownBy w' (some g) ∧
  ((E = .returned (.bool false) ∧ nv 4294967296 R' + 4294967296 ^ k * (q * V) = nv 4294967296 R) ∨ (E = .returned (.bool true) ∧ nv 4294967296 R' + 4294967296 ^ k * (q * V) = nv 4294967296 R + 4294967296 ^ (k + l)))

theorem and_lo {T : Nat} (h : T < 18446744073709551616) : bits BinOp.and IntKind.u64 (T : Int) 4294967295 = ((T % 4294967296 : Nat) : Int) := by
  have e := u64_and_nat T 4294967295 h (by omega)
  have e2 : T &&& 4294967295 = T % 4294967296 := Nat.and_two_pow_sub_one_eq_mod T 32
  rw [e2] at e
  exact e
theorem off_form {x y bw : Nat} (hx : x < 4294967296) (hy : y < 4294967296) (hb : bw ≤ 1) : ∃ d bw' : Nat, d < 4294967296 ∧ bw' ≤ 1 ∧ d + y + bw = x + 4294967296 * bw' ∧
    IntKind.u64.wrap (IntKind.u64.wrap ((x : Int) - y) - bw) / 9223372036854775808 = (bw' : Int) ∧ IntKind.u64.wrap (IntKind.u64.wrap ((x : Int) - y) - bw) % 4294967296 = (d : Int) := by
  rw [IntKind.wrap_u64, IntKind.wrap_u64]
  by_cases h : x < y + bw
  · exact ⟨x + 4294967296 - y - bw, 1, by omega, by omega, by omega, by omega, by omega⟩
  · exact ⟨x - y - bw, 0, by omega, by omega, by omega, by omega, by omega⟩

set_option maxHeartbeats 3200000 in
theorem off_any {w : World} {B : Option Addr} {lo g k l m c cc n c' q : Nat} {R Y : List Nat} (ho : Own .u32 100 w lo (some ⟨g, 0, none⟩) m c R) (lR : Lim 4294967296 R) (hkl : k + l ≤ m) (hm : m ≤ 1099511627776)
    (h : Sl .u32 w B n c' Y) (lY : Lim 4294967296 Y) (hne : ∀ b o, B = some ⟨b, o, none⟩ → 0 < n → some b ≠ some g) (hnl : n < l) (hq : q < 4294967296) :
    Calls Try.prog 85 #[.slice (some ⟨g, k, none⟩) l cc, .slice B n c', .int .u64 q] w (RetOff lo g k l m c q (nv 4294967296 Y) R w) := by
  have O1 := hid ho
  have L1 := hid lR
  have H := hid h
  have k2 := hid lY
  have HNE := hid hne
  clear ho lR h lY hne
  go_enter Try.func85, Try.ntmps85
  go_wp2_with fail
  go_loopw [7, 8, 14] (fun sc sb si wr => ∃ (i cy bw : Nat) (O : List Nat), i ≤ l ∧ sc = .int .u64 cy ∧ sb = .int .u64 bw ∧ si = .int .i64 i ∧ cy < 4294967296 ∧ bw ≤ 1 ∧ (n < i → cy = 0) ∧ Lim 4294967296 O ∧
      nv 4294967296 O + 4294967296 ^ k * (q * nv 4294967296 (Y.take i)) = nv 4294967296 R + 4294967296 ^ (k + i) * (cy + bw) ∧ O.drop (k + l) = R.drop (k + l) ∧
      Own .u32 100 wr lo (some ⟨g, 0, none⟩) m c O ∧ w.grownBy wr (some g)) (fun _ _ si _ => l - (intOf si).toNat)
  case atStart => exact ⟨0, 0, 0, R, by omega, rfl, rfl, rfl, by omega, by omega, by omega, L1.out, by simp [nv], rfl, O1.out, gb_refl _ _⟩
  case round =>
    clear O1
    obtain ⟨i, cy, bw, O, hi, rfl, rfl, rfl, hcy, hbw, hcn, hO, hinv, hd, ho, hx⟩ := hrel
    have HE := hid hx
    have HI := hid hinv
    have HO := hid ho
    have HL := hid hO
    have HD := hid hd
    clear hx hinv ho hO hd
    by_cases hlt : i < l
    · have hki : k + i < m := by omega
      have gz := HO.out.cell (i := k + i) hki
      have gf := HO.out.frozen (k + i)
      have bz := lim_getD (b := 4294967296) (by omega) HL.out (k + i)
      have HDS := hid (fun d : Nat => (show (O.set (k + i) d).drop (k + l) = R.drop (k + l) from by rw [List.drop_set_of_lt (by omega)]; exact HD.out))
      by_cases hjn : i < n
      · have hv := H.out.grown HE.out HNE.out
        obtain ⟨bb, ob, rfl, gy⟩ := hv.get hjn
        clear hv
        have by' := lim_getD (b := 4294967296) (by omega) k2.out i
        have HST := hid (fun t u' bw' ht he => off_step (b := 4294967296) (t := t) (u' := u') (bw' := bw') (by rw [HO.out.len]; exact hki) HI.out rfl rfl ht he)
        generalize Y[i]?.getD 0 = y at *
        generalize O[k + i]?.getD 0 = u at *
        have hxy := le_sq hq by'
        go_wp2_with (go_quiet (fail))
        rw [← Int.natCast_mul, ← Int.natCast_add]
        have hTb : cy + q * y < 18446744073709551616 := by omega
        generalize hT : cy + q * y = T at *
        rw [and_lo hTb]
        obtain ⟨d, bw', hd, hb, he, f1, f2⟩ := off_form bz (Nat.mod_lt T (show 0 < 4294967296 by omega)) hbw
        rw [f1, f2]
        exact ⟨⟨i + 1, T / 4294967296, bw', _, by omega, by go_num, rfl, by go_num, by omega, hb, by omega, lim_set HL.out hd, HST.out _ _ _ rfl he, HDS.out _, HO.out.set _ _, gb_set HE.out _⟩, by simp [intOf]; omega⟩
      · have hy0 : Y[i]?.getD 0 = 0 := by rw [List.getElem?_eq_none (by rw [H.out.len]; omega)]; rfl
        have HST := hid (fun t u' bw' ht he => off_step (b := 4294967296) (x := 0) (t := t) (u' := u') (bw' := bw') (by rw [HO.out.len]; exact hki) HI.out hy0 rfl ht he)
        clear hy0
        generalize O[k + i]?.getD 0 = u at *
        go_wp2_with (go_quiet (fail))
        have hTb : cy < 18446744073709551616 := by omega
        obtain ⟨T, hT⟩ : ∃ T, T = cy := ⟨_, rfl⟩
        rw [← hT] at hTb ⊢
        rw [and_lo hTb]
        obtain ⟨d, bw', hd, hb, he, f1, f2⟩ := off_form bz (Nat.mod_lt T (show 0 < 4294967296 by omega)) hbw
        rw [f1, f2]
        exact ⟨⟨i + 1, T / 4294967296, bw', _, by omega, by go_num, rfl, by go_num, by omega, hb, by omega, lim_set HL.out hd, HST.out _ _ _ (by omega) he, HDS.out _, HO.out.set _ _, gb_set HE.out _⟩, by simp [intOf]; omega⟩
    · obtain rfl : i = l := by omega
      have hc0 := hcn hnl
      subst hc0
      have hv := HI.out
      rw [List.take_of_length_le (by rw [H.out.len]; omega), Nat.zero_add] at hv
      have HV := hid hv
      clear hv hcn
      rcases (show bw = 0 ∨ bw = 1 by omega) with rfl | rfl
      · go_wp2_with fail
        go_ret
        exact ⟨_, HL.out, HD.out, HO.out, HE.out, .inl ⟨rfl, by simpa using HV.out⟩⟩
      · go_wp2_with fail
        go_ret
        exact ⟨_, HL.out, HD.out, HO.out, HE.out, .inr ⟨rfl, by simpa using HV.out⟩⟩

def RetOn (lo g k l m c V : Nat) (R : List Nat) (w : World) : Ending → World → Prop := fun E w' => ∃ R' cy, E = .returned (.tuple #[]) ∧ Lim 4294967296 R' ∧ R'.drop (k + l) = R.drop (k + l) ∧ Own .u32 100 w' lo (some ⟨g, 0, none⟩) m c R' ∧ w.grownBy w' (some g) ∧
  nv 4294967296 R' + 4294967296 ^ (k + l) * cy = nv 4294967296 R + 4294967296 ^ k * V

set_option maxHeartbeats 3200000 in
theorem on_any {w : World} {B : Option Addr} {lo g k l m c cc n c' : Nat} {R Y : List Nat} (ho : Own .u32 100 w lo (some ⟨g, 0, none⟩) m c R) (lR : Lim 4294967296 R) (hkl : k + l ≤ m) (hm : m ≤ 1099511627776)
    (h : Sl .u32 w B n c' Y) (lY : Lim 4294967296 Y) (hne : ∀ b o, B = some ⟨b, o, none⟩ → 0 < n → some b ≠ some g) (hnl : n < l) :
    Calls Try.prog 86 #[.slice (some ⟨g, k, none⟩) l cc, .slice B n c'] w (RetOn lo g k l m c (nv 4294967296 Y) R w) := by
  have O1 := hid ho
  have L1 := hid lR
  have H := hid h
  have k2 := hid lY
  have HNE := hid hne
  clear ho lR h lY hne
  go_enter Try.func86, Try.ntmps86
  go_wp2_with fail
  go_loopw [4, 8] (fun sc si wr => ∃ (i cy : Nat) (O : List Nat), i ≤ l ∧ sc = .int .u64 cy ∧ si = .int .i64 i ∧ cy ≤ 1 ∧ Lim 4294967296 O ∧
      nv 4294967296 O + 4294967296 ^ (k + i) * cy = nv 4294967296 R + 1 * 4294967296 ^ k * nv 4294967296 (Y.take i) ∧ O.drop (k + l) = R.drop (k + l) ∧
      Own .u32 100 wr lo (some ⟨g, 0, none⟩) m c O ∧ w.grownBy wr (some g)) (fun _ si _ => l - (intOf si).toNat)
  case atStart => exact ⟨0, 0, R, by omega, rfl, rfl, by omega, L1.out, by simp [nv], rfl, O1.out, gb_refl _ _⟩
  case round =>
    clear O1
    obtain ⟨i, cy, O, hi, rfl, rfl, hcy, hO, hinv, hd, ho, hx⟩ := hrel
    have HE := hid hx
    have HI := hid hinv
    have HO := hid ho
    have HL := hid hO
    have HD := hid hd
    clear hx hinv ho hO hd
    by_cases hlt : i < l
    · have hki : k + i < m := by omega
      have gz := HO.out.cell (i := k + i) hki
      have gf := HO.out.frozen (k + i)
      have bz := lim_getD (b := 4294967296) (by omega) HL.out (k + i)
      have HDS := hid (fun d : Nat => (show (O.set (k + i) d).drop (k + l) = R.drop (k + l) from by rw [List.drop_set_of_lt (by omega)]; exact HD.out))
      by_cases hjn : i < n
      · have hv := H.out.grown HE.out HNE.out
        obtain ⟨bb, ob, rfl, gy⟩ := hv.get hjn
        clear hv
        have by' := lim_getD (b := 4294967296) (by omega) k2.out i
        have HST := hid (fun t ht => mul_step (b := 4294967296) (x := 1) (t := t) (by rw [HO.out.len]; exact hki) HI.out rfl ht)
        generalize Y[i]?.getD 0 = y at *
        generalize O[k + i]?.getD 0 = o at *
        have HC := hid (add_cast32 cy o y)
        go_wp2_with (go_quiet (fail))
        rw [HC.out.1, HC.out.2]
        exact ⟨⟨i + 1, (cy + o + 1 * y) / 4294967296, _, by omega, rfl, by go_num, by omega, lim_set HL.out (Nat.mod_lt _ (by omega)), HST.out _ rfl, HDS.out _, HO.out.set _ _, gb_set HE.out _⟩, by simp [intOf]; omega⟩
      · have hy0 : Y[i]?.getD 0 = 0 := by rw [List.getElem?_eq_none (by rw [H.out.len]; omega)]; rfl
        have HST := hid (fun t ht => mul_step (b := 4294967296) (x := 1) (y := 0) (t := t) (by rw [HO.out.len]; exact hki) HI.out hy0 ht)
        clear hy0
        generalize O[k + i]?.getD 0 = o at *
        have HC := hid (add_cast32' cy o)
        go_wp2_with (go_quiet (fail))
        rw [HC.out.1, HC.out.2]
        exact ⟨⟨i + 1, (cy + o + 1 * 0) / 4294967296, _, by omega, rfl, by go_num, by omega, lim_set HL.out (Nat.mod_lt _ (by omega)), HST.out _ rfl, HDS.out _, HO.out.set _ _, gb_set HE.out _⟩, by simp [intOf]; omega⟩
    · obtain rfl : i = l := by omega
      have hv := HI.out
      rw [List.take_of_length_le (by rw [H.out.len]; omega), Nat.one_mul] at hv
      have HV := hid hv
      clear hv
      go_wp2_with (go_quiet (fail))
      go_end0
      exact ⟨_, cy, rfl, HL.out, HD.out, HO.out, HE.out, HV.out⟩
end Go.Proofs.Ytikkibpjchmajaa

namespace Go.Proofs.Ytikkibpjchmajaa
open Go.RowKit
open Go.Lib (hid)

/-- Two new numbers, and an error's. -/
def RetCCE (K K' q r : Nat) (err : Int) (w : World) : Ending → World → Prop := fun E w' => ∃ A n c B n' c', E = .returned (.tuple #[.slice A n c, .slice B n' c', .int .i64 err]) ∧ Cn K w' w.heap.size A n c q ∧ Cn K' w' w.heap.size B n' c' r ∧ Ext w w'

theorem Cn.none {w : World} {lo : Nat} {K : Nat} : Cn K w lo none 0 0 0 := ⟨⟨rfl, .inl ⟨rfl, rfl⟩⟩, Nat.zero_le _⟩
theorem cn_len0 {K : Nat} {w : World} {lo : Nat} {A : Option Addr} {n c m : Nat} (h : Cn K w lo A n c m) (h0 : m = 0) : n = 0 := by
  have := h.len; subst h0; rw [this]; rfl
theorem cn_lenp {K : Nat} {w : World} {lo : Nat} {A : Option Addr} {n c m : Nat} (h : Cn K w lo A n c m) (h0 : 0 < m) : 0 < n ∧ 4294967296 ^ (n - 1) ≤ m ∧ m < 4294967296 ^ n := by
  have h1 := h.len
  have h2 : n ≠ 0 := fun e => absurd ((nd_eq_nil (b := 4294967296) (by omega)).1 (List.eq_nil_of_length_eq_zero (h1.symm.trans e))) (by omega)
  have h3 := nv_ge_pow (b := 4294967296) (by omega) (canon_nd (by omega) m) (fun e => h2 (by rw [h1, e]; rfl))
  have h4 := nv_lt (b := 4294967296) (by omega) (nd_lim (by omega) m)
  rw [nv_nd (by omega), ← h1] at h3 h4
  exact ⟨by omega, h3, h4⟩

/-- How far a number is shifted till its highest limb is great. -/
theorem shift_by {n w : Nat} (hn : 0 < n) (hlo : 4294967296 ^ (n - 1) ≤ w) (hhi : w < 4294967296 ^ n) : bl w ≤ 32 * n ∧ 32 * n - bl w ≤ 31 ∧ 4294967296 ^ n ≤ w * 2 ^ (32 * n - bl w) * 2 ∧ w * 2 ^ (32 * n - bl w) < 4294967296 ^ n := by
  have e32 : ∀ j : Nat, (4294967296 : Nat) ^ j = 2 ^ (32 * j) := fun j => by rw [show (4294967296 : Nat) = 2 ^ 32 from rfl, ← Nat.pow_mul]
  rw [e32] at hlo hhi ⊢
  have hw : w ≠ 0 := by have := Nat.two_pow_pos (32 * (n - 1)); omega
  obtain ⟨b1, b2, b3⟩ := bl_bounds hw
  have h1 : bl w ≤ 32 * n := bl_le hhi
  have h2 : 32 * (n - 1) < bl w := by
    refine Nat.lt_of_not_le fun h => ?_
    have := Nat.pow_le_pow_right (n := 2) (by omega) h
    omega
  have e1 : 2 ^ (32 * n) = 2 ^ (bl w - 1) * 2 ^ (32 * n - bl w) * 2 := by rw [← Nat.pow_add, ← Nat.pow_succ]; congr 1; omega
  have e2 : 2 ^ (32 * n) = 2 ^ bl w * 2 ^ (32 * n - bl w) := by rw [← Nat.pow_add]; congr 1; omega
  refine ⟨h1, by omega, ?_, ?_⟩
  · rw [e1]; exact Nat.mul_le_mul_right 2 (Nat.mul_le_mul_right _ b2)
  · rw [e2]; exact Nat.mul_lt_mul_of_pos_right b3 (Nat.two_pow_pos _)

theorem Own.part {w : World} {lo g m c k l cc : Nat} {R : List Nat} (h : Own .u32 100 w lo (some ⟨g, 0, none⟩) m c R) (hkl : k + l ≤ m) (hl : l ≤ cc) (hcc : cc ≤ maxLen) : Sl .u32 w (some ⟨g, k, none⟩) l cc ((R.drop k).take l) :=
  ⟨by rw [List.length_take, List.length_drop, h.len]; omega, hl, hcc, fun _ => ⟨g, k, rfl, h.lo_le.2, fun j z hz => by
    have hj : j < l := by
      have := (List.getElem?_eq_some_iff.1 hz).1
      rw [List.length_take] at this; omega
    rw [List.getElem?_take, if_pos hj, List.getElem?_drop] at hz
    rw [h.cell (by omega), hz]; rfl⟩⟩

theorem take_small {b n : Nat} {R : List Nat} (hb : 1 ≤ b) (h : Lim b R) (hv : nv b R < b ^ n) : nv b (R.take n) = nv b R := by
  have := window_val (k := 0) (l := n) hb h (by rwa [Nat.zero_add])
  simpa using this

set_option maxHeartbeats 1600000 in
theorem divmod_zero {w : World} {A B : Option Addr} {n c n' c' p K K' : Nat} (h : Nv K w A n c p) (h' : Nv K' w B n' c' 0) (hK : K + K' ≤ 1099511627776) :
    Calls Try.prog 59 #[.slice A n c, .slice B n' c'] w (RetCCE 0 0 0 0 7 w) := by
  have t1 := hid (trim_v h (by omega))
  have t2 := hid (fun (w1 : World) (x1 : Ext w w1) => trim_v (h'.ext x1) (by omega))
  clear h h'
  go_enter Try.func59, Try.ntmps59
  go_wp2_with fail
  refine t1.out.mono ?_
  rintro E w1 ⟨A1, n1, c1, rfl, o1, x1⟩
  have t2 := hid (t2.out _ x1)
  go_wp2_with fail
  refine t2.out.mono ?_
  rintro E w2 ⟨B1, n2, c2, rfl, o2, x2⟩
  have h0 := cn_len0 o2 rfl
  subst h0
  have X := x1.trans x2
  clear t1 t2 o1 o2 x1 x2
  go_wp2_with fail
  go_ret3
  exact ⟨_, _, _, _, _, _, rfl, Cn.none, Cn.none, X⟩

set_option maxHeartbeats 1600000 in
theorem divmod_less {w : World} {A B : Option Addr} {n c n' c' p q K K' : Nat} (h : Nv K w A n c p) (h' : Nv K' w B n' c' q) (hK : K + K' ≤ 1099511627776) (hlt : p < q) :
    Calls Try.prog 59 #[.slice A n c, .slice B n' c'] w (RetCCE K K' 0 p 0 w) := by
  have t1 := hid (trim_v h (by omega))
  have t2 := hid (fun (w1 : World) (x1 : Ext w w1) => trim_v (h'.ext x1) (by omega))
  clear h h'
  go_enter Try.func59, Try.ntmps59
  go_wp2_with fail
  refine t1.out.mono ?_
  rintro E w1 ⟨A1, n1, c1, rfl, o1, x1⟩
  have t2 := hid (t2.out _ x1)
  go_wp2_with fail
  refine t2.out.mono ?_
  rintro E w2 ⟨B1, n2, c2, rfl, o2, x2⟩
  have h0 := cn_lenp o2 (by omega)
  have hp := h0.1
  have hb2 := o2.2
  have hd : ((n2 : Int) == 0) = false := beq_eq_false_iff_ne.2 (by omega)
  have O1 := hid (o1.ext x2)
  have cm := hid (cmp_is (v := -1) O1.out.nv o2.nv (by omega) (cmpN_lt hlt))
  have hpb := hid (o2.nv.bound)
  have X := hid (x1.trans x2)
  have h00 := hid h0
  clear t1 t2 o1 o2 x1 x2 h0
  go_wp2_with fail
  refine cm.out.mono ?_
  rintro E w3 ⟨rfl, x3⟩
  go_wp2_with fail
  go_ret3
  refine ⟨_, _, _, _, _, _, rfl, Cn.none, ⟨(O1.out.ext x3).1, ?_⟩, X.out.trans x3⟩
  have := (nd_len_le (b := 4294967296) (by omega)).2 (show p < 4294967296 ^ K' from Nat.lt_trans hlt hpb.out)
  rw [O1.out.len]; exact this

set_option maxHeartbeats 1600000 in
theorem divmod_limb {w : World} {A B : Option Addr} {n c n' c' p q K K' : Nat} (h : Nv K w A n c p) (h' : Nv K' w B n' c' q) (hK : K + K' ≤ 1099511627776) (hq : 0 < q) (hqB : q < 4294967296) (hle : q ≤ p) :
    Calls Try.prog 59 #[.slice A n c, .slice B n' c'] w (RetCCE K K' (p / q) (p % q) 0 w) := by
  have t1 := hid (trim_v h (by omega))
  have t2 := hid (fun (w1 : World) (x1 : Ext w w1) => trim_v (h'.ext x1) (by omega))
  clear h h'
  go_enter Try.func59, Try.ntmps59
  go_wp2_with fail
  refine t1.out.mono ?_
  rintro E w1 ⟨A1, n1, c1, rfl, o1, x1⟩
  have t2 := hid (t2.out _ x1)
  go_wp2_with fail
  refine t2.out.mono ?_
  rintro E w2 ⟨B1, n2, c2, rfl, o2, x2⟩
  have h0 := cn_lenp o2 hq
  have hn2 : n2 = 1 := by
    have h1 := o2.len
    have h2 := (nd_len_le (b := 4294967296) (n := q) (k := 1) (by omega)).2 (by omega)
    omega
  subst hn2
  have hpb := hid (o2.nv.bound)
  have hb2 := o2.2
  have O1 := hid (o1.ext x2)
  have hlist : nd 4294967296 q = [q] := by
    have hc : Canon 4294967296 [q] := canon1 hqB (by omega)
    exact (eq_nd (by omega) hc (val1 q)).symm
  have hsl := o2.sl
  rw [hlist] at hsl
  obtain ⟨b, o, rfl, hcell⟩ := hsl.gets (by omega)
  have HC := hid hcell
  have X := hid (x1.trans x2)
  have hv0 : ∃ v : Int, (v = 0 ∨ v = 1) ∧ cmpN p q = v := by
    rcases Nat.eq_or_lt_of_le hle with h | h
    · subst h; exact ⟨0, .inl rfl, cmpN_eq _⟩
    · exact ⟨1, .inr rfl, cmpN_gt h⟩
  obtain ⟨v, hv, hcv⟩ := hv0
  have hv' : 0 ≤ v := by omega
  have cm := hid (cmp_is (v := v) O1.out.nv o2.nv (by omega) hcv)
  clear t1 t2 o1 o2 x1 x2 h0 hlist hsl hcell hv hcv
  go_wp2_with fail
  refine cm.out.mono ?_
  rintro E w3 ⟨rfl, x3⟩
  have g0 : w3.cell? ⟨b, o, none⟩ = some (.int .u32 (q : Int)) := by
    have := HC.out w3 x3 0 (by omega)
    simpa using this
  have dl := hid (dlimb_v (D := (q : Int)) rfl (O1.out.ext x3).nv (by omega) hq hqB)
  go_wp2_with fail
  refine dl.out.mono ?_
  rintro E w4 ⟨A4, n4, c4, rfl, o4, x4⟩
  have hrb : p % q < 4294967296 := Nat.lt_trans (Nat.mod_lt _ hq) hqB
  have sm := hid (small_v (w := w4) (v := p % q) (V := ((p % q : Nat) : Int)) rfl (by omega))
  have X4 := hid (X.out.trans (x3.trans x4))
  have O4 := hid o4
  have hmod := hid (Nat.mod_lt p hq)
  have X3 := hid (X.out.trans x3)
  clear dl o4 x4 g0 cm x3
  generalize p % q = r at *
  go_wp2_with fail
  refine sm.out.mono ?_
  rintro E w5 ⟨A5, n5, c5, rfl, o5, x5⟩
  go_wp2_with fail
  go_ret3
  refine ⟨_, _, _, _, _, _, rfl, ⟨(O4.out.ext x5).1.mono X3.out.size, (O4.out.ext x5).2⟩, ⟨o5.1.mono X4.out.size, ?_⟩, X4.out.trans x5⟩
  have := (nd_len_le (b := 4294967296) (by omega)).2 (show r < 4294967296 ^ K' from Nat.lt_trans hmod.out hpb.out)
  rw [o5.len]; exact this
end Go.Proofs.Ytikkibpjchmajaa

