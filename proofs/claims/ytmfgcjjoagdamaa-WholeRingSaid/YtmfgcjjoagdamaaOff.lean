
/-
  The contracts of divide.off and divide.on: a part of a row of limbs, in its place.
-/
import Derived.Test.YtmfgcjjoagdamaaGuess
import Derived.Test.YtmfgcjjoagdamaaFrame
import Derived.Test.YtmfgcjjoagdamaaInto
import Derived.Test.YtmfgcjjoagdamaaApp
namespace Go.Proofs.Ytmfgcjjoagdamaa
open Go.RowKit
open Go.Lib (hid)

theorem gb_drewN {a b : World} {row : Option Nat} (h : a.grownBy b row) (n : Nat) : a.grownBy (b.drewN n) row := ⟨h.os, h.tape, h.output, h.size, h.block⟩

def RetOff (lo g k l m c q V : Nat) (R : List Nat) (w : World) : Ending → World → Prop := fun E w' => ∃ R', Lim 4294967296 R' ∧ R'.drop (k + l) = R.drop (k + l) ∧ Own .u32 39 w' lo (some ⟨g, 0, none⟩) m c R' ∧ w.grownBy w' (some g) ∧
  ((E = .returned (.bool false) ∧ nv 4294967296 R' + 4294967296 ^ k * (q * V) = nv 4294967296 R) ∨ (E = .returned (.bool true) ∧ nv 4294967296 R' + 4294967296 ^ k * (q * V) = nv 4294967296 R + 4294967296 ^ (k + l)))

theorem and_lo {T : Nat} (h : T < 18446744073709551616) : bits BinOp.and IntKind.u64 (T : Int) 4294967295 = ((T % 4294967296 : Nat) : Int) := by
  have e := u64_and_nat T 4294967295 h (by omega)
  have e2 : T &&& 4294967295 = T % 4294967296 := Nat.and_two_pow_sub_one_eq_mod T 32
  rw [e2] at e
  exact e
theorem off_form {x y bw : Nat} (hx : x < 4294967296) (hy : y < 4294967296) (hb : bw ≤ 1) : ∃ d bw' : Nat, d < 4294967296 ∧ bw' ≤ 1 ∧ d + y + bw = x + 4294967296 * bw' ∧
    IntKind.u64.wrap (IntKind.u64.wrap ((x : Int) - y) - bw) / 9223372036854775808 = (bw' : Int) ∧ IntKind.u64.wrap (IntKind.u64.wrap ((x : Int) - y) - bw) % 4294967296 = (d : Int) := by
  rw [IntKind.wrap_u64, IntKind.wrap_u64]
  by_cases h : x < y + bw
  · exact ⟨x + 4294967296 - y - bw, 1, by omega, by omega, by omega, by omega, by omega⟩
  · exact ⟨x - y - bw, 0, by omega, by omega, by omega, by omega, by omega⟩

set_option maxHeartbeats 3200000 in
theorem off_any {w : World} {B : Option Addr} {lo g k l m c cc n c' q : Nat} {R Y : List Nat} (ho : Own .u32 39 w lo (some ⟨g, 0, none⟩) m c R) (lR : Lim 4294967296 R) (hkl : k + l ≤ m) (hm : m ≤ 1099511627776)
    (h : Sl .u32 w B n c' Y) (lY : Lim 4294967296 Y) (hne : ∀ b o, B = some ⟨b, o, none⟩ → 0 < n → some b ≠ some g) (hnl : n < l) (hq : q < 4294967296) :
    Calls Try.prog 96 #[.slice (some ⟨g, k, none⟩) l cc, .slice B n c', .int .u64 q] w (RetOff lo g k l m c q (nv 4294967296 Y) R w) := by
  have O1 := hid ho
  have L1 := hid lR
  have H := hid h
  have k2 := hid lY
  have HNE := hid hne
  clear ho lR h lY hne
  go_enter Try.func96, Try.ntmps96
  go_wp2_with fail
  go_loopw [7, 8, 14] (fun sc sb si wr => ∃ (i cy bw : Nat) (O : List Nat), i ≤ l ∧ sc = .int .u64 cy ∧ sb = .int .u64 bw ∧ si = .int .i64 i ∧ cy < 4294967296 ∧ bw ≤ 1 ∧ (n < i → cy = 0) ∧ Lim 4294967296 O ∧
      nv 4294967296 O + 4294967296 ^ k * (q * nv 4294967296 (Y.take i)) = nv 4294967296 R + 4294967296 ^ (k + i) * (cy + bw) ∧ O.drop (k + l) = R.drop (k + l) ∧
      Own .u32 39 wr lo (some ⟨g, 0, none⟩) m c O ∧ w.grownBy wr (some g)) (fun _ _ si _ => l - (intOf si).toNat)
  case atStart => exact ⟨0, 0, 0, R, by omega, rfl, rfl, rfl, by omega, by omega, by omega, L1.out, by simp [nv], rfl, O1.out, gb_refl _ _⟩
  case round =>
    clear O1
    obtain ⟨i, cy, bw, O, hi, rfl, rfl, rfl, hcy, hbw, hcn, hO, hinv, hd, ho, hx⟩ := hrel
    have HE := hid hx
    have HI := hid hinv
    have HO := hid ho
    have HL := hid hO
    have HD := hid hd
    clear hx hinv ho hO hd
    by_cases hlt : i < l
    · have hki : k + i < m := by omega
      have gz := HO.out.cell (i := k + i) hki
      have gf := HO.out.frozen (k + i)
      have bz := lim_getD (b := 4294967296) (by omega) HL.out (k + i)
      have HDS := hid (fun d : Nat => (show (O.set (k + i) d).drop (k + l) = R.drop (k + l) from by rw [List.drop_set_of_lt (by omega)]; exact HD.out))
      by_cases hjn : i < n
      · have hv := H.out.grown HE.out HNE.out
        obtain ⟨bb, ob, rfl, gy⟩ := hv.get hjn
        clear hv
        have by' := lim_getD (b := 4294967296) (by omega) k2.out i
        have HST := hid (fun t u' bw' ht he => off_step (b := 4294967296) (t := t) (u' := u') (bw' := bw') (by rw [HO.out.len]; exact hki) HI.out rfl rfl ht he)
        generalize Y[i]?.getD 0 = y at *
        generalize O[k + i]?.getD 0 = u at *
        have hxy := le_sq hq by'
        go_wp2_with (go_quiet (fail))
        rw [← Int.natCast_mul, ← Int.natCast_add]
        have hTb : cy + q * y < 18446744073709551616 := by omega
        generalize hT : cy + q * y = T at *
        rw [and_lo hTb]
        obtain ⟨d, bw', hd, hb, he, f1, f2⟩ := off_form bz (Nat.mod_lt T (show 0 < 4294967296 by omega)) hbw
        rw [f1, f2]
        exact ⟨⟨i + 1, T / 4294967296, bw', _, by omega, by go_num, rfl, by go_num, by omega, hb, by omega, lim_set HL.out hd, HST.out _ _ _ rfl he, HDS.out _, HO.out.set _ _, gb_set HE.out _⟩, by simp [intOf]; omega⟩
      · have hy0 : Y[i]?.getD 0 = 0 := by rw [List.getElem?_eq_none (by rw [H.out.len]; omega)]; rfl
        have HST := hid (fun t u' bw' ht he => off_step (b := 4294967296) (x := 0) (t := t) (u' := u') (bw' := bw') (by rw [HO.out.len]; exact hki) HI.out hy0 rfl ht he)
        clear hy0
        generalize O[k + i]?.getD 0 = u at *
        go_wp2_with (go_quiet (fail))
        have hTb : cy < 18446744073709551616 := by omega
        obtain ⟨T, hT⟩ : ∃ T, T = cy := ⟨_, rfl⟩
        rw [← hT] at hTb ⊢
        rw [and_lo hTb]
        obtain ⟨d, bw', hd, hb, he, f1, f2⟩ := off_form bz (Nat.mod_lt T (show 0 < 4294967296 by omega)) hbw
        rw [f1, f2]
        exact ⟨⟨i + 1, T / 4294967296, bw', _, by omega, by go_num, rfl, by go_num, by omega, hb, by omega, lim_set HL.out hd, HST.out _ _ _ (by omega) he, HDS.out _, HO.out.set _ _, gb_set HE.out _⟩, by simp [intOf]; omega⟩
    · obtain rfl : i = l := by omega
      have hc0 := hcn hnl
      subst hc0
      have hv := HI.out
      rw [List.take_of_length_le (by rw [H.out.len]; omega), Nat.zero_add] at hv
      have HV := hid hv
      clear hv hcn
      rcases (show bw = 0 ∨ bw = 1 by omega) with rfl | rfl
      · go_wp2_with fail
        go_ret
        exact ⟨_, HL.out, HD.out, HO.out, HE.out, .inl ⟨rfl, by simpa using HV.out⟩⟩
      · go_wp2_with fail
        go_ret
        exact ⟨_, HL.out, HD.out, HO.out, HE.out, .inr ⟨rfl, by simpa using HV.out⟩⟩

def RetOn (lo g k l m c V : Nat) (R : List Nat) (w : World) : Ending → World → Prop := fun E w' => ∃ R' cy, E = .returned (.tuple #[]) ∧ Lim 4294967296 R' ∧ R'.drop (k + l) = R.drop (k + l) ∧ Own .u32 39 w' lo (some ⟨g, 0, none⟩) m c R' ∧ w.grownBy w' (some g) ∧
  nv 4294967296 R' + 4294967296 ^ (k + l) * cy = nv 4294967296 R + 4294967296 ^ k * V

set_option maxHeartbeats 3200000 in
theorem on_any {w : World} {B : Option Addr} {lo g k l m c cc n c' : Nat} {R Y : List Nat} (ho : Own .u32 39 w lo (some ⟨g, 0, none⟩) m c R) (lR : Lim 4294967296 R) (hkl : k + l ≤ m) (hm : m ≤ 1099511627776)
    (h : Sl .u32 w B n c' Y) (lY : Lim 4294967296 Y) (hne : ∀ b o, B = some ⟨b, o, none⟩ → 0 < n → some b ≠ some g) (hnl : n < l) :
    Calls Try.prog 97 #[.slice (some ⟨g, k, none⟩) l cc, .slice B n c'] w (RetOn lo g k l m c (nv 4294967296 Y) R w) := by
  have O1 := hid ho
  have L1 := hid lR
  have H := hid h
  have k2 := hid lY
  have HNE := hid hne
  clear ho lR h lY hne
  go_enter Try.func97, Try.ntmps97
  go_wp2_with fail
  go_loopw [4, 8] (fun sc si wr => ∃ (i cy : Nat) (O : List Nat), i ≤ l ∧ sc = .int .u64 cy ∧ si = .int .i64 i ∧ cy ≤ 1 ∧ Lim 4294967296 O ∧
      nv 4294967296 O + 4294967296 ^ (k + i) * cy = nv 4294967296 R + 1 * 4294967296 ^ k * nv 4294967296 (Y.take i) ∧ O.drop (k + l) = R.drop (k + l) ∧
      Own .u32 39 wr lo (some ⟨g, 0, none⟩) m c O ∧ w.grownBy wr (some g)) (fun _ si _ => l - (intOf si).toNat)
  case atStart => exact ⟨0, 0, R, by omega, rfl, rfl, by omega, L1.out, by simp [nv], rfl, O1.out, gb_refl _ _⟩
  case round =>
    clear O1
    obtain ⟨i, cy, O, hi, rfl, rfl, hcy, hO, hinv, hd, ho, hx⟩ := hrel
    have HE := hid hx
    have HI := hid hinv
    have HO := hid ho
    have HL := hid hO
    have HD := hid hd
    clear hx hinv ho hO hd
    by_cases hlt : i < l
    · have hki : k + i < m := by omega
      have gz := HO.out.cell (i := k + i) hki
      have gf := HO.out.frozen (k + i)
      have bz := lim_getD (b := 4294967296) (by omega) HL.out (k + i)
      have HDS := hid (fun d : Nat => (show (O.set (k + i) d).drop (k + l) = R.drop (k + l) from by rw [List.drop_set_of_lt (by omega)]; exact HD.out))
      by_cases hjn : i < n
      · have hv := H.out.grown HE.out HNE.out
        obtain ⟨bb, ob, rfl, gy⟩ := hv.get hjn
        clear hv
        have by' := lim_getD (b := 4294967296) (by omega) k2.out i
        have HST := hid (fun t ht => mul_step (b := 4294967296) (x := 1) (t := t) (by rw [HO.out.len]; exact hki) HI.out rfl ht)
        generalize Y[i]?.getD 0 = y at *
        generalize O[k + i]?.getD 0 = o at *
        have HC := hid (add_cast32 cy o y)
        go_wp2_with (go_quiet (fail))
        rw [HC.out.1, HC.out.2]
        exact ⟨⟨i + 1, (cy + o + 1 * y) / 4294967296, _, by omega, rfl, by go_num, by omega, lim_set HL.out (Nat.mod_lt _ (by omega)), HST.out _ rfl, HDS.out _, HO.out.set _ _, gb_set HE.out _⟩, by simp [intOf]; omega⟩
      · have hy0 : Y[i]?.getD 0 = 0 := by rw [List.getElem?_eq_none (by rw [H.out.len]; omega)]; rfl
        have HST := hid (fun t ht => mul_step (b := 4294967296) (x := 1) (y := 0) (t := t) (by rw [HO.out.len]; exact hki) HI.out hy0 ht)
        clear hy0
        generalize O[k + i]?.getD 0 = o at *
        have HC := hid (add_cast32' cy o)
        go_wp2_with (go_quiet (fail))
        rw [HC.out.1, HC.out.2]
        exact ⟨⟨i + 1, (cy + o + 1 * 0) / 4294967296, _, by omega, rfl, by go_num, by omega, lim_set HL.out (Nat.mod_lt _ (by omega)), HST.out _ rfl, HDS.out _, HO.out.set _ _, gb_set HE.out _⟩, by simp [intOf]; omega⟩
    · obtain rfl : i = l := by omega
      have hv := HI.out
      rw [List.take_of_length_le (by rw [H.out.len]; omega), Nat.one_mul] at hv
      have HV := hid hv
      clear hv
      go_wp2_with (go_quiet (fail))
      go_end0
      exact ⟨_, cy, rfl, HL.out, HD.out, HO.out, HE.out, HV.out⟩
end Go.Proofs.Ytmfgcjjoagdamaa
