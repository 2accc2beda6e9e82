
/-
  The contract of times.Rows: a slice that holds the product's canonical limbs, for any limbs.
-/
import Derived.Test.YtmfgcjjoagdamaaNum
import Derived.Test.YtmfgcjjoagdamaaMath6
namespace Go.Proofs.Ytmfgcjjoagdamaa
open Go.RowKit
open Go.Lib (hid)

set_option maxHeartbeats 3200000 in
theorem rows_any {w : World} {A B : Option Addr} {n c n' c' : Nat} {X Y : List Nat} (h : Sl .u32 w A n c X) (hl : Lim 4294967296 X) (h' : Sl .u32 w B n' c' Y) (hl' : Lim 4294967296 Y) (hn : n ≤ 1073741824) (hn' : n' ≤ 1073741824) :
    Calls Try.prog 82 #[.slice A n c, .slice B n' c'] w (RetO .u32 39 (nd 4294967296 (nv 4294967296 X * nv 4294967296 Y)) w) := by
  have k1 := hid hl
  have k2 := hid hl'
  have H := hid h
  have H' := hid h'
  clear h h' hl hl'
  go_enter Try.func82, Try.ntmps82
  go_wp2_with (at_make; refine wpl_make (w0 := w) (Ext.refl _) rfl (.tmp 15) (.tmp 15) _ rfl 39 .u32 4 Try.underlying22 info_u32 _ (n + n') rfl rfl (by omega) (by omega) (by simp only [maxLen]; omega) ?_; intro g w1 hg1 ho1 hx1)
  have O1 := hid ho1
  have X1 := hid hx1
  clear ho1 hx1
  go_loopw [19] (fun si wr => ∃ (i : Nat) (O : List Nat), i ≤ n ∧ si = .int .i64 i ∧ Lim 4294967296 O ∧ nv 4294967296 O = nv 4294967296 (X.take i) * nv 4294967296 Y ∧ Own .u32 39 wr w.heap.size (some ⟨g, 0, none⟩) (n + n') (n + n') O ∧ Ext w wr) (fun si _ => n - (intOf si).toNat)
  case atStart => exact ⟨0, _, Nat.zero_le _, rfl, fun y hy => by have := (List.mem_replicate.1 hy).2; omega, by rw [nv_zeros]; simp [nv], O1.out, X1.out⟩
  case round =>
    clear O1 X1
    obtain ⟨i, O, hi, rfl, hO, hinv, ho, hx⟩ := hrel
    have HE := hid hx
    have HI := hid hinv
    have HO := hid ho
    have HL := hid hO
    clear hx hinv ho hO
    by_cases hlt : i < n
    · obtain ⟨P, hP⟩ : ∃ P, P = nv 4294967296 (X.take i) * nv 4294967296 Y := ⟨_, rfl⟩
      have HP := hid hP
      have hxi : i < X.length := by rw [H.out.len]; exact hlt
      have HXI := hid hxi
      have bx := lim_getD (b := 4294967296) (by omega) k1.out i
      obtain ⟨x, hxd⟩ : ∃ x, X[i]?.getD 0 = x := ⟨_, rfl⟩
      have HXD := hid hxd
      rw [hxd] at bx
      have HZ := hid (rows_zero (b := 4294967296) (by omega) H'.out.len k1.out k2.out (by omega) HL.out HI.out)
      obtain ⟨ba, oa, rfl, gx⟩ := (H.out.ext HE.out).get hlt
      rw [hxd] at gx
      clear hP hxi hxd
      go_wp2_with fail
      clear gx
      obtain ⟨wo, rfl⟩ : ∃ wo : World, wo = wr := ⟨_, rfl⟩
      go_loopw [8, 26] (fun sc sk wr => ∃ (k cy : Nat) (O : List Nat), k ≤ n' ∧ sc = .int .u64 cy ∧ sk = .int .i64 k ∧ cy < 4294967296 ∧ Lim 4294967296 O ∧ nv 4294967296 O + 4294967296 ^ (i + k) * cy = P + x * 4294967296 ^ i * nv 4294967296 (Y.take k) ∧ O[i + n']?.getD 0 = 0 ∧
        Own .u32 39 wr w.heap.size (some ⟨g, 0, none⟩) (n + n') (n + n') O ∧ Ext w wr) (fun _ sk _ => n' - (intOf sk).toNat)
      case atStart => exact ⟨0, 0, O, by omega, rfl, rfl, by omega, HL.out, by rw [HI.out, HP.out]; simp [nv], HZ.out, HO.out, HE.out⟩
      case round =>
        clear HI HO HL HE HZ
        obtain ⟨k, cy, R, hk, rfl, rfl, hcy, hR, hinv, hz, ho, hx⟩ := hrel
        have HE := hid hx
        have HI := hid hinv
        have HO := hid ho
        have HL := hid hR
        have HZ := hid hz
        clear hx hinv ho hR hz
        by_cases hkl : k < n'
        · have hik : i + k < n + n' := by omega
          obtain ⟨bb, ob, rfl, gy⟩ := (H'.out.ext HE.out).get hkl
          have gz := HO.out.cell (i := i + k) hik
          have gf := HO.out.frozen (i + k)
          have by' := lim_getD (b := 4294967296) (by omega) k2.out k
          have bz := lim_getD (b := 4294967296) (by omega) HL.out (i + k)
          have HST := hid (fun t ht => mul_step (b := 4294967296) (t := t) (by rw [HO.out.len]; exact hik) HI.out rfl ht)
          have HNX := hid (fun d : Nat => (show (R.set (i + k) d)[i + n']?.getD 0 = 0 from by rw [List.getElem?_set_ne (by omega)]; exact HZ.out))
          generalize Y[k]?.getD 0 = y at *
          generalize R[i + k]?.getD 0 = o at *
          have hxy := le_sq bx by'
          have HC := hid (rows_cast cy o x y)
          have HK := hid (rows_carry bx by' hcy bz)
          go_wp2_with (go_quiet (fail))
          rw [HC.out.1, HC.out.2]
          exact ⟨⟨k + 1, (cy + o + x * y) / 4294967296, _, by omega, rfl, by go_num, HK.out, lim_set HL.out (Nat.mod_lt _ (by omega)), HST.out _ rfl, HNX.out _, HO.out.set _ _, HE.out.setCell hg1 _⟩, by simp [intOf]; omega⟩
        · have hkn : k = n' := by omega
          have HKN := hid hkn
          have HV := hid (rows_end (b := 4294967296) (i := i) (k := k) (n' := n') (by rw [HO.out.len]; omega) H'.out.len hkn HXD.out HP.out (by rw [hkn]; exact HZ.out) HI.out)
          have gf := HO.out.frozen (i + n')
          have gz := HO.out.cell (i := i + n') (by omega)
          rw [HZ.out] at gz
          rw [hkn] at HV
          clear hkn
          go_wp2_with (go_quiet (fail))
          exact ⟨⟨i + 1, _, by omega, by go_num, lim_set HL.out hcy, HV.out, HO.out.set _ _, HE.out.setCell hg1 _⟩, by simp [intOf]; omega⟩
    · obtain rfl : i = n := by omega
      have hv : nv 4294967296 O = nv 4294967296 X * nv 4294967296 Y := by have := HI.out; rwa [List.take_of_length_le (by rw [H.out.len]; omega)] at this
      have hs := hid (trim_any HO.out.sl HL.out (by omega))
      rw [hv] at hs
      have HEE := hid HE.out
      clear hv
      go_wp2_with (go_at_call 50; refine hs.out.mono ?_; rintro e w' ⟨A2, c2, rfl, o2, x2⟩)
      go_ret
      exact ⟨_, _, rfl, o2.mono HE.out.size, HE.out.trans x2⟩
end Go.Proofs.Ytmfgcjjoagdamaa
