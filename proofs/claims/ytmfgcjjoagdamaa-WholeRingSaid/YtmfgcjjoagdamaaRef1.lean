
/-
  The contracts of the document's answer for layer 1: trim, times.
-/
import Derived.Test.YtmfgcjjoagdamaaChecked
import Derived.Test.YtmfgcjjoagdamaaBase
import Derived.Test.YtmfgcjjoagdamaaMath5
import Derived.Test.YtmfgcjjoagdamaaApp
namespace Go.Proofs.Ytmfgcjjoagdamaa
open Go.RowKit
open Go.Lib (hid)

set_option maxHeartbeats 400000 in
theorem rtrim_any {w : World} {A : Option Addr} {n c : Nat} {zs : List Nat} (h : Sl .i64 w A n c zs) (hl : Lim 10 zs) :
    Calls Try.prog 90 #[.slice A n c] w fun e w' => e = .returned (.slice A (nd 10 (nv 10 zs)).length c) ∧ w = w' := by
  have hnm := h.max
  have hnc := h.cap
  unfold maxLen at hnm
  go_enter Try.func90, Try.ntmps90
  go_wp2
  go_loop [0] (fun s => ∃ m : Nat, m ≤ n ∧ s = .slice A m c ∧ ∀ j, m ≤ j → j < n → zs[j]? = some 0) (fun s => match s with | .slice _ m _ => m | _ => 0)
  case atStart => exact ⟨n, Nat.le_refl _, rfl, fun j h1 h2 => by omega⟩
  case round =>
    obtain ⟨m, hm, rfl, hz⟩ := hrel
    have HZ := hid hz
    clear hz
    have hlen := h.len
    have hfin : (m = 0 ∨ zs[m - 1]? ≠ some 0) → (nd 10 (nv 10 zs)).length = m := fun hd => by
      have := take_short (by omega) hl (m := m) (by omega) (fun j h1 h2 => HZ.out j h1 (by omega)) hd
      rw [← this, List.length_take]; omega
    by_cases hm0 : 0 < m
    · obtain ⟨b, o, rfl, hlt, hc⟩ := h.at_ (by omega)
      have hg : zs[m - 1]? = some (zs[m - 1]'(by omega)) := List.getElem?_eq_getElem _
      have hcell := hc _ _ hg
      generalize zs[m - 1]'(by omega) = z at hg hcell
      have HG := hid hg
      have HL := hid hlen
      have HF := hid hfin
      clear h hg hc hlen hfin
      go_wp2
      · have hz0 : z = 0 := by have h : ((z : Int) == 0) = true := by assumption
                               have := eq_of_beq h; omega
        go_round
        case rel =>
          refine ⟨m - 1, by omega, rfl, fun j h1 h2 => ?_⟩
          by_cases e : j = m - 1
          · rw [e, HG.out, hz0]
          · exact HZ.out j (by omega) h2
        case measure => simp; omega
      · have hz0 : z ≠ 0 := by have h : ((z : Int) == 0) = false := by assumption
                               intro e; rw [e] at h; simp at h
        go_ret
        refine ⟨?_, rfl⟩
        rw [HF.out (.inr (by rw [HG.out]; simpa using hz0))]
        rfl
    · obtain rfl : m = 0 := by omega
      have HF := hid hfin
      clear hfin
      go_wp2
      go_ret
      refine ⟨?_, rfl⟩
      rw [HF.out (by simp)]
      rfl

theorem Sl.rtrim {w : World} {A : Option Addr} {n c : Nat} {zs : List Nat} (h : Sl .i64 w A n c zs) (hl : Lim 10 zs) : Sl .i64 w A (nd 10 (nv 10 zs)).length c (nd 10 (nv 10 zs)) := by
  have h1 := nd_length_le (b := 10) (by omega) hl
  have h2 := h.take (m := (nd 10 (nv 10 zs)).length) (by have := h.len; omega)
  rwa [take_nd (by omega) hl] at h2
theorem Own.rtrim {w : World} {lo : Nat} {e : TypeId} {A : Option Addr} {n c : Nat} {zs : List Nat} (h : Own .i64 e w lo A n c zs) (hl : Lim 10 zs) : Own .i64 e w lo A (nd 10 (nv 10 zs)).length c (nd 10 (nv 10 zs)) := by
  have h1 := nd_length_le (b := 10) (by omega) hl
  have h2 := h.take (m := (nd 10 (nv 10 zs)).length) (by have := h.len; omega)
  rwa [take_nd (by omega) hl] at h2

theorem info_int : (Try.prog.info? 3).map (fun i => (i.zero, i.size, i.bytes)) = some (some (.int .i64 0), 1, 8) := by kernel_rfl
theorem size_int : (Try.prog.info? 3).map (·.size) = some 1 := by kernel_rfl

theorem times_step {b i cy k : Nat} {os xs : List Nat} {n more : Nat} (hol : os.length = i) (hinv : nv b os + b ^ i * cy = nv b (xs.take i) * n + more) (hk : k = cy + xs[i]?.getD 0 * n) :
    nv b (os ++ [k % b]) + b ^ (i + 1) * (k / b) = nv b (xs.take (i + 1)) * n + more := by
  rw [nv_append, hol, nv_take_succ, Nat.pow_succ, Nat.add_mul]
  have h0 : k % b + b * (k / b) = cy + xs[i]?.getD 0 * n := by rw [Nat.mod_add_div, hk]
  have h4 : b ^ i * (k % b + b * (k / b)) = b ^ i * (cy + xs[i]?.getD 0 * n) := by rw [h0]
  simp only [nv, Nat.mul_zero, Nat.add_zero, Nat.mul_add] at h4 ⊢
  rw [Nat.mul_assoc, Nat.mul_assoc]
  generalize b ^ i * cy = t1 at *
  generalize b ^ i * (b * (k / b)) = t2 at *
  generalize b ^ i * (k % b) = t3 at *
  generalize b ^ i * (xs[i]?.getD 0 * n) = t4 at *
  omega
theorem carry_step {b i k V : Nat} {os : List Nat} (hol : os.length = i) (hinv : nv b os + b ^ i * k = V) : nv b (os ++ [k % b]) + b ^ (i + 1) * (k / b) = V := by
  have h0 : k % b + b * (k / b) = k := Nat.mod_add_div k b
  have h4 : b ^ i * (k % b + b * (k / b)) = b ^ i * k := by rw [h0]
  rw [nv_append, hol, Nat.pow_succ]
  simp only [nv, Nat.mul_zero, Nat.add_zero, Nat.mul_add] at h4 ⊢
  rw [Nat.mul_assoc]
  omega

set_option maxHeartbeats 1600000 in
theorem rtimes_any {w : World} {A : Option Addr} {l c : Nat} {xs : List Nat} {n more : Nat} (h : Sl .i64 w A l c xs) (hl : Lim 10 xs) (hln : l ≤ 1099511627776) (hn : n ≤ 65536) (hm : more ≤ 65536) :
    Calls Try.prog 83 #[.slice A l c, .int .i64 n, .int .i64 more] w (RetO .i64 3 (nd 10 (nv 10 xs * n + more)) w) := by
  have H := hid h
  have HL := hid hl
  clear h hl
  go_enter Try.func83, Try.ntmps83
  go_wp2_with fail
  go_loopw [7, 8, 9] (fun so sc si wr => ∃ (i cy : Nat) (A' : Option Addr) (c' : Nat) (os : List Nat), i ≤ l ∧ si = .int .i64 i ∧ sc = .int .i64 cy ∧ so = .slice A' i c' ∧ cy ≤ 65536 ∧ Lim 10 os ∧
      nv 10 os + 10 ^ i * cy = nv 10 (xs.take i) * n + more ∧ Own .i64 3 wr w.heap.size A' i c' os ∧ Ext w wr) (fun _ _ si _ => l - (intOf si).toNat)
  case atStart => exact ⟨0, more, none, 0, [], Nat.zero_le _, rfl, rfl, rfl, hm, fun x hx => by simp at hx, by simp [nv], ⟨by simp, .inl ⟨rfl, rfl⟩⟩, Ext.refl _⟩
  case round =>
    obtain ⟨i, cy, A', c', os, hi, rfl, rfl, rfl, hcy, hos, hinv, ho, hx⟩ := hrel
    have H1 := hid (H.out.ext hx)
    have HE := hid hx
    have HI := hid hinv
    have HO := hid ho
    have HOS := hid hos
    clear hx hinv ho hos
    by_cases hlt : i < l
    · obtain ⟨ba, oa, rfl, g1⟩ := H1.out.get hlt
      have b1 := lim_getD (b := 10) (by omega) HL.out i
      have HK := hid (times_step (k := cy + xs[i]?.getD 0 * n) HO.out.len HI.out rfl)
      generalize xs[i]?.getD 0 = x at *
      have hxn : x * n ≤ 589824 := by have := Nat.mul_le_mul (show x ≤ 9 by omega) hn; omega
      have hlen := HO.out.len
      have hov : ((cy : Int) + x * n) % 10 = (((cy + x * n) % 10 : Nat) : Int) := by rw [← Int.natCast_mul]; omega
      have HV := hid hov
      clear hov hlen
      go_wp2_with (at_builtin; refine wpl_append1 (w0 := w) rfl (.tmp 25) (.tmp 28) _ rfl 3 .i64 8 Try.underlying32 info_int _ ((cy + x * n) % 10) rfl rfl HV.out HO.out HE.out (by omega) (by simp only [maxLen]; omega) ?_; intro A2 c2 w2 ho2 hx2 _)
      go_roundw
      case rel =>
        refine ⟨i + 1, (cy + x * n) / 10, A2, c2, _, by omega, by go_num, ?_, rfl, by omega, lim_append HOS.out (lim_one (Nat.mod_lt _ (by omega))), HK.out, ho2, hx2⟩
        rw [← Int.natCast_mul, show ((cy : Int) + ((x * n : Nat) : Int)) / 10 = (((cy + x * n) / 10 : Nat) : Int) from by omega]
      case measure => simp [intOf]; omega
    · obtain rfl : i = l := by omega
      have hxl : xs.take i = xs := List.take_of_length_le (by rw [H1.out.len]; omega)
      have hinv := HI.out
      rw [hxl] at hinv
      have HI2 := hid hinv
      have hol := HO.out.len
      have HOL := hid hol
      clear hxl hinv HI hol
      go_wp2_with fail
      go_loopw [7, 8] (fun so sc wr => ∃ (j cy : Nat) (A' : Option Addr) (c' : Nat) (os : List Nat), j + cy ≤ i + 65536 ∧ sc = .int .i64 cy ∧ so = .slice A' j c' ∧ Lim 10 os ∧
        nv 10 os + 10 ^ j * cy = nv 10 xs * n + more ∧ Own .i64 3 wr w.heap.size A' j c' os ∧ Ext w wr) (fun _ sc _ => (intOf sc).toNat)
      case atStart => exact ⟨i, cy, A', c', os, by omega, rfl, rfl, HOS.out, HI2.out, HO.out, HE.out⟩
      case round =>
        clear HI2 HO HOS HE HOL hcy hi
        obtain ⟨j, ck, B', d', ps, hj, rfl, rfl, hps, hinv, ho, hx⟩ := hrel
        have HE := hid hx
        have HI := hid hinv
        have HO := hid ho
        have HOS := hid hps
        clear hx hinv ho hps
        by_cases h0 : 0 < ck
        · have HK := hid (carry_step HO.out.len HI.out)
          have hov : (ck : Int) % 10 = ((ck % 10 : Nat) : Int) := by omega
          have HV := hid hov
          clear hov
          go_wp2_with (at_builtin; refine wpl_append1 (w0 := w) rfl (.tmp 34) (.tmp 37) _ rfl 3 .i64 8 Try.underlying32 info_int _ (ck % 10) rfl rfl HV.out HO.out HE.out (by omega) (by simp only [maxLen]; omega) ?_; intro A2 c2 w2 ho2 hx2 _)
          go_roundw
          case rel =>
            refine ⟨j + 1, ck / 10, A2, c2, _, by omega, ?_, rfl, lim_append HOS.out (lim_one (Nat.mod_lt _ (by omega))), HK.out, ho2, hx2⟩
            rw [show (ck : Int) / 10 = ((ck / 10 : Nat) : Int) from by omega]
          case measure => simp [intOf]; omega
        · obtain rfl : ck = 0 := by omega
          have hv : nv 10 ps = nv 10 xs * n + more := by have := HI.out; simpa using this
          have hs := hid (rtrim_any HO.out.sl HOS.out)
          have hsh := HO.out.rtrim HOS.out
          rw [hv] at hs hsh
          have HS := hid hsh
          clear hsh hv
          go_wp2_with (go_at_call 90; refine hs.out.mono ?_; rintro e w' ⟨rfl, rfl⟩)
          go_ret
          exact ⟨_, _, rfl, HS.out, HE.out⟩
theorem rtimes_int {w : World} {A : Option Addr} {l c : Nat} {xs : List Nat} (n more : Nat) {N M : Int} (hN : N = n) (hM : M = more) (h : Sl .i64 w A l c xs) (hl : Lim 10 xs) (hln : l ≤ 1099511627776) (hn : n ≤ 65536) (hm : more ≤ 65536) :
    Calls Try.prog 83 #[.slice A l c, .int .i64 N, .int .i64 M] w (RetO .i64 3 (nd 10 (nv 10 xs * n + more)) w) := by
  subst hN; subst hM
  exact rtimes_any h hl hln hn hm
end Go.Proofs.Ytmfgcjjoagdamaa
