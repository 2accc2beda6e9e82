
/-
  The contracts of nat.short, nat.Trim.
-/
import Derived.Test.YtmfgcjjoagdamaaChecked
import Derived.Test.YtmfgcjjoagdamaaBase
import Derived.Test.YtmfgcjjoagdamaaMath
namespace Go.Proofs.Ytmfgcjjoagdamaa
open Go.RowKit
open Go.Lib (hid)

set_option maxHeartbeats 400000 in
theorem short_any {w : World} {A : Option Addr} {n c : Nat} {zs : List Nat} (h : Sl .u32 w A n c zs) (hl : Lim 4294967296 zs) :
    Calls Try.prog 81 #[.slice A n c] w fun e w' => e = .returned (.slice A (nd 4294967296 (nv 4294967296 zs)).length c) ∧ w = w' := by
  have hnm := h.max
  have hnc := h.cap
  unfold maxLen at hnm
  go_enter Try.func81, Try.ntmps81
  go_wp2
  go_loop [0] (fun s => ∃ m : Nat, m ≤ n ∧ s = .slice A m c ∧ ∀ j, m ≤ j → j < n → zs[j]? = some 0) (fun s => match s with | .slice _ m _ => m | _ => 0)
  case atStart => exact ⟨n, Nat.le_refl _, rfl, fun j h1 h2 => by omega⟩
  case round =>
    obtain ⟨m, hm, rfl, hz⟩ := hrel
    have HZ := hid hz
    clear hz
    have hlen := h.len
    have hfin : (m = 0 ∨ zs[m - 1]? ≠ some 0) → (nd 4294967296 (nv 4294967296 zs)).length = m := fun hd => by
      have := take_short (by omega) hl (m := m) (by omega) (fun j h1 h2 => HZ.out j h1 (by omega)) hd
      rw [← this, List.length_take]; omega
    by_cases hm0 : 0 < m
    · obtain ⟨b, o, rfl, hlt, hc⟩ := h.at_ (by omega)
      have hg : zs[m - 1]? = some (zs[m - 1]'(by omega)) := List.getElem?_eq_getElem _
      have hcell := hc _ _ hg
      generalize zs[m - 1]'(by omega) = z at hg hcell
      have HG := hid hg
      have HL := hid hlen
      have HF := hid hfin
      clear h hg hc hlen hfin
      go_wp2
      · have hz0 : z = 0 := by have h : ((z : Int) == 0) = true := by assumption
                               have := eq_of_beq h; omega
        go_round
        case rel =>
          refine ⟨m - 1, by omega, rfl, fun j h1 h2 => ?_⟩
          by_cases e : j = m - 1
          · rw [e, HG.out, hz0]
          · exact HZ.out j (by omega) h2
        case measure => simp; omega
      · have hz0 : z ≠ 0 := by have h : ((z : Int) == 0) = false := by assumption
                               intro e; rw [e] at h; simp at h
        go_ret
        refine ⟨?_, rfl⟩
        rw [HF.out (.inr (by rw [HG.out]; simpa using hz0))]
        rfl
    · obtain rfl : m = 0 := by omega
      have HF := hid hfin
      clear hfin
      go_wp2
      go_ret
      refine ⟨?_, rfl⟩
      rw [HF.out (by simp)]
      rfl

/-- What short leaves of a slice reads as the number's limbs. -/
theorem Sl.short {w : World} {A : Option Addr} {n c : Nat} {zs : List Nat} (h : Sl .u32 w A n c zs) (hl : Lim 4294967296 zs) : Sl .u32 w A (nd 4294967296 (nv 4294967296 zs)).length c (nd 4294967296 (nv 4294967296 zs)) := by
  have h1 := nd_length_le (b := 4294967296) (by omega) hl
  have h2 := h.take (m := (nd 4294967296 (nv 4294967296 zs)).length) (by have := h.len; omega)
  rwa [take_nd (by omega) hl] at h2
theorem Own.short {w : World} {lo : Nat} {e : TypeId} {A : Option Addr} {n c : Nat} {zs : List Nat} (h : Own .u32 e w lo A n c zs) (hl : Lim 4294967296 zs) : Own .u32 e w lo A (nd 4294967296 (nv 4294967296 zs)).length c (nd 4294967296 (nv 4294967296 zs)) := by
  have h1 := nd_length_le (b := 4294967296) (by omega) hl
  have h2 := h.take (m := (nd 4294967296 (nv 4294967296 zs)).length) (by have := h.len; omega)
  rwa [take_nd (by omega) hl] at h2

theorem info_u32 : (Try.prog.info? 39).map (fun i => (i.zero, i.size, i.bytes)) = some (some (.int .u32 0), 1, 4) := by kernel_rfl
theorem size_u32 : (Try.prog.info? 39).map (·.size) = some 1 := by kernel_rfl

set_option maxHeartbeats 400000 in
theorem trim_any {w : World} {A : Option Addr} {n c : Nat} {zs : List Nat} (h : Sl .u32 w A n c zs) (hl : Lim 4294967296 zs) (hn : n ≤ 1099511627776) :
    Calls Try.prog 50 #[.slice A n c] w (RetO .u32 39 (nd 4294967296 (nv 4294967296 zs)) w) := by
  have h1 := h.short hl
  have h2 : (nd 4294967296 (nv 4294967296 zs)).length ≤ 1099511627776 := by have := nd_length_le (b := 4294967296) (by omega) hl; have := h.len; omega
  have hs := hid (short_any h hl)
  generalize nd 4294967296 (nv 4294967296 zs) = ys at h1 h2 hs ⊢
  go_enter Try.func50, Try.ntmps50
  go_wp2_with (first
    | (go_at_call 81; refine hs.out.mono ?_; rintro e w' ⟨rfl, rfl⟩)
    | (at_make; refine wpl_make (w0 := w) (Ext.refl _) rfl (.tmp 7) (.tmp 7) _ rfl 39 .u32 4 Try.underlying22 info_u32 _ ys.length rfl rfl rfl (by omega) (by simp only [maxLen]; omega) ?_; intro g w1 hg1 ho1 hx1)
    | (refine wpl_copy (w0 := w) rfl (.tmp 9) (.tmp 10) _ _ rfl 39 Try.underlying22 size_u32 rfl rfl ho1 (h1.ext hx1) hx1 ?_; intro w2 ho2 hx2))
  go_ret
  exact ⟨_, _, rfl, ho2, hx2⟩
end Go.Proofs.Ytmfgcjjoagdamaa
