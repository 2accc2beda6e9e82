
/-
  The contract of nat.Add.
-/
import Derived.Test.YtmfgcjjoagdamaaShort
namespace Go.Proofs.Ytmfgcjjoagdamaa
open Go.RowKit
open Go.Lib (hid)

set_option maxHeartbeats 800000 in
/-- Add, the longer number first or last. -/
theorem add_core {w : World} {args : Array Value} {A A' : Option Addr} {n c n' c' : Nat} {xs ys : List Nat} (h : Sl .u32 w A n c xs) (hl : Lim 4294967296 xs) (h' : Sl .u32 w A' n' c' ys) (hl' : Lim 4294967296 ys)
    (hn : n ≤ 1099511627776) (hge : n' ≤ n)
    (hh : (args = #[.slice A n c, .slice A' n' c'] ∧ ¬ n < n') ∨ (args = #[.slice A' n' c', .slice A n c] ∧ n' < n)) :
    Calls Try.prog 54 args w (RetO .u32 39 (nd 4294967296 (nv 4294967296 xs + nv 4294967296 ys)) w) := by
  rcases hh with ⟨rfl, hng⟩ | ⟨rfl, hng⟩
  all_goals
    go_enter Try.func54, Try.ntmps54
    go_wp2_with (first
      | (at_make; refine wpl_make (w0 := w) (Ext.refl _) rfl (.tmp 17) (.tmp 17) _ rfl 39 .u32 4 Try.underlying22 info_u32 _ (n + 1) rfl rfl (by omega) (by omega) (by simp only [maxLen]; omega) ?_; intro g w1 hg1 ho1 hx1)
      | fail)
    go_loopw [6, 21] (fun sc si wr => ∃ (i cy : Nat) (os : List Nat), i ≤ n + 1 ∧ sc = .int .u64 cy ∧ si = .int .i64 i ∧ cy ≤ 1 ∧ os.length = i ∧ Lim 4294967296 os ∧
        nv 4294967296 os + 4294967296 ^ i * cy = nv 4294967296 (xs.take i) + nv 4294967296 (ys.take i) ∧
        Own .u32 39 wr w.heap.size (some ⟨g, 0, none⟩) (n + 1) (n + 1) (os ++ List.replicate (n + 1 - i) 0) ∧ Ext w wr) (fun _ si _ => n + 1 - (intOf si).toNat)
    case atStart => exact ⟨0, 0, [], Nat.zero_le _, rfl, rfl, by omega, rfl, fun x hx => by simp at hx, by simp [nv], ho1, hx1⟩
    case round =>
      obtain ⟨i, cy, os, hi, rfl, rfl, hcy, hol, hos, hinv, ho, hx⟩ := hrel
      have H1 := hid (h.ext hx)
      have H2 := hid (h'.ext hx)
      have HE := hid hx
      have HI := hid hinv
      have HO := hid ho
      have HOL := hid hol
      clear hx h h' hinv ho ho1 hx1 hol
      by_cases hlt : i < n + 1
      · have g0 := HO.out.cell (i := i) hlt
        have gf := HO.out.frozen i
        have b1 := lim_getD (b := 4294967296) (by omega) hl i
        have b2 := lim_getD (b := 4294967296) (by omega) hl' i
        rw [show (os ++ List.replicate (n + 1 - i) 0)[i]?.getD 0 = 0 from by rw [List.getElem?_append_right (by rw [HOL.out]; omega), HOL.out, Nat.sub_self, List.getElem?_replicate, if_pos (by omega)]; rfl] at g0
        have hfin : ∀ d cy' : Nat, d < 4294967296 → cy' ≤ 1 → d + 4294967296 * cy' = cy + xs[i]?.getD 0 + ys[i]?.getD 0 →
          (∃ (j cz : Nat) (os' : List Nat), j ≤ n + 1 ∧ Value.int .u64 (cy' : Int) = .int .u64 cz ∧ Value.int .i64 ((i : Int) + 1) = .int .i64 j ∧ cz ≤ 1 ∧ os'.length = j ∧ Lim 4294967296 os' ∧
            nv 4294967296 os' + 4294967296 ^ j * cz = nv 4294967296 (xs.take j) + nv 4294967296 (ys.take j) ∧
            Own .u32 39 (wr.setCell ⟨g, i, none⟩ (.int .u32 (d : Int))) w.heap.size (some ⟨g, 0, none⟩) (n + 1) (n + 1) (os' ++ List.replicate (n + 1 - j) 0) ∧ Ext w (wr.setCell ⟨g, i, none⟩ (.int .u32 (d : Int)))) := by
          intro d cy' hd hc' he
          refine ⟨i + 1, cy', os ++ [d], by omega, rfl, by go_num, hc', by rw [List.length_append, HOL.out]; rfl, lim_append hos (lim_one hd), ?_, ?_, HE.out.setCell hg1 _⟩
          · exact add_step HOL.out HI.out he
          · have := HO.out.set i d
            rwa [set_tail HOL.out (by omega)] at this
        have HF := hid hfin
        clear hfin hos
        by_cases hn1 : i < n
        · obtain ⟨ba, oa, rfl, g1⟩ := H1.out.get hn1
          by_cases hn2 : i < n'
          · obtain ⟨bb, ob, rfl, g2⟩ := H2.out.get hn2
            generalize xs[i]?.getD 0 = x at *
            generalize ys[i]?.getD 0 = y at *
            go_wp2_with fail
            rw [show ((cy : Int) + x + y) / 4294967296 = (((cy + x + y) / 4294967296 : Nat) : Int) from by omega, show ((cy : Int) + x + y) % 4294967296 = (((cy + x + y) % 4294967296 : Nat) : Int) from by omega]
            exact ⟨HF.out _ _ (by omega) (by omega) (by omega), by simp [intOf]; omega⟩
          · have hy0 : ys[i]?.getD 0 = 0 := by rw [List.getElem?_eq_none (by rw [H2.out.len]; omega)]; rfl
            rw [hy0] at HF
            clear hy0 b2
            generalize xs[i]?.getD 0 = x at *
            go_wp2_with fail
            rw [show ((cy : Int) + x) / 4294967296 = (((cy + x) / 4294967296 : Nat) : Int) from by omega, show ((cy : Int) + x) % 4294967296 = (((cy + x) % 4294967296 : Nat) : Int) from by omega]
            exact ⟨HF.out _ _ (by omega) (by omega) (by omega), by simp [intOf]; omega⟩
        · have hy0 : ys[i]?.getD 0 = 0 := by rw [List.getElem?_eq_none (by rw [H2.out.len]; omega)]; rfl
          have hx0 : xs[i]?.getD 0 = 0 := by rw [List.getElem?_eq_none (by rw [H1.out.len]; omega)]; rfl
          rw [hy0, hx0] at HF
          have hn2 : ¬ i < n' := by omega
          clear hy0 hx0 b1 b2
          go_wp2_with fail
          rw [show (cy : Int) / 4294967296 = ((cy / 4294967296 : Nat) : Int) from by omega]
          exact ⟨HF.out _ _ (by omega) (by omega) (by omega), by simp [intOf]; omega⟩
      · obtain rfl : i = n + 1 := by omega
        have hv := add_end (b := 4294967296) (by omega) H1.out.len H2.out.len hl hl' hge HI.out
        have ho := HO.out
        simp only [Nat.sub_self, List.replicate_zero, List.append_nil] at ho
        have hs := hid (short_any ho.sl hos)
        have hsh := ho.short hos
        have hq := nd_length_le (b := 4294967296) (by omega) hos
        rw [hv] at hs hsh
        have HS := hid hsh
        clear hsh hv ho hos hl hl'
        go_wp2_with (go_at_call 81; refine hs.out.mono ?_; rintro e w' ⟨rfl, rfl⟩)
        go_ret
        exact ⟨_, _, rfl, HS.out, HE.out⟩

theorem add_any {w : World} {A A' : Option Addr} {n c n' c' : Nat} {xs ys : List Nat} (h : Sl .u32 w A n c xs) (hl : Lim 4294967296 xs) (h' : Sl .u32 w A' n' c' ys) (hl' : Lim 4294967296 ys)
    (hn : n ≤ 1099511627776) (hn' : n' ≤ 1099511627776) :
    Calls Try.prog 54 #[.slice A n c, .slice A' n' c'] w (RetO .u32 39 (nd 4294967296 (nv 4294967296 xs + nv 4294967296 ys)) w) := by
  by_cases hlt : n < n'
  · rw [Nat.add_comm]
    exact add_core h' hl' h hl hn' (by omega) (.inr ⟨rfl, hlt⟩)
  · exact add_core h hl h' hl' hn (by omega) (.inl ⟨rfl, hlt⟩)
end Go.Proofs.Ytmfgcjjoagdamaa
