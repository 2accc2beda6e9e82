
/-
  The contracts of nat.may, nat.Shl.
-/
import Derived.Test.YtmfgcjjoagdamaaSub
import Derived.Test.YtmfgcjjoagdamaaMath3
namespace Go.Proofs.Ytmfgcjjoagdamaa
open Go.RowKit
open Go.Lib (hid)

theorem may_yes {w : World} {n : Int} (h0 : 0 ≤ n) (h1 : n ≤ 1048576) : Calls Try.prog 102 #[.int .i64 n] w fun e w' => e = .returned (.bool true) ∧ w = w' := by
  go_enter Try.func102, Try.ntmps102
  go_wp2
  go_ret
  exact ⟨rfl, rfl⟩
theorem may_no {w : World} {n : Int} (h : n < 0 ∨ 1048576 < n) : Calls Try.prog 102 #[.int .i64 n] w fun e w' => e = .returned (.bool false) ∧ w = w' := by
  rcases h with h | h
  · have h' : ¬ 0 ≤ n := by omega
    go_enter Try.func102, Try.ntmps102
    go_wp2
    go_ret
    exact ⟨rfl, rfl⟩
  · have h0 : 0 ≤ n := by omega
    have h' : ¬ n ≤ 1048576 := by omega
    go_enter Try.func102, Try.ntmps102
    go_wp2
    go_ret
    exact ⟨rfl, rfl⟩

theorem shl_no {w : World} {A : Option Addr} {m c : Nat} {n : Int} (h : n < 0 ∨ 1048576 < n) : Calls Try.prog 94 #[.slice A m c, .int .i64 n] w (RetNE 2 w) := by
  go_enter Try.func94, Try.ntmps94
  go_wp2_with (go_at_call 102; refine (may_no h).mono ?_; rintro e w1 ⟨rfl, rfl⟩)
  go_ret2
  exact ⟨rfl, Ext.refl _⟩
theorem shr_no {w : World} {A : Option Addr} {m c : Nat} {n : Int} (h : n < 0 ∨ 1048576 < n) : Calls Try.prog 98 #[.slice A m c, .int .i64 n] w (RetNE 2 w) := by
  go_enter Try.func98, Try.ntmps98
  go_wp2_with (go_at_call 102; refine (may_no h).mono ?_; rintro e w1 ⟨rfl, rfl⟩)
  go_ret2
  exact ⟨rfl, Ext.refl _⟩

set_option maxHeartbeats 800000 in
theorem shl_any {w : World} {A : Option Addr} {n c : Nat} {xs : List Nat} {v : Nat} (h : Sl .u32 w A n c xs) (hl : Lim 4294967296 xs) (hn : n ≤ 1099511627776) (hv : v ≤ 1048576) :
    Calls Try.prog 94 #[.slice A n c, .int .i64 v] w (RetOE .u32 39 (nd 4294967296 (nv 4294967296 xs * 2 ^ v)) 0 w) := by
  have h1 := h.short hl
  have s1 := hid (short_any h hl)
  have q1 : (nd 4294967296 (nv 4294967296 xs)).length ≤ 1099511627776 := by have := nd_length_le (b := 4294967296) (by omega) hl; have := h.len; omega
  clear h hl
  generalize nv 4294967296 xs = p at *
  have e1 : nv 4294967296 (nd 4294967296 p) = p := nv_nd (by omega) p
  have k1 := nd_lim (b := 4294967296) (by omega) p
  generalize nd 4294967296 p = X at h1 s1 q1 e1 k1
  subst e1
  have K1 := hid k1
  clear k1
  generalize hm : X.length = m at *
  have HM := hid hm
  clear hm
  have m1 := hid (may_yes (w := w) (n := v) (by omega) (by omega))
  go_enter Try.func94, Try.ntmps94
  go_wp2_with (first
   | (go_at_call 102; refine m1.out.mono ?_; rintro e w' ⟨rfl, rfl⟩)
   | (go_at_call 81; refine s1.out.mono ?_; rintro e w' ⟨rfl, rfl⟩)
   | (at_make; refine wpl_make (w0 := w) (Ext.refl _) rfl (.tmp 20) (.tmp 20) _ rfl 39 .u32 4 Try.underlying22 info_u32 _ (m + v / 32 + 1) rfl rfl (by omega) (by omega) (by simp only [maxLen]; omega) ?_; intro g w1 hg1 ho1 hx1))
  go_loopw [24] (fun si wr => ∃ (i cy : Nat) (os : List Nat), i ≤ m ∧ si = .int .i64 i ∧ cy < 2 ^ (v % 32) ∧ os.length = i ∧ Lim 4294967296 os ∧
      nv 4294967296 os + 4294967296 ^ i * cy = nv 4294967296 (X.take i) * 2 ^ (v % 32) ∧
      Own .u32 39 wr w.heap.size (some ⟨g, 0, none⟩) (m + v / 32 + 1) (m + v / 32 + 1) (List.replicate (v / 32) 0 ++ os ++ [cy] ++ List.replicate (m - i) 0) ∧ Ext w wr) (fun si _ => m - (intOf si).toNat)
  case atStart =>
    refine ⟨0, 0, [], Nat.zero_le _, rfl, Nat.two_pow_pos _, rfl, fun x hx => by simp at hx, by simp [nv], ?_, hx1⟩
    have e : List.replicate (m + v / 32 + 1) 0 = List.replicate (v / 32) 0 ++ [] ++ [0] ++ List.replicate (m - 0) 0 := by
      rw [show m + v / 32 + 1 = v / 32 + (m + 1) from by omega, ← List.replicate_append_replicate, List.replicate_succ]; simp
    rw [e] at ho1
    exact ho1
  case round =>
    obtain ⟨i, cy, os, hi, rfl, hcy, hol, hos, hinv, ho, hx⟩ := hrel
    have H1 := hid (h1.ext hx)
    have HE := hid hx
    have HI := hid hinv
    have HO := hid ho
    have HOL := hid hol
    have HOS := hid hos
    clear h1 hx hinv ho hol hos ho1 hx1
    have hs32 : v % 32 < 32 := Nat.mod_lt _ (by omega)
    have hcyB : cy < 4294967296 := by
      have : 2 ^ (v % 32) ≤ 2 ^ 31 := Nat.pow_le_pow_right (by omega) (by omega)
      omega
    have hlenk : (List.replicate (v / 32) 0 ++ os).length = i + v / 32 := by rw [List.length_append, List.length_replicate, HOL.out]; omega
    by_cases hlt : i < m
    · obtain ⟨ba, oa, rfl, g1⟩ := H1.out.get hlt
      have b1 := lim_getD (b := 4294967296) (by omega) K1.out i
      have g2 := HO.out.cell (i := i + v / 32) (by omega)
      have g3 := HO.out.cell (i := i + v / 32 + 1) (by omega)
      have gf := HO.out.frozen (i + v / 32)
      have gf2 := HO.out.frozen (i + v / 32 + 1)
      rw [List.append_assoc, List.getElem?_append_right (by omega), hlenk, Nat.sub_self] at g2
      rw [List.append_assoc, List.getElem?_append_right (by omega), hlenk, show i + v / 32 + 1 - (i + v / 32) = 1 from by omega, show m - i = (m - i - 1) + 1 from by omega, List.replicate_succ] at g3
      have g2 : wr.cell? ⟨g, i + v / 32, none⟩ = some (.int .u32 cy) := g2
      have g3 : wr.cell? ⟨g, i + v / 32 + 1, none⟩ = some (.int .u32 0) := g3
      have hfin : ∀ d hi' : Nat, d < 4294967296 → hi' < 2 ^ (v % 32) → d + 4294967296 * hi' = cy + X[i]?.getD 0 * 2 ^ (v % 32) →
        (∃ (j cz : Nat) (os' : List Nat), j ≤ m ∧ Value.int .i64 ((i : Int) + 1) = .int .i64 j ∧ cz < 2 ^ (v % 32) ∧ os'.length = j ∧ Lim 4294967296 os' ∧
          nv 4294967296 os' + 4294967296 ^ j * cz = nv 4294967296 (X.take j) * 2 ^ (v % 32) ∧
          Own .u32 39 ((wr.setCell ⟨g, i + v / 32, none⟩ (.int .u32 (d : Int))).setCell ⟨g, i + v / 32 + 1, none⟩ (.int .u32 (hi' : Int))) w.heap.size (some ⟨g, 0, none⟩) (m + v / 32 + 1) (m + v / 32 + 1)
            (List.replicate (v / 32) 0 ++ os' ++ [cz] ++ List.replicate (m - j) 0) ∧ Ext w ((wr.setCell ⟨g, i + v / 32, none⟩ (.int .u32 (d : Int))).setCell ⟨g, i + v / 32 + 1, none⟩ (.int .u32 (hi' : Int)))) := by
        intro d hi' hd hh he
        refine ⟨i + 1, hi', os ++ [d], by omega, by go_num, hh, by rw [List.length_append, HOL.out]; rfl, lim_append HOS.out (lim_one hd), shl_step HOL.out HI.out he, ?_, (HE.out.setCell hg1 _).setCell hg1 _⟩
        have h2 := (HO.out.set (i + v / 32) d).set (i + v / 32 + 1) hi'
        rw [show m - i = (m - (i + 1)) + 1 from by omega, shl_set hlenk] at h2
        rw [← List.append_assoc (List.replicate (v / 32) 0) os [d]]
        exact h2
      have HF := hid hfin
      clear hfin hlenk
      generalize X[i]?.getD 0 = x at *
      go_wp2_with fail
      obtain ⟨d, hi', hd, hh, he, e1, e2⟩ := shl_form hs32 b1 hcy
      rw [e1, e2]
      exact ⟨HF.out _ _ hd hh he, by simp [intOf]; omega⟩
    · obtain rfl : i = m := by omega
      have ho := HO.out
      simp only [Nat.sub_self, List.replicate_zero, List.append_nil] at ho
      have hv2 := shl_end (k := v / 32) HM.out HOL.out HI.out
      rw [← pow_32] at hv2
      have hlim : Lim 4294967296 (List.replicate (v / 32) 0 ++ os ++ [cy]) := lim_append (lim_append (fun y hy => by have := (List.mem_replicate.1 hy).2; omega) HOS.out) (lim_one hcyB)
      have hs := hid (short_any ho.sl hlim)
      have hsh := ho.short hlim
      rw [hv2] at hs hsh
      have HS := hid hsh
      clear hsh hv2 ho hlim hlenk
      go_wp2_with (go_at_call 81; refine hs.out.mono ?_; rintro e w' ⟨rfl, rfl⟩)
      go_ret2
      exact ⟨_, _, rfl, HS.out, HE.out⟩
end Go.Proofs.Ytmfgcjjoagdamaa
