/-
  The contracts of nat.may, nat.Shl.
  The contract of nat.Shr.
-/
import Derived.Test.YtikkibpjchmajaaPk3
import Derived.Test.YtikkibpjchmajaaPk4
namespace Go.Proofs.Ytikkibpjchmajaa
open Go.RowKit
open Go.Lib (hid)

theorem may_yes {w : World} {n : Int} (h0 : 0 ≤ n) (h1 : n ≤ 1048576) : Calls Try.prog 96 #[.int .i64 n] w fun e w' => e = .returned (.bool true) ∧ w = w' := by
  go_enter Try.func96, Try.ntmps96
  go_wp2
  go_ret
  exact ⟨rfl, rfl⟩
theorem may_no {w : World} {n : Int} (h : n < 0 ∨ 1048576 < n) : Calls Try.prog 96 #[.int .i64 n] w fun e w' => e = .returned (.bool false) ∧ w = w' := by
  rcases h with h | h
  · have h' : ¬ 0 ≤ n := by omega
    go_enter Try.func96, Try.ntmps96
    go_wp2
    go_ret
    exact ⟨rfl, rfl⟩
  · have h0 : 0 ≤ n := by omega
    have h' : ¬ n ≤ 1048576 := by omega
    go_enter Try.func96, Try.ntmps96
    go_wp2
    go_ret
    exact ⟨rfl, rfl⟩

theorem shl_no {w : World} {A : Option Addr} {m c : Nat} {n : Int} (h : n < 0 ∨ 1048576 < n) : Calls Try.prog 83 #[.slice A m c, .int .i64 n] w (RetNE 2 w) := by
  go_enter Try.func83, Try.ntmps83
  go_wp2_with (go_at_call 96; refine (may_no h).mono ?_; rintro e w1 ⟨rfl, rfl⟩)
  go_ret2
  exact ⟨rfl, Ext.refl _⟩
theorem shr_no {w : World} {A : Option Addr} {m c : Nat} {n : Int} (h : n < 0 ∨ 1048576 < n) : Calls Try.prog 87 #[.slice A m c, .int .i64 n] w (RetNE 2 w) := by
  go_enter Try.func87, Try.ntmps87
  go_wp2_with (go_at_call 96; refine (may_no h).mono ?_; rintro e w1 ⟨rfl, rfl⟩)
  go_ret2
  exact ⟨rfl, Ext.refl _⟩

set_option maxHeartbeats 800000 in
theorem shl_any {w : World} {A : Option Addr} {n c : Nat} {xs : List Nat} {v : Nat} (h : Sl .u32 w A n c xs) (hl : Lim 4294967296 xs) (hn : n ≤ 1099511627776) (hv : v ≤ 1048576) :
    Calls Try.prog 83 #[.slice A n c, .int .i64 v] w (RetOE .u32 100 (nd 4294967296 (nv 4294967296 xs * 2 ^ v)) 0 w) := by
  have h1 := h.short hl
  have s1 := hid (short_any h hl)
  have q1 : (nd 4294967296 (nv 4294967296 xs)).length ≤ 1099511627776 := by have := nd_length_le (b := 4294967296) (by omega) hl; have := h.len; omega
  clear h hl
  generalize nv 4294967296 xs = p at *
  have e1 : nv 4294967296 (nd 4294967296 p) = p := nv_nd (by omega) p
  have k1 := nd_lim (b := 4294967296) (by omega) p
  generalize nd 4294967296 p = X at h1 s1 q1 e1 k1
  subst e1
  have K1 := hid k1
  clear k1
  generalize hm : X.length = m at *
  have HM := hid hm
  clear hm
  have m1 := hid (may_yes (w := w) (n := v) (by omega) (by omega))
  go_enter Try.func83, Try.ntmps83
  go_wp2_with (first
   | (go_at_call 96; refine m1.out.mono ?_; rintro e w' ⟨rfl, rfl⟩)
   | (go_at_call 80; refine s1.out.mono ?_; rintro e w' ⟨rfl, rfl⟩)
   | (at_make; refine wpl_make (w0 := w) (Ext.refl _) rfl (.tmp 20) (.tmp 20) _ rfl 100 .u32 4 Try.underlying22 info_u32 _ (m + v / 32 + 1) rfl rfl (by omega) (by omega) (by simp only [maxLen]; omega) ?_; intro g w1 hg1 ho1 hx1))
  go_loopw [24] (fun si wr => ∃ (i cy : Nat) (os : List Nat), i ≤ m ∧ si = .int .i64 i ∧ cy < 2 ^ (v % 32) ∧ os.length = i ∧ Lim 4294967296 os ∧
      nv 4294967296 os + 4294967296 ^ i * cy = nv 4294967296 (X.take i) * 2 ^ (v % 32) ∧
      Own .u32 100 wr w.heap.size (some ⟨g, 0, none⟩) (m + v / 32 + 1) (m + v / 32 + 1) (List.replicate (v / 32) 0 ++ os ++ [cy] ++ List.replicate (m - i) 0) ∧ Ext w wr) (fun si _ => m - (intOf si).toNat)
  case atStart =>
    refine ⟨0, 0, [], Nat.zero_le _, rfl, Nat.two_pow_pos _, rfl, fun x hx => by simp at hx, by simp [nv], ?_, hx1⟩
    have e : List.replicate (m + v / 32 + 1) 0 = List.replicate (v / 32) 0 ++ [] ++ [0] ++ List.replicate (m - 0) 0 := by
      rw [show m + v / 32 + 1 = v / 32 + (m + 1) from by omega, ← List.replicate_append_replicate, List.replicate_succ]; simp
    rw [e] at ho1
    exact ho1
  case round =>
    obtain ⟨i, cy, os, hi, rfl, hcy, hol, hos, hinv, ho, hx⟩ := hrel
    have H1 := hid (h1.ext hx)
    have HE := hid hx
    have HI := hid hinv
    have HO := hid ho
    have HOL := hid hol
    have HOS := hid hos
    clear h1 hx hinv ho hol hos ho1 hx1
    have hs32 : v % 32 < 32 := Nat.mod_lt _ (by omega)
    have hcyB : cy < 4294967296 := by
      have : 2 ^ (v % 32) ≤ 2 ^ 31 := Nat.pow_le_pow_right (by omega) (by omega)
      omega
    have hlenk : (List.replicate (v / 32) 0 ++ os).length = i + v / 32 := by rw [List.length_append, List.length_replicate, HOL.out]; omega
    by_cases hlt : i < m
    · obtain ⟨ba, oa, rfl, g1⟩ := H1.out.get hlt
      have b1 := lim_getD (b := 4294967296) (by omega) K1.out i
      have g2 := HO.out.cell (i := i + v / 32) (by omega)
      have g3 := HO.out.cell (i := i + v / 32 + 1) (by omega)
      have gf := HO.out.frozen (i + v / 32)
      have gf2 := HO.out.frozen (i + v / 32 + 1)
      rw [List.append_assoc, List.getElem?_append_right (by omega), hlenk, Nat.sub_self] at g2
      rw [List.append_assoc, List.getElem?_append_right (by omega), hlenk, show i + v / 32 + 1 - (i + v / 32) = 1 from by omega, show m - i = (m - i - 1) + 1 from by omega, List.replicate_succ] at g3
      have g2 : wr.cell? ⟨g, i + v / 32, none⟩ = some (.int .u32 cy) := g2
      have g3 : wr.cell? ⟨g, i + v / 32 + 1, none⟩ = some (.int .u32 0) := g3
      have hfin : ∀ d hi' : Nat, d < 4294967296 → hi' < 2 ^ (v % 32) → d + 4294967296 * hi' = cy + X[i]?.getD 0 * 2 ^ (v % 32) →
        (∃ (j cz : Nat) (os' : List Nat), j ≤ m ∧ Value.int .i64 ((i : Int) + 1) = .int .i64 j ∧ cz < 2 ^ (v % 32) ∧ os'.length = j ∧ Lim 4294967296 os' ∧
          nv 4294967296 os' + 4294967296 ^ j * cz = nv 4294967296 (X.take j) * 2 ^ (v % 32) ∧
          Own .u32 100 ((wr.setCell ⟨g, i + v / 32, none⟩ (.int .u32 (d : Int))).setCell ⟨g, i + v / 32 + 1, none⟩ (.int .u32 (hi' : Int))) w.heap.size (some ⟨g, 0, none⟩) (m + v / 32 + 1) (m + v / 32 + 1)
            (List.replicate (v / 32) 0 ++ os' ++ [cz] ++ List.replicate (m - j) 0) ∧ Ext w ((wr.setCell ⟨g, i + v / 32, none⟩ (.int .u32 (d : Int))).setCell ⟨g, i + v / 32 + 1, none⟩ (.int .u32 (hi' : Int)))) := by
        intro d hi' hd hh he
        refine ⟨i + 1, hi', os ++ [d], by omega, by go_num, hh, by rw [List.length_append, HOL.out]; rfl, lim_append HOS.out (lim_one hd), shl_step HOL.out HI.out he, ?_, (HE.out.setCell hg1 _).setCell hg1 _⟩
        have h2 := (HO.out.set (i + v / 32) d).set (i + v / 32 + 1) hi'
        rw [show m - i = (m - (i + 1)) + 1 from by omega, shl_set hlenk] at h2
        rw [← List.append_assoc (List.replicate (v / 32) 0) os [d]]
        exact h2
      have HF := hid hfin
      clear hfin hlenk
      generalize X[i]?.getD 0 = x at *
      go_wp2_with fail
      obtain ⟨d, hi', hd, hh, he, e1, e2⟩ := shl_form hs32 b1 hcy
      rw [e1, e2]
      exact ⟨HF.out _ _ hd hh he, by simp [intOf]; omega⟩
    · obtain rfl : i = m := by omega
      have ho := HO.out
      simp only [Nat.sub_self, List.replicate_zero, List.append_nil] at ho
      have hv2 := shl_end (k := v / 32) HM.out HOL.out HI.out
      rw [← pow_32] at hv2
      have hlim : Lim 4294967296 (List.replicate (v / 32) 0 ++ os ++ [cy]) := lim_append (lim_append (fun y hy => by have := (List.mem_replicate.1 hy).2; omega) HOS.out) (lim_one hcyB)
      have hs := hid (short_any ho.sl hlim)
      have hsh := ho.short hlim
      rw [hv2] at hs hsh
      have HS := hid hsh
      clear hsh hv2 ho hlim hlenk
      go_wp2_with (go_at_call 80; refine hs.out.mono ?_; rintro e w' ⟨rfl, rfl⟩)
      go_ret2
      exact ⟨_, _, rfl, HS.out, HE.out⟩
end Go.Proofs.Ytikkibpjchmajaa

namespace Go.Proofs.Ytikkibpjchmajaa
open Go.RowKit
open Go.Lib (hid)

/-- The rest of a slice from place j on. -/
theorem Sl.drop {k : IntKind} {w : World} {A : Option Addr} {n c : Nat} {zs : List Nat} (h : Sl k w A n c zs) {j : Nat} (hj : j ≤ n) :
    Sl k w (if c = j then A else A.map (·.add j)) (n - j) (c - j) (zs.drop j) :=
  ⟨by rw [List.length_drop, h.len], by have := h.cap; omega, by have := h.max; omega, fun hn => by
    obtain ⟨b, o, rfl, hlt, hc⟩ := h.at_ (by omega)
    have := h.cap
    rw [if_neg (by omega)]
    refine ⟨b, o + j, by simp [Addr.add_lit], hlt, fun i z hz => ?_⟩
    rw [List.getElem?_drop] at hz
    rw [Nat.add_assoc]
    exact hc _ _ hz⟩

theorem shr_form {y z s : Nat} (hs : s < 32) (hy : y < 4294967296) (hz : z < 4294967296) : ∃ d : Nat, d < 4294967296 ∧ d * 2 ^ s + y % 2 ^ s = y + 4294967296 * (z % 2 ^ s) ∧
    bits BinOp.or IntKind.u64 (y : Int) ((z : Int) * 4294967296) / 2 ^ s % 4294967296 = (d : Int) := by
  obtain ⟨q, hq, hB⟩ := two_split hs
  have hP : 0 < 2 ^ s := Nat.two_pow_pos s
  have h1 := shr_nat (z := z) hP hq (show y < 2 ^ s * q by omega)
  rw [← hB] at h1
  refine ⟨(y + 4294967296 * z) / 2 ^ s % 4294967296, Nat.mod_lt _ (by omega), h1, ?_⟩
  have e0 : (z : Int) * 4294967296 = ((z * 4294967296 : Nat) : Int) := by omega
  have e1 : z * 4294967296 ||| y = z * 4294967296 + y := nat_join 32 _ _ (by omega) (by omega)
  have e2 : z * 4294967296 + y = y + 4294967296 * z := by omega
  rw [e0, u64_or_nat _ _ (by omega) (by omega), Nat.or_comm, e1, e2, pow_cast]
  generalize y + 4294967296 * z = t
  rw [← Int.natCast_ediv]
  generalize t / 2 ^ s = u
  omega
theorem shr_form0 {y s : Nat} (hs : s < 32) (hy : y < 4294967296) : ∃ d : Nat, d < 4294967296 ∧ d * 2 ^ s + y % 2 ^ s = y + 4294967296 * (0 % 2 ^ s) ∧
    (y : Int) / 2 ^ s % 4294967296 = (d : Int) := by
  have hP : 0 < 2 ^ s := Nat.two_pow_pos s
  have hle : y / 2 ^ s ≤ y := Nat.div_le_self _ _
  refine ⟨y / 2 ^ s, by omega, ?_, ?_⟩
  · have := Nat.div_add_mod y (2 ^ s)
    rw [Nat.zero_mod, Nat.mul_comm]
    omega
  · rw [pow_cast, ← Int.natCast_ediv]
    generalize y / 2 ^ s = u at *
    omega

set_option maxHeartbeats 1600000 in
theorem shr_any {w : World} {A : Option Addr} {n c : Nat} {xs : List Nat} {v : Nat} (h : Sl .u32 w A n c xs) (hl : Lim 4294967296 xs) (hn : n ≤ 1099511627776) (hv : v ≤ 1048576) :
    Calls Try.prog 87 #[.slice A n c, .int .i64 v] w (RetOE .u32 100 (nd 4294967296 (nv 4294967296 xs / 2 ^ v)) 0 w) := by
  have h1 := h.short hl
  have s1 := hid (short_any h hl)
  have q1 : (nd 4294967296 (nv 4294967296 xs)).length ≤ 1099511627776 := by have := nd_length_le (b := 4294967296) (by omega) hl; have := h.len; omega
  clear h hl
  generalize nv 4294967296 xs = p at *
  have e1 : nv 4294967296 (nd 4294967296 p) = p := nv_nd (by omega) p
  have k1 := nd_lim (b := 4294967296) (by omega) p
  generalize nd 4294967296 p = X at h1 s1 q1 e1 k1
  subst e1
  have K1 := hid k1
  clear k1
  generalize hm : X.length = m at *
  have HM := hid hm
  clear hm
  have m1 := hid (may_yes (w := w) (n := v) (by omega) (by omega))
  have hcc := h1.cap
  by_cases hk : v / 32 ≤ m
  · have hk' : (v : Int) / 32 ≤ m := by omega
    have hd := h1.drop (j := v / 32) (by omega)
    have hval : nv 4294967296 X / 2 ^ v = nv 4294967296 (X.drop (v / 32)) / 2 ^ (v % 32) := shr_val K1.out (by rw [HM.out]; omega)
    have hdl : Lim 4294967296 (X.drop (v / 32)) := fun y hy => K1.out y (List.mem_of_mem_drop hy)
    rw [hval]
    clear hval h1
    have HC := hid hcc
    by_cases hcK : c = v / 32
    · rw [if_pos hcK] at hd
      have hcK' := hcK.symm
      subst hcK'
      have hnil : X.drop (v / 32) = [] := List.drop_eq_nil_of_le (by rw [HM.out]; omega)
      rw [hnil]
      clear hd hdl hnil
      simp only [nv, Nat.zero_div, nd_zero]
      go_enter Try.func87, Try.ntmps87
      go_wp2_with (first
       | (go_at_call 96; refine m1.out.mono ?_; rintro e w' ⟨rfl, rfl⟩)
       | (go_at_call 80; refine s1.out.mono ?_; rintro e w' ⟨rfl, rfl⟩)
       | (at_make; refine wpl_make (w0 := w) (Ext.refl _) rfl (.tmp 22) (.tmp 22) _ rfl 100 .u32 4 Try.underlying22 info_u32 _ 0 rfl rfl (by omega) (by omega) (by simp only [maxLen]; omega) ?_; intro g w1 hg1 ho1 hx1))
      go_loopw [26] (fun si wr => si = .int .i64 0 ∧ wr = w1) (fun si _ => 0)
      case atStart => exact ⟨rfl, rfl⟩
      case round =>
        obtain ⟨rfl, rfl⟩ := hrel
        have hs := hid (short_any ho1.sl (fun y hy => by simp at hy))
        go_wp2_with (go_at_call 80; refine hs.out.mono ?_; rintro e w' ⟨rfl, rfl⟩)
        go_ret2
        exact ⟨_, _, rfl, ho1, hx1⟩
    · rw [if_neg hcK] at hd
      go_enter Try.func87, Try.ntmps87
      go_wp2_with (first
       | (go_at_call 96; refine m1.out.mono ?_; rintro e w' ⟨rfl, rfl⟩)
       | (go_at_call 80; refine s1.out.mono ?_; rintro e w' ⟨rfl, rfl⟩)
       | (at_make; refine wpl_make (w0 := w) (Ext.refl _) rfl (.tmp 22) (.tmp 22) _ rfl 100 .u32 4 Try.underlying22 info_u32 _ (m - v / 32) rfl rfl (by omega) (by omega) (by simp only [maxLen]; omega) ?_; intro g w1 hg1 ho1 hx1))
      have hq : m - v / 32 ≤ 1099511627776 := by omega
      clear HC hcc
      generalize (Option.map (fun x => Addr.add x (v / 32)) A) = A at *
      generalize m - v / 32 = r at *
      generalize X.drop (v / 32) = Y at *
      have D1 := hid hdl
      clear hdl
      go_loopw [26] (fun si wr => ∃ (i : Nat) (os : List Nat), i ≤ r ∧ si = .int .i64 i ∧ os.length = i ∧ Lim 4294967296 os ∧
          nv 4294967296 os * 2 ^ (v % 32) + Y[0]?.getD 0 % 2 ^ (v % 32) = nv 4294967296 (Y.take i) + 4294967296 ^ i * (Y[i]?.getD 0 % 2 ^ (v % 32)) ∧
          Own .u32 100 wr w.heap.size (some ⟨g, 0, none⟩) r r (os ++ List.replicate (r - i) 0) ∧ Ext w wr) (fun si _ => r - (intOf si).toNat)
      case atStart => exact ⟨0, [], Nat.zero_le _, rfl, rfl, fun x hx => by simp at hx, by simp [nv], ho1, hx1⟩
      case round =>
        obtain ⟨i, os, hi, rfl, hol, hos, hinv, ho, hx⟩ := hrel
        have H1 := hid (hd.ext hx)
        have HE := hid hx
        have HI := hid hinv
        have HO := hid ho
        have HOL := hid hol
        have HOS := hid hos
        clear hd hx hinv ho hol hos ho1 hx1
        have hs32 : v % 32 < 32 := Nat.mod_lt _ (by omega)
        by_cases hlt : i < r
        · obtain ⟨ba, oa, rfl, g1⟩ := H1.out.get hlt
          have b1 := lim_getD (b := 4294967296) (by omega) D1.out i
          have b2 := lim_getD (b := 4294967296) (by omega) D1.out (i + 1)
          have g0 := HO.out.cell (i := i) hlt
          have gf := HO.out.frozen i
          rw [show (os ++ List.replicate (r - i) 0)[i]?.getD 0 = 0 from by rw [List.getElem?_append_right (by rw [HOL.out]; omega), HOL.out, Nat.sub_self, List.getElem?_replicate, if_pos (by omega)]; rfl] at g0
          have hfin : ∀ d : Nat, d < 4294967296 → d * 2 ^ (v % 32) + Y[i]?.getD 0 % 2 ^ (v % 32) = Y[i]?.getD 0 + 4294967296 * (Y[i + 1]?.getD 0 % 2 ^ (v % 32)) →
            (∃ (j : Nat) (os' : List Nat), j ≤ r ∧ Value.int .i64 ((i : Int) + 1) = .int .i64 j ∧ os'.length = j ∧ Lim 4294967296 os' ∧
              nv 4294967296 os' * 2 ^ (v % 32) + Y[0]?.getD 0 % 2 ^ (v % 32) = nv 4294967296 (Y.take j) + 4294967296 ^ j * (Y[j]?.getD 0 % 2 ^ (v % 32)) ∧
              Own .u32 100 (wr.setCell ⟨g, i, none⟩ (.int .u32 (d : Int))) w.heap.size (some ⟨g, 0, none⟩) r r (os' ++ List.replicate (r - j) 0) ∧ Ext w (wr.setCell ⟨g, i, none⟩ (.int .u32 (d : Int)))) := by
            intro d hd he
            refine ⟨i + 1, os ++ [d], by omega, by go_num, by rw [List.length_append, HOL.out]; rfl, lim_append HOS.out (lim_one hd), shr_step HOL.out HI.out he, ?_, HE.out.setCell hg1 _⟩
            have h2 := HO.out.set i d
            rwa [set_tail HOL.out (by omega)] at h2
          have HF := hid hfin
          clear hfin
          by_cases hlt2 : i + 1 < r
          · obtain ⟨bb, ob, hb, g2⟩ := H1.out.get hlt2
            injection hb with hb
            injection hb with hb hb2
            subst hb; subst hb2
            generalize Y[i]?.getD 0 = y at *
            generalize Y[i + 1]?.getD 0 = z at *
            go_wp2_with fail
            obtain ⟨d, hd, he, e1⟩ := shr_form hs32 b1 b2
            rw [e1]
            exact ⟨HF.out _ hd he, by simp [intOf]; omega⟩
          · have hz0 : Y[i + 1]?.getD 0 = 0 := by rw [List.getElem?_eq_none (by rw [H1.out.len]; omega)]; rfl
            rw [hz0] at HF
            clear hz0 b2
            generalize Y[i]?.getD 0 = y at *
            go_wp2_with fail
            obtain ⟨d, hd, he, e1⟩ := shr_form0 hs32 b1
            rw [e1]
            exact ⟨HF.out _ hd he, by simp [intOf]; omega⟩
        · obtain rfl : i = r := by omega
          have ho := HO.out
          simp only [Nat.sub_self, List.replicate_zero, List.append_nil] at ho
          have hv2 := shr_end H1.out.len HI.out
          have hs := hid (short_any ho.sl HOS.out)
          have hsh := ho.short HOS.out
          rw [hv2] at hs hsh
          have HS := hid hsh
          clear hsh hv2 ho
          go_wp2_with (go_at_call 80; refine hs.out.mono ?_; rintro e w' ⟨rfl, rfl⟩)
          go_ret2
          exact ⟨_, _, rfl, HS.out, HE.out⟩
  · have hk' : ¬ (v : Int) / 32 ≤ m := by omega
    have hd := h1.drop (j := m) (by omega)
    have hval : nv 4294967296 X / 2 ^ v = nv 4294967296 (X.drop (m)) / 2 ^ (v % 32) := shr_val K1.out (by rw [HM.out]; omega)
    have hdl : Lim 4294967296 (X.drop (m)) := fun y hy => K1.out y (List.mem_of_mem_drop hy)
    rw [hval]
    clear hval h1
    have HC := hid hcc
    by_cases hcK : c = m
    · rw [if_pos hcK] at hd
      have hcK' := hcK.symm
      subst hcK'
      have hnil : X.drop (m) = [] := List.drop_eq_nil_of_le (by rw [HM.out]; omega)
      rw [hnil]
      clear hd hdl hnil
      simp only [nv, Nat.zero_div, nd_zero]
      go_enter Try.func87, Try.ntmps87
      go_wp2_with (first
       | (go_at_call 96; refine m1.out.mono ?_; rintro e w' ⟨rfl, rfl⟩)
       | (go_at_call 80; refine s1.out.mono ?_; rintro e w' ⟨rfl, rfl⟩)
       | (at_make; refine wpl_make (w0 := w) (Ext.refl _) rfl (.tmp 22) (.tmp 22) _ rfl 100 .u32 4 Try.underlying22 info_u32 _ 0 rfl rfl (by omega) (by omega) (by simp only [maxLen]; omega) ?_; intro g w1 hg1 ho1 hx1))
      go_loopw [26] (fun si wr => si = .int .i64 0 ∧ wr = w1) (fun si _ => 0)
      case atStart => exact ⟨rfl, rfl⟩
      case round =>
        obtain ⟨rfl, rfl⟩ := hrel
        have hs := hid (short_any ho1.sl (fun y hy => by simp at hy))
        go_wp2_with (go_at_call 80; refine hs.out.mono ?_; rintro e w' ⟨rfl, rfl⟩)
        go_ret2
        exact ⟨_, _, rfl, ho1, hx1⟩
    · rw [if_neg hcK] at hd
      have hnil : X.drop (m) = [] := List.drop_eq_nil_of_le (by rw [HM.out]; omega)
      rw [hnil]
      clear hd hdl hnil
      simp only [nv, Nat.zero_div, nd_zero]
      go_enter Try.func87, Try.ntmps87
      go_wp2_with (first
       | (go_at_call 96; refine m1.out.mono ?_; rintro e w' ⟨rfl, rfl⟩)
       | (go_at_call 80; refine s1.out.mono ?_; rintro e w' ⟨rfl, rfl⟩)
       | (at_make; refine wpl_make (w0 := w) (Ext.refl _) rfl (.tmp 22) (.tmp 22) _ rfl 100 .u32 4 Try.underlying22 info_u32 _ 0 rfl rfl (by omega) (by omega) (by simp only [maxLen]; omega) ?_; intro g w1 hg1 ho1 hx1))
      go_loopw [26] (fun si wr => si = .int .i64 0 ∧ wr = w1) (fun si _ => 0)
      case atStart => exact ⟨rfl, rfl⟩
      case round =>
        obtain ⟨rfl, rfl⟩ := hrel
        have hs := hid (short_any ho1.sl (fun y hy => by simp at hy))
        go_wp2_with (go_at_call 80; refine hs.out.mono ?_; rintro e w' ⟨rfl, rfl⟩)
        go_ret2
        exact ⟨_, _, rfl, ho1, hx1⟩
end Go.Proofs.Ytikkibpjchmajaa

