
/-
  The contract of nat.Sub.
-/
import Derived.Test.YtmfgcjjoagdamaaCmp
import Derived.Test.YtmfgcjjoagdamaaMath2
namespace Go.Proofs.Ytmfgcjjoagdamaa
open Go.RowKit
open Go.Lib (hid)

theorem sub_form {x y bw : Nat} (hx : x < 4294967296) (hy : y < 4294967296) (hb : bw ≤ 1) : ∃ d bw' : Nat, d < 4294967296 ∧ bw' ≤ 1 ∧ d + y + bw = x + 4294967296 * bw' ∧
    IntKind.u64.wrap (IntKind.u64.wrap ((x : Int) - bw) - y) / 9223372036854775808 = (bw' : Int) ∧ IntKind.u64.wrap (IntKind.u64.wrap ((x : Int) - bw) - y) % 4294967296 = (d : Int) := by
  rw [IntKind.wrap_u64, IntKind.wrap_u64]
  by_cases h : x < y + bw
  · exact ⟨x + 4294967296 - y - bw, 1, by omega, by omega, by omega, by omega, by omega⟩
  · exact ⟨x - y - bw, 0, by omega, by omega, by omega, by omega, by omega⟩
theorem sub_form0 {x bw : Nat} (hx : x < 4294967296) (hb : bw ≤ 1) : ∃ d bw' : Nat, d < 4294967296 ∧ bw' ≤ 1 ∧ d + 0 + bw = x + 4294967296 * bw' ∧
    IntKind.u64.wrap ((x : Int) - bw) / 9223372036854775808 = (bw' : Int) ∧ IntKind.u64.wrap ((x : Int) - bw) % 4294967296 = (d : Int) := by
  rw [IntKind.wrap_u64]
  by_cases h : x < bw
  · exact ⟨x + 4294967296 - bw, 1, by omega, by omega, by omega, by omega, by omega⟩
  · exact ⟨x - bw, 0, by omega, by omega, by omega, by omega, by omega⟩

/-- A new slice, and an error's number. -/
def RetOE (k : IntKind) (e : TypeId) (zs : List Nat) (err : Int) (w : World) : Ending → World → Prop := fun E w' =>
  ∃ A c, E = .returned (.tuple #[.slice A zs.length c, .int .i64 err]) ∧ Own k e w' w.heap.size A zs.length c zs ∧ Ext w w'

/-- No slice, and an error's number. -/
def RetNE (err : Int) (w : World) : Ending → World → Prop := fun E w' =>
  E = .returned (.tuple #[.slice none 0 0, .int .i64 err]) ∧ Ext w w'

set_option maxHeartbeats 800000 in
theorem sub_less {w : World} {A A' : Option Addr} {n c n' c' : Nat} {xs ys : List Nat} (h : Sl .u32 w A n c xs) (hl : Lim 4294967296 xs) (h' : Sl .u32 w A' n' c' ys) (hl' : Lim 4294967296 ys)
    (hn : n ≤ 1099511627776) (hn' : n' ≤ 1099511627776) (hlt : nv 4294967296 xs < nv 4294967296 ys) :
    Calls Try.prog 76 #[.slice A n c, .slice A' n' c'] w (RetNE 2 w) := by
  have hc := cmp_any h hl h' hl' hn hn'
  rw [cmpN_lt hlt] at hc
  have hc := hid hc
  clear hlt h h' hl hl'
  go_enter Try.func76, Try.ntmps76
  go_wp2_with (go_at_call 93; refine hc.out.mono ?_; rintro e w1 ⟨rfl, hx⟩)
  go_ret2
  exact ⟨rfl, hx⟩

set_option maxHeartbeats 800000 in
theorem sub_any {w : World} {A A' : Option Addr} {n c n' c' : Nat} {xs ys : List Nat} (h : Sl .u32 w A n c xs) (hl : Lim 4294967296 xs) (h' : Sl .u32 w A' n' c' ys) (hl' : Lim 4294967296 ys)
    (hn : n ≤ 1099511627776) (hn' : n' ≤ 1099511627776) (hge : nv 4294967296 ys ≤ nv 4294967296 xs) :
    Calls Try.prog 76 #[.slice A n c, .slice A' n' c'] w (RetOE .u32 39 (nd 4294967296 (nv 4294967296 xs - nv 4294967296 ys)) 0 w) := by
  have hc := cmp_any h hl h' hl' hn hn'
  have hc0 : 0 ≤ cmpN (nv 4294967296 xs) (nv 4294967296 ys) := by unfold cmpN; rw [if_neg (by omega)]; split <;> omega
  generalize cmpN (nv 4294967296 xs) (nv 4294967296 ys) = q at hc hc0
  have hc := hid hc
  have h1 := h.short hl
  have h1' := h'.short hl'
  have s1 : Hid (∀ W, Ext w W → _) := hid (fun W hx => short_any (w := W) (h.ext hx) hl)
  have s2 : Hid (∀ W, Ext w W → _) := hid (fun W hx => short_any (w := W) (h'.ext hx) hl')
  have q1 : (nd 4294967296 (nv 4294967296 xs)).length ≤ 1099511627776 := by have := nd_length_le (b := 4294967296) (by omega) hl; have := h.len; omega
  have q2 : (nd 4294967296 (nv 4294967296 ys)).length ≤ 1099511627776 := by have := nd_length_le (b := 4294967296) (by omega) hl'; have := h'.len; omega
  clear h h' hl hl'
  generalize nv 4294967296 xs = p at *
  generalize nv 4294967296 ys = r at *
  have e1 : nv 4294967296 (nd 4294967296 p) = p := nv_nd (by omega) p
  have e2 : nv 4294967296 (nd 4294967296 r) = r := nv_nd (by omega) r
  have hlen : (nd 4294967296 r).length ≤ (nd 4294967296 p).length := by
    rcases Nat.lt_or_ge (nd 4294967296 p).length (nd 4294967296 r).length with hlt | hge'
    · have := nv_lt_len (b := 4294967296) (by omega) (nd_lim (by omega) p) (canon_nd (by omega) r) hlt
      omega
    · exact hge'
  have k1 := nd_lim (b := 4294967296) (by omega) p
  have k2 := nd_lim (b := 4294967296) (by omega) r
  generalize nd 4294967296 p = X at h1 s1 q1 e1 hlen k1
  generalize nd 4294967296 r = Y at h1' s2 q2 e2 hlen k2
  subst e1
  subst e2
  have K1 := hid k1
  have K2 := hid k2
  have HG := hid hge
  clear k1 k2 hge
  generalize hm : X.length = m at *
  generalize hm' : Y.length = m' at *
  have HM := hid hm
  have HM' := hid hm'
  clear hm hm'
  go_enter Try.func76, Try.ntmps76
  go_wp2_with fail
  refine hc.out.mono ?_
  rintro e wa ⟨rfl, hx⟩
  go_wp2_with fail
  refine (s1.out _ hx).mono ?_
  rintro e w' ⟨rfl, rfl⟩
  go_wp2_with fail
  refine (s2.out _ hx).mono ?_
  rintro e w' ⟨rfl, rfl⟩
  clear s1 s2 hc
  go_wp2_with (at_make; refine wpl_make (w0 := w) hx rfl (.tmp 19) (.tmp 19) _ rfl 39 .u32 4 Try.underlying22 info_u32 _ m rfl rfl rfl (by omega) (by simp only [maxLen]; omega) ?_; intro g w1 hg1 ho1 hx1)
  clear hx
  go_loopw [7, 23] (fun sc si wr => ∃ (i bw : Nat) (os : List Nat), i ≤ m ∧ sc = .int .u64 bw ∧ si = .int .i64 i ∧ bw ≤ 1 ∧ os.length = i ∧ Lim 4294967296 os ∧
      nv 4294967296 os + nv 4294967296 (Y.take i) = nv 4294967296 (X.take i) + 4294967296 ^ i * bw ∧
      Own .u32 39 wr w.heap.size (some ⟨g, 0, none⟩) m m (os ++ List.replicate (m - i) 0) ∧ Ext w wr) (fun _ si _ => m - (intOf si).toNat)
  case atStart => exact ⟨0, 0, [], Nat.zero_le _, rfl, rfl, by omega, rfl, fun x hx => by simp at hx, by simp [nv], ho1, hx1⟩
  case round =>
    obtain ⟨i, bw, os, hi, rfl, rfl, hbw, hol, hos, hinv, ho, hx⟩ := hrel
    have H1 := hid (h1.ext hx)
    have H2 := hid (h1'.ext hx)
    have HE := hid hx
    have HI := hid hinv
    have HO := hid ho
    have HOL := hid hol
    clear hx h1 h1' hinv ho ho1 hx1 hol
    by_cases hlt : i < m
    · have g0 := HO.out.cell (i := i) hlt
      have gf := HO.out.frozen i
      have b1 := lim_getD (b := 4294967296) (by omega) K1.out i
      have b2 := lim_getD (b := 4294967296) (by omega) K2.out i
      rw [show (os ++ List.replicate (m - i) 0)[i]?.getD 0 = 0 from by rw [List.getElem?_append_right (by rw [HOL.out]; omega), HOL.out, Nat.sub_self, List.getElem?_replicate, if_pos (by omega)]; rfl] at g0
      have hfin : ∀ d bw' : Nat, d < 4294967296 → bw' ≤ 1 → d + Y[i]?.getD 0 + bw = X[i]?.getD 0 + 4294967296 * bw' →
        (∃ (j bz : Nat) (os' : List Nat), j ≤ m ∧ Value.int .u64 (bw' : Int) = .int .u64 bz ∧ Value.int .i64 ((i : Int) + 1) = .int .i64 j ∧ bz ≤ 1 ∧ os'.length = j ∧ Lim 4294967296 os' ∧
          nv 4294967296 os' + nv 4294967296 (Y.take j) = nv 4294967296 (X.take j) + 4294967296 ^ j * bz ∧
          Own .u32 39 (wr.setCell ⟨g, i, none⟩ (.int .u32 (d : Int))) w.heap.size (some ⟨g, 0, none⟩) m m (os' ++ List.replicate (m - j) 0) ∧ Ext w (wr.setCell ⟨g, i, none⟩ (.int .u32 (d : Int)))) := by
        intro d bw' hd hb' he
        refine ⟨i + 1, bw', os ++ [d], by omega, rfl, by go_num, hb', by rw [List.length_append, HOL.out]; rfl, lim_append hos (lim_one hd), ?_, ?_, HE.out.setCell hg1 _⟩
        · exact sub_step HOL.out HI.out he
        · have := HO.out.set i d
          rwa [set_tail HOL.out (by omega)] at this
      have HF := hid hfin
      clear hfin hos
      obtain ⟨ba, oa, rfl, g1⟩ := H1.out.get hlt
      by_cases hn2 : i < m'
      · obtain ⟨bb, ob, rfl, g2⟩ := H2.out.get hn2
        generalize X[i]?.getD 0 = x at *
        generalize Y[i]?.getD 0 = y at *
        go_wp2_with fail
        obtain ⟨d, bw', hd, hb, he, e1, e2⟩ := sub_form b1 b2 hbw
        rw [e1, e2]
        exact ⟨HF.out _ _ hd hb he, by simp [intOf]; omega⟩
      · have hy0 : Y[i]?.getD 0 = 0 := by rw [List.getElem?_eq_none (by rw [H2.out.len]; omega)]; rfl
        rw [hy0] at HF
        clear hy0 b2
        generalize X[i]?.getD 0 = x at *
        go_wp2_with fail
        obtain ⟨d, bw', hd, hb, he, e1, e2⟩ := sub_form0 b1 hbw
        rw [e1, e2]
        exact ⟨HF.out _ _ hd hb he, by simp [intOf]; omega⟩
    · obtain rfl : i = m := by omega
      have ho := HO.out
      simp only [Nat.sub_self, List.replicate_zero, List.append_nil] at ho
      have hv := sub_end (b := 4294967296) (by omega) HM.out (by rw [HM'.out]; exact hlen) HOL.out hos HG.out HI.out
      have hs := hid (short_any ho.sl hos)
      have hsh := ho.short hos
      rw [hv] at hs hsh
      have HS := hid hsh
      clear hsh hv ho hos
      go_wp2_with (go_at_call 81; refine hs.out.mono ?_; rintro e w' ⟨rfl, rfl⟩)
      go_ret2
      exact ⟨_, _, rfl, HS.out, HE.out⟩
end Go.Proofs.Ytmfgcjjoagdamaa
