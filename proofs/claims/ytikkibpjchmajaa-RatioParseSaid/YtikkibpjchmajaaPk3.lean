/-
  The contracts of nat.short, nat.Trim.
  The contract of nat.Add.
  The contracts of nat.Cmp, Same.
  The contracts of the references' Same.
  The contract of nat.Sub.
-/
import Derived.Test.YtikkibpjchmajaaChecked
import Derived.Test.YtikkibpjchmajaaPk1
import Derived.Test.YtikkibpjchmajaaPk2
namespace Go.Proofs.Ytikkibpjchmajaa
open Go.RowKit
open Go.Lib (hid)

set_option maxHeartbeats 400000 in
theorem short_any {w : World} {A : Option Addr} {n c : Nat} {zs : List Nat} (h : Sl .u32 w A n c zs) (hl : Lim 4294967296 zs) :
    Calls Try.prog 80 #[.slice A n c] w fun e w' => e = .returned (.slice A (nd 4294967296 (nv 4294967296 zs)).length c) ∧ w = w' := by
  have hnm := h.max
  have hnc := h.cap
  unfold maxLen at hnm
  go_enter Try.func80, Try.ntmps80
  go_wp2
  go_loop [0] (fun s => ∃ m : Nat, m ≤ n ∧ s = .slice A m c ∧ ∀ j, m ≤ j → j < n → zs[j]? = some 0) (fun s => match s with | .slice _ m _ => m | _ => 0)
  case atStart => exact ⟨n, Nat.le_refl _, rfl, fun j h1 h2 => by omega⟩
  case round =>
    obtain ⟨m, hm, rfl, hz⟩ := hrel
    have HZ := hid hz
    clear hz
    have hlen := h.len
    have hfin : (m = 0 ∨ zs[m - 1]? ≠ some 0) → (nd 4294967296 (nv 4294967296 zs)).length = m := fun hd => by
      have := take_short (by omega) hl (m := m) (by omega) (fun j h1 h2 => HZ.out j h1 (by omega)) hd
      rw [← this, List.length_take]; omega
    by_cases hm0 : 0 < m
    · obtain ⟨b, o, rfl, hlt, hc⟩ := h.at_ (by omega)
      have hg : zs[m - 1]? = some (zs[m - 1]'(by omega)) := List.getElem?_eq_getElem _
      have hcell := hc _ _ hg
      generalize zs[m - 1]'(by omega) = z at hg hcell
      have HG := hid hg
      have HL := hid hlen
      have HF := hid hfin
      clear h hg hc hlen hfin
      go_wp2
      · have hz0 : z = 0 := by have h : ((z : Int) == 0) = true := by assumption
                               have := eq_of_beq h; omega
        go_round
        case rel =>
          refine ⟨m - 1, by omega, rfl, fun j h1 h2 => ?_⟩
          by_cases e : j = m - 1
          · rw [e, HG.out, hz0]
          · exact HZ.out j (by omega) h2
        case measure => simp; omega
      · have hz0 : z ≠ 0 := by have h : ((z : Int) == 0) = false := by assumption
                               intro e; rw [e] at h; simp at h
        go_ret
        refine ⟨?_, rfl⟩
        rw [HF.out (.inr (by rw [HG.out]; simpa using hz0))]
        rfl
    · obtain rfl : m = 0 := by omega
      have HF := hid hfin
      clear hfin
      go_wp2
      go_ret
      refine ⟨?_, rfl⟩
      rw [HF.out (by simp)]
      rfl

/-- What short leaves of a slice reads as the number's limbs. -/
theorem Sl.short {w : World} {A : Option Addr} {n c : Nat} {zs : List Nat} (h : Sl .u32 w A n c zs) (hl : Lim 4294967296 zs) : Sl .u32 w A (nd 4294967296 (nv 4294967296 zs)).length c (nd 4294967296 (nv 4294967296 zs)) := by
  have h1 := nd_length_le (b := 4294967296) (by omega) hl
  have h2 := h.take (m := (nd 4294967296 (nv 4294967296 zs)).length) (by have := h.len; omega)
  rwa [take_nd (by omega) hl] at h2
theorem Own.short {w : World} {lo : Nat} {e : TypeId} {A : Option Addr} {n c : Nat} {zs : List Nat} (h : Own .u32 e w lo A n c zs) (hl : Lim 4294967296 zs) : Own .u32 e w lo A (nd 4294967296 (nv 4294967296 zs)).length c (nd 4294967296 (nv 4294967296 zs)) := by
  have h1 := nd_length_le (b := 4294967296) (by omega) hl
  have h2 := h.take (m := (nd 4294967296 (nv 4294967296 zs)).length) (by have := h.len; omega)
  rwa [take_nd (by omega) hl] at h2

theorem info_u32 : (Try.prog.info? 100).map (fun i => (i.zero, i.size, i.bytes)) = some (some (.int .u32 0), 1, 4) := by kernel_rfl
theorem size_u32 : (Try.prog.info? 100).map (·.size) = some 1 := by kernel_rfl

set_option maxHeartbeats 400000 in
theorem trim_any {w : World} {A : Option Addr} {n c : Nat} {zs : List Nat} (h : Sl .u32 w A n c zs) (hl : Lim 4294967296 zs) (hn : n ≤ 1099511627776) :
    Calls Try.prog 58 #[.slice A n c] w (RetO .u32 100 (nd 4294967296 (nv 4294967296 zs)) w) := by
  have h1 := h.short hl
  have h2 : (nd 4294967296 (nv 4294967296 zs)).length ≤ 1099511627776 := by have := nd_length_le (b := 4294967296) (by omega) hl; have := h.len; omega
  have hs := hid (short_any h hl)
  generalize nd 4294967296 (nv 4294967296 zs) = ys at h1 h2 hs ⊢
  go_enter Try.func58, Try.ntmps58
  go_wp2_with (first
    | (go_at_call 80; refine hs.out.mono ?_; rintro e w' ⟨rfl, rfl⟩)
    | (at_make; refine wpl_make (w0 := w) (Ext.refl _) rfl (.tmp 7) (.tmp 7) _ rfl 100 .u32 4 Try.underlying22 info_u32 _ ys.length rfl rfl rfl (by omega) (by simp only [maxLen]; omega) ?_; intro g w1 hg1 ho1 hx1)
    | (refine wpl_copy (w0 := w) rfl (.tmp 9) (.tmp 10) _ _ rfl 100 Try.underlying22 size_u32 rfl rfl ho1 (h1.ext hx1) hx1 ?_; intro w2 ho2 hx2))
  go_ret
  exact ⟨_, _, rfl, ho2, hx2⟩
end Go.Proofs.Ytikkibpjchmajaa

namespace Go.Proofs.Ytikkibpjchmajaa
open Go.RowKit
open Go.Lib (hid)

set_option maxHeartbeats 800000 in
/-- Add, the longer number first or last. -/
theorem add_core {w : World} {args : Array Value} {A A' : Option Addr} {n c n' c' : Nat} {xs ys : List Nat} (h : Sl .u32 w A n c xs) (hl : Lim 4294967296 xs) (h' : Sl .u32 w A' n' c' ys) (hl' : Lim 4294967296 ys)
    (hn : n ≤ 1099511627776) (hge : n' ≤ n)
    (hh : (args = #[.slice A n c, .slice A' n' c'] ∧ ¬ n < n') ∨ (args = #[.slice A' n' c', .slice A n c] ∧ n' < n)) :
    Calls Try.prog 71 args w (RetO .u32 100 (nd 4294967296 (nv 4294967296 xs + nv 4294967296 ys)) w) := by
  rcases hh with ⟨rfl, hng⟩ | ⟨rfl, hng⟩
  all_goals
    go_enter Try.func71, Try.ntmps71
    go_wp2_with (first
      | (at_make; refine wpl_make (w0 := w) (Ext.refl _) rfl (.tmp 17) (.tmp 17) _ rfl 100 .u32 4 Try.underlying22 info_u32 _ (n + 1) rfl rfl (by omega) (by omega) (by simp only [maxLen]; omega) ?_; intro g w1 hg1 ho1 hx1)
      | fail)
    go_loopw [6, 21] (fun sc si wr => ∃ (i cy : Nat) (os : List Nat), i ≤ n + 1 ∧ sc = .int .u64 cy ∧ si = .int .i64 i ∧ cy ≤ 1 ∧ os.length = i ∧ Lim 4294967296 os ∧
        nv 4294967296 os + 4294967296 ^ i * cy = nv 4294967296 (xs.take i) + nv 4294967296 (ys.take i) ∧
        Own .u32 100 wr w.heap.size (some ⟨g, 0, none⟩) (n + 1) (n + 1) (os ++ List.replicate (n + 1 - i) 0) ∧ Ext w wr) (fun _ si _ => n + 1 - (intOf si).toNat)
    case atStart => exact ⟨0, 0, [], Nat.zero_le _, rfl, rfl, by omega, rfl, fun x hx => by simp at hx, by simp [nv], ho1, hx1⟩
    case round =>
      obtain ⟨i, cy, os, hi, rfl, rfl, hcy, hol, hos, hinv, ho, hx⟩ := hrel
      have H1 := hid (h.ext hx)
      have H2 := hid (h'.ext hx)
      have HE := hid hx
      have HI := hid hinv
      have HO := hid ho
      have HOL := hid hol
      clear hx h h' hinv ho ho1 hx1 hol
      by_cases hlt : i < n + 1
      · have g0 := HO.out.cell (i := i) hlt
        have gf := HO.out.frozen i
        have b1 := lim_getD (b := 4294967296) (by omega) hl i
        have b2 := lim_getD (b := 4294967296) (by omega) hl' i
        rw [show (os ++ List.replicate (n + 1 - i) 0)[i]?.getD 0 = 0 from by rw [List.getElem?_append_right (by rw [HOL.out]; omega), HOL.out, Nat.sub_self, List.getElem?_replicate, if_pos (by omega)]; rfl] at g0
        have hfin : ∀ d cy' : Nat, d < 4294967296 → cy' ≤ 1 → d + 4294967296 * cy' = cy + xs[i]?.getD 0 + ys[i]?.getD 0 →
          (∃ (j cz : Nat) (os' : List Nat), j ≤ n + 1 ∧ Value.int .u64 (cy' : Int) = .int .u64 cz ∧ Value.int .i64 ((i : Int) + 1) = .int .i64 j ∧ cz ≤ 1 ∧ os'.length = j ∧ Lim 4294967296 os' ∧
            nv 4294967296 os' + 4294967296 ^ j * cz = nv 4294967296 (xs.take j) + nv 4294967296 (ys.take j) ∧
            Own .u32 100 (wr.setCell ⟨g, i, none⟩ (.int .u32 (d : Int))) w.heap.size (some ⟨g, 0, none⟩) (n + 1) (n + 1) (os' ++ List.replicate (n + 1 - j) 0) ∧ Ext w (wr.setCell ⟨g, i, none⟩ (.int .u32 (d : Int)))) := by
          intro d cy' hd hc' he
          refine ⟨i + 1, cy', os ++ [d], by omega, rfl, by go_num, hc', by rw [List.length_append, HOL.out]; rfl, lim_append hos (lim_one hd), ?_, ?_, HE.out.setCell hg1 _⟩
          · exact add_step HOL.out HI.out he
          · have := HO.out.set i d
            rwa [set_tail HOL.out (by omega)] at this
        have HF := hid hfin
        clear hfin hos
        by_cases hn1 : i < n
        · obtain ⟨ba, oa, rfl, g1⟩ := H1.out.get hn1
          by_cases hn2 : i < n'
          · obtain ⟨bb, ob, rfl, g2⟩ := H2.out.get hn2
            generalize xs[i]?.getD 0 = x at *
            generalize ys[i]?.getD 0 = y at *
            go_wp2_with fail
            rw [show ((cy : Int) + x + y) / 4294967296 = (((cy + x + y) / 4294967296 : Nat) : Int) from by omega, show ((cy : Int) + x + y) % 4294967296 = (((cy + x + y) % 4294967296 : Nat) : Int) from by omega]
            exact ⟨HF.out _ _ (by omega) (by omega) (by omega), by simp [intOf]; omega⟩
          · have hy0 : ys[i]?.getD 0 = 0 := by rw [List.getElem?_eq_none (by rw [H2.out.len]; omega)]; rfl
            rw [hy0] at HF
            clear hy0 b2
            generalize xs[i]?.getD 0 = x at *
            go_wp2_with fail
            rw [show ((cy : Int) + x) / 4294967296 = (((cy + x) / 4294967296 : Nat) : Int) from by omega, show ((cy : Int) + x) % 4294967296 = (((cy + x) % 4294967296 : Nat) : Int) from by omega]
            exact ⟨HF.out _ _ (by omega) (by omega) (by omega), by simp [intOf]; omega⟩
        · have hy0 : ys[i]?.getD 0 = 0 := by rw [List.getElem?_eq_none (by rw [H2.out.len]; omega)]; rfl
          have hx0 : xs[i]?.getD 0 = 0 := by rw [List.getElem?_eq_none (by rw [H1.out.len]; omega)]; rfl
          rw [hy0, hx0] at HF
          have hn2 : ¬ i < n' := by omega
          clear hy0 hx0 b1 b2
          go_wp2_with fail
          rw [show (cy : Int) / 4294967296 = ((cy / 4294967296 : Nat) : Int) from by omega]
          exact ⟨HF.out _ _ (by omega) (by omega) (by omega), by simp [intOf]; omega⟩
      · obtain rfl : i = n + 1 := by omega
        have hv := add_end (b := 4294967296) (by omega) H1.out.len H2.out.len hl hl' hge HI.out
        have ho := HO.out
        simp only [Nat.sub_self, List.replicate_zero, List.append_nil] at ho
        have hs := hid (short_any ho.sl hos)
        have hsh := ho.short hos
        have hq := nd_length_le (b := 4294967296) (by omega) hos
        rw [hv] at hs hsh
        have HS := hid hsh
        clear hsh hv ho hos hl hl'
        go_wp2_with (go_at_call 80; refine hs.out.mono ?_; rintro e w' ⟨rfl, rfl⟩)
        go_ret
        exact ⟨_, _, rfl, HS.out, HE.out⟩

theorem add_any {w : World} {A A' : Option Addr} {n c n' c' : Nat} {xs ys : List Nat} (h : Sl .u32 w A n c xs) (hl : Lim 4294967296 xs) (h' : Sl .u32 w A' n' c' ys) (hl' : Lim 4294967296 ys)
    (hn : n ≤ 1099511627776) (hn' : n' ≤ 1099511627776) :
    Calls Try.prog 71 #[.slice A n c, .slice A' n' c'] w (RetO .u32 100 (nd 4294967296 (nv 4294967296 xs + nv 4294967296 ys)) w) := by
  by_cases hlt : n < n'
  · rw [Nat.add_comm]
    exact add_core h' hl' h hl hn' (by omega) (.inr ⟨rfl, hlt⟩)
  · exact add_core h hl h' hl' hn (by omega) (.inl ⟨rfl, hlt⟩)
end Go.Proofs.Ytikkibpjchmajaa

namespace Go.Proofs.Ytikkibpjchmajaa
open Go.RowKit
open Go.Lib (hid)

/-- What Cmp tells of two numbers. -/
def cmpN (m n : Nat) : Int := if m < n then -1 else if n < m then 1 else 0

theorem cmpN_lt {m n : Nat} (h : m < n) : cmpN m n = -1 := by simp [cmpN, h]
theorem cmpN_gt {m n : Nat} (h : n < m) : cmpN m n = 1 := by simp [cmpN, h]; omega
theorem cmpN_eq (m : Nat) : cmpN m m = 0 := by simp [cmpN]

/-- An answer in a world that has grown. -/
def RetE (v : Value) (w : World) : Ending → World → Prop := fun e w' => e = .returned v ∧ Ext w w'

set_option maxHeartbeats 800000 in
theorem cmp_any {w : World} {A A' : Option Addr} {n c n' c' : Nat} {xs ys : List Nat} (h : Sl .u32 w A n c xs) (hl : Lim 4294967296 xs) (h' : Sl .u32 w A' n' c' ys) (hl' : Lim 4294967296 ys)
    (hn : n ≤ 1099511627776) (hn' : n' ≤ 1099511627776) :
    Calls Try.prog 82 #[.slice A n c, .slice A' n' c'] w (RetE (.int .i64 (cmpN (nv 4294967296 xs) (nv 4294967296 ys))) w) := by
  have h1 := h.short hl
  have h1' := h'.short hl'
  have s1 := hid (short_any h hl)
  have s2 := hid (short_any h' hl')
  have q1 : (nd 4294967296 (nv 4294967296 xs)).length ≤ 1099511627776 := by have := nd_length_le (b := 4294967296) (by omega) hl; have := h.len; omega
  have q2 : (nd 4294967296 (nv 4294967296 ys)).length ≤ 1099511627776 := by have := nd_length_le (b := 4294967296) (by omega) hl'; have := h'.len; omega
  generalize nv 4294967296 xs = p at *
  generalize nv 4294967296 ys = q at *
  have e1 : nv 4294967296 (nd 4294967296 p) = p := nv_nd (by omega) p
  have e2 : nv 4294967296 (nd 4294967296 q) = q := nv_nd (by omega) q
  have k1 := canon_nd (b := 4294967296) (by omega) p
  have k2 := canon_nd (b := 4294967296) (by omega) q
  clear h h' hl hl'
  generalize nd 4294967296 p = X at *
  generalize nd 4294967296 q = Y at *
  subst e1
  subst e2
  have K1 := hid k1
  have K2 := hid k2
  clear k1 k2
  rcases Nat.lt_trichotomy X.length Y.length with hlt | heq | hgt
  · have hv : cmpN (nv 4294967296 X) (nv 4294967296 Y) = -1 := cmpN_lt (nv_lt_len (by omega) K1.out.1 K2.out hlt)
    rw [hv]
    clear hv
    go_enter Try.func82, Try.ntmps82
    go_wp2_with fail
    refine s1.out.mono ?_
    rintro e w' ⟨rfl, rfl⟩
    go_wp2_with fail
    refine s2.out.mono ?_
    rintro e w' ⟨rfl, rfl⟩
    go_wp2_with fail
    go_ret
    exact ⟨rfl, Ext.refl _⟩
  · generalize hY : Y.length = m at *
    have HX := hid heq
    have HY := hid hY
    clear hY
    rw [heq] at h1 s1
    clear heq q1
    go_enter Try.func82, Try.ntmps82
    go_wp2_with fail
    refine s1.out.mono ?_
    rintro e w' ⟨rfl, rfl⟩
    go_wp2_with fail
    refine s2.out.mono ?_
    rintro e w' ⟨rfl, rfl⟩
    go_wp2_with fail
    go_loopw [25] (fun s wr => ∃ i : Nat, i ≤ m ∧ s = .int .i64 i ∧ X.drop (m - i) = Y.drop (m - i) ∧ Ext w wr) (fun s _ => m - (intOf s).toNat)
    case atStart => exact ⟨0, Nat.zero_le _, rfl, by rw [List.drop_eq_nil_of_le (by rw [HX.out]; omega), List.drop_eq_nil_of_le (by rw [HY.out]; omega)], Ext.refl _⟩
    case round =>
      obtain ⟨i, hi, rfl, hd, hx⟩ := hrel
      have HD := hid hd
      have H1 := hid (h1.ext hx)
      have H2 := hid (h1'.ext hx)
      have HE := hid hx
      clear hd hx h1 h1'
      by_cases hlt : i < m
      · obtain ⟨b1, o1, rfl, g1⟩ := H1.out.get (i := m - 1 - i) (by omega)
        obtain ⟨b2, o2, rfl, g2⟩ := H2.out.get (i := m - 1 - i) (by omega)
        have hdrop : X[m - 1 - i]?.getD 0 = Y[m - 1 - i]?.getD 0 → X.drop (m - (i + 1)) = Y.drop (m - (i + 1)) := fun e => by
          have e1 : m - 1 - i + 1 = m - i := by omega
          have e2 : m - (i + 1) = m - 1 - i := by omega
          rw [e2]
          exact drop_step (by rw [HX.out, HY.out]) (by rw [e1]; exact HD.out) e
        have hltv : X[m - 1 - i]?.getD 0 < Y[m - 1 - i]?.getD 0 → nv 4294967296 X < nv 4294967296 Y := fun e => by
          have e1 : m - 1 - i + 1 = m - i := by omega
          exact nv_lt_at (by omega) K1.out.1 (by rw [e1]; exact HD.out) (by rw [HX.out, HY.out]) e
        have hgtv : Y[m - 1 - i]?.getD 0 < X[m - 1 - i]?.getD 0 → nv 4294967296 Y < nv 4294967296 X := fun e => by
          have e1 : m - 1 - i + 1 = m - i := by omega
          exact nv_lt_at (by omega) K2.out.1 (by rw [e1]; exact HD.out.symm) (by rw [HX.out, HY.out]) e
        have HS := hid hdrop
        have HL := hid hltv
        have HG := hid hgtv
        clear hdrop hltv hgtv
        generalize X[m - 1 - i]?.getD 0 = x at *
        generalize Y[m - 1 - i]?.getD 0 = y at *
        rcases Nat.lt_trichotomy x y with hc | hc | hc
        · have hc' : (x : Int) < (y : Int) := by omega
          have hv := hid (cmpN_lt (HL.out hc))
          go_wp2_with (go_quiet (fail))
          go_ret
          exact ⟨by rw [hv.out]; rfl, HE.out.drewN _⟩
        · subst hc
          have hv := hid (HS.out rfl)
          clear HS HL HG
          go_wp2_with (go_quiet (fail))
          go_roundw
          case rel => exact ⟨i + 1, by omega, by go_num, hv.out, by first | exact HE.out.drewN _ | exact (HE.out.drewN _).drewN _⟩
          case measure => simp [intOf]; omega
        · have hc' : (y : Int) < (x : Int) := by omega
          have hc'' : ¬ (x : Int) < (y : Int) := by omega
          have hv := hid (cmpN_gt (HG.out hc))
          clear HS HL HG
          go_wp2_with (go_quiet (fail))
          go_ret
          exact ⟨by rw [hv.out]; rfl, by first | exact HE.out.drewN _ | exact (HE.out.drewN _).drewN _⟩
      · obtain rfl : i = m := by omega
        have hxy : X = Y := by have := HD.out; simpa using this
        have hv : cmpN (nv 4294967296 X) (nv 4294967296 Y) = 0 := by rw [hxy]; exact cmpN_eq _
        have hv := hid hv
        clear hxy
        go_wp2_with (go_quiet (fail))
        go_ret
        exact ⟨by rw [hv.out]; rfl, HE.out⟩
  · have hv : cmpN (nv 4294967296 X) (nv 4294967296 Y) = 1 := cmpN_gt (nv_lt_len (by omega) K2.out.1 K1.out hgt)
    rw [hv]
    clear hv
    have hng : ¬ X.length < Y.length := by omega
    go_enter Try.func82, Try.ntmps82
    go_wp2_with fail
    refine s1.out.mono ?_
    rintro e w' ⟨rfl, rfl⟩
    go_wp2_with fail
    refine s2.out.mono ?_
    rintro e w' ⟨rfl, rfl⟩
    go_wp2_with fail
    go_ret
    exact ⟨rfl, Ext.refl _⟩
end Go.Proofs.Ytikkibpjchmajaa

namespace Go.Proofs.Ytikkibpjchmajaa
open Go.RowKit
open Go.Lib (hid)

theorem ne_of_digit {xs ys : List Nat} {i : Nat} (h : xs[i]?.getD 0 ≠ ys[i]?.getD 0) : xs ≠ ys := fun e => h (by rw [e])

set_option maxHeartbeats 800000 in
theorem same_yes {w : World} {A A' : Option Addr} {n c n' c' : Nat} {xs ys : List Nat} (h : Sl .u32 w A n c xs) (h' : Sl .u32 w A' n' c' ys) (he : xs = ys) (hn : n ≤ 1099511627776) :
    Calls Try.prog 66 #[.slice A n c, .slice A' n' c'] w (RetE (.bool true) w) := by
  subst he
  have e1 : n' = n := h'.len.symm.trans h.len
  subst e1
  go_enter Try.func66, Try.ntmps66
  go_wp2_with fail
  go_loopw [5] (fun s wr => ∃ i : Nat, i ≤ n' ∧ s = .int .i64 i ∧ Ext w wr) (fun s _ => n' - (intOf s).toNat)
  case atStart => exact ⟨0, Nat.zero_le _, rfl, Ext.refl _⟩
  case round =>
    obtain ⟨i, hi, rfl, hx⟩ := hrel
    have H1 := hid (h.ext hx)
    have H2 := hid (h'.ext hx)
    have HE := hid hx
    clear hx h h'
    by_cases hlt : i < n'
    · obtain ⟨b1, o1, rfl, g1⟩ := H1.out.get hlt
      obtain ⟨b2, o2, rfl, g2⟩ := H2.out.get hlt
      generalize xs[i]?.getD 0 = x at *
      go_wp2_with (go_quiet (fail))
      go_roundw
      case rel => exact ⟨i + 1, by omega, by go_num, HE.out.drewN _⟩
      case measure => simp [intOf]; omega
    · go_wp2_with (go_quiet (fail))
      go_ret
      exact ⟨rfl, HE.out⟩

set_option maxHeartbeats 800000 in
theorem same_no {w : World} {A A' : Option Addr} {n c n' c' : Nat} {xs ys : List Nat} (h : Sl .u32 w A n c xs) (h' : Sl .u32 w A' n' c' ys) (he : xs ≠ ys) (hn : n ≤ 1099511627776) (hn' : n' ≤ 1099511627776) :
    Calls Try.prog 66 #[.slice A n c, .slice A' n' c'] w (RetE (.bool false) w) := by
  by_cases e1 : n = n'
  · subst e1
    go_enter Try.func66, Try.ntmps66
    go_wp2_with fail
    go_loopw [5] (fun s wr => ∃ i : Nat, i ≤ n ∧ s = .int .i64 i ∧ xs.take i = ys.take i ∧ Ext w wr) (fun s _ => n - (intOf s).toNat)
    case atStart => exact ⟨0, Nat.zero_le _, rfl, by simp, Ext.refl _⟩
    case round =>
      obtain ⟨i, hi, rfl, ht, hx⟩ := hrel
      have H1 := hid (h.ext hx)
      have H2 := hid (h'.ext hx)
      have HE := hid hx
      have HT := hid ht
      have HN := hid he
      clear hx h h' ht he
      by_cases hlt : i < n
      · obtain ⟨b1, o1, rfl, g1⟩ := H1.out.get hlt
        obtain ⟨b2, o2, rfl, g2⟩ := H2.out.get hlt
        have hstep : xs[i]?.getD 0 = ys[i]?.getD 0 → xs.take (i + 1) = ys.take (i + 1) := fun e => by
          have l1 := H1.out.len
          have l2 := H2.out.len
          rw [List.getElem?_eq_getElem (by omega), List.getElem?_eq_getElem (by omega)] at e
          rw [List.take_succ_eq_append_getElem (by omega), List.take_succ_eq_append_getElem (by omega), HT.out]
          exact congrArg (fun z => ys.take i ++ [z]) (by simpa using e)
        have HS := hid hstep
        clear hstep
        generalize xs[i]?.getD 0 = x at *
        generalize ys[i]?.getD 0 = y at *
        by_cases hxy : x = y
        · subst hxy
          have hs := hid (HS.out rfl)
          clear HS
          go_wp2_with (go_quiet (fail))
          go_roundw
          case rel => exact ⟨i + 1, by omega, by go_num, hs.out, HE.out.drewN _⟩
          case measure => simp [intOf]; omega
        · have hb : ((x : Int) != (y : Int)) = true := by rw [bne_iff_ne]; omega
          go_wp2_with (go_quiet (fail))
          go_ret
          exact ⟨rfl, HE.out.drewN _⟩
      · exfalso
        have l1 := H1.out.len
        have l2 := H2.out.len
        apply HN.out
        have := HT.out
        rwa [List.take_of_length_le (by omega), List.take_of_length_le (by omega)] at this
  · have hb : ((n : Int) != (n' : Int)) = true := by rw [bne_iff_ne]; omega
    go_enter Try.func66, Try.ntmps66
    go_wp2_with fail
    go_ret
    exact ⟨rfl, Ext.refl _⟩
end Go.Proofs.Ytikkibpjchmajaa

namespace Go.Proofs.Ytikkibpjchmajaa
open Go.RowKit
open Go.Lib (hid)

theorem sub_form {x y bw : Nat} (hx : x < 4294967296) (hy : y < 4294967296) (hb : bw ≤ 1) : ∃ d bw' : Nat, d < 4294967296 ∧ bw' ≤ 1 ∧ d + y + bw = x + 4294967296 * bw' ∧
    IntKind.u64.wrap (IntKind.u64.wrap ((x : Int) - bw) - y) / 9223372036854775808 = (bw' : Int) ∧ IntKind.u64.wrap (IntKind.u64.wrap ((x : Int) - bw) - y) % 4294967296 = (d : Int) := by
  rw [IntKind.wrap_u64, IntKind.wrap_u64]
  by_cases h : x < y + bw
  · exact ⟨x + 4294967296 - y - bw, 1, by omega, by omega, by omega, by omega, by omega⟩
  · exact ⟨x - y - bw, 0, by omega, by omega, by omega, by omega, by omega⟩
theorem sub_form0 {x bw : Nat} (hx : x < 4294967296) (hb : bw ≤ 1) : ∃ d bw' : Nat, d < 4294967296 ∧ bw' ≤ 1 ∧ d + 0 + bw = x + 4294967296 * bw' ∧
    IntKind.u64.wrap ((x : Int) - bw) / 9223372036854775808 = (bw' : Int) ∧ IntKind.u64.wrap ((x : Int) - bw) % 4294967296 = (d : Int) := by
  rw [IntKind.wrap_u64]
  by_cases h : x < bw
  · exact ⟨x + 4294967296 - bw, 1, by omega, by omega, by omega, by omega, by omega⟩
  · exact ⟨x - bw, 0, by omega, by omega, by omega, by omega, by omega⟩

/-- A new slice, and an error's number. -/
def RetOE (k : IntKind) (e : TypeId) (zs : List Nat) (err : Int) (w : World) : Ending → World → Prop := fun E w' =>
  ∃ A c, E = .returned (.tuple #[.slice A zs.length c, .int .i64 err]) ∧ Own k e w' w.heap.size A zs.length c zs ∧ Ext w w'

/-- No slice, and an error's number. -/
def RetNE (err : Int) (w : World) : Ending → World → Prop := fun E w' =>
  E = .returned (.tuple #[.slice none 0 0, .int .i64 err]) ∧ Ext w w'

set_option maxHeartbeats 800000 in
theorem sub_less {w : World} {A A' : Option Addr} {n c n' c' : Nat} {xs ys : List Nat} (h : Sl .u32 w A n c xs) (hl : Lim 4294967296 xs) (h' : Sl .u32 w A' n' c' ys) (hl' : Lim 4294967296 ys)
    (hn : n ≤ 1099511627776) (hn' : n' ≤ 1099511627776) (hlt : nv 4294967296 xs < nv 4294967296 ys) :
    Calls Try.prog 79 #[.slice A n c, .slice A' n' c'] w (RetNE 2 w) := by
  have hc := cmp_any h hl h' hl' hn hn'
  rw [cmpN_lt hlt] at hc
  have hc := hid hc
  clear hlt h h' hl hl'
  go_enter Try.func79, Try.ntmps79
  go_wp2_with (go_at_call 82; refine hc.out.mono ?_; rintro e w1 ⟨rfl, hx⟩)
  go_ret2
  exact ⟨rfl, hx⟩

set_option maxHeartbeats 800000 in
theorem sub_any {w : World} {A A' : Option Addr} {n c n' c' : Nat} {xs ys : List Nat} (h : Sl .u32 w A n c xs) (hl : Lim 4294967296 xs) (h' : Sl .u32 w A' n' c' ys) (hl' : Lim 4294967296 ys)
    (hn : n ≤ 1099511627776) (hn' : n' ≤ 1099511627776) (hge : nv 4294967296 ys ≤ nv 4294967296 xs) :
    Calls Try.prog 79 #[.slice A n c, .slice A' n' c'] w (RetOE .u32 100 (nd 4294967296 (nv 4294967296 xs - nv 4294967296 ys)) 0 w) := by
  have hc := cmp_any h hl h' hl' hn hn'
  have hc0 : 0 ≤ cmpN (nv 4294967296 xs) (nv 4294967296 ys) := by unfold cmpN; rw [if_neg (by omega)]; split <;> omega
  generalize cmpN (nv 4294967296 xs) (nv 4294967296 ys) = q at hc hc0
  have hc := hid hc
  have h1 := h.short hl
  have h1' := h'.short hl'
  have s1 : Hid (∀ W, Ext w W → _) := hid (fun W hx => short_any (w := W) (h.ext hx) hl)
  have s2 : Hid (∀ W, Ext w W → _) := hid (fun W hx => short_any (w := W) (h'.ext hx) hl')
  have q1 : (nd 4294967296 (nv 4294967296 xs)).length ≤ 1099511627776 := by have := nd_length_le (b := 4294967296) (by omega) hl; have := h.len; omega
  have q2 : (nd 4294967296 (nv 4294967296 ys)).length ≤ 1099511627776 := by have := nd_length_le (b := 4294967296) (by omega) hl'; have := h'.len; omega
  clear h h' hl hl'
  generalize nv 4294967296 xs = p at *
  generalize nv 4294967296 ys = r at *
  have e1 : nv 4294967296 (nd 4294967296 p) = p := nv_nd (by omega) p
  have e2 : nv 4294967296 (nd 4294967296 r) = r := nv_nd (by omega) r
  have hlen : (nd 4294967296 r).length ≤ (nd 4294967296 p).length := by
    rcases Nat.lt_or_ge (nd 4294967296 p).length (nd 4294967296 r).length with hlt | hge'
    · have := nv_lt_len (b := 4294967296) (by omega) (nd_lim (by omega) p) (canon_nd (by omega) r) hlt
      omega
    · exact hge'
  have k1 := nd_lim (b := 4294967296) (by omega) p
  have k2 := nd_lim (b := 4294967296) (by omega) r
  generalize nd 4294967296 p = X at h1 s1 q1 e1 hlen k1
  generalize nd 4294967296 r = Y at h1' s2 q2 e2 hlen k2
  subst e1
  subst e2
  have K1 := hid k1
  have K2 := hid k2
  have HG := hid hge
  clear k1 k2 hge
  generalize hm : X.length = m at *
  generalize hm' : Y.length = m' at *
  have HM := hid hm
  have HM' := hid hm'
  clear hm hm'
  go_enter Try.func79, Try.ntmps79
  go_wp2_with fail
  refine hc.out.mono ?_
  rintro e wa ⟨rfl, hx⟩
  go_wp2_with fail
  refine (s1.out _ hx).mono ?_
  rintro e w' ⟨rfl, rfl⟩
  go_wp2_with fail
  refine (s2.out _ hx).mono ?_
  rintro e w' ⟨rfl, rfl⟩
  clear s1 s2 hc
  go_wp2_with (at_make; refine wpl_make (w0 := w) hx rfl (.tmp 19) (.tmp 19) _ rfl 100 .u32 4 Try.underlying22 info_u32 _ m rfl rfl rfl (by omega) (by simp only [maxLen]; omega) ?_; intro g w1 hg1 ho1 hx1)
  clear hx
  go_loopw [7, 23] (fun sc si wr => ∃ (i bw : Nat) (os : List Nat), i ≤ m ∧ sc = .int .u64 bw ∧ si = .int .i64 i ∧ bw ≤ 1 ∧ os.length = i ∧ Lim 4294967296 os ∧
      nv 4294967296 os + nv 4294967296 (Y.take i) = nv 4294967296 (X.take i) + 4294967296 ^ i * bw ∧
      Own .u32 100 wr w.heap.size (some ⟨g, 0, none⟩) m m (os ++ List.replicate (m - i) 0) ∧ Ext w wr) (fun _ si _ => m - (intOf si).toNat)
  case atStart => exact ⟨0, 0, [], Nat.zero_le _, rfl, rfl, by omega, rfl, fun x hx => by simp at hx, by simp [nv], ho1, hx1⟩
  case round =>
    obtain ⟨i, bw, os, hi, rfl, rfl, hbw, hol, hos, hinv, ho, hx⟩ := hrel
    have H1 := hid (h1.ext hx)
    have H2 := hid (h1'.ext hx)
    have HE := hid hx
    have HI := hid hinv
    have HO := hid ho
    have HOL := hid hol
    clear hx h1 h1' hinv ho ho1 hx1 hol
    by_cases hlt : i < m
    · have g0 := HO.out.cell (i := i) hlt
      have gf := HO.out.frozen i
      have b1 := lim_getD (b := 4294967296) (by omega) K1.out i
      have b2 := lim_getD (b := 4294967296) (by omega) K2.out i
      rw [show (os ++ List.replicate (m - i) 0)[i]?.getD 0 = 0 from by rw [List.getElem?_append_right (by rw [HOL.out]; omega), HOL.out, Nat.sub_self, List.getElem?_replicate, if_pos (by omega)]; rfl] at g0
      have hfin : ∀ d bw' : Nat, d < 4294967296 → bw' ≤ 1 → d + Y[i]?.getD 0 + bw = X[i]?.getD 0 + 4294967296 * bw' →
        (∃ (j bz : Nat) (os' : List Nat), j ≤ m ∧ Value.int .u64 (bw' : Int) = .int .u64 bz ∧ Value.int .i64 ((i : Int) + 1) = .int .i64 j ∧ bz ≤ 1 ∧ os'.length = j ∧ Lim 4294967296 os' ∧
          nv 4294967296 os' + nv 4294967296 (Y.take j) = nv 4294967296 (X.take j) + 4294967296 ^ j * bz ∧
          Own .u32 100 (wr.setCell ⟨g, i, none⟩ (.int .u32 (d : Int))) w.heap.size (some ⟨g, 0, none⟩) m m (os' ++ List.replicate (m - j) 0) ∧ Ext w (wr.setCell ⟨g, i, none⟩ (.int .u32 (d : Int)))) := by
        intro d bw' hd hb' he
        refine ⟨i + 1, bw', os ++ [d], by omega, rfl, by go_num, hb', by rw [List.length_append, HOL.out]; rfl, lim_append hos (lim_one hd), ?_, ?_, HE.out.setCell hg1 _⟩
        · exact sub_step HOL.out HI.out he
        · have := HO.out.set i d
          rwa [set_tail HOL.out (by omega)] at this
      have HF := hid hfin
      clear hfin hos
      obtain ⟨ba, oa, rfl, g1⟩ := H1.out.get hlt
      by_cases hn2 : i < m'
      · obtain ⟨bb, ob, rfl, g2⟩ := H2.out.get hn2
        generalize X[i]?.getD 0 = x at *
        generalize Y[i]?.getD 0 = y at *
        go_wp2_with fail
        obtain ⟨d, bw', hd, hb, he, e1, e2⟩ := sub_form b1 b2 hbw
        rw [e1, e2]
        exact ⟨HF.out _ _ hd hb he, by simp [intOf]; omega⟩
      · have hy0 : Y[i]?.getD 0 = 0 := by rw [List.getElem?_eq_none (by rw [H2.out.len]; omega)]; rfl
        rw [hy0] at HF
        clear hy0 b2
        generalize X[i]?.getD 0 = x at *
        go_wp2_with fail
        obtain ⟨d, bw', hd, hb, he, e1, e2⟩ := sub_form0 b1 hbw
        rw [e1, e2]
        exact ⟨HF.out _ _ hd hb he, by simp [intOf]; omega⟩
    · obtain rfl : i = m := by omega
      have ho := HO.out
      simp only [Nat.sub_self, List.replicate_zero, List.append_nil] at ho
      have hv := sub_end (b := 4294967296) (by omega) HM.out (by rw [HM'.out]; exact hlen) HOL.out hos HG.out HI.out
      have hs := hid (short_any ho.sl hos)
      have hsh := ho.short hos
      rw [hv] at hs hsh
      have HS := hid hsh
      clear hsh hv ho hos
      go_wp2_with (go_at_call 80; refine hs.out.mono ?_; rintro e w' ⟨rfl, rfl⟩)
      go_ret2
      exact ⟨_, _, rfl, HS.out, HE.out⟩
end Go.Proofs.Ytikkibpjchmajaa

