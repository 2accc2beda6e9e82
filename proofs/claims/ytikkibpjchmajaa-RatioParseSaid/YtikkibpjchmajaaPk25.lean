/-
  The contract of digits.Text: the text of a whole number.
-/
import Derived.Test.YtikkibpjchmajaaPk8
import Derived.Test.YtikkibpjchmajaaPk23
import Derived.Test.YtikkibpjchmajaaPk24
import Derived.Deep.LoopGhost
import Derived.Laws.IdiomStrings
namespace Go.Proofs.Ytikkibpjchmajaa
open Go.RowKit
open Go.Lib (hid)

/-- string(b). -/
theorem conv_own {w : World} {lo : Nat} {B : Option Addr} {n c : Nat} {l : List Nat} (h : Own .u8 5 w lo B n c l) (hl : Lim 256 l) (hp : 0 < n) :
    (convert 99 9 (.slice B n c)).run Try.prog w = .ok (.string (bts l)) w := by
  rcases h.form with ⟨_, h0, _⟩ | ⟨g, rfl, _, _⟩
  · omega
  · have hn := h.len
    have hc : ∀ j (hj : j < (l.map UInt8.ofNat).length), w.cell? ((⟨g, 0, none⟩ : Addr).add j) = some (.int .u8 (((l.map UInt8.ofNat)[j]).toNat : Int)) := fun j hj => by
      have hj' : j < l.length := by simpa using hj
      rw [Addr.add_lit, Nat.zero_add, h.cell (i := j) (by omega), List.getElem?_eq_getElem hj', Option.getD_some]
      have := hl l[j] (List.getElem_mem hj')
      simp; omega
    have := run_convert_bytes_back (P := Try.prog) w 99 9 5 ⟨g, 0, none⟩ c (l.map UInt8.ofNat) Try.underlying99 Try.underlying5 Try.underlying9 hc
    rwa [List.length_map, hn] at this

theorem dgs_own {m : Nat} : ((nd 10 m).map (· + 48)).reverse = dgs m := rfl
theorem str_bound {b K m l p : Nat} (h : b ^ l * p + 0 ≤ m) (hp : 0 < p) (hm : m < b ^ K) (hb : 2 ≤ b) : l < K := by
  rcases Nat.lt_or_ge l K with h1 | h1
  · exact h1
  · have h2 := Nat.pow_le_pow_right (n := b) (by omega) h1
    have h3 := Nat.mul_le_mul_left (b ^ l) hp
    omega

set_option maxHeartbeats 3200000 in
theorem text_v {w : World} {s : Bool} {A : Option Addr} {n c K : Nat} {z : Int} (h : Iz K w s A n c z) (hK : K ≤ 100000) :
    Calls Try.prog 50 #[.agg #[.bool s, .slice A n c]] w (RetE (.string (bts (tx z))) w) := by
  obtain ⟨m, hm, hz⟩ := h
  have hbd := hm.bound
  have HM := hid (Nat.lt_of_lt_of_le hbd (pow_10_32 K))
  have B0 := Bx.new w s A n c
  have X0 := hid ((Ext.refl w).alloc (.cells #[.bool s, .slice A n c] 24))
  have tr := hid (trim_v (hm.ext X0.out) (by omega))
  have HZ := hid hz
  have HB := hid B0
  have hc1 := B0.c1
  have hsz : (w.alloc (.cells #[.bool s, .slice A n c] 24)).heap.size = w.heap.size + 1 := size_alloc _ _
  have hmf : ∀ (fn : Fn) (first cap : Array Value) (w : World), (Instr.makeFunc fn first cap).run Try.prog w = .ok (.func fn first cap) w := fun _ _ _ _ => rfl
  clear hm hz B0 hbd
  go_enter Try.func50, Try.ntmps50
  go_wp2_with fail
  clear hc1
  generalize w.alloc (.cells #[.bool s, .slice A n c] 24) = W at *
  refine tr.out.mono ?_
  rintro E w1 ⟨A1, n1, c1, rfl, o1, x1⟩
  have xa := x1.alloc (.cells #[.slice A1 n1 c1] 22)
  have xb := xa.alloc (.cells #[.slice none 0 0] 99)
  have sa := (Sx.new w1 22 (.slice A1 n1 c1)).ext ((Ext.refl _).alloc (.cells #[.slice none 0 0] 99))
  have sb := Sx.new (w1.alloc (.cells #[.slice A1 n1 c1] 22)) 99 (.slice none 0 0)
  rw [size_alloc] at sb
  have SA := hid sa
  have SB := hid sb
  have XB := hid xb
  have CA := hid (o1.ext (((Ext.refl w1).alloc (.cells #[.slice A1 n1 c1] 22)).alloc (.cells #[.slice none 0 0] 99)))
  have hs1 := x1.size
  clear sa sb xa xb o1 x1 tr
  go_wp2_with fail
  generalize (w1.alloc (.cells #[.slice A1 n1 c1] 22)).alloc (.cells #[.slice none 0 0] 99) = w2 at *
  generalize w1.heap.size = ga at *
  go_loopg [12] m (fun k s2 wr => ∃ (A2 : Option Addr) (n2 c2 : Nat) (B : Option Addr) (d p : Nat) (ds : List Nat), p ≤ k ∧ Sx wr ga 22 (.slice A2 n2 c2) ∧ Sx wr (ga + 1) 99 (.slice B ds.length d) ∧ Cn K wr W.heap.size A2 n2 c2 p ∧
      Own .u8 5 wr W.heap.size B ds.length d (ds.map (· + 48)) ∧ Lim 10 ds ∧ nv 10 ds + 10 ^ ds.length * p = m ∧ ds.length ≤ 10 * K + 9 ∧ Ext W wr)
  case atStart => exact ⟨A1, n1, c1, none, 0, m, [], Nat.le_refl _, SA.out, SB.out, CA.out, ⟨by simp, .inl ⟨rfl, rfl⟩⟩, fun y hy => by simp at hy, by simp [nv], by simp, XB.out⟩
  case round =>
    clear SA SB CA XB
    obtain ⟨A2, n2, c2, B, d, p, ds, hk, sa, sb, ca, ob, hd, hv, hl, hx⟩ := hrel
    have SA := hid sa
    have SB := hid sb
    have CA := hid ca
    have OB := hid ob
    have HD := hid hd
    have HV := hid hv
    have HX := hid hx
    have a0 := sa.c0
    have b0 := sb.c0
    by_cases hp : p = 0
    · have hn2 : n2 = 0 := ca.len0 hp
      clear sa sb ca ob hd hv hx
      subst hn2
      subst hp
      have hv0 : nv 10 ds = m := by have := HV.out; rwa [Nat.mul_zero, Nat.add_zero] at this
      have HV0 := hid hv0
      clear hv0 b0 SA CA HV
      go_wp2_with fail
      clear a0
      go_loopg [17] ds.length (fun k _ wr2 => ∃ (B : Option Addr) (d : Nat) (ds : List Nat), ds.length ≤ k ∧ Sx wr2 (ga + 1) 99 (.slice B ds.length d) ∧
        Own .u8 5 wr2 W.heap.size B ds.length d (ds.map (· + 48)) ∧ Lim 10 ds ∧ nv 10 ds = m ∧ ds.length ≤ 10 * K + 9 ∧ Ext W wr2)
      case atStart => exact ⟨B, d, ds, Nat.le_refl _, SB.out, OB.out, HD.out, HV0.out, hl, HX.out⟩
      case round =>
        clear SB OB HD HV0 HX hl hk
        obtain ⟨B, d, ds, hk, sb, ob, hd, hv, hl, hx⟩ := hrel
        have SB := hid sb
        have OB := hid ob
        have HD := hid hd
        have HV := hid hv
        have HX := hid hx
        have b0 := sb.c0
        clear sb ob hd hv hx
        by_cases h0 : ds = []
        · subst h0
          have hm0 : m = 0 := HV.out.symm
          subst hm0
          have hz0 : z = 0 := by rw [HZ.out]; cases s <;> rfl
          subst hz0
          have b0 : wr.cell? ⟨ga + 1, 0, none⟩ = some (.slice B 0 d) := SB.out.c0
          go_wp2_with fail
          go_ret
          exact ⟨rfl, X0.out.trans HX.out⟩
        · obtain ⟨g, rfl, hg1, hg2⟩ : ∃ g, B = some ⟨g, 0, none⟩ ∧ W.heap.size ≤ g ∧ g < wr.heap.size := by
            rcases OB.out.form with ⟨_, e, _⟩ | h
            · exact absurd (List.eq_nil_of_length_eq_zero e) h0
            · exact h
          have hlp : 0 < ds.length := List.length_pos_iff.2 h0
          have hcap := OB.out.cap
          have hlc := hcap.1
          have hcm := hcap.2
          simp only [maxLen] at hcm
          have gc := OB.out.cell (i := ds.length - 1) (by omega)
          have gl : (ds.map (· + 48))[ds.length - 1]? = (ds.getLast?).map (· + 48) := by rw [List.getElem?_map, List.getLast?_eq_getElem?]
          rw [gl] at gc
          clear gl hcap
          by_cases hlast : ds.getLast? = some 0
          · have HLA := hid hlast
            rw [hlast] at gc
            have gc : wr.cell? ⟨g, ds.length - 1, none⟩ = some (.int .u8 48) := gc
            have sf := SB.out.fr 0
            clear hlast
            go_wp2_with fail
            go_roundg (ds.length - 1)
            case measure => omega
            case rel =>
              have ht : (ds.take (ds.length - 1)).length = ds.length - 1 := by rw [List.length_take]; omega
              refine ⟨some ⟨g, 0, none⟩, d, ds.take (ds.length - 1), by omega, ?_, ?_, lim_take HD.out _, by rw [nv_strip HLA.out]; exact HV.out, by omega, HX.out.setCell (p := ⟨ga + 1, 0, none⟩) (by show W.heap.size ≤ ga + 1; omega) _⟩
              · rw [ht]; exact SB.out.put
              · rw [ht, List.map_take]
                exact (OB.out.take (by omega)).var SB.out (by decide) _
          · have hne := nd_eq_nil (b := 10) (n := m) (by omega)
            have hds : ds = nd 10 m := eq_nd (by omega) ⟨HD.out, hlast⟩ HV.out
            have hm0 : m ≠ 0 := fun e => h0 (by rw [hds]; exact hne.2 e)
            obtain ⟨y, hy1, hy2⟩ : ∃ y : Nat, wr.cell? ⟨g, ds.length - 1, none⟩ = some (.int .u8 (y : Int)) ∧ y ≠ 48 := by
              refine ⟨_, gc, fun e => hlast ?_⟩
              rw [List.getLast?_eq_some_getLast h0] at e ⊢
              simp at e
              rw [e]
            have hyb : ((y : Int) == 48) = false := beq_eq_false_iff_ne.2 (by omega)
            have HDS := hid hds
            have HTX : Hid (tx z = if s then 45 :: dgs m else dgs m) := by
              show _ = _
              have e := HZ.out
              unfold tx
              cases s
              · have e : z = m := e
                subst e
                rw [if_neg (by omega), if_neg (by omega)]; rfl
              · have e : z = -(m : Int) := e
                subst e
                rw [if_neg (by omega), if_pos (by omega), Int.natAbs_neg]; rfl
            have HL : Hid (∀ c ∈ dgs m, c < 256) := fun c hc => by have := dgs_dig m c hc; omega
            have hbx := (HB.out.ext HX.out).c0
            clear gc hlast hne hds hm0 hy2
            cases s
            · go_wp2_with fail
              refine (rev_v OB.out).mono ?_
              rintro E w5 ⟨rfl, ob5, gb5⟩
              have sb5 := SB.out.gb gb5 (OB.out.sxr SB.out (by decide))
              have hc5 := sb5.c0
              rw [HDS.out, dgs_own] at ob5
              have hcv := conv_own ob5 HL.out (by rw [← HDS.out]; exact hlp)
              have hx5 := hid (HX.out.trans_own gb5 (by intro g' e; simp at e; omega))
              have hcv : (convert 99 9 (.slice (some ⟨g, 0, none⟩) ds.length d)).run Try.prog w5 = .ok (.string (bts (dgs m))) w5 := by rw [HDS.out]; exact hcv
              clear gb5 sb5 ob5
              go_wp2_with fail
              go_ret
              exact ⟨by rw [HTX.out]; rfl, X0.out.trans hx5.out⟩
            · skip
              go_wp2_with (at_builtin; refine wpl_append1 (w0 := W) rfl _ _ _ rfl 5 .u8 1 Try.underlying99 info_u8 _ 45 rfl rfl rfl OB.out HX.out (by omega) (by simp only [maxLen]; omega) ?_; intro B2 d2 w3 ho3 hx3 hg3; have SB3 := SB.out.gb hg3.out (OB.out.sxr SB.out (by decide)); have hc3 := SB3.c0; have hf3 := SB3.fr 0; have HS3 := hid SB3; have HO3 := hid ho3; have HX3 := hid hx3; clear SB3 ho3 hx3 hg3)
              have ho4 := HO3.out.var HS3.out (by decide) (.slice B2 (ds.length + 1) d2)
              have hs4 := HS3.out.put (u := .slice B2 (ds.length + 1) d2)
              have hx4 := HX3.out.setCell (p := ⟨ga + 1, 0, none⟩) (by show W.heap.size ≤ ga + 1; omega) (.slice B2 (ds.length + 1) d2)
              refine (rev_v ho4).mono ?_
              rintro E w5 ⟨rfl, ob5, gb5⟩
              have sb5 := hs4.gb gb5 (ho4.sxr hs4 (by decide))
              have hc5 := sb5.c0
              rw [List.reverse_append, HDS.out, dgs_own] at ob5
              have hcv := conv_own (l := 45 :: dgs m) ob5 (fun c hc => by rcases List.mem_cons.1 hc with rfl | hc; omega; exact HL.out c hc) (by omega)
              have hx5 := hid (hx4.trans_own gb5 (by
                intro g' e
                rcases ho4.form with ⟨rfl, _⟩ | ⟨g2, rfl, h2, _⟩
                · simp at e
                · simp at e; omega))
              have hcv : (convert 99 9 (.slice B2 (ds.length + 1) d2)).run Try.prog w5 = .ok (.string (bts (45 :: dgs m))) w5 := by rw [HDS.out]; exact hcv
              clear gb5 sb5 ob5 ho4 hs4 hx4 hc3 hf3
              go_wp2_with fail
              go_ret
              exact ⟨by rw [HTX.out]; rfl, X0.out.trans hx5.out⟩
    · have hn2 : 0 < n2 := ca.lenp hp
      have tk := hid (take_v (gb := ga + 1) hx hs1 (by omega) (by omega) sa sb ca ob hK (by omega))
      have hlt : ds.length < 10 * K := str_bound (b := 10) (m := m) (p := p) (by omega) (by omega) HM.out (by omega)
      clear sa sb ca ob hd hv hx
      go_wp2_with fail
      refine tk.out.mono ?_
      rintro E w3 ⟨rfl, A3, n3, c3, B3, d3, es, hel, hes, hev, sa3, sb3, ca3, ob3, hx3⟩
      have SA3 := hid sa3
      have SB3 := hid sb3
      have CA3 := hid ca3
      have OB3 := hid ob3
      have HX3 := hid hx3
      have HEV := hid hev
      have HES := hid hes
      have HEL := hid hel
      clear sa3 sb3 ca3 ob3 hx3 hev hes hel tk
      go_wp2_with fail
      go_roundg (p / 1000000000)
      case measure => omega
      case rel =>
        refine ⟨A3, n3, c3, B3, d3, p / 1000000000, ds ++ es, Nat.le_refl _, SA3.out, ?_, CA3.out, ?_, lim_append HD.out HES.out, ?_, ?_, HX3.out⟩
        · rw [List.length_append, HEL.out]; exact SB3.out
        · rw [List.length_append, HEL.out]; exact OB3.out
        · rw [nv_append, List.length_append, HEL.out, HEV.out, Nat.pow_add, ← HV.out, Nat.add_assoc, Nat.mul_assoc, ← Nat.mul_add]
          have : p % 1000000000 + 10 ^ 9 * (p / 1000000000) = p := by omega
          rw [this]
        · rw [List.length_append, HEL.out]; omega
end Go.Proofs.Ytikkibpjchmajaa

