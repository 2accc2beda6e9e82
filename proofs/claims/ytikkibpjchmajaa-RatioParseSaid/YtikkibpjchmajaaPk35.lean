/-
  The contracts of the document's whole numbers: Small, DivMod, Gcd, Pow, May.
  The document's rational numbers: two whole numbers, the number that they stand for.
-/
import Derived.Test.YtikkibpjchmajaaPk33
import Derived.Test.YtikkibpjchmajaaPk34
import Derived.Test.YtikkibpjchmajaaPk14
import Derived.Deep.LoopGhost
import Derived.Test.YtikkibpjchmajaaPk19
namespace Go.Proofs.Ytikkibpjchmajaa
open Go.RowKit
open Go.Lib (hid)

theorem Dg.weak {K L : Nat} {w : World} {A : Option Addr} {n c p : Nat} (h : Dg K w A n c p) (hl : K ≤ L) : Dg L w A n c p := ⟨h.1, Nat.le_trans h.2 hl⟩
theorem dg_one {w : World} {lo g : Nat} (h : Own .i64 3 w lo (some ⟨g, 0, none⟩) 1 1 [1]) : Dg 1 w (some ⟨g, 0, none⟩) 1 1 1 := by
  have e : nd 10 1 = [1] := (eq_nd (by omega) ⟨by decide, by decide⟩ (by decide)).symm
  refine ⟨?_, Nat.le_refl _⟩
  rw [e]; exact h.sl

set_option maxHeartbeats 1600000 in
theorem zsmall_v {w : World} {n : Int} (h0 : -9223372036854775808 ≤ n) (h1 : n ≤ 9223372036854775807) : Calls Try.prog 37 #[.int .i64 n] w (RetZ 22 n w) := by
  have b0 := Bz.new w false none 0 0
  have HB := hid b0
  have X := hid ((Ext.refl w).alloc (.cells #[.bool false, .slice none 0 0] 35))
  clear b0
  by_cases hn : n < 0
  · have hm : n.natAbs - 1 < 18446744073709551616 := by omega
    have HE : Hid (IntKind.u64.wrap (-(n + 1)) = ((n.natAbs - 1 : Nat) : Int)) := by show _ = _; rw [IntKind.wrap_u64]; omega
    have HE' : Hid (-(n + 1) = ((n.natAbs - 1 : Nat) : Int)) := by show _ = _; omega
    have HN : Hid (n.natAbs - 1 + 1 = n.natAbs) := by show _ = _; omega
    go_enter Try.func37, Try.ntmps37
    go_wp2_with fail
    generalize w.alloc (.cells #[.bool false, .slice none 0 0] 35) = wA at *
    first | (with_reducible refine (rsmall_v HE'.out hm).mono ?_) | (with_reducible refine (rsmall_v HE.out hm).mono ?_)
    rintro E w1 ⟨A1, n1, c1, rfl, o1, x1⟩
    have O1 := hid o1
    have X1 := hid (X.out.trans x1)
    have Y1 := hid x1
    clear o1 x1
    go_wp2_with (refine wpl_lit1 (w0 := w1) (Ext.refl _) (by first | rfl | decide) 33 _ rfl 3 .i64 8 Try.underlying33 info_int _ 1 rfl rfl ?_; intro g4 w4 hg4 ho4 hx4 hx4'; have O4 := hid ho4; have X4 := hid hx4; clear ho4 hx4 hx4')
    refine (radd_v (O1.out.ext X4.out) (dg_one O4.out) (by omega)).mono ?_
    rintro E w5 ⟨A5, n5, c5, rfl, o5, x5⟩
    have X5 := hid ((Y1.out.trans X4.out).trans x5)
    have B5 := HB.out.ext X5.out
    have r0 := B5.c0
    have r1 := B5.c1
    have r2 := B5.fr 0
    have r3 := B5.fr 1
    have HB5 := hid B5
    have O5 := hid o5
    clear B5 o5 x5
    go_wp2_with fail
    refine ret_z rfl HB5.out.put rfl rfl (fin_zx ⟨(decide_eq_true hn).symm, ?_⟩ HB5.out (Nat.le_refl _) (X.out.trans X5.out))
    rw [← HN.out]; exact O5.out
  · have hm : n.natAbs < 18446744073709551616 := by omega
    have HE : Hid (IntKind.u64.wrap n = (n.natAbs : Int)) := by show _ = _; rw [IntKind.wrap_u64]; omega
    have HE' : Hid (n = (n.natAbs : Int)) := by show _ = _; omega
    have hn' : 0 ≤ n := by omega
    go_enter Try.func37, Try.ntmps37
    go_wp2_with fail
    generalize w.alloc (.cells #[.bool false, .slice none 0 0] 35) = wA at *
    first | (with_reducible refine (rsmall_v HE'.out hm).mono ?_) | (with_reducible refine (rsmall_v HE.out hm).mono ?_)
    rintro E w1 ⟨A1, n1, c1, rfl, o1, x1⟩
    have B5 := HB.out.ext x1
    have r0 := B5.c0
    have r1 := B5.c1
    have r2 := B5.fr 0
    have r3 := B5.fr 1
    have HB5 := hid B5
    have O5 := hid o1
    have X5 := hid x1
    clear B5 o1 x1
    go_wp2_with fail
    refine ret_z rfl HB5.out.put rfl rfl (fin_zx ⟨(decide_eq_false (by omega)).symm, O5.out.weak (by omega)⟩ HB5.out (Nat.le_refl _) (X.out.trans X5.out))

/-- Two results' cells. -/
theorem results_zz {fn : Func} {p q : Tmp} (h : fn.results = #[.cell p 35, .cell q 35]) (tmps : Array Value) (w : World) {g g' : Nat} {s s' : Bool} {A A' : Option Addr} {n c n' c' : Nat} (hB : Bz w g s A n c) (hp : tmps.getD p undef = .pointer (some ⟨g, 0, none⟩))
    (hB' : Bz w g' s' A' n' c') (hp' : tmps.getD q undef = .pointer (some ⟨g', 0, none⟩)) :
    (results fn tmps).run Try.prog w = .ok (.tuple #[.agg #[.bool s, .slice A n c], .agg #[.bool s', .slice A' n' c']]) w := by
  have e1 := run_loadVar_row (P := Try.prog) w g _ 35 _ _ _ hB Try.underlying35 rfl info_z_s
  have e2 := run_loadVar_row (P := Try.prog) w g' _ 35 _ _ _ hB' Try.underlying35 rfl info_z_s
  have hp : tmps[p]?.getD undef = .pointer (some ⟨g, 0, none⟩) := by simpa using hp
  have hp' : tmps[q]?.getD undef = .pointer (some ⟨g', 0, none⟩) := by simpa using hp'
  simp [results, h, hp, hp', asAddr, e1, e2, Result.andThen]
theorem ret_zz {fn : Func} {p q : Tmp} {R : Ending → World → Prop} {a : Act} {w : World} {g g' : Nat} {s s' : Bool} {A A' : Option Addr} {n c n' c' : Nat} (h : fn.results = #[.cell p 35, .cell q 35]) (hB : Bz w g s A n c)
    (hp : a.tmps.getD p undef = .pointer (some ⟨g, 0, none⟩)) (hB' : Bz w g' s' A' n' c') (hp' : a.tmps.getD q undef = .pointer (some ⟨g', 0, none⟩)) (hd : a.defers = []) (hR : R (.returned (.tuple #[.agg #[.bool s, .slice A n c], .agg #[.bool s', .slice A' n' c']])) w) : bodyPost Try.prog fn R .ret a w :=
  bodyPost_ret (results_zz h _ _ hB hp hB' hp') hd hR

def RetZZ (K K' : Nat) (q r : Int) (w : World) : Ending → World → Prop := fun E w' => ∃ b A n c b' B m d, E = .returned (.tuple #[.agg #[.bool b, .slice A n c], .agg #[.bool b', .slice B m d]]) ∧ Zd K w' b A n c q ∧ Zd K' w' b' B m d r ∧ Ext w w'

set_option maxHeartbeats 3200000 in
theorem zdivmod_v {w : World} {s t : Bool} {A B : Option Addr} {n c m d K K' : Nat} {x y : Int} (h : Zd K w s A n c x) (h' : Zd K' w t B m d y) (hK : K + K' ≤ 1073741824) (hy : y ≠ 0) :
    Calls Try.prog 43 #[.agg #[.bool s, .slice A n c], .agg #[.bool t, .slice B m d]] w (RetZZ K K' (x.tdiv y) (x.tmod y) w) := by
  have T := TriZ.mk' w s A n c t B m d
  have b3 := Bz.new (((w.alloc (.cells #[.bool s, .slice A n c] 35)).alloc (.cells #[.bool t, .slice B m d] 35)).alloc (.cells #[.bool false, .slice none 0 0] 35)) false none 0 0
  have e := (Ext.refl (((w.alloc (.cells #[.bool s, .slice A n c] 35)).alloc (.cells #[.bool t, .slice B m d] 35)).alloc (.cells #[.bool false, .slice none 0 0] 35))).alloc (.cells #[.bool false, .slice none 0 0] 35)
  rw [T.sz] at b3
  have HB0 := hid (T.b0.ext e)
  have HB1 := hid (T.b1.ext e)
  have HB2 := hid (T.b2.ext e)
  have HB3 := hid b3
  have X0 := hid (T.x.trans e)
  have HX := hid h.val
  have HY := hid h'.val
  have HQ : Hid (x.tdiv y = zv (!(s == t)) (x.natAbs / y.natAbs)) := by
    show _ = _
    rw [zv_tdiv s t, ← h.val, ← h'.val]
  have HR : Hid (x.tmod y = zv s (x.natAbs % y.natAbs)) := by
    show _ = _
    rw [zv_tmod s t, ← h.val, ← h'.val]
  have H := hid h
  have H' := hid h'
  have p0 := HB0.out.c0
  have p1 := HB0.out.c1
  have p2 := HB1.out.c0
  have p3 := HB1.out.c1
  clear h h' T b3 e
  go_enter Try.func43, Try.ntmps43
  go_wp2_with fail
  generalize ((((w.alloc (.cells #[.bool s, .slice A n c] 35)).alloc (.cells #[.bool t, .slice B m d] 35)).alloc (.cells #[.bool false, .slice none 0 0] 35)).alloc (.cells #[.bool false, .slice none 0 0] 35)) = wA at *
  clear p0 p1 p2 p3
  refine (rdivmod_v (H.out.2.ext X0.out) (H'.out.2.ext X0.out) hK (by omega)).mono ?_
  rintro E w1 ⟨C, k, l, F, i, j, rfl, o1, o2, hk, hi, x1⟩
  have X1 := hid x1
  have O1 := hid (Dg.mk o1 hk)
  have O2 := hid (Dg.mk o2 hi)
  have p0 := (HB0.out.ext x1).c0
  have p2 := (HB1.out.ext x1).c0
  have B2 := HB2.out.ext x1
  have B3 := HB3.out.ext x1
  have r0 := B2.c0
  have r1 := B2.c1
  have r2 := B2.fr 0
  have r3 := B2.fr 1
  have u0 := B3.c0
  have u1 := B3.c1
  have u2 := B3.fr 0
  have u3 := B3.fr 1
  have G2 := hid B2
  have G3 := hid B3
  have HF1 : Hid (((!(s == t)) && decide (0 < k)) = decide (x.tdiv y < 0)) := by show _ = _; rw [O1.out.pos]; exact diff_flag HQ.out
  have HF2 : Hid ((s && decide (0 < i)) = decide (x.tmod y < 0)) := by show _ = _; rw [O2.out.pos]; exact diff_flag HR.out
  have HN1 : Hid ((x.tdiv y).natAbs = x.natAbs / y.natAbs) := by show _ = _; rw [HQ.out, zv_abs]
  have HN2 : Hid ((x.tmod y).natAbs = x.natAbs % y.natAbs) := by show _ = _; rw [HR.out, zv_abs]
  clear o1 o2 hk hi x1 B2 B3 HX HY HQ HR
  have fin : ∀ (a b : Bool), a = decide (x.tdiv y < 0) → b = decide (x.tmod y < 0) → RetZZ K K' (x.tdiv y) (x.tmod y) w (.returned (.tuple #[.agg #[.bool a, .slice C k l], .agg #[.bool b, .slice F i j]]))
      ((((w1.setCell ⟨w.heap.size + 1 + 1, 0, none⟩ (.bool a)).setCell ⟨w.heap.size + 1 + 1, 1, none⟩ (.slice C k l)).setCell ⟨w.heap.size + 3, 0, none⟩ (.bool b)).setCell ⟨w.heap.size + 3, 1, none⟩ (.slice F i j)) := fun a b ha hb => by
    have Z1 : Zd K w1 a C k l (x.tdiv y) := ⟨ha, by rw [HN1.out]; exact O1.out⟩
    have Z2 : Zd K' w1 b F i j (x.tmod y) := ⟨hb, by rw [HN2.out]; exact O2.out⟩
    have B3' := G3.out.other (g' := w.heap.size + 1 + 1) (u := .bool a) (v := .slice C k l) (by omega)
    exact ⟨_, _, _, _, _, _, _, _, rfl, (Z1.gbz G2.out (put_gb _ _ _ _)).gbz B3' (put_gb _ _ _ _), (Z2.gbz G2.out (put_gb _ _ _ _)).gbz B3' (put_gb _ _ _ _), ((X0.out.trans X1.out).put (by omega) _ _).put (by omega) _ _⟩
  have FIN := hid fin
  clear fin
  cases s <;> cases t
  all_goals
    go_wp2_with fail
    refine ret_zz rfl ((G2.out.put).other (by omega)) rfl ((G3.out.other (by omega)).put) rfl rfl (FIN.out _ _ ?_ ?_)
    · rw [← HF1.out]; first | rfl | simp
    · rw [← HF2.out]; first | rfl | simp

set_option maxHeartbeats 3200000 in
theorem zgcd_v {w : World} {s t : Bool} {A B : Option Addr} {n c m d K K' : Nat} {x y : Int} (h : Zd K w s A n c x) (h' : Zd K' w t B m d y) (hK : K + K' ≤ 500000000) :
    Calls Try.prog 42 #[.agg #[.bool s, .slice A n c], .agg #[.bool t, .slice B m d]] w (RetZ (K + K') ((Nat.gcd x.natAbs y.natAbs : Nat) : Int) w) := by
  have T := hid (TriZ.mk' w s A n c t B m d)
  have H := hid h.2
  have H' := hid h'.2
  clear h h'
  generalize x.natAbs = p at *
  generalize y.natAbs = q at *
  go_enter Try.func42, Try.ntmps42
  go_wp2_with fail
  generalize (((w.alloc (.cells #[.bool s, .slice A n c] 35)).alloc (.cells #[.bool t, .slice B m d] 35)).alloc (.cells #[.bool false, .slice none 0 0] 35)) = wA at *
  obtain ⟨p0, p1, p2, p3⟩ := T.out.cs (Ext.refl wA)
  obtain ⟨G, hG⟩ : ∃ G, Nat.gcd p q = G := ⟨_, rfl⟩
  have HG := hid hG
  have HGG := hid hG
  clear hG
  go_wp2_with (go_quiet (fail))
  clear p0 p1 p2 p3
  go_loopg [5, 6] q (fun k sa sb wr => ∃ (A : Option Addr) (n c p : Nat) (B : Option Addr) (m d q : Nat), sa = .slice A n c ∧ sb = .slice B m d ∧ q ≤ k ∧ Dg (K + K') wr A n c p ∧ Dg (K + K') wr B m d q ∧ Nat.gcd p q = G ∧ Ext wA wr)
  case atStart => exact ⟨_, _, _, _, _, _, _, _, rfl, rfl, Nat.le_refl _, (H.out.ext (T.out.x.trans ((Ext.refl wA).drewN _))).weak (by omega), (H'.out.ext (T.out.x.trans ((Ext.refl wA).drewN _))).weak (by omega), HG.out, (Ext.refl wA).drewN _⟩
  case round =>
    clear H H' HG
    obtain ⟨A1, n1, c1, p1, B1, m1, d1, q1, rfl, rfl, hq, ha, hb, hg, hx⟩ := hrel
    have HA := hid ha
    have HB := hid hb
    have HG := hid hg
    have HX := hid hx
    by_cases h0 : q1 = 0
    · have hm : m1 = 0 := hb.zero h0
      rw [h0, Nat.gcd_zero_right] at hg
      subst hm
      have HP := hid hg
      obtain ⟨hr0, hr1, hr2, hr3⟩ := T.out.cr hx
      clear ha hb hg hx HB HG h0
      go_wp2_with fail
      refine ret_z rfl (T.out.put HX.out) rfl rfl (T.out.fin HX.out ⟨(decide_eq_false (by omega)).symm, ?_⟩)
      rw [Int.natAbs_natCast, HGG.out, ← HP.out]; exact HA.out
    · have hmp := hb.ne h0
      have dm := hid (rdivmod_v ha hb (by omega) (show 0 < q1 by omega))
      have hml := hid (Nat.mod_lt p1 (show 0 < q1 by omega))
      clear ha hb hg hx
      go_wp2_with fail
      refine dm.out.mono ?_
      rintro E w3 ⟨A3, n3, c3, B3, m3, d3, rfl, o3, p3, hn3, hm3, x3⟩
      have P3 := hid (Dg.mk p3 hm3)
      have X3 := hid x3
      clear dm o3 p3 x3 hn3 hm3
      go_wp2_with fail
      go_roundg (p1 % q1)
      case measure => have := hml.out; omega
      case rel => exact ⟨_, _, _, _, _, _, _, _, rfl, rfl, Nat.le_refl _, HB.out.ext X3.out, P3.out, by rw [← HG.out, Nat.gcd_comm p1 q1, Nat.gcd_rec q1 p1, Nat.gcd_comm], HX.out.trans X3.out⟩

end Go.Proofs.Ytikkibpjchmajaa

namespace Go.Proofs.Ytikkibpjchmajaa
open Go.RowKit
open Go.Lib (hid)

/-- The struct's parts hold the number r, not shortened; the second is not 0. -/
def Qd (K : Nat) (w : World) (s : Bool) (A : Option Addr) (n c : Nat) (t : Bool) (B : Option Addr) (m d : Nat) (r : Rat) : Prop := ∃ N D : Int, Zd K w s A n c N ∧ Zd K w t B m d D ∧ D ≠ 0 ∧ r = (N : Rat) / (D : Rat)
/-- The struct's parts hold N and D. -/
def Qz (K : Nat) (w : World) (s : Bool) (A : Option Addr) (n c : Nat) (t : Bool) (B : Option Addr) (m d : Nat) (N D : Int) : Prop := Zd K w s A n c N ∧ Zd K w t B m d D
def RetP (K : Nat) (N D : Int) (w : World) : Ending → World → Prop := fun E w' => ∃ b A n c e B m d, E = .returned (.agg #[.bool b, .slice A n c, .bool e, .slice B m d]) ∧ Qz K w' b A n c e B m d N D ∧ Ext w w'
def RetQ (K : Nat) (r : Rat) (w : World) : Ending → World → Prop := fun E w' => ∃ b A n c e B m d, E = .returned (.agg #[.bool b, .slice A n c, .bool e, .slice B m d]) ∧ Qd K w' b A n c e B m d r ∧ Ext w w'

section
variable {K L p : Nat} {T : TypeId} {k : IntKind} {w w' : World} {b s t e : Bool} {A B C : Option Addr} {n c g m d l h' : Nat} {z N D : Int} {zs : List Nat} {cs : Array Value} {r : Rat}
theorem Sl.gbn (h : Sl k w A n c zs) (hb : Bk T w g cs) (hc : ∀ (i : Nat) (j : Int), cs[i]? ≠ some (Value.int k j)) (hg : w.grownBy w' (some g)) : Sl k w' A n c zs := by
  refine ⟨h.len, h.cap, h.max, fun hp => ?_⟩
  obtain ⟨b, o, e, hlt, hcell⟩ := h.at_ hp
  have hne : some b ≠ some g := fun e' => by
    injection e' with e'
    subst e'
    have hz : zs[0]? = some (zs[0]'(by rw [h.len]; exact hp)) := List.getElem?_eq_getElem _
    have h0 := hcell 0 _ hz
    have h1 := hb.h
    simp only [World.cell?, Nat.add_zero, h1] at h0
    exact hc o _ (by simpa using h0)
  refine ⟨b, o, e, Nat.lt_of_lt_of_le hlt hg.size, fun j z hz => ?_⟩
  rw [World.cell?_of_block (a := ⟨b, o + j, none⟩) (hg.block b hlt hne)]
  exact hcell j z hz
theorem no_int2 : ∀ (i : Nat) (j : Int), (#[Value.bool s, Value.slice B m d] : Array Value)[i]? ≠ some (Value.int k j) := fun i j h => by
  rcases i with _ | _ | i <;> simp at h
theorem no_int4 : ∀ (i : Nat) (j : Int), (#[Value.bool s, Value.slice B m d, Value.bool t, Value.slice C l p] : Array Value)[i]? ≠ some (Value.int k j) := fun i j h => by
  rcases i with _ | _ | _ | _ | i <;> simp at h
theorem Zd.gbk2 (h : Zd K w b A n c z) (hb : Bk T w g #[.bool s, .slice B m d]) (hg : w.grownBy w' (some g)) : Zd K w' b A n c z := ⟨h.1, h.2.1.gbn hb no_int2 hg, h.2.2⟩
theorem Zd.gbk4 (h : Zd K w b A n c z) (hb : Bk T w g #[.bool s, .slice B m d, .bool t, .slice C l p]) (hg : w.grownBy w' (some g)) : Zd K w' b A n c z := ⟨h.1, h.2.1.gbn hb no_int4 hg, h.2.2⟩
theorem Zd.cast {z' : Int} (h : Zd K w b A n c z) (e : z = z') : Zd K w b A n c z' := e ▸ h
end
section
variable {K L p : Nat} {T : TypeId} {w w' : World} {b s t e : Bool} {A B C G : Option Addr} {n c g m d l f q : Nat} {z N D : Int} {r : Rat}
theorem Qd.ext (h : Qd K w s A n c t B m d r) (hx : Ext w w') : Qd K w' s A n c t B m d r := let ⟨N, D, h1, h2, h3⟩ := h; ⟨N, D, h1.ext hx, h2.ext hx, h3⟩
theorem Qd.weak (h : Qd K w s A n c t B m d r) (hl : K ≤ L) : Qd L w s A n c t B m d r := let ⟨N, D, h1, h2, h3⟩ := h; ⟨N, D, h1.weak hl, h2.weak hl, h3⟩
theorem Qd.cast {r' : Rat} (h : Qd K w s A n c t B m d r) (e : r = r') : Qd K w s A n c t B m d r' := e ▸ h
theorem Qd.mk (h : Zd K w s A n c N) (h' : Zd K w t B m d D) (hD : D ≠ 0) (e : r = (N : Rat) / (D : Rat)) : Qd K w s A n c t B m d r := ⟨N, D, h, h', hD, e⟩
theorem Qz.ext (h : Qz K w s A n c t B m d N D) (hx : Ext w w') : Qz K w' s A n c t B m d N D := ⟨h.1.ext hx, h.2.ext hx⟩
theorem Qz.mk (h : Zd K w s A n c N) (h' : Zd K w t B m d D) : Qz K w s A n c t B m d N D := ⟨h, h'⟩
theorem Qz.zn (h : Qz K w s A n c t B m d N D) : Zd K w s A n c N := h.1
theorem Qz.zd (h : Qz K w s A n c t B m d N D) : Zd K w t B m d D := h.2
theorem Qz.gbk2 (h : Qz K w s A n c t B m d N D) (hb : Bk T w g #[.bool e, .slice C l p]) (hg : w.grownBy w' (some g)) : Qz K w' s A n c t B m d N D := ⟨h.1.gbk2 hb hg, h.2.gbk2 hb hg⟩
theorem Qz.gbk4 (h : Qz K w s A n c t B m d N D) (hb : Bk T w g #[.bool e, .slice C l p, .bool b, .slice G f q]) (hg : w.grownBy w' (some g)) : Qz K w' s A n c t B m d N D := ⟨h.1.gbk4 hb hg, h.2.gbk4 hb hg⟩
theorem Qz.qd (h : Qz K w s A n c t B m d N D) (hD : D ≠ 0) (e : r = (N : Rat) / (D : Rat)) : Qd K w s A n c t B m d r := ⟨N, D, h.1, h.2, hD, e⟩
theorem RetP.toQ {E : Ending} (h : RetP K N D w E w') (hD : D ≠ 0) (e : r = (N : Rat) / (D : Rat)) : RetQ K r w E w' := let ⟨b, A, n, c, e', B, m, d, h1, h2, h3⟩ := h; ⟨b, A, n, c, e', B, m, d, h1, h2.qd hD e, h3⟩
theorem Qd.gbk2 (h : Qd K w s A n c t B m d r) (hb : Bk T w g #[.bool e, .slice C l p]) (hg : w.grownBy w' (some g)) : Qd K w' s A n c t B m d r := let ⟨N, D, h1, h2, h3⟩ := h; ⟨N, D, h1.gbk2 hb hg, h2.gbk2 hb hg, h3⟩
theorem Qd.gbk4 (h : Qd K w s A n c t B m d r) (hb : Bk T w g #[.bool e, .slice C l p, .bool b, .slice G f q]) (hg : w.grownBy w' (some g)) : Qd K w' s A n c t B m d r := let ⟨N, D, h1, h2, h3⟩ := h; ⟨N, D, h1.gbk4 hb hg, h2.gbk4 hb hg, h3⟩
end
theorem info_q : (Try.prog.info? 37).map (·.size) = some 4 := by kernel_rfl
theorem alloc_q {o : Oper} {a : Act} {w : World} (ho : o.op = .alloc 37) : (execOp a.eval o).run Try.prog w = .ok (.value (.pointer (some ⟨w.heap.size, 0, none⟩))) (w.alloc (.cells #[.bool false, .slice none 0 0, .bool false, .slice none 0 0] 37)) := by
  unfold execOp
  simp only [ho]
  go_simp
theorem ret_q {w : World} {g : Nat} {s t : Bool} {A B : Option Addr} {n c m d : Nat} {fn : Func} {p : Tmp} {R : Ending → World → Prop} {a : Act} (h : fn.results = #[.cell p 37]) (hB : Bk 37 w g #[.bool s, .slice A n c, .bool t, .slice B m d])
    (hp : a.tmps.getD p undef = .pointer (some ⟨g, 0, none⟩)) (hd : a.defers = []) (hR : R (.returned (.agg #[.bool s, .slice A n c, .bool t, .slice B m d])) w) : bodyPost Try.prog fn R .ret a w :=
  bodyPost_ret (results_cell_row h _ _ g _ _ _ _ hp hB.h Try.underlying37 rfl info_q) hd hR
theorem drop_mul (x y : Int) : IntKind.i64.wrap (sg x * sg y) = sg (x * y) := by rw [sg_times]; exact sg_wrap2 x y
end Go.Proofs.Ytikkibpjchmajaa

