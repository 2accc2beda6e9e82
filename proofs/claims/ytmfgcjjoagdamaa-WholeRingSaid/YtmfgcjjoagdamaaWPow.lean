
/-
  The contract of layer 4's Pow.
-/
import Derived.Test.YtmfgcjjoagdamaaWGcd
namespace Go.Proofs.Ytmfgcjjoagdamaa
open Go.RowKit
open Go.Lib (hid)

/-- The limbs lie in another block. -/
def OffB (A : Option Addr) (n g : Nat) : Prop := ∀ b o, A = some ⟨b, o, none⟩ → 0 < n → b ≠ g
theorem Nv.grown {K : Nat} {w w' : World} {A : Option Addr} {n c m g : Nat} (h : Nv K w A n c m) (hg : w.grownBy w' (some g)) (ho : OffB A n g) : Nv K w' A n c m := by
  obtain ⟨xs, h1, h2⟩ := h
  refine ⟨xs, ⟨h1.len, h1.cap, h1.max, fun hp => ?_⟩, h2⟩
  obtain ⟨b, o, e, hlt, hc⟩ := h1.at_ hp
  have hne := ho b o e hp
  refine ⟨b, o, e, Nat.lt_of_lt_of_le hlt hg.size, fun j z hz => ?_⟩
  rw [World.cell?_of_block (a := ⟨b, o + j, Option.none⟩) (hg.block b hlt (fun e => hne (by injection e)))]
  exact hc j z hz
theorem Iz.grown {K : Nat} {w w' : World} {s : Bool} {A : Option Addr} {n c g : Nat} {z : Int} (h : Iz K w s A n c z) (hg : w.grownBy w' (some g)) (ho : OffB A n g) : Iz K w' s A n c z := let ⟨m, h1, h2⟩ := h; ⟨m, h1.grown hg ho, h2⟩
theorem Cn.off {K : Nat} {w : World} {lo : Nat} {A : Option Addr} {n c m g : Nat} (h : Cn K w lo A n c m) (hg : g < lo) : OffB A n g := fun b o e hp => by
  rcases h.1.form with ⟨e', _, _⟩ | ⟨g', e', hl, _⟩
  · rw [e'] at e; cases e
  · rw [e'] at e; injection e with e; injection e with e; omega
theorem Nv.off {K : Nat} {w : World} {A : Option Addr} {n c m g : Nat} (h : Nv K w A n c m) (hg : w.heap.size ≤ g) : OffB A n g := fun b o e hp => by
  obtain ⟨xs, h1, _⟩ := h
  obtain ⟨b', o', e', hlt, _⟩ := h1.at_ hp
  rw [e] at e'; injection e' with e'; injection e' with e'; omega

def RetSq (g K : Nat) (z : Int) (w : World) : Ending → World → Prop := fun E w' => E = .returned (.tuple #[]) ∧ ∃ (w1 : World) (s : Bool) (A : Option Addr) (n c : Nat), Ext w w1 ∧ Ci K w1 w.heap.size s A n c z ∧ w' = (w1.setCell ⟨g, 0, none⟩ (.bool s)).setCell ⟨g, 1, none⟩ (.slice A n c)

theorem wsq_v {w : World} {s : Bool} {A : Option Addr} {n c g K : Nat} {x : Int} (hB : Bx w g s A n c) (h : Iz K w s A n c x) (hK : K + K ≤ 536870000) :
    Calls Try.prog 69 #[.pointer (some ⟨g, 0, none⟩)] w (RetSq g (K + K) (x * x) w) := by
  have H := hid h
  have HB := hid hB
  have hc0 := hB.c0
  have hc1 := hB.c1
  clear h hB
  go_enter Try.func69, Try.ntmps69
  go_wp2_with fail
  refine (wmul_v H.out H.out hK).mono ?_
  rintro E w1 ⟨b1, A1, n1, c1, rfl, o1, x1⟩
  have HB1 := HB.out.ext x1
  have hr0 := HB1.c0
  have hr1 := HB1.c1
  have hr2 := HB1.fr 0
  have hr3 := HB1.fr 1
  have O1 := hid o1
  have X1 := hid x1
  clear o1 x1 HB1 hc0 hc1
  go_wp2_with fail
  go_end0
  exact ⟨rfl, _, _, _, _, _, X1.out, O1.out, rfl⟩

theorem wpow_bad {w : World} {s : Bool} {A : Option Addr} {n c : Nat} {N : Int} (hN : N < 0 ∨ 1000 < N) : Calls Try.prog 30 #[.agg #[.bool s, .slice A n c], .int .i64 N] w (RetIE 0 0 2 w) := by
  have B0 := Bx.new (w.alloc (.cells #[.bool s, .slice A n c] 24)) false none 0 0
  rw [size_alloc] at B0
  have HB := hid B0
  have X := hid (((Ext.refl w).alloc (.cells #[.bool s, .slice A n c] 24)).alloc (.cells #[.bool false, .slice none 0 0] 24))
  have hc0 := B0.c0
  have hc1 := B0.c1
  have hf0 := B0.fr 0
  have hf1 := B0.fr 1
  clear B0
  rcases hN with hN | hN
  · go_enter Try.func30, Try.ntmps30
    go_wp2_with fail
    go_step3
    go_wp2_with fail
    rw [Exit.noGoto_ret]
    refine ret_be rfl HB.out rfl rfl rfl ?_
    exact ⟨_, _, _, _, rfl, ⟨by decide, Cn.none⟩, X.out⟩
  · have hN0 : ¬ N < 0 := by omega
    go_enter Try.func30, Try.ntmps30
    go_wp2_with fail
    go_step3
    go_wp2_with fail
    rw [Exit.noGoto_ret]
    refine ret_be rfl HB.out rfl rfl rfl ?_
    exact ⟨_, _, _, _, rfl, ⟨by decide, Cn.none⟩, X.out⟩

theorem pow_sq (X : Int) (h : Nat) : X ^ (2 * h) = (X * X) ^ h := by
  rw [Int.pow_mul, show X ^ 2 = X * X from by rw [Int.pow_succ, Int.pow_succ, Int.pow_zero, Int.one_mul]]
theorem and_one {n : Nat} (h : n < 9223372036854775808) : bits BinOp.and IntKind.i64 (n : Int) 1 = ((n % 2 : Nat) : Int) := by
  have h1 : (BitVec.ofInt 64 1).toNat = 2 ^ 1 - 1 := by decide
  have key : (BitVec.ofInt 64 (n : Int) &&& BitVec.ofInt 64 1).toNat = ((n : Int) % ((2 ^ 64 : Nat) : Int)).toNat % 2 ^ 1 := by
    rw [BitVec.toNat_and, BitVec.toNat_ofInt, h1, Nat.and_two_pow_sub_one_eq_mod]
  show IntKind.i64.wrap ((BitVec.ofInt 64 (n : Int) &&& BitVec.ofInt 64 1).toNat : Nat) = _
  rw [key, IntKind.wrap_i64]
  omega

set_option maxHeartbeats 3200000 in
theorem wpow_v {w : World} {s : Bool} {A : Option Addr} {n c K N : Nat} {x : Int} (h : Iz K w s A n c x) (hK : K ≤ 1000) (hN : N ≤ 1000) :
    Calls Try.prog 30 #[.agg #[.bool s, .slice A n c], .int .i64 N] w (RetIE (2 + K * N) (x ^ N) 0 w) := by
  have H := hid h
  clear h
  have hmf : ∀ (fn : Fn) (first cap : Array Value) (w : World), (Instr.makeFunc fn first cap).run Try.prog w = .ok (.func fn first cap) w := fun _ _ _ _ => rfl
  go_enter Try.func30, Try.ntmps30
  have B0 := (Bx.new w s A n c).ext ((Ext.refl (w.alloc (.cells #[.bool s, .slice A n c] 24))).alloc (.cells #[.bool false, .slice none 0 0] 24))
  have B1 := Bx.new (w.alloc (.cells #[.bool s, .slice A n c] 24)) false none 0 0
  rw [size_alloc] at B1
  have hsz : ((w.alloc (.cells #[.bool s, .slice A n c] 24)).alloc (.cells #[.bool false, .slice none 0 0] 24)).heap.size = w.heap.size + 2 := by rw [size_alloc, size_alloc]
  have hX := ((Ext.refl w).alloc (.cells #[.bool s, .slice A n c] 24)).alloc (.cells #[.bool false, .slice none 0 0] 24)
  have HB0 := hid B0
  have HB1 := hid B1
  have HX := hid hX
  clear B0 B1 hX
  go_wp2_with fail
  go_step3
  go_wp2_with fail
  generalize (w.alloc (.cells #[.bool s, .slice A n c] 24)).alloc (.cells #[.bool false, .slice none 0 0] 24) = wA at *
  refine (wof_v (by omega) (by omega)).mono ?_
  rintro E w1 ⟨b1, A1, n1, c1, rfl, o1, x1⟩
  have O1 := hid o1
  have X1 := hid x1
  clear o1 x1
  go_wp2_with fail
  go_step3
  go_wp2_with fail
  obtain ⟨g, hg⟩ : ∃ g, g = w1.heap.size := ⟨_, rfl⟩
  have hAl := hid ((Ext.refl w1).alloc (.cells #[.bool b1, .slice A1 n1 c1] 24))
  have BG := hid (Bx.new w1 b1 A1 n1 c1)
  have hs1 := X1.out.size
  have hfirst : ∃ (n' KX KO : Nat) (X O : Int) (sX : Bool) (AX : Option Addr) (nX cX : Nat) (sO : Bool) (AO : Option Addr) (nO cO : Nat), Value.int .i64 (N : Int) = .int .i64 n' ∧ n' ≤ 1000 ∧ KO + KX * n' ≤ 2 + K * N ∧ O * X ^ n' = x ^ N ∧
      Bx (w1.alloc (.cells #[.bool b1, .slice A1 n1 c1] 24)) w.heap.size sX AX nX cX ∧ Iz KX (w1.alloc (.cells #[.bool b1, .slice A1 n1 c1] 24)) sX AX nX cX X ∧ OffB AX nX w1.heap.size ∧ Bx (w1.alloc (.cells #[.bool b1, .slice A1 n1 c1] 24)) w1.heap.size sO AO nO cO ∧
      Ci KO (w1.alloc (.cells #[.bool b1, .slice A1 n1 c1] 24)) wA.heap.size sO AO nO cO O ∧ Bx (w1.alloc (.cells #[.bool b1, .slice A1 n1 c1] 24)) (w.heap.size + 1) false none 0 0 ∧ Ext w (w1.alloc (.cells #[.bool b1, .slice A1 n1 c1] 24)) :=
    ⟨N, K, 2, x, 1, s, A, n, c, b1, A1, n1, c1, rfl, hN, Nat.le_refl _, Int.one_mul _, (HB0.out.ext X1.out).ext hAl.out, H.out.ext ((HX.out.trans X1.out).trans hAl.out),
      H.out.nv.1.off (by omega), BG.out, O1.out.ext hAl.out, (HB1.out.ext X1.out).ext hAl.out, (HX.out.trans X1.out).trans hAl.out⟩
  have HFI := hid hfirst
  clear hfirst O1 BG hAl H
  rw [← hg] at HFI
  have HG := hid hg
  have hgA : wA.heap.size ≤ g := by omega
  clear hs1
  generalize (w1.alloc (.cells #[.bool b1, .slice A1 n1 c1] 24)) = w2 at *
  rw [← HG.out]
  clear HG hg
  go_loopw [1] (fun si wr => ∃ (n' KX KO : Nat) (X O : Int) (sX : Bool) (AX : Option Addr) (nX cX : Nat) (sO : Bool) (AO : Option Addr) (nO cO : Nat), si = .int .i64 n' ∧ n' ≤ 1000 ∧ KO + KX * n' ≤ 2 + K * N ∧ O * X ^ n' = x ^ N ∧ Bx wr w.heap.size sX AX nX cX ∧ Iz KX wr sX AX nX cX X ∧ OffB AX nX g ∧ Bx wr g sO AO nO cO ∧ Ci KO wr wA.heap.size sO AO nO cO O ∧ Bx wr (w.heap.size + 1) false none 0 0 ∧ Ext w wr) (fun si _ => (intOf si).toNat)
  case atStart => exact HFI.out
  case round =>
    clear HFI
    obtain ⟨n', KX, KO, X, O, sX, AX, nX, cX, sO, AO, nO, cO, rfl, hnb, hKL, hV, hBX, hIX, hOF, hBG, hCO, hBR, hEX⟩ := hrel
    have HBX := hid hBX
    have HIX := hid hIX
    have HOF := hid hOF
    have HBG := hid hBG
    have HCO := hid hCO
    have HBR := hid hBR
    have HEX := hid hEX
    have HV0 := hid hV
    have HKL0 := hid hKL
    clear hBX hIX hOF hBG hCO hBR hEX hV hKL
    have hand := and_one (n := n') (by omega)
    rcases Nat.mod_two_eq_zero_or_one n' with hpar | hpar
    · obtain ⟨h, hn'⟩ : ∃ h, n' = 2 * h := ⟨n' / 2, by omega⟩
      have HN := hid hn'
      have HV := hid (show O * X ^ (2 * h) = x ^ N by rw [← hn']; exact HV0.out)
      have HKL := hid (show KO + 2 * (KX * h) ≤ 2 + K * N by have := HKL0.out; rw [hn', Nat.mul_left_comm] at this; exact this)
      have hA : (bits BinOp.and IntKind.i64 (n' : Int) 1 == 1) = false := by rw [hand, beq_eq_false_iff_ne]; omega
      clear hpar hn' hand HV0 HKL0
      by_cases hh : h = 0
      · subst hh
        have hfin : O = x ^ N := by have := HV.out; simpa using this
        have HF := hid hfin
        have hb0 := HBG.out.c0
        have hb1 := HBG.out.c1
        have hr0 := HBR.out.c0
        have hr1 := HBR.out.c1
        have hr2 := HBR.out.fr 0
        have hr3 := HBR.out.fr 1
        have hD : ((n' : Int) / 2 == 0) = true := by rw [beq_iff_eq]; have := HN.out; omega
        clear hfin
        go_wp2_with (go_quiet (fail))
        rw [Exit.noGoto_ret]
        refine ret_be rfl HBR.out.put rfl rfl rfl ?_
        have hc := HCO.out
        rw [HF.out] at hc
        exact ⟨_, _, _, _, rfl, ((hc.weak (by have := HKL.out; omega)).put (by omega)).mono (by omega), HEX.out.put (by omega) _ _⟩
      · have sq := hid (wsq_v HBX.out HIX.out (by have := HKL.out; have := Nat.mul_le_mul_left KX (show 1 ≤ h by omega); have := Nat.mul_le_mul hK hN; omega))
        have hD : ((n' : Int) / 2 == 0) = false := by rw [beq_eq_false_iff_ne]; have := HN.out; omega
        have hx0 := HBX.out.c0
        go_wp2_with (go_quiet (fail))
        refine sq.out.mono ?_
        rintro E w5 ⟨rfl, w4, s4, A4, n4, c4, x4, o4, rfl⟩
        have hsz4 := HBG.out.lt
        have hsz5 := x4.size
        have hs0 := HBX.out.lt
        have RBX := hid ((HBX.out.ext x4).put (s' := s4) (A' := A4) (n' := n4) (c' := c4))
        have RBG := hid ((HBG.out.ext x4).other (g' := w.heap.size) (u := .bool s4) (v := .slice A4 n4 c4) (by omega))
        have RBR := hid ((HBR.out.ext x4).other (g' := w.heap.size) (u := .bool s4) (v := .slice A4 n4 c4) (by omega))
        have RIX := hid (o4.put (g := w.heap.size) (u := .bool s4) (v := .slice A4 n4 c4) hs0).iz
        have ROF := hid (o4.2.off (g := g) hsz4)
        have RCO := hid ((HCO.out.ext x4).put (g := w.heap.size) (u := .bool s4) (v := .slice A4 n4 c4) (by omega))
        have REX := hid ((HEX.out.trans x4).put (Nat.le_refl _) (.bool s4) (.slice A4 n4 c4))
        have HN2 := hid (show (n' : Int) / 2 = (h : Int) by have := HN.out; omega)
        have HLT := hid (show h < n' by have := HN.out; omega)
        clear x4 o4 sq hD
        go_wp2_with fail
        go_roundw
        case rel => exact ⟨h, KX + KX, KO, X * X, O, _, _, _, _, _, _, _, _, by show Value.int _ _ = _; rw [HN2.out], by have := HLT.out; omega, by have := HKL.out; rw [Nat.add_mul]; omega, by rw [← HV.out, pow_sq], RBX.out, RIX.out, ROF.out, RBG.out, RCO.out, RBR.out, REX.out⟩
        case measure => have := HLT.out; simp [intOf]; omega
    · obtain ⟨h, hn'⟩ : ∃ h, n' = 2 * h + 1 := ⟨n' / 2, by omega⟩
      have HN := hid hn'
      have HV1 := hid (show O * X * X ^ (2 * h) = x ^ N by rw [Int.mul_assoc, ← Int.pow_succ', ← hn']; exact HV0.out)
      have HKL1 := hid (show (KO + KX) + 2 * (KX * h) ≤ 2 + K * N by have := HKL0.out; rw [hn', Nat.mul_add, Nat.mul_one, Nat.mul_left_comm] at this; omega)
      have hA : (bits BinOp.and IntKind.i64 (n' : Int) 1 == 1) = true := by rw [hand, beq_iff_eq]; omega
      clear hpar hn' hand HV0 HKL0
      by_cases hh : h = 0
      · subst hh
        have hb0 := HBG.out.c0
        have hb1 := HBG.out.c1
        have hx0 := HBX.out.c0
        have hx1 := HBX.out.c1
        have mu := hid (wmul_v HCO.out.iz HIX.out (by have := HKL1.out; have := Nat.mul_le_mul hK hN; omega))
        go_wp2_with (go_quiet (fail))
        refine mu.out.mono ?_
        rintro E w3 ⟨b3, A3, n3, c3, rfl, o3, x3⟩
        have hgs := HBG.out.lt
        have hg3 := x3.size
        have BG3 := HBG.out.ext x3
        have hz0 := BG3.c0
        have hz1 := BG3.c1
        have hz2 := BG3.fr 0
        have hz3 := BG3.fr 1
        have HBX1 := hid ((HBX.out.ext x3).other (g' := g) (u := .bool b3) (v := .slice A3 n3 c3) (by omega))
        have HBR1 := hid ((HBR.out.ext x3).other (g' := g) (u := .bool b3) (v := .slice A3 n3 c3) (by omega))
        have HBG1 := hid (BG3.put (s' := b3) (A' := A3) (n' := n3) (c' := c3))
        have HIX1 := hid ((HIX.out.ext x3).grown (put_gb w3 g (.bool b3) (.slice A3 n3 c3)) HOF.out)
        have HCO1 := hid ((o3.put (g := g) (u := .bool b3) (v := .slice A3 n3 c3) hgs).mono (show wA.heap.size ≤ wr.heap.size by omega))
        have HEX1 := hid ((HEX.out.trans x3).put (show w.heap.size ≤ g by omega) (.bool b3) (.slice A3 n3 c3))
        clear o3 x3 BG3 mu hb0 hb1 hx0 hx1
        have hfin : (O * X) = x ^ N := by have := HV1.out; simpa using this
        have HF := hid hfin
        have hb0 := HBG1.out.c0
        have hb1 := HBG1.out.c1
        have hr0 := HBR1.out.c0
        have hr1 := HBR1.out.c1
        have hr2 := HBR1.out.fr 0
        have hr3 := HBR1.out.fr 1
        have hD : ((n' : Int) / 2 == 0) = true := by rw [beq_iff_eq]; have := HN.out; omega
        clear hfin
        go_wp2_with (go_quiet (fail))
        rw [Exit.noGoto_ret]
        refine ret_be rfl HBR1.out.put rfl rfl rfl ?_
        have hc := HCO1.out
        rw [HF.out] at hc
        exact ⟨_, _, _, _, rfl, ((hc.weak (by have := HKL1.out; omega)).put (by omega)).mono (by omega), HEX1.out.put (by omega) _ _⟩
      · skip
        have hb0 := HBG.out.c0
        have hb1 := HBG.out.c1
        have hx0 := HBX.out.c0
        have hx1 := HBX.out.c1
        have mu := hid (wmul_v HCO.out.iz HIX.out (by have := HKL1.out; have := Nat.mul_le_mul hK hN; omega))
        go_wp2_with (go_quiet (fail))
        refine mu.out.mono ?_
        rintro E w3 ⟨b3, A3, n3, c3, rfl, o3, x3⟩
        have hgs := HBG.out.lt
        have hg3 := x3.size
        have BG3 := HBG.out.ext x3
        have hz0 := BG3.c0
        have hz1 := BG3.c1
        have hz2 := BG3.fr 0
        have hz3 := BG3.fr 1
        have HBX1 := hid ((HBX.out.ext x3).other (g' := g) (u := .bool b3) (v := .slice A3 n3 c3) (by omega))
        have HBR1 := hid ((HBR.out.ext x3).other (g' := g) (u := .bool b3) (v := .slice A3 n3 c3) (by omega))
        have HBG1 := hid (BG3.put (s' := b3) (A' := A3) (n' := n3) (c' := c3))
        have HIX1 := hid ((HIX.out.ext x3).grown (put_gb w3 g (.bool b3) (.slice A3 n3 c3)) HOF.out)
        have HCO1 := hid ((o3.put (g := g) (u := .bool b3) (v := .slice A3 n3 c3) hgs).mono (show wA.heap.size ≤ wr.heap.size by omega))
        have HEX1 := hid ((HEX.out.trans x3).put (show w.heap.size ≤ g by omega) (.bool b3) (.slice A3 n3 c3))
        clear o3 x3 BG3 mu hb0 hb1 hx0 hx1
        have sq := hid (wsq_v HBX1.out HIX1.out (by have := HKL1.out; have := Nat.mul_le_mul_left KX (show 1 ≤ h by omega); have := Nat.mul_le_mul hK hN; omega))
        have hD : ((n' : Int) / 2 == 0) = false := by rw [beq_eq_false_iff_ne]; have := HN.out; omega
        have hx0 := HBX1.out.c0
        go_wp2_with (go_quiet (fail))
        refine sq.out.mono ?_
        rintro E w5 ⟨rfl, w4, s4, A4, n4, c4, x4, o4, rfl⟩
        have hsz4 := HBG1.out.lt
        have hsz5 := x4.size
        have hs0 := HBX1.out.lt
        have RBX := hid ((HBX1.out.ext x4).put (s' := s4) (A' := A4) (n' := n4) (c' := c4))
        have RBG := hid ((HBG1.out.ext x4).other (g' := w.heap.size) (u := .bool s4) (v := .slice A4 n4 c4) (by omega))
        have RBR := hid ((HBR1.out.ext x4).other (g' := w.heap.size) (u := .bool s4) (v := .slice A4 n4 c4) (by omega))
        have RIX := hid (o4.put (g := w.heap.size) (u := .bool s4) (v := .slice A4 n4 c4) hs0).iz
        have ROF := hid (o4.2.off (g := g) hsz4)
        have RCO := hid ((HCO1.out.ext x4).put (g := w.heap.size) (u := .bool s4) (v := .slice A4 n4 c4) (by omega))
        have REX := hid ((HEX1.out.trans x4).put (Nat.le_refl _) (.bool s4) (.slice A4 n4 c4))
        have HN2 := hid (show (n' : Int) / 2 = (h : Int) by have := HN.out; omega)
        have HLT := hid (show h < n' by have := HN.out; omega)
        clear x4 o4 sq hD
        go_wp2_with fail
        go_roundw
        case rel => exact ⟨h, KX + KX, (KO + KX), X * X, (O * X), _, _, _, _, _, _, _, _, by show Value.int _ _ = _; rw [HN2.out], by have := HLT.out; omega, by have := HKL1.out; rw [Nat.add_mul]; omega, by rw [← HV1.out, pow_sq], RBX.out, RIX.out, ROF.out, RBG.out, RCO.out, RBR.out, REX.out⟩
        case measure => have := HLT.out; simp [intOf]; omega
end Go.Proofs.Ytmfgcjjoagdamaa
