
/-
  The contracts of the document's answer for layer 1: by, Small, Limbs.
-/
import Derived.Test.YtmfgcjjoagdamaaRef1
import Derived.Test.YtmfgcjjoagdamaaSub
namespace Go.Proofs.Ytmfgcjjoagdamaa
open Go.RowKit
open Go.Lib (hid)

theorem by_step {j l rest n x V : Nat} {qs xs : List Nat} (hinv : nv 10 qs * n + rest = nv 10 (xs.drop (j + 1))) (hx : xs[j]?.getD 0 = x) (hj : j < xs.length) (hr : rest < n) (h10 : x < 10) :
    nv 10 (((rest * 10 + x) / n) :: qs) * n + (rest * 10 + x) % n = nv 10 (xs.drop j) ∧ (rest * 10 + x) / n < 10 := by
  rw [List.drop_eq_getElem_cons hj, nv_cons, nv_cons, ← hinv]
  rw [List.getElem?_eq_getElem hj] at hx
  have hx : xs[j] = x := hx
  rw [hx]
  have h1 := Nat.div_add_mod (rest * 10 + x) n
  constructor
  · rw [Nat.add_mul, Nat.mul_assoc, Nat.mul_comm _ n]
    generalize nv 10 qs * n = t at *
    generalize n * ((rest * 10 + x) / n) = t2 at *
    omega
  · rw [Nat.div_lt_iff_lt_mul (by omega)]; omega

theorem set_head {j d : Nat} {qs : List Nat} : (List.replicate (j + 1) 0 ++ qs).set j d = List.replicate j 0 ++ d :: qs := by
  rw [← List.replicate_append_replicate, List.append_assoc, List.set_append_right _ _ (by simp)]
  simp

set_option maxHeartbeats 1600000 in
theorem rby_any {w : World} {A : Option Addr} {l c : Nat} {xs : List Nat} {n : Nat} (h : Sl .i64 w A l c xs) (hl : Lim 10 xs) (hln : l ≤ 1099511627776) (hn : n ≤ 65536) (hn0 : 0 < n) :
    Calls Try.prog 84 #[.slice A l c, .int .i64 n] w (RetOE .i64 3 (nd 10 (nv 10 xs / n)) ((nv 10 xs % n : Nat) : Int) w) := by
  have H := hid h
  have HL := hid hl
  clear h hl
  have hne : ((n : Int) == 0) = false := beq_eq_false_iff_ne.2 (by omega)
  go_enter Try.func84, Try.ntmps84
  go_wp2_with (at_make; refine wpl_make (w0 := w) (Ext.refl _) rfl (.tmp 10) (.tmp 10) _ rfl 3 .i64 8 Try.underlying32 info_int _ l rfl rfl rfl (by omega) (by simp only [maxLen]; omega) ?_; intro g w1 hg1 ho1 hx1)
  go_loopw [7, 8] (fun sr si wr => ∃ (j rest : Nat) (qs : List Nat), j ≤ l ∧ si = .int .i64 ((j : Int) - 1) ∧ sr = .int .i64 rest ∧ rest < n ∧ qs.length = l - j ∧ Lim 10 qs ∧
      nv 10 qs * n + rest = nv 10 (xs.drop j) ∧ Own .i64 3 wr w.heap.size (some ⟨g, 0, none⟩) l l (List.replicate j 0 ++ qs) ∧ Ext w wr) (fun _ si _ => (intOf si + 1).toNat)
  case atStart =>
    exact ⟨l, 0, [], Nat.le_refl _, rfl, rfl, hn0, by simp, fun x hx => by simp at hx, by rw [List.drop_eq_nil_of_le (by rw [H.out.len]; omega)]; simp [nv], by simpa using ho1, hx1⟩
  case round =>
    obtain ⟨j, rest, qs, hj, rfl, rfl, hr, hql, hqs, hinv, ho, hx⟩ := hrel
    have H1 := hid (H.out.ext hx)
    have HE := hid hx
    have HI := hid hinv
    have HO := hid ho
    have HQ := hid hqs
    have HQL := hid hql
    clear hx hinv ho hqs hql ho1 hx1
    rcases Nat.eq_zero_or_pos j with h0 | h0
    · subst h0
      have ho := HO.out
      simp only [List.replicate_zero, List.nil_append] at ho
      have hv : nv 10 qs * n + rest = nv 10 xs := by have := HI.out; simpa using this
      have hq : nv 10 qs = nv 10 xs / n := by rw [← hv, Nat.mul_comm, Nat.mul_add_div hn0, Nat.div_eq_of_lt hr, Nat.add_zero]
      have hm : rest = nv 10 xs % n := by rw [← hv, Nat.mul_comm, Nat.mul_add_mod, Nat.mod_eq_of_lt hr]
      have hs := hid (rtrim_any ho.sl HQ.out)
      have hsh := ho.rtrim HQ.out
      rw [hq] at hs hsh
      have HS := hid hsh
      have HM := hid hm
      clear hsh hv hq hm ho
      go_wp2_with (go_at_call 90; refine hs.out.mono ?_; rintro e w' ⟨rfl, rfl⟩)
      go_ret2
      refine ⟨_, _, ?_, HS.out, HE.out⟩
      rw [← HM.out]; rfl
    · obtain ⟨i, rfl⟩ : ∃ i, j = i + 1 := ⟨j - 1, by omega⟩
      obtain ⟨ba, oa, rfl, g1⟩ := H1.out.get (i := i) (by omega)
      have b1 := lim_getD (b := 10) (by omega) HL.out i
      have g0 := HO.out.cell (i := i) (by omega)
      have gf := HO.out.frozen i
      have HK := hid (by_step (l := l) (V := 0) HI.out rfl (by rw [H1.out.len]; omega) hr b1)
      have hset := HO.out.set i ((rest * 10 + xs[i]?.getD 0) / n)
      rw [set_head] at hset
      have HS := hid hset
      clear hset
      generalize xs[i]?.getD 0 = x at *
      generalize (List.replicate (i + 1) 0 ++ qs)[i]?.getD 0 = z at *
      have hr0 : 0 ≤ (rest : Int) * 10 + x := by omega
      have e1 : ((rest : Int) * 10 + x) % n = (((rest * 10 + x) % n : Nat) : Int) := by
        rw [Int.natCast_emod]; rfl
      have e2 : ((rest : Int) * 10 + x) / n = (((rest * 10 + x) / n : Nat) : Int) := by
        rw [Int.natCast_ediv]; rfl
      have E1 := hid e1
      have E2 := hid e2
      clear e1 e2
      go_wp2_with fail
      rw [E1.out, E2.out]
      obtain ⟨k1, k2⟩ := HK.out
      exact ⟨⟨i, _, _, by omega, rfl, rfl, Nat.mod_lt _ hn0, by rw [List.length_cons, HQL.out]; omega, fun y hy => by
        rcases List.mem_cons.1 hy with rfl | hy
        · exact k2
        · exact HQ.out y hy, k1, HS.out, HE.out.setCell hg1 _⟩, by simp [intOf]⟩

set_option maxHeartbeats 1600000 in
theorem rsmall_any {w : World} {n : Nat} (hn : n < 18446744073709551616) :
    Calls Try.prog 66 #[.int .u64 n] w (RetO .i64 3 (nd 10 n) w) := by
  go_enter Try.func66, Try.ntmps66
  go_wp2_with fail
  go_loopw [0, 3] (fun sn so wr => ∃ (j m : Nat) (A' : Option Addr) (c' : Nat) (os : List Nat), j + m ≤ n ∧ sn = .int .u64 m ∧ so = .slice A' j c' ∧ nd 10 n = os ++ nd 10 m ∧ j ≤ 100 ∧ m * 10 ^ j < 18446744073709551616 ∧
      Own .i64 3 wr w.heap.size A' j c' os ∧ Ext w wr) (fun sn _ _ => (intOf sn).toNat)
  case atStart => exact ⟨0, n, none, 0, [], by omega, rfl, rfl, rfl, by omega, by simpa using hn, ⟨by simp, .inl ⟨rfl, rfl⟩⟩, Ext.refl _⟩
  case round =>
    obtain ⟨j, m, A', c', os, hj, rfl, rfl, hinv, hj1, hj2, ho, hx⟩ := hrel
    have HE := hid hx
    have HI := hid hinv
    have HO := hid ho
    have HJ := hid hj2
    clear hx hinv ho hj2
    by_cases h0 : 0 < m
    · have hI := HI.out
      rw [nd_pos (by omega) (show m ≠ 0 by omega)] at hI
      have HI2 := hid hI
      have hmn : m < 18446744073709551616 := by
        have := HJ.out
        have h1 : 1 ≤ 10 ^ j := Nat.pow_pos (by omega)
        have h2 : m * 1 ≤ m * 10 ^ j := Nat.mul_le_mul_left _ h1
        omega
      have hj3 : j + 1 ≤ 100 := by
        rcases Nat.lt_or_ge j 99 with h | h
        · omega
        · have h1 : 10 ^ 99 ≤ 10 ^ j := Nat.pow_le_pow_right (by omega) h
          have h2 : 1 * 10 ^ j ≤ m * 10 ^ j := Nat.mul_le_mul_right _ h0
          have h3 := HJ.out
          omega
      have hj4 : (m / 10) * 10 ^ (j + 1) < 18446744073709551616 := by
        have h3 := HJ.out
        have h4 : m / 10 * 10 ≤ m := Nat.div_mul_le_self m 10
        rw [Nat.pow_succ, Nat.mul_comm (10 ^ j), ← Nat.mul_assoc]
        exact Nat.lt_of_le_of_lt (Nat.mul_le_mul_right _ h4) h3
      have HJ4 := hid hj4
      have hov : (m : Int) % 10 = ((m % 10 : Nat) : Int) := by omega
      have HV := hid hov
      clear hov hI HI hj4
      go_wp2_with (at_builtin; refine wpl_append1 (w0 := w) rfl (.tmp 6) (.tmp 10) _ rfl 3 .i64 8 Try.underlying32 info_int _ (m % 10) rfl rfl HV.out HO.out HE.out (by omega) (by simp only [maxLen]; omega) ?_; intro A2 c2 w2 ho2 hx2 _)
      go_roundw
      case rel =>
        refine ⟨j + 1, m / 10, A2, c2, _, by omega, ?_, rfl, ?_, by omega, HJ4.out, ho2, hx2⟩
        · rw [show (m : Int) / 10 = ((m / 10 : Nat) : Int) from by omega]
        · rw [HI2.out]; simp
      case measure => simp [intOf]; omega
    · obtain rfl : m = 0 := by omega
      have hI := HI.out
      rw [nd_zero, List.append_nil] at hI
      have ho := HO.out
      rw [← hI] at ho
      have HL2 := hid ho.len
      have HO2 := hid ho
      clear hI HI ho HO
      go_wp2_with fail
      go_ret
      have hl := HL2.out
      subst hl
      exact ⟨_, _, rfl, HO2.out, HE.out⟩

theorem info_u32' : (Try.prog.info? 39).map (fun i => (i.zero, i.size, i.bytes)) = some (some (.int .u32 0), 1, 4) := by kernel_rfl

theorem limb_val (V : Nat) : V / 65536 % 65536 * 65536 + V % 65536 = V % 4294967296 ∧ V / 65536 / 65536 = V / 4294967296 := by omega

set_option maxHeartbeats 1600000 in
theorem rlimbs_any {w : World} {A : Option Addr} {l c : Nat} {V : Nat} (h : Sl .i64 w A l c (nd 10 V)) (hln : l ≤ 1099511627776) :
    Calls Try.prog 58 #[.slice A l c] w (RetO .u32 39 (nd 4294967296 V) w) := by
  go_enter Try.func58, Try.ntmps58
  go_wp2_with fail
  go_loopw [0, 3] (fun sd so wr => ∃ (j m l' : Nat) (A' B' : Option Addr) (c' d' : Nat) (os : List Nat), j + m ≤ V ∧ sd = .slice B' l' d' ∧ so = .slice A' j c' ∧ nd 4294967296 V = os ++ nd 4294967296 m ∧ l' ≤ 1099511627776 ∧ j + l' ≤ 1099511627776 ∧
      Sl .i64 wr B' l' d' (nd 10 m) ∧ Own .u32 39 wr w.heap.size A' j c' os ∧ Ext w wr) (fun sd _ _ => match sd with | .slice _ m _ => m | _ => 0)
  case atStart => exact ⟨0, V, l, none, A, 0, c, [], by omega, rfl, rfl, rfl, hln, by omega, h, ⟨by simp, .inl ⟨rfl, rfl⟩⟩, Ext.refl _⟩
  case round =>
    obtain ⟨j, m, l', A', B', c', d', os, hj, rfl, rfl, hinv, hl', hjl, hd, ho, hx⟩ := hrel
    have HE := hid hx
    have HI := hid hinv
    have HO := hid ho
    have HD := hid hd
    have hlen : l' = (nd 10 m).length := hd.len.symm
    clear hx hinv ho hd h
    by_cases h0 : m = 0
    · subst h0
      have hl0 : l' = 0 := hlen
      clear hlen
      subst hl0
      have hI := HI.out
      rw [nd_zero, List.append_nil] at hI
      have ho := HO.out
      rw [← hI] at ho
      have HL2 := hid ho.len
      have HO2 := hid ho
      clear hI HI ho HO
      go_wp2_with fail
      go_ret
      have hl := HL2.out
      subst hl
      exact ⟨_, _, rfl, HO2.out, HE.out⟩
    · have hp : 0 < l' := by
        rcases Nat.eq_zero_or_pos l' with h | h
        · rw [h] at hlen
          exact absurd ((nd_eq_nil (by omega)).1 (List.eq_nil_of_length_eq_zero hlen.symm)) h0
        · exact h
      have HL := hid hlen
      clear hlen
      have b1 := hid (rby_any (n := 65536) HD.out (nd_lim (by omega) m) hl' (by omega) (by omega))
      rw [nv_nd (by omega)] at b1
      go_wp2_with fail
      refine b1.out.mono ?_
      rintro E w1 ⟨A1, c1, rfl, o1, x1⟩
      have hl1 : (nd 10 (m / 65536)).length ≤ l' := by rw [HL.out]; exact nd_len_mono (by omega) (Nat.div_le_self _ _)
      have b2 := hid (rby_any (n := 65536) o1.sl (nd_lim (by omega) _) (by omega) (by omega) (by omega))
      rw [nv_nd (by omega)] at b2
      have X1 := hid x1
      clear b1 o1 x1
      go_wp2_with fail
      refine b2.out.mono ?_
      rintro E w2 ⟨A2, c2, rfl, o2, x2⟩
      have hl2 : (nd 10 (m / 65536 / 65536)).length < l' := by
        rw [HL.out]
        have e : m / 65536 / 65536 = m / 10 / 429496729 - (m / 10 / 429496729 - m / 65536 / 65536) := by omega
        exact Nat.lt_of_le_of_lt (nd_len_mono (b := 10) (by omega) (show m / 65536 / 65536 ≤ m / 10 by omega)) (by rw [nd_pos (n := m) (by omega) h0]; simp)
      have AP := hid (Own.apart HO.out o2 X1.out.size)
      have hXT := hid ((HE.out.trans X1.out).trans x2)
      have O2 := hid o2.sl
      have HO2 := hid ((HO.out.ext X1.out).ext x2)
      clear b2 o2 x2 X1
      have hI := HI.out
      rw [nd_pos (by omega) h0] at hI
      have HI2 := hid hI
      clear hI HI
      rw [(limb_val m).2] at O2 hl2 AP
      rw [(limb_val m).2]
      generalize hZ : nd 10 (m / 4294967296) = Z at *
      have HZ := hid hZ
      clear hZ
      generalize Z.length = z at *
      have hov : ((m : Int) / 65536 % 65536 * 65536 + m % 65536) = ((m % 4294967296 : Nat) : Int) := by omega
      have HV := hid hov
      have HO3 := hid HO2.out
      clear hov HO2 HO HE
      go_wp2_with (at_builtin; refine wpl_append1 (w0 := w) rfl (.tmp 19) (.tmp 26) _ rfl 39 .u32 4 Try.underlying22 info_u32' _ (m % 4294967296) rfl rfl HV.out HO3.out hXT.out (by omega) (by simp only [maxLen]; omega) ?_; intro A3 c3 w3 ho3 hx3 hg3)
      go_roundw
      case rel =>
        refine ⟨j + 1, m / 4294967296, z, A3, A2, c3, c2, _, by omega, rfl, rfl, ?_, by omega, by omega, by rw [HZ.out]; exact O2.out.grown hg3.out AP.out, ho3, hx3⟩
        rw [HI2.out]; simp
      case measure => simp; omega
end Go.Proofs.Ytmfgcjjoagdamaa
