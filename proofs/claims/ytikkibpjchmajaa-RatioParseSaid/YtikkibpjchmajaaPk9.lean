/-
  The contracts of the document's answer for layer 1: trim, times.
  The contracts of the document's answer for layer 1: by, Small, Limbs.
  The contracts of the document's answer for layer 1: Cmp, Add, Sub.
-/
import Derived.Test.YtikkibpjchmajaaChecked
import Derived.Test.YtikkibpjchmajaaPk1
import Derived.Test.YtikkibpjchmajaaPk6
import Derived.Test.YtikkibpjchmajaaPk3
import Derived.Test.YtikkibpjchmajaaPk2
namespace Go.Proofs.Ytikkibpjchmajaa
open Go.RowKit
open Go.Lib (hid)

set_option maxHeartbeats 400000 in
theorem rtrim_any {w : World} {A : Option Addr} {n c : Nat} {zs : List Nat} (h : Sl .i64 w A n c zs) (hl : Lim 10 zs) :
    Calls Try.prog 89 #[.slice A n c] w fun e w' => e = .returned (.slice A (nd 10 (nv 10 zs)).length c) ∧ w = w' := by
  have hnm := h.max
  have hnc := h.cap
  unfold maxLen at hnm
  go_enter Try.func89, Try.ntmps89
  go_wp2
  go_loop [0] (fun s => ∃ m : Nat, m ≤ n ∧ s = .slice A m c ∧ ∀ j, m ≤ j → j < n → zs[j]? = some 0) (fun s => match s with | .slice _ m _ => m | _ => 0)
  case atStart => exact ⟨n, Nat.le_refl _, rfl, fun j h1 h2 => by omega⟩
  case round =>
    obtain ⟨m, hm, rfl, hz⟩ := hrel
    have HZ := hid hz
    clear hz
    have hlen := h.len
    have hfin : (m = 0 ∨ zs[m - 1]? ≠ some 0) → (nd 10 (nv 10 zs)).length = m := fun hd => by
      have := take_short (by omega) hl (m := m) (by omega) (fun j h1 h2 => HZ.out j h1 (by omega)) hd
      rw [← this, List.length_take]; omega
    by_cases hm0 : 0 < m
    · obtain ⟨b, o, rfl, hlt, hc⟩ := h.at_ (by omega)
      have hg : zs[m - 1]? = some (zs[m - 1]'(by omega)) := List.getElem?_eq_getElem _
      have hcell := hc _ _ hg
      generalize zs[m - 1]'(by omega) = z at hg hcell
      have HG := hid hg
      have HL := hid hlen
      have HF := hid hfin
      clear h hg hc hlen hfin
      go_wp2
      · have hz0 : z = 0 := by have h : ((z : Int) == 0) = true := by assumption
                               have := eq_of_beq h; omega
        go_round
        case rel =>
          refine ⟨m - 1, by omega, rfl, fun j h1 h2 => ?_⟩
          by_cases e : j = m - 1
          · rw [e, HG.out, hz0]
          · exact HZ.out j (by omega) h2
        case measure => simp; omega
      · have hz0 : z ≠ 0 := by have h : ((z : Int) == 0) = false := by assumption
                               intro e; rw [e] at h; simp at h
        go_ret
        refine ⟨?_, rfl⟩
        rw [HF.out (.inr (by rw [HG.out]; simpa using hz0))]
        rfl
    · obtain rfl : m = 0 := by omega
      have HF := hid hfin
      clear hfin
      go_wp2
      go_ret
      refine ⟨?_, rfl⟩
      rw [HF.out (by simp)]
      rfl

theorem Sl.rtrim {w : World} {A : Option Addr} {n c : Nat} {zs : List Nat} (h : Sl .i64 w A n c zs) (hl : Lim 10 zs) : Sl .i64 w A (nd 10 (nv 10 zs)).length c (nd 10 (nv 10 zs)) := by
  have h1 := nd_length_le (b := 10) (by omega) hl
  have h2 := h.take (m := (nd 10 (nv 10 zs)).length) (by have := h.len; omega)
  rwa [take_nd (by omega) hl] at h2
theorem Own.rtrim {w : World} {lo : Nat} {e : TypeId} {A : Option Addr} {n c : Nat} {zs : List Nat} (h : Own .i64 e w lo A n c zs) (hl : Lim 10 zs) : Own .i64 e w lo A (nd 10 (nv 10 zs)).length c (nd 10 (nv 10 zs)) := by
  have h1 := nd_length_le (b := 10) (by omega) hl
  have h2 := h.take (m := (nd 10 (nv 10 zs)).length) (by have := h.len; omega)
  rwa [take_nd (by omega) hl] at h2

theorem info_int : (Try.prog.info? 3).map (fun i => (i.zero, i.size, i.bytes)) = some (some (.int .i64 0), 1, 8) := by kernel_rfl
theorem size_int : (Try.prog.info? 3).map (·.size) = some 1 := by kernel_rfl

theorem times_step {b i cy k : Nat} {os xs : List Nat} {n more : Nat} (hol : os.length = i) (hinv : nv b os + b ^ i * cy = nv b (xs.take i) * n + more) (hk : k = cy + xs[i]?.getD 0 * n) :
    nv b (os ++ [k % b]) + b ^ (i + 1) * (k / b) = nv b (xs.take (i + 1)) * n + more := by
  rw [nv_append, hol, nv_take_succ, Nat.pow_succ, Nat.add_mul]
  have h0 : k % b + b * (k / b) = cy + xs[i]?.getD 0 * n := by rw [Nat.mod_add_div, hk]
  have h4 : b ^ i * (k % b + b * (k / b)) = b ^ i * (cy + xs[i]?.getD 0 * n) := by rw [h0]
  simp only [nv, Nat.mul_zero, Nat.add_zero, Nat.mul_add] at h4 ⊢
  rw [Nat.mul_assoc, Nat.mul_assoc]
  generalize b ^ i * cy = t1 at *
  generalize b ^ i * (b * (k / b)) = t2 at *
  generalize b ^ i * (k % b) = t3 at *
  generalize b ^ i * (xs[i]?.getD 0 * n) = t4 at *
  omega
theorem carry_step {b i k V : Nat} {os : List Nat} (hol : os.length = i) (hinv : nv b os + b ^ i * k = V) : nv b (os ++ [k % b]) + b ^ (i + 1) * (k / b) = V := by
  have h0 : k % b + b * (k / b) = k := Nat.mod_add_div k b
  have h4 : b ^ i * (k % b + b * (k / b)) = b ^ i * k := by rw [h0]
  rw [nv_append, hol, Nat.pow_succ]
  simp only [nv, Nat.mul_zero, Nat.add_zero, Nat.mul_add] at h4 ⊢
  rw [Nat.mul_assoc]
  omega

set_option maxHeartbeats 1600000 in
theorem rtimes_any {w : World} {A : Option Addr} {l c : Nat} {xs : List Nat} {n more : Nat} (h : Sl .i64 w A l c xs) (hl : Lim 10 xs) (hln : l ≤ 1099511627776) (hn : n ≤ 65536) (hm : more ≤ 65536) :
    Calls Try.prog 88 #[.slice A l c, .int .i64 n, .int .i64 more] w (RetO .i64 3 (nd 10 (nv 10 xs * n + more)) w) := by
  have H := hid h
  have HL := hid hl
  clear h hl
  go_enter Try.func88, Try.ntmps88
  go_wp2_with fail
  go_loopw [7, 8, 9] (fun so sc si wr => ∃ (i cy : Nat) (A' : Option Addr) (c' : Nat) (os : List Nat), i ≤ l ∧ si = .int .i64 i ∧ sc = .int .i64 cy ∧ so = .slice A' i c' ∧ cy ≤ 65536 ∧ Lim 10 os ∧
      nv 10 os + 10 ^ i * cy = nv 10 (xs.take i) * n + more ∧ Own .i64 3 wr w.heap.size A' i c' os ∧ Ext w wr) (fun _ _ si _ => l - (intOf si).toNat)
  case atStart => exact ⟨0, more, none, 0, [], Nat.zero_le _, rfl, rfl, rfl, hm, fun x hx => by simp at hx, by simp [nv], ⟨by simp, .inl ⟨rfl, rfl⟩⟩, Ext.refl _⟩
  case round =>
    obtain ⟨i, cy, A', c', os, hi, rfl, rfl, rfl, hcy, hos, hinv, ho, hx⟩ := hrel
    have H1 := hid (H.out.ext hx)
    have HE := hid hx
    have HI := hid hinv
    have HO := hid ho
    have HOS := hid hos
    clear hx hinv ho hos
    by_cases hlt : i < l
    · obtain ⟨ba, oa, rfl, g1⟩ := H1.out.get hlt
      have b1 := lim_getD (b := 10) (by omega) HL.out i
      have HK := hid (times_step (k := cy + xs[i]?.getD 0 * n) HO.out.len HI.out rfl)
      generalize xs[i]?.getD 0 = x at *
      have hxn : x * n ≤ 589824 := by have := Nat.mul_le_mul (show x ≤ 9 by omega) hn; omega
      have hlen := HO.out.len
      have hov : ((cy : Int) + x * n) % 10 = (((cy + x * n) % 10 : Nat) : Int) := by rw [← Int.natCast_mul]; omega
      have HV := hid hov
      clear hov hlen
      go_wp2_with (at_builtin; refine wpl_append1 (w0 := w) rfl (.tmp 25) (.tmp 28) _ rfl 3 .i64 8 Try.underlying33 info_int _ ((cy + x * n) % 10) rfl rfl HV.out HO.out HE.out (by omega) (by simp only [maxLen]; omega) ?_; intro A2 c2 w2 ho2 hx2 _)
      go_roundw
      case rel =>
        refine ⟨i + 1, (cy + x * n) / 10, A2, c2, _, by omega, by go_num, ?_, rfl, by omega, lim_append HOS.out (lim_one (Nat.mod_lt _ (by omega))), HK.out, ho2, hx2⟩
        rw [← Int.natCast_mul, show ((cy : Int) + ((x * n : Nat) : Int)) / 10 = (((cy + x * n) / 10 : Nat) : Int) from by omega]
      case measure => simp [intOf]; omega
    · obtain rfl : i = l := by omega
      have hxl : xs.take i = xs := List.take_of_length_le (by rw [H1.out.len]; omega)
      have hinv := HI.out
      rw [hxl] at hinv
      have HI2 := hid hinv
      have hol := HO.out.len
      have HOL := hid hol
      clear hxl hinv HI hol
      go_wp2_with fail
      go_loopw [7, 8] (fun so sc wr => ∃ (j cy : Nat) (A' : Option Addr) (c' : Nat) (os : List Nat), j + cy ≤ i + 65536 ∧ sc = .int .i64 cy ∧ so = .slice A' j c' ∧ Lim 10 os ∧
        nv 10 os + 10 ^ j * cy = nv 10 xs * n + more ∧ Own .i64 3 wr w.heap.size A' j c' os ∧ Ext w wr) (fun _ sc _ => (intOf sc).toNat)
      case atStart => exact ⟨i, cy, A', c', os, by omega, rfl, rfl, HOS.out, HI2.out, HO.out, HE.out⟩
      case round =>
        clear HI2 HO HOS HE HOL hcy hi
        obtain ⟨j, ck, B', d', ps, hj, rfl, rfl, hps, hinv, ho, hx⟩ := hrel
        have HE := hid hx
        have HI := hid hinv
        have HO := hid ho
        have HOS := hid hps
        clear hx hinv ho hps
        by_cases h0 : 0 < ck
        · have HK := hid (carry_step HO.out.len HI.out)
          have hov : (ck : Int) % 10 = ((ck % 10 : Nat) : Int) := by omega
          have HV := hid hov
          clear hov
          go_wp2_with (at_builtin; refine wpl_append1 (w0 := w) rfl (.tmp 34) (.tmp 37) _ rfl 3 .i64 8 Try.underlying33 info_int _ (ck % 10) rfl rfl HV.out HO.out HE.out (by omega) (by simp only [maxLen]; omega) ?_; intro A2 c2 w2 ho2 hx2 _)
          go_roundw
          case rel =>
            refine ⟨j + 1, ck / 10, A2, c2, _, by omega, ?_, rfl, lim_append HOS.out (lim_one (Nat.mod_lt _ (by omega))), HK.out, ho2, hx2⟩
            rw [show (ck : Int) / 10 = ((ck / 10 : Nat) : Int) from by omega]
          case measure => simp [intOf]; omega
        · obtain rfl : ck = 0 := by omega
          have hv : nv 10 ps = nv 10 xs * n + more := by have := HI.out; simpa using this
          have hs := hid (rtrim_any HO.out.sl HOS.out)
          have hsh := HO.out.rtrim HOS.out
          rw [hv] at hs hsh
          have HS := hid hsh
          clear hsh hv
          go_wp2_with (go_at_call 89; refine hs.out.mono ?_; rintro e w' ⟨rfl, rfl⟩)
          go_ret
          exact ⟨_, _, rfl, HS.out, HE.out⟩
theorem rtimes_int {w : World} {A : Option Addr} {l c : Nat} {xs : List Nat} (n more : Nat) {N M : Int} (hN : N = n) (hM : M = more) (h : Sl .i64 w A l c xs) (hl : Lim 10 xs) (hln : l ≤ 1099511627776) (hn : n ≤ 65536) (hm : more ≤ 65536) :
    Calls Try.prog 88 #[.slice A l c, .int .i64 N, .int .i64 M] w (RetO .i64 3 (nd 10 (nv 10 xs * n + more)) w) := by
  subst hN; subst hM
  exact rtimes_any h hl hln hn hm
end Go.Proofs.Ytikkibpjchmajaa

namespace Go.Proofs.Ytikkibpjchmajaa
open Go.RowKit
open Go.Lib (hid)

theorem by_step {j l rest n x V : Nat} {qs xs : List Nat} (hinv : nv 10 qs * n + rest = nv 10 (xs.drop (j + 1))) (hx : xs[j]?.getD 0 = x) (hj : j < xs.length) (hr : rest < n) (h10 : x < 10) :
    nv 10 (((rest * 10 + x) / n) :: qs) * n + (rest * 10 + x) % n = nv 10 (xs.drop j) ∧ (rest * 10 + x) / n < 10 := by
  rw [List.drop_eq_getElem_cons hj, nv_cons, nv_cons, ← hinv]
  rw [List.getElem?_eq_getElem hj] at hx
  have hx : xs[j] = x := hx
  rw [hx]
  have h1 := Nat.div_add_mod (rest * 10 + x) n
  constructor
  · rw [Nat.add_mul, Nat.mul_assoc, Nat.mul_comm _ n]
    generalize nv 10 qs * n = t at *
    generalize n * ((rest * 10 + x) / n) = t2 at *
    omega
  · rw [Nat.div_lt_iff_lt_mul (by omega)]; omega

theorem set_head {j d : Nat} {qs : List Nat} : (List.replicate (j + 1) 0 ++ qs).set j d = List.replicate j 0 ++ d :: qs := by
  rw [← List.replicate_append_replicate, List.append_assoc, List.set_append_right _ _ (by simp)]
  simp

set_option maxHeartbeats 1600000 in
theorem rby_any {w : World} {A : Option Addr} {l c : Nat} {xs : List Nat} {n : Nat} (h : Sl .i64 w A l c xs) (hl : Lim 10 xs) (hln : l ≤ 1099511627776) (hn : n ≤ 65536) (hn0 : 0 < n) :
    Calls Try.prog 92 #[.slice A l c, .int .i64 n] w (RetOE .i64 3 (nd 10 (nv 10 xs / n)) ((nv 10 xs % n : Nat) : Int) w) := by
  have H := hid h
  have HL := hid hl
  clear h hl
  have hne : ((n : Int) == 0) = false := beq_eq_false_iff_ne.2 (by omega)
  go_enter Try.func92, Try.ntmps92
  go_wp2_with (at_make; refine wpl_make (w0 := w) (Ext.refl _) rfl (.tmp 10) (.tmp 10) _ rfl 3 .i64 8 Try.underlying33 info_int _ l rfl rfl rfl (by omega) (by simp only [maxLen]; omega) ?_; intro g w1 hg1 ho1 hx1)
  go_loopw [7, 8] (fun sr si wr => ∃ (j rest : Nat) (qs : List Nat), j ≤ l ∧ si = .int .i64 ((j : Int) - 1) ∧ sr = .int .i64 rest ∧ rest < n ∧ qs.length = l - j ∧ Lim 10 qs ∧
      nv 10 qs * n + rest = nv 10 (xs.drop j) ∧ Own .i64 3 wr w.heap.size (some ⟨g, 0, none⟩) l l (List.replicate j 0 ++ qs) ∧ Ext w wr) (fun _ si _ => (intOf si + 1).toNat)
  case atStart =>
    exact ⟨l, 0, [], Nat.le_refl _, rfl, rfl, hn0, by simp, fun x hx => by simp at hx, by rw [List.drop_eq_nil_of_le (by rw [H.out.len]; omega)]; simp [nv], by simpa using ho1, hx1⟩
  case round =>
    obtain ⟨j, rest, qs, hj, rfl, rfl, hr, hql, hqs, hinv, ho, hx⟩ := hrel
    have H1 := hid (H.out.ext hx)
    have HE := hid hx
    have HI := hid hinv
    have HO := hid ho
    have HQ := hid hqs
    have HQL := hid hql
    clear hx hinv ho hqs hql ho1 hx1
    rcases Nat.eq_zero_or_pos j with h0 | h0
    · subst h0
      have ho := HO.out
      simp only [List.replicate_zero, List.nil_append] at ho
      have hv : nv 10 qs * n + rest = nv 10 xs := by have := HI.out; simpa using this
      have hq : nv 10 qs = nv 10 xs / n := by rw [← hv, Nat.mul_comm, Nat.mul_add_div hn0, Nat.div_eq_of_lt hr, Nat.add_zero]
      have hm : rest = nv 10 xs % n := by rw [← hv, Nat.mul_comm, Nat.mul_add_mod, Nat.mod_eq_of_lt hr]
      have hs := hid (rtrim_any ho.sl HQ.out)
      have hsh := ho.rtrim HQ.out
      rw [hq] at hs hsh
      have HS := hid hsh
      have HM := hid hm
      clear hsh hv hq hm ho
      go_wp2_with (go_at_call 89; refine hs.out.mono ?_; rintro e w' ⟨rfl, rfl⟩)
      go_ret2
      refine ⟨_, _, ?_, HS.out, HE.out⟩
      rw [← HM.out]; rfl
    · obtain ⟨i, rfl⟩ : ∃ i, j = i + 1 := ⟨j - 1, by omega⟩
      obtain ⟨ba, oa, rfl, g1⟩ := H1.out.get (i := i) (by omega)
      have b1 := lim_getD (b := 10) (by omega) HL.out i
      have g0 := HO.out.cell (i := i) (by omega)
      have gf := HO.out.frozen i
      have HK := hid (by_step (l := l) (V := 0) HI.out rfl (by rw [H1.out.len]; omega) hr b1)
      have hset := HO.out.set i ((rest * 10 + xs[i]?.getD 0) / n)
      rw [set_head] at hset
      have HS := hid hset
      clear hset
      generalize xs[i]?.getD 0 = x at *
      generalize (List.replicate (i + 1) 0 ++ qs)[i]?.getD 0 = z at *
      have hr0 : 0 ≤ (rest : Int) * 10 + x := by omega
      have e1 : ((rest : Int) * 10 + x) % n = (((rest * 10 + x) % n : Nat) : Int) := by
        rw [Int.natCast_emod]; rfl
      have e2 : ((rest : Int) * 10 + x) / n = (((rest * 10 + x) / n : Nat) : Int) := by
        rw [Int.natCast_ediv]; rfl
      have E1 := hid e1
      have E2 := hid e2
      clear e1 e2
      go_wp2_with fail
      rw [E1.out, E2.out]
      obtain ⟨k1, k2⟩ := HK.out
      exact ⟨⟨i, _, _, by omega, rfl, rfl, Nat.mod_lt _ hn0, by rw [List.length_cons, HQL.out]; omega, fun y hy => by
        rcases List.mem_cons.1 hy with rfl | hy
        · exact k2
        · exact HQ.out y hy, k1, HS.out, HE.out.setCell hg1 _⟩, by simp [intOf]⟩

set_option maxHeartbeats 1600000 in
theorem rsmall_any {w : World} {n : Nat} (hn : n < 18446744073709551616) :
    Calls Try.prog 64 #[.int .u64 n] w (RetO .i64 3 (nd 10 n) w) := by
  go_enter Try.func64, Try.ntmps64
  go_wp2_with fail
  go_loopw [0, 3] (fun sn so wr => ∃ (j m : Nat) (A' : Option Addr) (c' : Nat) (os : List Nat), j + m ≤ n ∧ sn = .int .u64 m ∧ so = .slice A' j c' ∧ nd 10 n = os ++ nd 10 m ∧ j ≤ 100 ∧ m * 10 ^ j < 18446744073709551616 ∧
      Own .i64 3 wr w.heap.size A' j c' os ∧ Ext w wr) (fun sn _ _ => (intOf sn).toNat)
  case atStart => exact ⟨0, n, none, 0, [], by omega, rfl, rfl, rfl, by omega, by simpa using hn, ⟨by simp, .inl ⟨rfl, rfl⟩⟩, Ext.refl _⟩
  case round =>
    obtain ⟨j, m, A', c', os, hj, rfl, rfl, hinv, hj1, hj2, ho, hx⟩ := hrel
    have HE := hid hx
    have HI := hid hinv
    have HO := hid ho
    have HJ := hid hj2
    clear hx hinv ho hj2
    by_cases h0 : 0 < m
    · have hI := HI.out
      rw [nd_pos (by omega) (show m ≠ 0 by omega)] at hI
      have HI2 := hid hI
      have hmn : m < 18446744073709551616 := by
        have := HJ.out
        have h1 : 1 ≤ 10 ^ j := Nat.pow_pos (by omega)
        have h2 : m * 1 ≤ m * 10 ^ j := Nat.mul_le_mul_left _ h1
        omega
      have hj3 : j + 1 ≤ 100 := by
        rcases Nat.lt_or_ge j 99 with h | h
        · omega
        · have h1 : 10 ^ 99 ≤ 10 ^ j := Nat.pow_le_pow_right (by omega) h
          have h2 : 1 * 10 ^ j ≤ m * 10 ^ j := Nat.mul_le_mul_right _ h0
          have h3 := HJ.out
          omega
      have hj4 : (m / 10) * 10 ^ (j + 1) < 18446744073709551616 := by
        have h3 := HJ.out
        have h4 : m / 10 * 10 ≤ m := Nat.div_mul_le_self m 10
        rw [Nat.pow_succ, Nat.mul_comm (10 ^ j), ← Nat.mul_assoc]
        exact Nat.lt_of_le_of_lt (Nat.mul_le_mul_right _ h4) h3
      have HJ4 := hid hj4
      have hov : (m : Int) % 10 = ((m % 10 : Nat) : Int) := by omega
      have HV := hid hov
      clear hov hI HI hj4
      go_wp2_with (at_builtin; refine wpl_append1 (w0 := w) rfl (.tmp 6) (.tmp 10) _ rfl 3 .i64 8 Try.underlying33 info_int _ (m % 10) rfl rfl HV.out HO.out HE.out (by omega) (by simp only [maxLen]; omega) ?_; intro A2 c2 w2 ho2 hx2 _)
      go_roundw
      case rel =>
        refine ⟨j + 1, m / 10, A2, c2, _, by omega, ?_, rfl, ?_, by omega, HJ4.out, ho2, hx2⟩
        · rw [show (m : Int) / 10 = ((m / 10 : Nat) : Int) from by omega]
        · rw [HI2.out]; simp
      case measure => simp [intOf]; omega
    · obtain rfl : m = 0 := by omega
      have hI := HI.out
      rw [nd_zero, List.append_nil] at hI
      have ho := HO.out
      rw [← hI] at ho
      have HL2 := hid ho.len
      have HO2 := hid ho
      clear hI HI ho HO
      go_wp2_with fail
      go_ret
      have hl := HL2.out
      subst hl
      exact ⟨_, _, rfl, HO2.out, HE.out⟩

theorem info_u32' : (Try.prog.info? 100).map (fun i => (i.zero, i.size, i.bytes)) = some (some (.int .u32 0), 1, 4) := by kernel_rfl

theorem limb_val (V : Nat) : V / 65536 % 65536 * 65536 + V % 65536 = V % 4294967296 ∧ V / 65536 / 65536 = V / 4294967296 := by omega

set_option maxHeartbeats 1600000 in
theorem rlimbs_any {w : World} {A : Option Addr} {l c : Nat} {V : Nat} (h : Sl .i64 w A l c (nd 10 V)) (hln : l ≤ 1099511627776) :
    Calls Try.prog 69 #[.slice A l c] w (RetO .u32 100 (nd 4294967296 V) w) := by
  go_enter Try.func69, Try.ntmps69
  go_wp2_with fail
  go_loopw [0, 3] (fun sd so wr => ∃ (j m l' : Nat) (A' B' : Option Addr) (c' d' : Nat) (os : List Nat), j + m ≤ V ∧ sd = .slice B' l' d' ∧ so = .slice A' j c' ∧ nd 4294967296 V = os ++ nd 4294967296 m ∧ l' ≤ 1099511627776 ∧ j + l' ≤ 1099511627776 ∧
      Sl .i64 wr B' l' d' (nd 10 m) ∧ Own .u32 100 wr w.heap.size A' j c' os ∧ Ext w wr) (fun sd _ _ => match sd with | .slice _ m _ => m | _ => 0)
  case atStart => exact ⟨0, V, l, none, A, 0, c, [], by omega, rfl, rfl, rfl, hln, by omega, h, ⟨by simp, .inl ⟨rfl, rfl⟩⟩, Ext.refl _⟩
  case round =>
    obtain ⟨j, m, l', A', B', c', d', os, hj, rfl, rfl, hinv, hl', hjl, hd, ho, hx⟩ := hrel
    have HE := hid hx
    have HI := hid hinv
    have HO := hid ho
    have HD := hid hd
    have hlen : l' = (nd 10 m).length := hd.len.symm
    clear hx hinv ho hd h
    by_cases h0 : m = 0
    · subst h0
      have hl0 : l' = 0 := hlen
      clear hlen
      subst hl0
      have hI := HI.out
      rw [nd_zero, List.append_nil] at hI
      have ho := HO.out
      rw [← hI] at ho
      have HL2 := hid ho.len
      have HO2 := hid ho
      clear hI HI ho HO
      go_wp2_with fail
      go_ret
      have hl := HL2.out
      subst hl
      exact ⟨_, _, rfl, HO2.out, HE.out⟩
    · have hp : 0 < l' := by
        rcases Nat.eq_zero_or_pos l' with h | h
        · rw [h] at hlen
          exact absurd ((nd_eq_nil (by omega)).1 (List.eq_nil_of_length_eq_zero hlen.symm)) h0
        · exact h
      have HL := hid hlen
      clear hlen
      have b1 := hid (rby_any (n := 65536) HD.out (nd_lim (by omega) m) hl' (by omega) (by omega))
      rw [nv_nd (by omega)] at b1
      go_wp2_with fail
      refine b1.out.mono ?_
      rintro E w1 ⟨A1, c1, rfl, o1, x1⟩
      have hl1 : (nd 10 (m / 65536)).length ≤ l' := by rw [HL.out]; exact nd_len_mono (by omega) (Nat.div_le_self _ _)
      have b2 := hid (rby_any (n := 65536) o1.sl (nd_lim (by omega) _) (by omega) (by omega) (by omega))
      rw [nv_nd (by omega)] at b2
      have X1 := hid x1
      clear b1 o1 x1
      go_wp2_with fail
      refine b2.out.mono ?_
      rintro E w2 ⟨A2, c2, rfl, o2, x2⟩
      have hl2 : (nd 10 (m / 65536 / 65536)).length < l' := by
        rw [HL.out]
        have e : m / 65536 / 65536 = m / 10 / 429496729 - (m / 10 / 429496729 - m / 65536 / 65536) := by omega
        exact Nat.lt_of_le_of_lt (nd_len_mono (b := 10) (by omega) (show m / 65536 / 65536 ≤ m / 10 by omega)) (by rw [nd_pos (n := m) (by omega) h0]; simp)
      have AP := hid (Own.apart HO.out o2 X1.out.size)
      have hXT := hid ((HE.out.trans X1.out).trans x2)
      have O2 := hid o2.sl
      have HO2 := hid ((HO.out.ext X1.out).ext x2)
      clear b2 o2 x2 X1
      have hI := HI.out
      rw [nd_pos (by omega) h0] at hI
      have HI2 := hid hI
      clear hI HI
      rw [(limb_val m).2] at O2 hl2 AP
      rw [(limb_val m).2]
      generalize hZ : nd 10 (m / 4294967296) = Z at *
      have HZ := hid hZ
      clear hZ
      generalize Z.length = z at *
      have hov : ((m : Int) / 65536 % 65536 * 65536 + m % 65536) = ((m % 4294967296 : Nat) : Int) := by omega
      have HV := hid hov
      have HO3 := hid HO2.out
      clear hov HO2 HO HE
      go_wp2_with (at_builtin; refine wpl_append1 (w0 := w) rfl (.tmp 19) (.tmp 26) _ rfl 100 .u32 4 Try.underlying22 info_u32' _ (m % 4294967296) rfl rfl HV.out HO3.out hXT.out (by omega) (by simp only [maxLen]; omega) ?_; intro A3 c3 w3 ho3 hx3 hg3)
      go_roundw
      case rel =>
        refine ⟨j + 1, m / 4294967296, z, A3, A2, c3, c2, _, by omega, rfl, rfl, ?_, by omega, by omega, by rw [HZ.out]; exact O2.out.grown hg3.out AP.out, ho3, hx3⟩
        rw [HI2.out]; simp
      case measure => simp; omega
end Go.Proofs.Ytikkibpjchmajaa

namespace Go.Proofs.Ytikkibpjchmajaa
open Go.RowKit
open Go.Lib (hid)

set_option maxHeartbeats 1600000 in
theorem rcmp_any {w : World} {A A' : Option Addr} {n c n' c' p q : Nat} (h : Sl .i64 w A n c (nd 10 p)) (h' : Sl .i64 w A' n' c' (nd 10 q)) (hn : n ≤ 1099511627776) (hn' : n' ≤ 1099511627776) :
    Calls Try.prog 90 #[.slice A n c, .slice A' n' c'] w (RetE (.int .i64 (cmpN p q)) w) := by
  have e1 : nv 10 (nd 10 p) = p := nv_nd (by omega) p
  have e2 : nv 10 (nd 10 q) = q := nv_nd (by omega) q
  have k1 := canon_nd (b := 10) (by omega) p
  have k2 := canon_nd (b := 10) (by omega) q
  generalize nd 10 p = X at *
  generalize nd 10 q = Y at *
  subst e1
  subst e2
  have K1 := hid k1
  have K2 := hid k2
  clear k1 k2
  have HX := hid h.len
  have HY := hid h'.len
  have H := hid h
  have H' := hid h'
  clear h h'
  rcases Nat.lt_trichotomy n n' with hlt | heq | hgt
  · have hv : cmpN (nv 10 X) (nv 10 Y) = -1 := cmpN_lt (nv_lt_len (by omega) K1.out.1 K2.out (by rw [HX.out, HY.out]; exact hlt))
    rw [hv]
    clear hv
    have hb : ((n : Int) != (n' : Int)) = true := by rw [bne_iff_ne]; omega
    go_enter Try.func90, Try.ntmps90
    go_wp2_with fail
    go_ret
    exact ⟨rfl, Ext.refl _⟩
  · subst heq
    go_enter Try.func90, Try.ntmps90
    go_wp2_with fail
    go_loopw [5] (fun s wr => ∃ j : Nat, j ≤ n ∧ s = .int .i64 ((j : Int) - 1) ∧ X.drop j = Y.drop j ∧ Ext w wr) (fun s _ => (intOf s + 1).toNat)
    case atStart => exact ⟨n, Nat.le_refl _, rfl, by rw [List.drop_eq_nil_of_le (by rw [HX.out]; omega), List.drop_eq_nil_of_le (by rw [HY.out]; omega)], Ext.refl _⟩
    case round =>
      obtain ⟨j, hj, rfl, hd, hx⟩ := hrel
      have HD := hid hd
      have H1 := hid (H.out.ext hx)
      have H2 := hid (H'.out.ext hx)
      have HE := hid hx
      clear hd hx
      rcases Nat.eq_zero_or_pos j with h0 | h0
      · subst h0
        have hxy : X = Y := by have := HD.out; simpa using this
        have hv : cmpN (nv 10 X) (nv 10 Y) = 0 := by rw [hxy]; exact cmpN_eq _
        have hv := hid hv
        clear hxy
        go_wp2_with (go_quiet (fail))
        go_ret
        exact ⟨by rw [hv.out]; rfl, HE.out⟩
      · obtain ⟨i, rfl⟩ : ∃ i, j = i + 1 := ⟨j - 1, by omega⟩
        obtain ⟨b1, o1, rfl, g1⟩ := H1.out.get (i := i) (by omega)
        obtain ⟨b2, o2, rfl, g2⟩ := H2.out.get (i := i) (by omega)
        have HS := hid (fun e : X[i]?.getD 0 = Y[i]?.getD 0 => drop_step (by rw [HX.out, HY.out]) HD.out e)
        have HL := hid (fun e : X[i]?.getD 0 < Y[i]?.getD 0 => nv_lt_at (b := 10) (by omega) K1.out.1 HD.out (by rw [HX.out, HY.out]) e)
        have HG := hid (fun e : Y[i]?.getD 0 < X[i]?.getD 0 => nv_lt_at (b := 10) (by omega) K2.out.1 HD.out.symm (by rw [HX.out, HY.out]) e)
        generalize X[i]?.getD 0 = x at *
        generalize Y[i]?.getD 0 = y at *
        have hb0 : (0 : Int) ≤ (i : Int) := by omega
        have hb1 : (i : Int) < (n : Int) := by omega
        rcases Nat.lt_trichotomy x y with hc | hc | hc
        · have hc' : (x : Int) < (y : Int) := by omega
          have hv := hid (cmpN_lt (HL.out hc))
          clear HS HL HG
          go_wp2_with (go_quiet (fail))
          go_ret
          exact ⟨by rw [hv.out]; rfl, HE.out.drewN _⟩
        · subst hc
          have hv := hid (HS.out rfl)
          clear HS HL HG
          go_wp2_with (go_quiet (fail))
          go_roundw
          case rel => exact ⟨i, by omega, by first | rfl | go_num, hv.out, by first | exact HE.out.drewN _ | exact (HE.out.drewN _).drewN _⟩
          case measure => simp [intOf]
        · have hc' : (y : Int) < (x : Int) := by omega
          have hc'' : ¬ (x : Int) < (y : Int) := by omega
          have hv := hid (cmpN_gt (HG.out hc))
          clear HS HL HG
          go_wp2_with (go_quiet (fail))
          go_ret
          exact ⟨by rw [hv.out]; rfl, by first | exact HE.out.drewN _ | exact (HE.out.drewN _).drewN _⟩
  · have hv : cmpN (nv 10 X) (nv 10 Y) = 1 := cmpN_gt (nv_lt_len (by omega) K2.out.1 K1.out (by rw [HX.out, HY.out]; exact hgt))
    rw [hv]
    clear hv
    have hb : ((n : Int) != (n' : Int)) = true := by rw [bne_iff_ne]; omega
    have hng : ¬ n < n' := by omega
    go_enter Try.func90, Try.ntmps90
    go_wp2_with fail
    go_ret
    exact ⟨rfl, Ext.refl _⟩
theorem radd_end {b m cy : Nat} {os xs ys : List Nat} (hx : xs.length ≤ m) (hy : ys.length ≤ m) (h0 : cy = 0) (hinv : nv b os + b ^ m * cy = nv b (xs.take m) + nv b (ys.take m)) : nv b os = nv b xs + nv b ys := by
  rw [List.take_of_length_le hx, List.take_of_length_le hy] at hinv
  subst h0
  simpa using hinv

theorem add_cast (cy x y : Nat) : ((cy : Int) + x + y) % 10 = (((cy + x + y) % 10 : Nat) : Int) ∧ ((cy : Int) + x + y) / 10 = (((cy + x + y) / 10 : Nat) : Int) := by omega
theorem add_cast' (cy x : Nat) : ((cy : Int) + x) % 10 = (((cy + x) % 10 : Nat) : Int) ∧ ((cy : Int) + x) / 10 = (((cy + x) / 10 : Nat) : Int) := by omega
theorem add_cast'' (cy : Nat) : (cy : Int) % 10 = ((cy % 10 : Nat) : Int) ∧ (cy : Int) / 10 = ((cy / 10 : Nat) : Int) := by omega

set_option maxHeartbeats 3200000 in
theorem radd_any {w : World} {A B : Option Addr} {n c n' c' p q : Nat} (h : Sl .i64 w A n c (nd 10 p)) (h' : Sl .i64 w B n' c' (nd 10 q)) (hn : n ≤ 1099511627776) (hn' : n' ≤ 1099511627776) :
    Calls Try.prog 65 #[.slice A n c, .slice B n' c'] w (RetO .i64 3 (nd 10 (p + q)) w) := by
  have e1 : nv 10 (nd 10 p) = p := nv_nd (by omega) p
  have e2 : nv 10 (nd 10 q) = q := nv_nd (by omega) q
  have k1 := hid (nd_lim (b := 10) (by omega) p)
  have k2 := hid (nd_lim (b := 10) (by omega) q)
  generalize nd 10 p = X at *
  generalize nd 10 q = Y at *
  subst e1
  subst e2
  obtain ⟨m, hm1, hm2, hm3⟩ : ∃ m, n ≤ m ∧ n' ≤ m ∧ m ≤ 1099511627776 := ⟨max n n', by omega, by omega, by omega⟩
  have H := hid h
  have H' := hid h'
  clear h h'
  go_enter Try.func65, Try.ntmps65
  go_wp2_with fail
  go_loopw [5, 6, 7] (fun so sc si wr => ∃ (i cy : Nat) (A' : Option Addr) (d : Nat) (os : List Nat), i ≤ m + 1 ∧ (i = m + 1 → cy = 0) ∧ so = .slice A' i d ∧ sc = .int .i64 cy ∧ si = .int .i64 i ∧ cy ≤ 1 ∧ Lim 10 os ∧
      nv 10 os + 10 ^ i * cy = nv 10 (X.take i) + nv 10 (Y.take i) ∧ Own .i64 3 wr w.heap.size A' i d os ∧ Ext w wr) (fun _ _ si _ => m + 2 - (intOf si).toNat)
  case atStart => exact ⟨0, 0, none, 0, [], by omega, fun _ => rfl, rfl, rfl, rfl, by omega, fun x hx => by simp at hx, by simp [nv], ⟨by simp, .inl ⟨rfl, rfl⟩⟩, Ext.refl _⟩
  case round =>
    obtain ⟨i, cy, A', d, os, hi, hi2, rfl, rfl, rfl, hcy, hos, hinv, ho, hx⟩ := hrel
    have H1 := hid (H.out.ext hx)
    have H2 := hid (H'.out.ext hx)
    have HE := hid hx
    have HI := hid hinv
    have HO := hid ho
    have HOS := hid hos
    have HI2 := hid hi2
    have HOL := hid ho.len
    clear hx hinv ho hos hi2
    have b1 := lim_getD (b := 10) (by omega) k1.out i
    have b2 := lim_getD (b := 10) (by omega) k2.out i
    by_cases hend : n ≤ i ∧ n' ≤ i ∧ cy = 0
    · obtain ⟨hA, hB, rfl⟩ := hend
      have hv := radd_end (b := 10) (m := i) (by rw [H1.out.len]; exact hA) (by rw [H2.out.len]; exact hB) rfl HI.out
      have hs := hid (rtrim_any HO.out.sl HOS.out)
      have hsh := HO.out.rtrim HOS.out
      rw [hv] at hs hsh
      have HS := hid hsh
      clear hsh hv b1 b2
      have g1 : ¬ i < n := by omega
      have g2 : ¬ i < n' := by omega
      go_wp2_with (go_at_call 89; refine hs.out.mono ?_; rintro e w' ⟨rfl, rfl⟩)
      go_ret
      exact ⟨_, _, rfl, HS.out, HE.out⟩
    · have him : i ≤ m := by
        rcases Nat.lt_or_ge m i with h | h
        · have := HI2.out (by omega); omega
        · exact h
      have hstep : ∀ t, t = cy + X[i]?.getD 0 + Y[i]?.getD 0 → nv 10 (os ++ [t % 10]) + 10 ^ (i + 1) * (t / 10) = nv 10 (X.take (i + 1)) + nv 10 (Y.take (i + 1)) := fun t ht =>
        add_step HOL.out HI.out (by omega)
      have HST := hid hstep
      have hx0 : ¬ i < n → X[i]?.getD 0 = 0 := fun h => by rw [List.getElem?_eq_none (by rw [H1.out.len]; omega)]; rfl
      have hy0 : ¬ i < n' → Y[i]?.getD 0 = 0 := fun h => by rw [List.getElem?_eq_none (by rw [H2.out.len]; omega)]; rfl
      have HX0 := hid hx0
      have HY0 := hid hy0
      clear hstep hx0 hy0
      by_cases g1 : i < n
      · obtain ⟨ba, oa, rfl, gx⟩ := H1.out.get g1
        by_cases g2 : i < n'
        · obtain ⟨bb, ob, rfl, gy⟩ := H2.out.get g2
          generalize X[i]?.getD 0 = x at *
          generalize Y[i]?.getD 0 = y at *
          have HV := hid (add_cast cy x y)
          go_wp2_with (at_builtin; refine wpl_append1 (w0 := w) rfl (.tmp 44) (.tmp 47) _ rfl 3 .i64 8 Try.underlying33 info_int _ ((cy + x + y) % 10) rfl rfl HV.out.1 HO.out HE.out (by omega) (by simp only [maxLen]; omega) ?_; intro A2 c2 w2 ho2 hx2 _)
          go_roundw
          case rel => exact ⟨i + 1, (cy + x + y) / 10, A2, c2, _, by omega, fun h => by omega, rfl, by rw [HV.out.2], by go_num, by omega, lim_append HOS.out (lim_one (Nat.mod_lt _ (by omega))), HST.out _ rfl, ho2, hx2⟩
          case measure => simp [intOf]; omega
        · have hy0 := HY0.out g2
          rw [hy0] at HST
          generalize X[i]?.getD 0 = x at *
          have HV := hid (add_cast' cy x)
          clear hy0 b2
          go_wp2_with (at_builtin; refine wpl_append1 (w0 := w) rfl (.tmp 44) (.tmp 47) _ rfl 3 .i64 8 Try.underlying33 info_int _ ((cy + x) % 10) rfl rfl HV.out.1 HO.out HE.out (by omega) (by simp only [maxLen]; omega) ?_; intro A2 c2 w2 ho2 hx2 _)
          go_roundw
          case rel => exact ⟨i + 1, (cy + x) / 10, A2, c2, _, by omega, fun h => by omega, rfl, by rw [HV.out.2], by go_num, by omega, lim_append HOS.out (lim_one (Nat.mod_lt _ (by omega))), HST.out _ rfl, ho2, hx2⟩
          case measure => simp [intOf]; omega
      · have hx0 := HX0.out g1
        rw [hx0] at HST
        clear hx0 b1
        by_cases g2 : i < n'
        · obtain ⟨bb, ob, rfl, gy⟩ := H2.out.get g2
          generalize Y[i]?.getD 0 = y at *
          have HV := hid (add_cast' cy y)
          go_wp2_with (at_builtin; refine wpl_append1 (w0 := w) rfl (.tmp 44) (.tmp 47) _ rfl 3 .i64 8 Try.underlying33 info_int _ ((cy + y) % 10) rfl rfl HV.out.1 HO.out HE.out (by omega) (by simp only [maxLen]; omega) ?_; intro A2 c2 w2 ho2 hx2 _)
          go_roundw
          case rel => exact ⟨i + 1, (cy + y) / 10, A2, c2, _, by omega, fun h => by omega, rfl, by rw [HV.out.2], by go_num, by omega, lim_append HOS.out (lim_one (Nat.mod_lt _ (by omega))), HST.out _ rfl, ho2, hx2⟩
          case measure => simp [intOf]; omega
        · have hy0 := HY0.out g2
          rw [hy0] at HST
          have hcp : 0 < cy := by omega
          have HV := hid (add_cast'' cy)
          clear hy0 b2
          go_wp2_with (at_builtin; refine wpl_append1 (w0 := w) rfl (.tmp 44) (.tmp 47) _ rfl 3 .i64 8 Try.underlying33 info_int _ (cy % 10) rfl rfl HV.out.1 HO.out HE.out (by omega) (by simp only [maxLen]; omega) ?_; intro A2 c2 w2 ho2 hx2 _)
          go_roundw
          case rel => exact ⟨i + 1, cy / 10, A2, c2, _, by omega, fun h => by omega, rfl, by rw [HV.out.2], by go_num, by omega, lim_append HOS.out (lim_one (Nat.mod_lt _ (by omega))), HST.out _ rfl, ho2, hx2⟩
          case measure => simp [intOf]; omega

set_option maxHeartbeats 3200000 in
theorem rsub_any {w : World} {A B : Option Addr} {n c n' c' p q : Nat} (h : Sl .i64 w A n c (nd 10 p)) (h' : Sl .i64 w B n' c' (nd 10 q)) (hn : n ≤ 1099511627776) (hn' : n' ≤ 1099511627776) (hle : q ≤ p) :
    Calls Try.prog 91 #[.slice A n c, .slice B n' c'] w (RetO .i64 3 (nd 10 (p - q)) w) := by
  have hlen : n' ≤ n := by rw [← h.len, ← h'.len]; exact nd_len_mono (by omega) hle
  have e1 : nv 10 (nd 10 p) = p := nv_nd (by omega) p
  have e2 : nv 10 (nd 10 q) = q := nv_nd (by omega) q
  have k1 := hid (nd_lim (b := 10) (by omega) p)
  have k2 := hid (nd_lim (b := 10) (by omega) q)
  generalize nd 10 p = X at *
  generalize nd 10 q = Y at *
  subst e1
  subst e2
  have HLE := hid hle
  have H := hid h
  have H' := hid h'
  clear h h' hle
  go_enter Try.func91, Try.ntmps91
  go_wp2_with fail
  go_loopw [5, 6, 7] (fun so sc si wr => ∃ (i bw : Nat) (A' : Option Addr) (d : Nat) (os : List Nat), i ≤ n ∧ so = .slice A' i d ∧ sc = .int .i64 bw ∧ si = .int .i64 i ∧ bw ≤ 1 ∧ Lim 10 os ∧
      nv 10 os + nv 10 (Y.take i) = nv 10 (X.take i) + 10 ^ i * bw ∧ Own .i64 3 wr w.heap.size A' i d os ∧ Ext w wr) (fun _ _ si _ => n - (intOf si).toNat)
  case atStart => exact ⟨0, 0, none, 0, [], by omega, rfl, rfl, rfl, by omega, fun x hx => by simp at hx, by simp [nv], ⟨by simp, .inl ⟨rfl, rfl⟩⟩, Ext.refl _⟩
  case round =>
    obtain ⟨i, bw, A', d, os, hi, rfl, rfl, rfl, hbw, hos, hinv, ho, hx⟩ := hrel
    have H1 := hid (H.out.ext hx)
    have H2 := hid (H'.out.ext hx)
    have HE := hid hx
    have HI := hid hinv
    have HO := hid ho
    have HOS := hid hos
    have HOL := hid ho.len
    clear hx hinv ho hos
    by_cases g1 : i < n
    · have b1 := lim_getD (b := 10) (by omega) k1.out i
      have b2 := lim_getD (b := 10) (by omega) k2.out i
      have HST := hid (fun (d bw' : Nat) (hd : d + Y[i]?.getD 0 + bw = X[i]?.getD 0 + 10 * bw') => sub_step (b := 10) HOL.out HI.out hd)
      have hy0 : ¬ i < n' → Y[i]?.getD 0 = 0 := fun h => by rw [List.getElem?_eq_none (by rw [H2.out.len]; omega)]; rfl
      have HY0 := hid hy0
      clear hy0
      obtain ⟨ba, oa, rfl, gx⟩ := H1.out.get g1
      by_cases g2 : i < n'
      · obtain ⟨bb, ob, rfl, gy⟩ := H2.out.get g2
        generalize X[i]?.getD 0 = x at *
        generalize Y[i]?.getD 0 = y at *
        by_cases hneg : x < bw + y
        · have hneg' : (x : Int) - bw - y < 0 := by omega
          have HV : Hid ((x : Int) - bw - y + 10 = ((x + 10 - bw - y : Nat) : Int)) := by show _ = _; omega
          go_wp2_with (at_builtin; refine wpl_append1 (w0 := w) rfl (.tmp 35) (.tmp 37) _ rfl 3 .i64 8 Try.underlying33 info_int _ (x + 10 - bw - y) rfl rfl HV.out HO.out HE.out (by omega) (by simp only [maxLen]; omega) ?_; intro A2 c2 w2 ho2 hx2 _)
          go_roundw
          case rel => exact ⟨i + 1, 1, A2, c2, _, by omega, rfl, rfl, by go_num, by omega, lim_append HOS.out (lim_one (by omega)), HST.out _ _ (by omega), ho2, hx2⟩
          case measure => simp [intOf]; omega
        · have hneg' : ¬ (x : Int) - bw - y < 0 := by omega
          have HV : Hid ((x : Int) - bw - y = ((x - bw - y : Nat) : Int)) := by show _ = _; omega
          go_wp2_with (at_builtin; refine wpl_append1 (w0 := w) rfl (.tmp 35) (.tmp 37) _ rfl 3 .i64 8 Try.underlying33 info_int _ (x - bw - y) rfl rfl HV.out HO.out HE.out (by omega) (by simp only [maxLen]; omega) ?_; intro A2 c2 w2 ho2 hx2 _)
          go_roundw
          case rel => exact ⟨i + 1, 0, A2, c2, _, by omega, rfl, rfl, by go_num, by omega, lim_append HOS.out (lim_one (by omega)), HST.out _ _ (by omega), ho2, hx2⟩
          case measure => simp [intOf]; omega
      · have hy0 := HY0.out g2
        rw [hy0] at HST
        clear hy0 b2
        generalize X[i]?.getD 0 = x at *
        by_cases hneg : x < bw
        · have hneg' : (x : Int) - bw < 0 := by omega
          have HV : Hid ((x : Int) - bw + 10 = ((x + 10 - bw : Nat) : Int)) := by show _ = _; omega
          go_wp2_with (at_builtin; refine wpl_append1 (w0 := w) rfl (.tmp 35) (.tmp 37) _ rfl 3 .i64 8 Try.underlying33 info_int _ (x + 10 - bw) rfl rfl HV.out HO.out HE.out (by omega) (by simp only [maxLen]; omega) ?_; intro A2 c2 w2 ho2 hx2 _)
          go_roundw
          case rel => exact ⟨i + 1, 1, A2, c2, _, by omega, rfl, rfl, by go_num, by omega, lim_append HOS.out (lim_one (by omega)), HST.out _ _ (by omega), ho2, hx2⟩
          case measure => simp [intOf]; omega
        · have hneg' : ¬ (x : Int) - bw < 0 := by omega
          have HV : Hid ((x : Int) - bw = ((x - bw : Nat) : Int)) := by show _ = _; omega
          go_wp2_with (at_builtin; refine wpl_append1 (w0 := w) rfl (.tmp 35) (.tmp 37) _ rfl 3 .i64 8 Try.underlying33 info_int _ (x - bw) rfl rfl HV.out HO.out HE.out (by omega) (by simp only [maxLen]; omega) ?_; intro A2 c2 w2 ho2 hx2 _)
          go_roundw
          case rel => exact ⟨i + 1, 0, A2, c2, _, by omega, rfl, rfl, by go_num, by omega, lim_append HOS.out (lim_one (by omega)), HST.out _ _ (by omega), ho2, hx2⟩
          case measure => simp [intOf]; omega
    · obtain rfl : i = n := by omega
      have hv := sub_end (b := 10) (by omega) H1.out.len (by rw [H2.out.len]; exact hlen) HOL.out HOS.out HLE.out HI.out
      have hs := hid (rtrim_any HO.out.sl HOS.out)
      have hsh := HO.out.rtrim HOS.out
      rw [hv] at hs hsh
      have HS := hid hsh
      clear hsh hv
      go_wp2_with (go_at_call 89; refine hs.out.mono ?_; rintro e w' ⟨rfl, rfl⟩)
      go_ret
      exact ⟨_, _, rfl, HS.out, HE.out⟩
end Go.Proofs.Ytikkibpjchmajaa

