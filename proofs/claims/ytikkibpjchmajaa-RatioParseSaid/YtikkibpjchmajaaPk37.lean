/-
  The contract of the document's Text.
-/
import Derived.Test.YtikkibpjchmajaaPk34
import Derived.Test.YtikkibpjchmajaaPk25
namespace Go.Proofs.Ytikkibpjchmajaa
open Go.RowKit
open Go.Lib (hid)

theorem bts_app (a b : List Nat) : bts a ++ bts b = bts (a ++ b) := by
  unfold bts
  rw [ByteArray.mk_append_mk, List.map_append]
theorem conv_lit {w : World} {d : Nat} (hd : d < 10) : (convert 99 9 (.slice (some ⟨w.heap.size, 0, none⟩) 1 1)).run Try.prog (w.alloc (.cells #[.int .u8 (48 + (d : Int))] 5)) = .ok (.string (bts [d + 48])) (w.alloc (.cells #[.int .u8 (48 + (d : Int))] 5)) := by
  have e : (48 + (d : Int)) = ((d + 48 : Nat) : Int) := by omega
  rw [e]
  exact conv_own (l := [d + 48]) (Own.lit (k := .u8) w [d + 48] 1 rfl (by simp [maxLen])) (fun c hc => by simp at hc; omega) (by omega)

set_option maxRecDepth 100000 in
set_option maxHeartbeats 3200000 in
theorem rtext_v {w : World} {s : Bool} {A : Option Addr} {n c K : Nat} {z : Int} (h : Iz K w s A n c z) (hK : K ≤ 100000) :
    Calls Try.prog 73 #[.agg #[.bool s, .slice A n c]] w (RetE (.string (bts (tx z))) w) := by
  have B0 := Bx.new w s A n c
  have X0 := hid ((Ext.refl w).alloc (.cells #[.bool s, .slice A n c] 24))
  have of := hid (zof_v (h.ext X0.out) (by omega))
  have hc0 := B0.c0
  have hc1 := B0.c1
  clear B0 h
  go_enter Try.func73, Try.ntmps73
  go_wp2_with fail
  generalize w.alloc (.cells #[.bool s, .slice A n c] 24) = W at *
  refine of.out.mono ?_
  rintro E w1 ⟨b, A1, n1, c1, rfl, hz, x1⟩
  have B1 := Bz.new w1 b A1 n1 c1
  have X1 := hid (x1.alloc (.cells #[.bool b, .slice A1 n1 c1] 35))
  have HZ := hid (hz.ext ((Ext.refl w1).alloc (.cells #[.bool b, .slice A1 n1 c1] 35)))
  have hd0 := B1.c0
  have hd1 := B1.c1
  have HB := hid B1
  clear hc0 hc1 of hz x1 B1
  have HL := hid HZ.out.2.1.len
  by_cases h0 : z = 0
  · obtain rfl : n1 = 0 := HZ.out.len0 h0
    subst h0
    go_wp2_with fail
    go_ret
    exact ⟨rfl, X0.out.trans X1.out⟩
  · have hn := HZ.out.lenp h0
    have hnb : ¬ n1 = 0 := by omega
    go_wp2_with fail
    clear hd0 hd1
    generalize w1.alloc (.cells #[.bool b, .slice A1 n1 c1] 35) = w2 at *
    generalize w1.heap.size = g at *
    go_loopw [4, 5] (fun ss si wr => ∃ (i : Nat) (S : ByteArray), i ≤ n1 ∧ si = .int .i64 i ∧ ss = .string S ∧ S = bts (((nd 10 z.natAbs).take i).map (· + 48)).reverse ∧ Bz wr g b A1 n1 c1 ∧ Zd (10 * K) wr b A1 n1 c1 z ∧ Ext W wr) (fun _ si _ => n1 - (intOf si).toNat)
    case atStart => exact ⟨0, _, by omega, rfl, rfl, rfl, HB.out, HZ.out, X1.out⟩
    case round =>
      have HZ0 := hid HZ.out.2.2
      clear HB HZ X1
      obtain ⟨i, S, hi, rfl, rfl, hS, hb, hz, hx⟩ := hrel
      have HS := hid hS
      have hmx : n1 ≤ 1000000 := Nat.le_trans HZ0.out (by omega)
      clear hS
      have HB := hid hb
      have HZ := hid hz
      have HX := hid hx
      have hd0 := hb.c0
      have hd1 := hb.c1
      clear hb hz hx
      by_cases hlt : i < n1
      · obtain ⟨g3, o3, rfl, hcell⟩ := HZ.out.2.1.get hlt
        generalize hD : (nd 10 z.natAbs)[i]?.getD 0 = d at *
        have hd10 : d < 10 := by rw [← hD]; exact lim_getD (by omega) (nd_lim (by omega) _) i
        have HD := hid hD
        clear hD
        have hcv := conv_lit (w := wr) hd10
        have hns : ¬ 9223372036854775807 < (bts [d + 48]).size + S.size := by
          rw [HS.out, bts_len, bts_len, List.length_reverse, List.length_map, List.length_take, HL.out, Nat.min_eq_left (by omega)]
          show ¬ _ < 1 + i
          omega
        have HS1 : Hid (bts [d + 48] ++ S = bts (((nd 10 z.natAbs).take (i + 1)).map (· + 48)).reverse) := by
          show _ = _
          rw [HS.out, bts_app, List.take_succ_eq_append_getElem (by rw [HL.out]; exact hlt), List.map_append, List.reverse_append]
          have := HD.out
          rw [List.getElem?_eq_getElem (by rw [HL.out]; exact hlt)] at this
          simp at this
          rw [this]; rfl
        generalize bts [d + 48] = s1 at *
        go_wp2_with fail
        go_roundw
        case rel => exact ⟨i + 1, s1 ++ S, by omega, by go_num, rfl, HS1.out, HB.out.ext ((Ext.refl wr).alloc _), HZ.out.ext ((Ext.refl wr).alloc _), HX.out.alloc _⟩
        case measure => simp [intOf]; omega
      · obtain rfl : i = n1 := by omega
        have hE : bts (tx z) = bts (if z < 0 then 45 :: dgs z.natAbs else dgs z.natAbs) := by unfold tx; rw [if_neg h0]
        have hT : (nd 10 z.natAbs).take i = nd 10 z.natAbs := List.take_of_length_le (by rw [HL.out]; omega)
        have HS2 := HS.out
        rw [hT] at HS2
        have hbb := HZ.out.1
        cases b
        · have hzn : ¬ z < 0 := of_decide_eq_false hbb.symm
          rw [if_neg hzn] at hE
          have HS3 := hid HS2
          clear HS2
          go_wp2_with fail
          go_ret
          exact ⟨by rw [hE, HS3.out]; rfl, X0.out.trans HX.out⟩
        · have hzn : z < 0 := of_decide_eq_true hbb.symm
          rw [if_pos hzn] at hE
          have hns : ¬ 9223372036854775807 < (ByteArray.mk #[45]).size + S.size := by
            rw [HS2, bts_len, List.length_reverse, List.length_map, HL.out]
            show ¬ _ < 1 + i
            omega
          have HNS := hid hns
          clear hbb hT hzn hns
          have HS3 := hid HS2
          clear HS2
          go_wp2_with fail
          go_ret
          refine ⟨?_, X0.out.trans HX.out⟩
          rw [hE, HS3.out]
          exact congrArg (fun x => Ending.returned (Value.string x)) (bts_app [45] (dgs z.natAbs))
end Go.Proofs.Ytikkibpjchmajaa

