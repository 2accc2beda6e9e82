/-
  The contract of the document's answer for layer 1: Of.
-/
import Derived.Test.YtikkibpjchmajaaPk9
import Derived.Deep.RegionHeld3
namespace Go.Proofs.Ytikkibpjchmajaa
open Go.RowKit
open Go.Lib (hid)

set_option maxHeartbeats 1600000 in
theorem rof_any {w : World} {A : Option Addr} {l c : Nat} {xs : List Nat} (h : Sl .u32 w A l c xs) (hl : Lim 4294967296 xs) (hln : l ≤ 1048576) :
    Calls Try.prog 63 #[.slice A l c] w (RetO .i64 3 (nd 10 (nv 4294967296 xs)) w) := by
  have H := hid h
  have HL := hid hl
  clear h hl
  go_enter Try.func63, Try.ntmps63
  go_wp2_with fail
  go_loopw [3, 4] (fun sd si wr => ∃ (j l' : Nat) (B' : Option Addr) (d' : Nat), j ≤ l ∧ si = .int .i64 ((j : Int) - 1) ∧ sd = .slice B' l' d' ∧ 
      Own .i64 3 wr w.heap.size B' l' d' (nd 10 (nv 4294967296 (xs.drop j))) ∧ Ext w wr) (fun _ si _ => (intOf si + 1).toNat)
  case atStart =>
    refine ⟨l, 0, none, 0, Nat.le_refl _, rfl, rfl, ?_, Ext.refl _⟩
    rw [List.drop_eq_nil_of_le (by rw [H.out.len]; omega)]
    exact ⟨by simp [nv, nd_zero], .inl ⟨rfl, rfl⟩⟩
  case round =>
    obtain ⟨j, l', B', d', hj, rfl, rfl, ho, hx⟩ := hrel
    have H1 := hid (H.out.ext hx)
    have HE := hid hx
    have HO := hid ho
    clear hx ho
    rcases Nat.eq_zero_or_pos j with h0 | h0
    · subst h0
      have ho := HO.out
      rw [List.drop_zero] at ho
      have HL2 := hid ho.len
      have HO2 := hid ho
      clear ho HO
      go_wp2_with fail
      go_ret
      have hl := HL2.out
      subst hl
      exact ⟨_, _, rfl, HO2.out, HE.out⟩
    · obtain ⟨i, rfl⟩ : ∃ i, j = i + 1 := ⟨j - 1, by omega⟩
      obtain ⟨ba, oa, rfl, hlt, hcs⟩ := H1.out.at_ (by omega)
      obtain ⟨_, _, e, g1⟩ := H1.out.get (i := i) (by omega)
      injection e with e; injection e with e1 e2; subst e1; subst e2
      have b1 := lim_getD (b := 4294967296) (by omega) HL.out i
      have hdv : nv 4294967296 (xs.drop i) = (nv 4294967296 (xs.drop (i + 1)) * 65536 + xs[i]?.getD 0 / 65536) * 65536 + xs[i]?.getD 0 % 65536 := by
        have hi : i < xs.length := by rw [H1.out.len]; omega
        rw [List.drop_eq_getElem_cons hi, nv_cons, List.getElem?_eq_getElem hi]
        simp only [Option.getD_some]
        omega
      have hll : l' ≤ 1099511627776 := by
        rw [← HO.out.len]
        exact Nat.le_trans (dec_len (k := 1048576) (by rw [List.length_drop, H1.out.len]; omega) (fun x hx => HL.out x (List.mem_of_mem_drop hx))) (by omega)
      have hll2 : (nd 10 (nv 4294967296 (xs.drop (i + 1)) * 65536 + xs[i]?.getD 0 / 65536)).length ≤ 1099511627776 := by
        have h1 := nd_len_mono (b := 10) (by omega) (show nv 4294967296 (xs.drop (i + 1)) * 65536 + xs[i]?.getD 0 / 65536 ≤ nv 4294967296 (xs.drop i) by omega)
        have h2 := dec_len (k := 1048576) (xs := xs.drop i) (by rw [List.length_drop, H1.out.len]; omega) (fun x hx => HL.out x (List.mem_of_mem_drop hx))
        omega
      have HD := hid hdv
      have HLL := hid hll2
      clear hdv hcs hll2
      generalize nv 4294967296 (xs.drop (i + 1)) = V at *
      generalize xs[i]?.getD 0 = x at *
      have hb0 : (0 : Int) ≤ (i : Int) := by omega
      have hb1 : (i : Int) < (l : Int) := by omega
      have t1 := hid (fun W (X : Ext wr W) => rtimes_int (w := W) (N := 65536) (M := (x : Int) / 65536) 65536 (x / 65536) rfl (by omega) (HO.out.sl.ext X) (nd_lim (by omega) V) hll (by omega) (by omega))
      rw [nv_nd (by omega)] at t1
      have t2 := hid (fun W A1 c1 (o1 : Sl .i64 W A1 (nd 10 (V * 65536 + x / 65536)).length c1 (nd 10 (V * 65536 + x / 65536))) => rtimes_int (w := W) (N := 65536) (M := (x : Int) % 65536) 65536 (x % 65536) rfl (by omega) o1 (nd_lim (by omega) _) HLL.out (by omega) (by omega))
      rw [nv_nd (by omega)] at t2
      have e1 : IntKind.u32.wrap ((x : Int) / 65536) = (x : Int) / 65536 := by rw [IntKind.wrap_u32']; omega
      have e2 : IntKind.i64.wrap ((x : Int) / 65536) = (x : Int) / 65536 := by rw [IntKind.wrap_i64]; omega
      have e3 : Int.tmod (x : Int) 65536 = (x : Int) % 65536 := Int.tmod_eq_emod_of_nonneg (by omega)
      have e4 : IntKind.i64.wrap ((x : Int) % 65536) = (x : Int) % 65536 := by rw [IntKind.wrap_i64]; omega
      rw [← HD.out] at t2
      have HLL2 := hid HLL.out
      clear HLL HLL2
      go_wp2_with fail
      go_region_held3 (fun w' => w'.cell? ⟨ba, oa + i, none⟩ = some (.int .u32 x)) (first | assumption | (simp [*]; done))
        (first
          | ((go_at_call 88); (with_reducible refine (t1.out _ (Ext.refl _).drew).mono ?_); rintro e w1 ⟨A1, c1, rfl, o1, x1⟩; have hc1 := (Below.cell x1 (p := ⟨ba, oa + i, none⟩) hlt).trans g1; have O1 := hid o1; have X1 := hid x1; clear o1 x1 t1)
          | ((go_at_call 88); (with_reducible refine (t2.out _ _ _ O1.out.sl).mono ?_); rintro e w2 ⟨A2, c2, rfl, o2, x2⟩; have hc2 := (Below.cell x2 (p := ⟨ba, oa + i, none⟩) (Nat.lt_of_lt_of_le hlt X1.out.size)).trans hc1; have O2 := hid o2; have X2 := hid x2; clear o2 x2 t2))
      clear e1 e2 e3 e4
      go_wp2_with fail
      go_roundw
      case rel => exact ⟨i, _, A2, c2, by omega, rfl, rfl, O2.out.mono (Nat.le_trans HE.out.size X1.out.size), (HE.out.drew.trans X1.out).trans X2.out⟩
      case measure => simp [intOf]
end Go.Proofs.Ytikkibpjchmajaa

