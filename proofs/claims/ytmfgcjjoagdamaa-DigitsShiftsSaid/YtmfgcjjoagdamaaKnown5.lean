
/-
  The statements' own examples of layer 5.
-/
import Derived.Test.YtmfgcjjoagdamaaParse5
namespace Go.Proofs.Ytmfgcjjoagdamaa
open Go.RowKit
open Go.Lib (hid)

theorem text_is {w : World} {s : Bool} {A : Option Addr} {n c K : Nat} {z : Int} {t : ByteArray} (h : Iz K w s A n c z) (hK : K ≤ 100000) (ht : bts (tx z) = t) :
    Calls Try.prog 14 #[.agg #[.bool s, .slice A n c]] w (RetE (.string t) w) := ht ▸ text_v h hK
theorem parse_is {w : World} {s : ByteArray} {z e : Int} (hs : s.size ≤ 20000) (hz : pz (byt s) = z) (he : pe (byt s) = e) : Calls Try.prog 15 #[.string s] w (RetIE (3 * s.size) z e w) := by
  subst hz he; exact parse_v hs
theorem parse_no {w : World} {s : ByteArray} {l : List Nat} (hs : s.size ≤ 20000) (hl : byt s = l) (hg : ¬ Good l) : Calls Try.prog 15 #[.string s] w (RetIE (3 * s.size) 0 4 w) :=
  parse_is hs (by rw [hl]; exact (pe_bad hg).2) (by rw [hl]; exact (pe_bad hg).1)
theorem idx4 (a b c d : ByteArray) (w : World) : (Instr.index 69 (.agg #[.string a, .string b, .string c, .string d]) (.int .i64 0)).run Try.prog w = .ok (.string a) w ∧ (Instr.index 69 (.agg #[.string a, .string b, .string c, .string d]) (.int .i64 1)).run Try.prog w = .ok (.string b) w ∧
    (Instr.index 69 (.agg #[.string a, .string b, .string c, .string d]) (.int .i64 2)).run Try.prog w = .ok (.string c) w ∧ (Instr.index 69 (.agg #[.string a, .string b, .string c, .string d]) (.int .i64 3)).run Try.prog w = .ok (.string d) w := by
  simp [Instr.index, run_underlying Try.underlying69, asIntOf, part, Try.sizeOf9, Try.isAgg9]
theorem big_text : bts (tx 4294967296) = ⟨#[52, 50, 57, 52, 57, 54, 55, 50, 57, 54]⟩ := by
  have e : nd 10 4294967296 = [6, 9, 2, 7, 6, 9, 4, 9, 2, 4] := (eq_nd (by omega) ⟨by decide, by decide⟩ (by decide)).symm
  have e2 : tx 4294967296 = dgs 4294967296 := by unfold tx; rw [if_neg (by decide), if_neg (by decide)]; rfl
  rw [e2, dgs, e]; decide
theorem neg_text : bts (tx (-7)) = ⟨#[45, 55]⟩ := by
  have e : nd 10 7 = [7] := (eq_nd (by omega) ⟨by decide, by decide⟩ (by decide)).symm
  have e2 : tx (-7) = 45 :: dgs 7 := by unfold tx; rw [if_neg (by decide), if_pos (by decide)]; rfl
  rw [e2, dgs, e]; decide
theorem iz_none (w : World) : Iz 0 w false none 0 0 0 := ⟨0, Cn.none.nv (lo := 0), rfl⟩
theorem lit7 (w : World) : Iz 1 (w.alloc (.cells #[.int .u32 7] 39)) true (some ⟨w.heap.size, 0, none⟩) 1 1 (-7) := ⟨7, lit_nv1 (Own.lit w [7] 1 rfl (by simp [maxLen])) (by omega), rfl⟩
theorem zero_text : bts (tx 0) = ⟨#[48]⟩ := by decide

set_option maxRecDepth 100000 in
set_option maxHeartbeats 3200000 in
theorem known_any5 {w : World} : Calls Try.prog 13 #[] w (RetE (.bool true) w) := by
  go_enter Try.func13, Try.ntmps13
  go_wp2_with fail
  go_loopw [6] (fun si wr => ∃ i : Nat, i ≤ 4 ∧ si = .int .i64 i ∧ Ext w wr) (fun si _ => 4 - (intOf si).toNat)
  case atStart => exact ⟨0, by omega, rfl, Ext.refl _⟩
  case round =>
    obtain ⟨i, hi, rfl, hx⟩ := hrel
    have HX := hid hx
    clear hx
    have hi4 := idx4 ⟨#[48, 48, 55]⟩ ⟨#[45, 48]⟩ ⟨#[]⟩ ⟨#[43, 49]⟩ wr
    have hi0 := hi4.1
    have hi1 := hi4.2.1
    have hi2 := hi4.2.2.1
    have hi3 := hi4.2.2.2
    clear hi4
    have h5 : i = 0 ∨ i = 1 ∨ i = 2 ∨ i = 3 ∨ i = 4 := by omega
    rcases h5 with rfl | rfl | rfl | rfl | rfl
    · go_wp2_with fail
      refine (parse_no (s := ⟨#[48, 48, 55]⟩) (l := [48, 48, 55]) (by decide) (by decide) (by decide)).mono ?_
      rintro E w1 ⟨b, A, n, c, rfl, o1, x1⟩
      have HX1 := hid ((HX.out.trans x1).alloc (.cells #[.bool b, .slice A n c] 24))
      clear o1 x1
      go_wp2_with fail
      go_roundw
      case rel => exact ⟨1, by omega, rfl, HX1.out⟩
      case measure => decide
    · go_wp2_with fail
      refine (parse_no (s := ⟨#[45, 48]⟩) (l := [45, 48]) (by decide) (by decide) (by decide)).mono ?_
      rintro E w1 ⟨b, A, n, c, rfl, o1, x1⟩
      have HX1 := hid ((HX.out.trans x1).alloc (.cells #[.bool b, .slice A n c] 24))
      clear o1 x1
      go_wp2_with fail
      go_roundw
      case rel => exact ⟨2, by omega, rfl, HX1.out⟩
      case measure => decide
    · go_wp2_with fail
      refine (parse_no (s := ⟨#[]⟩) (l := []) (by decide) (by decide) (by decide)).mono ?_
      rintro E w1 ⟨b, A, n, c, rfl, o1, x1⟩
      have HX1 := hid ((HX.out.trans x1).alloc (.cells #[.bool b, .slice A n c] 24))
      clear o1 x1
      go_wp2_with fail
      go_roundw
      case rel => exact ⟨3, by omega, rfl, HX1.out⟩
      case measure => decide
    · go_wp2_with fail
      refine (parse_no (s := ⟨#[43, 49]⟩) (l := [43, 49]) (by decide) (by decide) (by decide)).mono ?_
      rintro E w1 ⟨b, A, n, c, rfl, o1, x1⟩
      have HX1 := hid ((HX.out.trans x1).alloc (.cells #[.bool b, .slice A n c] 24))
      clear o1 x1
      go_wp2_with fail
      go_roundw
      case rel => exact ⟨4, by omega, rfl, HX1.out⟩
      case measure => decide
    · go_wp2_with (first
        | ((with_reducible refine wpl_lit2 (w0 := w) HX.out rfl _ _ _ rfl 39 .u32 4 Try.underlying22 info_u32 _ _ 0 1 rfl rfl rfl rfl ?_); intro g4 w4 hg4 ho4 hx4 hx4'; have O4 := hid ho4; have X4 := hid hx4; have I4 := hid (show Iz 2 w4 false (some ⟨g4, 0, none⟩) 2 2 4294967296 from Iz.mk (s := false) (lit_nv2 ho4 (by omega) (by omega) rfl)); clear ho4 hx4 hx4')
        | (go_at_call 14; (with_reducible refine (text_is I4.out (by omega) big_text).mono ?_); rintro E5 w5 ⟨rfl, x5⟩; have X6 := hid ((X4.out.trans x5).alloc (.cells #[.int .u32 7] 39)); have I6 := hid (lit7 w5); clear x5)
        | (go_at_call 14; (with_reducible refine (text_is I6.out (by omega) neg_text).mono ?_); rintro E7 w7 ⟨rfl, x7⟩; have X7 := hid (X6.out.trans x7); clear x7)
        | (go_at_call 14; (with_reducible refine (text_is (iz_none _) (by omega) zero_text).mono ?_); rintro E8 w8 ⟨rfl, x8⟩; have X8 := hid (X7.out.trans x8); clear x8))
      go_ret
      exact ⟨rfl, X8.out⟩
end Go.Proofs.Ytmfgcjjoagdamaa
