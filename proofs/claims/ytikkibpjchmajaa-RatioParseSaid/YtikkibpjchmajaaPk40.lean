/-
  The walks of the document's Parse of rational numbers. Printed by wip/gen/rat.py.
-/
import Derived.Test.YtikkibpjchmajaaPk38
import Derived.Test.YtikkibpjchmajaaPk39
import Derived.Test.YtikkibpjchmajaaPk28
import Derived.Test.YtikkibpjchmajaaPk29
namespace Go.Proofs.Ytikkibpjchmajaa
open Go.RowKit
open Go.Lib (hid)

set_option maxHeartbeats 6400000 in
set_option maxRecDepth 100000 in
theorem dparse_nA {w : World} {s : ByteArray} {K : Nat} {N : Int} {a : List Nat} (hs : s.size ≤ 200) (hK : K ≤ 200) (ha : 47 ∉ a) (hl : byt s = a)
    (h1 : ∀ w (d : ByteArray), byt d = a → Calls Try.prog 47 #[.string d] w (RetIE K N 4 w)) :
    Calls Try.prog 19 #[.string s] w (RetRN 4 w) := by
  have hs' : ¬ (20000 : Int) < (s.size : Int) := by omega
  have hlen := byt_len s
  have hll : a.length = s.size := by rw [← hlen, hl]
  have hd : byt s = a := hl
  have hno : ∀ i x, i < s.size → (byt s)[i]? = some x → x ≠ 47 := fun i x hi hx e => ha (by
    subst e
    rw [hl] at hx
    exact List.mem_of_getElem? hx)
  have H1 := hid (fun w => h1 w _ hd)
  have HNO := hid hno
  clear h1 hd ha hl hlen hno hll
  have c1 : (0 : Int) ≤ (s.size : Int) := by omega
  have c2 : (s.size : Int) ≤ (s.size : Int) := by omega
  have hlt0' : ¬ (s.size : Int) < (s.size : Int) := by omega
  go_enter Try.func19, Try.ntmps19
  go_upto_region 1 with fail
  have hy1 := hid ((Ext.refl w).alloc (.cells #[.bool false, .slice none 0 0, .bool false, .slice none 0 0] 27))
  have Bo_ := (Bk.new w 27 #[.bool false, .slice none 0 0, .bool false, .slice none 0 0])
  have Bo := hid Bo_
  clear Bo_
  generalize (w.alloc (.cells #[.bool false, .slice none 0 0, .bool false, .slice none 0 0] 27)) = w1 at *
  have X1 := hid ((Ext.refl _).trans hy1.out)
  go_wp2_with fail
  go_loopw [4, 5] (fun sa si wr => ∃ i : Nat, sa = .int .i64 s.size ∧ i ≤ s.size ∧ si = .int .i64 i ∧ w1 = wr) (fun _ si _ => s.size - (intOf si).toNat)
  case atStart => exact ⟨0, rfl, Nat.zero_le _, rfl, rfl⟩
  case round =>
    obtain ⟨i, rfl, hi, rfl, hw⟩ := hrel
    subst hw
    by_cases hlt : i < s.size
    · have hkl : i < (byt s).length := by rw [byt_len]; omega
      have hiS : i < s.size := by omega
      obtain ⟨x, hx⟩ : ∃ x, (byt s)[i]? = some x := ⟨_, List.getElem?_eq_getElem hkl⟩
      have h47 := HNO.out i x hlt hx
      have hiy := idx_val hx rfl
      have hxa : ((x : Int) == 47) = false := beq_eq_false_iff_ne.2 (by omega)
      clear hx hkl h47
      go_wp2_with fail
      exact ⟨⟨i + 1, by first | trivial | rfl, by omega, by go_num, by trivial⟩, by simp [intOf]; omega⟩
    · obtain rfl : i = s.size := by omega
      go_upto_region 10 with (first
        | ((go_at_call 47); (with_reducible refine (H1.out _).mono ?_); rintro E2 w2 ⟨b2, A2, n2, c2, rfl, o2, hr2⟩; have X2 := hid (X1.out.trans hr2); have hy2 := hid hr2; clear hr2; have O2 := hid (o2.mono X1.out.size); clear o2))
      have hy3 := hid ((Ext.refl w2).alloc (.cells #[.bool b2, .slice A2 n2 c2] 24))
      have Bn_ := (Bk.new w2 24 #[.bool b2, .slice A2 n2 c2])
      have Bn := hid Bn_
      clear Bn_
      generalize (w2.alloc (.cells #[.bool b2, .slice A2 n2 c2] 24)) = w3 at *
      have X3 := hid (X2.out.trans hy3.out)
      obtain ⟨f3_0, f3_1, f3_2, f3_3, f3_4, f3_5, f3_6, f3_7⟩ : w3.cell? ⟨w.heap.size, 0, none⟩ = some (.bool false) ∧ w3.cell? ⟨w.heap.size, 1, none⟩ = some (.slice none 0 0) ∧ w3.cell? ⟨w.heap.size, 2, none⟩ = some (.bool false) ∧ w3.cell? ⟨w.heap.size, 3, none⟩ = some (.slice none 0 0) ∧ w3.frozen? ⟨w.heap.size, 0, none⟩ = false ∧ w3.frozen? ⟨w.heap.size, 1, none⟩ = false ∧ w3.frozen? ⟨w.heap.size, 2, none⟩ = false ∧ w3.frozen? ⟨w.heap.size, 3, none⟩ = false := ⟨(Bo.out.ext (hy2.out.trans hy3.out)).c 0, (Bo.out.ext (hy2.out.trans hy3.out)).c 1, (Bo.out.ext (hy2.out.trans hy3.out)).c 2, (Bo.out.ext (hy2.out.trans hy3.out)).c 3, (Bo.out.ext (hy2.out.trans hy3.out)).fr 0, (Bo.out.ext (hy2.out.trans hy3.out)).fr 1, (Bo.out.ext (hy2.out.trans hy3.out)).fr 2, (Bo.out.ext (hy2.out.trans hy3.out)).fr 3⟩
      go_wp2_with fail
      clear f3_0 f3_1 f3_2 f3_3 f3_4 f3_5 f3_6 f3_7
      have HG4 := hid (show w3.grownBy ((((w3.setCell ⟨w.heap.size, 0, none⟩ (.bool false)).setCell ⟨w.heap.size, 1, none⟩ (.slice none 0 0)).setCell ⟨w.heap.size, 2, none⟩ (.bool false)).setCell ⟨w.heap.size, 3, none⟩ (.slice none 0 0)) (some (w.heap.size)) from gb4 w3 (w.heap.size) (.bool false) (.slice none 0 0) (.bool false) (.slice none 0 0))
      have HO4 := hid (Bo.out.ext (hy2.out.trans hy3.out))
      have HP4 := hid (show Bk 27 ((((w3.setCell ⟨w.heap.size, 0, none⟩ (.bool false)).setCell ⟨w.heap.size, 1, none⟩ (.slice none 0 0)).setCell ⟨w.heap.size, 2, none⟩ (.bool false)).setCell ⟨w.heap.size, 3, none⟩ (.slice none 0 0)) (w.heap.size) #[.bool false, .slice none 0 0, .bool false, .slice none 0 0] from (Bo.out.ext (hy2.out.trans hy3.out)).put4 (.bool false) (.slice none 0 0) (.bool false) (.slice none 0 0))
      generalize ((((w3.setCell ⟨w.heap.size, 0, none⟩ (.bool false)).setCell ⟨w.heap.size, 1, none⟩ (.slice none 0 0)).setCell ⟨w.heap.size, 2, none⟩ (.bool false)).setCell ⟨w.heap.size, 3, none⟩ (.slice none 0 0)) = w4 at *
      have X4 := hid (X3.out.gb HG4.out (by omega))
      refine ret_re rfl HP4.out rfl rfl rfl ⟨rfl, X4.out⟩

set_option maxHeartbeats 6400000 in
set_option maxRecDepth 100000 in
theorem dparse_nE {w : World} {s : ByteArray} {K : Nat} {N : Int} {a : List Nat} (hs : s.size ≤ 200) (hK : K ≤ 200) (ha : 47 ∉ a) (hl : byt s = a)
    (h1 : ∀ w (d : ByteArray), byt d = a → Calls Try.prog 47 #[.string d] w (RetIE K N 0 w)) {x : Rat} (hx : x = (N : Rat) / ((1 : Int) : Rat)) (hb : x.num.natAbs < 4294967296 ^ 200 ∧ x.den < 4294967296 ^ (200 + 1)) (ht : byt s = txr x) (hN : N = x.num) (hD : 1 = (x.den : Int)) :
    Calls Try.prog 19 #[.string s] w (RetRE (K + 22) x 0 w) := by
  have hs' : ¬ (20000 : Int) < (s.size : Int) := by omega
  have hlen := byt_len s
  have hll : a.length = s.size := by rw [← hlen, hl]
  have hd : byt s = a := hl
  have hno : ∀ i x, i < s.size → (byt s)[i]? = some x → x ≠ 47 := fun i x hi hx e => ha (by
    subst e
    rw [hl] at hx
    exact List.mem_of_getElem? hx)
  have H1 := hid (fun w => h1 w _ hd)
  obtain ⟨T, hT⟩ : ∃ T, bts (txr x) = T := ⟨_, rfl⟩
  have HT := hid hT
  have HBD := hid hb
  have hr := hid (show x = (N : Rat) / (dn 1 : Rat) by rw [dn_of (by omega), hx])
  have hE : (T.toList == s.toList) = true := seq6 (by rw [← hT, ← ht, bts_byt])
  have HN := hid hN
  have HD := hid hD
  have HNO := hid hno
  clear h1 hd ha hl hlen hN hD hT hb hx ht hno hll
  have c1 : (0 : Int) ≤ (s.size : Int) := by omega
  have c2 : (s.size : Int) ≤ (s.size : Int) := by omega
  have hlt0' : ¬ (s.size : Int) < (s.size : Int) := by omega
  go_enter Try.func19, Try.ntmps19
  go_upto_region 1 with fail
  have hy1 := hid ((Ext.refl w).alloc (.cells #[.bool false, .slice none 0 0, .bool false, .slice none 0 0] 27))
  have Bo_ := (Bk.new w 27 #[.bool false, .slice none 0 0, .bool false, .slice none 0 0])
  have Bo := hid Bo_
  clear Bo_
  generalize (w.alloc (.cells #[.bool false, .slice none 0 0, .bool false, .slice none 0 0] 27)) = w1 at *
  have X1 := hid ((Ext.refl _).trans hy1.out)
  go_wp2_with fail
  go_loopw [4, 5] (fun sa si wr => ∃ i : Nat, sa = .int .i64 s.size ∧ i ≤ s.size ∧ si = .int .i64 i ∧ w1 = wr) (fun _ si _ => s.size - (intOf si).toNat)
  case atStart => exact ⟨0, rfl, Nat.zero_le _, rfl, rfl⟩
  case round =>
    obtain ⟨i, rfl, hi, rfl, hw⟩ := hrel
    subst hw
    by_cases hlt : i < s.size
    · have hkl : i < (byt s).length := by rw [byt_len]; omega
      have hiS : i < s.size := by omega
      obtain ⟨x, hx⟩ : ∃ x, (byt s)[i]? = some x := ⟨_, List.getElem?_eq_getElem hkl⟩
      have h47 := HNO.out i x hlt hx
      have hiy := idx_val hx rfl
      have hxa : ((x : Int) == 47) = false := beq_eq_false_iff_ne.2 (by omega)
      clear hx hkl h47
      go_wp2_with fail
      exact ⟨⟨i + 1, by first | trivial | rfl, by omega, by go_num, by trivial⟩, by simp [intOf]; omega⟩
    · obtain rfl : i = s.size := by omega
      go_upto_region 10 with (first
        | ((go_at_call 47); (with_reducible refine (H1.out _).mono ?_); rintro E2 w2 ⟨b2, A2, n2, c2, rfl, o2, hr2⟩; have X2 := hid (X1.out.trans hr2); have hy2 := hid hr2; clear hr2; have O2 := hid (o2.mono X1.out.size); clear o2))
      have hy3 := hid ((Ext.refl w2).alloc (.cells #[.bool b2, .slice A2 n2 c2] 24))
      have Bn_ := (Bk.new w2 24 #[.bool b2, .slice A2 n2 c2])
      have Bn := hid Bn_
      clear Bn_
      generalize (w2.alloc (.cells #[.bool b2, .slice A2 n2 c2] 24)) = w3 at *
      have X3 := hid (X2.out.trans hy3.out)
      obtain ⟨f3_0, f3_1, f3_2, f3_3, f3_4, f3_5, f3_6, f3_7⟩ : w3.cell? ⟨w.heap.size, 0, none⟩ = some (.bool false) ∧ w3.cell? ⟨w.heap.size, 1, none⟩ = some (.slice none 0 0) ∧ w3.cell? ⟨w.heap.size, 2, none⟩ = some (.bool false) ∧ w3.cell? ⟨w.heap.size, 3, none⟩ = some (.slice none 0 0) ∧ w3.frozen? ⟨w.heap.size, 0, none⟩ = false ∧ w3.frozen? ⟨w.heap.size, 1, none⟩ = false ∧ w3.frozen? ⟨w.heap.size, 2, none⟩ = false ∧ w3.frozen? ⟨w.heap.size, 3, none⟩ = false := ⟨(Bo.out.ext (hy2.out.trans hy3.out)).c 0, (Bo.out.ext (hy2.out.trans hy3.out)).c 1, (Bo.out.ext (hy2.out.trans hy3.out)).c 2, (Bo.out.ext (hy2.out.trans hy3.out)).c 3, (Bo.out.ext (hy2.out.trans hy3.out)).fr 0, (Bo.out.ext (hy2.out.trans hy3.out)).fr 1, (Bo.out.ext (hy2.out.trans hy3.out)).fr 2, (Bo.out.ext (hy2.out.trans hy3.out)).fr 3⟩
      go_upto_region 12 with fail
      clear f3_0 f3_1 f3_2 f3_3 f3_4 f3_5 f3_6 f3_7
      go_cut [8] (fun v8 wx => ∃ (g8c : Nat)  (b2q : Bool) (A2q : Option Addr) (n2q c2q : Nat), v8 = .pointer (some ⟨g8c, 0, none⟩) ∧ w3.heap.size ≤ g8c ∧ Bk 27 wx (w.heap.size) #[.bool false, .slice none 0 0, .bool false, .slice none 0 0] ∧ Bk 27 wx (g8c) #[.bool b2, .slice A2 n2 c2, .bool b2q, .slice A2q n2q c2q] ∧ Ci K wx w.heap.size b2 A2 n2 c2 N ∧ Ci 22 wx w.heap.size b2q A2q n2q c2q 1 ∧ Ext w wx)
      case first =>
        refine wp_region_held_drew (S := fun w' => Ext w w' ∧ Bk 24 w' (w2.heap.size) #[.bool b2, .slice A2 n2 c2]) (by kernel_rfl) ⟨(X3.out.trans (Ext.refl _).drew), (Bn.out.ext (Ext.refl _).drew)⟩ (fun hS0 => ?_)
        change wpAnyH _ _ _ _ _ 6 #[false, false, false, false, false, false] _ _
        refine drawn_load 0 38 24 (.tmp 6) (w2.heap.size) 24 #[.bool b2, .slice A2 n2 c2] (0, 0) _ (by kernel_rfl) rfl (fun w' hS => hS.2.h) Try.underlying24 rfl info_int_s (by kernel_rfl) (by kernel_rfl) (by kernel_rfl) (fun _ _ _ _ h => h) hS0 ?_
        simp only [Act.put, List.setIfInBounds_toArray, List.set_cons_zero, List.set_cons_succ]
        refine wpAnyH_ready (rs := [1, 4]) (by kernel_rfl) (by simp) ?_
        refine drawn_call1 1 (some 39) (.const (.int .i64 1)) (ts := #[2]) (by kernel_rfl) (enters_of Try.func37 (by kernel_rfl) rfl) rfl (zsmall_v (n := 1) (by omega) (by omega)) (fun E v1 hh => ?_) ?_
        · skip
          obtain ⟨b1q, A1q, n1q, c1q, rfl, o1, hx1⟩ := hh
          refine ⟨_, rfl, ⟨((X3.out.trans (Ext.refl _).drew).trans hx1), (Bn.out.ext ((Ext.refl _).drew.trans hx1))⟩, ?_⟩
          simp only [Act.put, List.setIfInBounds_toArray, List.set_cons_zero, List.set_cons_succ]
          refine wpAnyH_ready (rs := [2, 4]) (by kernel_rfl) (by simp) ?_
          refine drawn_call1 2 (some 40) (.tmp 39) (ts := #[35]) (by kernel_rfl) (enters_of Try.func44 (by kernel_rfl) rfl) rfl (zint_v o1 (by omega)) (fun E v2 hh => ?_) ?_
          · skip
            obtain ⟨b2q, A2q, n2q, c2q, rfl, o2, hx2⟩ := hh
            refine ⟨_, rfl, ⟨(((X3.out.trans (Ext.refl _).drew).trans hx1).trans hx2), (Bn.out.ext (((Ext.refl _).drew.trans hx1).trans hx2))⟩, ?_⟩
            simp only [Act.put, List.setIfInBounds_toArray, List.set_cons_zero, List.set_cons_succ]
            refine drawn_free 3 41 (v := ?v3_1) (.build 27 #[(0, .tmp 38), (1, .tmp 40)]) (by kernel_rfl) ?hy3_1 (by kernel_rfl) (by kernel_rfl) (by kernel_rfl) (fun _ _ _ _ h => h) ⟨(((X3.out.trans (Ext.refl _).drew).trans hx1).trans hx2), (Bn.out.ext (((Ext.refl _).drew.trans hx1).trans hx2))⟩ ?hr3_1
            case hy3_1 => (intro o ho w' hS; unfold execOp; simp only [ho]; go_simp; try with_reducible rfl)
            simp only [Act.put, List.setIfInBounds_toArray, List.set_cons_zero, List.set_cons_succ]
            refine wpAnyH_ready (rs := [4]) (by kernel_rfl) (by simp) ?_
            refine drawn_alloc 4 (some 8) (by kernel_rfl) alloc_rat (fun g4 v4 hb4 hx4 hg4 => ⟨⟨((((X3.out.trans (Ext.refl _).drew).trans hx1).trans hx2).trans hx4), (Bn.out.ext ((((Ext.refl _).drew.trans hx1).trans hx2).trans hx4))⟩, ?_⟩) ?_
            · skip
              simp only [Act.put, List.setIfInBounds_toArray, List.set_cons_zero, List.set_cons_succ]
              refine wpAnyH_ready (rs := [5]) (by kernel_rfl) (by simp) ?_
              have hq5 := (show Bk 27 v4 g4 #[.bool false, .slice none 0 0, .bool false, .slice none 0 0] from hb4)
              refine drawn_store 5 27 (.tmp 8) (.tmp 41) (g4) #[.bool b2, .slice A2 n2 c2, .bool b2q, .slice A2q n2q c2q] #[.bool false, .slice none 0 0, .bool false, .slice none 0 0] 27 (by kernel_rfl) rfl rfl hq5.h info_rat rfl one_four (fun v5 hb5 hg5 => ⟨⟨(((((X3.out.trans (Ext.refl _).drew).trans hx1).trans hx2).trans hx4).gb hg5 (by have h := (((X3.out.trans (Ext.refl _).drew).trans hx1).trans hx2).size; have h1 := hg4; omega)), ((Bn.out.ext ((((Ext.refl _).drew.trans hx1).trans hx2).trans hx4)).grown hg5 (by have h0 := (Nat.lt_of_lt_of_le Bn.out.lt (Nat.le_trans (Nat.le_trans (Ext.refl _).drew.size hx1.size) hx2.size)); have h1 := hg4; omega))⟩, ?_⟩) ?_
              · skip
                simp only [Act.put, List.setIfInBounds_toArray, List.set_cons_zero, List.set_cons_succ]
                refine wpAnyH_done (by kernel_rfl) ?_ _
                go_step
                go_step
                go_meet
                case rel => exact ⟨_, _, _, _, _, rfl, (Nat.le_trans (Nat.le_trans (Nat.le_trans (Ext.refl _).drew.size hx1.size) hx2.size) hg4), ((Bo.out.ext (((((hy2.out.trans hy3.out).trans (Ext.refl _).drew).trans hx1).trans hx2).trans hx4)).grown hg5 (by have h0 := (Nat.lt_of_lt_of_le Bo.out.lt (Nat.le_trans (Nat.le_trans (Nat.le_trans (Nat.le_trans hy2.out.size hy3.out.size) (Ext.refl _).drew.size) hx1.size) hx2.size)); have h1 := hg4; omega)), (show Bk 27 v5 (g4) #[.bool b2, .slice A2 n2 c2, .bool b2q, .slice A2q n2q c2q] from hb5), ((O2.out.ext ((((hy3.out.trans (Ext.refl _).drew).trans hx1).trans hx2).trans hx4)).gbk hq5 (by decide) hg5), (((o2.mono ((X3.out.trans (Ext.refl _).drew).trans hx1).size).ext hx4).gbk hq5 (by decide) hg5), (((((X3.out.trans (Ext.refl _).drew).trans hx1).trans hx2).trans hx4).gb hg5 (by have h := (((X3.out.trans (Ext.refl _).drew).trans hx1).trans hx2).size; have h1 := hg4; omega))⟩
              exact drawn_nil
            exact drawn_nil
          refine drawn_alloc 4 (some 8) (by kernel_rfl) alloc_rat (fun g4 v4 hb4 hx4 hg4 => ⟨⟨(((X3.out.trans (Ext.refl _).drew).trans hx1).trans hx4), (Bn.out.ext (((Ext.refl _).drew.trans hx1).trans hx4))⟩, ?_⟩) ?_
          · skip
            simp only [Act.put, List.setIfInBounds_toArray, List.set_cons_zero, List.set_cons_succ]
            refine wpAnyH_ready (rs := [2]) (by kernel_rfl) (by simp) ?_
            refine drawn_call1 2 (some 40) (.tmp 39) (ts := #[35]) (by kernel_rfl) (enters_of Try.func44 (by kernel_rfl) rfl) rfl (zint_v (o1.ext hx4) (by omega)) (fun E v2 hh => ?_) ?_
            · skip
              obtain ⟨b2q, A2q, n2q, c2q, rfl, o2, hx2⟩ := hh
              refine ⟨_, rfl, ⟨((((X3.out.trans (Ext.refl _).drew).trans hx1).trans hx4).trans hx2), (Bn.out.ext ((((Ext.refl _).drew.trans hx1).trans hx4).trans hx2))⟩, ?_⟩
              simp only [Act.put, List.setIfInBounds_toArray, List.set_cons_zero, List.set_cons_succ]
              refine drawn_free 3 41 (v := ?v3_2) (.build 27 #[(0, .tmp 38), (1, .tmp 40)]) (by kernel_rfl) ?hy3_2 (by kernel_rfl) (by kernel_rfl) (by kernel_rfl) (fun _ _ _ _ h => h) ⟨((((X3.out.trans (Ext.refl _).drew).trans hx1).trans hx4).trans hx2), (Bn.out.ext ((((Ext.refl _).drew.trans hx1).trans hx4).trans hx2))⟩ ?hr3_2
              case hy3_2 => (intro o ho w' hS; unfold execOp; simp only [ho]; go_simp; try with_reducible rfl)
              simp only [Act.put, List.setIfInBounds_toArray, List.set_cons_zero, List.set_cons_succ]
              refine wpAnyH_ready (rs := [5]) (by kernel_rfl) (by simp) ?_
              have hq5 := ((show Bk 27 v4 g4 #[.bool false, .slice none 0 0, .bool false, .slice none 0 0] from hb4).ext hx2)
              refine drawn_store 5 27 (.tmp 8) (.tmp 41) (g4) #[.bool b2, .slice A2 n2 c2, .bool b2q, .slice A2q n2q c2q] #[.bool false, .slice none 0 0, .bool false, .slice none 0 0] 27 (by kernel_rfl) rfl rfl hq5.h info_rat rfl one_four (fun v5 hb5 hg5 => ⟨⟨(((((X3.out.trans (Ext.refl _).drew).trans hx1).trans hx4).trans hx2).gb hg5 (by have h := ((X3.out.trans (Ext.refl _).drew).trans hx1).size; have h1 := hg4; omega)), ((Bn.out.ext ((((Ext.refl _).drew.trans hx1).trans hx4).trans hx2)).grown hg5 (by have h0 := (Nat.lt_of_lt_of_le Bn.out.lt (Nat.le_trans (Ext.refl _).drew.size hx1.size)); have h1 := hg4; omega))⟩, ?_⟩) ?_
              · skip
                simp only [Act.put, List.setIfInBounds_toArray, List.set_cons_zero, List.set_cons_succ]
                refine wpAnyH_done (by kernel_rfl) ?_ _
                go_step
                go_step
                go_meet
                case rel => exact ⟨_, _, _, _, _, rfl, (Nat.le_trans (Nat.le_trans (Ext.refl _).drew.size hx1.size) hg4), ((Bo.out.ext (((((hy2.out.trans hy3.out).trans (Ext.refl _).drew).trans hx1).trans hx4).trans hx2)).grown hg5 (by have h0 := (Nat.lt_of_lt_of_le Bo.out.lt (Nat.le_trans (Nat.le_trans (Nat.le_trans hy2.out.size hy3.out.size) (Ext.refl _).drew.size) hx1.size)); have h1 := hg4; omega)), (show Bk 27 v5 (g4) #[.bool b2, .slice A2 n2 c2, .bool b2q, .slice A2q n2q c2q] from hb5), ((O2.out.ext ((((hy3.out.trans (Ext.refl _).drew).trans hx1).trans hx4).trans hx2)).gbk hq5 (by decide) hg5), ((o2.mono (((X3.out.trans (Ext.refl _).drew).trans hx1).trans hx4).size).gbk hq5 (by decide) hg5), (((((X3.out.trans (Ext.refl _).drew).trans hx1).trans hx4).trans hx2).gb hg5 (by have h := ((X3.out.trans (Ext.refl _).drew).trans hx1).size; have h1 := hg4; omega))⟩
              exact drawn_nil
            exact drawn_nil
          exact drawn_nil
        refine drawn_alloc 4 (some 8) (by kernel_rfl) alloc_rat (fun g4 v4 hb4 hx4 hg4 => ⟨⟨((X3.out.trans (Ext.refl _).drew).trans hx4), (Bn.out.ext ((Ext.refl _).drew.trans hx4))⟩, ?_⟩) ?_
        · skip
          simp only [Act.put, List.setIfInBounds_toArray, List.set_cons_zero, List.set_cons_succ]
          refine wpAnyH_ready (rs := [1]) (by kernel_rfl) (by simp) ?_
          refine drawn_call1 1 (some 39) (.const (.int .i64 1)) (ts := #[2]) (by kernel_rfl) (enters_of Try.func37 (by kernel_rfl) rfl) rfl (zsmall_v (n := 1) (by omega) (by omega)) (fun E v1 hh => ?_) ?_
          · skip
            obtain ⟨b1q, A1q, n1q, c1q, rfl, o1, hx1⟩ := hh
            refine ⟨_, rfl, ⟨(((X3.out.trans (Ext.refl _).drew).trans hx4).trans hx1), (Bn.out.ext (((Ext.refl _).drew.trans hx4).trans hx1))⟩, ?_⟩
            simp only [Act.put, List.setIfInBounds_toArray, List.set_cons_zero, List.set_cons_succ]
            refine wpAnyH_ready (rs := [2]) (by kernel_rfl) (by simp) ?_
            refine drawn_call1 2 (some 40) (.tmp 39) (ts := #[35]) (by kernel_rfl) (enters_of Try.func44 (by kernel_rfl) rfl) rfl (zint_v o1 (by omega)) (fun E v2 hh => ?_) ?_
            · skip
              obtain ⟨b2q, A2q, n2q, c2q, rfl, o2, hx2⟩ := hh
              refine ⟨_, rfl, ⟨((((X3.out.trans (Ext.refl _).drew).trans hx4).trans hx1).trans hx2), (Bn.out.ext ((((Ext.refl _).drew.trans hx4).trans hx1).trans hx2))⟩, ?_⟩
              simp only [Act.put, List.setIfInBounds_toArray, List.set_cons_zero, List.set_cons_succ]
              refine drawn_free 3 41 (v := ?v3_3) (.build 27 #[(0, .tmp 38), (1, .tmp 40)]) (by kernel_rfl) ?hy3_3 (by kernel_rfl) (by kernel_rfl) (by kernel_rfl) (fun _ _ _ _ h => h) ⟨((((X3.out.trans (Ext.refl _).drew).trans hx4).trans hx1).trans hx2), (Bn.out.ext ((((Ext.refl _).drew.trans hx4).trans hx1).trans hx2))⟩ ?hr3_3
              case hy3_3 => (intro o ho w' hS; unfold execOp; simp only [ho]; go_simp; try with_reducible rfl)
              simp only [Act.put, List.setIfInBounds_toArray, List.set_cons_zero, List.set_cons_succ]
              refine wpAnyH_ready (rs := [5]) (by kernel_rfl) (by simp) ?_
              have hq5 := ((show Bk 27 v4 g4 #[.bool false, .slice none 0 0, .bool false, .slice none 0 0] from hb4).ext (hx1.trans hx2))
              refine drawn_store 5 27 (.tmp 8) (.tmp 41) (g4) #[.bool b2, .slice A2 n2 c2, .bool b2q, .slice A2q n2q c2q] #[.bool false, .slice none 0 0, .bool false, .slice none 0 0] 27 (by kernel_rfl) rfl rfl hq5.h info_rat rfl one_four (fun v5 hb5 hg5 => ⟨⟨(((((X3.out.trans (Ext.refl _).drew).trans hx4).trans hx1).trans hx2).gb hg5 (by have h := (X3.out.trans (Ext.refl _).drew).size; have h1 := hg4; omega)), ((Bn.out.ext ((((Ext.refl _).drew.trans hx4).trans hx1).trans hx2)).grown hg5 (by have h0 := (Nat.lt_of_lt_of_le Bn.out.lt (Ext.refl _).drew.size); have h1 := hg4; omega))⟩, ?_⟩) ?_
              · skip
                simp only [Act.put, List.setIfInBounds_toArray, List.set_cons_zero, List.set_cons_succ]
                refine wpAnyH_done (by kernel_rfl) ?_ _
                go_step
                go_step
                go_meet
                case rel => exact ⟨_, _, _, _, _, rfl, (Nat.le_trans (Ext.refl _).drew.size hg4), ((Bo.out.ext (((((hy2.out.trans hy3.out).trans (Ext.refl _).drew).trans hx4).trans hx1).trans hx2)).grown hg5 (by have h0 := (Nat.lt_of_lt_of_le Bo.out.lt (Nat.le_trans (Nat.le_trans hy2.out.size hy3.out.size) (Ext.refl _).drew.size)); have h1 := hg4; omega)), (show Bk 27 v5 (g4) #[.bool b2, .slice A2 n2 c2, .bool b2q, .slice A2q n2q c2q] from hb5), ((O2.out.ext ((((hy3.out.trans (Ext.refl _).drew).trans hx4).trans hx1).trans hx2)).gbk hq5 (by decide) hg5), ((o2.mono (((X3.out.trans (Ext.refl _).drew).trans hx4).trans hx1).size).gbk hq5 (by decide) hg5), (((((X3.out.trans (Ext.refl _).drew).trans hx4).trans hx1).trans hx2).gb hg5 (by have h := (X3.out.trans (Ext.refl _).drew).size; have h1 := hg4; omega))⟩
              exact drawn_nil
            exact drawn_nil
          exact drawn_nil
        exact drawn_nil
      case rest =>
      obtain ⟨g8c, b2q, A2q, n2q, c2q, rfl, hgex4, Boc4, Bxc4, Onc4, Ooic4, Xc4⟩ := hcut
      obtain ⟨w4, hw4⟩ : ∃ w4, w4 = wc := ⟨_, rfl⟩
      subst hw4
      have HBoc4 := hid Boc4
      clear Boc4
      have HBxc4 := hid Bxc4
      clear Bxc4
      have HOnc4 := hid Onc4
      clear Onc4
      have HOoic4 := hid Ooic4
      clear Ooic4
      have X4 := hid Xc4
      clear Xc4
      go_upto_region 18 with fail
      obtain ⟨f5_0, f5_1, f5_2, f5_3, f5_4, f5_5, f5_6, f5_7, f5_8, f5_9, f5_10, f5_11⟩ : w4.cell? ⟨g8c, 0, none⟩ = some (.bool b2) ∧ w4.cell? ⟨g8c, 1, none⟩ = some (.slice A2 n2 c2) ∧ w4.cell? ⟨g8c, 2, none⟩ = some (.bool b2q) ∧ w4.cell? ⟨g8c, 3, none⟩ = some (.slice A2q n2q c2q) ∧ w4.cell? ⟨w.heap.size, 0, none⟩ = some (.bool false) ∧ w4.cell? ⟨w.heap.size, 1, none⟩ = some (.slice none 0 0) ∧ w4.cell? ⟨w.heap.size, 2, none⟩ = some (.bool false) ∧ w4.cell? ⟨w.heap.size, 3, none⟩ = some (.slice none 0 0) ∧ w4.frozen? ⟨w.heap.size, 0, none⟩ = false ∧ w4.frozen? ⟨w.heap.size, 1, none⟩ = false ∧ w4.frozen? ⟨w.heap.size, 2, none⟩ = false ∧ w4.frozen? ⟨w.heap.size, 3, none⟩ = false := ⟨HBxc4.out.c 0, HBxc4.out.c 1, HBxc4.out.c 2, HBxc4.out.c 3, HBoc4.out.c 0, HBoc4.out.c 1, HBoc4.out.c 2, HBoc4.out.c 3, HBoc4.out.fr 0, HBoc4.out.fr 1, HBoc4.out.fr 2, HBoc4.out.fr 3⟩
      go_wp2_with (first
        | ((go_at_call 11); (with_reducible refine (dof_v (Rv.mk (HOnc4.out.iz.weak (Nat.le_add_right _ 22)) (HOoic4.out.iz.weak (by omega)) hr.out) (by omega)).mono ?_); rintro E5 w5 ⟨b5, A5, n5, c5, e5, B5, m5, d5, rfl, o5, hr5⟩; have X5 := hid (X4.out.trans hr5); have hy5 := hid hr5; clear hr5; have O5 := hid o5; clear o5; obtain ⟨f6_0, f6_1, f6_2, f6_3, f6_4, f6_5, f6_6, f6_7, f6_8, f6_9, f6_10, f6_11⟩ : w5.cell? ⟨g8c, 0, none⟩ = some (.bool b2) ∧ w5.cell? ⟨g8c, 1, none⟩ = some (.slice A2 n2 c2) ∧ w5.cell? ⟨g8c, 2, none⟩ = some (.bool b2q) ∧ w5.cell? ⟨g8c, 3, none⟩ = some (.slice A2q n2q c2q) ∧ w5.cell? ⟨w.heap.size, 0, none⟩ = some (.bool false) ∧ w5.cell? ⟨w.heap.size, 1, none⟩ = some (.slice none 0 0) ∧ w5.cell? ⟨w.heap.size, 2, none⟩ = some (.bool false) ∧ w5.cell? ⟨w.heap.size, 3, none⟩ = some (.slice none 0 0) ∧ w5.frozen? ⟨w.heap.size, 0, none⟩ = false ∧ w5.frozen? ⟨w.heap.size, 1, none⟩ = false ∧ w5.frozen? ⟨w.heap.size, 2, none⟩ = false ∧ w5.frozen? ⟨w.heap.size, 3, none⟩ = false := ⟨(HBxc4.out.ext hy5.out).c 0, (HBxc4.out.ext hy5.out).c 1, (HBxc4.out.ext hy5.out).c 2, (HBxc4.out.ext hy5.out).c 3, (HBoc4.out.ext hy5.out).c 0, (HBoc4.out.ext hy5.out).c 1, (HBoc4.out.ext hy5.out).c 2, (HBoc4.out.ext hy5.out).c 3, (HBoc4.out.ext hy5.out).fr 0, (HBoc4.out.ext hy5.out).fr 1, (HBoc4.out.ext hy5.out).fr 2, (HBoc4.out.ext hy5.out).fr 3⟩)
        | ((go_at_call 48); (with_reducible refine (dtext_is O5.out (by omega) (L := 200) (by omega) HBD.out HT.out).mono ?_); rintro E6 w6 ⟨rfl, hr6⟩; have X6 := hid (X5.out.trans hr6); have hy6 := hid hr6; clear hr6; obtain ⟨f7_0, f7_1, f7_2, f7_3, f7_4, f7_5, f7_6, f7_7, f7_8, f7_9, f7_10, f7_11⟩ : w6.cell? ⟨g8c, 0, none⟩ = some (.bool b2) ∧ w6.cell? ⟨g8c, 1, none⟩ = some (.slice A2 n2 c2) ∧ w6.cell? ⟨g8c, 2, none⟩ = some (.bool b2q) ∧ w6.cell? ⟨g8c, 3, none⟩ = some (.slice A2q n2q c2q) ∧ w6.cell? ⟨w.heap.size, 0, none⟩ = some (.bool false) ∧ w6.cell? ⟨w.heap.size, 1, none⟩ = some (.slice none 0 0) ∧ w6.cell? ⟨w.heap.size, 2, none⟩ = some (.bool false) ∧ w6.cell? ⟨w.heap.size, 3, none⟩ = some (.slice none 0 0) ∧ w6.frozen? ⟨w.heap.size, 0, none⟩ = false ∧ w6.frozen? ⟨w.heap.size, 1, none⟩ = false ∧ w6.frozen? ⟨w.heap.size, 2, none⟩ = false ∧ w6.frozen? ⟨w.heap.size, 3, none⟩ = false := ⟨(HBxc4.out.ext (hy5.out.trans hy6.out)).c 0, (HBxc4.out.ext (hy5.out.trans hy6.out)).c 1, (HBxc4.out.ext (hy5.out.trans hy6.out)).c 2, (HBxc4.out.ext (hy5.out.trans hy6.out)).c 3, (HBoc4.out.ext (hy5.out.trans hy6.out)).c 0, (HBoc4.out.ext (hy5.out.trans hy6.out)).c 1, (HBoc4.out.ext (hy5.out.trans hy6.out)).c 2, (HBoc4.out.ext (hy5.out.trans hy6.out)).c 3, (HBoc4.out.ext (hy5.out.trans hy6.out)).fr 0, (HBoc4.out.ext (hy5.out.trans hy6.out)).fr 1, (HBoc4.out.ext (hy5.out.trans hy6.out)).fr 2, (HBoc4.out.ext (hy5.out.trans hy6.out)).fr 3⟩))
      clear f5_0 f5_1 f5_2 f5_3 f5_4 f5_5 f5_6 f5_7 f5_8 f5_9 f5_10 f5_11 f6_0 f6_1 f6_2 f6_3 f6_4 f6_5 f6_6 f6_7 f6_8 f6_9 f6_10 f6_11 f7_0 f7_1 f7_2 f7_3 f7_4 f7_5 f7_6 f7_7 f7_8 f7_9 f7_10 f7_11
      have HG7 := hid (show w6.grownBy ((((w6.setCell ⟨w.heap.size, 0, none⟩ (.bool b2)).setCell ⟨w.heap.size, 1, none⟩ (.slice A2 n2 c2)).setCell ⟨w.heap.size, 2, none⟩ (.bool b2q)).setCell ⟨w.heap.size, 3, none⟩ (.slice A2q n2q c2q)) (some (w.heap.size)) from gb4 w6 (w.heap.size) (.bool b2) (.slice A2 n2 c2) (.bool b2q) (.slice A2q n2q c2q))
      have HO7 := hid (HBoc4.out.ext (hy5.out.trans hy6.out))
      have HP7 := hid (show Bk 27 ((((w6.setCell ⟨w.heap.size, 0, none⟩ (.bool b2)).setCell ⟨w.heap.size, 1, none⟩ (.slice A2 n2 c2)).setCell ⟨w.heap.size, 2, none⟩ (.bool b2q)).setCell ⟨w.heap.size, 3, none⟩ (.slice A2q n2q c2q)) (w.heap.size) #[.bool b2, .slice A2 n2 c2, .bool b2q, .slice A2q n2q c2q] from (HBoc4.out.ext (hy5.out.trans hy6.out)).put4 (.bool b2) (.slice A2 n2 c2) (.bool b2q) (.slice A2q n2q c2q))
      generalize ((((w6.setCell ⟨w.heap.size, 0, none⟩ (.bool b2)).setCell ⟨w.heap.size, 1, none⟩ (.slice A2 n2 c2)).setCell ⟨w.heap.size, 2, none⟩ (.bool b2q)).setCell ⟨w.heap.size, 3, none⟩ (.slice A2q n2q c2q)) = w7 at *
      have X7 := hid (X6.out.gb HG7.out (by omega))
      refine ret_re rfl HP7.out rfl rfl rfl ⟨_, _, _, _, _, _, _, _, rfl, ⟨(((HOnc4.out.ext (hy5.out.trans hy6.out)).gbk HO7.out (by decide) HG7.out).cast HN.out).weak (by omega), (((HOoic4.out.ext (hy5.out.trans hy6.out)).gbk HO7.out (by decide) HG7.out).cast HD.out).weak (by omega)⟩, X7.out⟩

set_option maxHeartbeats 6400000 in
set_option maxRecDepth 100000 in
theorem dparse_cA {w : World} {s : ByteArray} {K : Nat} {N : Int} {a b : List Nat} (hs : s.size ≤ 200) (hK : K ≤ 200) (ha : 47 ∉ a) (hl : byt s = a ++ 47 :: b)
    (h1 : ∀ w (d : ByteArray), byt d = a → Calls Try.prog 47 #[.string d] w (RetIE K N 4 w)) :
    Calls Try.prog 19 #[.string s] w (RetRN 4 w) := by
  have hs' : ¬ (20000 : Int) < (s.size : Int) := by omega
  have hlen := byt_len s
  have hll : a.length + (b.length + 1) = s.size := by rw [← hlen, hl, List.length_append, List.length_cons]
  have hd : byt (s.extract 0 a.length) = a := by rw [byt_to6, hl]; simp
  have he : byt (s.extract (a.length + 1) s.size) = b := by
    rw [byt_from6, hl, List.drop_append, List.drop_eq_nil_of_le (by omega), List.nil_append, show a.length + 1 - a.length = 1 by omega]
    rfl
  have hat : (byt s)[a.length]? = some 47 := by rw [hl, List.getElem?_append_right (by omega), Nat.sub_self]; rfl
  have hno : ∀ i x, i < a.length → (byt s)[i]? = some x → x ≠ 47 := fun i x hi hx e => ha (by
    subst e
    rw [hl, List.getElem?_append_left hi] at hx
    exact List.mem_of_getElem? hx)
  have H1 := hid (fun w => h1 w _ hd)
  have HNO := hid hno
  have hix := idx_val hat rfl
  clear h1 hd ha hl hlen he hat hno
  generalize a.length = L at *
  have c1 : (0 : Int) ≤ (L : Int) := by omega
  have c2 : (L : Int) ≤ (s.size : Int) := by omega
  have c3 : (0 : Int) ≤ (L : Int) + 1 := by omega
  have c4 : (L : Int) + 1 ≤ (s.size : Int) := by omega
  have hlt0 : L < s.size := by omega
  have hlt0' : (L : Int) < (s.size : Int) := by omega
  go_enter Try.func19, Try.ntmps19
  go_upto_region 1 with fail
  have hy1 := hid ((Ext.refl w).alloc (.cells #[.bool false, .slice none 0 0, .bool false, .slice none 0 0] 27))
  have Bo_ := (Bk.new w 27 #[.bool false, .slice none 0 0, .bool false, .slice none 0 0])
  have Bo := hid Bo_
  clear Bo_
  generalize (w.alloc (.cells #[.bool false, .slice none 0 0, .bool false, .slice none 0 0] 27)) = w1 at *
  have X1 := hid ((Ext.refl _).trans hy1.out)
  go_wp2_with fail
  go_loopw [4, 5] (fun sa si wr => ∃ i : Nat, sa = .int .i64 s.size ∧ i ≤ L ∧ si = .int .i64 i ∧ w1 = wr) (fun _ si _ => L - (intOf si).toNat)
  case atStart => exact ⟨0, rfl, Nat.zero_le _, rfl, rfl⟩
  case round =>
    obtain ⟨i, rfl, hi, rfl, hw⟩ := hrel
    subst hw
    by_cases hlt : i < L
    · have hkl : i < (byt s).length := by rw [byt_len]; omega
      have hiS : i < s.size := by omega
      obtain ⟨x, hx⟩ : ∃ x, (byt s)[i]? = some x := ⟨_, List.getElem?_eq_getElem hkl⟩
      have h47 := HNO.out i x hlt hx
      have hiy := idx_val hx rfl
      have hxa : ((x : Int) == 47) = false := beq_eq_false_iff_ne.2 (by omega)
      clear hx hkl h47 hix
      go_wp2_with fail
      exact ⟨⟨i + 1, by first | trivial | rfl, by omega, by go_num, by trivial⟩, by simp [intOf]; omega⟩
    · obtain rfl : i = L := by omega
      go_upto_region 10 with (first
        | ((go_at_call 47); (with_reducible refine (H1.out _).mono ?_); rintro E2 w2 ⟨b2, A2, n2, c2, rfl, o2, hr2⟩; have X2 := hid (X1.out.trans hr2); have hy2 := hid hr2; clear hr2; have O2 := hid (o2.mono X1.out.size); clear o2))
      have hy3 := hid ((Ext.refl w2).alloc (.cells #[.bool b2, .slice A2 n2 c2] 24))
      have Bn_ := (Bk.new w2 24 #[.bool b2, .slice A2 n2 c2])
      have Bn := hid Bn_
      clear Bn_
      generalize (w2.alloc (.cells #[.bool b2, .slice A2 n2 c2] 24)) = w3 at *
      have X3 := hid (X2.out.trans hy3.out)
      obtain ⟨f3_0, f3_1, f3_2, f3_3, f3_4, f3_5, f3_6, f3_7⟩ : w3.cell? ⟨w.heap.size, 0, none⟩ = some (.bool false) ∧ w3.cell? ⟨w.heap.size, 1, none⟩ = some (.slice none 0 0) ∧ w3.cell? ⟨w.heap.size, 2, none⟩ = some (.bool false) ∧ w3.cell? ⟨w.heap.size, 3, none⟩ = some (.slice none 0 0) ∧ w3.frozen? ⟨w.heap.size, 0, none⟩ = false ∧ w3.frozen? ⟨w.heap.size, 1, none⟩ = false ∧ w3.frozen? ⟨w.heap.size, 2, none⟩ = false ∧ w3.frozen? ⟨w.heap.size, 3, none⟩ = false := ⟨(Bo.out.ext (hy2.out.trans hy3.out)).c 0, (Bo.out.ext (hy2.out.trans hy3.out)).c 1, (Bo.out.ext (hy2.out.trans hy3.out)).c 2, (Bo.out.ext (hy2.out.trans hy3.out)).c 3, (Bo.out.ext (hy2.out.trans hy3.out)).fr 0, (Bo.out.ext (hy2.out.trans hy3.out)).fr 1, (Bo.out.ext (hy2.out.trans hy3.out)).fr 2, (Bo.out.ext (hy2.out.trans hy3.out)).fr 3⟩
      go_wp2_with fail
      clear f3_0 f3_1 f3_2 f3_3 f3_4 f3_5 f3_6 f3_7
      have HG4 := hid (show w3.grownBy ((((w3.setCell ⟨w.heap.size, 0, none⟩ (.bool false)).setCell ⟨w.heap.size, 1, none⟩ (.slice none 0 0)).setCell ⟨w.heap.size, 2, none⟩ (.bool false)).setCell ⟨w.heap.size, 3, none⟩ (.slice none 0 0)) (some (w.heap.size)) from gb4 w3 (w.heap.size) (.bool false) (.slice none 0 0) (.bool false) (.slice none 0 0))
      have HO4 := hid (Bo.out.ext (hy2.out.trans hy3.out))
      have HP4 := hid (show Bk 27 ((((w3.setCell ⟨w.heap.size, 0, none⟩ (.bool false)).setCell ⟨w.heap.size, 1, none⟩ (.slice none 0 0)).setCell ⟨w.heap.size, 2, none⟩ (.bool false)).setCell ⟨w.heap.size, 3, none⟩ (.slice none 0 0)) (w.heap.size) #[.bool false, .slice none 0 0, .bool false, .slice none 0 0] from (Bo.out.ext (hy2.out.trans hy3.out)).put4 (.bool false) (.slice none 0 0) (.bool false) (.slice none 0 0))
      generalize ((((w3.setCell ⟨w.heap.size, 0, none⟩ (.bool false)).setCell ⟨w.heap.size, 1, none⟩ (.slice none 0 0)).setCell ⟨w.heap.size, 2, none⟩ (.bool false)).setCell ⟨w.heap.size, 3, none⟩ (.slice none 0 0)) = w4 at *
      have X4 := hid (X3.out.gb HG4.out (by omega))
      refine ret_re rfl HP4.out rfl rfl rfl ⟨rfl, X4.out⟩

set_option maxHeartbeats 6400000 in
set_option maxRecDepth 100000 in
theorem dparse_cB {w : World} {s : ByteArray} {K : Nat} {N D : Int} {a b : List Nat} (hs : s.size ≤ 200) (hK : K ≤ 200) (ha : 47 ∉ a) (hl : byt s = a ++ 47 :: b)
    (h1 : ∀ w (d : ByteArray), byt d = a → Calls Try.prog 47 #[.string d] w (RetIE K N 0 w)) (h2 : ∀ w (d : ByteArray), byt d = b → Calls Try.prog 47 #[.string d] w (RetIE K D 4 w)) :
    Calls Try.prog 19 #[.string s] w (RetRN 4 w) := by
  have hs' : ¬ (20000 : Int) < (s.size : Int) := by omega
  have hlen := byt_len s
  have hll : a.length + (b.length + 1) = s.size := by rw [← hlen, hl, List.length_append, List.length_cons]
  have hd : byt (s.extract 0 a.length) = a := by rw [byt_to6, hl]; simp
  have he : byt (s.extract (a.length + 1) s.size) = b := by
    rw [byt_from6, hl, List.drop_append, List.drop_eq_nil_of_le (by omega), List.nil_append, show a.length + 1 - a.length = 1 by omega]
    rfl
  have hat : (byt s)[a.length]? = some 47 := by rw [hl, List.getElem?_append_right (by omega), Nat.sub_self]; rfl
  have hno : ∀ i x, i < a.length → (byt s)[i]? = some x → x ≠ 47 := fun i x hi hx e => ha (by
    subst e
    rw [hl, List.getElem?_append_left hi] at hx
    exact List.mem_of_getElem? hx)
  have H1 := hid (fun w => h1 w _ hd)
  have H2 := hid (fun w => h2 w _ he)
  have HNO := hid hno
  have hix := idx_val hat rfl
  clear h1 hd ha hl hlen he h2 hat hno
  generalize a.length = L at *
  have c1 : (0 : Int) ≤ (L : Int) := by omega
  have c2 : (L : Int) ≤ (s.size : Int) := by omega
  have c3 : (0 : Int) ≤ (L : Int) + 1 := by omega
  have c4 : (L : Int) + 1 ≤ (s.size : Int) := by omega
  have hlt0 : L < s.size := by omega
  have hlt0' : (L : Int) < (s.size : Int) := by omega
  go_enter Try.func19, Try.ntmps19
  go_upto_region 1 with fail
  have hy1 := hid ((Ext.refl w).alloc (.cells #[.bool false, .slice none 0 0, .bool false, .slice none 0 0] 27))
  have Bo_ := (Bk.new w 27 #[.bool false, .slice none 0 0, .bool false, .slice none 0 0])
  have Bo := hid Bo_
  clear Bo_
  generalize (w.alloc (.cells #[.bool false, .slice none 0 0, .bool false, .slice none 0 0] 27)) = w1 at *
  have X1 := hid ((Ext.refl _).trans hy1.out)
  go_wp2_with fail
  go_loopw [4, 5] (fun sa si wr => ∃ i : Nat, sa = .int .i64 s.size ∧ i ≤ L ∧ si = .int .i64 i ∧ w1 = wr) (fun _ si _ => L - (intOf si).toNat)
  case atStart => exact ⟨0, rfl, Nat.zero_le _, rfl, rfl⟩
  case round =>
    obtain ⟨i, rfl, hi, rfl, hw⟩ := hrel
    subst hw
    by_cases hlt : i < L
    · have hkl : i < (byt s).length := by rw [byt_len]; omega
      have hiS : i < s.size := by omega
      obtain ⟨x, hx⟩ : ∃ x, (byt s)[i]? = some x := ⟨_, List.getElem?_eq_getElem hkl⟩
      have h47 := HNO.out i x hlt hx
      have hiy := idx_val hx rfl
      have hxa : ((x : Int) == 47) = false := beq_eq_false_iff_ne.2 (by omega)
      clear hx hkl h47 hix
      go_wp2_with fail
      exact ⟨⟨i + 1, by first | trivial | rfl, by omega, by go_num, by trivial⟩, by simp [intOf]; omega⟩
    · obtain rfl : i = L := by omega
      go_upto_region 10 with (first
        | ((go_at_call 47); (with_reducible refine (H1.out _).mono ?_); rintro E2 w2 ⟨b2, A2, n2, c2, rfl, o2, hr2⟩; have X2 := hid (X1.out.trans hr2); have hy2 := hid hr2; clear hr2; have O2 := hid (o2.mono X1.out.size); clear o2))
      have hy3 := hid ((Ext.refl w2).alloc (.cells #[.bool b2, .slice A2 n2 c2] 24))
      have Bn_ := (Bk.new w2 24 #[.bool b2, .slice A2 n2 c2])
      have Bn := hid Bn_
      clear Bn_
      generalize (w2.alloc (.cells #[.bool b2, .slice A2 n2 c2] 24)) = w3 at *
      have X3 := hid (X2.out.trans hy3.out)
      obtain ⟨f3_0, f3_1, f3_2, f3_3, f3_4, f3_5, f3_6, f3_7⟩ : w3.cell? ⟨w.heap.size, 0, none⟩ = some (.bool false) ∧ w3.cell? ⟨w.heap.size, 1, none⟩ = some (.slice none 0 0) ∧ w3.cell? ⟨w.heap.size, 2, none⟩ = some (.bool false) ∧ w3.cell? ⟨w.heap.size, 3, none⟩ = some (.slice none 0 0) ∧ w3.frozen? ⟨w.heap.size, 0, none⟩ = false ∧ w3.frozen? ⟨w.heap.size, 1, none⟩ = false ∧ w3.frozen? ⟨w.heap.size, 2, none⟩ = false ∧ w3.frozen? ⟨w.heap.size, 3, none⟩ = false := ⟨(Bo.out.ext (hy2.out.trans hy3.out)).c 0, (Bo.out.ext (hy2.out.trans hy3.out)).c 1, (Bo.out.ext (hy2.out.trans hy3.out)).c 2, (Bo.out.ext (hy2.out.trans hy3.out)).c 3, (Bo.out.ext (hy2.out.trans hy3.out)).fr 0, (Bo.out.ext (hy2.out.trans hy3.out)).fr 1, (Bo.out.ext (hy2.out.trans hy3.out)).fr 2, (Bo.out.ext (hy2.out.trans hy3.out)).fr 3⟩
      go_upto_region 12 with fail
      clear f3_0 f3_1 f3_2 f3_3 f3_4 f3_5 f3_6 f3_7
      go_cut [8] (fun v8 wx => ∃ (g8c : Nat)  (b2q : Bool) (A2q : Option Addr) (n2q c2q : Nat), v8 = .pointer (some ⟨g8c, 0, none⟩) ∧ w3.heap.size ≤ g8c ∧ Bk 27 wx (w.heap.size) #[.bool false, .slice none 0 0, .bool false, .slice none 0 0] ∧ Bk 27 wx (g8c) #[.bool b2, .slice A2 n2 c2, .bool b2q, .slice A2q n2q c2q] ∧ Ci K wx w.heap.size b2 A2 n2 c2 N ∧ Ci 22 wx w.heap.size b2q A2q n2q c2q 1 ∧ Ext w wx)
      case first =>
        refine wp_region_held_drew (S := fun w' => Ext w w' ∧ Bk 24 w' (w2.heap.size) #[.bool b2, .slice A2 n2 c2]) (by kernel_rfl) ⟨(X3.out.trans (Ext.refl _).drew), (Bn.out.ext (Ext.refl _).drew)⟩ (fun hS0 => ?_)
        change wpAnyH _ _ _ _ _ 6 #[false, false, false, false, false, false] _ _
        refine drawn_load 0 38 24 (.tmp 6) (w2.heap.size) 24 #[.bool b2, .slice A2 n2 c2] (0, 0) _ (by kernel_rfl) rfl (fun w' hS => hS.2.h) Try.underlying24 rfl info_int_s (by kernel_rfl) (by kernel_rfl) (by kernel_rfl) (fun _ _ _ _ h => h) hS0 ?_
        simp only [Act.put, List.setIfInBounds_toArray, List.set_cons_zero, List.set_cons_succ]
        refine wpAnyH_ready (rs := [1, 4]) (by kernel_rfl) (by simp) ?_
        refine drawn_call1 1 (some 39) (.const (.int .i64 1)) (ts := #[2]) (by kernel_rfl) (enters_of Try.func37 (by kernel_rfl) rfl) rfl (zsmall_v (n := 1) (by omega) (by omega)) (fun E v1 hh => ?_) ?_
        · skip
          obtain ⟨b1q, A1q, n1q, c1q, rfl, o1, hx1⟩ := hh
          refine ⟨_, rfl, ⟨((X3.out.trans (Ext.refl _).drew).trans hx1), (Bn.out.ext ((Ext.refl _).drew.trans hx1))⟩, ?_⟩
          simp only [Act.put, List.setIfInBounds_toArray, List.set_cons_zero, List.set_cons_succ]
          refine wpAnyH_ready (rs := [2, 4]) (by kernel_rfl) (by simp) ?_
          refine drawn_call1 2 (some 40) (.tmp 39) (ts := #[35]) (by kernel_rfl) (enters_of Try.func44 (by kernel_rfl) rfl) rfl (zint_v o1 (by omega)) (fun E v2 hh => ?_) ?_
          · skip
            obtain ⟨b2q, A2q, n2q, c2q, rfl, o2, hx2⟩ := hh
            refine ⟨_, rfl, ⟨(((X3.out.trans (Ext.refl _).drew).trans hx1).trans hx2), (Bn.out.ext (((Ext.refl _).drew.trans hx1).trans hx2))⟩, ?_⟩
            simp only [Act.put, List.setIfInBounds_toArray, List.set_cons_zero, List.set_cons_succ]
            refine drawn_free 3 41 (v := ?v3_4) (.build 27 #[(0, .tmp 38), (1, .tmp 40)]) (by kernel_rfl) ?hy3_4 (by kernel_rfl) (by kernel_rfl) (by kernel_rfl) (fun _ _ _ _ h => h) ⟨(((X3.out.trans (Ext.refl _).drew).trans hx1).trans hx2), (Bn.out.ext (((Ext.refl _).drew.trans hx1).trans hx2))⟩ ?hr3_4
            case hy3_4 => (intro o ho w' hS; unfold execOp; simp only [ho]; go_simp; try with_reducible rfl)
            simp only [Act.put, List.setIfInBounds_toArray, List.set_cons_zero, List.set_cons_succ]
            refine wpAnyH_ready (rs := [4]) (by kernel_rfl) (by simp) ?_
            refine drawn_alloc 4 (some 8) (by kernel_rfl) alloc_rat (fun g4 v4 hb4 hx4 hg4 => ⟨⟨((((X3.out.trans (Ext.refl _).drew).trans hx1).trans hx2).trans hx4), (Bn.out.ext ((((Ext.refl _).drew.trans hx1).trans hx2).trans hx4))⟩, ?_⟩) ?_
            · skip
              simp only [Act.put, List.setIfInBounds_toArray, List.set_cons_zero, List.set_cons_succ]
              refine wpAnyH_ready (rs := [5]) (by kernel_rfl) (by simp) ?_
              have hq5 := (show Bk 27 v4 g4 #[.bool false, .slice none 0 0, .bool false, .slice none 0 0] from hb4)
              refine drawn_store 5 27 (.tmp 8) (.tmp 41) (g4) #[.bool b2, .slice A2 n2 c2, .bool b2q, .slice A2q n2q c2q] #[.bool false, .slice none 0 0, .bool false, .slice none 0 0] 27 (by kernel_rfl) rfl rfl hq5.h info_rat rfl one_four (fun v5 hb5 hg5 => ⟨⟨(((((X3.out.trans (Ext.refl _).drew).trans hx1).trans hx2).trans hx4).gb hg5 (by have h := (((X3.out.trans (Ext.refl _).drew).trans hx1).trans hx2).size; have h1 := hg4; omega)), ((Bn.out.ext ((((Ext.refl _).drew.trans hx1).trans hx2).trans hx4)).grown hg5 (by have h0 := (Nat.lt_of_lt_of_le Bn.out.lt (Nat.le_trans (Nat.le_trans (Ext.refl _).drew.size hx1.size) hx2.size)); have h1 := hg4; omega))⟩, ?_⟩) ?_
              · skip
                simp only [Act.put, List.setIfInBounds_toArray, List.set_cons_zero, List.set_cons_succ]
                refine wpAnyH_done (by kernel_rfl) ?_ _
                go_step
                go_step
                go_meet
                case rel => exact ⟨_, _, _, _, _, rfl, (Nat.le_trans (Nat.le_trans (Nat.le_trans (Ext.refl _).drew.size hx1.size) hx2.size) hg4), ((Bo.out.ext (((((hy2.out.trans hy3.out).trans (Ext.refl _).drew).trans hx1).trans hx2).trans hx4)).grown hg5 (by have h0 := (Nat.lt_of_lt_of_le Bo.out.lt (Nat.le_trans (Nat.le_trans (Nat.le_trans (Nat.le_trans hy2.out.size hy3.out.size) (Ext.refl _).drew.size) hx1.size) hx2.size)); have h1 := hg4; omega)), (show Bk 27 v5 (g4) #[.bool b2, .slice A2 n2 c2, .bool b2q, .slice A2q n2q c2q] from hb5), ((O2.out.ext ((((hy3.out.trans (Ext.refl _).drew).trans hx1).trans hx2).trans hx4)).gbk hq5 (by decide) hg5), (((o2.mono ((X3.out.trans (Ext.refl _).drew).trans hx1).size).ext hx4).gbk hq5 (by decide) hg5), (((((X3.out.trans (Ext.refl _).drew).trans hx1).trans hx2).trans hx4).gb hg5 (by have h := (((X3.out.trans (Ext.refl _).drew).trans hx1).trans hx2).size; have h1 := hg4; omega))⟩
              exact drawn_nil
            exact drawn_nil
          refine drawn_alloc 4 (some 8) (by kernel_rfl) alloc_rat (fun g4 v4 hb4 hx4 hg4 => ⟨⟨(((X3.out.trans (Ext.refl _).drew).trans hx1).trans hx4), (Bn.out.ext (((Ext.refl _).drew.trans hx1).trans hx4))⟩, ?_⟩) ?_
          · skip
            simp only [Act.put, List.setIfInBounds_toArray, List.set_cons_zero, List.set_cons_succ]
            refine wpAnyH_ready (rs := [2]) (by kernel_rfl) (by simp) ?_
            refine drawn_call1 2 (some 40) (.tmp 39) (ts := #[35]) (by kernel_rfl) (enters_of Try.func44 (by kernel_rfl) rfl) rfl (zint_v (o1.ext hx4) (by omega)) (fun E v2 hh => ?_) ?_
            · skip
              obtain ⟨b2q, A2q, n2q, c2q, rfl, o2, hx2⟩ := hh
              refine ⟨_, rfl, ⟨((((X3.out.trans (Ext.refl _).drew).trans hx1).trans hx4).trans hx2), (Bn.out.ext ((((Ext.refl _).drew.trans hx1).trans hx4).trans hx2))⟩, ?_⟩
              simp only [Act.put, List.setIfInBounds_toArray, List.set_cons_zero, List.set_cons_succ]
              refine drawn_free 3 41 (v := ?v3_5) (.build 27 #[(0, .tmp 38), (1, .tmp 40)]) (by kernel_rfl) ?hy3_5 (by kernel_rfl) (by kernel_rfl) (by kernel_rfl) (fun _ _ _ _ h => h) ⟨((((X3.out.trans (Ext.refl _).drew).trans hx1).trans hx4).trans hx2), (Bn.out.ext ((((Ext.refl _).drew.trans hx1).trans hx4).trans hx2))⟩ ?hr3_5
              case hy3_5 => (intro o ho w' hS; unfold execOp; simp only [ho]; go_simp; try with_reducible rfl)
              simp only [Act.put, List.setIfInBounds_toArray, List.set_cons_zero, List.set_cons_succ]
              refine wpAnyH_ready (rs := [5]) (by kernel_rfl) (by simp) ?_
              have hq5 := ((show Bk 27 v4 g4 #[.bool false, .slice none 0 0, .bool false, .slice none 0 0] from hb4).ext hx2)
              refine drawn_store 5 27 (.tmp 8) (.tmp 41) (g4) #[.bool b2, .slice A2 n2 c2, .bool b2q, .slice A2q n2q c2q] #[.bool false, .slice none 0 0, .bool false, .slice none 0 0] 27 (by kernel_rfl) rfl rfl hq5.h info_rat rfl one_four (fun v5 hb5 hg5 => ⟨⟨(((((X3.out.trans (Ext.refl _).drew).trans hx1).trans hx4).trans hx2).gb hg5 (by have h := ((X3.out.trans (Ext.refl _).drew).trans hx1).size; have h1 := hg4; omega)), ((Bn.out.ext ((((Ext.refl _).drew.trans hx1).trans hx4).trans hx2)).grown hg5 (by have h0 := (Nat.lt_of_lt_of_le Bn.out.lt (Nat.le_trans (Ext.refl _).drew.size hx1.size)); have h1 := hg4; omega))⟩, ?_⟩) ?_
              · skip
                simp only [Act.put, List.setIfInBounds_toArray, List.set_cons_zero, List.set_cons_succ]
                refine wpAnyH_done (by kernel_rfl) ?_ _
                go_step
                go_step
                go_meet
                case rel => exact ⟨_, _, _, _, _, rfl, (Nat.le_trans (Nat.le_trans (Ext.refl _).drew.size hx1.size) hg4), ((Bo.out.ext (((((hy2.out.trans hy3.out).trans (Ext.refl _).drew).trans hx1).trans hx4).trans hx2)).grown hg5 (by have h0 := (Nat.lt_of_lt_of_le Bo.out.lt (Nat.le_trans (Nat.le_trans (Nat.le_trans hy2.out.size hy3.out.size) (Ext.refl _).drew.size) hx1.size)); have h1 := hg4; omega)), (show Bk 27 v5 (g4) #[.bool b2, .slice A2 n2 c2, .bool b2q, .slice A2q n2q c2q] from hb5), ((O2.out.ext ((((hy3.out.trans (Ext.refl _).drew).trans hx1).trans hx4).trans hx2)).gbk hq5 (by decide) hg5), ((o2.mono (((X3.out.trans (Ext.refl _).drew).trans hx1).trans hx4).size).gbk hq5 (by decide) hg5), (((((X3.out.trans (Ext.refl _).drew).trans hx1).trans hx4).trans hx2).gb hg5 (by have h := ((X3.out.trans (Ext.refl _).drew).trans hx1).size; have h1 := hg4; omega))⟩
              exact drawn_nil
            exact drawn_nil
          exact drawn_nil
        refine drawn_alloc 4 (some 8) (by kernel_rfl) alloc_rat (fun g4 v4 hb4 hx4 hg4 => ⟨⟨((X3.out.trans (Ext.refl _).drew).trans hx4), (Bn.out.ext ((Ext.refl _).drew.trans hx4))⟩, ?_⟩) ?_
        · skip
          simp only [Act.put, List.setIfInBounds_toArray, List.set_cons_zero, List.set_cons_succ]
          refine wpAnyH_ready (rs := [1]) (by kernel_rfl) (by simp) ?_
          refine drawn_call1 1 (some 39) (.const (.int .i64 1)) (ts := #[2]) (by kernel_rfl) (enters_of Try.func37 (by kernel_rfl) rfl) rfl (zsmall_v (n := 1) (by omega) (by omega)) (fun E v1 hh => ?_) ?_
          · skip
            obtain ⟨b1q, A1q, n1q, c1q, rfl, o1, hx1⟩ := hh
            refine ⟨_, rfl, ⟨(((X3.out.trans (Ext.refl _).drew).trans hx4).trans hx1), (Bn.out.ext (((Ext.refl _).drew.trans hx4).trans hx1))⟩, ?_⟩
            simp only [Act.put, List.setIfInBounds_toArray, List.set_cons_zero, List.set_cons_succ]
            refine wpAnyH_ready (rs := [2]) (by kernel_rfl) (by simp) ?_
            refine drawn_call1 2 (some 40) (.tmp 39) (ts := #[35]) (by kernel_rfl) (enters_of Try.func44 (by kernel_rfl) rfl) rfl (zint_v o1 (by omega)) (fun E v2 hh => ?_) ?_
            · skip
              obtain ⟨b2q, A2q, n2q, c2q, rfl, o2, hx2⟩ := hh
              refine ⟨_, rfl, ⟨((((X3.out.trans (Ext.refl _).drew).trans hx4).trans hx1).trans hx2), (Bn.out.ext ((((Ext.refl _).drew.trans hx4).trans hx1).trans hx2))⟩, ?_⟩
              simp only [Act.put, List.setIfInBounds_toArray, List.set_cons_zero, List.set_cons_succ]
              refine drawn_free 3 41 (v := ?v3_6) (.build 27 #[(0, .tmp 38), (1, .tmp 40)]) (by kernel_rfl) ?hy3_6 (by kernel_rfl) (by kernel_rfl) (by kernel_rfl) (fun _ _ _ _ h => h) ⟨((((X3.out.trans (Ext.refl _).drew).trans hx4).trans hx1).trans hx2), (Bn.out.ext ((((Ext.refl _).drew.trans hx4).trans hx1).trans hx2))⟩ ?hr3_6
              case hy3_6 => (intro o ho w' hS; unfold execOp; simp only [ho]; go_simp; try with_reducible rfl)
              simp only [Act.put, List.setIfInBounds_toArray, List.set_cons_zero, List.set_cons_succ]
              refine wpAnyH_ready (rs := [5]) (by kernel_rfl) (by simp) ?_
              have hq5 := ((show Bk 27 v4 g4 #[.bool false, .slice none 0 0, .bool false, .slice none 0 0] from hb4).ext (hx1.trans hx2))
              refine drawn_store 5 27 (.tmp 8) (.tmp 41) (g4) #[.bool b2, .slice A2 n2 c2, .bool b2q, .slice A2q n2q c2q] #[.bool false, .slice none 0 0, .bool false, .slice none 0 0] 27 (by kernel_rfl) rfl rfl hq5.h info_rat rfl one_four (fun v5 hb5 hg5 => ⟨⟨(((((X3.out.trans (Ext.refl _).drew).trans hx4).trans hx1).trans hx2).gb hg5 (by have h := (X3.out.trans (Ext.refl _).drew).size; have h1 := hg4; omega)), ((Bn.out.ext ((((Ext.refl _).drew.trans hx4).trans hx1).trans hx2)).grown hg5 (by have h0 := (Nat.lt_of_lt_of_le Bn.out.lt (Ext.refl _).drew.size); have h1 := hg4; omega))⟩, ?_⟩) ?_
              · skip
                simp only [Act.put, List.setIfInBounds_toArray, List.set_cons_zero, List.set_cons_succ]
                refine wpAnyH_done (by kernel_rfl) ?_ _
                go_step
                go_step
                go_meet
                case rel => exact ⟨_, _, _, _, _, rfl, (Nat.le_trans (Ext.refl _).drew.size hg4), ((Bo.out.ext (((((hy2.out.trans hy3.out).trans (Ext.refl _).drew).trans hx4).trans hx1).trans hx2)).grown hg5 (by have h0 := (Nat.lt_of_lt_of_le Bo.out.lt (Nat.le_trans (Nat.le_trans hy2.out.size hy3.out.size) (Ext.refl _).drew.size)); have h1 := hg4; omega)), (show Bk 27 v5 (g4) #[.bool b2, .slice A2 n2 c2, .bool b2q, .slice A2q n2q c2q] from hb5), ((O2.out.ext ((((hy3.out.trans (Ext.refl _).drew).trans hx4).trans hx1).trans hx2)).gbk hq5 (by decide) hg5), ((o2.mono (((X3.out.trans (Ext.refl _).drew).trans hx4).trans hx1).size).gbk hq5 (by decide) hg5), (((((X3.out.trans (Ext.refl _).drew).trans hx4).trans hx1).trans hx2).gb hg5 (by have h := (X3.out.trans (Ext.refl _).drew).size; have h1 := hg4; omega))⟩
              exact drawn_nil
            exact drawn_nil
          exact drawn_nil
        exact drawn_nil
      case rest =>
      obtain ⟨g8c, b2q, A2q, n2q, c2q, rfl, hgex4, Boc4, Bxc4, Onc4, Ooic4, Xc4⟩ := hcut
      obtain ⟨w4, hw4⟩ : ∃ w4, w4 = wc := ⟨_, rfl⟩
      subst hw4
      have HBoc4 := hid Boc4
      clear Boc4
      have HBxc4 := hid Bxc4
      clear Bxc4
      have HOnc4 := hid Onc4
      clear Onc4
      have HOoic4 := hid Ooic4
      clear Ooic4
      have X4 := hid Xc4
      clear Xc4
      go_upto_region 15 with (first
        | ((go_at_call 47); (with_reducible refine (H2.out _).mono ?_); rintro E5 w5 ⟨b5, A5, n5, c5, rfl, o5, hr5⟩; have X5 := hid (X4.out.trans hr5); have hy5 := hid hr5; clear hr5; have O5 := hid (o5.mono X4.out.size); clear o5))
      have hy6 := hid ((Ext.refl w5).alloc (.cells #[.bool b5, .slice A5 n5 c5] 24))
      have Bd_ := (Bk.new w5 24 #[.bool b5, .slice A5 n5 c5])
      have Bd := hid Bd_
      clear Bd_
      generalize (w5.alloc (.cells #[.bool b5, .slice A5 n5 c5] 24)) = w6 at *
      have X6 := hid (X5.out.trans hy6.out)
      obtain ⟨f6_0, f6_1, f6_2, f6_3, f6_4, f6_5, f6_6, f6_7, f6_8, f6_9⟩ : w6.cell? ⟨w5.heap.size, 0, none⟩ = some (.bool b5) ∧ w6.cell? ⟨w5.heap.size, 1, none⟩ = some (.slice A5 n5 c5) ∧ w6.cell? ⟨w.heap.size, 0, none⟩ = some (.bool false) ∧ w6.cell? ⟨w.heap.size, 1, none⟩ = some (.slice none 0 0) ∧ w6.cell? ⟨w.heap.size, 2, none⟩ = some (.bool false) ∧ w6.cell? ⟨w.heap.size, 3, none⟩ = some (.slice none 0 0) ∧ w6.frozen? ⟨w.heap.size, 0, none⟩ = false ∧ w6.frozen? ⟨w.heap.size, 1, none⟩ = false ∧ w6.frozen? ⟨w.heap.size, 2, none⟩ = false ∧ w6.frozen? ⟨w.heap.size, 3, none⟩ = false := ⟨Bd.out.c 0, Bd.out.c 1, (HBoc4.out.ext (hy5.out.trans hy6.out)).c 0, (HBoc4.out.ext (hy5.out.trans hy6.out)).c 1, (HBoc4.out.ext (hy5.out.trans hy6.out)).c 2, (HBoc4.out.ext (hy5.out.trans hy6.out)).c 3, (HBoc4.out.ext (hy5.out.trans hy6.out)).fr 0, (HBoc4.out.ext (hy5.out.trans hy6.out)).fr 1, (HBoc4.out.ext (hy5.out.trans hy6.out)).fr 2, (HBoc4.out.ext (hy5.out.trans hy6.out)).fr 3⟩
      go_wp2_with fail
      clear f6_0 f6_1 f6_2 f6_3 f6_4 f6_5 f6_6 f6_7 f6_8 f6_9
      have HG7 := hid (show w6.grownBy ((((w6.setCell ⟨w.heap.size, 0, none⟩ (.bool false)).setCell ⟨w.heap.size, 1, none⟩ (.slice none 0 0)).setCell ⟨w.heap.size, 2, none⟩ (.bool false)).setCell ⟨w.heap.size, 3, none⟩ (.slice none 0 0)) (some (w.heap.size)) from gb4 w6 (w.heap.size) (.bool false) (.slice none 0 0) (.bool false) (.slice none 0 0))
      have HO7 := hid (HBoc4.out.ext (hy5.out.trans hy6.out))
      have HP7 := hid (show Bk 27 ((((w6.setCell ⟨w.heap.size, 0, none⟩ (.bool false)).setCell ⟨w.heap.size, 1, none⟩ (.slice none 0 0)).setCell ⟨w.heap.size, 2, none⟩ (.bool false)).setCell ⟨w.heap.size, 3, none⟩ (.slice none 0 0)) (w.heap.size) #[.bool false, .slice none 0 0, .bool false, .slice none 0 0] from (HBoc4.out.ext (hy5.out.trans hy6.out)).put4 (.bool false) (.slice none 0 0) (.bool false) (.slice none 0 0))
      generalize ((((w6.setCell ⟨w.heap.size, 0, none⟩ (.bool false)).setCell ⟨w.heap.size, 1, none⟩ (.slice none 0 0)).setCell ⟨w.heap.size, 2, none⟩ (.bool false)).setCell ⟨w.heap.size, 3, none⟩ (.slice none 0 0)) = w7 at *
      have X7 := hid (X6.out.gb HG7.out (by omega))
      refine ret_re rfl HP7.out rfl rfl rfl ⟨rfl, X7.out⟩

set_option maxHeartbeats 6400000 in
set_option maxRecDepth 100000 in
theorem dparse_cZ {w : World} {s : ByteArray} {K : Nat} {N D : Int} {a b : List Nat} (hs : s.size ≤ 200) (hK : K ≤ 200) (ha : 47 ∉ a) (hl : byt s = a ++ 47 :: b)
    (h1 : ∀ w (d : ByteArray), byt d = a → Calls Try.prog 47 #[.string d] w (RetIE K N 0 w)) (h2 : ∀ w (d : ByteArray), byt d = b → Calls Try.prog 47 #[.string d] w (RetIE K D 0 w)) (h0 : D = 0) :
    Calls Try.prog 19 #[.string s] w (RetRN 4 w) := by
  have hs' : ¬ (20000 : Int) < (s.size : Int) := by omega
  have hlen := byt_len s
  have hll : a.length + (b.length + 1) = s.size := by rw [← hlen, hl, List.length_append, List.length_cons]
  have hd : byt (s.extract 0 a.length) = a := by rw [byt_to6, hl]; simp
  have he : byt (s.extract (a.length + 1) s.size) = b := by
    rw [byt_from6, hl, List.drop_append, List.drop_eq_nil_of_le (by omega), List.nil_append, show a.length + 1 - a.length = 1 by omega]
    rfl
  have hat : (byt s)[a.length]? = some 47 := by rw [hl, List.getElem?_append_right (by omega), Nat.sub_self]; rfl
  have hno : ∀ i x, i < a.length → (byt s)[i]? = some x → x ≠ 47 := fun i x hi hx e => ha (by
    subst e
    rw [hl, List.getElem?_append_left hi] at hx
    exact List.mem_of_getElem? hx)
  have H1 := hid (fun w => h1 w _ hd)
  have H2 := hid (fun w => h2 w _ he)
  have hsg := hid (show sg D = 0 by rw [h0]; rfl)
  have HNO := hid hno
  have hix := idx_val hat rfl
  clear h1 hd ha hl hlen he h2 h0 hat hno
  generalize a.length = L at *
  have c1 : (0 : Int) ≤ (L : Int) := by omega
  have c2 : (L : Int) ≤ (s.size : Int) := by omega
  have c3 : (0 : Int) ≤ (L : Int) + 1 := by omega
  have c4 : (L : Int) + 1 ≤ (s.size : Int) := by omega
  have hlt0 : L < s.size := by omega
  have hlt0' : (L : Int) < (s.size : Int) := by omega
  go_enter Try.func19, Try.ntmps19
  go_upto_region 1 with fail
  have hy1 := hid ((Ext.refl w).alloc (.cells #[.bool false, .slice none 0 0, .bool false, .slice none 0 0] 27))
  have Bo_ := (Bk.new w 27 #[.bool false, .slice none 0 0, .bool false, .slice none 0 0])
  have Bo := hid Bo_
  clear Bo_
  generalize (w.alloc (.cells #[.bool false, .slice none 0 0, .bool false, .slice none 0 0] 27)) = w1 at *
  have X1 := hid ((Ext.refl _).trans hy1.out)
  go_wp2_with fail
  go_loopw [4, 5] (fun sa si wr => ∃ i : Nat, sa = .int .i64 s.size ∧ i ≤ L ∧ si = .int .i64 i ∧ w1 = wr) (fun _ si _ => L - (intOf si).toNat)
  case atStart => exact ⟨0, rfl, Nat.zero_le _, rfl, rfl⟩
  case round =>
    obtain ⟨i, rfl, hi, rfl, hw⟩ := hrel
    subst hw
    by_cases hlt : i < L
    · have hkl : i < (byt s).length := by rw [byt_len]; omega
      have hiS : i < s.size := by omega
      obtain ⟨x, hx⟩ : ∃ x, (byt s)[i]? = some x := ⟨_, List.getElem?_eq_getElem hkl⟩
      have h47 := HNO.out i x hlt hx
      have hiy := idx_val hx rfl
      have hxa : ((x : Int) == 47) = false := beq_eq_false_iff_ne.2 (by omega)
      clear hx hkl h47 hix
      go_wp2_with fail
      exact ⟨⟨i + 1, by first | trivial | rfl, by omega, by go_num, by trivial⟩, by simp [intOf]; omega⟩
    · obtain rfl : i = L := by omega
      go_upto_region 10 with (first
        | ((go_at_call 47); (with_reducible refine (H1.out _).mono ?_); rintro E2 w2 ⟨b2, A2, n2, c2, rfl, o2, hr2⟩; have X2 := hid (X1.out.trans hr2); have hy2 := hid hr2; clear hr2; have O2 := hid (o2.mono X1.out.size); clear o2))
      have hy3 := hid ((Ext.refl w2).alloc (.cells #[.bool b2, .slice A2 n2 c2] 24))
      have Bn_ := (Bk.new w2 24 #[.bool b2, .slice A2 n2 c2])
      have Bn := hid Bn_
      clear Bn_
      generalize (w2.alloc (.cells #[.bool b2, .slice A2 n2 c2] 24)) = w3 at *
      have X3 := hid (X2.out.trans hy3.out)
      obtain ⟨f3_0, f3_1, f3_2, f3_3, f3_4, f3_5, f3_6, f3_7⟩ : w3.cell? ⟨w.heap.size, 0, none⟩ = some (.bool false) ∧ w3.cell? ⟨w.heap.size, 1, none⟩ = some (.slice none 0 0) ∧ w3.cell? ⟨w.heap.size, 2, none⟩ = some (.bool false) ∧ w3.cell? ⟨w.heap.size, 3, none⟩ = some (.slice none 0 0) ∧ w3.frozen? ⟨w.heap.size, 0, none⟩ = false ∧ w3.frozen? ⟨w.heap.size, 1, none⟩ = false ∧ w3.frozen? ⟨w.heap.size, 2, none⟩ = false ∧ w3.frozen? ⟨w.heap.size, 3, none⟩ = false := ⟨(Bo.out.ext (hy2.out.trans hy3.out)).c 0, (Bo.out.ext (hy2.out.trans hy3.out)).c 1, (Bo.out.ext (hy2.out.trans hy3.out)).c 2, (Bo.out.ext (hy2.out.trans hy3.out)).c 3, (Bo.out.ext (hy2.out.trans hy3.out)).fr 0, (Bo.out.ext (hy2.out.trans hy3.out)).fr 1, (Bo.out.ext (hy2.out.trans hy3.out)).fr 2, (Bo.out.ext (hy2.out.trans hy3.out)).fr 3⟩
      go_upto_region 12 with fail
      clear f3_0 f3_1 f3_2 f3_3 f3_4 f3_5 f3_6 f3_7
      go_cut [8] (fun v8 wx => ∃ (g8c : Nat)  (b2q : Bool) (A2q : Option Addr) (n2q c2q : Nat), v8 = .pointer (some ⟨g8c, 0, none⟩) ∧ w3.heap.size ≤ g8c ∧ Bk 27 wx (w.heap.size) #[.bool false, .slice none 0 0, .bool false, .slice none 0 0] ∧ Bk 27 wx (g8c) #[.bool b2, .slice A2 n2 c2, .bool b2q, .slice A2q n2q c2q] ∧ Ci K wx w.heap.size b2 A2 n2 c2 N ∧ Ci 22 wx w.heap.size b2q A2q n2q c2q 1 ∧ Ext w wx)
      case first =>
        refine wp_region_held_drew (S := fun w' => Ext w w' ∧ Bk 24 w' (w2.heap.size) #[.bool b2, .slice A2 n2 c2]) (by kernel_rfl) ⟨(X3.out.trans (Ext.refl _).drew), (Bn.out.ext (Ext.refl _).drew)⟩ (fun hS0 => ?_)
        change wpAnyH _ _ _ _ _ 6 #[false, false, false, false, false, false] _ _
        refine drawn_load 0 38 24 (.tmp 6) (w2.heap.size) 24 #[.bool b2, .slice A2 n2 c2] (0, 0) _ (by kernel_rfl) rfl (fun w' hS => hS.2.h) Try.underlying24 rfl info_int_s (by kernel_rfl) (by kernel_rfl) (by kernel_rfl) (fun _ _ _ _ h => h) hS0 ?_
        simp only [Act.put, List.setIfInBounds_toArray, List.set_cons_zero, List.set_cons_succ]
        refine wpAnyH_ready (rs := [1, 4]) (by kernel_rfl) (by simp) ?_
        refine drawn_call1 1 (some 39) (.const (.int .i64 1)) (ts := #[2]) (by kernel_rfl) (enters_of Try.func37 (by kernel_rfl) rfl) rfl (zsmall_v (n := 1) (by omega) (by omega)) (fun E v1 hh => ?_) ?_
        · skip
          obtain ⟨b1q, A1q, n1q, c1q, rfl, o1, hx1⟩ := hh
          refine ⟨_, rfl, ⟨((X3.out.trans (Ext.refl _).drew).trans hx1), (Bn.out.ext ((Ext.refl _).drew.trans hx1))⟩, ?_⟩
          simp only [Act.put, List.setIfInBounds_toArray, List.set_cons_zero, List.set_cons_succ]
          refine wpAnyH_ready (rs := [2, 4]) (by kernel_rfl) (by simp) ?_
          refine drawn_call1 2 (some 40) (.tmp 39) (ts := #[35]) (by kernel_rfl) (enters_of Try.func44 (by kernel_rfl) rfl) rfl (zint_v o1 (by omega)) (fun E v2 hh => ?_) ?_
          · skip
            obtain ⟨b2q, A2q, n2q, c2q, rfl, o2, hx2⟩ := hh
            refine ⟨_, rfl, ⟨(((X3.out.trans (Ext.refl _).drew).trans hx1).trans hx2), (Bn.out.ext (((Ext.refl _).drew.trans hx1).trans hx2))⟩, ?_⟩
            simp only [Act.put, List.setIfInBounds_toArray, List.set_cons_zero, List.set_cons_succ]
            refine drawn_free 3 41 (v := ?v3_7) (.build 27 #[(0, .tmp 38), (1, .tmp 40)]) (by kernel_rfl) ?hy3_7 (by kernel_rfl) (by kernel_rfl) (by kernel_rfl) (fun _ _ _ _ h => h) ⟨(((X3.out.trans (Ext.refl _).drew).trans hx1).trans hx2), (Bn.out.ext (((Ext.refl _).drew.trans hx1).trans hx2))⟩ ?hr3_7
            case hy3_7 => (intro o ho w' hS; unfold execOp; simp only [ho]; go_simp; try with_reducible rfl)
            simp only [Act.put, List.setIfInBounds_toArray, List.set_cons_zero, List.set_cons_succ]
            refine wpAnyH_ready (rs := [4]) (by kernel_rfl) (by simp) ?_
            refine drawn_alloc 4 (some 8) (by kernel_rfl) alloc_rat (fun g4 v4 hb4 hx4 hg4 => ⟨⟨((((X3.out.trans (Ext.refl _).drew).trans hx1).trans hx2).trans hx4), (Bn.out.ext ((((Ext.refl _).drew.trans hx1).trans hx2).trans hx4))⟩, ?_⟩) ?_
            · skip
              simp only [Act.put, List.setIfInBounds_toArray, List.set_cons_zero, List.set_cons_succ]
              refine wpAnyH_ready (rs := [5]) (by kernel_rfl) (by simp) ?_
              have hq5 := (show Bk 27 v4 g4 #[.bool false, .slice none 0 0, .bool false, .slice none 0 0] from hb4)
              refine drawn_store 5 27 (.tmp 8) (.tmp 41) (g4) #[.bool b2, .slice A2 n2 c2, .bool b2q, .slice A2q n2q c2q] #[.bool false, .slice none 0 0, .bool false, .slice none 0 0] 27 (by kernel_rfl) rfl rfl hq5.h info_rat rfl one_four (fun v5 hb5 hg5 => ⟨⟨(((((X3.out.trans (Ext.refl _).drew).trans hx1).trans hx2).trans hx4).gb hg5 (by have h := (((X3.out.trans (Ext.refl _).drew).trans hx1).trans hx2).size; have h1 := hg4; omega)), ((Bn.out.ext ((((Ext.refl _).drew.trans hx1).trans hx2).trans hx4)).grown hg5 (by have h0 := (Nat.lt_of_lt_of_le Bn.out.lt (Nat.le_trans (Nat.le_trans (Ext.refl _).drew.size hx1.size) hx2.size)); have h1 := hg4; omega))⟩, ?_⟩) ?_
              · skip
                simp only [Act.put, List.setIfInBounds_toArray, List.set_cons_zero, List.set_cons_succ]
                refine wpAnyH_done (by kernel_rfl) ?_ _
                go_step
                go_step
                go_meet
                case rel => exact ⟨_, _, _, _, _, rfl, (Nat.le_trans (Nat.le_trans (Nat.le_trans (Ext.refl _).drew.size hx1.size) hx2.size) hg4), ((Bo.out.ext (((((hy2.out.trans hy3.out).trans (Ext.refl _).drew).trans hx1).trans hx2).trans hx4)).grown hg5 (by have h0 := (Nat.lt_of_lt_of_le Bo.out.lt (Nat.le_trans (Nat.le_trans (Nat.le_trans (Nat.le_trans hy2.out.size hy3.out.size) (Ext.refl _).drew.size) hx1.size) hx2.size)); have h1 := hg4; omega)), (show Bk 27 v5 (g4) #[.bool b2, .slice A2 n2 c2, .bool b2q, .slice A2q n2q c2q] from hb5), ((O2.out.ext ((((hy3.out.trans (Ext.refl _).drew).trans hx1).trans hx2).trans hx4)).gbk hq5 (by decide) hg5), (((o2.mono ((X3.out.trans (Ext.refl _).drew).trans hx1).size).ext hx4).gbk hq5 (by decide) hg5), (((((X3.out.trans (Ext.refl _).drew).trans hx1).trans hx2).trans hx4).gb hg5 (by have h := (((X3.out.trans (Ext.refl _).drew).trans hx1).trans hx2).size; have h1 := hg4; omega))⟩
              exact drawn_nil
            exact drawn_nil
          refine drawn_alloc 4 (some 8) (by kernel_rfl) alloc_rat (fun g4 v4 hb4 hx4 hg4 => ⟨⟨(((X3.out.trans (Ext.refl _).drew).trans hx1).trans hx4), (Bn.out.ext (((Ext.refl _).drew.trans hx1).trans hx4))⟩, ?_⟩) ?_
          · skip
            simp only [Act.put, List.setIfInBounds_toArray, List.set_cons_zero, List.set_cons_succ]
            refine wpAnyH_ready (rs := [2]) (by kernel_rfl) (by simp) ?_
            refine drawn_call1 2 (some 40) (.tmp 39) (ts := #[35]) (by kernel_rfl) (enters_of Try.func44 (by kernel_rfl) rfl) rfl (zint_v (o1.ext hx4) (by omega)) (fun E v2 hh => ?_) ?_
            · skip
              obtain ⟨b2q, A2q, n2q, c2q, rfl, o2, hx2⟩ := hh
              refine ⟨_, rfl, ⟨((((X3.out.trans (Ext.refl _).drew).trans hx1).trans hx4).trans hx2), (Bn.out.ext ((((Ext.refl _).drew.trans hx1).trans hx4).trans hx2))⟩, ?_⟩
              simp only [Act.put, List.setIfInBounds_toArray, List.set_cons_zero, List.set_cons_succ]
              refine drawn_free 3 41 (v := ?v3_8) (.build 27 #[(0, .tmp 38), (1, .tmp 40)]) (by kernel_rfl) ?hy3_8 (by kernel_rfl) (by kernel_rfl) (by kernel_rfl) (fun _ _ _ _ h => h) ⟨((((X3.out.trans (Ext.refl _).drew).trans hx1).trans hx4).trans hx2), (Bn.out.ext ((((Ext.refl _).drew.trans hx1).trans hx4).trans hx2))⟩ ?hr3_8
              case hy3_8 => (intro o ho w' hS; unfold execOp; simp only [ho]; go_simp; try with_reducible rfl)
              simp only [Act.put, List.setIfInBounds_toArray, List.set_cons_zero, List.set_cons_succ]
              refine wpAnyH_ready (rs := [5]) (by kernel_rfl) (by simp) ?_
              have hq5 := ((show Bk 27 v4 g4 #[.bool false, .slice none 0 0, .bool false, .slice none 0 0] from hb4).ext hx2)
              refine drawn_store 5 27 (.tmp 8) (.tmp 41) (g4) #[.bool b2, .slice A2 n2 c2, .bool b2q, .slice A2q n2q c2q] #[.bool false, .slice none 0 0, .bool false, .slice none 0 0] 27 (by kernel_rfl) rfl rfl hq5.h info_rat rfl one_four (fun v5 hb5 hg5 => ⟨⟨(((((X3.out.trans (Ext.refl _).drew).trans hx1).trans hx4).trans hx2).gb hg5 (by have h := ((X3.out.trans (Ext.refl _).drew).trans hx1).size; have h1 := hg4; omega)), ((Bn.out.ext ((((Ext.refl _).drew.trans hx1).trans hx4).trans hx2)).grown hg5 (by have h0 := (Nat.lt_of_lt_of_le Bn.out.lt (Nat.le_trans (Ext.refl _).drew.size hx1.size)); have h1 := hg4; omega))⟩, ?_⟩) ?_
              · skip
                simp only [Act.put, List.setIfInBounds_toArray, List.set_cons_zero, List.set_cons_succ]
                refine wpAnyH_done (by kernel_rfl) ?_ _
                go_step
                go_step
                go_meet
                case rel => exact ⟨_, _, _, _, _, rfl, (Nat.le_trans (Nat.le_trans (Ext.refl _).drew.size hx1.size) hg4), ((Bo.out.ext (((((hy2.out.trans hy3.out).trans (Ext.refl _).drew).trans hx1).trans hx4).trans hx2)).grown hg5 (by have h0 := (Nat.lt_of_lt_of_le Bo.out.lt (Nat.le_trans (Nat.le_trans (Nat.le_trans hy2.out.size hy3.out.size) (Ext.refl _).drew.size) hx1.size)); have h1 := hg4; omega)), (show Bk 27 v5 (g4) #[.bool b2, .slice A2 n2 c2, .bool b2q, .slice A2q n2q c2q] from hb5), ((O2.out.ext ((((hy3.out.trans (Ext.refl _).drew).trans hx1).trans hx4).trans hx2)).gbk hq5 (by decide) hg5), ((o2.mono (((X3.out.trans (Ext.refl _).drew).trans hx1).trans hx4).size).gbk hq5 (by decide) hg5), (((((X3.out.trans (Ext.refl _).drew).trans hx1).trans hx4).trans hx2).gb hg5 (by have h := ((X3.out.trans (Ext.refl _).drew).trans hx1).size; have h1 := hg4; omega))⟩
              exact drawn_nil
            exact drawn_nil
          exact drawn_nil
        refine drawn_alloc 4 (some 8) (by kernel_rfl) alloc_rat (fun g4 v4 hb4 hx4 hg4 => ⟨⟨((X3.out.trans (Ext.refl _).drew).trans hx4), (Bn.out.ext ((Ext.refl _).drew.trans hx4))⟩, ?_⟩) ?_
        · skip
          simp only [Act.put, List.setIfInBounds_toArray, List.set_cons_zero, List.set_cons_succ]
          refine wpAnyH_ready (rs := [1]) (by kernel_rfl) (by simp) ?_
          refine drawn_call1 1 (some 39) (.const (.int .i64 1)) (ts := #[2]) (by kernel_rfl) (enters_of Try.func37 (by kernel_rfl) rfl) rfl (zsmall_v (n := 1) (by omega) (by omega)) (fun E v1 hh => ?_) ?_
          · skip
            obtain ⟨b1q, A1q, n1q, c1q, rfl, o1, hx1⟩ := hh
            refine ⟨_, rfl, ⟨(((X3.out.trans (Ext.refl _).drew).trans hx4).trans hx1), (Bn.out.ext (((Ext.refl _).drew.trans hx4).trans hx1))⟩, ?_⟩
            simp only [Act.put, List.setIfInBounds_toArray, List.set_cons_zero, List.set_cons_succ]
            refine wpAnyH_ready (rs := [2]) (by kernel_rfl) (by simp) ?_
            refine drawn_call1 2 (some 40) (.tmp 39) (ts := #[35]) (by kernel_rfl) (enters_of Try.func44 (by kernel_rfl) rfl) rfl (zint_v o1 (by omega)) (fun E v2 hh => ?_) ?_
            · skip
              obtain ⟨b2q, A2q, n2q, c2q, rfl, o2, hx2⟩ := hh
              refine ⟨_, rfl, ⟨((((X3.out.trans (Ext.refl _).drew).trans hx4).trans hx1).trans hx2), (Bn.out.ext ((((Ext.refl _).drew.trans hx4).trans hx1).trans hx2))⟩, ?_⟩
              simp only [Act.put, List.setIfInBounds_toArray, List.set_cons_zero, List.set_cons_succ]
              refine drawn_free 3 41 (v := ?v3_9) (.build 27 #[(0, .tmp 38), (1, .tmp 40)]) (by kernel_rfl) ?hy3_9 (by kernel_rfl) (by kernel_rfl) (by kernel_rfl) (fun _ _ _ _ h => h) ⟨((((X3.out.trans (Ext.refl _).drew).trans hx4).trans hx1).trans hx2), (Bn.out.ext ((((Ext.refl _).drew.trans hx4).trans hx1).trans hx2))⟩ ?hr3_9
              case hy3_9 => (intro o ho w' hS; unfold execOp; simp only [ho]; go_simp; try with_reducible rfl)
              simp only [Act.put, List.setIfInBounds_toArray, List.set_cons_zero, List.set_cons_succ]
              refine wpAnyH_ready (rs := [5]) (by kernel_rfl) (by simp) ?_
              have hq5 := ((show Bk 27 v4 g4 #[.bool false, .slice none 0 0, .bool false, .slice none 0 0] from hb4).ext (hx1.trans hx2))
              refine drawn_store 5 27 (.tmp 8) (.tmp 41) (g4) #[.bool b2, .slice A2 n2 c2, .bool b2q, .slice A2q n2q c2q] #[.bool false, .slice none 0 0, .bool false, .slice none 0 0] 27 (by kernel_rfl) rfl rfl hq5.h info_rat rfl one_four (fun v5 hb5 hg5 => ⟨⟨(((((X3.out.trans (Ext.refl _).drew).trans hx4).trans hx1).trans hx2).gb hg5 (by have h := (X3.out.trans (Ext.refl _).drew).size; have h1 := hg4; omega)), ((Bn.out.ext ((((Ext.refl _).drew.trans hx4).trans hx1).trans hx2)).grown hg5 (by have h0 := (Nat.lt_of_lt_of_le Bn.out.lt (Ext.refl _).drew.size); have h1 := hg4; omega))⟩, ?_⟩) ?_
              · skip
                simp only [Act.put, List.setIfInBounds_toArray, List.set_cons_zero, List.set_cons_succ]
                refine wpAnyH_done (by kernel_rfl) ?_ _
                go_step
                go_step
                go_meet
                case rel => exact ⟨_, _, _, _, _, rfl, (Nat.le_trans (Ext.refl _).drew.size hg4), ((Bo.out.ext (((((hy2.out.trans hy3.out).trans (Ext.refl _).drew).trans hx4).trans hx1).trans hx2)).grown hg5 (by have h0 := (Nat.lt_of_lt_of_le Bo.out.lt (Nat.le_trans (Nat.le_trans hy2.out.size hy3.out.size) (Ext.refl _).drew.size)); have h1 := hg4; omega)), (show Bk 27 v5 (g4) #[.bool b2, .slice A2 n2 c2, .bool b2q, .slice A2q n2q c2q] from hb5), ((O2.out.ext ((((hy3.out.trans (Ext.refl _).drew).trans hx4).trans hx1).trans hx2)).gbk hq5 (by decide) hg5), ((o2.mono (((X3.out.trans (Ext.refl _).drew).trans hx4).trans hx1).size).gbk hq5 (by decide) hg5), (((((X3.out.trans (Ext.refl _).drew).trans hx4).trans hx1).trans hx2).gb hg5 (by have h := (X3.out.trans (Ext.refl _).drew).size; have h1 := hg4; omega))⟩
              exact drawn_nil
            exact drawn_nil
          exact drawn_nil
        exact drawn_nil
      case rest =>
      obtain ⟨g8c, b2q, A2q, n2q, c2q, rfl, hgex4, Boc4, Bxc4, Onc4, Ooic4, Xc4⟩ := hcut
      obtain ⟨w4, hw4⟩ : ∃ w4, w4 = wc := ⟨_, rfl⟩
      subst hw4
      have HBoc4 := hid Boc4
      clear Boc4
      have HBxc4 := hid Bxc4
      clear Bxc4
      have HOnc4 := hid Onc4
      clear Onc4
      have HOoic4 := hid Ooic4
      clear Ooic4
      have X4 := hid Xc4
      clear Xc4
      go_upto_region 15 with (first
        | ((go_at_call 47); (with_reducible refine (H2.out _).mono ?_); rintro E5 w5 ⟨b5, A5, n5, c5, rfl, o5, hr5⟩; have X5 := hid (X4.out.trans hr5); have hy5 := hid hr5; clear hr5; have O5 := hid (o5.mono X4.out.size); clear o5))
      have hy6 := hid ((Ext.refl w5).alloc (.cells #[.bool b5, .slice A5 n5 c5] 24))
      have Bd_ := (Bk.new w5 24 #[.bool b5, .slice A5 n5 c5])
      have Bd := hid Bd_
      clear Bd_
      generalize (w5.alloc (.cells #[.bool b5, .slice A5 n5 c5] 24)) = w6 at *
      have X6 := hid (X5.out.trans hy6.out)
      obtain ⟨f6_0, f6_1, f6_2, f6_3, f6_4, f6_5, f6_6, f6_7, f6_8, f6_9⟩ : w6.cell? ⟨w5.heap.size, 0, none⟩ = some (.bool b5) ∧ w6.cell? ⟨w5.heap.size, 1, none⟩ = some (.slice A5 n5 c5) ∧ w6.cell? ⟨w.heap.size, 0, none⟩ = some (.bool false) ∧ w6.cell? ⟨w.heap.size, 1, none⟩ = some (.slice none 0 0) ∧ w6.cell? ⟨w.heap.size, 2, none⟩ = some (.bool false) ∧ w6.cell? ⟨w.heap.size, 3, none⟩ = some (.slice none 0 0) ∧ w6.frozen? ⟨w.heap.size, 0, none⟩ = false ∧ w6.frozen? ⟨w.heap.size, 1, none⟩ = false ∧ w6.frozen? ⟨w.heap.size, 2, none⟩ = false ∧ w6.frozen? ⟨w.heap.size, 3, none⟩ = false := ⟨Bd.out.c 0, Bd.out.c 1, (HBoc4.out.ext (hy5.out.trans hy6.out)).c 0, (HBoc4.out.ext (hy5.out.trans hy6.out)).c 1, (HBoc4.out.ext (hy5.out.trans hy6.out)).c 2, (HBoc4.out.ext (hy5.out.trans hy6.out)).c 3, (HBoc4.out.ext (hy5.out.trans hy6.out)).fr 0, (HBoc4.out.ext (hy5.out.trans hy6.out)).fr 1, (HBoc4.out.ext (hy5.out.trans hy6.out)).fr 2, (HBoc4.out.ext (hy5.out.trans hy6.out)).fr 3⟩
      go_wp2_with (first
        | ((go_at_call 35); (with_reducible refine (zof_v (O5.out.ext hy6.out).iz (by omega)).mono ?_); rintro E7 w7 ⟨b7, A7, n7, c7, rfl, o7, hr7⟩; have X7 := hid (X6.out.trans hr7); have hy7 := hid hr7; clear hr7; have O7 := hid o7; clear o7; obtain ⟨f7_0, f7_1, f7_2, f7_3, f7_4, f7_5, f7_6, f7_7, f7_8, f7_9⟩ : w7.cell? ⟨w5.heap.size, 0, none⟩ = some (.bool b5) ∧ w7.cell? ⟨w5.heap.size, 1, none⟩ = some (.slice A5 n5 c5) ∧ w7.cell? ⟨w.heap.size, 0, none⟩ = some (.bool false) ∧ w7.cell? ⟨w.heap.size, 1, none⟩ = some (.slice none 0 0) ∧ w7.cell? ⟨w.heap.size, 2, none⟩ = some (.bool false) ∧ w7.cell? ⟨w.heap.size, 3, none⟩ = some (.slice none 0 0) ∧ w7.frozen? ⟨w.heap.size, 0, none⟩ = false ∧ w7.frozen? ⟨w.heap.size, 1, none⟩ = false ∧ w7.frozen? ⟨w.heap.size, 2, none⟩ = false ∧ w7.frozen? ⟨w.heap.size, 3, none⟩ = false := ⟨(Bd.out.ext hy7.out).c 0, (Bd.out.ext hy7.out).c 1, (HBoc4.out.ext ((hy5.out.trans hy6.out).trans hy7.out)).c 0, (HBoc4.out.ext ((hy5.out.trans hy6.out).trans hy7.out)).c 1, (HBoc4.out.ext ((hy5.out.trans hy6.out).trans hy7.out)).c 2, (HBoc4.out.ext ((hy5.out.trans hy6.out).trans hy7.out)).c 3, (HBoc4.out.ext ((hy5.out.trans hy6.out).trans hy7.out)).fr 0, (HBoc4.out.ext ((hy5.out.trans hy6.out).trans hy7.out)).fr 1, (HBoc4.out.ext ((hy5.out.trans hy6.out).trans hy7.out)).fr 2, (HBoc4.out.ext ((hy5.out.trans hy6.out).trans hy7.out)).fr 3⟩)
        | ((go_at_call 36); (with_reducible refine (zsign_is (v := 0) O7.out hsg.out).mono ?_); rintro E8 w8 ⟨rfl, hr8⟩; have X8 := hid (X7.out.trans hr8); have hy8 := hid hr8; clear hr8; obtain ⟨f8_0, f8_1, f8_2, f8_3, f8_4, f8_5, f8_6, f8_7, f8_8, f8_9⟩ : w8.cell? ⟨w5.heap.size, 0, none⟩ = some (.bool b5) ∧ w8.cell? ⟨w5.heap.size, 1, none⟩ = some (.slice A5 n5 c5) ∧ w8.cell? ⟨w.heap.size, 0, none⟩ = some (.bool false) ∧ w8.cell? ⟨w.heap.size, 1, none⟩ = some (.slice none 0 0) ∧ w8.cell? ⟨w.heap.size, 2, none⟩ = some (.bool false) ∧ w8.cell? ⟨w.heap.size, 3, none⟩ = some (.slice none 0 0) ∧ w8.frozen? ⟨w.heap.size, 0, none⟩ = false ∧ w8.frozen? ⟨w.heap.size, 1, none⟩ = false ∧ w8.frozen? ⟨w.heap.size, 2, none⟩ = false ∧ w8.frozen? ⟨w.heap.size, 3, none⟩ = false := ⟨(Bd.out.ext (hy7.out.trans hy8.out)).c 0, (Bd.out.ext (hy7.out.trans hy8.out)).c 1, (HBoc4.out.ext (((hy5.out.trans hy6.out).trans hy7.out).trans hy8.out)).c 0, (HBoc4.out.ext (((hy5.out.trans hy6.out).trans hy7.out).trans hy8.out)).c 1, (HBoc4.out.ext (((hy5.out.trans hy6.out).trans hy7.out).trans hy8.out)).c 2, (HBoc4.out.ext (((hy5.out.trans hy6.out).trans hy7.out).trans hy8.out)).c 3, (HBoc4.out.ext (((hy5.out.trans hy6.out).trans hy7.out).trans hy8.out)).fr 0, (HBoc4.out.ext (((hy5.out.trans hy6.out).trans hy7.out).trans hy8.out)).fr 1, (HBoc4.out.ext (((hy5.out.trans hy6.out).trans hy7.out).trans hy8.out)).fr 2, (HBoc4.out.ext (((hy5.out.trans hy6.out).trans hy7.out).trans hy8.out)).fr 3⟩))
      clear f6_0 f6_1 f6_2 f6_3 f6_4 f6_5 f6_6 f6_7 f6_8 f6_9 f7_0 f7_1 f7_2 f7_3 f7_4 f7_5 f7_6 f7_7 f7_8 f7_9 f8_0 f8_1 f8_2 f8_3 f8_4 f8_5 f8_6 f8_7 f8_8 f8_9
      have HG9 := hid (show w8.grownBy ((((w8.setCell ⟨w.heap.size, 0, none⟩ (.bool false)).setCell ⟨w.heap.size, 1, none⟩ (.slice none 0 0)).setCell ⟨w.heap.size, 2, none⟩ (.bool false)).setCell ⟨w.heap.size, 3, none⟩ (.slice none 0 0)) (some (w.heap.size)) from gb4 w8 (w.heap.size) (.bool false) (.slice none 0 0) (.bool false) (.slice none 0 0))
      have HO9 := hid (HBoc4.out.ext (((hy5.out.trans hy6.out).trans hy7.out).trans hy8.out))
      have HP9 := hid (show Bk 27 ((((w8.setCell ⟨w.heap.size, 0, none⟩ (.bool false)).setCell ⟨w.heap.size, 1, none⟩ (.slice none 0 0)).setCell ⟨w.heap.size, 2, none⟩ (.bool false)).setCell ⟨w.heap.size, 3, none⟩ (.slice none 0 0)) (w.heap.size) #[.bool false, .slice none 0 0, .bool false, .slice none 0 0] from (HBoc4.out.ext (((hy5.out.trans hy6.out).trans hy7.out).trans hy8.out)).put4 (.bool false) (.slice none 0 0) (.bool false) (.slice none 0 0))
      generalize ((((w8.setCell ⟨w.heap.size, 0, none⟩ (.bool false)).setCell ⟨w.heap.size, 1, none⟩ (.slice none 0 0)).setCell ⟨w.heap.size, 2, none⟩ (.bool false)).setCell ⟨w.heap.size, 3, none⟩ (.slice none 0 0)) = w9 at *
      have X9 := hid (X8.out.gb HG9.out (by omega))
      refine ret_re rfl HP9.out rfl rfl rfl ⟨rfl, X9.out⟩

set_option maxHeartbeats 6400000 in
set_option maxRecDepth 100000 in
theorem dparse_cM {w : World} {s : ByteArray} {K : Nat} {N D : Int} {a b : List Nat} (hs : s.size ≤ 200) (hK : K ≤ 200) (ha : 47 ∉ a) (hl : byt s = a ++ 47 :: b)
    (h1 : ∀ w (d : ByteArray), byt d = a → Calls Try.prog 47 #[.string d] w (RetIE K N 0 w)) (h2 : ∀ w (d : ByteArray), byt d = b → Calls Try.prog 47 #[.string d] w (RetIE K D 0 w)) (h0 : D < 0) :
    Calls Try.prog 19 #[.string s] w (RetRN 4 w) := by
  have hs' : ¬ (20000 : Int) < (s.size : Int) := by omega
  have hlen := byt_len s
  have hll : a.length + (b.length + 1) = s.size := by rw [← hlen, hl, List.length_append, List.length_cons]
  have hd : byt (s.extract 0 a.length) = a := by rw [byt_to6, hl]; simp
  have he : byt (s.extract (a.length + 1) s.size) = b := by
    rw [byt_from6, hl, List.drop_append, List.drop_eq_nil_of_le (by omega), List.nil_append, show a.length + 1 - a.length = 1 by omega]
    rfl
  have hat : (byt s)[a.length]? = some 47 := by rw [hl, List.getElem?_append_right (by omega), Nat.sub_self]; rfl
  have hno : ∀ i x, i < a.length → (byt s)[i]? = some x → x ≠ 47 := fun i x hi hx e => ha (by
    subst e
    rw [hl, List.getElem?_append_left hi] at hx
    exact List.mem_of_getElem? hx)
  have H1 := hid (fun w => h1 w _ hd)
  have H2 := hid (fun w => h2 w _ he)
  have hsg := hid (sg_neg h0)
  have HNO := hid hno
  have hix := idx_val hat rfl
  clear h1 hd ha hl hlen he h2 h0 hat hno
  generalize a.length = L at *
  have c1 : (0 : Int) ≤ (L : Int) := by omega
  have c2 : (L : Int) ≤ (s.size : Int) := by omega
  have c3 : (0 : Int) ≤ (L : Int) + 1 := by omega
  have c4 : (L : Int) + 1 ≤ (s.size : Int) := by omega
  have hlt0 : L < s.size := by omega
  have hlt0' : (L : Int) < (s.size : Int) := by omega
  go_enter Try.func19, Try.ntmps19
  go_upto_region 1 with fail
  have hy1 := hid ((Ext.refl w).alloc (.cells #[.bool false, .slice none 0 0, .bool false, .slice none 0 0] 27))
  have Bo_ := (Bk.new w 27 #[.bool false, .slice none 0 0, .bool false, .slice none 0 0])
  have Bo := hid Bo_
  clear Bo_
  generalize (w.alloc (.cells #[.bool false, .slice none 0 0, .bool false, .slice none 0 0] 27)) = w1 at *
  have X1 := hid ((Ext.refl _).trans hy1.out)
  go_wp2_with fail
  go_loopw [4, 5] (fun sa si wr => ∃ i : Nat, sa = .int .i64 s.size ∧ i ≤ L ∧ si = .int .i64 i ∧ w1 = wr) (fun _ si _ => L - (intOf si).toNat)
  case atStart => exact ⟨0, rfl, Nat.zero_le _, rfl, rfl⟩
  case round =>
    obtain ⟨i, rfl, hi, rfl, hw⟩ := hrel
    subst hw
    by_cases hlt : i < L
    · have hkl : i < (byt s).length := by rw [byt_len]; omega
      have hiS : i < s.size := by omega
      obtain ⟨x, hx⟩ : ∃ x, (byt s)[i]? = some x := ⟨_, List.getElem?_eq_getElem hkl⟩
      have h47 := HNO.out i x hlt hx
      have hiy := idx_val hx rfl
      have hxa : ((x : Int) == 47) = false := beq_eq_false_iff_ne.2 (by omega)
      clear hx hkl h47 hix
      go_wp2_with fail
      exact ⟨⟨i + 1, by first | trivial | rfl, by omega, by go_num, by trivial⟩, by simp [intOf]; omega⟩
    · obtain rfl : i = L := by omega
      go_upto_region 10 with (first
        | ((go_at_call 47); (with_reducible refine (H1.out _).mono ?_); rintro E2 w2 ⟨b2, A2, n2, c2, rfl, o2, hr2⟩; have X2 := hid (X1.out.trans hr2); have hy2 := hid hr2; clear hr2; have O2 := hid (o2.mono X1.out.size); clear o2))
      have hy3 := hid ((Ext.refl w2).alloc (.cells #[.bool b2, .slice A2 n2 c2] 24))
      have Bn_ := (Bk.new w2 24 #[.bool b2, .slice A2 n2 c2])
      have Bn := hid Bn_
      clear Bn_
      generalize (w2.alloc (.cells #[.bool b2, .slice A2 n2 c2] 24)) = w3 at *
      have X3 := hid (X2.out.trans hy3.out)
      obtain ⟨f3_0, f3_1, f3_2, f3_3, f3_4, f3_5, f3_6, f3_7⟩ : w3.cell? ⟨w.heap.size, 0, none⟩ = some (.bool false) ∧ w3.cell? ⟨w.heap.size, 1, none⟩ = some (.slice none 0 0) ∧ w3.cell? ⟨w.heap.size, 2, none⟩ = some (.bool false) ∧ w3.cell? ⟨w.heap.size, 3, none⟩ = some (.slice none 0 0) ∧ w3.frozen? ⟨w.heap.size, 0, none⟩ = false ∧ w3.frozen? ⟨w.heap.size, 1, none⟩ = false ∧ w3.frozen? ⟨w.heap.size, 2, none⟩ = false ∧ w3.frozen? ⟨w.heap.size, 3, none⟩ = false := ⟨(Bo.out.ext (hy2.out.trans hy3.out)).c 0, (Bo.out.ext (hy2.out.trans hy3.out)).c 1, (Bo.out.ext (hy2.out.trans hy3.out)).c 2, (Bo.out.ext (hy2.out.trans hy3.out)).c 3, (Bo.out.ext (hy2.out.trans hy3.out)).fr 0, (Bo.out.ext (hy2.out.trans hy3.out)).fr 1, (Bo.out.ext (hy2.out.trans hy3.out)).fr 2, (Bo.out.ext (hy2.out.trans hy3.out)).fr 3⟩
      go_upto_region 12 with fail
      clear f3_0 f3_1 f3_2 f3_3 f3_4 f3_5 f3_6 f3_7
      go_cut [8] (fun v8 wx => ∃ (g8c : Nat)  (b2q : Bool) (A2q : Option Addr) (n2q c2q : Nat), v8 = .pointer (some ⟨g8c, 0, none⟩) ∧ w3.heap.size ≤ g8c ∧ Bk 27 wx (w.heap.size) #[.bool false, .slice none 0 0, .bool false, .slice none 0 0] ∧ Bk 27 wx (g8c) #[.bool b2, .slice A2 n2 c2, .bool b2q, .slice A2q n2q c2q] ∧ Ci K wx w.heap.size b2 A2 n2 c2 N ∧ Ci 22 wx w.heap.size b2q A2q n2q c2q 1 ∧ Ext w wx)
      case first =>
        refine wp_region_held_drew (S := fun w' => Ext w w' ∧ Bk 24 w' (w2.heap.size) #[.bool b2, .slice A2 n2 c2]) (by kernel_rfl) ⟨(X3.out.trans (Ext.refl _).drew), (Bn.out.ext (Ext.refl _).drew)⟩ (fun hS0 => ?_)
        change wpAnyH _ _ _ _ _ 6 #[false, false, false, false, false, false] _ _
        refine drawn_load 0 38 24 (.tmp 6) (w2.heap.size) 24 #[.bool b2, .slice A2 n2 c2] (0, 0) _ (by kernel_rfl) rfl (fun w' hS => hS.2.h) Try.underlying24 rfl info_int_s (by kernel_rfl) (by kernel_rfl) (by kernel_rfl) (fun _ _ _ _ h => h) hS0 ?_
        simp only [Act.put, List.setIfInBounds_toArray, List.set_cons_zero, List.set_cons_succ]
        refine wpAnyH_ready (rs := [1, 4]) (by kernel_rfl) (by simp) ?_
        refine drawn_call1 1 (some 39) (.const (.int .i64 1)) (ts := #[2]) (by kernel_rfl) (enters_of Try.func37 (by kernel_rfl) rfl) rfl (zsmall_v (n := 1) (by omega) (by omega)) (fun E v1 hh => ?_) ?_
        · skip
          obtain ⟨b1q, A1q, n1q, c1q, rfl, o1, hx1⟩ := hh
          refine ⟨_, rfl, ⟨((X3.out.trans (Ext.refl _).drew).trans hx1), (Bn.out.ext ((Ext.refl _).drew.trans hx1))⟩, ?_⟩
          simp only [Act.put, List.setIfInBounds_toArray, List.set_cons_zero, List.set_cons_succ]
          refine wpAnyH_ready (rs := [2, 4]) (by kernel_rfl) (by simp) ?_
          refine drawn_call1 2 (some 40) (.tmp 39) (ts := #[35]) (by kernel_rfl) (enters_of Try.func44 (by kernel_rfl) rfl) rfl (zint_v o1 (by omega)) (fun E v2 hh => ?_) ?_
          · skip
            obtain ⟨b2q, A2q, n2q, c2q, rfl, o2, hx2⟩ := hh
            refine ⟨_, rfl, ⟨(((X3.out.trans (Ext.refl _).drew).trans hx1).trans hx2), (Bn.out.ext (((Ext.refl _).drew.trans hx1).trans hx2))⟩, ?_⟩
            simp only [Act.put, List.setIfInBounds_toArray, List.set_cons_zero, List.set_cons_succ]
            refine drawn_free 3 41 (v := ?v3_10) (.build 27 #[(0, .tmp 38), (1, .tmp 40)]) (by kernel_rfl) ?hy3_10 (by kernel_rfl) (by kernel_rfl) (by kernel_rfl) (fun _ _ _ _ h => h) ⟨(((X3.out.trans (Ext.refl _).drew).trans hx1).trans hx2), (Bn.out.ext (((Ext.refl _).drew.trans hx1).trans hx2))⟩ ?hr3_10
            case hy3_10 => (intro o ho w' hS; unfold execOp; simp only [ho]; go_simp; try with_reducible rfl)
            simp only [Act.put, List.setIfInBounds_toArray, List.set_cons_zero, List.set_cons_succ]
            refine wpAnyH_ready (rs := [4]) (by kernel_rfl) (by simp) ?_
            refine drawn_alloc 4 (some 8) (by kernel_rfl) alloc_rat (fun g4 v4 hb4 hx4 hg4 => ⟨⟨((((X3.out.trans (Ext.refl _).drew).trans hx1).trans hx2).trans hx4), (Bn.out.ext ((((Ext.refl _).drew.trans hx1).trans hx2).trans hx4))⟩, ?_⟩) ?_
            · skip
              simp only [Act.put, List.setIfInBounds_toArray, List.set_cons_zero, List.set_cons_succ]
              refine wpAnyH_ready (rs := [5]) (by kernel_rfl) (by simp) ?_
              have hq5 := (show Bk 27 v4 g4 #[.bool false, .slice none 0 0, .bool false, .slice none 0 0] from hb4)
              refine drawn_store 5 27 (.tmp 8) (.tmp 41) (g4) #[.bool b2, .slice A2 n2 c2, .bool b2q, .slice A2q n2q c2q] #[.bool false, .slice none 0 0, .bool false, .slice none 0 0] 27 (by kernel_rfl) rfl rfl hq5.h info_rat rfl one_four (fun v5 hb5 hg5 => ⟨⟨(((((X3.out.trans (Ext.refl _).drew).trans hx1).trans hx2).trans hx4).gb hg5 (by have h := (((X3.out.trans (Ext.refl _).drew).trans hx1).trans hx2).size; have h1 := hg4; omega)), ((Bn.out.ext ((((Ext.refl _).drew.trans hx1).trans hx2).trans hx4)).grown hg5 (by have h0 := (Nat.lt_of_lt_of_le Bn.out.lt (Nat.le_trans (Nat.le_trans (Ext.refl _).drew.size hx1.size) hx2.size)); have h1 := hg4; omega))⟩, ?_⟩) ?_
              · skip
                simp only [Act.put, List.setIfInBounds_toArray, List.set_cons_zero, List.set_cons_succ]
                refine wpAnyH_done (by kernel_rfl) ?_ _
                go_step
                go_step
                go_meet
                case rel => exact ⟨_, _, _, _, _, rfl, (Nat.le_trans (Nat.le_trans (Nat.le_trans (Ext.refl _).drew.size hx1.size) hx2.size) hg4), ((Bo.out.ext (((((hy2.out.trans hy3.out).trans (Ext.refl _).drew).trans hx1).trans hx2).trans hx4)).grown hg5 (by have h0 := (Nat.lt_of_lt_of_le Bo.out.lt (Nat.le_trans (Nat.le_trans (Nat.le_trans (Nat.le_trans hy2.out.size hy3.out.size) (Ext.refl _).drew.size) hx1.size) hx2.size)); have h1 := hg4; omega)), (show Bk 27 v5 (g4) #[.bool b2, .slice A2 n2 c2, .bool b2q, .slice A2q n2q c2q] from hb5), ((O2.out.ext ((((hy3.out.trans (Ext.refl _).drew).trans hx1).trans hx2).trans hx4)).gbk hq5 (by decide) hg5), (((o2.mono ((X3.out.trans (Ext.refl _).drew).trans hx1).size).ext hx4).gbk hq5 (by decide) hg5), (((((X3.out.trans (Ext.refl _).drew).trans hx1).trans hx2).trans hx4).gb hg5 (by have h := (((X3.out.trans (Ext.refl _).drew).trans hx1).trans hx2).size; have h1 := hg4; omega))⟩
              exact drawn_nil
            exact drawn_nil
          refine drawn_alloc 4 (some 8) (by kernel_rfl) alloc_rat (fun g4 v4 hb4 hx4 hg4 => ⟨⟨(((X3.out.trans (Ext.refl _).drew).trans hx1).trans hx4), (Bn.out.ext (((Ext.refl _).drew.trans hx1).trans hx4))⟩, ?_⟩) ?_
          · skip
            simp only [Act.put, List.setIfInBounds_toArray, List.set_cons_zero, List.set_cons_succ]
            refine wpAnyH_ready (rs := [2]) (by kernel_rfl) (by simp) ?_
            refine drawn_call1 2 (some 40) (.tmp 39) (ts := #[35]) (by kernel_rfl) (enters_of Try.func44 (by kernel_rfl) rfl) rfl (zint_v (o1.ext hx4) (by omega)) (fun E v2 hh => ?_) ?_
            · skip
              obtain ⟨b2q, A2q, n2q, c2q, rfl, o2, hx2⟩ := hh
              refine ⟨_, rfl, ⟨((((X3.out.trans (Ext.refl _).drew).trans hx1).trans hx4).trans hx2), (Bn.out.ext ((((Ext.refl _).drew.trans hx1).trans hx4).trans hx2))⟩, ?_⟩
              simp only [Act.put, List.setIfInBounds_toArray, List.set_cons_zero, List.set_cons_succ]
              refine drawn_free 3 41 (v := ?v3_11) (.build 27 #[(0, .tmp 38), (1, .tmp 40)]) (by kernel_rfl) ?hy3_11 (by kernel_rfl) (by kernel_rfl) (by kernel_rfl) (fun _ _ _ _ h => h) ⟨((((X3.out.trans (Ext.refl _).drew).trans hx1).trans hx4).trans hx2), (Bn.out.ext ((((Ext.refl _).drew.trans hx1).trans hx4).trans hx2))⟩ ?hr3_11
              case hy3_11 => (intro o ho w' hS; unfold execOp; simp only [ho]; go_simp; try with_reducible rfl)
              simp only [Act.put, List.setIfInBounds_toArray, List.set_cons_zero, List.set_cons_succ]
              refine wpAnyH_ready (rs := [5]) (by kernel_rfl) (by simp) ?_
              have hq5 := ((show Bk 27 v4 g4 #[.bool false, .slice none 0 0, .bool false, .slice none 0 0] from hb4).ext hx2)
              refine drawn_store 5 27 (.tmp 8) (.tmp 41) (g4) #[.bool b2, .slice A2 n2 c2, .bool b2q, .slice A2q n2q c2q] #[.bool false, .slice none 0 0, .bool false, .slice none 0 0] 27 (by kernel_rfl) rfl rfl hq5.h info_rat rfl one_four (fun v5 hb5 hg5 => ⟨⟨(((((X3.out.trans (Ext.refl _).drew).trans hx1).trans hx4).trans hx2).gb hg5 (by have h := ((X3.out.trans (Ext.refl _).drew).trans hx1).size; have h1 := hg4; omega)), ((Bn.out.ext ((((Ext.refl _).drew.trans hx1).trans hx4).trans hx2)).grown hg5 (by have h0 := (Nat.lt_of_lt_of_le Bn.out.lt (Nat.le_trans (Ext.refl _).drew.size hx1.size)); have h1 := hg4; omega))⟩, ?_⟩) ?_
              · skip
                simp only [Act.put, List.setIfInBounds_toArray, List.set_cons_zero, List.set_cons_succ]
                refine wpAnyH_done (by kernel_rfl) ?_ _
                go_step
                go_step
                go_meet
                case rel => exact ⟨_, _, _, _, _, rfl, (Nat.le_trans (Nat.le_trans (Ext.refl _).drew.size hx1.size) hg4), ((Bo.out.ext (((((hy2.out.trans hy3.out).trans (Ext.refl _).drew).trans hx1).trans hx4).trans hx2)).grown hg5 (by have h0 := (Nat.lt_of_lt_of_le Bo.out.lt (Nat.le_trans (Nat.le_trans (Nat.le_trans hy2.out.size hy3.out.size) (Ext.refl _).drew.size) hx1.size)); have h1 := hg4; omega)), (show Bk 27 v5 (g4) #[.bool b2, .slice A2 n2 c2, .bool b2q, .slice A2q n2q c2q] from hb5), ((O2.out.ext ((((hy3.out.trans (Ext.refl _).drew).trans hx1).trans hx4).trans hx2)).gbk hq5 (by decide) hg5), ((o2.mono (((X3.out.trans (Ext.refl _).drew).trans hx1).trans hx4).size).gbk hq5 (by decide) hg5), (((((X3.out.trans (Ext.refl _).drew).trans hx1).trans hx4).trans hx2).gb hg5 (by have h := ((X3.out.trans (Ext.refl _).drew).trans hx1).size; have h1 := hg4; omega))⟩
              exact drawn_nil
            exact drawn_nil
          exact drawn_nil
        refine drawn_alloc 4 (some 8) (by kernel_rfl) alloc_rat (fun g4 v4 hb4 hx4 hg4 => ⟨⟨((X3.out.trans (Ext.refl _).drew).trans hx4), (Bn.out.ext ((Ext.refl _).drew.trans hx4))⟩, ?_⟩) ?_
        · skip
          simp only [Act.put, List.setIfInBounds_toArray, List.set_cons_zero, List.set_cons_succ]
          refine wpAnyH_ready (rs := [1]) (by kernel_rfl) (by simp) ?_
          refine drawn_call1 1 (some 39) (.const (.int .i64 1)) (ts := #[2]) (by kernel_rfl) (enters_of Try.func37 (by kernel_rfl) rfl) rfl (zsmall_v (n := 1) (by omega) (by omega)) (fun E v1 hh => ?_) ?_
          · skip
            obtain ⟨b1q, A1q, n1q, c1q, rfl, o1, hx1⟩ := hh
            refine ⟨_, rfl, ⟨(((X3.out.trans (Ext.refl _).drew).trans hx4).trans hx1), (Bn.out.ext (((Ext.refl _).drew.trans hx4).trans hx1))⟩, ?_⟩
            simp only [Act.put, List.setIfInBounds_toArray, List.set_cons_zero, List.set_cons_succ]
            refine wpAnyH_ready (rs := [2]) (by kernel_rfl) (by simp) ?_
            refine drawn_call1 2 (some 40) (.tmp 39) (ts := #[35]) (by kernel_rfl) (enters_of Try.func44 (by kernel_rfl) rfl) rfl (zint_v o1 (by omega)) (fun E v2 hh => ?_) ?_
            · skip
              obtain ⟨b2q, A2q, n2q, c2q, rfl, o2, hx2⟩ := hh
              refine ⟨_, rfl, ⟨((((X3.out.trans (Ext.refl _).drew).trans hx4).trans hx1).trans hx2), (Bn.out.ext ((((Ext.refl _).drew.trans hx4).trans hx1).trans hx2))⟩, ?_⟩
              simp only [Act.put, List.setIfInBounds_toArray, List.set_cons_zero, List.set_cons_succ]
              refine drawn_free 3 41 (v := ?v3_12) (.build 27 #[(0, .tmp 38), (1, .tmp 40)]) (by kernel_rfl) ?hy3_12 (by kernel_rfl) (by kernel_rfl) (by kernel_rfl) (fun _ _ _ _ h => h) ⟨((((X3.out.trans (Ext.refl _).drew).trans hx4).trans hx1).trans hx2), (Bn.out.ext ((((Ext.refl _).drew.trans hx4).trans hx1).trans hx2))⟩ ?hr3_12
              case hy3_12 => (intro o ho w' hS; unfold execOp; simp only [ho]; go_simp; try with_reducible rfl)
              simp only [Act.put, List.setIfInBounds_toArray, List.set_cons_zero, List.set_cons_succ]
              refine wpAnyH_ready (rs := [5]) (by kernel_rfl) (by simp) ?_
              have hq5 := ((show Bk 27 v4 g4 #[.bool false, .slice none 0 0, .bool false, .slice none 0 0] from hb4).ext (hx1.trans hx2))
              refine drawn_store 5 27 (.tmp 8) (.tmp 41) (g4) #[.bool b2, .slice A2 n2 c2, .bool b2q, .slice A2q n2q c2q] #[.bool false, .slice none 0 0, .bool false, .slice none 0 0] 27 (by kernel_rfl) rfl rfl hq5.h info_rat rfl one_four (fun v5 hb5 hg5 => ⟨⟨(((((X3.out.trans (Ext.refl _).drew).trans hx4).trans hx1).trans hx2).gb hg5 (by have h := (X3.out.trans (Ext.refl _).drew).size; have h1 := hg4; omega)), ((Bn.out.ext ((((Ext.refl _).drew.trans hx4).trans hx1).trans hx2)).grown hg5 (by have h0 := (Nat.lt_of_lt_of_le Bn.out.lt (Ext.refl _).drew.size); have h1 := hg4; omega))⟩, ?_⟩) ?_
              · skip
                simp only [Act.put, List.setIfInBounds_toArray, List.set_cons_zero, List.set_cons_succ]
                refine wpAnyH_done (by kernel_rfl) ?_ _
                go_step
                go_step
                go_meet
                case rel => exact ⟨_, _, _, _, _, rfl, (Nat.le_trans (Ext.refl _).drew.size hg4), ((Bo.out.ext (((((hy2.out.trans hy3.out).trans (Ext.refl _).drew).trans hx4).trans hx1).trans hx2)).grown hg5 (by have h0 := (Nat.lt_of_lt_of_le Bo.out.lt (Nat.le_trans (Nat.le_trans hy2.out.size hy3.out.size) (Ext.refl _).drew.size)); have h1 := hg4; omega)), (show Bk 27 v5 (g4) #[.bool b2, .slice A2 n2 c2, .bool b2q, .slice A2q n2q c2q] from hb5), ((O2.out.ext ((((hy3.out.trans (Ext.refl _).drew).trans hx4).trans hx1).trans hx2)).gbk hq5 (by decide) hg5), ((o2.mono (((X3.out.trans (Ext.refl _).drew).trans hx4).trans hx1).size).gbk hq5 (by decide) hg5), (((((X3.out.trans (Ext.refl _).drew).trans hx4).trans hx1).trans hx2).gb hg5 (by have h := (X3.out.trans (Ext.refl _).drew).size; have h1 := hg4; omega))⟩
              exact drawn_nil
            exact drawn_nil
          exact drawn_nil
        exact drawn_nil
      case rest =>
      obtain ⟨g8c, b2q, A2q, n2q, c2q, rfl, hgex4, Boc4, Bxc4, Onc4, Ooic4, Xc4⟩ := hcut
      obtain ⟨w4, hw4⟩ : ∃ w4, w4 = wc := ⟨_, rfl⟩
      subst hw4
      have HBoc4 := hid Boc4
      clear Boc4
      have HBxc4 := hid Bxc4
      clear Bxc4
      have HOnc4 := hid Onc4
      clear Onc4
      have HOoic4 := hid Ooic4
      clear Ooic4
      have X4 := hid Xc4
      clear Xc4
      go_upto_region 15 with (first
        | ((go_at_call 47); (with_reducible refine (H2.out _).mono ?_); rintro E5 w5 ⟨b5, A5, n5, c5, rfl, o5, hr5⟩; have X5 := hid (X4.out.trans hr5); have hy5 := hid hr5; clear hr5; have O5 := hid (o5.mono X4.out.size); clear o5))
      have hy6 := hid ((Ext.refl w5).alloc (.cells #[.bool b5, .slice A5 n5 c5] 24))
      have Bd_ := (Bk.new w5 24 #[.bool b5, .slice A5 n5 c5])
      have Bd := hid Bd_
      clear Bd_
      generalize (w5.alloc (.cells #[.bool b5, .slice A5 n5 c5] 24)) = w6 at *
      have X6 := hid (X5.out.trans hy6.out)
      obtain ⟨f6_0, f6_1, f6_2, f6_3, f6_4, f6_5, f6_6, f6_7, f6_8, f6_9⟩ : w6.cell? ⟨w5.heap.size, 0, none⟩ = some (.bool b5) ∧ w6.cell? ⟨w5.heap.size, 1, none⟩ = some (.slice A5 n5 c5) ∧ w6.cell? ⟨w.heap.size, 0, none⟩ = some (.bool false) ∧ w6.cell? ⟨w.heap.size, 1, none⟩ = some (.slice none 0 0) ∧ w6.cell? ⟨w.heap.size, 2, none⟩ = some (.bool false) ∧ w6.cell? ⟨w.heap.size, 3, none⟩ = some (.slice none 0 0) ∧ w6.frozen? ⟨w.heap.size, 0, none⟩ = false ∧ w6.frozen? ⟨w.heap.size, 1, none⟩ = false ∧ w6.frozen? ⟨w.heap.size, 2, none⟩ = false ∧ w6.frozen? ⟨w.heap.size, 3, none⟩ = false := ⟨Bd.out.c 0, Bd.out.c 1, (HBoc4.out.ext (hy5.out.trans hy6.out)).c 0, (HBoc4.out.ext (hy5.out.trans hy6.out)).c 1, (HBoc4.out.ext (hy5.out.trans hy6.out)).c 2, (HBoc4.out.ext (hy5.out.trans hy6.out)).c 3, (HBoc4.out.ext (hy5.out.trans hy6.out)).fr 0, (HBoc4.out.ext (hy5.out.trans hy6.out)).fr 1, (HBoc4.out.ext (hy5.out.trans hy6.out)).fr 2, (HBoc4.out.ext (hy5.out.trans hy6.out)).fr 3⟩
      go_wp2_with (first
        | ((go_at_call 35); (with_reducible refine (zof_v (O5.out.ext hy6.out).iz (by omega)).mono ?_); rintro E7 w7 ⟨b7, A7, n7, c7, rfl, o7, hr7⟩; have X7 := hid (X6.out.trans hr7); have hy7 := hid hr7; clear hr7; have O7 := hid o7; clear o7; obtain ⟨f7_0, f7_1, f7_2, f7_3, f7_4, f7_5, f7_6, f7_7, f7_8, f7_9⟩ : w7.cell? ⟨w5.heap.size, 0, none⟩ = some (.bool b5) ∧ w7.cell? ⟨w5.heap.size, 1, none⟩ = some (.slice A5 n5 c5) ∧ w7.cell? ⟨w.heap.size, 0, none⟩ = some (.bool false) ∧ w7.cell? ⟨w.heap.size, 1, none⟩ = some (.slice none 0 0) ∧ w7.cell? ⟨w.heap.size, 2, none⟩ = some (.bool false) ∧ w7.cell? ⟨w.heap.size, 3, none⟩ = some (.slice none 0 0) ∧ w7.frozen? ⟨w.heap.size, 0, none⟩ = false ∧ w7.frozen? ⟨w.heap.size, 1, none⟩ = false ∧ w7.frozen? ⟨w.heap.size, 2, none⟩ = false ∧ w7.frozen? ⟨w.heap.size, 3, none⟩ = false := ⟨(Bd.out.ext hy7.out).c 0, (Bd.out.ext hy7.out).c 1, (HBoc4.out.ext ((hy5.out.trans hy6.out).trans hy7.out)).c 0, (HBoc4.out.ext ((hy5.out.trans hy6.out).trans hy7.out)).c 1, (HBoc4.out.ext ((hy5.out.trans hy6.out).trans hy7.out)).c 2, (HBoc4.out.ext ((hy5.out.trans hy6.out).trans hy7.out)).c 3, (HBoc4.out.ext ((hy5.out.trans hy6.out).trans hy7.out)).fr 0, (HBoc4.out.ext ((hy5.out.trans hy6.out).trans hy7.out)).fr 1, (HBoc4.out.ext ((hy5.out.trans hy6.out).trans hy7.out)).fr 2, (HBoc4.out.ext ((hy5.out.trans hy6.out).trans hy7.out)).fr 3⟩)
        | ((go_at_call 36); (with_reducible refine (zsign_is (v := -1) O7.out hsg.out).mono ?_); rintro E8 w8 ⟨rfl, hr8⟩; have X8 := hid (X7.out.trans hr8); have hy8 := hid hr8; clear hr8; obtain ⟨f8_0, f8_1, f8_2, f8_3, f8_4, f8_5, f8_6, f8_7, f8_8, f8_9⟩ : w8.cell? ⟨w5.heap.size, 0, none⟩ = some (.bool b5) ∧ w8.cell? ⟨w5.heap.size, 1, none⟩ = some (.slice A5 n5 c5) ∧ w8.cell? ⟨w.heap.size, 0, none⟩ = some (.bool false) ∧ w8.cell? ⟨w.heap.size, 1, none⟩ = some (.slice none 0 0) ∧ w8.cell? ⟨w.heap.size, 2, none⟩ = some (.bool false) ∧ w8.cell? ⟨w.heap.size, 3, none⟩ = some (.slice none 0 0) ∧ w8.frozen? ⟨w.heap.size, 0, none⟩ = false ∧ w8.frozen? ⟨w.heap.size, 1, none⟩ = false ∧ w8.frozen? ⟨w.heap.size, 2, none⟩ = false ∧ w8.frozen? ⟨w.heap.size, 3, none⟩ = false := ⟨(Bd.out.ext (hy7.out.trans hy8.out)).c 0, (Bd.out.ext (hy7.out.trans hy8.out)).c 1, (HBoc4.out.ext (((hy5.out.trans hy6.out).trans hy7.out).trans hy8.out)).c 0, (HBoc4.out.ext (((hy5.out.trans hy6.out).trans hy7.out).trans hy8.out)).c 1, (HBoc4.out.ext (((hy5.out.trans hy6.out).trans hy7.out).trans hy8.out)).c 2, (HBoc4.out.ext (((hy5.out.trans hy6.out).trans hy7.out).trans hy8.out)).c 3, (HBoc4.out.ext (((hy5.out.trans hy6.out).trans hy7.out).trans hy8.out)).fr 0, (HBoc4.out.ext (((hy5.out.trans hy6.out).trans hy7.out).trans hy8.out)).fr 1, (HBoc4.out.ext (((hy5.out.trans hy6.out).trans hy7.out).trans hy8.out)).fr 2, (HBoc4.out.ext (((hy5.out.trans hy6.out).trans hy7.out).trans hy8.out)).fr 3⟩))
      clear f6_0 f6_1 f6_2 f6_3 f6_4 f6_5 f6_6 f6_7 f6_8 f6_9 f7_0 f7_1 f7_2 f7_3 f7_4 f7_5 f7_6 f7_7 f7_8 f7_9 f8_0 f8_1 f8_2 f8_3 f8_4 f8_5 f8_6 f8_7 f8_8 f8_9
      have HG9 := hid (show w8.grownBy ((((w8.setCell ⟨w.heap.size, 0, none⟩ (.bool false)).setCell ⟨w.heap.size, 1, none⟩ (.slice none 0 0)).setCell ⟨w.heap.size, 2, none⟩ (.bool false)).setCell ⟨w.heap.size, 3, none⟩ (.slice none 0 0)) (some (w.heap.size)) from gb4 w8 (w.heap.size) (.bool false) (.slice none 0 0) (.bool false) (.slice none 0 0))
      have HO9 := hid (HBoc4.out.ext (((hy5.out.trans hy6.out).trans hy7.out).trans hy8.out))
      have HP9 := hid (show Bk 27 ((((w8.setCell ⟨w.heap.size, 0, none⟩ (.bool false)).setCell ⟨w.heap.size, 1, none⟩ (.slice none 0 0)).setCell ⟨w.heap.size, 2, none⟩ (.bool false)).setCell ⟨w.heap.size, 3, none⟩ (.slice none 0 0)) (w.heap.size) #[.bool false, .slice none 0 0, .bool false, .slice none 0 0] from (HBoc4.out.ext (((hy5.out.trans hy6.out).trans hy7.out).trans hy8.out)).put4 (.bool false) (.slice none 0 0) (.bool false) (.slice none 0 0))
      generalize ((((w8.setCell ⟨w.heap.size, 0, none⟩ (.bool false)).setCell ⟨w.heap.size, 1, none⟩ (.slice none 0 0)).setCell ⟨w.heap.size, 2, none⟩ (.bool false)).setCell ⟨w.heap.size, 3, none⟩ (.slice none 0 0)) = w9 at *
      have X9 := hid (X8.out.gb HG9.out (by omega))
      refine ret_re rfl HP9.out rfl rfl rfl ⟨rfl, X9.out⟩

set_option maxHeartbeats 6400000 in
set_option maxRecDepth 100000 in
theorem dparse_cD {w : World} {s : ByteArray} {K : Nat} {N D : Int} {a b : List Nat} (hs : s.size ≤ 200) (hK : K ≤ 200) (ha : 47 ∉ a) (hl : byt s = a ++ 47 :: b)
    (h1 : ∀ w (d : ByteArray), byt d = a → Calls Try.prog 47 #[.string d] w (RetIE K N 0 w)) (h2 : ∀ w (d : ByteArray), byt d = b → Calls Try.prog 47 #[.string d] w (RetIE K D 0 w)) (h0 : 0 < D) {x : Rat} (hx : x = (N : Rat) / ((D : Int) : Rat)) (hb : x.num.natAbs < 4294967296 ^ 200 ∧ x.den < 4294967296 ^ (200 + 1)) (ht : byt s ≠ txr x) :
    Calls Try.prog 19 #[.string s] w (RetRN 4 w) := by
  have hs' : ¬ (20000 : Int) < (s.size : Int) := by omega
  have hlen := byt_len s
  have hll : a.length + (b.length + 1) = s.size := by rw [← hlen, hl, List.length_append, List.length_cons]
  have hd : byt (s.extract 0 a.length) = a := by rw [byt_to6, hl]; simp
  have he : byt (s.extract (a.length + 1) s.size) = b := by
    rw [byt_from6, hl, List.drop_append, List.drop_eq_nil_of_le (by omega), List.nil_append, show a.length + 1 - a.length = 1 by omega]
    rfl
  have hat : (byt s)[a.length]? = some 47 := by rw [hl, List.getElem?_append_right (by omega), Nat.sub_self]; rfl
  have hno : ∀ i x, i < a.length → (byt s)[i]? = some x → x ≠ 47 := fun i x hi hx e => ha (by
    subst e
    rw [hl, List.getElem?_append_left hi] at hx
    exact List.mem_of_getElem? hx)
  have H1 := hid (fun w => h1 w _ hd)
  have H2 := hid (fun w => h2 w _ he)
  obtain ⟨T, hT⟩ : ∃ T, bts (txr x) = T := ⟨_, rfl⟩
  have HT := hid hT
  have HBD := hid hb
  have hr := hid (show x = (N : Rat) / (dn D : Rat) by rw [dn_of (by omega), hx])
  have hE : (T.toList == s.toList) = false := sne6 (by rw [← hT, byt_bts (txr_lim x)]; exact fun e => ht e.symm)
  have hsg := hid (sg_pos h0)
  have HNO := hid hno
  have hix := idx_val hat rfl
  clear h1 hd ha hl hlen he h2 h0 hT hb hx ht hat hno
  generalize a.length = L at *
  have c1 : (0 : Int) ≤ (L : Int) := by omega
  have c2 : (L : Int) ≤ (s.size : Int) := by omega
  have c3 : (0 : Int) ≤ (L : Int) + 1 := by omega
  have c4 : (L : Int) + 1 ≤ (s.size : Int) := by omega
  have hlt0 : L < s.size := by omega
  have hlt0' : (L : Int) < (s.size : Int) := by omega
  go_enter Try.func19, Try.ntmps19
  go_upto_region 1 with fail
  have hy1 := hid ((Ext.refl w).alloc (.cells #[.bool false, .slice none 0 0, .bool false, .slice none 0 0] 27))
  have Bo_ := (Bk.new w 27 #[.bool false, .slice none 0 0, .bool false, .slice none 0 0])
  have Bo := hid Bo_
  clear Bo_
  generalize (w.alloc (.cells #[.bool false, .slice none 0 0, .bool false, .slice none 0 0] 27)) = w1 at *
  have X1 := hid ((Ext.refl _).trans hy1.out)
  go_wp2_with fail
  go_loopw [4, 5] (fun sa si wr => ∃ i : Nat, sa = .int .i64 s.size ∧ i ≤ L ∧ si = .int .i64 i ∧ w1 = wr) (fun _ si _ => L - (intOf si).toNat)
  case atStart => exact ⟨0, rfl, Nat.zero_le _, rfl, rfl⟩
  case round =>
    obtain ⟨i, rfl, hi, rfl, hw⟩ := hrel
    subst hw
    by_cases hlt : i < L
    · have hkl : i < (byt s).length := by rw [byt_len]; omega
      have hiS : i < s.size := by omega
      obtain ⟨x, hx⟩ : ∃ x, (byt s)[i]? = some x := ⟨_, List.getElem?_eq_getElem hkl⟩
      have h47 := HNO.out i x hlt hx
      have hiy := idx_val hx rfl
      have hxa : ((x : Int) == 47) = false := beq_eq_false_iff_ne.2 (by omega)
      clear hx hkl h47 hix
      go_wp2_with fail
      exact ⟨⟨i + 1, by first | trivial | rfl, by omega, by go_num, by trivial⟩, by simp [intOf]; omega⟩
    · obtain rfl : i = L := by omega
      go_upto_region 10 with (first
        | ((go_at_call 47); (with_reducible refine (H1.out _).mono ?_); rintro E2 w2 ⟨b2, A2, n2, c2, rfl, o2, hr2⟩; have X2 := hid (X1.out.trans hr2); have hy2 := hid hr2; clear hr2; have O2 := hid (o2.mono X1.out.size); clear o2))
      have hy3 := hid ((Ext.refl w2).alloc (.cells #[.bool b2, .slice A2 n2 c2] 24))
      have Bn_ := (Bk.new w2 24 #[.bool b2, .slice A2 n2 c2])
      have Bn := hid Bn_
      clear Bn_
      generalize (w2.alloc (.cells #[.bool b2, .slice A2 n2 c2] 24)) = w3 at *
      have X3 := hid (X2.out.trans hy3.out)
      obtain ⟨f3_0, f3_1, f3_2, f3_3, f3_4, f3_5, f3_6, f3_7⟩ : w3.cell? ⟨w.heap.size, 0, none⟩ = some (.bool false) ∧ w3.cell? ⟨w.heap.size, 1, none⟩ = some (.slice none 0 0) ∧ w3.cell? ⟨w.heap.size, 2, none⟩ = some (.bool false) ∧ w3.cell? ⟨w.heap.size, 3, none⟩ = some (.slice none 0 0) ∧ w3.frozen? ⟨w.heap.size, 0, none⟩ = false ∧ w3.frozen? ⟨w.heap.size, 1, none⟩ = false ∧ w3.frozen? ⟨w.heap.size, 2, none⟩ = false ∧ w3.frozen? ⟨w.heap.size, 3, none⟩ = false := ⟨(Bo.out.ext (hy2.out.trans hy3.out)).c 0, (Bo.out.ext (hy2.out.trans hy3.out)).c 1, (Bo.out.ext (hy2.out.trans hy3.out)).c 2, (Bo.out.ext (hy2.out.trans hy3.out)).c 3, (Bo.out.ext (hy2.out.trans hy3.out)).fr 0, (Bo.out.ext (hy2.out.trans hy3.out)).fr 1, (Bo.out.ext (hy2.out.trans hy3.out)).fr 2, (Bo.out.ext (hy2.out.trans hy3.out)).fr 3⟩
      go_upto_region 12 with fail
      clear f3_0 f3_1 f3_2 f3_3 f3_4 f3_5 f3_6 f3_7
      go_cut [8] (fun v8 wx => ∃ (g8c : Nat)  (b2q : Bool) (A2q : Option Addr) (n2q c2q : Nat), v8 = .pointer (some ⟨g8c, 0, none⟩) ∧ w3.heap.size ≤ g8c ∧ Bk 27 wx (w.heap.size) #[.bool false, .slice none 0 0, .bool false, .slice none 0 0] ∧ Bk 27 wx (g8c) #[.bool b2, .slice A2 n2 c2, .bool b2q, .slice A2q n2q c2q] ∧ Ci K wx w.heap.size b2 A2 n2 c2 N ∧ Ci 22 wx w.heap.size b2q A2q n2q c2q 1 ∧ Ext w wx)
      case first =>
        refine wp_region_held_drew (S := fun w' => Ext w w' ∧ Bk 24 w' (w2.heap.size) #[.bool b2, .slice A2 n2 c2]) (by kernel_rfl) ⟨(X3.out.trans (Ext.refl _).drew), (Bn.out.ext (Ext.refl _).drew)⟩ (fun hS0 => ?_)
        change wpAnyH _ _ _ _ _ 6 #[false, false, false, false, false, false] _ _
        refine drawn_load 0 38 24 (.tmp 6) (w2.heap.size) 24 #[.bool b2, .slice A2 n2 c2] (0, 0) _ (by kernel_rfl) rfl (fun w' hS => hS.2.h) Try.underlying24 rfl info_int_s (by kernel_rfl) (by kernel_rfl) (by kernel_rfl) (fun _ _ _ _ h => h) hS0 ?_
        simp only [Act.put, List.setIfInBounds_toArray, List.set_cons_zero, List.set_cons_succ]
        refine wpAnyH_ready (rs := [1, 4]) (by kernel_rfl) (by simp) ?_
        refine drawn_call1 1 (some 39) (.const (.int .i64 1)) (ts := #[2]) (by kernel_rfl) (enters_of Try.func37 (by kernel_rfl) rfl) rfl (zsmall_v (n := 1) (by omega) (by omega)) (fun E v1 hh => ?_) ?_
        · skip
          obtain ⟨b1q, A1q, n1q, c1q, rfl, o1, hx1⟩ := hh
          refine ⟨_, rfl, ⟨((X3.out.trans (Ext.refl _).drew).trans hx1), (Bn.out.ext ((Ext.refl _).drew.trans hx1))⟩, ?_⟩
          simp only [Act.put, List.setIfInBounds_toArray, List.set_cons_zero, List.set_cons_succ]
          refine wpAnyH_ready (rs := [2, 4]) (by kernel_rfl) (by simp) ?_
          refine drawn_call1 2 (some 40) (.tmp 39) (ts := #[35]) (by kernel_rfl) (enters_of Try.func44 (by kernel_rfl) rfl) rfl (zint_v o1 (by omega)) (fun E v2 hh => ?_) ?_
          · skip
            obtain ⟨b2q, A2q, n2q, c2q, rfl, o2, hx2⟩ := hh
            refine ⟨_, rfl, ⟨(((X3.out.trans (Ext.refl _).drew).trans hx1).trans hx2), (Bn.out.ext (((Ext.refl _).drew.trans hx1).trans hx2))⟩, ?_⟩
            simp only [Act.put, List.setIfInBounds_toArray, List.set_cons_zero, List.set_cons_succ]
            refine drawn_free 3 41 (v := ?v3_13) (.build 27 #[(0, .tmp 38), (1, .tmp 40)]) (by kernel_rfl) ?hy3_13 (by kernel_rfl) (by kernel_rfl) (by kernel_rfl) (fun _ _ _ _ h => h) ⟨(((X3.out.trans (Ext.refl _).drew).trans hx1).trans hx2), (Bn.out.ext (((Ext.refl _).drew.trans hx1).trans hx2))⟩ ?hr3_13
            case hy3_13 => (intro o ho w' hS; unfold execOp; simp only [ho]; go_simp; try with_reducible rfl)
            simp only [Act.put, List.setIfInBounds_toArray, List.set_cons_zero, List.set_cons_succ]
            refine wpAnyH_ready (rs := [4]) (by kernel_rfl) (by simp) ?_
            refine drawn_alloc 4 (some 8) (by kernel_rfl) alloc_rat (fun g4 v4 hb4 hx4 hg4 => ⟨⟨((((X3.out.trans (Ext.refl _).drew).trans hx1).trans hx2).trans hx4), (Bn.out.ext ((((Ext.refl _).drew.trans hx1).trans hx2).trans hx4))⟩, ?_⟩) ?_
            · skip
              simp only [Act.put, List.setIfInBounds_toArray, List.set_cons_zero, List.set_cons_succ]
              refine wpAnyH_ready (rs := [5]) (by kernel_rfl) (by simp) ?_
              have hq5 := (show Bk 27 v4 g4 #[.bool false, .slice none 0 0, .bool false, .slice none 0 0] from hb4)
              refine drawn_store 5 27 (.tmp 8) (.tmp 41) (g4) #[.bool b2, .slice A2 n2 c2, .bool b2q, .slice A2q n2q c2q] #[.bool false, .slice none 0 0, .bool false, .slice none 0 0] 27 (by kernel_rfl) rfl rfl hq5.h info_rat rfl one_four (fun v5 hb5 hg5 => ⟨⟨(((((X3.out.trans (Ext.refl _).drew).trans hx1).trans hx2).trans hx4).gb hg5 (by have h := (((X3.out.trans (Ext.refl _).drew).trans hx1).trans hx2).size; have h1 := hg4; omega)), ((Bn.out.ext ((((Ext.refl _).drew.trans hx1).trans hx2).trans hx4)).grown hg5 (by have h0 := (Nat.lt_of_lt_of_le Bn.out.lt (Nat.le_trans (Nat.le_trans (Ext.refl _).drew.size hx1.size) hx2.size)); have h1 := hg4; omega))⟩, ?_⟩) ?_
              · skip
                simp only [Act.put, List.setIfInBounds_toArray, List.set_cons_zero, List.set_cons_succ]
                refine wpAnyH_done (by kernel_rfl) ?_ _
                go_step
                go_step
                go_meet
                case rel => exact ⟨_, _, _, _, _, rfl, (Nat.le_trans (Nat.le_trans (Nat.le_trans (Ext.refl _).drew.size hx1.size) hx2.size) hg4), ((Bo.out.ext (((((hy2.out.trans hy3.out).trans (Ext.refl _).drew).trans hx1).trans hx2).trans hx4)).grown hg5 (by have h0 := (Nat.lt_of_lt_of_le Bo.out.lt (Nat.le_trans (Nat.le_trans (Nat.le_trans (Nat.le_trans hy2.out.size hy3.out.size) (Ext.refl _).drew.size) hx1.size) hx2.size)); have h1 := hg4; omega)), (show Bk 27 v5 (g4) #[.bool b2, .slice A2 n2 c2, .bool b2q, .slice A2q n2q c2q] from hb5), ((O2.out.ext ((((hy3.out.trans (Ext.refl _).drew).trans hx1).trans hx2).trans hx4)).gbk hq5 (by decide) hg5), (((o2.mono ((X3.out.trans (Ext.refl _).drew).trans hx1).size).ext hx4).gbk hq5 (by decide) hg5), (((((X3.out.trans (Ext.refl _).drew).trans hx1).trans hx2).trans hx4).gb hg5 (by have h := (((X3.out.trans (Ext.refl _).drew).trans hx1).trans hx2).size; have h1 := hg4; omega))⟩
              exact drawn_nil
            exact drawn_nil
          refine drawn_alloc 4 (some 8) (by kernel_rfl) alloc_rat (fun g4 v4 hb4 hx4 hg4 => ⟨⟨(((X3.out.trans (Ext.refl _).drew).trans hx1).trans hx4), (Bn.out.ext (((Ext.refl _).drew.trans hx1).trans hx4))⟩, ?_⟩) ?_
          · skip
            simp only [Act.put, List.setIfInBounds_toArray, List.set_cons_zero, List.set_cons_succ]
            refine wpAnyH_ready (rs := [2]) (by kernel_rfl) (by simp) ?_
            refine drawn_call1 2 (some 40) (.tmp 39) (ts := #[35]) (by kernel_rfl) (enters_of Try.func44 (by kernel_rfl) rfl) rfl (zint_v (o1.ext hx4) (by omega)) (fun E v2 hh => ?_) ?_
            · skip
              obtain ⟨b2q, A2q, n2q, c2q, rfl, o2, hx2⟩ := hh
              refine ⟨_, rfl, ⟨((((X3.out.trans (Ext.refl _).drew).trans hx1).trans hx4).trans hx2), (Bn.out.ext ((((Ext.refl _).drew.trans hx1).trans hx4).trans hx2))⟩, ?_⟩
              simp only [Act.put, List.setIfInBounds_toArray, List.set_cons_zero, List.set_cons_succ]
              refine drawn_free 3 41 (v := ?v3_14) (.build 27 #[(0, .tmp 38), (1, .tmp 40)]) (by kernel_rfl) ?hy3_14 (by kernel_rfl) (by kernel_rfl) (by kernel_rfl) (fun _ _ _ _ h => h) ⟨((((X3.out.trans (Ext.refl _).drew).trans hx1).trans hx4).trans hx2), (Bn.out.ext ((((Ext.refl _).drew.trans hx1).trans hx4).trans hx2))⟩ ?hr3_14
              case hy3_14 => (intro o ho w' hS; unfold execOp; simp only [ho]; go_simp; try with_reducible rfl)
              simp only [Act.put, List.setIfInBounds_toArray, List.set_cons_zero, List.set_cons_succ]
              refine wpAnyH_ready (rs := [5]) (by kernel_rfl) (by simp) ?_
              have hq5 := ((show Bk 27 v4 g4 #[.bool false, .slice none 0 0, .bool false, .slice none 0 0] from hb4).ext hx2)
              refine drawn_store 5 27 (.tmp 8) (.tmp 41) (g4) #[.bool b2, .slice A2 n2 c2, .bool b2q, .slice A2q n2q c2q] #[.bool false, .slice none 0 0, .bool false, .slice none 0 0] 27 (by kernel_rfl) rfl rfl hq5.h info_rat rfl one_four (fun v5 hb5 hg5 => ⟨⟨(((((X3.out.trans (Ext.refl _).drew).trans hx1).trans hx4).trans hx2).gb hg5 (by have h := ((X3.out.trans (Ext.refl _).drew).trans hx1).size; have h1 := hg4; omega)), ((Bn.out.ext ((((Ext.refl _).drew.trans hx1).trans hx4).trans hx2)).grown hg5 (by have h0 := (Nat.lt_of_lt_of_le Bn.out.lt (Nat.le_trans (Ext.refl _).drew.size hx1.size)); have h1 := hg4; omega))⟩, ?_⟩) ?_
              · skip
                simp only [Act.put, List.setIfInBounds_toArray, List.set_cons_zero, List.set_cons_succ]
                refine wpAnyH_done (by kernel_rfl) ?_ _
                go_step
                go_step
                go_meet
                case rel => exact ⟨_, _, _, _, _, rfl, (Nat.le_trans (Nat.le_trans (Ext.refl _).drew.size hx1.size) hg4), ((Bo.out.ext (((((hy2.out.trans hy3.out).trans (Ext.refl _).drew).trans hx1).trans hx4).trans hx2)).grown hg5 (by have h0 := (Nat.lt_of_lt_of_le Bo.out.lt (Nat.le_trans (Nat.le_trans (Nat.le_trans hy2.out.size hy3.out.size) (Ext.refl _).drew.size) hx1.size)); have h1 := hg4; omega)), (show Bk 27 v5 (g4) #[.bool b2, .slice A2 n2 c2, .bool b2q, .slice A2q n2q c2q] from hb5), ((O2.out.ext ((((hy3.out.trans (Ext.refl _).drew).trans hx1).trans hx4).trans hx2)).gbk hq5 (by decide) hg5), ((o2.mono (((X3.out.trans (Ext.refl _).drew).trans hx1).trans hx4).size).gbk hq5 (by decide) hg5), (((((X3.out.trans (Ext.refl _).drew).trans hx1).trans hx4).trans hx2).gb hg5 (by have h := ((X3.out.trans (Ext.refl _).drew).trans hx1).size; have h1 := hg4; omega))⟩
              exact drawn_nil
            exact drawn_nil
          exact drawn_nil
        refine drawn_alloc 4 (some 8) (by kernel_rfl) alloc_rat (fun g4 v4 hb4 hx4 hg4 => ⟨⟨((X3.out.trans (Ext.refl _).drew).trans hx4), (Bn.out.ext ((Ext.refl _).drew.trans hx4))⟩, ?_⟩) ?_
        · skip
          simp only [Act.put, List.setIfInBounds_toArray, List.set_cons_zero, List.set_cons_succ]
          refine wpAnyH_ready (rs := [1]) (by kernel_rfl) (by simp) ?_
          refine drawn_call1 1 (some 39) (.const (.int .i64 1)) (ts := #[2]) (by kernel_rfl) (enters_of Try.func37 (by kernel_rfl) rfl) rfl (zsmall_v (n := 1) (by omega) (by omega)) (fun E v1 hh => ?_) ?_
          · skip
            obtain ⟨b1q, A1q, n1q, c1q, rfl, o1, hx1⟩ := hh
            refine ⟨_, rfl, ⟨(((X3.out.trans (Ext.refl _).drew).trans hx4).trans hx1), (Bn.out.ext (((Ext.refl _).drew.trans hx4).trans hx1))⟩, ?_⟩
            simp only [Act.put, List.setIfInBounds_toArray, List.set_cons_zero, List.set_cons_succ]
            refine wpAnyH_ready (rs := [2]) (by kernel_rfl) (by simp) ?_
            refine drawn_call1 2 (some 40) (.tmp 39) (ts := #[35]) (by kernel_rfl) (enters_of Try.func44 (by kernel_rfl) rfl) rfl (zint_v o1 (by omega)) (fun E v2 hh => ?_) ?_
            · skip
              obtain ⟨b2q, A2q, n2q, c2q, rfl, o2, hx2⟩ := hh
              refine ⟨_, rfl, ⟨((((X3.out.trans (Ext.refl _).drew).trans hx4).trans hx1).trans hx2), (Bn.out.ext ((((Ext.refl _).drew.trans hx4).trans hx1).trans hx2))⟩, ?_⟩
              simp only [Act.put, List.setIfInBounds_toArray, List.set_cons_zero, List.set_cons_succ]
              refine drawn_free 3 41 (v := ?v3_15) (.build 27 #[(0, .tmp 38), (1, .tmp 40)]) (by kernel_rfl) ?hy3_15 (by kernel_rfl) (by kernel_rfl) (by kernel_rfl) (fun _ _ _ _ h => h) ⟨((((X3.out.trans (Ext.refl _).drew).trans hx4).trans hx1).trans hx2), (Bn.out.ext ((((Ext.refl _).drew.trans hx4).trans hx1).trans hx2))⟩ ?hr3_15
              case hy3_15 => (intro o ho w' hS; unfold execOp; simp only [ho]; go_simp; try with_reducible rfl)
              simp only [Act.put, List.setIfInBounds_toArray, List.set_cons_zero, List.set_cons_succ]
              refine wpAnyH_ready (rs := [5]) (by kernel_rfl) (by simp) ?_
              have hq5 := ((show Bk 27 v4 g4 #[.bool false, .slice none 0 0, .bool false, .slice none 0 0] from hb4).ext (hx1.trans hx2))
              refine drawn_store 5 27 (.tmp 8) (.tmp 41) (g4) #[.bool b2, .slice A2 n2 c2, .bool b2q, .slice A2q n2q c2q] #[.bool false, .slice none 0 0, .bool false, .slice none 0 0] 27 (by kernel_rfl) rfl rfl hq5.h info_rat rfl one_four (fun v5 hb5 hg5 => ⟨⟨(((((X3.out.trans (Ext.refl _).drew).trans hx4).trans hx1).trans hx2).gb hg5 (by have h := (X3.out.trans (Ext.refl _).drew).size; have h1 := hg4; omega)), ((Bn.out.ext ((((Ext.refl _).drew.trans hx4).trans hx1).trans hx2)).grown hg5 (by have h0 := (Nat.lt_of_lt_of_le Bn.out.lt (Ext.refl _).drew.size); have h1 := hg4; omega))⟩, ?_⟩) ?_
              · skip
                simp only [Act.put, List.setIfInBounds_toArray, List.set_cons_zero, List.set_cons_succ]
                refine wpAnyH_done (by kernel_rfl) ?_ _
                go_step
                go_step
                go_meet
                case rel => exact ⟨_, _, _, _, _, rfl, (Nat.le_trans (Ext.refl _).drew.size hg4), ((Bo.out.ext (((((hy2.out.trans hy3.out).trans (Ext.refl _).drew).trans hx4).trans hx1).trans hx2)).grown hg5 (by have h0 := (Nat.lt_of_lt_of_le Bo.out.lt (Nat.le_trans (Nat.le_trans hy2.out.size hy3.out.size) (Ext.refl _).drew.size)); have h1 := hg4; omega)), (show Bk 27 v5 (g4) #[.bool b2, .slice A2 n2 c2, .bool b2q, .slice A2q n2q c2q] from hb5), ((O2.out.ext ((((hy3.out.trans (Ext.refl _).drew).trans hx4).trans hx1).trans hx2)).gbk hq5 (by decide) hg5), ((o2.mono (((X3.out.trans (Ext.refl _).drew).trans hx4).trans hx1).size).gbk hq5 (by decide) hg5), (((((X3.out.trans (Ext.refl _).drew).trans hx4).trans hx1).trans hx2).gb hg5 (by have h := (X3.out.trans (Ext.refl _).drew).size; have h1 := hg4; omega))⟩
              exact drawn_nil
            exact drawn_nil
          exact drawn_nil
        exact drawn_nil
      case rest =>
      obtain ⟨g8c, b2q, A2q, n2q, c2q, rfl, hgex4, Boc4, Bxc4, Onc4, Ooic4, Xc4⟩ := hcut
      obtain ⟨w4, hw4⟩ : ∃ w4, w4 = wc := ⟨_, rfl⟩
      subst hw4
      have HBoc4 := hid Boc4
      clear Boc4
      have HBxc4 := hid Bxc4
      clear Bxc4
      have HOnc4 := hid Onc4
      clear Onc4
      have HOoic4 := hid Ooic4
      clear Ooic4
      have X4 := hid Xc4
      clear Xc4
      go_upto_region 15 with (first
        | ((go_at_call 47); (with_reducible refine (H2.out _).mono ?_); rintro E5 w5 ⟨b5, A5, n5, c5, rfl, o5, hr5⟩; have X5 := hid (X4.out.trans hr5); have hy5 := hid hr5; clear hr5; have O5 := hid (o5.mono X4.out.size); clear o5))
      have hy6 := hid ((Ext.refl w5).alloc (.cells #[.bool b5, .slice A5 n5 c5] 24))
      have Bd_ := (Bk.new w5 24 #[.bool b5, .slice A5 n5 c5])
      have Bd := hid Bd_
      clear Bd_
      generalize (w5.alloc (.cells #[.bool b5, .slice A5 n5 c5] 24)) = w6 at *
      have X6 := hid (X5.out.trans hy6.out)
      obtain ⟨f6_0, f6_1, f6_2, f6_3, f6_4, f6_5, f6_6, f6_7, f6_8, f6_9⟩ : w6.cell? ⟨w5.heap.size, 0, none⟩ = some (.bool b5) ∧ w6.cell? ⟨w5.heap.size, 1, none⟩ = some (.slice A5 n5 c5) ∧ w6.cell? ⟨w.heap.size, 0, none⟩ = some (.bool false) ∧ w6.cell? ⟨w.heap.size, 1, none⟩ = some (.slice none 0 0) ∧ w6.cell? ⟨w.heap.size, 2, none⟩ = some (.bool false) ∧ w6.cell? ⟨w.heap.size, 3, none⟩ = some (.slice none 0 0) ∧ w6.frozen? ⟨w.heap.size, 0, none⟩ = false ∧ w6.frozen? ⟨w.heap.size, 1, none⟩ = false ∧ w6.frozen? ⟨w.heap.size, 2, none⟩ = false ∧ w6.frozen? ⟨w.heap.size, 3, none⟩ = false := ⟨Bd.out.c 0, Bd.out.c 1, (HBoc4.out.ext (hy5.out.trans hy6.out)).c 0, (HBoc4.out.ext (hy5.out.trans hy6.out)).c 1, (HBoc4.out.ext (hy5.out.trans hy6.out)).c 2, (HBoc4.out.ext (hy5.out.trans hy6.out)).c 3, (HBoc4.out.ext (hy5.out.trans hy6.out)).fr 0, (HBoc4.out.ext (hy5.out.trans hy6.out)).fr 1, (HBoc4.out.ext (hy5.out.trans hy6.out)).fr 2, (HBoc4.out.ext (hy5.out.trans hy6.out)).fr 3⟩
      go_upto_region 17 with (first
        | ((go_at_call 35); (with_reducible refine (zof_v (O5.out.ext hy6.out).iz (by omega)).mono ?_); rintro E7 w7 ⟨b7, A7, n7, c7, rfl, o7, hr7⟩; have X7 := hid (X6.out.trans hr7); have hy7 := hid hr7; clear hr7; have O7 := hid o7; clear o7; obtain ⟨f7_0, f7_1, f7_2, f7_3, f7_4, f7_5, f7_6, f7_7, f7_8, f7_9⟩ : w7.cell? ⟨w5.heap.size, 0, none⟩ = some (.bool b5) ∧ w7.cell? ⟨w5.heap.size, 1, none⟩ = some (.slice A5 n5 c5) ∧ w7.cell? ⟨w.heap.size, 0, none⟩ = some (.bool false) ∧ w7.cell? ⟨w.heap.size, 1, none⟩ = some (.slice none 0 0) ∧ w7.cell? ⟨w.heap.size, 2, none⟩ = some (.bool false) ∧ w7.cell? ⟨w.heap.size, 3, none⟩ = some (.slice none 0 0) ∧ w7.frozen? ⟨w.heap.size, 0, none⟩ = false ∧ w7.frozen? ⟨w.heap.size, 1, none⟩ = false ∧ w7.frozen? ⟨w.heap.size, 2, none⟩ = false ∧ w7.frozen? ⟨w.heap.size, 3, none⟩ = false := ⟨(Bd.out.ext hy7.out).c 0, (Bd.out.ext hy7.out).c 1, (HBoc4.out.ext ((hy5.out.trans hy6.out).trans hy7.out)).c 0, (HBoc4.out.ext ((hy5.out.trans hy6.out).trans hy7.out)).c 1, (HBoc4.out.ext ((hy5.out.trans hy6.out).trans hy7.out)).c 2, (HBoc4.out.ext ((hy5.out.trans hy6.out).trans hy7.out)).c 3, (HBoc4.out.ext ((hy5.out.trans hy6.out).trans hy7.out)).fr 0, (HBoc4.out.ext ((hy5.out.trans hy6.out).trans hy7.out)).fr 1, (HBoc4.out.ext ((hy5.out.trans hy6.out).trans hy7.out)).fr 2, (HBoc4.out.ext ((hy5.out.trans hy6.out).trans hy7.out)).fr 3⟩)
        | ((go_at_call 36); (with_reducible refine (zsign_is (v := 1) O7.out hsg.out).mono ?_); rintro E8 w8 ⟨rfl, hr8⟩; have X8 := hid (X7.out.trans hr8); have hy8 := hid hr8; clear hr8; obtain ⟨f8_0, f8_1, f8_2, f8_3, f8_4, f8_5, f8_6, f8_7, f8_8, f8_9⟩ : w8.cell? ⟨w5.heap.size, 0, none⟩ = some (.bool b5) ∧ w8.cell? ⟨w5.heap.size, 1, none⟩ = some (.slice A5 n5 c5) ∧ w8.cell? ⟨w.heap.size, 0, none⟩ = some (.bool false) ∧ w8.cell? ⟨w.heap.size, 1, none⟩ = some (.slice none 0 0) ∧ w8.cell? ⟨w.heap.size, 2, none⟩ = some (.bool false) ∧ w8.cell? ⟨w.heap.size, 3, none⟩ = some (.slice none 0 0) ∧ w8.frozen? ⟨w.heap.size, 0, none⟩ = false ∧ w8.frozen? ⟨w.heap.size, 1, none⟩ = false ∧ w8.frozen? ⟨w.heap.size, 2, none⟩ = false ∧ w8.frozen? ⟨w.heap.size, 3, none⟩ = false := ⟨(Bd.out.ext (hy7.out.trans hy8.out)).c 0, (Bd.out.ext (hy7.out.trans hy8.out)).c 1, (HBoc4.out.ext (((hy5.out.trans hy6.out).trans hy7.out).trans hy8.out)).c 0, (HBoc4.out.ext (((hy5.out.trans hy6.out).trans hy7.out).trans hy8.out)).c 1, (HBoc4.out.ext (((hy5.out.trans hy6.out).trans hy7.out).trans hy8.out)).c 2, (HBoc4.out.ext (((hy5.out.trans hy6.out).trans hy7.out).trans hy8.out)).c 3, (HBoc4.out.ext (((hy5.out.trans hy6.out).trans hy7.out).trans hy8.out)).fr 0, (HBoc4.out.ext (((hy5.out.trans hy6.out).trans hy7.out).trans hy8.out)).fr 1, (HBoc4.out.ext (((hy5.out.trans hy6.out).trans hy7.out).trans hy8.out)).fr 2, (HBoc4.out.ext (((hy5.out.trans hy6.out).trans hy7.out).trans hy8.out)).fr 3⟩))
      clear f6_0 f6_1 f6_2 f6_3 f6_4 f6_5 f6_6 f6_7 f6_8 f6_9 f7_0 f7_1 f7_2 f7_3 f7_4 f7_5 f7_6 f7_7 f7_8 f7_9 f8_0 f8_1 f8_2 f8_3 f8_4 f8_5 f8_6 f8_7 f8_8 f8_9
      obtain ⟨f9_0, f9_1, f9_2, f9_3, f9_4, f9_5, f9_6, f9_7, f9_8, f9_9⟩ : w8.cell? ⟨w5.heap.size, 0, none⟩ = some (.bool b5) ∧ w8.cell? ⟨w5.heap.size, 1, none⟩ = some (.slice A5 n5 c5) ∧ w8.cell? ⟨g8c, 0, none⟩ = some (.bool b2) ∧ w8.cell? ⟨g8c, 1, none⟩ = some (.slice A2 n2 c2) ∧ w8.cell? ⟨g8c, 2, none⟩ = some (.bool b2q) ∧ w8.cell? ⟨g8c, 3, none⟩ = some (.slice A2q n2q c2q) ∧ w8.frozen? ⟨g8c, 0, none⟩ = false ∧ w8.frozen? ⟨g8c, 1, none⟩ = false ∧ w8.frozen? ⟨g8c, 2, none⟩ = false ∧ w8.frozen? ⟨g8c, 3, none⟩ = false := ⟨(Bd.out.ext (hy7.out.trans hy8.out)).c 0, (Bd.out.ext (hy7.out.trans hy8.out)).c 1, (HBxc4.out.ext (((hy5.out.trans hy6.out).trans hy7.out).trans hy8.out)).c 0, (HBxc4.out.ext (((hy5.out.trans hy6.out).trans hy7.out).trans hy8.out)).c 1, (HBxc4.out.ext (((hy5.out.trans hy6.out).trans hy7.out).trans hy8.out)).c 2, (HBxc4.out.ext (((hy5.out.trans hy6.out).trans hy7.out).trans hy8.out)).c 3, (HBxc4.out.ext (((hy5.out.trans hy6.out).trans hy7.out).trans hy8.out)).fr 0, (HBxc4.out.ext (((hy5.out.trans hy6.out).trans hy7.out).trans hy8.out)).fr 1, (HBxc4.out.ext (((hy5.out.trans hy6.out).trans hy7.out).trans hy8.out)).fr 2, (HBxc4.out.ext (((hy5.out.trans hy6.out).trans hy7.out).trans hy8.out)).fr 3⟩
      go_upto_region 18 with fail
      clear f9_0 f9_1 f9_2 f9_3 f9_4 f9_5 f9_6 f9_7 f9_8 f9_9
      have HG9 := hid (show w8.grownBy ((w8.setCell ⟨g8c, 2, none⟩ (.bool b5)).setCell ⟨g8c, 3, none⟩ (.slice A5 n5 c5)) (some (g8c)) from gbD w8 (g8c) (.bool b5) (.slice A5 n5 c5))
      have HO9 := hid (HBxc4.out.ext (((hy5.out.trans hy6.out).trans hy7.out).trans hy8.out))
      have HP9 := hid (show Bk 27 ((w8.setCell ⟨g8c, 2, none⟩ (.bool b5)).setCell ⟨g8c, 3, none⟩ (.slice A5 n5 c5)) (g8c) #[.bool b2, .slice A2 n2 c2, .bool b5, .slice A5 n5 c5] from (HBxc4.out.ext (((hy5.out.trans hy6.out).trans hy7.out).trans hy8.out)).putD (.bool b5) (.slice A5 n5 c5))
      generalize ((w8.setCell ⟨g8c, 2, none⟩ (.bool b5)).setCell ⟨g8c, 3, none⟩ (.slice A5 n5 c5)) = w9 at *
      have X9 := hid (X8.out.gb HG9.out (by have h := X3.out.size; have h1 := hgex4; omega))
      obtain ⟨f10_0, f10_1, f10_2, f10_3, f10_4, f10_5, f10_6, f10_7, f10_8, f10_9, f10_10, f10_11⟩ : w9.cell? ⟨g8c, 0, none⟩ = some (.bool b2) ∧ w9.cell? ⟨g8c, 1, none⟩ = some (.slice A2 n2 c2) ∧ w9.cell? ⟨g8c, 2, none⟩ = some (.bool b5) ∧ w9.cell? ⟨g8c, 3, none⟩ = some (.slice A5 n5 c5) ∧ w9.cell? ⟨w.heap.size, 0, none⟩ = some (.bool false) ∧ w9.cell? ⟨w.heap.size, 1, none⟩ = some (.slice none 0 0) ∧ w9.cell? ⟨w.heap.size, 2, none⟩ = some (.bool false) ∧ w9.cell? ⟨w.heap.size, 3, none⟩ = some (.slice none 0 0) ∧ w9.frozen? ⟨w.heap.size, 0, none⟩ = false ∧ w9.frozen? ⟨w.heap.size, 1, none⟩ = false ∧ w9.frozen? ⟨w.heap.size, 2, none⟩ = false ∧ w9.frozen? ⟨w.heap.size, 3, none⟩ = false := ⟨HP9.out.c 0, HP9.out.c 1, HP9.out.c 2, HP9.out.c 3, ((HBoc4.out.ext (((hy5.out.trans hy6.out).trans hy7.out).trans hy8.out)).grown HG9.out (by have h0 := (Nat.lt_of_lt_of_le Bo.out.lt (Nat.le_trans hy2.out.size hy3.out.size)); have h1 := hgex4; omega)).c 0, ((HBoc4.out.ext (((hy5.out.trans hy6.out).trans hy7.out).trans hy8.out)).grown HG9.out (by have h0 := (Nat.lt_of_lt_of_le Bo.out.lt (Nat.le_trans hy2.out.size hy3.out.size)); have h1 := hgex4; omega)).c 1, ((HBoc4.out.ext (((hy5.out.trans hy6.out).trans hy7.out).trans hy8.out)).grown HG9.out (by have h0 := (Nat.lt_of_lt_of_le Bo.out.lt (Nat.le_trans hy2.out.size hy3.out.size)); have h1 := hgex4; omega)).c 2, ((HBoc4.out.ext (((hy5.out.trans hy6.out).trans hy7.out).trans hy8.out)).grown HG9.out (by have h0 := (Nat.lt_of_lt_of_le Bo.out.lt (Nat.le_trans hy2.out.size hy3.out.size)); have h1 := hgex4; omega)).c 3, ((HBoc4.out.ext (((hy5.out.trans hy6.out).trans hy7.out).trans hy8.out)).grown HG9.out (by have h0 := (Nat.lt_of_lt_of_le Bo.out.lt (Nat.le_trans hy2.out.size hy3.out.size)); have h1 := hgex4; omega)).fr 0, ((HBoc4.out.ext (((hy5.out.trans hy6.out).trans hy7.out).trans hy8.out)).grown HG9.out (by have h0 := (Nat.lt_of_lt_of_le Bo.out.lt (Nat.le_trans hy2.out.size hy3.out.size)); have h1 := hgex4; omega)).fr 1, ((HBoc4.out.ext (((hy5.out.trans hy6.out).trans hy7.out).trans hy8.out)).grown HG9.out (by have h0 := (Nat.lt_of_lt_of_le Bo.out.lt (Nat.le_trans hy2.out.size hy3.out.size)); have h1 := hgex4; omega)).fr 2, ((HBoc4.out.ext (((hy5.out.trans hy6.out).trans hy7.out).trans hy8.out)).grown HG9.out (by have h0 := (Nat.lt_of_lt_of_le Bo.out.lt (Nat.le_trans hy2.out.size hy3.out.size)); have h1 := hgex4; omega)).fr 3⟩
      go_wp2_with (first
        | ((go_at_call 11); (with_reducible refine (dof_v (Rv.mk (((HOnc4.out.ext (((hy5.out.trans hy6.out).trans hy7.out).trans hy8.out)).gbk HO9.out (by decide) HG9.out).iz.weak (Nat.le_add_right _ 22)) (((O5.out.ext ((hy6.out.trans hy7.out).trans hy8.out)).gbk HO9.out (by decide) HG9.out).iz.weak (by omega)) hr.out) (by omega)).mono ?_); rintro E10 w10 ⟨b10, A10, n10, c10, e10, B10, m10, d10, rfl, o10, hr10⟩; have X10 := hid (X9.out.trans hr10); have hy10 := hid hr10; clear hr10; have O10 := hid o10; clear o10; obtain ⟨f11_0, f11_1, f11_2, f11_3, f11_4, f11_5, f11_6, f11_7, f11_8, f11_9, f11_10, f11_11⟩ : w10.cell? ⟨g8c, 0, none⟩ = some (.bool b2) ∧ w10.cell? ⟨g8c, 1, none⟩ = some (.slice A2 n2 c2) ∧ w10.cell? ⟨g8c, 2, none⟩ = some (.bool b5) ∧ w10.cell? ⟨g8c, 3, none⟩ = some (.slice A5 n5 c5) ∧ w10.cell? ⟨w.heap.size, 0, none⟩ = some (.bool false) ∧ w10.cell? ⟨w.heap.size, 1, none⟩ = some (.slice none 0 0) ∧ w10.cell? ⟨w.heap.size, 2, none⟩ = some (.bool false) ∧ w10.cell? ⟨w.heap.size, 3, none⟩ = some (.slice none 0 0) ∧ w10.frozen? ⟨w.heap.size, 0, none⟩ = false ∧ w10.frozen? ⟨w.heap.size, 1, none⟩ = false ∧ w10.frozen? ⟨w.heap.size, 2, none⟩ = false ∧ w10.frozen? ⟨w.heap.size, 3, none⟩ = false := ⟨(HP9.out.ext hy10.out).c 0, (HP9.out.ext hy10.out).c 1, (HP9.out.ext hy10.out).c 2, (HP9.out.ext hy10.out).c 3, (((HBoc4.out.ext (((hy5.out.trans hy6.out).trans hy7.out).trans hy8.out)).grown HG9.out (by have h0 := (Nat.lt_of_lt_of_le Bo.out.lt (Nat.le_trans hy2.out.size hy3.out.size)); have h1 := hgex4; omega)).ext hy10.out).c 0, (((HBoc4.out.ext (((hy5.out.trans hy6.out).trans hy7.out).trans hy8.out)).grown HG9.out (by have h0 := (Nat.lt_of_lt_of_le Bo.out.lt (Nat.le_trans hy2.out.size hy3.out.size)); have h1 := hgex4; omega)).ext hy10.out).c 1, (((HBoc4.out.ext (((hy5.out.trans hy6.out).trans hy7.out).trans hy8.out)).grown HG9.out (by have h0 := (Nat.lt_of_lt_of_le Bo.out.lt (Nat.le_trans hy2.out.size hy3.out.size)); have h1 := hgex4; omega)).ext hy10.out).c 2, (((HBoc4.out.ext (((hy5.out.trans hy6.out).trans hy7.out).trans hy8.out)).grown HG9.out (by have h0 := (Nat.lt_of_lt_of_le Bo.out.lt (Nat.le_trans hy2.out.size hy3.out.size)); have h1 := hgex4; omega)).ext hy10.out).c 3, (((HBoc4.out.ext (((hy5.out.trans hy6.out).trans hy7.out).trans hy8.out)).grown HG9.out (by have h0 := (Nat.lt_of_lt_of_le Bo.out.lt (Nat.le_trans hy2.out.size hy3.out.size)); have h1 := hgex4; omega)).ext hy10.out).fr 0, (((HBoc4.out.ext (((hy5.out.trans hy6.out).trans hy7.out).trans hy8.out)).grown HG9.out (by have h0 := (Nat.lt_of_lt_of_le Bo.out.lt (Nat.le_trans hy2.out.size hy3.out.size)); have h1 := hgex4; omega)).ext hy10.out).fr 1, (((HBoc4.out.ext (((hy5.out.trans hy6.out).trans hy7.out).trans hy8.out)).grown HG9.out (by have h0 := (Nat.lt_of_lt_of_le Bo.out.lt (Nat.le_trans hy2.out.size hy3.out.size)); have h1 := hgex4; omega)).ext hy10.out).fr 2, (((HBoc4.out.ext (((hy5.out.trans hy6.out).trans hy7.out).trans hy8.out)).grown HG9.out (by have h0 := (Nat.lt_of_lt_of_le Bo.out.lt (Nat.le_trans hy2.out.size hy3.out.size)); have h1 := hgex4; omega)).ext hy10.out).fr 3⟩)
        | ((go_at_call 48); (with_reducible refine (dtext_is O10.out (by omega) (L := 200) (by omega) HBD.out HT.out).mono ?_); rintro E11 w11 ⟨rfl, hr11⟩; have X11 := hid (X10.out.trans hr11); have hy11 := hid hr11; clear hr11; obtain ⟨f12_0, f12_1, f12_2, f12_3, f12_4, f12_5, f12_6, f12_7, f12_8, f12_9, f12_10, f12_11⟩ : w11.cell? ⟨g8c, 0, none⟩ = some (.bool b2) ∧ w11.cell? ⟨g8c, 1, none⟩ = some (.slice A2 n2 c2) ∧ w11.cell? ⟨g8c, 2, none⟩ = some (.bool b5) ∧ w11.cell? ⟨g8c, 3, none⟩ = some (.slice A5 n5 c5) ∧ w11.cell? ⟨w.heap.size, 0, none⟩ = some (.bool false) ∧ w11.cell? ⟨w.heap.size, 1, none⟩ = some (.slice none 0 0) ∧ w11.cell? ⟨w.heap.size, 2, none⟩ = some (.bool false) ∧ w11.cell? ⟨w.heap.size, 3, none⟩ = some (.slice none 0 0) ∧ w11.frozen? ⟨w.heap.size, 0, none⟩ = false ∧ w11.frozen? ⟨w.heap.size, 1, none⟩ = false ∧ w11.frozen? ⟨w.heap.size, 2, none⟩ = false ∧ w11.frozen? ⟨w.heap.size, 3, none⟩ = false := ⟨(HP9.out.ext (hy10.out.trans hy11.out)).c 0, (HP9.out.ext (hy10.out.trans hy11.out)).c 1, (HP9.out.ext (hy10.out.trans hy11.out)).c 2, (HP9.out.ext (hy10.out.trans hy11.out)).c 3, (((HBoc4.out.ext (((hy5.out.trans hy6.out).trans hy7.out).trans hy8.out)).grown HG9.out (by have h0 := (Nat.lt_of_lt_of_le Bo.out.lt (Nat.le_trans hy2.out.size hy3.out.size)); have h1 := hgex4; omega)).ext (hy10.out.trans hy11.out)).c 0, (((HBoc4.out.ext (((hy5.out.trans hy6.out).trans hy7.out).trans hy8.out)).grown HG9.out (by have h0 := (Nat.lt_of_lt_of_le Bo.out.lt (Nat.le_trans hy2.out.size hy3.out.size)); have h1 := hgex4; omega)).ext (hy10.out.trans hy11.out)).c 1, (((HBoc4.out.ext (((hy5.out.trans hy6.out).trans hy7.out).trans hy8.out)).grown HG9.out (by have h0 := (Nat.lt_of_lt_of_le Bo.out.lt (Nat.le_trans hy2.out.size hy3.out.size)); have h1 := hgex4; omega)).ext (hy10.out.trans hy11.out)).c 2, (((HBoc4.out.ext (((hy5.out.trans hy6.out).trans hy7.out).trans hy8.out)).grown HG9.out (by have h0 := (Nat.lt_of_lt_of_le Bo.out.lt (Nat.le_trans hy2.out.size hy3.out.size)); have h1 := hgex4; omega)).ext (hy10.out.trans hy11.out)).c 3, (((HBoc4.out.ext (((hy5.out.trans hy6.out).trans hy7.out).trans hy8.out)).grown HG9.out (by have h0 := (Nat.lt_of_lt_of_le Bo.out.lt (Nat.le_trans hy2.out.size hy3.out.size)); have h1 := hgex4; omega)).ext (hy10.out.trans hy11.out)).fr 0, (((HBoc4.out.ext (((hy5.out.trans hy6.out).trans hy7.out).trans hy8.out)).grown HG9.out (by have h0 := (Nat.lt_of_lt_of_le Bo.out.lt (Nat.le_trans hy2.out.size hy3.out.size)); have h1 := hgex4; omega)).ext (hy10.out.trans hy11.out)).fr 1, (((HBoc4.out.ext (((hy5.out.trans hy6.out).trans hy7.out).trans hy8.out)).grown HG9.out (by have h0 := (Nat.lt_of_lt_of_le Bo.out.lt (Nat.le_trans hy2.out.size hy3.out.size)); have h1 := hgex4; omega)).ext (hy10.out.trans hy11.out)).fr 2, (((HBoc4.out.ext (((hy5.out.trans hy6.out).trans hy7.out).trans hy8.out)).grown HG9.out (by have h0 := (Nat.lt_of_lt_of_le Bo.out.lt (Nat.le_trans hy2.out.size hy3.out.size)); have h1 := hgex4; omega)).ext (hy10.out.trans hy11.out)).fr 3⟩))
      clear f10_0 f10_1 f10_2 f10_3 f10_4 f10_5 f10_6 f10_7 f10_8 f10_9 f10_10 f10_11 f11_0 f11_1 f11_2 f11_3 f11_4 f11_5 f11_6 f11_7 f11_8 f11_9 f11_10 f11_11 f12_0 f12_1 f12_2 f12_3 f12_4 f12_5 f12_6 f12_7 f12_8 f12_9 f12_10 f12_11
      have HG12 := hid (show w11.grownBy ((((w11.setCell ⟨w.heap.size, 0, none⟩ (.bool false)).setCell ⟨w.heap.size, 1, none⟩ (.slice none 0 0)).setCell ⟨w.heap.size, 2, none⟩ (.bool false)).setCell ⟨w.heap.size, 3, none⟩ (.slice none 0 0)) (some (w.heap.size)) from gb4 w11 (w.heap.size) (.bool false) (.slice none 0 0) (.bool false) (.slice none 0 0))
      have HO12 := hid (((HBoc4.out.ext (((hy5.out.trans hy6.out).trans hy7.out).trans hy8.out)).grown HG9.out (by have h0 := (Nat.lt_of_lt_of_le Bo.out.lt (Nat.le_trans hy2.out.size hy3.out.size)); have h1 := hgex4; omega)).ext (hy10.out.trans hy11.out))
      have HP12 := hid (show Bk 27 ((((w11.setCell ⟨w.heap.size, 0, none⟩ (.bool false)).setCell ⟨w.heap.size, 1, none⟩ (.slice none 0 0)).setCell ⟨w.heap.size, 2, none⟩ (.bool false)).setCell ⟨w.heap.size, 3, none⟩ (.slice none 0 0)) (w.heap.size) #[.bool false, .slice none 0 0, .bool false, .slice none 0 0] from (((HBoc4.out.ext (((hy5.out.trans hy6.out).trans hy7.out).trans hy8.out)).grown HG9.out (by have h0 := (Nat.lt_of_lt_of_le Bo.out.lt (Nat.le_trans hy2.out.size hy3.out.size)); have h1 := hgex4; omega)).ext (hy10.out.trans hy11.out)).put4 (.bool false) (.slice none 0 0) (.bool false) (.slice none 0 0))
      generalize ((((w11.setCell ⟨w.heap.size, 0, none⟩ (.bool false)).setCell ⟨w.heap.size, 1, none⟩ (.slice none 0 0)).setCell ⟨w.heap.size, 2, none⟩ (.bool false)).setCell ⟨w.heap.size, 3, none⟩ (.slice none 0 0)) = w12 at *
      have X12 := hid (X11.out.gb HG12.out (by omega))
      refine ret_re rfl HP12.out rfl rfl rfl ⟨rfl, X12.out⟩

set_option maxHeartbeats 6400000 in
set_option maxRecDepth 100000 in
theorem dparse_cE {w : World} {s : ByteArray} {K : Nat} {N D : Int} {a b : List Nat} (hs : s.size ≤ 200) (hK : K ≤ 200) (ha : 47 ∉ a) (hl : byt s = a ++ 47 :: b)
    (h1 : ∀ w (d : ByteArray), byt d = a → Calls Try.prog 47 #[.string d] w (RetIE K N 0 w)) (h2 : ∀ w (d : ByteArray), byt d = b → Calls Try.prog 47 #[.string d] w (RetIE K D 0 w)) (h0 : 0 < D) {x : Rat} (hx : x = (N : Rat) / ((D : Int) : Rat)) (hb : x.num.natAbs < 4294967296 ^ 200 ∧ x.den < 4294967296 ^ (200 + 1)) (ht : byt s = txr x) (hN : N = x.num) (hD : D = (x.den : Int)) :
    Calls Try.prog 19 #[.string s] w (RetRE (K + 22) x 0 w) := by
  have hs' : ¬ (20000 : Int) < (s.size : Int) := by omega
  have hlen := byt_len s
  have hll : a.length + (b.length + 1) = s.size := by rw [← hlen, hl, List.length_append, List.length_cons]
  have hd : byt (s.extract 0 a.length) = a := by rw [byt_to6, hl]; simp
  have he : byt (s.extract (a.length + 1) s.size) = b := by
    rw [byt_from6, hl, List.drop_append, List.drop_eq_nil_of_le (by omega), List.nil_append, show a.length + 1 - a.length = 1 by omega]
    rfl
  have hat : (byt s)[a.length]? = some 47 := by rw [hl, List.getElem?_append_right (by omega), Nat.sub_self]; rfl
  have hno : ∀ i x, i < a.length → (byt s)[i]? = some x → x ≠ 47 := fun i x hi hx e => ha (by
    subst e
    rw [hl, List.getElem?_append_left hi] at hx
    exact List.mem_of_getElem? hx)
  have H1 := hid (fun w => h1 w _ hd)
  have H2 := hid (fun w => h2 w _ he)
  obtain ⟨T, hT⟩ : ∃ T, bts (txr x) = T := ⟨_, rfl⟩
  have HT := hid hT
  have HBD := hid hb
  have hr := hid (show x = (N : Rat) / (dn D : Rat) by rw [dn_of (by omega), hx])
  have hE : (T.toList == s.toList) = true := seq6 (by rw [← hT, ← ht, bts_byt])
  have HN := hid hN
  have HD := hid hD
  have hsg := hid (sg_pos h0)
  have HNO := hid hno
  have hix := idx_val hat rfl
  clear h1 hd ha hl hlen he h2 hN hD h0 hT hb hx ht hat hno
  generalize a.length = L at *
  have c1 : (0 : Int) ≤ (L : Int) := by omega
  have c2 : (L : Int) ≤ (s.size : Int) := by omega
  have c3 : (0 : Int) ≤ (L : Int) + 1 := by omega
  have c4 : (L : Int) + 1 ≤ (s.size : Int) := by omega
  have hlt0 : L < s.size := by omega
  have hlt0' : (L : Int) < (s.size : Int) := by omega
  go_enter Try.func19, Try.ntmps19
  go_upto_region 1 with fail
  have hy1 := hid ((Ext.refl w).alloc (.cells #[.bool false, .slice none 0 0, .bool false, .slice none 0 0] 27))
  have Bo_ := (Bk.new w 27 #[.bool false, .slice none 0 0, .bool false, .slice none 0 0])
  have Bo := hid Bo_
  clear Bo_
  generalize (w.alloc (.cells #[.bool false, .slice none 0 0, .bool false, .slice none 0 0] 27)) = w1 at *
  have X1 := hid ((Ext.refl _).trans hy1.out)
  go_wp2_with fail
  go_loopw [4, 5] (fun sa si wr => ∃ i : Nat, sa = .int .i64 s.size ∧ i ≤ L ∧ si = .int .i64 i ∧ w1 = wr) (fun _ si _ => L - (intOf si).toNat)
  case atStart => exact ⟨0, rfl, Nat.zero_le _, rfl, rfl⟩
  case round =>
    obtain ⟨i, rfl, hi, rfl, hw⟩ := hrel
    subst hw
    by_cases hlt : i < L
    · have hkl : i < (byt s).length := by rw [byt_len]; omega
      have hiS : i < s.size := by omega
      obtain ⟨x, hx⟩ : ∃ x, (byt s)[i]? = some x := ⟨_, List.getElem?_eq_getElem hkl⟩
      have h47 := HNO.out i x hlt hx
      have hiy := idx_val hx rfl
      have hxa : ((x : Int) == 47) = false := beq_eq_false_iff_ne.2 (by omega)
      clear hx hkl h47 hix
      go_wp2_with fail
      exact ⟨⟨i + 1, by first | trivial | rfl, by omega, by go_num, by trivial⟩, by simp [intOf]; omega⟩
    · obtain rfl : i = L := by omega
      go_upto_region 10 with (first
        | ((go_at_call 47); (with_reducible refine (H1.out _).mono ?_); rintro E2 w2 ⟨b2, A2, n2, c2, rfl, o2, hr2⟩; have X2 := hid (X1.out.trans hr2); have hy2 := hid hr2; clear hr2; have O2 := hid (o2.mono X1.out.size); clear o2))
      have hy3 := hid ((Ext.refl w2).alloc (.cells #[.bool b2, .slice A2 n2 c2] 24))
      have Bn_ := (Bk.new w2 24 #[.bool b2, .slice A2 n2 c2])
      have Bn := hid Bn_
      clear Bn_
      generalize (w2.alloc (.cells #[.bool b2, .slice A2 n2 c2] 24)) = w3 at *
      have X3 := hid (X2.out.trans hy3.out)
      obtain ⟨f3_0, f3_1, f3_2, f3_3, f3_4, f3_5, f3_6, f3_7⟩ : w3.cell? ⟨w.heap.size, 0, none⟩ = some (.bool false) ∧ w3.cell? ⟨w.heap.size, 1, none⟩ = some (.slice none 0 0) ∧ w3.cell? ⟨w.heap.size, 2, none⟩ = some (.bool false) ∧ w3.cell? ⟨w.heap.size, 3, none⟩ = some (.slice none 0 0) ∧ w3.frozen? ⟨w.heap.size, 0, none⟩ = false ∧ w3.frozen? ⟨w.heap.size, 1, none⟩ = false ∧ w3.frozen? ⟨w.heap.size, 2, none⟩ = false ∧ w3.frozen? ⟨w.heap.size, 3, none⟩ = false := ⟨(Bo.out.ext (hy2.out.trans hy3.out)).c 0, (Bo.out.ext (hy2.out.trans hy3.out)).c 1, (Bo.out.ext (hy2.out.trans hy3.out)).c 2, (Bo.out.ext (hy2.out.trans hy3.out)).c 3, (Bo.out.ext (hy2.out.trans hy3.out)).fr 0, (Bo.out.ext (hy2.out.trans hy3.out)).fr 1, (Bo.out.ext (hy2.out.trans hy3.out)).fr 2, (Bo.out.ext (hy2.out.trans hy3.out)).fr 3⟩
      go_upto_region 12 with fail
      clear f3_0 f3_1 f3_2 f3_3 f3_4 f3_5 f3_6 f3_7
      go_cut [8] (fun v8 wx => ∃ (g8c : Nat)  (b2q : Bool) (A2q : Option Addr) (n2q c2q : Nat), v8 = .pointer (some ⟨g8c, 0, none⟩) ∧ w3.heap.size ≤ g8c ∧ Bk 27 wx (w.heap.size) #[.bool false, .slice none 0 0, .bool false, .slice none 0 0] ∧ Bk 27 wx (g8c) #[.bool b2, .slice A2 n2 c2, .bool b2q, .slice A2q n2q c2q] ∧ Ci K wx w.heap.size b2 A2 n2 c2 N ∧ Ci 22 wx w.heap.size b2q A2q n2q c2q 1 ∧ Ext w wx)
      case first =>
        refine wp_region_held_drew (S := fun w' => Ext w w' ∧ Bk 24 w' (w2.heap.size) #[.bool b2, .slice A2 n2 c2]) (by kernel_rfl) ⟨(X3.out.trans (Ext.refl _).drew), (Bn.out.ext (Ext.refl _).drew)⟩ (fun hS0 => ?_)
        change wpAnyH _ _ _ _ _ 6 #[false, false, false, false, false, false] _ _
        refine drawn_load 0 38 24 (.tmp 6) (w2.heap.size) 24 #[.bool b2, .slice A2 n2 c2] (0, 0) _ (by kernel_rfl) rfl (fun w' hS => hS.2.h) Try.underlying24 rfl info_int_s (by kernel_rfl) (by kernel_rfl) (by kernel_rfl) (fun _ _ _ _ h => h) hS0 ?_
        simp only [Act.put, List.setIfInBounds_toArray, List.set_cons_zero, List.set_cons_succ]
        refine wpAnyH_ready (rs := [1, 4]) (by kernel_rfl) (by simp) ?_
        refine drawn_call1 1 (some 39) (.const (.int .i64 1)) (ts := #[2]) (by kernel_rfl) (enters_of Try.func37 (by kernel_rfl) rfl) rfl (zsmall_v (n := 1) (by omega) (by omega)) (fun E v1 hh => ?_) ?_
        · skip
          obtain ⟨b1q, A1q, n1q, c1q, rfl, o1, hx1⟩ := hh
          refine ⟨_, rfl, ⟨((X3.out.trans (Ext.refl _).drew).trans hx1), (Bn.out.ext ((Ext.refl _).drew.trans hx1))⟩, ?_⟩
          simp only [Act.put, List.setIfInBounds_toArray, List.set_cons_zero, List.set_cons_succ]
          refine wpAnyH_ready (rs := [2, 4]) (by kernel_rfl) (by simp) ?_
          refine drawn_call1 2 (some 40) (.tmp 39) (ts := #[35]) (by kernel_rfl) (enters_of Try.func44 (by kernel_rfl) rfl) rfl (zint_v o1 (by omega)) (fun E v2 hh => ?_) ?_
          · skip
            obtain ⟨b2q, A2q, n2q, c2q, rfl, o2, hx2⟩ := hh
            refine ⟨_, rfl, ⟨(((X3.out.trans (Ext.refl _).drew).trans hx1).trans hx2), (Bn.out.ext (((Ext.refl _).drew.trans hx1).trans hx2))⟩, ?_⟩
            simp only [Act.put, List.setIfInBounds_toArray, List.set_cons_zero, List.set_cons_succ]
            refine drawn_free 3 41 (v := ?v3_16) (.build 27 #[(0, .tmp 38), (1, .tmp 40)]) (by kernel_rfl) ?hy3_16 (by kernel_rfl) (by kernel_rfl) (by kernel_rfl) (fun _ _ _ _ h => h) ⟨(((X3.out.trans (Ext.refl _).drew).trans hx1).trans hx2), (Bn.out.ext (((Ext.refl _).drew.trans hx1).trans hx2))⟩ ?hr3_16
            case hy3_16 => (intro o ho w' hS; unfold execOp; simp only [ho]; go_simp; try with_reducible rfl)
            simp only [Act.put, List.setIfInBounds_toArray, List.set_cons_zero, List.set_cons_succ]
            refine wpAnyH_ready (rs := [4]) (by kernel_rfl) (by simp) ?_
            refine drawn_alloc 4 (some 8) (by kernel_rfl) alloc_rat (fun g4 v4 hb4 hx4 hg4 => ⟨⟨((((X3.out.trans (Ext.refl _).drew).trans hx1).trans hx2).trans hx4), (Bn.out.ext ((((Ext.refl _).drew.trans hx1).trans hx2).trans hx4))⟩, ?_⟩) ?_
            · skip
              simp only [Act.put, List.setIfInBounds_toArray, List.set_cons_zero, List.set_cons_succ]
              refine wpAnyH_ready (rs := [5]) (by kernel_rfl) (by simp) ?_
              have hq5 := (show Bk 27 v4 g4 #[.bool false, .slice none 0 0, .bool false, .slice none 0 0] from hb4)
              refine drawn_store 5 27 (.tmp 8) (.tmp 41) (g4) #[.bool b2, .slice A2 n2 c2, .bool b2q, .slice A2q n2q c2q] #[.bool false, .slice none 0 0, .bool false, .slice none 0 0] 27 (by kernel_rfl) rfl rfl hq5.h info_rat rfl one_four (fun v5 hb5 hg5 => ⟨⟨(((((X3.out.trans (Ext.refl _).drew).trans hx1).trans hx2).trans hx4).gb hg5 (by have h := (((X3.out.trans (Ext.refl _).drew).trans hx1).trans hx2).size; have h1 := hg4; omega)), ((Bn.out.ext ((((Ext.refl _).drew.trans hx1).trans hx2).trans hx4)).grown hg5 (by have h0 := (Nat.lt_of_lt_of_le Bn.out.lt (Nat.le_trans (Nat.le_trans (Ext.refl _).drew.size hx1.size) hx2.size)); have h1 := hg4; omega))⟩, ?_⟩) ?_
              · skip
                simp only [Act.put, List.setIfInBounds_toArray, List.set_cons_zero, List.set_cons_succ]
                refine wpAnyH_done (by kernel_rfl) ?_ _
                go_step
                go_step
                go_meet
                case rel => exact ⟨_, _, _, _, _, rfl, (Nat.le_trans (Nat.le_trans (Nat.le_trans (Ext.refl _).drew.size hx1.size) hx2.size) hg4), ((Bo.out.ext (((((hy2.out.trans hy3.out).trans (Ext.refl _).drew).trans hx1).trans hx2).trans hx4)).grown hg5 (by have h0 := (Nat.lt_of_lt_of_le Bo.out.lt (Nat.le_trans (Nat.le_trans (Nat.le_trans (Nat.le_trans hy2.out.size hy3.out.size) (Ext.refl _).drew.size) hx1.size) hx2.size)); have h1 := hg4; omega)), (show Bk 27 v5 (g4) #[.bool b2, .slice A2 n2 c2, .bool b2q, .slice A2q n2q c2q] from hb5), ((O2.out.ext ((((hy3.out.trans (Ext.refl _).drew).trans hx1).trans hx2).trans hx4)).gbk hq5 (by decide) hg5), (((o2.mono ((X3.out.trans (Ext.refl _).drew).trans hx1).size).ext hx4).gbk hq5 (by decide) hg5), (((((X3.out.trans (Ext.refl _).drew).trans hx1).trans hx2).trans hx4).gb hg5 (by have h := (((X3.out.trans (Ext.refl _).drew).trans hx1).trans hx2).size; have h1 := hg4; omega))⟩
              exact drawn_nil
            exact drawn_nil
          refine drawn_alloc 4 (some 8) (by kernel_rfl) alloc_rat (fun g4 v4 hb4 hx4 hg4 => ⟨⟨(((X3.out.trans (Ext.refl _).drew).trans hx1).trans hx4), (Bn.out.ext (((Ext.refl _).drew.trans hx1).trans hx4))⟩, ?_⟩) ?_
          · skip
            simp only [Act.put, List.setIfInBounds_toArray, List.set_cons_zero, List.set_cons_succ]
            refine wpAnyH_ready (rs := [2]) (by kernel_rfl) (by simp) ?_
            refine drawn_call1 2 (some 40) (.tmp 39) (ts := #[35]) (by kernel_rfl) (enters_of Try.func44 (by kernel_rfl) rfl) rfl (zint_v (o1.ext hx4) (by omega)) (fun E v2 hh => ?_) ?_
            · skip
              obtain ⟨b2q, A2q, n2q, c2q, rfl, o2, hx2⟩ := hh
              refine ⟨_, rfl, ⟨((((X3.out.trans (Ext.refl _).drew).trans hx1).trans hx4).trans hx2), (Bn.out.ext ((((Ext.refl _).drew.trans hx1).trans hx4).trans hx2))⟩, ?_⟩
              simp only [Act.put, List.setIfInBounds_toArray, List.set_cons_zero, List.set_cons_succ]
              refine drawn_free 3 41 (v := ?v3_17) (.build 27 #[(0, .tmp 38), (1, .tmp 40)]) (by kernel_rfl) ?hy3_17 (by kernel_rfl) (by kernel_rfl) (by kernel_rfl) (fun _ _ _ _ h => h) ⟨((((X3.out.trans (Ext.refl _).drew).trans hx1).trans hx4).trans hx2), (Bn.out.ext ((((Ext.refl _).drew.trans hx1).trans hx4).trans hx2))⟩ ?hr3_17
              case hy3_17 => (intro o ho w' hS; unfold execOp; simp only [ho]; go_simp; try with_reducible rfl)
              simp only [Act.put, List.setIfInBounds_toArray, List.set_cons_zero, List.set_cons_succ]
              refine wpAnyH_ready (rs := [5]) (by kernel_rfl) (by simp) ?_
              have hq5 := ((show Bk 27 v4 g4 #[.bool false, .slice none 0 0, .bool false, .slice none 0 0] from hb4).ext hx2)
              refine drawn_store 5 27 (.tmp 8) (.tmp 41) (g4) #[.bool b2, .slice A2 n2 c2, .bool b2q, .slice A2q n2q c2q] #[.bool false, .slice none 0 0, .bool false, .slice none 0 0] 27 (by kernel_rfl) rfl rfl hq5.h info_rat rfl one_four (fun v5 hb5 hg5 => ⟨⟨(((((X3.out.trans (Ext.refl _).drew).trans hx1).trans hx4).trans hx2).gb hg5 (by have h := ((X3.out.trans (Ext.refl _).drew).trans hx1).size; have h1 := hg4; omega)), ((Bn.out.ext ((((Ext.refl _).drew.trans hx1).trans hx4).trans hx2)).grown hg5 (by have h0 := (Nat.lt_of_lt_of_le Bn.out.lt (Nat.le_trans (Ext.refl _).drew.size hx1.size)); have h1 := hg4; omega))⟩, ?_⟩) ?_
              · skip
                simp only [Act.put, List.setIfInBounds_toArray, List.set_cons_zero, List.set_cons_succ]
                refine wpAnyH_done (by kernel_rfl) ?_ _
                go_step
                go_step
                go_meet
                case rel => exact ⟨_, _, _, _, _, rfl, (Nat.le_trans (Nat.le_trans (Ext.refl _).drew.size hx1.size) hg4), ((Bo.out.ext (((((hy2.out.trans hy3.out).trans (Ext.refl _).drew).trans hx1).trans hx4).trans hx2)).grown hg5 (by have h0 := (Nat.lt_of_lt_of_le Bo.out.lt (Nat.le_trans (Nat.le_trans (Nat.le_trans hy2.out.size hy3.out.size) (Ext.refl _).drew.size) hx1.size)); have h1 := hg4; omega)), (show Bk 27 v5 (g4) #[.bool b2, .slice A2 n2 c2, .bool b2q, .slice A2q n2q c2q] from hb5), ((O2.out.ext ((((hy3.out.trans (Ext.refl _).drew).trans hx1).trans hx4).trans hx2)).gbk hq5 (by decide) hg5), ((o2.mono (((X3.out.trans (Ext.refl _).drew).trans hx1).trans hx4).size).gbk hq5 (by decide) hg5), (((((X3.out.trans (Ext.refl _).drew).trans hx1).trans hx4).trans hx2).gb hg5 (by have h := ((X3.out.trans (Ext.refl _).drew).trans hx1).size; have h1 := hg4; omega))⟩
              exact drawn_nil
            exact drawn_nil
          exact drawn_nil
        refine drawn_alloc 4 (some 8) (by kernel_rfl) alloc_rat (fun g4 v4 hb4 hx4 hg4 => ⟨⟨((X3.out.trans (Ext.refl _).drew).trans hx4), (Bn.out.ext ((Ext.refl _).drew.trans hx4))⟩, ?_⟩) ?_
        · skip
          simp only [Act.put, List.setIfInBounds_toArray, List.set_cons_zero, List.set_cons_succ]
          refine wpAnyH_ready (rs := [1]) (by kernel_rfl) (by simp) ?_
          refine drawn_call1 1 (some 39) (.const (.int .i64 1)) (ts := #[2]) (by kernel_rfl) (enters_of Try.func37 (by kernel_rfl) rfl) rfl (zsmall_v (n := 1) (by omega) (by omega)) (fun E v1 hh => ?_) ?_
          · skip
            obtain ⟨b1q, A1q, n1q, c1q, rfl, o1, hx1⟩ := hh
            refine ⟨_, rfl, ⟨(((X3.out.trans (Ext.refl _).drew).trans hx4).trans hx1), (Bn.out.ext (((Ext.refl _).drew.trans hx4).trans hx1))⟩, ?_⟩
            simp only [Act.put, List.setIfInBounds_toArray, List.set_cons_zero, List.set_cons_succ]
            refine wpAnyH_ready (rs := [2]) (by kernel_rfl) (by simp) ?_
            refine drawn_call1 2 (some 40) (.tmp 39) (ts := #[35]) (by kernel_rfl) (enters_of Try.func44 (by kernel_rfl) rfl) rfl (zint_v o1 (by omega)) (fun E v2 hh => ?_) ?_
            · skip
              obtain ⟨b2q, A2q, n2q, c2q, rfl, o2, hx2⟩ := hh
              refine ⟨_, rfl, ⟨((((X3.out.trans (Ext.refl _).drew).trans hx4).trans hx1).trans hx2), (Bn.out.ext ((((Ext.refl _).drew.trans hx4).trans hx1).trans hx2))⟩, ?_⟩
              simp only [Act.put, List.setIfInBounds_toArray, List.set_cons_zero, List.set_cons_succ]
              refine drawn_free 3 41 (v := ?v3_18) (.build 27 #[(0, .tmp 38), (1, .tmp 40)]) (by kernel_rfl) ?hy3_18 (by kernel_rfl) (by kernel_rfl) (by kernel_rfl) (fun _ _ _ _ h => h) ⟨((((X3.out.trans (Ext.refl _).drew).trans hx4).trans hx1).trans hx2), (Bn.out.ext ((((Ext.refl _).drew.trans hx4).trans hx1).trans hx2))⟩ ?hr3_18
              case hy3_18 => (intro o ho w' hS; unfold execOp; simp only [ho]; go_simp; try with_reducible rfl)
              simp only [Act.put, List.setIfInBounds_toArray, List.set_cons_zero, List.set_cons_succ]
              refine wpAnyH_ready (rs := [5]) (by kernel_rfl) (by simp) ?_
              have hq5 := ((show Bk 27 v4 g4 #[.bool false, .slice none 0 0, .bool false, .slice none 0 0] from hb4).ext (hx1.trans hx2))
              refine drawn_store 5 27 (.tmp 8) (.tmp 41) (g4) #[.bool b2, .slice A2 n2 c2, .bool b2q, .slice A2q n2q c2q] #[.bool false, .slice none 0 0, .bool false, .slice none 0 0] 27 (by kernel_rfl) rfl rfl hq5.h info_rat rfl one_four (fun v5 hb5 hg5 => ⟨⟨(((((X3.out.trans (Ext.refl _).drew).trans hx4).trans hx1).trans hx2).gb hg5 (by have h := (X3.out.trans (Ext.refl _).drew).size; have h1 := hg4; omega)), ((Bn.out.ext ((((Ext.refl _).drew.trans hx4).trans hx1).trans hx2)).grown hg5 (by have h0 := (Nat.lt_of_lt_of_le Bn.out.lt (Ext.refl _).drew.size); have h1 := hg4; omega))⟩, ?_⟩) ?_
              · skip
                simp only [Act.put, List.setIfInBounds_toArray, List.set_cons_zero, List.set_cons_succ]
                refine wpAnyH_done (by kernel_rfl) ?_ _
                go_step
                go_step
                go_meet
                case rel => exact ⟨_, _, _, _, _, rfl, (Nat.le_trans (Ext.refl _).drew.size hg4), ((Bo.out.ext (((((hy2.out.trans hy3.out).trans (Ext.refl _).drew).trans hx4).trans hx1).trans hx2)).grown hg5 (by have h0 := (Nat.lt_of_lt_of_le Bo.out.lt (Nat.le_trans (Nat.le_trans hy2.out.size hy3.out.size) (Ext.refl _).drew.size)); have h1 := hg4; omega)), (show Bk 27 v5 (g4) #[.bool b2, .slice A2 n2 c2, .bool b2q, .slice A2q n2q c2q] from hb5), ((O2.out.ext ((((hy3.out.trans (Ext.refl _).drew).trans hx4).trans hx1).trans hx2)).gbk hq5 (by decide) hg5), ((o2.mono (((X3.out.trans (Ext.refl _).drew).trans hx4).trans hx1).size).gbk hq5 (by decide) hg5), (((((X3.out.trans (Ext.refl _).drew).trans hx4).trans hx1).trans hx2).gb hg5 (by have h := (X3.out.trans (Ext.refl _).drew).size; have h1 := hg4; omega))⟩
              exact drawn_nil
            exact drawn_nil
          exact drawn_nil
        exact drawn_nil
      case rest =>
      obtain ⟨g8c, b2q, A2q, n2q, c2q, rfl, hgex4, Boc4, Bxc4, Onc4, Ooic4, Xc4⟩ := hcut
      obtain ⟨w4, hw4⟩ : ∃ w4, w4 = wc := ⟨_, rfl⟩
      subst hw4
      have HBoc4 := hid Boc4
      clear Boc4
      have HBxc4 := hid Bxc4
      clear Bxc4
      have HOnc4 := hid Onc4
      clear Onc4
      have HOoic4 := hid Ooic4
      clear Ooic4
      have X4 := hid Xc4
      clear Xc4
      go_upto_region 15 with (first
        | ((go_at_call 47); (with_reducible refine (H2.out _).mono ?_); rintro E5 w5 ⟨b5, A5, n5, c5, rfl, o5, hr5⟩; have X5 := hid (X4.out.trans hr5); have hy5 := hid hr5; clear hr5; have O5 := hid (o5.mono X4.out.size); clear o5))
      have hy6 := hid ((Ext.refl w5).alloc (.cells #[.bool b5, .slice A5 n5 c5] 24))
      have Bd_ := (Bk.new w5 24 #[.bool b5, .slice A5 n5 c5])
      have Bd := hid Bd_
      clear Bd_
      generalize (w5.alloc (.cells #[.bool b5, .slice A5 n5 c5] 24)) = w6 at *
      have X6 := hid (X5.out.trans hy6.out)
      obtain ⟨f6_0, f6_1, f6_2, f6_3, f6_4, f6_5, f6_6, f6_7, f6_8, f6_9⟩ : w6.cell? ⟨w5.heap.size, 0, none⟩ = some (.bool b5) ∧ w6.cell? ⟨w5.heap.size, 1, none⟩ = some (.slice A5 n5 c5) ∧ w6.cell? ⟨w.heap.size, 0, none⟩ = some (.bool false) ∧ w6.cell? ⟨w.heap.size, 1, none⟩ = some (.slice none 0 0) ∧ w6.cell? ⟨w.heap.size, 2, none⟩ = some (.bool false) ∧ w6.cell? ⟨w.heap.size, 3, none⟩ = some (.slice none 0 0) ∧ w6.frozen? ⟨w.heap.size, 0, none⟩ = false ∧ w6.frozen? ⟨w.heap.size, 1, none⟩ = false ∧ w6.frozen? ⟨w.heap.size, 2, none⟩ = false ∧ w6.frozen? ⟨w.heap.size, 3, none⟩ = false := ⟨Bd.out.c 0, Bd.out.c 1, (HBoc4.out.ext (hy5.out.trans hy6.out)).c 0, (HBoc4.out.ext (hy5.out.trans hy6.out)).c 1, (HBoc4.out.ext (hy5.out.trans hy6.out)).c 2, (HBoc4.out.ext (hy5.out.trans hy6.out)).c 3, (HBoc4.out.ext (hy5.out.trans hy6.out)).fr 0, (HBoc4.out.ext (hy5.out.trans hy6.out)).fr 1, (HBoc4.out.ext (hy5.out.trans hy6.out)).fr 2, (HBoc4.out.ext (hy5.out.trans hy6.out)).fr 3⟩
      go_upto_region 17 with (first
        | ((go_at_call 35); (with_reducible refine (zof_v (O5.out.ext hy6.out).iz (by omega)).mono ?_); rintro E7 w7 ⟨b7, A7, n7, c7, rfl, o7, hr7⟩; have X7 := hid (X6.out.trans hr7); have hy7 := hid hr7; clear hr7; have O7 := hid o7; clear o7; obtain ⟨f7_0, f7_1, f7_2, f7_3, f7_4, f7_5, f7_6, f7_7, f7_8, f7_9⟩ : w7.cell? ⟨w5.heap.size, 0, none⟩ = some (.bool b5) ∧ w7.cell? ⟨w5.heap.size, 1, none⟩ = some (.slice A5 n5 c5) ∧ w7.cell? ⟨w.heap.size, 0, none⟩ = some (.bool false) ∧ w7.cell? ⟨w.heap.size, 1, none⟩ = some (.slice none 0 0) ∧ w7.cell? ⟨w.heap.size, 2, none⟩ = some (.bool false) ∧ w7.cell? ⟨w.heap.size, 3, none⟩ = some (.slice none 0 0) ∧ w7.frozen? ⟨w.heap.size, 0, none⟩ = false ∧ w7.frozen? ⟨w.heap.size, 1, none⟩ = false ∧ w7.frozen? ⟨w.heap.size, 2, none⟩ = false ∧ w7.frozen? ⟨w.heap.size, 3, none⟩ = false := ⟨(Bd.out.ext hy7.out).c 0, (Bd.out.ext hy7.out).c 1, (HBoc4.out.ext ((hy5.out.trans hy6.out).trans hy7.out)).c 0, (HBoc4.out.ext ((hy5.out.trans hy6.out).trans hy7.out)).c 1, (HBoc4.out.ext ((hy5.out.trans hy6.out).trans hy7.out)).c 2, (HBoc4.out.ext ((hy5.out.trans hy6.out).trans hy7.out)).c 3, (HBoc4.out.ext ((hy5.out.trans hy6.out).trans hy7.out)).fr 0, (HBoc4.out.ext ((hy5.out.trans hy6.out).trans hy7.out)).fr 1, (HBoc4.out.ext ((hy5.out.trans hy6.out).trans hy7.out)).fr 2, (HBoc4.out.ext ((hy5.out.trans hy6.out).trans hy7.out)).fr 3⟩)
        | ((go_at_call 36); (with_reducible refine (zsign_is (v := 1) O7.out hsg.out).mono ?_); rintro E8 w8 ⟨rfl, hr8⟩; have X8 := hid (X7.out.trans hr8); have hy8 := hid hr8; clear hr8; obtain ⟨f8_0, f8_1, f8_2, f8_3, f8_4, f8_5, f8_6, f8_7, f8_8, f8_9⟩ : w8.cell? ⟨w5.heap.size, 0, none⟩ = some (.bool b5) ∧ w8.cell? ⟨w5.heap.size, 1, none⟩ = some (.slice A5 n5 c5) ∧ w8.cell? ⟨w.heap.size, 0, none⟩ = some (.bool false) ∧ w8.cell? ⟨w.heap.size, 1, none⟩ = some (.slice none 0 0) ∧ w8.cell? ⟨w.heap.size, 2, none⟩ = some (.bool false) ∧ w8.cell? ⟨w.heap.size, 3, none⟩ = some (.slice none 0 0) ∧ w8.frozen? ⟨w.heap.size, 0, none⟩ = false ∧ w8.frozen? ⟨w.heap.size, 1, none⟩ = false ∧ w8.frozen? ⟨w.heap.size, 2, none⟩ = false ∧ w8.frozen? ⟨w.heap.size, 3, none⟩ = false := ⟨(Bd.out.ext (hy7.out.trans hy8.out)).c 0, (Bd.out.ext (hy7.out.trans hy8.out)).c 1, (HBoc4.out.ext (((hy5.out.trans hy6.out).trans hy7.out).trans hy8.out)).c 0, (HBoc4.out.ext (((hy5.out.trans hy6.out).trans hy7.out).trans hy8.out)).c 1, (HBoc4.out.ext (((hy5.out.trans hy6.out).trans hy7.out).trans hy8.out)).c 2, (HBoc4.out.ext (((hy5.out.trans hy6.out).trans hy7.out).trans hy8.out)).c 3, (HBoc4.out.ext (((hy5.out.trans hy6.out).trans hy7.out).trans hy8.out)).fr 0, (HBoc4.out.ext (((hy5.out.trans hy6.out).trans hy7.out).trans hy8.out)).fr 1, (HBoc4.out.ext (((hy5.out.trans hy6.out).trans hy7.out).trans hy8.out)).fr 2, (HBoc4.out.ext (((hy5.out.trans hy6.out).trans hy7.out).trans hy8.out)).fr 3⟩))
      clear f6_0 f6_1 f6_2 f6_3 f6_4 f6_5 f6_6 f6_7 f6_8 f6_9 f7_0 f7_1 f7_2 f7_3 f7_4 f7_5 f7_6 f7_7 f7_8 f7_9 f8_0 f8_1 f8_2 f8_3 f8_4 f8_5 f8_6 f8_7 f8_8 f8_9
      obtain ⟨f9_0, f9_1, f9_2, f9_3, f9_4, f9_5, f9_6, f9_7, f9_8, f9_9⟩ : w8.cell? ⟨w5.heap.size, 0, none⟩ = some (.bool b5) ∧ w8.cell? ⟨w5.heap.size, 1, none⟩ = some (.slice A5 n5 c5) ∧ w8.cell? ⟨g8c, 0, none⟩ = some (.bool b2) ∧ w8.cell? ⟨g8c, 1, none⟩ = some (.slice A2 n2 c2) ∧ w8.cell? ⟨g8c, 2, none⟩ = some (.bool b2q) ∧ w8.cell? ⟨g8c, 3, none⟩ = some (.slice A2q n2q c2q) ∧ w8.frozen? ⟨g8c, 0, none⟩ = false ∧ w8.frozen? ⟨g8c, 1, none⟩ = false ∧ w8.frozen? ⟨g8c, 2, none⟩ = false ∧ w8.frozen? ⟨g8c, 3, none⟩ = false := ⟨(Bd.out.ext (hy7.out.trans hy8.out)).c 0, (Bd.out.ext (hy7.out.trans hy8.out)).c 1, (HBxc4.out.ext (((hy5.out.trans hy6.out).trans hy7.out).trans hy8.out)).c 0, (HBxc4.out.ext (((hy5.out.trans hy6.out).trans hy7.out).trans hy8.out)).c 1, (HBxc4.out.ext (((hy5.out.trans hy6.out).trans hy7.out).trans hy8.out)).c 2, (HBxc4.out.ext (((hy5.out.trans hy6.out).trans hy7.out).trans hy8.out)).c 3, (HBxc4.out.ext (((hy5.out.trans hy6.out).trans hy7.out).trans hy8.out)).fr 0, (HBxc4.out.ext (((hy5.out.trans hy6.out).trans hy7.out).trans hy8.out)).fr 1, (HBxc4.out.ext (((hy5.out.trans hy6.out).trans hy7.out).trans hy8.out)).fr 2, (HBxc4.out.ext (((hy5.out.trans hy6.out).trans hy7.out).trans hy8.out)).fr 3⟩
      go_upto_region 18 with fail
      clear f9_0 f9_1 f9_2 f9_3 f9_4 f9_5 f9_6 f9_7 f9_8 f9_9
      have HG9 := hid (show w8.grownBy ((w8.setCell ⟨g8c, 2, none⟩ (.bool b5)).setCell ⟨g8c, 3, none⟩ (.slice A5 n5 c5)) (some (g8c)) from gbD w8 (g8c) (.bool b5) (.slice A5 n5 c5))
      have HO9 := hid (HBxc4.out.ext (((hy5.out.trans hy6.out).trans hy7.out).trans hy8.out))
      have HP9 := hid (show Bk 27 ((w8.setCell ⟨g8c, 2, none⟩ (.bool b5)).setCell ⟨g8c, 3, none⟩ (.slice A5 n5 c5)) (g8c) #[.bool b2, .slice A2 n2 c2, .bool b5, .slice A5 n5 c5] from (HBxc4.out.ext (((hy5.out.trans hy6.out).trans hy7.out).trans hy8.out)).putD (.bool b5) (.slice A5 n5 c5))
      generalize ((w8.setCell ⟨g8c, 2, none⟩ (.bool b5)).setCell ⟨g8c, 3, none⟩ (.slice A5 n5 c5)) = w9 at *
      have X9 := hid (X8.out.gb HG9.out (by have h := X3.out.size; have h1 := hgex4; omega))
      obtain ⟨f10_0, f10_1, f10_2, f10_3, f10_4, f10_5, f10_6, f10_7, f10_8, f10_9, f10_10, f10_11⟩ : w9.cell? ⟨g8c, 0, none⟩ = some (.bool b2) ∧ w9.cell? ⟨g8c, 1, none⟩ = some (.slice A2 n2 c2) ∧ w9.cell? ⟨g8c, 2, none⟩ = some (.bool b5) ∧ w9.cell? ⟨g8c, 3, none⟩ = some (.slice A5 n5 c5) ∧ w9.cell? ⟨w.heap.size, 0, none⟩ = some (.bool false) ∧ w9.cell? ⟨w.heap.size, 1, none⟩ = some (.slice none 0 0) ∧ w9.cell? ⟨w.heap.size, 2, none⟩ = some (.bool false) ∧ w9.cell? ⟨w.heap.size, 3, none⟩ = some (.slice none 0 0) ∧ w9.frozen? ⟨w.heap.size, 0, none⟩ = false ∧ w9.frozen? ⟨w.heap.size, 1, none⟩ = false ∧ w9.frozen? ⟨w.heap.size, 2, none⟩ = false ∧ w9.frozen? ⟨w.heap.size, 3, none⟩ = false := ⟨HP9.out.c 0, HP9.out.c 1, HP9.out.c 2, HP9.out.c 3, ((HBoc4.out.ext (((hy5.out.trans hy6.out).trans hy7.out).trans hy8.out)).grown HG9.out (by have h0 := (Nat.lt_of_lt_of_le Bo.out.lt (Nat.le_trans hy2.out.size hy3.out.size)); have h1 := hgex4; omega)).c 0, ((HBoc4.out.ext (((hy5.out.trans hy6.out).trans hy7.out).trans hy8.out)).grown HG9.out (by have h0 := (Nat.lt_of_lt_of_le Bo.out.lt (Nat.le_trans hy2.out.size hy3.out.size)); have h1 := hgex4; omega)).c 1, ((HBoc4.out.ext (((hy5.out.trans hy6.out).trans hy7.out).trans hy8.out)).grown HG9.out (by have h0 := (Nat.lt_of_lt_of_le Bo.out.lt (Nat.le_trans hy2.out.size hy3.out.size)); have h1 := hgex4; omega)).c 2, ((HBoc4.out.ext (((hy5.out.trans hy6.out).trans hy7.out).trans hy8.out)).grown HG9.out (by have h0 := (Nat.lt_of_lt_of_le Bo.out.lt (Nat.le_trans hy2.out.size hy3.out.size)); have h1 := hgex4; omega)).c 3, ((HBoc4.out.ext (((hy5.out.trans hy6.out).trans hy7.out).trans hy8.out)).grown HG9.out (by have h0 := (Nat.lt_of_lt_of_le Bo.out.lt (Nat.le_trans hy2.out.size hy3.out.size)); have h1 := hgex4; omega)).fr 0, ((HBoc4.out.ext (((hy5.out.trans hy6.out).trans hy7.out).trans hy8.out)).grown HG9.out (by have h0 := (Nat.lt_of_lt_of_le Bo.out.lt (Nat.le_trans hy2.out.size hy3.out.size)); have h1 := hgex4; omega)).fr 1, ((HBoc4.out.ext (((hy5.out.trans hy6.out).trans hy7.out).trans hy8.out)).grown HG9.out (by have h0 := (Nat.lt_of_lt_of_le Bo.out.lt (Nat.le_trans hy2.out.size hy3.out.size)); have h1 := hgex4; omega)).fr 2, ((HBoc4.out.ext (((hy5.out.trans hy6.out).trans hy7.out).trans hy8.out)).grown HG9.out (by have h0 := (Nat.lt_of_lt_of_le Bo.out.lt (Nat.le_trans hy2.out.size hy3.out.size)); have h1 := hgex4; omega)).fr 3⟩
      go_wp2_with (first
        | ((go_at_call 11); (with_reducible refine (dof_v (Rv.mk (((HOnc4.out.ext (((hy5.out.trans hy6.out).trans hy7.out).trans hy8.out)).gbk HO9.out (by decide) HG9.out).iz.weak (Nat.le_add_right _ 22)) (((O5.out.ext ((hy6.out.trans hy7.out).trans hy8.out)).gbk HO9.out (by decide) HG9.out).iz.weak (by omega)) hr.out) (by omega)).mono ?_); rintro E10 w10 ⟨b10, A10, n10, c10, e10, B10, m10, d10, rfl, o10, hr10⟩; have X10 := hid (X9.out.trans hr10); have hy10 := hid hr10; clear hr10; have O10 := hid o10; clear o10; obtain ⟨f11_0, f11_1, f11_2, f11_3, f11_4, f11_5, f11_6, f11_7, f11_8, f11_9, f11_10, f11_11⟩ : w10.cell? ⟨g8c, 0, none⟩ = some (.bool b2) ∧ w10.cell? ⟨g8c, 1, none⟩ = some (.slice A2 n2 c2) ∧ w10.cell? ⟨g8c, 2, none⟩ = some (.bool b5) ∧ w10.cell? ⟨g8c, 3, none⟩ = some (.slice A5 n5 c5) ∧ w10.cell? ⟨w.heap.size, 0, none⟩ = some (.bool false) ∧ w10.cell? ⟨w.heap.size, 1, none⟩ = some (.slice none 0 0) ∧ w10.cell? ⟨w.heap.size, 2, none⟩ = some (.bool false) ∧ w10.cell? ⟨w.heap.size, 3, none⟩ = some (.slice none 0 0) ∧ w10.frozen? ⟨w.heap.size, 0, none⟩ = false ∧ w10.frozen? ⟨w.heap.size, 1, none⟩ = false ∧ w10.frozen? ⟨w.heap.size, 2, none⟩ = false ∧ w10.frozen? ⟨w.heap.size, 3, none⟩ = false := ⟨(HP9.out.ext hy10.out).c 0, (HP9.out.ext hy10.out).c 1, (HP9.out.ext hy10.out).c 2, (HP9.out.ext hy10.out).c 3, (((HBoc4.out.ext (((hy5.out.trans hy6.out).trans hy7.out).trans hy8.out)).grown HG9.out (by have h0 := (Nat.lt_of_lt_of_le Bo.out.lt (Nat.le_trans hy2.out.size hy3.out.size)); have h1 := hgex4; omega)).ext hy10.out).c 0, (((HBoc4.out.ext (((hy5.out.trans hy6.out).trans hy7.out).trans hy8.out)).grown HG9.out (by have h0 := (Nat.lt_of_lt_of_le Bo.out.lt (Nat.le_trans hy2.out.size hy3.out.size)); have h1 := hgex4; omega)).ext hy10.out).c 1, (((HBoc4.out.ext (((hy5.out.trans hy6.out).trans hy7.out).trans hy8.out)).grown HG9.out (by have h0 := (Nat.lt_of_lt_of_le Bo.out.lt (Nat.le_trans hy2.out.size hy3.out.size)); have h1 := hgex4; omega)).ext hy10.out).c 2, (((HBoc4.out.ext (((hy5.out.trans hy6.out).trans hy7.out).trans hy8.out)).grown HG9.out (by have h0 := (Nat.lt_of_lt_of_le Bo.out.lt (Nat.le_trans hy2.out.size hy3.out.size)); have h1 := hgex4; omega)).ext hy10.out).c 3, (((HBoc4.out.ext (((hy5.out.trans hy6.out).trans hy7.out).trans hy8.out)).grown HG9.out (by have h0 := (Nat.lt_of_lt_of_le Bo.out.lt (Nat.le_trans hy2.out.size hy3.out.size)); have h1 := hgex4; omega)).ext hy10.out).fr 0, (((HBoc4.out.ext (((hy5.out.trans hy6.out).trans hy7.out).trans hy8.out)).grown HG9.out (by have h0 := (Nat.lt_of_lt_of_le Bo.out.lt (Nat.le_trans hy2.out.size hy3.out.size)); have h1 := hgex4; omega)).ext hy10.out).fr 1, (((HBoc4.out.ext (((hy5.out.trans hy6.out).trans hy7.out).trans hy8.out)).grown HG9.out (by have h0 := (Nat.lt_of_lt_of_le Bo.out.lt (Nat.le_trans hy2.out.size hy3.out.size)); have h1 := hgex4; omega)).ext hy10.out).fr 2, (((HBoc4.out.ext (((hy5.out.trans hy6.out).trans hy7.out).trans hy8.out)).grown HG9.out (by have h0 := (Nat.lt_of_lt_of_le Bo.out.lt (Nat.le_trans hy2.out.size hy3.out.size)); have h1 := hgex4; omega)).ext hy10.out).fr 3⟩)
        | ((go_at_call 48); (with_reducible refine (dtext_is O10.out (by omega) (L := 200) (by omega) HBD.out HT.out).mono ?_); rintro E11 w11 ⟨rfl, hr11⟩; have X11 := hid (X10.out.trans hr11); have hy11 := hid hr11; clear hr11; obtain ⟨f12_0, f12_1, f12_2, f12_3, f12_4, f12_5, f12_6, f12_7, f12_8, f12_9, f12_10, f12_11⟩ : w11.cell? ⟨g8c, 0, none⟩ = some (.bool b2) ∧ w11.cell? ⟨g8c, 1, none⟩ = some (.slice A2 n2 c2) ∧ w11.cell? ⟨g8c, 2, none⟩ = some (.bool b5) ∧ w11.cell? ⟨g8c, 3, none⟩ = some (.slice A5 n5 c5) ∧ w11.cell? ⟨w.heap.size, 0, none⟩ = some (.bool false) ∧ w11.cell? ⟨w.heap.size, 1, none⟩ = some (.slice none 0 0) ∧ w11.cell? ⟨w.heap.size, 2, none⟩ = some (.bool false) ∧ w11.cell? ⟨w.heap.size, 3, none⟩ = some (.slice none 0 0) ∧ w11.frozen? ⟨w.heap.size, 0, none⟩ = false ∧ w11.frozen? ⟨w.heap.size, 1, none⟩ = false ∧ w11.frozen? ⟨w.heap.size, 2, none⟩ = false ∧ w11.frozen? ⟨w.heap.size, 3, none⟩ = false := ⟨(HP9.out.ext (hy10.out.trans hy11.out)).c 0, (HP9.out.ext (hy10.out.trans hy11.out)).c 1, (HP9.out.ext (hy10.out.trans hy11.out)).c 2, (HP9.out.ext (hy10.out.trans hy11.out)).c 3, (((HBoc4.out.ext (((hy5.out.trans hy6.out).trans hy7.out).trans hy8.out)).grown HG9.out (by have h0 := (Nat.lt_of_lt_of_le Bo.out.lt (Nat.le_trans hy2.out.size hy3.out.size)); have h1 := hgex4; omega)).ext (hy10.out.trans hy11.out)).c 0, (((HBoc4.out.ext (((hy5.out.trans hy6.out).trans hy7.out).trans hy8.out)).grown HG9.out (by have h0 := (Nat.lt_of_lt_of_le Bo.out.lt (Nat.le_trans hy2.out.size hy3.out.size)); have h1 := hgex4; omega)).ext (hy10.out.trans hy11.out)).c 1, (((HBoc4.out.ext (((hy5.out.trans hy6.out).trans hy7.out).trans hy8.out)).grown HG9.out (by have h0 := (Nat.lt_of_lt_of_le Bo.out.lt (Nat.le_trans hy2.out.size hy3.out.size)); have h1 := hgex4; omega)).ext (hy10.out.trans hy11.out)).c 2, (((HBoc4.out.ext (((hy5.out.trans hy6.out).trans hy7.out).trans hy8.out)).grown HG9.out (by have h0 := (Nat.lt_of_lt_of_le Bo.out.lt (Nat.le_trans hy2.out.size hy3.out.size)); have h1 := hgex4; omega)).ext (hy10.out.trans hy11.out)).c 3, (((HBoc4.out.ext (((hy5.out.trans hy6.out).trans hy7.out).trans hy8.out)).grown HG9.out (by have h0 := (Nat.lt_of_lt_of_le Bo.out.lt (Nat.le_trans hy2.out.size hy3.out.size)); have h1 := hgex4; omega)).ext (hy10.out.trans hy11.out)).fr 0, (((HBoc4.out.ext (((hy5.out.trans hy6.out).trans hy7.out).trans hy8.out)).grown HG9.out (by have h0 := (Nat.lt_of_lt_of_le Bo.out.lt (Nat.le_trans hy2.out.size hy3.out.size)); have h1 := hgex4; omega)).ext (hy10.out.trans hy11.out)).fr 1, (((HBoc4.out.ext (((hy5.out.trans hy6.out).trans hy7.out).trans hy8.out)).grown HG9.out (by have h0 := (Nat.lt_of_lt_of_le Bo.out.lt (Nat.le_trans hy2.out.size hy3.out.size)); have h1 := hgex4; omega)).ext (hy10.out.trans hy11.out)).fr 2, (((HBoc4.out.ext (((hy5.out.trans hy6.out).trans hy7.out).trans hy8.out)).grown HG9.out (by have h0 := (Nat.lt_of_lt_of_le Bo.out.lt (Nat.le_trans hy2.out.size hy3.out.size)); have h1 := hgex4; omega)).ext (hy10.out.trans hy11.out)).fr 3⟩))
      clear f10_0 f10_1 f10_2 f10_3 f10_4 f10_5 f10_6 f10_7 f10_8 f10_9 f10_10 f10_11 f11_0 f11_1 f11_2 f11_3 f11_4 f11_5 f11_6 f11_7 f11_8 f11_9 f11_10 f11_11 f12_0 f12_1 f12_2 f12_3 f12_4 f12_5 f12_6 f12_7 f12_8 f12_9 f12_10 f12_11
      have HG12 := hid (show w11.grownBy ((((w11.setCell ⟨w.heap.size, 0, none⟩ (.bool b2)).setCell ⟨w.heap.size, 1, none⟩ (.slice A2 n2 c2)).setCell ⟨w.heap.size, 2, none⟩ (.bool b5)).setCell ⟨w.heap.size, 3, none⟩ (.slice A5 n5 c5)) (some (w.heap.size)) from gb4 w11 (w.heap.size) (.bool b2) (.slice A2 n2 c2) (.bool b5) (.slice A5 n5 c5))
      have HO12 := hid (((HBoc4.out.ext (((hy5.out.trans hy6.out).trans hy7.out).trans hy8.out)).grown HG9.out (by have h0 := (Nat.lt_of_lt_of_le Bo.out.lt (Nat.le_trans hy2.out.size hy3.out.size)); have h1 := hgex4; omega)).ext (hy10.out.trans hy11.out))
      have HP12 := hid (show Bk 27 ((((w11.setCell ⟨w.heap.size, 0, none⟩ (.bool b2)).setCell ⟨w.heap.size, 1, none⟩ (.slice A2 n2 c2)).setCell ⟨w.heap.size, 2, none⟩ (.bool b5)).setCell ⟨w.heap.size, 3, none⟩ (.slice A5 n5 c5)) (w.heap.size) #[.bool b2, .slice A2 n2 c2, .bool b5, .slice A5 n5 c5] from (((HBoc4.out.ext (((hy5.out.trans hy6.out).trans hy7.out).trans hy8.out)).grown HG9.out (by have h0 := (Nat.lt_of_lt_of_le Bo.out.lt (Nat.le_trans hy2.out.size hy3.out.size)); have h1 := hgex4; omega)).ext (hy10.out.trans hy11.out)).put4 (.bool b2) (.slice A2 n2 c2) (.bool b5) (.slice A5 n5 c5))
      generalize ((((w11.setCell ⟨w.heap.size, 0, none⟩ (.bool b2)).setCell ⟨w.heap.size, 1, none⟩ (.slice A2 n2 c2)).setCell ⟨w.heap.size, 2, none⟩ (.bool b5)).setCell ⟨w.heap.size, 3, none⟩ (.slice A5 n5 c5)) = w12 at *
      have X12 := hid (X11.out.gb HG12.out (by omega))
      refine ret_re rfl HP12.out rfl rfl rfl ⟨_, _, _, _, _, _, _, _, rfl, ⟨(((((HOnc4.out.ext (((hy5.out.trans hy6.out).trans hy7.out).trans hy8.out)).gbk HO9.out (by decide) HG9.out).ext (hy10.out.trans hy11.out)).gbk HO12.out (by decide) HG12.out).cast HN.out).weak (by omega), (((((O5.out.ext ((hy6.out.trans hy7.out).trans hy8.out)).gbk HO9.out (by decide) HG9.out).ext (hy10.out.trans hy11.out)).gbk HO12.out (by decide) HG12.out).cast HD.out).weak (by omega)⟩, X12.out⟩


end Go.Proofs.Ytikkibpjchmajaa

