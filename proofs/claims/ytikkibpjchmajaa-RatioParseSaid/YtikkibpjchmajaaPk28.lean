/-
  The contract of strings.Cut at "/".
-/
import Derived.Test.YtikkibpjchmajaaPk18
import Derived.Lib.Bytealg
import Derived.Lib.IndexLaws
namespace Go.Proofs.Ytikkibpjchmajaa
open Go.RowKit
open Go.Lib (hid)

theorem seq6 {s t : ByteArray} (h : s = t) : (s.toList == t.toList) = true := by rw [beq_iff_eq, h]
theorem sne6 {s t : ByteArray} (h : byt s ≠ byt t) : (s.toList == t.toList) = false := by
  rw [beq_eq_false_iff_ne]
  intro e
  rw [ByteArray.toList_eq, ByteArray.toList_eq] at e
  exact h (by unfold byt; rw [e])
theorem lit_eq6 {s : ByteArray} (h : byt s = [47]) : ([47] == s.toList) = true := by
  have e : s = ⟨#[47]⟩ := byt_inj (by rw [h]; rfl)
  rw [e, ByteArray.toList_eq]; rfl
theorem lit_ne6 {s : ByteArray} (h : byt s ≠ [47]) : ([47] == s.toList) = false := by
  rw [beq_eq_false_iff_ne]
  intro e
  rw [ByteArray.toList_eq] at e
  exact h (by unfold byt; rw [← e]; rfl)
theorem ib_none : ∀ {l : List UInt8}, 47 ∉ l.map UInt8.toNat → Lib.indexByte l 47 = -1
  | [], _ => rfl
  | b :: l, h => by
    have h1 : b ≠ 47 := fun e => h (by rw [e]; simp)
    have h2 := ib_none (l := l) (fun m => h (by rw [List.map_cons]; exact List.mem_cons_of_mem _ m))
    unfold Lib.indexByte
    rw [if_neg (by simpa using h1), h2]
    rfl
theorem ib_some : ∀ {l : List UInt8} {a b : List Nat}, 47 ∉ a → l.map UInt8.toNat = a ++ 47 :: b → Lib.indexByte l 47 = a.length
  | [], a, b, _, h => by simp at h
  | c :: l, [], b, _, h => by
    have e : c = 47 := by
      rw [List.map_cons, List.nil_append] at h
      injection h with h _
      exact UInt8.toNat.inj h
    subst e
    unfold Lib.indexByte
    rfl
  | c :: l, x :: a, b, ha, h => by
    rw [List.map_cons, List.cons_append] at h
    injection h with h h'
    have h1 : c ≠ 47 := fun e => ha (by rw [← h, e]; simp)
    have h2 := ib_some (l := l) (fun m => ha (List.mem_cons_of_mem _ m)) h'
    unfold Lib.indexByte
    rw [if_neg (by simpa using h1), h2, if_neg (by simp)]
    simp
set_option maxRecDepth 100000 in
set_option maxHeartbeats 1600000 in
theorem indexByte_c {w : World} {s : ByteArray} : Calls Try.prog 97 #[.string s, .int .u8 47] w (RetE (.int .i64 (Lib.indexByte s.data.toList 47)) w) := by
  go_enter Try.func97, Try.ntmps97
  go_wp2_with fail
  rw [run_callFunc_extern Try.func102 (by kernel_rfl) (by kernel_rfl) (by kernel_rfl) (e := Extern.BytealgIndexByte.indexByte) (by kernel_rfl), Lib.run_indexByteString]
  simp only [Result.andThen]
  rw [Oper.upon_value]
  go_wp2_with fail
  go_ret
  exact ⟨rfl, Ext.refl _⟩
set_option maxRecDepth 100000 in
set_option maxHeartbeats 1600000 in
theorem index_c {w : World} {s : ByteArray} : Calls Try.prog 93 #[.string s, .string ⟨#[47]⟩] w (RetE (.int .i64 (Lib.indexByte s.data.toList 47)) w) := by
  by_cases h : byt s = [47]
  · have he := lit_eq6 h
    have hv : Hid (Lib.indexByte s.data.toList 47 = 0) := ib_some (a := []) (b := []) (by simp) h
    clear h
    go_enter Try.func93, Try.ntmps93
    go_wp2_with fail
    go_ret
    exact ⟨by rw [hv.out]; rfl, Ext.refl _⟩
  · have he := lit_ne6 h
    clear h
    go_enter Try.func93, Try.ntmps93
    go_wp2_with fail
    refine indexByte_c.mono ?_
    rintro E w1 ⟨rfl, x1⟩
    go_wp2_with fail
    go_ret
    exact ⟨rfl, x1⟩
theorem index_is {w : World} {s : ByteArray} {v : Int} (h : Lib.indexByte s.data.toList 47 = v) : Calls Try.prog 93 #[.string s, .string ⟨#[47]⟩] w (RetE (.int .i64 v) w) := h ▸ index_c
theorem byt_to6 (s : ByteArray) (i : Nat) : byt (s.extract 0 i) = (byt s).take i := by
  unfold byt
  rw [Go.Lib.extract_data, List.drop_zero, List.map_take]
  simp
theorem byt_from6 (s : ByteArray) (i : Nat) : byt (s.extract i s.size) = (byt s).drop i := by
  unfold byt
  rw [Go.Lib.extract_data, ← List.map_drop, List.take_of_length_le (by rw [List.length_drop, ← Go.Lib.size_eq]; omega)]
theorem scut_no {w : World} {s : ByteArray} (h : 47 ∉ byt s) : Calls Try.prog 70 #[.string s, .string ⟨#[47]⟩] w (RetE (.tuple #[.string s, .string ⟨#[]⟩, .bool false]) w) := by
  have hp := hid (index_is (w := w) (ib_none (l := s.data.toList) h))
  clear h
  go_enter Try.func70, Try.ntmps70
  go_wp2_with fail
  refine hp.out.mono ?_
  rintro E w1 ⟨rfl, x1⟩
  go_wp2_with fail
  go_ret3
  exact ⟨rfl, x1⟩
theorem cut_no {w : World} {s : ByteArray} (h : 47 ∉ byt s) : Calls Try.prog 45 #[.string s, .string ⟨#[47]⟩] w (RetE (.tuple #[.string s, .string ⟨#[]⟩, .bool false]) w) := by
  go_enter Try.func45, Try.ntmps45
  go_wp2_with fail
  refine (scut_no h).mono ?_
  rintro E w1 ⟨rfl, x1⟩
  go_wp2_with fail
  go_ret3
  exact ⟨rfl, x1⟩
theorem scut_yes {s : ByteArray} {a b : List Nat} (ha : 47 ∉ a) (h : byt s = a ++ 47 :: b) (hs : s.size ≤ 100000) : ∃ d e : ByteArray, byt d = a ∧ byt e = b ∧ ∀ w, Calls Try.prog 70 #[.string s, .string ⟨#[47]⟩] w (RetE (.tuple #[.string d, .string e, .bool true]) w) := by
  have hl : a.length + 1 ≤ s.size := by rw [← byt_len, h, List.length_append, List.length_cons]; omega
  refine ⟨s.extract 0 a.length, s.extract (a.length + 1) s.size, by rw [byt_to6, h]; simp, ?_, fun w => ?_⟩
  · rw [byt_from6, h, List.drop_append, List.drop_eq_nil_of_le (by omega), List.nil_append, show a.length + 1 - a.length = 1 by omega]
    rfl
  have hp := hid (index_is (w := w) (ib_some (l := s.data.toList) ha h))
  clear h ha
  generalize a.length = i at *
  have c1 : (0 : Int) ≤ (i : Int) := by omega
  have c2 : (i : Int) ≤ (s.size : Int) := by omega
  have c3 : (0 : Int) ≤ (i : Int) + 1 := by omega
  have c4 : (i : Int) + 1 ≤ (s.size : Int) := by omega
  go_enter Try.func70, Try.ntmps70
  go_wp2_with fail
  refine hp.out.mono ?_
  rintro E w1 ⟨rfl, x1⟩
  go_wp2_with (go_quiet (fail))
  go_ret3
  exact ⟨rfl, x1.drewN _⟩
theorem cut_yes {s : ByteArray} {a b : List Nat} (ha : 47 ∉ a) (h : byt s = a ++ 47 :: b) (hs : s.size ≤ 100000) : ∃ d e : ByteArray, byt d = a ∧ byt e = b ∧ ∀ w, Calls Try.prog 45 #[.string s, .string ⟨#[47]⟩] w (RetE (.tuple #[.string d, .string e, .bool true]) w) := by
  obtain ⟨d, e, h1, h2, h3⟩ := scut_yes ha h hs
  refine ⟨d, e, h1, h2, fun w => ?_⟩
  go_enter Try.func45, Try.ntmps45
  go_wp2_with fail
  refine (h3 w).mono ?_
  rintro E w1 ⟨rfl, x1⟩
  go_wp2_with fail
  go_ret3
  exact ⟨rfl, x1⟩
end Go.Proofs.Ytikkibpjchmajaa

