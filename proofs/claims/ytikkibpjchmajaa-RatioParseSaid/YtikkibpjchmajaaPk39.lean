/-
  The contract of the document's Parse: the number of a text.
-/
import Derived.Test.YtikkibpjchmajaaPk26
import Derived.Test.YtikkibpjchmajaaPk34
import Derived.Laws.Strings3
namespace Go.Proofs.Ytikkibpjchmajaa
open Go.RowKit
open Go.Lib (hid)

theorem idx_val {s : ByteArray} {i x : Nat} {X : Int} (h : (byt s)[i]? = some x) (hX : (x : Int) = X) (hi : i < s.size) : (((s[i]'hi).toNat : Nat) : Int) = X := by
  have e : (byt s)[i]? = some (s[i]'hi).toNat := by
    unfold byt
    rw [List.getElem?_map, Array.getElem?_toList, Array.getElem?_eq_getElem hi]; rfl
  rw [e] at h
  injection h with h
  rw [h, hX]
theorem byt_ext1 (s : ByteArray) : byt (s.extract 1 s.size) = (byt s).drop 1 := by
  unfold byt
  rw [Go.Lib.extract_data, ← List.map_drop, List.take_of_length_le (by rw [List.length_drop, ← Go.Lib.size_eq]; omega)]
theorem slice1 {s : ByteArray} (h : 1 ≤ s.size) : ∃ d : ByteArray, byt d = (byt s).drop 1 ∧ d.size = s.size - 1 ∧ ∀ w, (Instr.slice 9 (.string s) (some (.int .i64 1)) none none).run Try.prog w = .ok (.string d) w := by
  have e := byt_ext1 s
  refine ⟨s.extract 1 s.size, e, ?_, fun w => ?_⟩
  · rw [← byt_len, e, List.length_drop, byt_len]
  · rw [run_slice_string_from_if w 9 s .i64 _ Try.underlying9, if_pos ⟨by omega, by omega⟩]
    rfl
theorem str_ne {s : ByteArray} {l : List UInt8} (h : byt s ≠ l.map UInt8.toNat) : (s.toList == l) = false := by
  rw [beq_eq_false_iff_ne]
  intro e
  rw [ByteArray.toList_eq] at e
  exact h (by unfold byt; rw [e])
theorem str_eq {s : ByteArray} {l : List UInt8} (h : byt s = l.map UInt8.toNat) : (s.toList == l) = true := by
  rw [beq_iff_eq, ByteArray.toList_eq]
  unfold byt at h
  have h' := congrArg (List.map UInt8.ofNat) h
  rw [List.map_map, List.map_map] at h'
  have e : (UInt8.ofNat ∘ UInt8.toNat) = id := funext fun b => UInt8.ofNat_toNat
  rwa [e, List.map_id, List.map_id] at h'
theorem str_emp {s : ByteArray} (h : byt s = []) : s.toList.isEmpty = true := by
  rw [ByteArray.toList_eq, List.isEmpty_iff]
  unfold byt at h
  exact List.map_eq_nil_iff.1 h
theorem str_nemp {s : ByteArray} (h : byt s ≠ []) : s.toList.isEmpty = false := by
  rw [ByteArray.toList_eq]
  unfold byt at h
  rw [Bool.eq_false_iff]
  intro e
  rw [List.isEmpty_iff] at e
  exact h ((congrArg (List.map UInt8.toNat) e).trans List.map_nil)
theorem rev_take {D : List Nat} {j k x : Nat} (hx : D[k]? = some x) (hk : k + 1 + j = D.length) : (D.reverse.take (j + 1)) = D.reverse.take j ++ [x] := by
  have hj : j < D.reverse.length := by rw [List.length_reverse]; omega
  rw [List.take_succ_eq_append_getElem hj]
  congr 2
  have : D.reverse[j]? = some x := by
    rw [List.getElem?_reverse (by omega), ← hx]
    congr 1; omega
  rw [List.getElem?_eq_getElem hj] at this
  injection this
theorem vl_canon {D : List Nat} (h : Dig D) (h0 : D.head? ≠ some 48) : D.reverse.map (· - 48) = nd 10 (vl D) := by
  have e := dgs_vl h h0
  have e2 : D.reverse = (nd 10 (vl D)).map (· + 48) := by
    rw [← List.reverse_reverse ((nd 10 (vl D)).map (· + 48))]
    exact congrArg List.reverse e.symm
  rw [e2, List.map_map]
  conv => rhs; rw [← List.map_id (nd 10 (vl D))]
  exact List.map_congr_left fun x _ => by simp

theorem Own.ne_row {k : IntKind} {e : TypeId} {w : World} {lo g n c : Nat} {A : Option Addr} {zs : List Nat} (h : Own k e w lo A n c zs) (hg : g < lo) : some g ≠ A.map (·.block) := by
  rcases h.form with ⟨rfl, _⟩ | ⟨g2, rfl, hl, _⟩
  · simp
  · simp; omega
theorem rparse_long {w : World} {s : ByteArray} (hs : 20000 < s.size) : Calls Try.prog 47 #[.string s] w (RetIE 0 0 3 w) := by
  have B0 := hid (Bx.new w false none 0 0)
  have X0 := hid ((Ext.refl w).alloc (.cells #[.bool false, .slice none 0 0] 24))
  have hgt : (20000 : Int) < (s.size : Int) := by omega
  have r0 := B0.out.c0
  have r1 := B0.out.c1
  have f0 := B0.out.fr 0
  have f1 := B0.out.fr 1
  clear hs
  go_enter Try.func47, Try.ntmps47
  go_wp2_with fail
  refine ret_be rfl B0.out rfl rfl rfl ?_
  exact ⟨_, _, _, _, rfl, ⟨by decide, Cn.none⟩, X0.out⟩
set_option maxRecDepth 100000 in
set_option maxHeartbeats 3200000 in
theorem rparse_a {w : World} {s : ByteArray} (hs : s.size ≤ 20000) (hl : byt s = []) : Calls Try.prog 47 #[.string s] w (RetIE s.size (pz (byt s)) (pe (byt s)) w) := by
  have B0 := hid (Bx.new w false none 0 0)
  have X0 := hid ((Ext.refl w).alloc (.cells #[.bool false, .slice none 0 0] 24))
  have hsz : Hid ((w.alloc (.cells #[.bool false, .slice none 0 0] 24)).heap.size = w.heap.size + 1) := size_alloc _ _
  have r0 := B0.out.c0
  have r1 := B0.out.c1
  have f0 := B0.out.fr 0
  have f1 := B0.out.fr 1
  have hlen := byt_len s
  have hgt : ¬ (20000 : Int) < (s.size : Int) := by omega
  rw [hl] at hlen
  have hs0 : s.size = 0 := hlen.symm
  have he : s.toList.isEmpty = true := str_emp hl
  clear hlen
  have HG := hid (show ¬ Good (byt s) from fun h => h.1 (by rw [hl]; rfl))
  clear hl

  have HS := hid hs
  clear hs
  go_enter Try.func47, Try.ntmps47
  go_wp2_with fail
  rw [(pe_bad HG.out).1, (pe_bad HG.out).2]
  refine ret_be rfl B0.out rfl rfl rfl ?_
  exact ⟨_, _, _, _, rfl, ⟨by decide, Cn.none⟩, X0.out⟩

set_option maxRecDepth 100000 in
set_option maxHeartbeats 3200000 in
theorem rparse_b0 {w : World} {s : ByteArray} (hs : s.size ≤ 20000) (hl : byt s = [45]) : Calls Try.prog 47 #[.string s] w (RetIE s.size (pz (byt s)) (pe (byt s)) w) := by
  have B0 := hid (Bx.new w false none 0 0)
  have X0 := hid ((Ext.refl w).alloc (.cells #[.bool false, .slice none 0 0] 24))
  have hsz : Hid ((w.alloc (.cells #[.bool false, .slice none 0 0] 24)).heap.size = w.heap.size + 1) := size_alloc _ _
  have r0 := B0.out.c0
  have r1 := B0.out.c1
  have f0 := B0.out.fr 0
  have f1 := B0.out.fr 1
  have hlen := byt_len s
  have hgt : ¬ (20000 : Int) < (s.size : Int) := by omega
  rw [hl] at hlen
  have hs0 : s.size = 1 := hlen.symm
  have hs1 : 0 < s.size := by omega
  clear hlen
  have hi0 := idx_val (s := s) (i := 0) (x := 45) (by rw [hl]; rfl) rfl
  obtain ⟨d, hd, hds, hsl⟩ := slice1 (s := s) (by omega)
  have he : d.toList.isEmpty = true := str_emp (by rw [hd, hl]; rfl)
  have HG := hid (show ¬ Good (byt s) from fun h => h.1 (by rw [hl]; rfl))
  clear hl hd

  have HS := hid hs
  clear hs
  go_enter Try.func47, Try.ntmps47
  go_wp2_with fail
  rw [(pe_bad HG.out).1, (pe_bad HG.out).2]
  refine ret_be rfl B0.out rfl rfl rfl ?_
  exact ⟨_, _, _, _, rfl, ⟨by decide, Cn.none⟩, X0.out⟩

set_option maxRecDepth 100000 in
set_option maxHeartbeats 3200000 in
theorem rparse_b48 {w : World} {s : ByteArray} (hs : s.size ≤ 20000) {r : List Nat} (hl : byt s = 45 :: 48 :: r) (hq : 1 < s.size - 1) : Calls Try.prog 47 #[.string s] w (RetIE s.size (pz (byt s)) (pe (byt s)) w) := by
  have B0 := hid (Bx.new w false none 0 0)
  have X0 := hid ((Ext.refl w).alloc (.cells #[.bool false, .slice none 0 0] 24))
  have hsz : Hid ((w.alloc (.cells #[.bool false, .slice none 0 0] 24)).heap.size = w.heap.size + 1) := size_alloc _ _
  have r0 := B0.out.c0
  have r1 := B0.out.c1
  have f0 := B0.out.fr 0
  have f1 := B0.out.fr 1
  have hlen := byt_len s
  have hgt : ¬ (20000 : Int) < (s.size : Int) := by omega
  rw [hl] at hlen
  have hs0 : 2 ≤ s.size := by rw [← hlen]; simp
  have hs1 : 0 < s.size := by omega
  clear hlen
  have hi0 := idx_val (s := s) (i := 0) (x := 45) (by rw [hl]; rfl) rfl
  obtain ⟨d, hd, hds, hsl⟩ := slice1 (s := s) (by omega)
  have hd1 : 0 < d.size := by omega
  have hq' : 1 < d.size := by omega
  have hj0 := idx_val (s := d) (i := 0) (x := 48) (by rw [hd, hl]; rfl) rfl
  have he : d.toList.isEmpty = false := str_nemp (by rw [hd, hl]; simp)
  have HG := hid (show ¬ Good (byt s) from fun h => h.2.1 (by rw [hl]; exact ⟨rfl, .inr rfl⟩))
  clear hl hd hq

  have HS := hid hs
  clear hs
  go_enter Try.func47, Try.ntmps47
  go_wp2_with fail
  rw [(pe_bad HG.out).1, (pe_bad HG.out).2]
  refine ret_be rfl B0.out rfl rfl rfl ?_
  exact ⟨_, _, _, _, rfl, ⟨by decide, Cn.none⟩, X0.out⟩

set_option maxRecDepth 100000 in
set_option maxHeartbeats 3200000 in
theorem rparse_b48s {w : World} {s : ByteArray} (hs : s.size ≤ 20000) {r : List Nat} (hl : byt s = 45 :: 48 :: r) (hq : ¬ 1 < s.size - 1) : Calls Try.prog 47 #[.string s] w (RetIE s.size (pz (byt s)) (pe (byt s)) w) := by
  have B0 := hid (Bx.new w false none 0 0)
  have X0 := hid ((Ext.refl w).alloc (.cells #[.bool false, .slice none 0 0] 24))
  have hsz : Hid ((w.alloc (.cells #[.bool false, .slice none 0 0] 24)).heap.size = w.heap.size + 1) := size_alloc _ _
  have r0 := B0.out.c0
  have r1 := B0.out.c1
  have f0 := B0.out.fr 0
  have f1 := B0.out.fr 1
  have hlen := byt_len s
  have hgt : ¬ (20000 : Int) < (s.size : Int) := by omega
  rw [hl] at hlen
  have hs0 : 2 ≤ s.size := by rw [← hlen]; simp
  have hs1 : 0 < s.size := by omega
  clear hlen
  have hi0 := idx_val (s := s) (i := 0) (x := 45) (by rw [hl]; rfl) rfl
  obtain ⟨d, hd, hds, hsl⟩ := slice1 (s := s) (by omega)
  have hd1 : 0 < d.size := by omega
  have hq' : ¬ 1 < d.size := by omega
  have hj0 := idx_val (s := d) (i := 0) (x := 48) (by rw [hd, hl]; rfl) rfl
  have he : d.toList.isEmpty = false := str_nemp (by rw [hd, hl]; simp)
  have HG := hid (show ¬ Good (byt s) from fun h => h.2.1 (by rw [hl]; exact ⟨rfl, .inr rfl⟩))
  clear hl hd hq

  have HS := hid hs
  clear hs
  go_enter Try.func47, Try.ntmps47
  go_wp2_with fail
  rw [(pe_bad HG.out).1, (pe_bad HG.out).2]
  refine ret_be rfl B0.out rfl rfl rfl ?_
  exact ⟨_, _, _, _, rfl, ⟨by decide, Cn.none⟩, X0.out⟩

set_option maxRecDepth 100000 in
set_option maxHeartbeats 3200000 in
theorem rparse_c48 {w : World} {s : ByteArray} (hs : s.size ≤ 20000) {r : List Nat} (hl : byt s = 48 :: r) (hq : 1 < s.size) : Calls Try.prog 47 #[.string s] w (RetIE s.size (pz (byt s)) (pe (byt s)) w) := by
  have B0 := hid (Bx.new w false none 0 0)
  have X0 := hid ((Ext.refl w).alloc (.cells #[.bool false, .slice none 0 0] 24))
  have hsz : Hid ((w.alloc (.cells #[.bool false, .slice none 0 0] 24)).heap.size = w.heap.size + 1) := size_alloc _ _
  have r0 := B0.out.c0
  have r1 := B0.out.c1
  have f0 := B0.out.fr 0
  have f1 := B0.out.fr 1
  have hlen := byt_len s
  have hgt : ¬ (20000 : Int) < (s.size : Int) := by omega
  rw [hl] at hlen
  have hs1 : 0 < s.size := by omega
  have hi0 := idx_val (s := s) (i := 0) (x := 48) (by rw [hl]; rfl) rfl
  have he : s.toList.isEmpty = false := str_nemp (by rw [hl]; simp)
  have HG := hid (show ¬ Good (byt s) from fun h => h.2.1 (by rw [hl]; exact ⟨rfl, .inl (by show 1 < (48 :: r).length; omega)⟩))
  clear hl hlen

  have HS := hid hs
  clear hs
  go_enter Try.func47, Try.ntmps47
  go_wp2_with fail
  rw [(pe_bad HG.out).1, (pe_bad HG.out).2]
  refine ret_be rfl B0.out rfl rfl rfl ?_
  exact ⟨_, _, _, _, rfl, ⟨by decide, Cn.none⟩, X0.out⟩

set_option maxRecDepth 100000 in
set_option maxHeartbeats 3200000 in
theorem rparse_c1 {w : World} {s : ByteArray} (hs : s.size ≤ 20000) (hl : byt s = [48]) : Calls Try.prog 47 #[.string s] w (RetIE s.size (pz (byt s)) (pe (byt s)) w) := by
  have B0 := hid (Bx.new w false none 0 0)
  have X0 := hid ((Ext.refl w).alloc (.cells #[.bool false, .slice none 0 0] 24))
  have hsz : Hid ((w.alloc (.cells #[.bool false, .slice none 0 0] 24)).heap.size = w.heap.size + 1) := size_alloc _ _
  have r0 := B0.out.c0
  have r1 := B0.out.c1
  have f0 := B0.out.fr 0
  have f1 := B0.out.fr 1
  have hlen := byt_len s
  have hgt : ¬ (20000 : Int) < (s.size : Int) := by omega
  rw [hl] at hlen
  have hs0 : s.size = 1 := hlen.symm
  have hs1 : 0 < s.size := by omega
  have hi0 := idx_val (s := s) (i := 0) (x := 48) (by rw [hl]; rfl) rfl
  have he : s.toList.isEmpty = false := str_nemp (by rw [hl]; simp)
  have he0 : (s.toList == [48]) = true := str_eq (l := [48]) (by rw [hl]; rfl)
  have HDD := hid (show dd (byt s) = byt s by rw [hl]; rfl)
  have HGD := hid (good_of (l := byt s) (d := dd (byt s)) (nb := false) rfl (by rw [hl]; rfl) (by rw [hl]; decide) (.inr ⟨by rw [hl]; rfl, rfl⟩))
  have HNG := hid (show decide ((byt s).head? = some 45) = false by rw [hl]; rfl)
  have HL := hid hl
  clear hl hlen

  have HS := hid hs
  clear hs
  go_enter Try.func47, Try.ntmps47
  go_wp2_with fail
  have HSD := hid (show s.size ≤ s.size by omega)
  clear r0 r1 f0 f1 hi0 he
  go_loopw [6, 7] (fun so si wr => ∃ (j : Nat) (A : Option Addr) (c : Nat) (I : Int), j ≤ s.size ∧ si = .int .i64 I ∧ I + 1 + j = s.size ∧ so = .slice A j c ∧ Own .i64 3 wr (w.alloc (.cells #[.bool false, .slice none 0 0] 24)).heap.size A j c (((byt s).reverse.take j).map (· - 48)) ∧ Dig ((byt s).reverse.take j) ∧ Bx wr w.heap.size false none 0 0 ∧ Ext (w.alloc (.cells #[.bool false, .slice none 0 0] 24)) wr) (fun _ si _ => (intOf si + 1).toNat)
  case atStart => exact ⟨0, none, 0, _, by omega, rfl, by omega, rfl, ⟨by simp, .inl ⟨rfl, rfl⟩⟩, fun c hc => by simp at hc, B0.out, Ext.refl _⟩
  case round =>
    obtain ⟨j, A, c, I, hj, rfl, hI, rfl, ho, hdg, hbx, hx⟩ := hrel
    have HO := hid ho
    have HDG := hid hdg
    have HBX := hid hbx
    have HX := hid hx
    have hls := hx.size
    have hr0 := hbx.c0
    have hr1 := hbx.c1
    have hf0 := hbx.fr 0
    have hf1 := hbx.fr 1
    clear ho hdg hbx hx B0
    by_cases hlt : j < s.size
    · obtain ⟨k, rfl⟩ : ∃ k : Nat, I = k := ⟨s.size - 1 - j, by omega⟩
      have hk : k + 1 + j = s.size := by omega
      have hkl : k < (byt s).length := by rw [byt_len]; omega
      obtain ⟨x, hx⟩ : ∃ x, (byt s)[k]? = some x := ⟨_, List.getElem?_eq_getElem hkl⟩
      have hix := idx_val hx rfl
      have hkd : k < s.size := by omega
      have hxm := List.mem_of_getElem? hx
      have HRT := hid (rev_take hx (j := j) (by rw [byt_len]; exact hk))
      have hxl := byt_lim s x hxm
      have HNOT : Hid (x < 48 ∨ 57 < x → ¬ Good (byt s)) := fun hb hg => by
        have := hg.2.2 x (by rw [HDD.out]; exact hxm)
        omega
      clear hx hxm hkl hI
      by_cases hx1 : x < 48
      · have HG := hid (HNOT.out (.inl hx1))
        have hx1' : (x : Int) < 48 := by omega
        go_wp2_with fail
        rw [(pe_bad HG.out).1, (pe_bad HG.out).2]
        refine ret_be rfl HBX.out.put rfl rfl rfl ?_
        exact ⟨_, _, _, _, rfl, ⟨by decide, Cn.none⟩, (X0.out.trans HX.out).put (Nat.le_refl _) _ _⟩
      · by_cases hx2 : 57 < x
        · have HG := hid (HNOT.out (.inr hx2))
          have hx1' : ¬ (x : Int) < 48 := by omega
          have hx2' : (57 : Int) < (x : Int) := by omega
          go_wp2_with fail
          rw [(pe_bad HG.out).1, (pe_bad HG.out).2]
          refine ret_be rfl HBX.out.put rfl rfl rfl ?_
          exact ⟨_, _, _, _, rfl, ⟨by decide, Cn.none⟩, (X0.out.trans HX.out).put (Nat.le_refl _) _ _⟩
        · have hx1' : ¬ (x : Int) < 48 := by omega
          have hx2' : ¬ (57 : Int) < (x : Int) := by omega
          clear hr0 hr1 hf0 hf1
          go_wp2_with (at_builtin; refine wpl_append1 (w0 := w.alloc (.cells #[.bool false, .slice none 0 0] 24)) rfl (.tmp 59) (.tmp 65) _ rfl 3 .i64 8 Try.underlying33 info_int _ (x - 48) rfl rfl (by omega) HO.out HX.out (by have := HS.out; have := HSD.out; omega) (by simp only [maxLen]; have := HS.out; have := HSD.out; omega) ?_; intro A2 c2 w2 ho2 hx2 hg2; have HB2 := hid (HBX.out.grown hg2.out (HO.out.ne_row (by rw [size_alloc]; omega))); have HO2 := hid ho2; have HX2 := hid hx2; clear ho2 hx2 hg2)
          go_roundw
          case rel =>
            refine ⟨j + 1, A2, c2, _, by omega, rfl, by omega, rfl, ?_, ?_, HB2.out, HX2.out⟩
            · rw [HRT.out, List.map_append]; exact HO2.out
            · rw [HRT.out]
              exact fun c hc => by
                rcases List.mem_append.1 hc with hc | hc
                · exact HDG.out c hc
                · simp at hc; omega
          case measure => simp [intOf] <;> omega
    · obtain rfl : j = s.size := by omega
      obtain rfl : I = -1 := by omega
      have hrt : (byt s).reverse.take s.size = (byt s).reverse := List.take_of_length_le (by rw [List.length_reverse, byt_len]; omega)
      have hdg := HDG.out
      have ho := HO.out
      rw [hrt] at hdg ho
      have hdd : Dig (byt s) := fun c hc => hdg c (List.mem_reverse.2 hc)
      have hg : Good (byt s) := HGD.out (by rw [HDD.out]; exact hdd)
      generalize hpe : pe (byt s) = q at *
      rw [pe_good hg] at hpe
      have HPE := hid hpe
      have hng := (pz_neg hg).1
      have hva := (pz_neg hg).2
      rw [HDD.out] at hva
      rw [HNG.out] at hng
      have hzd : Zd s.size wr false none 0 0 (pz (byt s)) := ⟨hng.symm, by rw [hva, HL.out, show vl [48] = 0 from rfl, nd_zero]; exact ⟨rfl, Nat.le_refl _, by simp [maxLen], fun h => absurd h (by omega)⟩, Nat.zero_le _⟩
      generalize pz (byt s) = z at *
      have HG := hid hg
      clear hrt hdg ho hdd hg hpe
      have X1 := HX.out.alloc (.cells #[.bool false, .slice none 0 0] 35)
      have BZ := Bz.new wr false none 0 0
      have HZD := hid (hzd.ext ((Ext.refl wr).alloc (.cells #[.bool false, .slice none 0 0] 35)))
      have HB1 := hid (HBX.out.ext ((Ext.refl wr).alloc (.cells #[.bool false, .slice none 0 0] 35)))
      have HX1 := hid X1
      have hz0 := BZ.c0
      have hz1 := BZ.c1
      clear X1 BZ hzd hr0 hr1 hf0 hf1
      go_wp2_with fail
      generalize wr.alloc (.cells #[.bool false, .slice none 0 0] 35) = w2 at *
      clear hz0 hz1
      refine (zint_v HZD.out (by have := HS.out; have := HSD.out; omega)).mono ?_
      rintro E w3 ⟨b3, A3, n3, c3, rfl, o3, x3⟩
      have B3 := HB1.out.ext x3
      have HB3 := hid B3
      have r0 := B3.c0
      have r1 := B3.c1
      have f0 := B3.fr 0
      have f1 := B3.fr 1
      have HO3 := hid o3
      have HX3 := hid (HX1.out.trans x3)
      have hs3 := hid (HX1.out.size)
      clear B3 o3 x3
      go_wp2_with fail
      refine ret_be rfl HB3.out.put rfl rfl rfl ?_
      have h1 := hs3.out
      have h2 := hsz.out
      have h3 := HPE.out
      subst h3
      exact ⟨_, _, _, _, rfl, ⟨HO3.out.1, (HO3.out.2.put (by omega)).mono (by omega)⟩, (X0.out.trans HX3.out).put (Nat.le_refl _) _ _⟩

set_option maxRecDepth 100000 in
set_option maxHeartbeats 3200000 in
theorem rparse_c {w : World} {s : ByteArray} (hs : s.size ≤ 20000) {x : Nat} {r : List Nat} (hl : byt s = x :: r) (hx : x ≠ 45) (hx8 : x ≠ 48) : Calls Try.prog 47 #[.string s] w (RetIE s.size (pz (byt s)) (pe (byt s)) w) := by
  have B0 := hid (Bx.new w false none 0 0)
  have X0 := hid ((Ext.refl w).alloc (.cells #[.bool false, .slice none 0 0] 24))
  have hsz : Hid ((w.alloc (.cells #[.bool false, .slice none 0 0] 24)).heap.size = w.heap.size + 1) := size_alloc _ _
  have r0 := B0.out.c0
  have r1 := B0.out.c1
  have f0 := B0.out.fr 0
  have f1 := B0.out.fr 1
  have hlen := byt_len s
  have hgt : ¬ (20000 : Int) < (s.size : Int) := by omega
  rw [hl] at hlen
  have hs1 : 0 < s.size := by rw [← hlen]; simp
  have hhd : (byt s).head? ≠ some 45 := by rw [hl]; intro e; simp at e; exact hx e
  have hi0 := idx_val (s := s) (i := 0) (x := x) (by rw [hl]; rfl) rfl
  have he : s.toList.isEmpty = false := str_nemp (by rw [hl]; simp)
  have he0 : (s.toList == [48]) = false := str_ne (l := [48]) (by rw [hl]; intro e; simp at e; exact hx8 e.1)
  have hdl : dd (byt s) = byt s := by unfold dd; rw [if_neg hhd]
  have HDD := hid hdl
  have HGD := hid (good_of (l := byt s) (d := dd (byt s)) (nb := false) rfl (decide_eq_false hhd) (by rw [hdl, hl]; simp) (.inl (by rw [hdl, hl]; intro e; simp at e; exact hx8 e)))
  have HNG := hid (decide_eq_false hhd)
  have HH := hid (show (byt s).head? ≠ some 48 by rw [hl]; intro e; simp at e; exact hx8 e)
  have hxa : ((x : Int) == 45) = false := beq_eq_false_iff_ne.2 (by omega)
  have hxb : ((x : Int) == 48) = false := beq_eq_false_iff_ne.2 (by omega)
  clear hl hlen hhd hdl hx hx8

  have HS := hid hs
  clear hs
  go_enter Try.func47, Try.ntmps47
  go_wp2_with fail
  have HSD := hid (show s.size ≤ s.size by omega)
  clear r0 r1 f0 f1 hi0 he hxa hxb
  go_loopw [6, 7] (fun so si wr => ∃ (j : Nat) (A : Option Addr) (c : Nat) (I : Int), j ≤ s.size ∧ si = .int .i64 I ∧ I + 1 + j = s.size ∧ so = .slice A j c ∧ Own .i64 3 wr (w.alloc (.cells #[.bool false, .slice none 0 0] 24)).heap.size A j c (((byt s).reverse.take j).map (· - 48)) ∧ Dig ((byt s).reverse.take j) ∧ Bx wr w.heap.size false none 0 0 ∧ Ext (w.alloc (.cells #[.bool false, .slice none 0 0] 24)) wr) (fun _ si _ => (intOf si + 1).toNat)
  case atStart => exact ⟨0, none, 0, _, by omega, rfl, by omega, rfl, ⟨by simp, .inl ⟨rfl, rfl⟩⟩, fun c hc => by simp at hc, B0.out, Ext.refl _⟩
  case round =>
    obtain ⟨j, A, c, I, hj, rfl, hI, rfl, ho, hdg, hbx, hx⟩ := hrel
    have HO := hid ho
    have HDG := hid hdg
    have HBX := hid hbx
    have HX := hid hx
    have hls := hx.size
    have hr0 := hbx.c0
    have hr1 := hbx.c1
    have hf0 := hbx.fr 0
    have hf1 := hbx.fr 1
    clear ho hdg hbx hx B0
    by_cases hlt : j < s.size
    · obtain ⟨k, rfl⟩ : ∃ k : Nat, I = k := ⟨s.size - 1 - j, by omega⟩
      have hk : k + 1 + j = s.size := by omega
      have hkl : k < (byt s).length := by rw [byt_len]; omega
      obtain ⟨x, hx⟩ : ∃ x, (byt s)[k]? = some x := ⟨_, List.getElem?_eq_getElem hkl⟩
      have hix := idx_val hx rfl
      have hkd : k < s.size := by omega
      have hxm := List.mem_of_getElem? hx
      have HRT := hid (rev_take hx (j := j) (by rw [byt_len]; exact hk))
      have hxl := byt_lim s x hxm
      have HNOT : Hid (x < 48 ∨ 57 < x → ¬ Good (byt s)) := fun hb hg => by
        have := hg.2.2 x (by rw [HDD.out]; exact hxm)
        omega
      clear hx hxm hkl hI
      by_cases hx1 : x < 48
      · have HG := hid (HNOT.out (.inl hx1))
        have hx1' : (x : Int) < 48 := by omega
        go_wp2_with fail
        rw [(pe_bad HG.out).1, (pe_bad HG.out).2]
        refine ret_be rfl HBX.out.put rfl rfl rfl ?_
        exact ⟨_, _, _, _, rfl, ⟨by decide, Cn.none⟩, (X0.out.trans HX.out).put (Nat.le_refl _) _ _⟩
      · by_cases hx2 : 57 < x
        · have HG := hid (HNOT.out (.inr hx2))
          have hx1' : ¬ (x : Int) < 48 := by omega
          have hx2' : (57 : Int) < (x : Int) := by omega
          go_wp2_with fail
          rw [(pe_bad HG.out).1, (pe_bad HG.out).2]
          refine ret_be rfl HBX.out.put rfl rfl rfl ?_
          exact ⟨_, _, _, _, rfl, ⟨by decide, Cn.none⟩, (X0.out.trans HX.out).put (Nat.le_refl _) _ _⟩
        · have hx1' : ¬ (x : Int) < 48 := by omega
          have hx2' : ¬ (57 : Int) < (x : Int) := by omega
          clear hr0 hr1 hf0 hf1
          go_wp2_with (at_builtin; refine wpl_append1 (w0 := w.alloc (.cells #[.bool false, .slice none 0 0] 24)) rfl (.tmp 59) (.tmp 65) _ rfl 3 .i64 8 Try.underlying33 info_int _ (x - 48) rfl rfl (by omega) HO.out HX.out (by have := HS.out; have := HSD.out; omega) (by simp only [maxLen]; have := HS.out; have := HSD.out; omega) ?_; intro A2 c2 w2 ho2 hx2 hg2; have HB2 := hid (HBX.out.grown hg2.out (HO.out.ne_row (by rw [size_alloc]; omega))); have HO2 := hid ho2; have HX2 := hid hx2; clear ho2 hx2 hg2)
          go_roundw
          case rel =>
            refine ⟨j + 1, A2, c2, _, by omega, rfl, by omega, rfl, ?_, ?_, HB2.out, HX2.out⟩
            · rw [HRT.out, List.map_append]; exact HO2.out
            · rw [HRT.out]
              exact fun c hc => by
                rcases List.mem_append.1 hc with hc | hc
                · exact HDG.out c hc
                · simp at hc; omega
          case measure => simp [intOf] <;> omega
    · obtain rfl : j = s.size := by omega
      obtain rfl : I = -1 := by omega
      have hrt : (byt s).reverse.take s.size = (byt s).reverse := List.take_of_length_le (by rw [List.length_reverse, byt_len]; omega)
      have hdg := HDG.out
      have ho := HO.out
      rw [hrt] at hdg ho
      have hdd : Dig (byt s) := fun c hc => hdg c (List.mem_reverse.2 hc)
      have hg : Good (byt s) := HGD.out (by rw [HDD.out]; exact hdd)
      generalize hpe : pe (byt s) = q at *
      rw [pe_good hg] at hpe
      have HPE := hid hpe
      have hng := (pz_neg hg).1
      have hva := (pz_neg hg).2
      rw [HDD.out] at hva
      rw [HNG.out] at hng
      rw [vl_canon hdd HH.out, ← hva] at ho
      have hzd : Zd s.size wr false A s.size c (pz (byt s)) := ⟨hng.symm, ho.sl, HSD.out⟩
      generalize pz (byt s) = z at *
      have HG := hid hg
      clear hrt hdg ho hdd hg hpe
      have X1 := HX.out.alloc (.cells #[.bool false, .slice A s.size c] 35)
      have BZ := Bz.new wr false A s.size c
      have HZD := hid (hzd.ext ((Ext.refl wr).alloc (.cells #[.bool false, .slice A s.size c] 35)))
      have HB1 := hid (HBX.out.ext ((Ext.refl wr).alloc (.cells #[.bool false, .slice A s.size c] 35)))
      have HX1 := hid X1
      have hz0 := BZ.c0
      have hz1 := BZ.c1
      clear X1 BZ hzd hr0 hr1 hf0 hf1
      go_wp2_with fail
      generalize wr.alloc (.cells #[.bool false, .slice A s.size c] 35) = w2 at *
      clear hz0 hz1
      refine (zint_v HZD.out (by have := HS.out; have := HSD.out; omega)).mono ?_
      rintro E w3 ⟨b3, A3, n3, c3, rfl, o3, x3⟩
      have B3 := HB1.out.ext x3
      have HB3 := hid B3
      have r0 := B3.c0
      have r1 := B3.c1
      have f0 := B3.fr 0
      have f1 := B3.fr 1
      have HO3 := hid o3
      have HX3 := hid (HX1.out.trans x3)
      have hs3 := hid (HX1.out.size)
      clear B3 o3 x3
      go_wp2_with fail
      refine ret_be rfl HB3.out.put rfl rfl rfl ?_
      have h1 := hs3.out
      have h2 := hsz.out
      have h3 := HPE.out
      subst h3
      exact ⟨_, _, _, _, rfl, ⟨HO3.out.1, (HO3.out.2.put (by omega)).mono (by omega)⟩, (X0.out.trans HX3.out).put (Nat.le_refl _) _ _⟩

set_option maxRecDepth 100000 in
set_option maxHeartbeats 3200000 in
theorem rparse_b {w : World} {s : ByteArray} (hs : s.size ≤ 20000) {y : Nat} {r : List Nat} (hl : byt s = 45 :: y :: r) (hx8 : y ≠ 48) : Calls Try.prog 47 #[.string s] w (RetIE s.size (pz (byt s)) (pe (byt s)) w) := by
  have B0 := hid (Bx.new w false none 0 0)
  have X0 := hid ((Ext.refl w).alloc (.cells #[.bool false, .slice none 0 0] 24))
  have hsz : Hid ((w.alloc (.cells #[.bool false, .slice none 0 0] 24)).heap.size = w.heap.size + 1) := size_alloc _ _
  have r0 := B0.out.c0
  have r1 := B0.out.c1
  have f0 := B0.out.fr 0
  have f1 := B0.out.fr 1
  have hlen := byt_len s
  have hgt : ¬ (20000 : Int) < (s.size : Int) := by omega
  rw [hl] at hlen
  have hs0 : 2 ≤ s.size := by rw [← hlen]; simp
  have hs1 : 0 < s.size := by omega
  have hi0 := idx_val (s := s) (i := 0) (x := 45) (by rw [hl]; rfl) rfl
  obtain ⟨d, hd, hds, hsl⟩ := slice1 (s := s) (by omega)
  have hd1 : 0 < d.size := by omega
  have hdy : d.size ≤ s.size := by omega
  have hdz : ¬ (20000 : Int) < (d.size : Int) := by omega
  have hj0 := idx_val (s := d) (i := 0) (x := y) (by rw [hd, hl]; rfl) rfl
  have he : d.toList.isEmpty = false := str_nemp (by rw [hd, hl]; simp)
  have he0 : (d.toList == [48]) = false := str_ne (l := [48]) (by rw [hd, hl]; intro e; simp at e; exact hx8 e.1)
  have hdl : dd (byt s) = byt d := by rw [hd, hl]; rfl
  have HDD := hid hdl
  have HGD := hid (good_of (l := byt s) (d := dd (byt s)) (nb := true) rfl (by rw [hl]; rfl) (by rw [hl]; simp [dd]) (.inl (by rw [hl]; intro e; simp [dd] at e; exact hx8 e)))
  have HNG := hid (show decide ((byt s).head? = some 45) = true by rw [hl]; rfl)
  have HH := hid (show (byt d).head? ≠ some 48 by rw [hd, hl]; intro e; simp at e; exact hx8 e)
  have hxb : ((y : Int) == 48) = false := beq_eq_false_iff_ne.2 (by omega)
  clear hl hlen hdl hx8 hd hds

  have HS := hid hs
  clear hs
  go_enter Try.func47, Try.ntmps47
  go_wp2_with fail
  have HSD := hid (show d.size ≤ s.size by omega)
  clear r0 r1 f0 f1 hi0 hj0 hsl he hxb
  go_loopw [6, 7] (fun so si wr => ∃ (j : Nat) (A : Option Addr) (c : Nat) (I : Int), j ≤ d.size ∧ si = .int .i64 I ∧ I + 1 + j = d.size ∧ so = .slice A j c ∧ Own .i64 3 wr (w.alloc (.cells #[.bool false, .slice none 0 0] 24)).heap.size A j c (((byt d).reverse.take j).map (· - 48)) ∧ Dig ((byt d).reverse.take j) ∧ Bx wr w.heap.size false none 0 0 ∧ Ext (w.alloc (.cells #[.bool false, .slice none 0 0] 24)) wr) (fun _ si _ => (intOf si + 1).toNat)
  case atStart => exact ⟨0, none, 0, _, by omega, rfl, by omega, rfl, ⟨by simp, .inl ⟨rfl, rfl⟩⟩, fun c hc => by simp at hc, B0.out, Ext.refl _⟩
  case round =>
    obtain ⟨j, A, c, I, hj, rfl, hI, rfl, ho, hdg, hbx, hx⟩ := hrel
    have HO := hid ho
    have HDG := hid hdg
    have HBX := hid hbx
    have HX := hid hx
    have hls := hx.size
    have hr0 := hbx.c0
    have hr1 := hbx.c1
    have hf0 := hbx.fr 0
    have hf1 := hbx.fr 1
    clear ho hdg hbx hx B0
    by_cases hlt : j < d.size
    · obtain ⟨k, rfl⟩ : ∃ k : Nat, I = k := ⟨d.size - 1 - j, by omega⟩
      have hk : k + 1 + j = d.size := by omega
      have hkl : k < (byt d).length := by rw [byt_len]; omega
      obtain ⟨x, hx⟩ : ∃ x, (byt d)[k]? = some x := ⟨_, List.getElem?_eq_getElem hkl⟩
      have hix := idx_val hx rfl
      have hkd : k < d.size := by omega
      have hxm := List.mem_of_getElem? hx
      have HRT := hid (rev_take hx (j := j) (by rw [byt_len]; exact hk))
      have hxl := byt_lim d x hxm
      have HNOT : Hid (x < 48 ∨ 57 < x → ¬ Good (byt s)) := fun hb hg => by
        have := hg.2.2 x (by rw [HDD.out]; exact hxm)
        omega
      clear hx hxm hkl hI
      by_cases hx1 : x < 48
      · have HG := hid (HNOT.out (.inl hx1))
        have hx1' : (x : Int) < 48 := by omega
        go_wp2_with fail
        rw [(pe_bad HG.out).1, (pe_bad HG.out).2]
        refine ret_be rfl HBX.out.put rfl rfl rfl ?_
        exact ⟨_, _, _, _, rfl, ⟨by decide, Cn.none⟩, (X0.out.trans HX.out).put (Nat.le_refl _) _ _⟩
      · by_cases hx2 : 57 < x
        · have HG := hid (HNOT.out (.inr hx2))
          have hx1' : ¬ (x : Int) < 48 := by omega
          have hx2' : (57 : Int) < (x : Int) := by omega
          go_wp2_with fail
          rw [(pe_bad HG.out).1, (pe_bad HG.out).2]
          refine ret_be rfl HBX.out.put rfl rfl rfl ?_
          exact ⟨_, _, _, _, rfl, ⟨by decide, Cn.none⟩, (X0.out.trans HX.out).put (Nat.le_refl _) _ _⟩
        · have hx1' : ¬ (x : Int) < 48 := by omega
          have hx2' : ¬ (57 : Int) < (x : Int) := by omega
          clear hr0 hr1 hf0 hf1
          go_wp2_with (at_builtin; refine wpl_append1 (w0 := w.alloc (.cells #[.bool false, .slice none 0 0] 24)) rfl (.tmp 59) (.tmp 65) _ rfl 3 .i64 8 Try.underlying33 info_int _ (x - 48) rfl rfl (by omega) HO.out HX.out (by have := HS.out; have := HSD.out; omega) (by simp only [maxLen]; have := HS.out; have := HSD.out; omega) ?_; intro A2 c2 w2 ho2 hx2 hg2; have HB2 := hid (HBX.out.grown hg2.out (HO.out.ne_row (by rw [size_alloc]; omega))); have HO2 := hid ho2; have HX2 := hid hx2; clear ho2 hx2 hg2)
          go_roundw
          case rel =>
            refine ⟨j + 1, A2, c2, _, by omega, rfl, by omega, rfl, ?_, ?_, HB2.out, HX2.out⟩
            · rw [HRT.out, List.map_append]; exact HO2.out
            · rw [HRT.out]
              exact fun c hc => by
                rcases List.mem_append.1 hc with hc | hc
                · exact HDG.out c hc
                · simp at hc; omega
          case measure => simp [intOf] <;> omega
    · obtain rfl : j = d.size := by omega
      obtain rfl : I = -1 := by omega
      have hrt : (byt d).reverse.take d.size = (byt d).reverse := List.take_of_length_le (by rw [List.length_reverse, byt_len]; omega)
      have hdg := HDG.out
      have ho := HO.out
      rw [hrt] at hdg ho
      have hdd : Dig (byt d) := fun c hc => hdg c (List.mem_reverse.2 hc)
      have hg : Good (byt s) := HGD.out (by rw [HDD.out]; exact hdd)
      generalize hpe : pe (byt s) = q at *
      rw [pe_good hg] at hpe
      have HPE := hid hpe
      have hng := (pz_neg hg).1
      have hva := (pz_neg hg).2
      rw [HDD.out] at hva
      rw [HNG.out] at hng
      rw [vl_canon hdd HH.out, ← hva] at ho
      have hzd : Zd s.size wr true A d.size c (pz (byt s)) := ⟨hng.symm, ho.sl, HSD.out⟩
      generalize pz (byt s) = z at *
      have HG := hid hg
      clear hrt hdg ho hdd hg hpe
      have X1 := HX.out.alloc (.cells #[.bool true, .slice A d.size c] 35)
      have BZ := Bz.new wr true A d.size c
      have HZD := hid (hzd.ext ((Ext.refl wr).alloc (.cells #[.bool true, .slice A d.size c] 35)))
      have HB1 := hid (HBX.out.ext ((Ext.refl wr).alloc (.cells #[.bool true, .slice A d.size c] 35)))
      have HX1 := hid X1
      have hz0 := BZ.c0
      have hz1 := BZ.c1
      clear X1 BZ hzd hr0 hr1 hf0 hf1
      go_wp2_with fail
      generalize wr.alloc (.cells #[.bool true, .slice A d.size c] 35) = w2 at *
      clear hz0 hz1
      refine (zint_v HZD.out (by have := HS.out; have := HSD.out; omega)).mono ?_
      rintro E w3 ⟨b3, A3, n3, c3, rfl, o3, x3⟩
      have B3 := HB1.out.ext x3
      have HB3 := hid B3
      have r0 := B3.c0
      have r1 := B3.c1
      have f0 := B3.fr 0
      have f1 := B3.fr 1
      have HO3 := hid o3
      have HX3 := hid (HX1.out.trans x3)
      have hs3 := hid (HX1.out.size)
      clear B3 o3 x3
      go_wp2_with fail
      refine ret_be rfl HB3.out.put rfl rfl rfl ?_
      have h1 := hs3.out
      have h2 := hsz.out
      have h3 := HPE.out
      subst h3
      exact ⟨_, _, _, _, rfl, ⟨HO3.out.1, (HO3.out.2.put (by omega)).mono (by omega)⟩, (X0.out.trans HX3.out).put (Nat.le_refl _) _ _⟩

/-- The document's Parse: the number of a text of at most 20000 bytes, or none. -/
theorem rparse_v {w : World} {s : ByteArray} (hs : s.size ≤ 20000) : Calls Try.prog 47 #[.string s] w (RetIE s.size (pz (byt s)) (pe (byt s)) w) := by
  have hlen := byt_len s
  rcases hl : byt s with _ | ⟨x, r⟩
  · rw [← hl]; exact rparse_a hs hl
  · by_cases hx : x = 45
    · subst hx
      rcases r with _ | ⟨y, r⟩
      · rw [← hl]; exact rparse_b0 hs hl
      · by_cases hy : y = 48
        · subst hy
          by_cases hq : 1 < s.size - 1
          · rw [← hl]; exact rparse_b48 hs hl hq
          · rw [← hl]; exact rparse_b48s hs hl hq
        · rw [← hl]; exact rparse_b hs hl hy
    · by_cases h8 : x = 48
      · subst h8
        by_cases hq : 1 < s.size
        · rw [← hl]; exact rparse_c48 hs hl hq
        · rw [hl] at hlen
          have : r = [] := List.eq_nil_of_length_eq_zero (by simp at hlen; omega)
          subst this
          rw [← hl]; exact rparse_c1 hs hl
      · rw [← hl]; exact rparse_c hs hl hx h8
end Go.Proofs.Ytikkibpjchmajaa

