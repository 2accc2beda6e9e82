/-
  The contract of digits.Parse: the number of a text.
-/
import Derived.Test.YtikkibpjchmajaaPk14
import Derived.Test.YtikkibpjchmajaaPk25
import Derived.Test.YtikkibpjchmajaaPk5
import Derived.Lib.BufferWrite
namespace Go.Proofs.Ytikkibpjchmajaa
open Go.RowKit
open Go.Lib (hid)

section
variable {P : Program} {w : World}
theorem map_byt (s : ByteArray) : (byt s).map (fun z : Nat => Value.int .u8 (z : Int)) = Go.Lib.byteCells s.data.toList := by
  unfold byt Go.Lib.byteCells
  rw [List.map_map]; rfl
/-- copy(b, s), s a text as long as b. -/
theorem copy_str (dT sT ty e : TypeId) (hu : P.underlying dT = some (.slice e)) (hsz : (P.info? e).map (·.size) = some 1) {lo g n c : Nat} {zs : List Nat} {str : ByteArray} (hn : str.size = n)
    (hown : Own .u8 e w lo (some ⟨g, 0, none⟩) n c zs) {w0 : World} (hx : Ext w0 w) (hlo : w0.heap.size ≤ lo) :
    ∃ w', (Builtin.copy_ #[dT, sT] ty #[.slice (some ⟨g, 0, none⟩) n c, .string str]).run P w = .ok (goInt n) w' ∧ Own .u8 e w' lo (some ⟨g, 0, none⟩) n c (byt str) ∧ Ext w0 w' := by
  rcases hown.2 with ⟨h, _⟩ | ⟨g', cap, cur, h1, h2, h3, h4, h5, h6, h7⟩
  · cases h
  · injection h1 with h1 _ h1c
    injection h1 with h1
    injection h1 with h1
    subst h1; subst h1c
    have hrun := Go.Lib.run_copy_row_string (P := P) w dT sT ty e g 0 n c str cur e hu hsz h3 (by omega) (by omega)
    rw [hn] at hrun
    refine ⟨_, hrun, ⟨by rw [List.length_map, byt_len]; omega, .inr ⟨g, c, _, rfl, h2, setRow_heap w g _ _ _ _ h3, h4, h5, ?_, ?_⟩⟩, below_setRow hx (Nat.le_trans hlo h2) _⟩
    · have : (Go.Lib.byteCells str.data.toList).length = n := by rw [Go.Lib.byteCells_length, ← Go.Lib.size_eq]; exact hn
      simp [this]; omega
    · have : (Go.Lib.byteCells str.data.toList).length = n := by rw [Go.Lib.byteCells_length, ← Go.Lib.size_eq]; exact hn
      rw [map_byt]
      simp [this]
end
theorem size_u8 : (Try.prog.info? 5).map (·.size) = some 1 := by kernel_rfl

/-- Behind the sign. -/
theorem good_of {l d : List Nat} {nb : Bool} (hd : dd l = d) (hn : decide (l.head? = some 45) = nb) (h0 : d ≠ []) (h1 : d.head? ≠ some 48 ∨ d.length = 1 ∧ nb = false) : Dig d → Good l := fun h => by
  subst hd hn
  refine ⟨h0, fun e => ?_, h⟩
  rcases h1 with h1 | ⟨h1, h2⟩
  · exact h1 e.1
  · rcases e.2 with h3 | h3
    · omega
    · rw [decide_eq_false_iff_not] at h2; exact h2 h3
theorem vl_take {d : List Nat} {i : Nat} (h : i < d.length) : vl (d.take (i + 1)) = vl (d.take i) * 10 + (d[i]?.getD 0 - 48) := by
  rw [List.take_succ_eq_append_getElem h, vl_append, vl_one, List.getElem?_eq_getElem h]; rfl
theorem dig_take {d : List Nat} {i : Nat} (h : i < d.length) (hd : Dig (d.take i)) (h1 : 48 ≤ d[i]?.getD 0) (h2 : d[i]?.getD 0 ≤ 57) : Dig (d.take (i + 1)) := fun c hc => by
  rw [List.take_succ_eq_append_getElem h] at hc
  rw [List.getElem?_eq_getElem h] at h1 h2
  rcases List.mem_append.1 hc with hc | hc
  · exact hd c hc
  · have : c = d[i] := by simpa using hc
    subst this
    exact ⟨h1, h2⟩
theorem dig_not {l d1 d2 : List Nat} {i : Nat} (hd : dd l = d1 ++ d2) (h : i < d2.length) (hb : d2[i]?.getD 0 < 48 ∨ 57 < d2[i]?.getD 0) : ¬ Good l := fun hg => by
  have := hg.2.2 d2[i] (by rw [hd]; exact List.mem_append.2 (.inr (List.getElem_mem h)))
  rw [List.getElem?_eq_getElem h] at hb
  simp at hb
  omega

theorem own_at {w : World} {lo g n c i x : Nat} {e : TypeId} {zs : List Nat} (h : Own .u8 e w lo (some ⟨g, 0, none⟩) n c zs) (hx : zs[i]? = some x) : w.cell? ⟨g, i, none⟩ = some (.int .u8 (x : Int)) := by
  have hi := (List.getElem?_eq_some_iff.1 hx).1
  have := h.len
  rw [h.cell (i := i) (by omega), hx]; rfl

instance (d : List Nat) : Decidable (Dig d) := by unfold Dig; infer_instance
instance (l : List Nat) : Decidable (Good l) := by unfold Good; infer_instance
set_option maxRecDepth 100000 in
theorem parse_long {w : World} {s : ByteArray} (hs : 20000 < s.size) : Calls Try.prog 46 #[.string s] w (RetIE 0 0 3 w) := by
  have B0 := hid (Bx.new w false none 0 0)
  have X0 := hid ((Ext.refl w).alloc (.cells #[.bool false, .slice none 0 0] 24))
  have hgt : (20000 : Int) < (s.size : Int) := by omega
  have r0 := B0.out.c0
  have r1 := B0.out.c1
  have f0 := B0.out.fr 0
  have f1 := B0.out.fr 1
  clear hs
  go_enter Try.func46, Try.ntmps46
  go_wp2_with fail
  refine ret_be rfl B0.out rfl rfl rfl ?_
  exact ⟨_, _, _, _, rfl, ⟨by decide, Cn.none⟩, X0.out⟩
set_option maxRecDepth 100000 in
set_option maxHeartbeats 3200000 in
theorem parse_a {w : World} {s : ByteArray} (hs : s.size ≤ 20000) (hl : byt s = []) : Calls Try.prog 46 #[.string s] w (RetIE (3 * s.size) (pz (byt s)) (pe (byt s)) w) := by
  have B0 := hid (Bx.new w false none 0 0)
  have X0 := hid ((Ext.refl w).alloc (.cells #[.bool false, .slice none 0 0] 24))
  have hsz : (w.alloc (.cells #[.bool false, .slice none 0 0] 24)).heap.size = w.heap.size + 1 := size_alloc _ _
  have hlen := byt_len s
  have hgt : ¬ (20000 : Int) < (s.size : Int) := by omega
  rw [hl] at hlen
  have hs0 : s.size = 0 := hlen.symm
  clear hlen
  have HG := hid (show ¬ Good (byt s) from fun h => h.1 (by rw [hl]; rfl))
  clear hl

  have HS := hid hs
  clear hs
  go_enter Try.func46, Try.ntmps46
  go_wp2_with (at_make; refine wpl_make (w0 := w.alloc (.cells #[.bool false, .slice none 0 0] 24)) (Ext.refl _) rfl _ _ _ rfl 5 .u8 1 Try.underlying99 info_u8 _ 0 rfl rfl (by omega) (by have := HS.out; omega) (by have := HS.out; simp only [maxLen]; omega) ?_; intro g w1 hg1 ho1 hx1; obtain ⟨w2, hcopy, ho2, hx2⟩ := copy_str 99 9 3 5 Try.underlying99 size_u8 (str := s) (by omega) ho1 hx1 (Nat.le_refl _); have HO2 := hid ho2; have HX2 := hid hx2; have B2 := B0.out.ext hx2; have r0 := B2.c0; have r1 := B2.c1; have f0 := B2.fr 0; have f1 := B2.fr 1; have HB2 := hid B2; clear ho1 hx1 ho2 hx2 B2)
  rw [(pe_bad HG.out).1, (pe_bad HG.out).2]
  refine ret_be rfl (HB2.out.put) rfl rfl rfl ?_
  exact ⟨_, _, _, _, rfl, ⟨by decide, Cn.none⟩, (X0.out.trans HX2.out).put (Nat.le_refl _) _ _⟩

set_option maxRecDepth 100000 in
set_option maxHeartbeats 3200000 in
theorem parse_b0 {w : World} {s : ByteArray} (hs : s.size ≤ 20000) (hl : byt s = [45]) : Calls Try.prog 46 #[.string s] w (RetIE (3 * s.size) (pz (byt s)) (pe (byt s)) w) := by
  have B0 := hid (Bx.new w false none 0 0)
  have X0 := hid ((Ext.refl w).alloc (.cells #[.bool false, .slice none 0 0] 24))
  have hsz : (w.alloc (.cells #[.bool false, .slice none 0 0] 24)).heap.size = w.heap.size + 1 := size_alloc _ _
  have hlen := byt_len s
  have hgt : ¬ (20000 : Int) < (s.size : Int) := by omega
  rw [hl] at hlen
  have hs0 : s.size = 1 := hlen.symm
  clear hlen
  have HL := hid hl
  have HG := hid (show ¬ Good (byt s) from fun h => h.1 (by rw [hl]; rfl))
  clear hl

  have HS := hid hs
  clear hs
  go_enter Try.func46, Try.ntmps46
  go_wp2_with (at_make; refine wpl_make (w0 := w.alloc (.cells #[.bool false, .slice none 0 0] 24)) (Ext.refl _) rfl _ _ _ rfl 5 .u8 1 Try.underlying99 info_u8 _ 1 rfl rfl (by omega) (by have := HS.out; omega) (by have := HS.out; simp only [maxLen]; omega) ?_; intro g w1 hg1 ho1 hx1; obtain ⟨w2, hcopy, ho2, hx2⟩ := copy_str 99 9 3 5 Try.underlying99 size_u8 (str := s) (by omega) ho1 hx1 (Nat.le_refl _); have HO2 := hid ho2; have HX2 := hid hx2; have gc := own_at ho2 (i := 0) (x := 45) (by rw [HL.out]; rfl); have B2 := B0.out.ext hx2; have r0 := B2.c0; have r1 := B2.c1; have f0 := B2.fr 0; have f1 := B2.fr 1; have HB2 := hid B2; clear ho1 hx1 ho2 hx2 B2)
  rw [(pe_bad HG.out).1, (pe_bad HG.out).2]
  refine ret_be rfl (HB2.out.put) rfl rfl rfl ?_
  exact ⟨_, _, _, _, rfl, ⟨by decide, Cn.none⟩, (X0.out.trans HX2.out).put (Nat.le_refl _) _ _⟩

set_option maxRecDepth 100000 in
set_option maxHeartbeats 3200000 in
theorem parse_b48 {w : World} {s : ByteArray} (hs : s.size ≤ 20000) {r : List Nat} (hl : byt s = 45 :: 48 :: r) (hq : 1 < s.size - 1) : Calls Try.prog 46 #[.string s] w (RetIE (3 * s.size) (pz (byt s)) (pe (byt s)) w) := by
  have B0 := hid (Bx.new w false none 0 0)
  have X0 := hid ((Ext.refl w).alloc (.cells #[.bool false, .slice none 0 0] 24))
  have hsz : (w.alloc (.cells #[.bool false, .slice none 0 0] 24)).heap.size = w.heap.size + 1 := size_alloc _ _
  have hlen := byt_len s
  have hgt : ¬ (20000 : Int) < (s.size : Int) := by omega
  rw [hl] at hlen
  have hs0 : 2 ≤ s.size := by rw [← hlen]; simp
  have hs1 : 0 < s.size := by omega
  have hs2 : ¬ s.size = 1 := by omega
  have hs3 : ¬ s.size - 1 = 0 := by omega
  clear hlen
  have HL := hid hl
  have HG := hid (show ¬ Good (byt s) from fun h => h.2.1 (by rw [hl]; exact ⟨rfl, .inr rfl⟩))
  clear hl

  have HS := hid hs
  clear hs
  go_enter Try.func46, Try.ntmps46
  go_wp2_with (at_make; refine wpl_make (w0 := w.alloc (.cells #[.bool false, .slice none 0 0] 24)) (Ext.refl _) rfl _ _ _ rfl 5 .u8 1 Try.underlying99 info_u8 _ s.size rfl rfl rfl (by have := HS.out; omega) (by have := HS.out; simp only [maxLen]; omega) ?_; intro g w1 hg1 ho1 hx1; obtain ⟨w2, hcopy, ho2, hx2⟩ := copy_str 99 9 3 5 Try.underlying99 size_u8 (str := s) rfl ho1 hx1 (Nat.le_refl _); have HO2 := hid ho2; have HX2 := hid hx2; have gc := own_at ho2 (i := 0) (x := 45) (by rw [HL.out]; rfl); have gd := own_at ho2 (i := 1) (x := 48) (by rw [HL.out]; rfl); have B2 := B0.out.ext hx2; have r0 := B2.c0; have r1 := B2.c1; have f0 := B2.fr 0; have f1 := B2.fr 1; have HB2 := hid B2; clear ho1 hx1 ho2 hx2 B2)
  rw [(pe_bad HG.out).1, (pe_bad HG.out).2]
  refine ret_be rfl (HB2.out.put) rfl rfl rfl ?_
  exact ⟨_, _, _, _, rfl, ⟨by decide, Cn.none⟩, (X0.out.trans HX2.out).put (Nat.le_refl _) _ _⟩

set_option maxRecDepth 100000 in
set_option maxHeartbeats 3200000 in
theorem parse_b48s {w : World} {s : ByteArray} (hs : s.size ≤ 20000) {r : List Nat} (hl : byt s = 45 :: 48 :: r) (hq : ¬ 1 < s.size - 1) : Calls Try.prog 46 #[.string s] w (RetIE (3 * s.size) (pz (byt s)) (pe (byt s)) w) := by
  have B0 := hid (Bx.new w false none 0 0)
  have X0 := hid ((Ext.refl w).alloc (.cells #[.bool false, .slice none 0 0] 24))
  have hsz : (w.alloc (.cells #[.bool false, .slice none 0 0] 24)).heap.size = w.heap.size + 1 := size_alloc _ _
  have hlen := byt_len s
  have hgt : ¬ (20000 : Int) < (s.size : Int) := by omega
  rw [hl] at hlen
  have hs0 : 2 ≤ s.size := by rw [← hlen]; simp
  have hs1 : 0 < s.size := by omega
  have hs2 : ¬ s.size = 1 := by omega
  have hs3 : ¬ s.size - 1 = 0 := by omega
  clear hlen
  have HL := hid hl
  have HG := hid (show ¬ Good (byt s) from fun h => h.2.1 (by rw [hl]; exact ⟨rfl, .inr rfl⟩))
  clear hl

  have HS := hid hs
  clear hs
  go_enter Try.func46, Try.ntmps46
  go_wp2_with (at_make; refine wpl_make (w0 := w.alloc (.cells #[.bool false, .slice none 0 0] 24)) (Ext.refl _) rfl _ _ _ rfl 5 .u8 1 Try.underlying99 info_u8 _ s.size rfl rfl rfl (by have := HS.out; omega) (by have := HS.out; simp only [maxLen]; omega) ?_; intro g w1 hg1 ho1 hx1; obtain ⟨w2, hcopy, ho2, hx2⟩ := copy_str 99 9 3 5 Try.underlying99 size_u8 (str := s) rfl ho1 hx1 (Nat.le_refl _); have HO2 := hid ho2; have HX2 := hid hx2; have gc := own_at ho2 (i := 0) (x := 45) (by rw [HL.out]; rfl); have gd := own_at ho2 (i := 1) (x := 48) (by rw [HL.out]; rfl); have B2 := B0.out.ext hx2; have r0 := B2.c0; have r1 := B2.c1; have f0 := B2.fr 0; have f1 := B2.fr 1; have HB2 := hid B2; clear ho1 hx1 ho2 hx2 B2)
  rw [(pe_bad HG.out).1, (pe_bad HG.out).2]
  refine ret_be rfl (HB2.out.put) rfl rfl rfl ?_
  exact ⟨_, _, _, _, rfl, ⟨by decide, Cn.none⟩, (X0.out.trans HX2.out).put (Nat.le_refl _) _ _⟩

set_option maxRecDepth 100000 in
set_option maxHeartbeats 3200000 in
theorem parse_c48 {w : World} {s : ByteArray} (hs : s.size ≤ 20000) {r : List Nat} (hl : byt s = 48 :: r) (hq : 1 < s.size) : Calls Try.prog 46 #[.string s] w (RetIE (3 * s.size) (pz (byt s)) (pe (byt s)) w) := by
  have B0 := hid (Bx.new w false none 0 0)
  have X0 := hid ((Ext.refl w).alloc (.cells #[.bool false, .slice none 0 0] 24))
  have hsz : (w.alloc (.cells #[.bool false, .slice none 0 0] 24)).heap.size = w.heap.size + 1 := size_alloc _ _
  have hlen := byt_len s
  have hgt : ¬ (20000 : Int) < (s.size : Int) := by omega
  rw [hl] at hlen
  have hs1 : 0 < s.size := by omega
  have hs2 : ¬ s.size = 0 := by omega
  have HL := hid hl
  have HG := hid (show ¬ Good (byt s) from fun h => h.2.1 (by rw [hl]; exact ⟨rfl, .inl (by show 1 < (48 :: r).length; omega)⟩))
  clear hl hlen

  have HS := hid hs
  clear hs
  go_enter Try.func46, Try.ntmps46
  go_wp2_with (at_make; refine wpl_make (w0 := w.alloc (.cells #[.bool false, .slice none 0 0] 24)) (Ext.refl _) rfl _ _ _ rfl 5 .u8 1 Try.underlying99 info_u8 _ s.size rfl rfl rfl (by have := HS.out; omega) (by have := HS.out; simp only [maxLen]; omega) ?_; intro g w1 hg1 ho1 hx1; obtain ⟨w2, hcopy, ho2, hx2⟩ := copy_str 99 9 3 5 Try.underlying99 size_u8 (str := s) rfl ho1 hx1 (Nat.le_refl _); have HO2 := hid ho2; have HX2 := hid hx2; have gc := own_at ho2 (i := 0) (x := 48) (by rw [HL.out]; rfl); have B2 := B0.out.ext hx2; have r0 := B2.c0; have r1 := B2.c1; have f0 := B2.fr 0; have f1 := B2.fr 1; have HB2 := hid B2; clear ho1 hx1 ho2 hx2 B2)
  rw [(pe_bad HG.out).1, (pe_bad HG.out).2]
  refine ret_be rfl (HB2.out.put) rfl rfl rfl ?_
  exact ⟨_, _, _, _, rfl, ⟨by decide, Cn.none⟩, (X0.out.trans HX2.out).put (Nat.le_refl _) _ _⟩

set_option maxRecDepth 100000 in
set_option maxHeartbeats 3200000 in
theorem parse_c1 {w : World} {s : ByteArray} (hs : s.size ≤ 20000) (hl : byt s = [48]) : Calls Try.prog 46 #[.string s] w (RetIE (3 * s.size) (pz (byt s)) (pe (byt s)) w) := by
  have B0 := hid (Bx.new w false none 0 0)
  have X0 := hid ((Ext.refl w).alloc (.cells #[.bool false, .slice none 0 0] 24))
  have hsz : (w.alloc (.cells #[.bool false, .slice none 0 0] 24)).heap.size = w.heap.size + 1 := size_alloc _ _
  have hlen := byt_len s
  have hgt : ¬ (20000 : Int) < (s.size : Int) := by omega
  rw [hl] at hlen
  have hs0 : s.size = 1 := hlen.symm
  have HDD0 := hid (show dd (byt s) = byt s by rw [hl]; rfl)
  have HL := hid hl
  have HGD := hid (good_of (l := byt s) (d := dd (byt s)) (nb := false) rfl (by rw [hl]; rfl) (by rw [hl]; decide) (.inr ⟨by rw [hl]; rfl, rfl⟩))
  have HNG := hid (show decide ((byt s).head? = some 45) = false by rw [hl]; rfl)
  clear hl hlen

  have HS := hid hs
  clear hs
  go_enter Try.func46, Try.ntmps46
  go_wp2_with (at_make; refine wpl_make (w0 := w.alloc (.cells #[.bool false, .slice none 0 0] 24)) (Ext.refl _) rfl _ _ _ rfl 5 .u8 1 Try.underlying99 info_u8 _ 1 rfl rfl (by omega) (by have := HS.out; omega) (by have := HS.out; simp only [maxLen]; omega) ?_; intro g w1 hg1 ho1 hx1; obtain ⟨w2, hcopy, ho2, hx2⟩ := copy_str 99 9 3 5 Try.underlying99 size_u8 (str := s) (by omega) ho1 hx1 (Nat.le_refl _); have HO2 := hid ho2; have HX2 := hid hx2; have gc := own_at ho2 (i := 0) (x := 48) (by rw [HL.out]; rfl); have B2 := B0.out.ext hx2; have r0 := B2.c0; have r1 := B2.c1; have f0 := B2.fr 0; have f1 := B2.fr 1; have HB2 := hid B2; clear ho1 hx1 ho2 hx2 B2)
  have HSL := hid HO2.out.sl
  have HDD := hid (show dd (byt s) = [] ++ byt s from HDD0.out)
  clear hcopy r0 r1 f0 f1 gc
  go_loopw [4, 6] (fun sb sa wr => ∃ (A2 : Option Addr) (n2 c2 : Nat) (d2 d1 : List Nat) (B : Option Addr) (m e K2 : Nat), sb = .slice A2 n2 c2 ∧ sa = .slice B m e ∧ Sl .u8 wr A2 n2 c2 d2 ∧ dd (byt s) = d1 ++ d2 ∧ Dig d1 ∧ Cn K2 wr (w.heap.size + 1) B m e (vl d1) ∧ K2 + 3 * n2 ≤ 3 * s.size ∧ Bx wr w.heap.size false none 0 0 ∧ Ext w wr) (fun sb _ _ => match sb with | .slice _ n _ => n | _ => 0)
  case atStart => exact ⟨_, _, _, _, [], none, 0, 0, 0, rfl, rfl, HSL.out, HDD.out, fun c hc => by simp at hc, Cn.none, by omega, HB2.out, X0.out.trans HX2.out⟩
  case round =>
    clear HSL HDD HB2 HX2 HO2
    obtain ⟨A2, n2, c2, d2, d1, B, m, e, K2, rfl, rfl, hsl, hdd, hdg, hcn, hK, hbx, hx⟩ := hrel
    have HSL := hid hsl
    have HDD := hid hdd
    have HDG := hid hdg
    have HCN := hid hcn
    have HK := hid hK
    have HBX := hid hbx
    have HX := hid hx
    have hcap := hsl.cap
    have HL2 := hid hsl.len
    by_cases h0 : n2 = 0
    · subst h0
      have r0 := hbx.c0
      have r1 := hbx.c1
      have f0 := hbx.fr 0
      have f1 := hbx.fr 1
      clear hsl hdd hdg hcn hK hbx hx
      go_wp2_with fail
      refine ret_be rfl (HBX.out.put) rfl rfl rfl ?_
      have hd1 : dd (byt s) = d1 := by rw [HDD.out, List.eq_nil_of_length_eq_zero HL2.out, List.append_nil]
      have hg : Good (byt s) := HGD.out (by rw [hd1]; exact HDG.out)
      rw [pe_good hg]
      refine ⟨_, _, _, _, rfl, ⟨?_, ?_⟩, HX.out.put (Nat.le_refl _) _ _⟩
      · rw [(pz_neg hg).1, HNG.out]
      · rw [(pz_neg hg).2, hd1]
        exact (Cn.put (K := 3 * s.size) ⟨HCN.out.1, by have := HK.out; have := HCN.out.2; omega⟩ (by omega)).mono (by omega)
    · obtain ⟨p, hp⟩ : ∃ p, p = min 9 n2 := ⟨_, rfl⟩
      have hp1 : p ≤ 9 ∧ p ≤ n2 ∧ 1 ≤ p := by omega
      have hp9 := hp1.1
      have hpn := hp1.2.1
      have hmin : min (9 : Int) (n2 : Int) = (p : Int) := by omega
      have hdrop := hsl.drop hpn
      obtain ⟨g2, o2, rfl, hlt2, hcell⟩ := hsl.at_ (by omega)
      have HC : Hid (∀ i, i < n2 → wr.cell? ⟨g2, o2 + i, none⟩ = some (.int .u8 ((d2[i]?.getD 0 : Nat) : Int))) := fun i hi => by
        refine hcell i _ ?_
        rw [List.getElem?_eq_getElem (by rw [HL2.out]; exact hi)]; rfl
      have HDR := hid hdrop
      have HP := hid hp1
      clear hcell hsl hdd hdg hcn hK hbx hx hp hp1 hdrop hlt2
      have hpc : p ≤ c2 := by omega
      have hn2 : 0 < n2 := by omega
      go_wp2_with fail
      go_loopw [7, 8, 60] (fun sn sp si wi => ∃ (i v q : Nat), i ≤ p ∧ si = .int .i64 i ∧ sn = .int .u32 v ∧ sp = .int .u32 q ∧ v = vl (d2.take i) ∧ q = 10 ^ i ∧ Dig (d2.take i) ∧ wi = wr) (fun _ _ si _ => p - (intOf si).toNat)
      case atStart => exact ⟨0, 0, 1, by omega, rfl, rfl, rfl, by simp [vl, nv], rfl, fun c hc => by simp at hc, rfl⟩
      case round =>
        obtain ⟨i, v, q, hi, rfl, rfl, rfl, hv, hq, hd, rfl⟩ := hrel
        have hvq : v < q := by
          have := vl_lt hd
          rw [List.length_take, Nat.min_eq_left (by rw [HL2.out]; omega), ← hv, ← hq] at this
          exact this
        have hqb : q ≤ 1000000000 := by
          rw [hq]
          exact Nat.le_trans (Nat.pow_le_pow_right (n := 10) (by omega) (show i ≤ 9 by omega)) (by decide)
        have HV := hid hv
        have HQ := hid hq
        have HD := hid hd
        clear hv hq hd
        by_cases hip : i < p
        · have hqb8 : q ≤ 100000000 := by
            rw [HQ.out]
            exact Nat.le_trans (Nat.pow_le_pow_right (n := 10) (by omega) (show i ≤ 8 by omega)) (by decide)
          have gx := HC.out i (by omega)
          have HNOT : Hid ((d2[i]?.getD 0 < 48 ∨ 57 < d2[i]?.getD 0) → ¬ Good (byt s)) := fun hb => dig_not HDD.out (by rw [HL2.out]; omega) hb
          have HV1 := hid (vl_take (d := d2) (i := i) (by rw [HL2.out]; omega))
          have HD1 := hid (dig_take (d := d2) (i := i) (by rw [HL2.out]; omega) HD.out)
          generalize d2[i]?.getD 0 = x at *
          have r0 := HBX.out.c0
          have r1 := HBX.out.c1
          have f0 := HBX.out.fr 0
          have f1 := HBX.out.fr 1
          by_cases hx1 : x < 48
          · have HG := hid (HNOT.out (.inl hx1))
            have hx1' : (x : Int) < 48 := by omega
            go_wp2_with fail
            rw [(pe_bad HG.out).1, (pe_bad HG.out).2]
            refine ret_be rfl (HBX.out.put) rfl rfl rfl ?_
            exact ⟨_, _, _, _, rfl, ⟨by decide, Cn.none⟩, HX.out.put (Nat.le_refl _) _ _⟩
          · by_cases hx2 : 57 < x
            · have HG := hid (HNOT.out (.inr hx2))
              have hx1' : ¬ (x : Int) < 48 := by omega
              have hx2' : (57 : Int) < (x : Int) := by omega
              go_wp2_with fail
              rw [(pe_bad HG.out).1, (pe_bad HG.out).2]
              refine ret_be rfl (HBX.out.put) rfl rfl rfl ?_
              exact ⟨_, _, _, _, rfl, ⟨by decide, Cn.none⟩, HX.out.put (Nat.le_refl _) _ _⟩
            · have hx1' : ¬ (x : Int) < 48 := by omega
              have hx2' : ¬ (57 : Int) < (x : Int) := by omega
              clear r0 r1 f0 f1
              go_wp2_with fail
              go_roundw
              case rel =>
                refine ⟨i + 1, v * 10 + (x - 48), q * 10, by omega, ?_, ?_, ?_, ?_, ?_, ?_, by first | rfl | trivial⟩
                · simp only [Value.int.injEq, true_and]; omega
                · simp only [Value.int.injEq, true_and]; omega
                · simp only [Value.int.injEq, true_and]; omega
                · rw [HV1.out, HV.out]
                · rw [Nat.pow_succ, HQ.out]
                · exact HD1.out (by omega) (by omega)
              case measure => simp [intOf]; omega
        · obtain rfl : i = p := by omega
          have li := hid (limb_v (V := (q : Int)) rfl (by omega) HCN.out.nv (by have := HK.out; have := HS.out; omega))
          go_wp2_with fail
          refine li.out.mono ?_
          rintro E w3 ⟨B3, m3, e3, rfl, o3, x3⟩
          have O3 := hid o3
          have X3 := hid x3
          clear o3 x3 li
          go_wp2_with (refine wpl_lit1 (w0 := w3) (Ext.refl _) (by first | rfl | decide) 22 _ rfl 100 .u32 4 Try.underlying22 info_u32 _ v rfl rfl ?_; intro g4 w4 hg4 ho4 hx4 hx4'; have O4 := hid ho4; have X4 := hid hx4; clear ho4 hx4 hx4')
          refine (add_v (O3.out.nv.ext X4.out) (lit_nv1 O4.out (by omega)) (by have := HK.out; have := HS.out; omega)).mono ?_
          rintro E w5 ⟨B5, m5, e5, rfl, o5, x5⟩
          have HX5 := hid (((HX.out.trans X3.out).trans X4.out).trans x5)
          have HBX5 := hid (((HBX.out.ext X3.out).ext X4.out).ext x5)
          have hs5 := HBX.out.lt
          have hs3 := X3.out.size
          have hs4 := X4.out.size
          have HCN5 : Hid (Cn (K2 + 3) w5 (w.heap.size + 1) B5 m5 e5 (vl (d1 ++ d2.take i))) := by
            show Cn _ _ _ _ _ _ _
            rw [vl_append, ← HV.out, List.length_take, Nat.min_eq_left (by rw [HL2.out]; omega), ← HQ.out]
            exact ⟨o5.1.mono (by omega), o5.2⟩
          have HSL5 := hid (((HDR.out.ext X3.out).ext X4.out).ext x5)
          clear o5 x5 O3 O4
          have HDD5 := hid (show dd (byt s) = (d1 ++ d2.take i) ++ d2.drop i by rw [List.append_assoc, List.take_append_drop]; exact HDD.out)
          have HDG5 : Hid (Dig (d1 ++ d2.take i)) := fun c hc => by
            rcases List.mem_append.1 hc with h | h
            · exact HDG.out c h
            · exact HD.out c h
          have HK5 := hid (show K2 + 3 + 3 * (n2 - i) ≤ 3 * s.size by have := HK.out; have := HP.out; omega)
          have HM5 := hid (show n2 - i < n2 by have := HP.out; omega)
          by_cases hci : c2 = i
          · have hsl := HSL5.out
            rw [if_pos hci, show c2 - i = 0 by omega] at hsl
            have HSL6 := hid hsl
            clear hsl HSL5
            go_wp2_with fail
            go_roundw
            case rel => exact ⟨_, _, _, _, _, _, _, _, _, rfl, rfl, HSL6.out, HDD5.out, HDG5.out, HCN5.out, HK5.out, HBX5.out, HX5.out⟩
            case measure => exact HM5.out
          · have hsl := HSL5.out
            rw [if_neg hci, Option.map_some, Addr.add_lit] at hsl
            have HSL6 := hid hsl
            clear hsl HSL5
            go_wp2_with fail
            go_roundw
            case rel => exact ⟨_, _, _, _, _, _, _, _, _, rfl, rfl, HSL6.out, HDD5.out, HDG5.out, HCN5.out, HK5.out, HBX5.out, HX5.out⟩
            case measure => exact HM5.out

set_option maxRecDepth 100000 in
set_option maxHeartbeats 3200000 in
theorem parse_c {w : World} {s : ByteArray} (hs : s.size ≤ 20000) {x : Nat} {r : List Nat} (hl : byt s = x :: r) (hx : x ≠ 45) (hx8 : x ≠ 48) : Calls Try.prog 46 #[.string s] w (RetIE (3 * s.size) (pz (byt s)) (pe (byt s)) w) := by
  have B0 := hid (Bx.new w false none 0 0)
  have X0 := hid ((Ext.refl w).alloc (.cells #[.bool false, .slice none 0 0] 24))
  have hsz : (w.alloc (.cells #[.bool false, .slice none 0 0] 24)).heap.size = w.heap.size + 1 := size_alloc _ _
  have hlen := byt_len s
  have hgt : ¬ (20000 : Int) < (s.size : Int) := by omega
  rw [hl] at hlen
  have hs1 : 0 < s.size := by rw [← hlen]; simp
  have hs2 : ¬ s.size = 0 := by omega
  have hhd : (byt s).head? ≠ some 45 := by rw [hl]; intro e; simp at e; exact hx e
  have hdl : dd (byt s) = byt s := by unfold dd; rw [if_neg hhd]
  have HDD0 := hid hdl
  have HL := hid hl
  have HGD := hid (good_of (l := byt s) (d := dd (byt s)) (nb := false) rfl (decide_eq_false hhd) (by rw [hdl, hl]; simp) (.inl (by rw [hdl, hl]; intro e; simp at e; exact hx8 e)))
  have HNG := hid (decide_eq_false hhd)
  have hxa : ((x : Int) == 45) = false := beq_eq_false_iff_ne.2 (by omega)
  have hxb : ((x : Int) == 48) = false := beq_eq_false_iff_ne.2 (by omega)
  clear hl hlen hhd hdl hx hx8

  have HS := hid hs
  clear hs
  go_enter Try.func46, Try.ntmps46
  go_wp2_with (at_make; refine wpl_make (w0 := w.alloc (.cells #[.bool false, .slice none 0 0] 24)) (Ext.refl _) rfl _ _ _ rfl 5 .u8 1 Try.underlying99 info_u8 _ s.size rfl rfl rfl (by have := HS.out; omega) (by have := HS.out; simp only [maxLen]; omega) ?_; intro g w1 hg1 ho1 hx1; obtain ⟨w2, hcopy, ho2, hx2⟩ := copy_str 99 9 3 5 Try.underlying99 size_u8 (str := s) rfl ho1 hx1 (Nat.le_refl _); have HO2 := hid ho2; have HX2 := hid hx2; have gc := own_at ho2 (i := 0) (x := x) (by rw [HL.out]; rfl); have B2 := B0.out.ext hx2; have r0 := B2.c0; have r1 := B2.c1; have f0 := B2.fr 0; have f1 := B2.fr 1; have HB2 := hid B2; clear ho1 hx1 ho2 hx2 B2)
  have HSL := hid HO2.out.sl
  have HDD := hid (show dd (byt s) = [] ++ byt s from HDD0.out)
  clear hcopy r0 r1 f0 f1 gc
  go_loopw [4, 6] (fun sb sa wr => ∃ (A2 : Option Addr) (n2 c2 : Nat) (d2 d1 : List Nat) (B : Option Addr) (m e K2 : Nat), sb = .slice A2 n2 c2 ∧ sa = .slice B m e ∧ Sl .u8 wr A2 n2 c2 d2 ∧ dd (byt s) = d1 ++ d2 ∧ Dig d1 ∧ Cn K2 wr (w.heap.size + 1) B m e (vl d1) ∧ K2 + 3 * n2 ≤ 3 * s.size ∧ Bx wr w.heap.size false none 0 0 ∧ Ext w wr) (fun sb _ _ => match sb with | .slice _ n _ => n | _ => 0)
  case atStart => exact ⟨_, _, _, _, [], none, 0, 0, 0, rfl, rfl, HSL.out, HDD.out, fun c hc => by simp at hc, Cn.none, by omega, HB2.out, X0.out.trans HX2.out⟩
  case round =>
    clear HSL HDD HB2 HX2 HO2
    obtain ⟨A2, n2, c2, d2, d1, B, m, e, K2, rfl, rfl, hsl, hdd, hdg, hcn, hK, hbx, hx⟩ := hrel
    have HSL := hid hsl
    have HDD := hid hdd
    have HDG := hid hdg
    have HCN := hid hcn
    have HK := hid hK
    have HBX := hid hbx
    have HX := hid hx
    have hcap := hsl.cap
    have HL2 := hid hsl.len
    by_cases h0 : n2 = 0
    · subst h0
      have r0 := hbx.c0
      have r1 := hbx.c1
      have f0 := hbx.fr 0
      have f1 := hbx.fr 1
      clear hsl hdd hdg hcn hK hbx hx
      go_wp2_with fail
      refine ret_be rfl (HBX.out.put) rfl rfl rfl ?_
      have hd1 : dd (byt s) = d1 := by rw [HDD.out, List.eq_nil_of_length_eq_zero HL2.out, List.append_nil]
      have hg : Good (byt s) := HGD.out (by rw [hd1]; exact HDG.out)
      rw [pe_good hg]
      refine ⟨_, _, _, _, rfl, ⟨?_, ?_⟩, HX.out.put (Nat.le_refl _) _ _⟩
      · rw [(pz_neg hg).1, HNG.out]
      · rw [(pz_neg hg).2, hd1]
        exact (Cn.put (K := 3 * s.size) ⟨HCN.out.1, by have := HK.out; have := HCN.out.2; omega⟩ (by omega)).mono (by omega)
    · obtain ⟨p, hp⟩ : ∃ p, p = min 9 n2 := ⟨_, rfl⟩
      have hp1 : p ≤ 9 ∧ p ≤ n2 ∧ 1 ≤ p := by omega
      have hp9 := hp1.1
      have hpn := hp1.2.1
      have hmin : min (9 : Int) (n2 : Int) = (p : Int) := by omega
      have hdrop := hsl.drop hpn
      obtain ⟨g2, o2, rfl, hlt2, hcell⟩ := hsl.at_ (by omega)
      have HC : Hid (∀ i, i < n2 → wr.cell? ⟨g2, o2 + i, none⟩ = some (.int .u8 ((d2[i]?.getD 0 : Nat) : Int))) := fun i hi => by
        refine hcell i _ ?_
        rw [List.getElem?_eq_getElem (by rw [HL2.out]; exact hi)]; rfl
      have HDR := hid hdrop
      have HP := hid hp1
      clear hcell hsl hdd hdg hcn hK hbx hx hp hp1 hdrop hlt2
      have hpc : p ≤ c2 := by omega
      have hn2 : 0 < n2 := by omega
      go_wp2_with fail
      go_loopw [7, 8, 60] (fun sn sp si wi => ∃ (i v q : Nat), i ≤ p ∧ si = .int .i64 i ∧ sn = .int .u32 v ∧ sp = .int .u32 q ∧ v = vl (d2.take i) ∧ q = 10 ^ i ∧ Dig (d2.take i) ∧ wi = wr) (fun _ _ si _ => p - (intOf si).toNat)
      case atStart => exact ⟨0, 0, 1, by omega, rfl, rfl, rfl, by simp [vl, nv], rfl, fun c hc => by simp at hc, rfl⟩
      case round =>
        obtain ⟨i, v, q, hi, rfl, rfl, rfl, hv, hq, hd, rfl⟩ := hrel
        have hvq : v < q := by
          have := vl_lt hd
          rw [List.length_take, Nat.min_eq_left (by rw [HL2.out]; omega), ← hv, ← hq] at this
          exact this
        have hqb : q ≤ 1000000000 := by
          rw [hq]
          exact Nat.le_trans (Nat.pow_le_pow_right (n := 10) (by omega) (show i ≤ 9 by omega)) (by decide)
        have HV := hid hv
        have HQ := hid hq
        have HD := hid hd
        clear hv hq hd
        by_cases hip : i < p
        · have hqb8 : q ≤ 100000000 := by
            rw [HQ.out]
            exact Nat.le_trans (Nat.pow_le_pow_right (n := 10) (by omega) (show i ≤ 8 by omega)) (by decide)
          have gx := HC.out i (by omega)
          have HNOT : Hid ((d2[i]?.getD 0 < 48 ∨ 57 < d2[i]?.getD 0) → ¬ Good (byt s)) := fun hb => dig_not HDD.out (by rw [HL2.out]; omega) hb
          have HV1 := hid (vl_take (d := d2) (i := i) (by rw [HL2.out]; omega))
          have HD1 := hid (dig_take (d := d2) (i := i) (by rw [HL2.out]; omega) HD.out)
          generalize d2[i]?.getD 0 = x at *
          have r0 := HBX.out.c0
          have r1 := HBX.out.c1
          have f0 := HBX.out.fr 0
          have f1 := HBX.out.fr 1
          by_cases hx1 : x < 48
          · have HG := hid (HNOT.out (.inl hx1))
            have hx1' : (x : Int) < 48 := by omega
            go_wp2_with fail
            rw [(pe_bad HG.out).1, (pe_bad HG.out).2]
            refine ret_be rfl (HBX.out.put) rfl rfl rfl ?_
            exact ⟨_, _, _, _, rfl, ⟨by decide, Cn.none⟩, HX.out.put (Nat.le_refl _) _ _⟩
          · by_cases hx2 : 57 < x
            · have HG := hid (HNOT.out (.inr hx2))
              have hx1' : ¬ (x : Int) < 48 := by omega
              have hx2' : (57 : Int) < (x : Int) := by omega
              go_wp2_with fail
              rw [(pe_bad HG.out).1, (pe_bad HG.out).2]
              refine ret_be rfl (HBX.out.put) rfl rfl rfl ?_
              exact ⟨_, _, _, _, rfl, ⟨by decide, Cn.none⟩, HX.out.put (Nat.le_refl _) _ _⟩
            · have hx1' : ¬ (x : Int) < 48 := by omega
              have hx2' : ¬ (57 : Int) < (x : Int) := by omega
              clear r0 r1 f0 f1
              go_wp2_with fail
              go_roundw
              case rel =>
                refine ⟨i + 1, v * 10 + (x - 48), q * 10, by omega, ?_, ?_, ?_, ?_, ?_, ?_, by first | rfl | trivial⟩
                · simp only [Value.int.injEq, true_and]; omega
                · simp only [Value.int.injEq, true_and]; omega
                · simp only [Value.int.injEq, true_and]; omega
                · rw [HV1.out, HV.out]
                · rw [Nat.pow_succ, HQ.out]
                · exact HD1.out (by omega) (by omega)
              case measure => simp [intOf]; omega
        · obtain rfl : i = p := by omega
          have li := hid (limb_v (V := (q : Int)) rfl (by omega) HCN.out.nv (by have := HK.out; have := HS.out; omega))
          go_wp2_with fail
          refine li.out.mono ?_
          rintro E w3 ⟨B3, m3, e3, rfl, o3, x3⟩
          have O3 := hid o3
          have X3 := hid x3
          clear o3 x3 li
          go_wp2_with (refine wpl_lit1 (w0 := w3) (Ext.refl _) (by first | rfl | decide) 22 _ rfl 100 .u32 4 Try.underlying22 info_u32 _ v rfl rfl ?_; intro g4 w4 hg4 ho4 hx4 hx4'; have O4 := hid ho4; have X4 := hid hx4; clear ho4 hx4 hx4')
          refine (add_v (O3.out.nv.ext X4.out) (lit_nv1 O4.out (by omega)) (by have := HK.out; have := HS.out; omega)).mono ?_
          rintro E w5 ⟨B5, m5, e5, rfl, o5, x5⟩
          have HX5 := hid (((HX.out.trans X3.out).trans X4.out).trans x5)
          have HBX5 := hid (((HBX.out.ext X3.out).ext X4.out).ext x5)
          have hs5 := HBX.out.lt
          have hs3 := X3.out.size
          have hs4 := X4.out.size
          have HCN5 : Hid (Cn (K2 + 3) w5 (w.heap.size + 1) B5 m5 e5 (vl (d1 ++ d2.take i))) := by
            show Cn _ _ _ _ _ _ _
            rw [vl_append, ← HV.out, List.length_take, Nat.min_eq_left (by rw [HL2.out]; omega), ← HQ.out]
            exact ⟨o5.1.mono (by omega), o5.2⟩
          have HSL5 := hid (((HDR.out.ext X3.out).ext X4.out).ext x5)
          clear o5 x5 O3 O4
          have HDD5 := hid (show dd (byt s) = (d1 ++ d2.take i) ++ d2.drop i by rw [List.append_assoc, List.take_append_drop]; exact HDD.out)
          have HDG5 : Hid (Dig (d1 ++ d2.take i)) := fun c hc => by
            rcases List.mem_append.1 hc with h | h
            · exact HDG.out c h
            · exact HD.out c h
          have HK5 := hid (show K2 + 3 + 3 * (n2 - i) ≤ 3 * s.size by have := HK.out; have := HP.out; omega)
          have HM5 := hid (show n2 - i < n2 by have := HP.out; omega)
          by_cases hci : c2 = i
          · have hsl := HSL5.out
            rw [if_pos hci, show c2 - i = 0 by omega] at hsl
            have HSL6 := hid hsl
            clear hsl HSL5
            go_wp2_with fail
            go_roundw
            case rel => exact ⟨_, _, _, _, _, _, _, _, _, rfl, rfl, HSL6.out, HDD5.out, HDG5.out, HCN5.out, HK5.out, HBX5.out, HX5.out⟩
            case measure => exact HM5.out
          · have hsl := HSL5.out
            rw [if_neg hci, Option.map_some, Addr.add_lit] at hsl
            have HSL6 := hid hsl
            clear hsl HSL5
            go_wp2_with fail
            go_roundw
            case rel => exact ⟨_, _, _, _, _, _, _, _, _, rfl, rfl, HSL6.out, HDD5.out, HDG5.out, HCN5.out, HK5.out, HBX5.out, HX5.out⟩
            case measure => exact HM5.out

set_option maxRecDepth 100000 in
set_option maxHeartbeats 3200000 in
theorem parse_b {w : World} {s : ByteArray} (hs : s.size ≤ 20000) {y : Nat} {r : List Nat} (hl : byt s = 45 :: y :: r) (hx8 : y ≠ 48) : Calls Try.prog 46 #[.string s] w (RetIE (3 * s.size) (pz (byt s)) (pe (byt s)) w) := by
  have B0 := hid (Bx.new w false none 0 0)
  have X0 := hid ((Ext.refl w).alloc (.cells #[.bool false, .slice none 0 0] 24))
  have hsz : (w.alloc (.cells #[.bool false, .slice none 0 0] 24)).heap.size = w.heap.size + 1 := size_alloc _ _
  have hlen := byt_len s
  have hgt : ¬ (20000 : Int) < (s.size : Int) := by omega
  rw [hl] at hlen
  have hs0 : 2 ≤ s.size := by rw [← hlen]; simp
  have hs1 : 0 < s.size := by omega
  have hs2 : ¬ s.size = 1 := by omega
  have hs3 : ¬ s.size - 1 = 0 := by omega
  have hdl : dd (byt s) = (byt s).drop 1 := by rw [hl]; rfl
  have HDD0 := hid hdl
  have HL := hid hl
  have HGD := hid (good_of (l := byt s) (d := dd (byt s)) (nb := true) rfl (by rw [hl]; rfl) (by rw [hl]; simp [dd]) (.inl (by rw [hl]; intro e; simp [dd] at e; exact hx8 e)))
  have HNG := hid (show decide ((byt s).head? = some 45) = true by rw [hl]; rfl)
  have hxb : ((y : Int) == 48) = false := beq_eq_false_iff_ne.2 (by omega)
  clear hl hlen hdl hx8

  have HS := hid hs
  clear hs
  go_enter Try.func46, Try.ntmps46
  go_wp2_with (at_make; refine wpl_make (w0 := w.alloc (.cells #[.bool false, .slice none 0 0] 24)) (Ext.refl _) rfl _ _ _ rfl 5 .u8 1 Try.underlying99 info_u8 _ s.size rfl rfl rfl (by have := HS.out; omega) (by have := HS.out; simp only [maxLen]; omega) ?_; intro g w1 hg1 ho1 hx1; obtain ⟨w2, hcopy, ho2, hx2⟩ := copy_str 99 9 3 5 Try.underlying99 size_u8 (str := s) rfl ho1 hx1 (Nat.le_refl _); have HO2 := hid ho2; have HX2 := hid hx2; have gc := own_at ho2 (i := 0) (x := 45) (by rw [HL.out]; rfl); have gd := own_at ho2 (i := 1) (x := y) (by rw [HL.out]; rfl); have B2 := B0.out.ext hx2; have r0 := B2.c0; have r1 := B2.c1; have f0 := B2.fr 0; have f1 := B2.fr 1; have HB2 := hid B2; clear ho1 hx1 ho2 hx2 B2)
  have hsl0 := HO2.out.sl.drop (j := 1) (by omega)
  rw [if_neg hs2] at hsl0
  have HSL := hid hsl0
  clear hsl0
  have HDD := hid (show dd (byt s) = [] ++ (byt s).drop 1 from HDD0.out)
  clear hcopy r0 r1 f0 f1 gc gd
  go_loopw [4, 6] (fun sb sa wr => ∃ (A2 : Option Addr) (n2 c2 : Nat) (d2 d1 : List Nat) (B : Option Addr) (m e K2 : Nat), sb = .slice A2 n2 c2 ∧ sa = .slice B m e ∧ Sl .u8 wr A2 n2 c2 d2 ∧ dd (byt s) = d1 ++ d2 ∧ Dig d1 ∧ Cn K2 wr (w.heap.size + 1) B m e (vl d1) ∧ K2 + 3 * n2 ≤ 3 * s.size ∧ Bx wr w.heap.size false none 0 0 ∧ Ext w wr) (fun sb _ _ => match sb with | .slice _ n _ => n | _ => 0)
  case atStart => exact ⟨_, _, _, _, [], none, 0, 0, 0, rfl, rfl, HSL.out, HDD.out, fun c hc => by simp at hc, Cn.none, by omega, HB2.out, X0.out.trans HX2.out⟩
  case round =>
    clear HSL HDD HB2 HX2 HO2
    obtain ⟨A2, n2, c2, d2, d1, B, m, e, K2, rfl, rfl, hsl, hdd, hdg, hcn, hK, hbx, hx⟩ := hrel
    have HSL := hid hsl
    have HDD := hid hdd
    have HDG := hid hdg
    have HCN := hid hcn
    have HK := hid hK
    have HBX := hid hbx
    have HX := hid hx
    have hcap := hsl.cap
    have HL2 := hid hsl.len
    by_cases h0 : n2 = 0
    · subst h0
      have r0 := hbx.c0
      have r1 := hbx.c1
      have f0 := hbx.fr 0
      have f1 := hbx.fr 1
      clear hsl hdd hdg hcn hK hbx hx
      go_wp2_with fail
      refine ret_be rfl (HBX.out.put) rfl rfl rfl ?_
      have hd1 : dd (byt s) = d1 := by rw [HDD.out, List.eq_nil_of_length_eq_zero HL2.out, List.append_nil]
      have hg : Good (byt s) := HGD.out (by rw [hd1]; exact HDG.out)
      rw [pe_good hg]
      refine ⟨_, _, _, _, rfl, ⟨?_, ?_⟩, HX.out.put (Nat.le_refl _) _ _⟩
      · rw [(pz_neg hg).1, HNG.out]
      · rw [(pz_neg hg).2, hd1]
        exact (Cn.put (K := 3 * s.size) ⟨HCN.out.1, by have := HK.out; have := HCN.out.2; omega⟩ (by omega)).mono (by omega)
    · obtain ⟨p, hp⟩ : ∃ p, p = min 9 n2 := ⟨_, rfl⟩
      have hp1 : p ≤ 9 ∧ p ≤ n2 ∧ 1 ≤ p := by omega
      have hp9 := hp1.1
      have hpn := hp1.2.1
      have hmin : min (9 : Int) (n2 : Int) = (p : Int) := by omega
      have hdrop := hsl.drop hpn
      obtain ⟨g2, o2, rfl, hlt2, hcell⟩ := hsl.at_ (by omega)
      have HC : Hid (∀ i, i < n2 → wr.cell? ⟨g2, o2 + i, none⟩ = some (.int .u8 ((d2[i]?.getD 0 : Nat) : Int))) := fun i hi => by
        refine hcell i _ ?_
        rw [List.getElem?_eq_getElem (by rw [HL2.out]; exact hi)]; rfl
      have HDR := hid hdrop
      have HP := hid hp1
      clear hcell hsl hdd hdg hcn hK hbx hx hp hp1 hdrop hlt2
      have hpc : p ≤ c2 := by omega
      have hn2 : 0 < n2 := by omega
      go_wp2_with fail
      go_loopw [7, 8, 60] (fun sn sp si wi => ∃ (i v q : Nat), i ≤ p ∧ si = .int .i64 i ∧ sn = .int .u32 v ∧ sp = .int .u32 q ∧ v = vl (d2.take i) ∧ q = 10 ^ i ∧ Dig (d2.take i) ∧ wi = wr) (fun _ _ si _ => p - (intOf si).toNat)
      case atStart => exact ⟨0, 0, 1, by omega, rfl, rfl, rfl, by simp [vl, nv], rfl, fun c hc => by simp at hc, rfl⟩
      case round =>
        obtain ⟨i, v, q, hi, rfl, rfl, rfl, hv, hq, hd, rfl⟩ := hrel
        have hvq : v < q := by
          have := vl_lt hd
          rw [List.length_take, Nat.min_eq_left (by rw [HL2.out]; omega), ← hv, ← hq] at this
          exact this
        have hqb : q ≤ 1000000000 := by
          rw [hq]
          exact Nat.le_trans (Nat.pow_le_pow_right (n := 10) (by omega) (show i ≤ 9 by omega)) (by decide)
        have HV := hid hv
        have HQ := hid hq
        have HD := hid hd
        clear hv hq hd
        by_cases hip : i < p
        · have hqb8 : q ≤ 100000000 := by
            rw [HQ.out]
            exact Nat.le_trans (Nat.pow_le_pow_right (n := 10) (by omega) (show i ≤ 8 by omega)) (by decide)
          have gx := HC.out i (by omega)
          have HNOT : Hid ((d2[i]?.getD 0 < 48 ∨ 57 < d2[i]?.getD 0) → ¬ Good (byt s)) := fun hb => dig_not HDD.out (by rw [HL2.out]; omega) hb
          have HV1 := hid (vl_take (d := d2) (i := i) (by rw [HL2.out]; omega))
          have HD1 := hid (dig_take (d := d2) (i := i) (by rw [HL2.out]; omega) HD.out)
          generalize d2[i]?.getD 0 = x at *
          have r0 := HBX.out.c0
          have r1 := HBX.out.c1
          have f0 := HBX.out.fr 0
          have f1 := HBX.out.fr 1
          by_cases hx1 : x < 48
          · have HG := hid (HNOT.out (.inl hx1))
            have hx1' : (x : Int) < 48 := by omega
            go_wp2_with fail
            rw [(pe_bad HG.out).1, (pe_bad HG.out).2]
            refine ret_be rfl (HBX.out.put) rfl rfl rfl ?_
            exact ⟨_, _, _, _, rfl, ⟨by decide, Cn.none⟩, HX.out.put (Nat.le_refl _) _ _⟩
          · by_cases hx2 : 57 < x
            · have HG := hid (HNOT.out (.inr hx2))
              have hx1' : ¬ (x : Int) < 48 := by omega
              have hx2' : (57 : Int) < (x : Int) := by omega
              go_wp2_with fail
              rw [(pe_bad HG.out).1, (pe_bad HG.out).2]
              refine ret_be rfl (HBX.out.put) rfl rfl rfl ?_
              exact ⟨_, _, _, _, rfl, ⟨by decide, Cn.none⟩, HX.out.put (Nat.le_refl _) _ _⟩
            · have hx1' : ¬ (x : Int) < 48 := by omega
              have hx2' : ¬ (57 : Int) < (x : Int) := by omega
              clear r0 r1 f0 f1
              go_wp2_with fail
              go_roundw
              case rel =>
                refine ⟨i + 1, v * 10 + (x - 48), q * 10, by omega, ?_, ?_, ?_, ?_, ?_, ?_, by first | rfl | trivial⟩
                · simp only [Value.int.injEq, true_and]; omega
                · simp only [Value.int.injEq, true_and]; omega
                · simp only [Value.int.injEq, true_and]; omega
                · rw [HV1.out, HV.out]
                · rw [Nat.pow_succ, HQ.out]
                · exact HD1.out (by omega) (by omega)
              case measure => simp [intOf]; omega
        · obtain rfl : i = p := by omega
          have li := hid (limb_v (V := (q : Int)) rfl (by omega) HCN.out.nv (by have := HK.out; have := HS.out; omega))
          go_wp2_with fail
          refine li.out.mono ?_
          rintro E w3 ⟨B3, m3, e3, rfl, o3, x3⟩
          have O3 := hid o3
          have X3 := hid x3
          clear o3 x3 li
          go_wp2_with (refine wpl_lit1 (w0 := w3) (Ext.refl _) (by first | rfl | decide) 22 _ rfl 100 .u32 4 Try.underlying22 info_u32 _ v rfl rfl ?_; intro g4 w4 hg4 ho4 hx4 hx4'; have O4 := hid ho4; have X4 := hid hx4; clear ho4 hx4 hx4')
          refine (add_v (O3.out.nv.ext X4.out) (lit_nv1 O4.out (by omega)) (by have := HK.out; have := HS.out; omega)).mono ?_
          rintro E w5 ⟨B5, m5, e5, rfl, o5, x5⟩
          have HX5 := hid (((HX.out.trans X3.out).trans X4.out).trans x5)
          have HBX5 := hid (((HBX.out.ext X3.out).ext X4.out).ext x5)
          have hs5 := HBX.out.lt
          have hs3 := X3.out.size
          have hs4 := X4.out.size
          have HCN5 : Hid (Cn (K2 + 3) w5 (w.heap.size + 1) B5 m5 e5 (vl (d1 ++ d2.take i))) := by
            show Cn _ _ _ _ _ _ _
            rw [vl_append, ← HV.out, List.length_take, Nat.min_eq_left (by rw [HL2.out]; omega), ← HQ.out]
            exact ⟨o5.1.mono (by omega), o5.2⟩
          have HSL5 := hid (((HDR.out.ext X3.out).ext X4.out).ext x5)
          clear o5 x5 O3 O4
          have HDD5 := hid (show dd (byt s) = (d1 ++ d2.take i) ++ d2.drop i by rw [List.append_assoc, List.take_append_drop]; exact HDD.out)
          have HDG5 : Hid (Dig (d1 ++ d2.take i)) := fun c hc => by
            rcases List.mem_append.1 hc with h | h
            · exact HDG.out c h
            · exact HD.out c h
          have HK5 := hid (show K2 + 3 + 3 * (n2 - i) ≤ 3 * s.size by have := HK.out; have := HP.out; omega)
          have HM5 := hid (show n2 - i < n2 by have := HP.out; omega)
          by_cases hci : c2 = i
          · have hsl := HSL5.out
            rw [if_pos hci, show c2 - i = 0 by omega] at hsl
            have HSL6 := hid hsl
            clear hsl HSL5
            go_wp2_with fail
            go_roundw
            case rel => exact ⟨_, _, _, _, _, _, _, _, _, rfl, rfl, HSL6.out, HDD5.out, HDG5.out, HCN5.out, HK5.out, HBX5.out, HX5.out⟩
            case measure => exact HM5.out
          · have hsl := HSL5.out
            rw [if_neg hci, Option.map_some, Addr.add_lit] at hsl
            have HSL6 := hid hsl
            clear hsl HSL5
            go_wp2_with fail
            go_roundw
            case rel => exact ⟨_, _, _, _, _, _, _, _, _, rfl, rfl, HSL6.out, HDD5.out, HDG5.out, HCN5.out, HK5.out, HBX5.out, HX5.out⟩
            case measure => exact HM5.out

/-- digits.Parse: the number of a text of at most 20000 bytes, or none. -/
theorem parse_v {w : World} {s : ByteArray} (hs : s.size ≤ 20000) : Calls Try.prog 46 #[.string s] w (RetIE (3 * s.size) (pz (byt s)) (pe (byt s)) w) := by
  have hlen := byt_len s
  rcases hl : byt s with _ | ⟨x, r⟩
  · rw [← hl]; exact parse_a hs hl
  · by_cases hx : x = 45
    · subst hx
      rcases r with _ | ⟨y, r⟩
      · rw [← hl]; exact parse_b0 hs hl
      · by_cases hy : y = 48
        · subst hy
          by_cases hq : 1 < s.size - 1
          · rw [← hl]; exact parse_b48 hs hl hq
          · rw [← hl]; exact parse_b48s hs hl hq
        · rw [← hl]; exact parse_b hs hl hy
    · by_cases h8 : x = 48
      · subst h8
        by_cases hq : 1 < s.size
        · rw [← hl]; exact parse_c48 hs hl hq
        · rw [hl] at hlen
          have : r = [] := List.eq_nil_of_length_eq_zero (by simp at hlen; omega)
          subst this
          rw [← hl]; exact parse_c1 hs hl
      · rw [← hl]; exact parse_c hs hl hx h8
end Go.Proofs.Ytikkibpjchmajaa

