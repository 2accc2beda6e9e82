/-
  Nine digits of a number (the function that digits.Text makes); bytes turned round (slices.Reverse).
-/
import Derived.Test.YtikkibpjchmajaaGreatPk17
import Derived.Test.YtikkibpjchmajaaGreatPk1
import Derived.Test.YtikkibpjchmajaaGreatPk2
import Derived.Deep.RegionHeld3
namespace Go.Proofs.YtikkibpjchmajaaGreat
open Go.RowKit
open Go.Lib (hid)

/-- The block g is a variable of the type t that holds v. -/
def Sx (w : World) (g : Nat) (t : TypeId) (v : Value) : Prop := w.heap[g]? = some (.cells #[v] t (0, 0))
section
variable {w w' : World} {g : Nat} {t : TypeId} {v : Value}
theorem Sx.lt (h : Sx w g t v) : g < w.heap.size := (Array.getElem?_eq_some_iff.1 h).1
theorem Sx.ext (h : Sx w g t v) (hx : Ext w w') : Sx w' g t v := (hx.block g h.lt).trans h
theorem Sx.gb (h : Sx w g t v) {row : Option Nat} (hg : w.grownBy w' row) (hne : row ≠ some g) : Sx w' g t v := (hg.block g h.lt (fun e => hne e.symm)).trans h
theorem Sx.c0 (h : Sx w g t v) : w.cell? ⟨g, 0, none⟩ = some v := by
  have h : w.heap[g]? = _ := h
  simp [World.cell?, h]
theorem Sx.fr (h : Sx w g t v) (i : Nat) : w.frozen? ⟨g, i, none⟩ = false := by
  have h : w.heap[g]? = _ := h
  simp [World.frozen?, h]
theorem Sx.new (w : World) (t : TypeId) (v : Value) : Sx (w.alloc (.cells #[v] t)) w.heap.size t v := heap_alloc_new _ _
theorem Sx.put {u : Value} (h : Sx w g t v) : Sx (w.setCell ⟨g, 0, none⟩ u) g t u := by
  have h : w.heap[g]? = _ := h
  show (w.setCell ⟨g, 0, none⟩ u).heap[g]? = _
  simp [World.setCell, Array.getElem?_modify, h]
theorem Sx.other {g' : Nat} {u : Value} (h : Sx w g t v) (hne : g ≠ g') : Sx (w.setCell ⟨g', 0, none⟩ u) g t v := (Below.heap_setCell _ _ _ _ hne).trans h
variable {k k' : IntKind} {e e' : TypeId} {lo lo' : Nat} {A B : Option Addr} {n c m d : Nat} {zs ys : List Nat}
/-- A slice's array is no variable of another type. -/
theorem Own.sx (h : Own k e w lo A n c zs) (hs : Sx w g t v) (hne : e ≠ t) : ∀ g', A = some ⟨g', 0, none⟩ → g' ≠ g := fun g' hA hg => by
  subst hg
  rcases h.2 with ⟨h', _⟩ | ⟨g2, cap, cur, h1, _, h3, _⟩
  · injection h' with h'; rw [h'] at hA; cases hA
  · injection h1 with h1; rw [hA] at h1; injection h1 with h1; injection h1 with h1
    subst h1
    have hs : w.heap[g']? = _ := hs
    rw [h3] at hs
    injection hs with hs
    injection hs with _ hs
    exact hne hs
theorem Own.sxr (h : Own k e w lo A n c zs) (hs : Sx w g t v) (hne : e ≠ t) : A.map (·.block) ≠ some g := fun hA => by
  rcases h.form with ⟨rfl, _⟩ | ⟨g2, rfl, _⟩
  · simp at hA
  · exact h.sx hs hne g2 rfl (by simpa using hA)
theorem Own.var (h : Own k e w lo A n c zs) (hs : Sx w g t v) (hne : e ≠ t) (u : Value) : Own k e (w.setCell ⟨g, 0, none⟩ u) lo A n c zs := h.far (p := ⟨g, 0, none⟩) (h.sx hs hne) u
theorem Own.gb (h : Own k e w lo A n c zs) {row : Option Nat} (hg : w.grownBy w' row) (hne : ∀ g', A = some ⟨g', 0, none⟩ → row ≠ some g') : Own k e w' lo A n c zs :=
  ⟨h.1, by
    rcases h.2 with h' | ⟨g, cap, cur, h1, h2, h3, r⟩
    · exact .inl h'
    · injection h1 with h1a h1b h1c
      exact .inr ⟨g, cap, cur, by rw [h1a, h1c], h2, (hg.block g (Array.getElem?_eq_some_iff.1 h3).1 (fun e => hne g h1a e.symm)).trans h3, r⟩⟩
theorem Own.own_ne (h : Own k e w lo A n c zs) (h' : Own k' e' w lo' B m d ys) (hne : e ≠ e') : ∀ g', A = some ⟨g', 0, none⟩ → B.map (·.block) ≠ some g' := fun g' hA hB => by
  rcases h.2 with ⟨h1, _⟩ | ⟨g1, cap, cur, h1, _, h3, _⟩
  · injection h1 with h1; rw [h1] at hA; cases hA
  · injection h1 with h1; rw [hA] at h1; injection h1 with h1; injection h1 with h1
    subst h1
    rcases h'.2 with ⟨h4, _⟩ | ⟨g2, cap2, cur2, h4, _, h6, _⟩
    · injection h4 with h4; rw [h4] at hB; simp at hB
    · injection h4 with h4
      rw [h4] at hB
      have hB : g2 = g' := by simpa using hB
      subst hB
      rw [h3] at h6
      injection h6 with h6
      injection h6 with _ h6
      exact hne h6
end
section
variable {K : Nat} {w w' : World} {g lo : Nat} {t : TypeId} {v : Value} {A B : Option Addr} {n c p m d : Nat} {k : IntKind} {e : TypeId} {ys : List Nat}
theorem Cn.var (h : Cn K w lo A n c p) (hs : Sx w g t v) (hne : 74 ≠ t) (u : Value) : Cn K (w.setCell ⟨g, 0, Option.none⟩ u) lo A n c p := ⟨h.1.var hs hne u, h.2⟩
theorem Cn.app (h : Cn K w lo A n c p) (ho : Own k e w lo B m d ys) (hne : 74 ≠ e) (hg : w.grownBy w' (B.map (·.block))) : Cn K w' lo A n c p := ⟨h.1.gb hg (h.1.own_ne ho hne), h.2⟩
end

theorem info_u8 : (Tryz.prog.info? 5).map (fun i => (i.zero, i.size, i.bytes)) = some (some (.int .u8 0), 1, 1) := by kernel_rfl

/-- Nine digits more in the variable gb, the number in ga so much less. -/
def RetTake (K p ga gb : Nat) (ds : List Nat) (W : World) : Ending → World → Prop := fun E w' => E = .returned (.tuple #[]) ∧ ∃ (A : Option Addr) (n c : Nat) (B : Option Addr) (d : Nat) (es : List Nat),
  es.length = 9 ∧ Lim 10 es ∧ nv 10 es = p % 1000000000 ∧ Sx w' ga 22 (.slice A n c) ∧ Sx w' gb 97 (.slice B (ds.length + 9) d) ∧ Cn K w' W.heap.size A n c (p / 1000000000) ∧
  Own .u8 5 w' W.heap.size B (ds.length + 9) d ((ds ++ es).map (· + 48)) ∧ Ext W w'

theorem digit_step {i q r : Nat} {es : List Nat} (hl : es.length = i) (h : nv 10 es + 10 ^ i * q = r) : nv 10 (es ++ [q % 10]) + 10 ^ (i + 1) * (q / 10) = r := by
  rw [nv_append, hl, Nat.pow_succ, nv_cons, nv_nil, ← h]
  have := Nat.mod_add_div q 10
  generalize 10 ^ i = x at *
  have e : x * q = x * (q % 10) + x * 10 * (q / 10) := by rw [Nat.mul_assoc, ← Nat.mul_add, this]
  rw [e]; simp; omega

set_option maxHeartbeats 1600000 in
theorem take_v {W w : World} {ga gb K p n c m d : Nat} {A B : Option Addr} {ds : List Nat} (hx : Ext W w) (hga : W.heap.size ≤ ga) (hgb : W.heap.size ≤ gb) (hne : ga ≠ gb) (sa : Sx w ga 22 (.slice A n c)) (sb : Sx w gb 97 (.slice B m d))
    (hA : Cn K w W.heap.size A n c p) (hB : Own .u8 5 w W.heap.size B m d (ds.map (· + 48))) (hK : K ≤ 100000) (hm : m ≤ 2000000) :
    Calls Tryz.prog 75 #[.int .i64 9, .pointer (some ⟨ga, 0, none⟩), .pointer (some ⟨gb, 0, none⟩)] w (RetTake K p ga gb ds W) := by
  have hd := hid (dlimb_v (D := 1000000000) (d := 1000000000) rfl hA.nv (by omega) (by omega) (by omega))
  have a0 := sa.c0
  obtain rfl : m = ds.length := by have := hB.len; simpa using this.symm
  have HB := hid hB
  have SA := hid sa
  have SB := hid sb
  have X := hid hx
  have hls := hx.size
  clear hA hB sa sb hx
  go_enter Tryz.func75, Tryz.ntmps75
  go_wp2_with fail
  refine hd.out.mono ?_
  rintro E w1 ⟨A1, n1, c1, rfl, o1, x1⟩
  have SA1 := SA.out.ext x1
  have f0 := SA1.fr 0
  have a1 := SA1.c0
  have SA2 := hid (SA1.put (u := .slice A1 n1 c1))
  have SB2 := hid ((SB.out.ext x1).other (g' := ga) (u := .slice A1 n1 c1) (fun e => hne e.symm))
  have C2 := hid ((show Cn K w1 W.heap.size A1 n1 c1 (p / 1000000000) from ⟨o1.1.mono hls, o1.2⟩).var SA1 (by decide) (.slice A1 n1 c1))
  have B2 := hid ((HB.out.ext x1).var SA1 (by decide) (.slice A1 n1 c1))
  have X2 := hid ((X.out.trans x1).setCell (p := ⟨ga, 0, none⟩) hga (.slice A1 n1 c1))
  have hr : p % 1000000000 < 1000000000 := Nat.mod_lt _ (by omega)
  clear SA1 o1 x1 hd a0
  go_wp2_with fail
  clear a1 f0 SA SB HB X
  generalize w1.setCell ⟨ga, 0, none⟩ (.slice A1 n1 c1) = w2 at *
  generalize hq : p % 1000000000 = r at *
  have HQ := hid hq
  clear hq
  go_loopw [5, 15] (fun sr si wr => ∃ (i q : Nat) (es : List Nat) (B' : Option Addr) (d' : Nat), i ≤ 9 ∧ si = .int .i64 i ∧ sr = .int .u32 q ∧ q < 4294967296 ∧ es.length = i ∧ Lim 10 es ∧ nv 10 es + 10 ^ i * q = r ∧ Sx wr ga 22 (.slice A1 n1 c1) ∧ Sx wr gb 97 (.slice B' (ds.length + i) d') ∧
      Cn K wr W.heap.size A1 n1 c1 (p / 1000000000) ∧ Own .u8 5 wr W.heap.size B' (ds.length + i) d' ((ds ++ es).map (· + 48)) ∧ Ext W wr) (fun _ si _ => 9 - (intOf si).toNat)
  case atStart => exact ⟨0, r, [], B, d, by omega, rfl, by have := HQ.out; simp only [Value.int.injEq, true_and]; omega, by omega, rfl, fun y hy => by simp at hy, by simp [nv], SA2.out, SB2.out, C2.out, by rw [List.append_nil]; exact B2.out, X2.out⟩
  case round =>
    clear SA2 SB2 C2 B2 X2
    obtain ⟨i, q, es, B', d', hi, rfl, rfl, hq, hel, hes, hinv, sa, sb, ca, ob, hx⟩ := hrel
    have SA := hid sa
    have SB := hid sb
    have CA := hid ca
    have OB := hid ob
    have HX := hid hx
    have HI := hid hinv
    have HES := hid hes
    have HEL := hid hel
    have hb0 := sb.c0
    clear sa sb ca ob hx hinv hes hel
    by_cases hlt : i < 9
    · go_wp2_with (at_builtin; refine wpl_append1 (w0 := W) rfl _ _ _ rfl 5 .u8 1 Tryz.underlying97 info_u8 _ (q % 10 + 48) rfl rfl (by omega) OB.out HX.out (by omega) (by simp only [maxLen]; omega) ?_; intro B2 d2 w3 ho3 hx3 hg3; have SB3 := SB.out.gb hg3.out (OB.out.sxr SB.out (by decide)); have hc3 := SB3.c0; have hf3 := SB3.fr 0; have HS3 := hid SB3; clear SB3)
      go_roundw
      case rel =>
        refine ⟨i + 1, q / 10, es ++ [q % 10], B2, d2, by omega, ?_, ?_, by omega, by rw [List.length_append, HEL.out]; rfl, lim_append HES.out (lim_one (Nat.mod_lt _ (by omega))), digit_step HEL.out HI.out, ?_, HS3.out.put, ?_, ?_, ?_⟩
        · go_num
        · go_num
        · exact (SA.out.gb hg3.out (OB.out.sxr SA.out (by decide))).other hne
        · exact (CA.out.app OB.out (by decide) hg3.out).var HS3.out (by decide) _
        · have := ho3.var HS3.out (by decide) (.slice B2 (ds.length + i + 1) d2)
          rw [← List.append_assoc, List.map_append (f := fun x => x + 48) (l₁ := ds ++ es)]
          exact this
        · exact hx3.setCell (p := ⟨gb, 0, none⟩) hgb _
      case measure => simp [intOf]; omega
    · obtain rfl : i = 9 := by omega
      go_wp2_with fail
      go_end0
      refine ⟨rfl, A1, n1, c1, B', d', es, HEL.out, HES.out, ?_, SA.out, SB.out, CA.out, OB.out, HX.out⟩
      have h1 := HI.out
      have h2 := nv_lt (b := 10) (by omega) HES.out
      rw [HEL.out] at h2
      rw [HQ.out]
      omega
end Go.Proofs.YtikkibpjchmajaaGreat

