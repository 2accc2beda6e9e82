/-
  The document's numbers by their value: the contracts of its answers for layer 1, once more.
  Nine digits of a number (the function that digits.Text makes); bytes turned round (slices.Reverse).
  The document's whole numbers: a struct of a sign and decimal digits.
-/
import Derived.Test.YtikkibpjchmajaaPk8
import Derived.Test.YtikkibpjchmajaaPk21
import Derived.Test.YtikkibpjchmajaaPk9
import Derived.Test.YtikkibpjchmajaaPk22
import Derived.Test.YtikkibpjchmajaaPk11
import Derived.Test.YtikkibpjchmajaaPk1
import Derived.Test.YtikkibpjchmajaaPk2
import Derived.Deep.RegionHeld3
namespace Go.Proofs.Ytikkibpjchmajaa
open Go.RowKit
open Go.Lib (hid)

/-- The slice holds the decimal digits of p, at most K of them. -/
def Dg (K : Nat) (w : World) (A : Option Addr) (n c p : Nat) : Prop := Sl .i64 w A n c (nd 10 p) ∧ n ≤ K
def RetD (K p : Nat) (w : World) : Ending → World → Prop := fun E w' => ∃ A n c, E = .returned (.slice A n c) ∧ Dg K w' A n c p ∧ Ext w w'

section
variable {K K' : Nat} {w w' : World} {lo lo' : Nat} {A B : Option Addr} {n c m n' c' p q : Nat}
theorem Dg.mk (h : Sl .i64 w A n c (nd 10 p)) (h' : n ≤ K) : Dg K w A n c p := ⟨h, h'⟩
theorem Dg.ext (h : Dg K w A n c p) (hx : Ext w w') : Dg K w' A n c p := ⟨h.1.ext hx, h.2⟩
theorem Dg.bound (h : Dg K w A n c p) : p < 10 ^ K := by
  rw [← nd_len_le (by omega), h.1.len]; exact h.2
theorem RetO.d {E : Ending} (h : RetO .i64 3 (nd 10 p) w E w') (hb : p < 10 ^ K) : RetD K p w E w' := by
  obtain ⟨A, c, h1, h2, h3⟩ := h
  exact ⟨A, _, c, h1, ⟨h2.sl, (nd_len_le (by omega)).2 hb⟩, h3⟩
theorem pow_10_32 (K : Nat) : (4294967296 : Nat) ^ K ≤ 10 ^ (10 * K) := by
  rw [Nat.pow_mul]; exact Nat.pow_le_pow_left (by omega) K
theorem of_v (h : Nv K w A n c m) (hK : K ≤ 1048576) : Calls Try.prog 63 #[.slice A n c] w (RetD (10 * K) m w) := by
  have hb := h.bound
  obtain ⟨xs, h1, h2, rfl, h3⟩ := h
  exact (rof_any h1 h2 (by omega)).mono fun E w' hr => hr.d (Nat.lt_of_lt_of_le hb (pow_10_32 K))
theorem radd_v (h : Dg K w A n c p) (h' : Dg K' w B n' c' q) (hK : K + K' ≤ 1099511627776) : Calls Try.prog 65 #[.slice A n c, .slice B n' c'] w (RetD (K + K' + 1) (p + q) w) :=
  (radd_any h.1 h'.1 (by have := h.2; omega) (by have := h'.2; omega)).mono fun _ _ hr => hr.d (bd_add (by omega) h.bound h'.bound)
theorem rsub_v (h : Dg K w A n c p) (h' : Dg K' w B n' c' q) (hK : K + K' ≤ 1099511627776) (hle : q ≤ p) : Calls Try.prog 91 #[.slice A n c, .slice B n' c'] w (RetD K (p - q) w) :=
  (rsub_any h.1 h'.1 (by have := h.2; omega) (by have := h'.2; omega) hle).mono fun _ _ hr => hr.d (by have := h.bound; omega)
theorem rcmp_is {v : Int} (h : Dg K w A n c p) (h' : Dg K' w B n' c' q) (hK : K + K' ≤ 1099511627776) (hv : cmpN p q = v) : Calls Try.prog 90 #[.slice A n c, .slice B n' c'] w (RetE (.int .i64 v) w) :=
  hv ▸ rcmp_any h.1 h'.1 (by have := h.2; omega) (by have := h'.2; omega)
theorem limbs_v (h : Dg K w A n c p) (hK : K ≤ 1099511627776) : Calls Try.prog 69 #[.slice A n c] w (RetC K p w) :=
  (rlimbs_any h.1 (by have := h.2; omega)).mono fun _ _ hr => hr.c (Nat.lt_of_lt_of_le h.bound (Nat.pow_le_pow_left (by omega) K))

theorem rmul_v (h : Dg K w A n c p) (h' : Dg K' w B n' c' q) (hK : K + K' ≤ 1073741824) : Calls Try.prog 67 #[.slice A n c, .slice B n' c'] w (RetD (K + K') (p * q) w) :=
  (rmul_any h.1 h'.1 (by have := h.2; omega) (by have := h'.2; omega)).mono fun _ _ hr => hr.d (by
    rw [Nat.pow_add]
    exact Nat.mul_lt_mul_of_lt_of_le h.bound (Nat.le_of_lt h'.bound) (Nat.pow_pos (by omega)))
theorem rdivmod_v (h : Dg K w A n c p) (h' : Dg K' w B n' c' q) (hK : K + K' ≤ 1073741824) (hq : 0 < q) : Calls Try.prog 68 #[.slice A n c, .slice B n' c'] w (RetQR K K' (p / q) (p % q) w) :=
  (rdivmod_any h.1 h'.1 (by have := h.2; omega) (by have := h'.2; omega) hq).mono fun _ _ ⟨A, n, c, B, m, d, e, s, t, hn, hm, hx⟩ => ⟨A, n, c, B, m, d, e, s, t, Nat.le_trans hn h.2, Nat.le_trans hm h'.2, hx⟩
theorem rsmall_v {v : Nat} {V : Int} (hV : V = v) (hv : v < 18446744073709551616) : Calls Try.prog 64 #[.int .u64 V] w (RetD 20 v w) := by
  subst hV
  exact (rsmall_any hv).mono fun _ _ hr => hr.d (by omega)
end
end Go.Proofs.Ytikkibpjchmajaa

namespace Go.Proofs.Ytikkibpjchmajaa
open Go.RowKit
open Go.Lib (hid)

/-- The block g is a variable of the type t that holds v. -/
def Sx (w : World) (g : Nat) (t : TypeId) (v : Value) : Prop := w.heap[g]? = some (.cells #[v] t (0, 0))
section
variable {w w' : World} {g : Nat} {t : TypeId} {v : Value}
theorem Sx.lt (h : Sx w g t v) : g < w.heap.size := (Array.getElem?_eq_some_iff.1 h).1
theorem Sx.ext (h : Sx w g t v) (hx : Ext w w') : Sx w' g t v := (hx.block g h.lt).trans h
theorem Sx.gb (h : Sx w g t v) {row : Option Nat} (hg : w.grownBy w' row) (hne : row ≠ some g) : Sx w' g t v := (hg.block g h.lt (fun e => hne e.symm)).trans h
theorem Sx.c0 (h : Sx w g t v) : w.cell? ⟨g, 0, none⟩ = some v := by
  have h : w.heap[g]? = _ := h
  simp [World.cell?, h]
theorem Sx.fr (h : Sx w g t v) (i : Nat) : w.frozen? ⟨g, i, none⟩ = false := by
  have h : w.heap[g]? = _ := h
  simp [World.frozen?, h]
theorem Sx.new (w : World) (t : TypeId) (v : Value) : Sx (w.alloc (.cells #[v] t)) w.heap.size t v := heap_alloc_new _ _
theorem Sx.put {u : Value} (h : Sx w g t v) : Sx (w.setCell ⟨g, 0, none⟩ u) g t u := by
  have h : w.heap[g]? = _ := h
  show (w.setCell ⟨g, 0, none⟩ u).heap[g]? = _
  simp [World.setCell, Array.getElem?_modify, h]
theorem Sx.other {g' : Nat} {u : Value} (h : Sx w g t v) (hne : g ≠ g') : Sx (w.setCell ⟨g', 0, none⟩ u) g t v := (Below.heap_setCell _ _ _ _ hne).trans h
variable {k k' : IntKind} {e e' : TypeId} {lo lo' : Nat} {A B : Option Addr} {n c m d : Nat} {zs ys : List Nat}
/-- A slice's array is no variable of another type. -/
theorem Own.sx (h : Own k e w lo A n c zs) (hs : Sx w g t v) (hne : e ≠ t) : ∀ g', A = some ⟨g', 0, none⟩ → g' ≠ g := fun g' hA hg => by
  subst hg
  rcases h.2 with ⟨h', _⟩ | ⟨g2, cap, cur, h1, _, h3, _⟩
  · injection h' with h'; rw [h'] at hA; cases hA
  · injection h1 with h1; rw [hA] at h1; injection h1 with h1; injection h1 with h1
    subst h1
    have hs : w.heap[g']? = _ := hs
    rw [h3] at hs
    injection hs with hs
    injection hs with _ hs
    exact hne hs
theorem Own.sxr (h : Own k e w lo A n c zs) (hs : Sx w g t v) (hne : e ≠ t) : A.map (·.block) ≠ some g := fun hA => by
  rcases h.form with ⟨rfl, _⟩ | ⟨g2, rfl, _⟩
  · simp at hA
  · exact h.sx hs hne g2 rfl (by simpa using hA)
theorem Own.var (h : Own k e w lo A n c zs) (hs : Sx w g t v) (hne : e ≠ t) (u : Value) : Own k e (w.setCell ⟨g, 0, none⟩ u) lo A n c zs := h.far (p := ⟨g, 0, none⟩) (h.sx hs hne) u
theorem Own.gb (h : Own k e w lo A n c zs) {row : Option Nat} (hg : w.grownBy w' row) (hne : ∀ g', A = some ⟨g', 0, none⟩ → row ≠ some g') : Own k e w' lo A n c zs :=
  ⟨h.1, by
    rcases h.2 with h' | ⟨g, cap, cur, h1, h2, h3, r⟩
    · exact .inl h'
    · injection h1 with h1a h1b h1c
      exact .inr ⟨g, cap, cur, by rw [h1a, h1c], h2, (hg.block g (Array.getElem?_eq_some_iff.1 h3).1 (fun e => hne g h1a e.symm)).trans h3, r⟩⟩
theorem Own.own_ne (h : Own k e w lo A n c zs) (h' : Own k' e' w lo' B m d ys) (hne : e ≠ e') : ∀ g', A = some ⟨g', 0, none⟩ → B.map (·.block) ≠ some g' := fun g' hA hB => by
  rcases h.2 with ⟨h1, _⟩ | ⟨g1, cap, cur, h1, _, h3, _⟩
  · injection h1 with h1; rw [h1] at hA; cases hA
  · injection h1 with h1; rw [hA] at h1; injection h1 with h1; injection h1 with h1
    subst h1
    rcases h'.2 with ⟨h4, _⟩ | ⟨g2, cap2, cur2, h4, _, h6, _⟩
    · injection h4 with h4; rw [h4] at hB; simp at hB
    · injection h4 with h4
      rw [h4] at hB
      have hB : g2 = g' := by simpa using hB
      subst hB
      rw [h3] at h6
      injection h6 with h6
      injection h6 with _ h6
      exact hne h6
end
section
variable {K : Nat} {w w' : World} {g lo : Nat} {t : TypeId} {v : Value} {A B : Option Addr} {n c p m d : Nat} {k : IntKind} {e : TypeId} {ys : List Nat}
theorem Cn.var (h : Cn K w lo A n c p) (hs : Sx w g t v) (hne : 100 ≠ t) (u : Value) : Cn K (w.setCell ⟨g, 0, Option.none⟩ u) lo A n c p := ⟨h.1.var hs hne u, h.2⟩
theorem Cn.app (h : Cn K w lo A n c p) (ho : Own k e w lo B m d ys) (hne : 100 ≠ e) (hg : w.grownBy w' (B.map (·.block))) : Cn K w' lo A n c p := ⟨h.1.gb hg (h.1.own_ne ho hne), h.2⟩
end

theorem info_u8 : (Try.prog.info? 5).map (fun i => (i.zero, i.size, i.bytes)) = some (some (.int .u8 0), 1, 1) := by kernel_rfl

/-- Nine digits more in the variable gb, the number in ga so much less. -/
def RetTake (K p ga gb : Nat) (ds : List Nat) (W : World) : Ending → World → Prop := fun E w' => E = .returned (.tuple #[]) ∧ ∃ (A : Option Addr) (n c : Nat) (B : Option Addr) (d : Nat) (es : List Nat),
  es.length = 9 ∧ Lim 10 es ∧ nv 10 es = p % 1000000000 ∧ Sx w' ga 22 (.slice A n c) ∧ Sx w' gb 99 (.slice B (ds.length + 9) d) ∧ Cn K w' W.heap.size A n c (p / 1000000000) ∧
  Own .u8 5 w' W.heap.size B (ds.length + 9) d ((ds ++ es).map (· + 48)) ∧ Ext W w'

theorem digit_step {i q r : Nat} {es : List Nat} (hl : es.length = i) (h : nv 10 es + 10 ^ i * q = r) : nv 10 (es ++ [q % 10]) + 10 ^ (i + 1) * (q / 10) = r := by
  rw [nv_append, hl, Nat.pow_succ, nv_cons, nv_nil, ← h]
  have := Nat.mod_add_div q 10
  generalize 10 ^ i = x at *
  have e : x * q = x * (q % 10) + x * 10 * (q / 10) := by rw [Nat.mul_assoc, ← Nat.mul_add, this]
  rw [e]; simp; omega

set_option maxHeartbeats 1600000 in
theorem take_v {W w : World} {ga gb K p n c m d : Nat} {A B : Option Addr} {ds : List Nat} (hx : Ext W w) (hga : W.heap.size ≤ ga) (hgb : W.heap.size ≤ gb) (hne : ga ≠ gb) (sa : Sx w ga 22 (.slice A n c)) (sb : Sx w gb 99 (.slice B m d))
    (hA : Cn K w W.heap.size A n c p) (hB : Own .u8 5 w W.heap.size B m d (ds.map (· + 48))) (hK : K ≤ 100000) (hm : m ≤ 2000000) :
    Calls Try.prog 74 #[.int .i64 9, .pointer (some ⟨ga, 0, none⟩), .pointer (some ⟨gb, 0, none⟩)] w (RetTake K p ga gb ds W) := by
  have hd := hid (dlimb_v (D := 1000000000) (d := 1000000000) rfl hA.nv (by omega) (by omega) (by omega))
  have a0 := sa.c0
  obtain rfl : m = ds.length := by have := hB.len; simpa using this.symm
  have HB := hid hB
  have SA := hid sa
  have SB := hid sb
  have X := hid hx
  have hls := hx.size
  clear hA hB sa sb hx
  go_enter Try.func74, Try.ntmps74
  go_wp2_with fail
  refine hd.out.mono ?_
  rintro E w1 ⟨A1, n1, c1, rfl, o1, x1⟩
  have SA1 := SA.out.ext x1
  have f0 := SA1.fr 0
  have a1 := SA1.c0
  have SA2 := hid (SA1.put (u := .slice A1 n1 c1))
  have SB2 := hid ((SB.out.ext x1).other (g' := ga) (u := .slice A1 n1 c1) (fun e => hne e.symm))
  have C2 := hid ((show Cn K w1 W.heap.size A1 n1 c1 (p / 1000000000) from ⟨o1.1.mono hls, o1.2⟩).var SA1 (by decide) (.slice A1 n1 c1))
  have B2 := hid ((HB.out.ext x1).var SA1 (by decide) (.slice A1 n1 c1))
  have X2 := hid ((X.out.trans x1).setCell (p := ⟨ga, 0, none⟩) hga (.slice A1 n1 c1))
  have hr : p % 1000000000 < 1000000000 := Nat.mod_lt _ (by omega)
  clear SA1 o1 x1 hd a0
  go_wp2_with fail
  clear a1 f0 SA SB HB X
  generalize w1.setCell ⟨ga, 0, none⟩ (.slice A1 n1 c1) = w2 at *
  generalize hq : p % 1000000000 = r at *
  have HQ := hid hq
  clear hq
  go_loopw [5, 15] (fun sr si wr => ∃ (i q : Nat) (es : List Nat) (B' : Option Addr) (d' : Nat), i ≤ 9 ∧ si = .int .i64 i ∧ sr = .int .u32 q ∧ q < 4294967296 ∧ es.length = i ∧ Lim 10 es ∧ nv 10 es + 10 ^ i * q = r ∧ Sx wr ga 22 (.slice A1 n1 c1) ∧ Sx wr gb 99 (.slice B' (ds.length + i) d') ∧
      Cn K wr W.heap.size A1 n1 c1 (p / 1000000000) ∧ Own .u8 5 wr W.heap.size B' (ds.length + i) d' ((ds ++ es).map (· + 48)) ∧ Ext W wr) (fun _ si _ => 9 - (intOf si).toNat)
  case atStart => exact ⟨0, r, [], B, d, by omega, rfl, by have := HQ.out; simp only [Value.int.injEq, true_and]; omega, by omega, rfl, fun y hy => by simp at hy, by simp [nv], SA2.out, SB2.out, C2.out, by rw [List.append_nil]; exact B2.out, X2.out⟩
  case round =>
    clear SA2 SB2 C2 B2 X2
    obtain ⟨i, q, es, B', d', hi, rfl, rfl, hq, hel, hes, hinv, sa, sb, ca, ob, hx⟩ := hrel
    have SA := hid sa
    have SB := hid sb
    have CA := hid ca
    have OB := hid ob
    have HX := hid hx
    have HI := hid hinv
    have HES := hid hes
    have HEL := hid hel
    have hb0 := sb.c0
    clear sa sb ca ob hx hinv hes hel
    by_cases hlt : i < 9
    · go_wp2_with (at_builtin; refine wpl_append1 (w0 := W) rfl _ _ _ rfl 5 .u8 1 Try.underlying99 info_u8 _ (q % 10 + 48) rfl rfl (by omega) OB.out HX.out (by omega) (by simp only [maxLen]; omega) ?_; intro B2 d2 w3 ho3 hx3 hg3; have SB3 := SB.out.gb hg3.out (OB.out.sxr SB.out (by decide)); have hc3 := SB3.c0; have hf3 := SB3.fr 0; have HS3 := hid SB3; clear SB3)
      go_roundw
      case rel =>
        refine ⟨i + 1, q / 10, es ++ [q % 10], B2, d2, by omega, ?_, ?_, by omega, by rw [List.length_append, HEL.out]; rfl, lim_append HES.out (lim_one (Nat.mod_lt _ (by omega))), digit_step HEL.out HI.out, ?_, HS3.out.put, ?_, ?_, ?_⟩
        · go_num
        · go_num
        · exact (SA.out.gb hg3.out (OB.out.sxr SA.out (by decide))).other hne
        · exact (CA.out.app OB.out (by decide) hg3.out).var HS3.out (by decide) _
        · have := ho3.var HS3.out (by decide) (.slice B2 (ds.length + i + 1) d2)
          rw [← List.append_assoc, List.map_append (f := fun x => x + 48) (l₁ := ds ++ es)]
          exact this
        · exact hx3.setCell (p := ⟨gb, 0, none⟩) hgb _
      case measure => simp [intOf]; omega
    · obtain rfl : i = 9 := by omega
      go_wp2_with fail
      go_end0
      refine ⟨rfl, A1, n1, c1, B', d', es, HEL.out, HES.out, ?_, SA.out, SB.out, CA.out, OB.out, HX.out⟩
      have h1 := HI.out
      have h2 := nv_lt (b := 10) (by omega) HES.out
      rw [HEL.out] at h2
      rw [HQ.out]
      omega
end Go.Proofs.Ytikkibpjchmajaa

namespace Go.Proofs.Ytikkibpjchmajaa
open Go.RowKit
open Go.Lib (hid)

/-- The block g is a struct of a sign and digits. -/
def Bz (w : World) (g : Nat) (s : Bool) (A : Option Addr) (n c : Nat) : Prop := w.heap[g]? = some (.cells #[.bool s, .slice A n c] 35 (0, 0))
section
variable {w w' : World} {g : Nat} {s : Bool} {A : Option Addr} {n c : Nat}
theorem Bz.lt (h : Bz w g s A n c) : g < w.heap.size := (Array.getElem?_eq_some_iff.1 h).1
theorem Bz.ext (h : Bz w g s A n c) (hx : Ext w w') : Bz w' g s A n c := (hx.block g h.lt).trans h
theorem Bz.grown (h : Bz w g s A n c) {row : Option Nat} (hg : w.grownBy w' row) (hne : some g ≠ row) : Bz w' g s A n c := (hg.block g h.lt hne).trans h
theorem Bz.c0 (h : Bz w g s A n c) : w.cell? ⟨g, 0, none⟩ = some (.bool s) := by
  have h : w.heap[g]? = _ := h
  simp [World.cell?, h]
theorem Bz.c1 (h : Bz w g s A n c) : w.cell? ⟨g, 1, none⟩ = some (.slice A n c) := by
  have h : w.heap[g]? = _ := h
  simp [World.cell?, h]
theorem Bz.fr (h : Bz w g s A n c) (i : Nat) : w.frozen? ⟨g, i, none⟩ = false := by
  have h : w.heap[g]? = _ := h
  simp [World.frozen?, h]
theorem Bz.new (w : World) (s : Bool) (A : Option Addr) (n c : Nat) : Bz (w.alloc (.cells #[.bool s, .slice A n c] 35)) w.heap.size s A n c := heap_alloc_new _ _
theorem Bz.put {s' : Bool} {A' : Option Addr} {n' c' : Nat} (h : Bz w g s A n c) : Bz ((w.setCell ⟨g, 0, none⟩ (.bool s')).setCell ⟨g, 1, none⟩ (.slice A' n' c')) g s' A' n' c' :=
  heap_set (i := 1) (u := .slice A' n' c') (heap_set (i := 0) (u := .bool s') h)
theorem Bz.other {g' : Nat} {u v : Value} (h : Bz w g s A n c) (hne : g ≠ g') : Bz ((w.setCell ⟨g', 0, none⟩ u).setCell ⟨g', 1, none⟩ v) g s A n c := h.grown (put_gb w g' u v) (by simpa using hne)
end
theorem info_z_s : (Try.prog.info? 35).map (·.size) = some 2 := by kernel_rfl
theorem ret_z {fn : Func} {p : Tmp} {R : Ending → World → Prop} {a : Act} {w : World} {g : Nat} {s : Bool} {A : Option Addr} {n c : Nat} (h : fn.results = #[.cell p 35]) (hB : Bz w g s A n c)
    (hp : a.tmps.getD p undef = .pointer (some ⟨g, 0, none⟩)) (hd : a.defers = []) (hR : R (.returned (.agg #[.bool s, .slice A n c])) w) : bodyPost Try.prog fn R .ret a w :=
  bodyPost_ret (results_cell_row h _ _ g _ _ _ _ hp hB Try.underlying35 rfl info_z_s) hd hR

/-- The limbs, or digits, lie in another block. -/
def OffA (A : Option Addr) (n g : Nat) : Prop := ∀ b o, A = some ⟨b, o, none⟩ → 0 < n → b ≠ g
theorem Sl.gb {k : IntKind} {w w' : World} {A : Option Addr} {n c g : Nat} {zs : List Nat} (h : Sl k w A n c zs) (hg : w.grownBy w' (some g)) (ho : OffA A n g) : Sl k w' A n c zs := by
  refine ⟨h.len, h.cap, h.max, fun hp => ?_⟩
  obtain ⟨b, o, e, hlt, hc⟩ := h.at_ hp
  have hne := ho b o e hp
  refine ⟨b, o, e, Nat.lt_of_lt_of_le hlt hg.size, fun j z hz => ?_⟩
  rw [World.cell?_of_block (a := ⟨b, o + j, none⟩) (hg.block b hlt (fun e => hne (by injection e)))]
  exact hc j z hz
theorem Sl.off {k : IntKind} {w : World} {A : Option Addr} {n c g : Nat} {zs : List Nat} (h : Sl k w A n c zs) (hg : w.heap.size ≤ g) : OffA A n g := fun b o e hp => by
  obtain ⟨b', o', e', hlt, _⟩ := h.at_ hp
  rw [e] at e'; injection e' with e'; injection e' with e'; omega
theorem Own.off {k : IntKind} {e : TypeId} {w : World} {lo g : Nat} {A : Option Addr} {n c : Nat} {zs : List Nat} (h : Own k e w lo A n c zs) (hg : g < lo) : OffA A n g := fun b o e hp => by
  rcases h.form with ⟨e', _, _⟩ | ⟨g', e', hl, _⟩
  · rw [e'] at e; cases e
  · rw [e'] at e; injection e with e; injection e with e; omega

/-- The struct's parts hold the number z, canonical, at most K digits of it. -/
def Zd (K : Nat) (w : World) (b : Bool) (A : Option Addr) (n c : Nat) (z : Int) : Prop := b = decide (z < 0) ∧ Dg K w A n c z.natAbs
def RetZ (K : Nat) (z : Int) (w : World) : Ending → World → Prop := fun E w' => ∃ b A n c, E = .returned (.agg #[.bool b, .slice A n c]) ∧ Zd K w' b A n c z ∧ Ext w w'
section
variable {K L : Nat} {w w' : World} {b : Bool} {A : Option Addr} {n c g : Nat} {z : Int}
theorem Zd.ext (h : Zd K w b A n c z) (hx : Ext w w') : Zd K w' b A n c z := ⟨h.1, h.2.ext hx⟩
theorem Zd.gb (h : Zd K w b A n c z) (hg : w.grownBy w' (some g)) (ho : OffA A n g) : Zd K w' b A n c z := ⟨h.1, h.2.1.gb hg ho, h.2.2⟩
theorem Zd.weak (h : Zd K w b A n c z) (hl : K ≤ L) : Zd L w b A n c z := ⟨h.1, h.2.1, Nat.le_trans h.2.2 hl⟩
theorem Zd.len0 (h : Zd K w b A n c z) (h0 : z = 0) : n = 0 := by subst h0; exact h.2.1.len.symm
theorem Zd.lenp (h : Zd K w b A n c z) (h0 : z ≠ 0) : 0 < n := by
  have h1 := h.2.1.len
  rcases Nat.eq_zero_or_pos n with h2 | h2
  · exfalso
    have := (nd_eq_nil (b := 10) (by omega)).1 (List.eq_nil_of_length_eq_zero (h1.trans h2))
    omega
  · exact h2
/-- The sign, as the struct tells it: neg and digits. -/
theorem Zd.flag (h : Zd K w b A n c z) : (b && decide (0 < n)) = decide (z < 0) := by
  rw [h.1]
  by_cases hz : z = 0
  · subst hz; rfl
  · rw [decide_eq_true (h.lenp hz), Bool.and_true]
theorem fin_z {w1 : World} (hz : Zd K w1 b A n c z) (ho : OffA A n g) (hwg : w.heap.size ≤ g) (hx : Ext w w1) :
    RetZ K z w (.returned (.agg #[.bool b, .slice A n c])) ((w1.setCell ⟨g, 0, none⟩ (.bool b)).setCell ⟨g, 1, none⟩ (.slice A n c)) :=
  ⟨_, _, _, _, rfl, hz.gb (put_gb w1 g _ _) ho, hx.put hwg _ _⟩
end

theorem zof_v {w : World} {s : Bool} {A : Option Addr} {n c K : Nat} {z : Int} (h : Iz K w s A n c z) (hK : K ≤ 100000) :
    Calls Try.prog 35 #[.agg #[.bool s, .slice A n c]] w (RetZ (10 * K) z w) := by
  have X := hid (((Ext.refl w).alloc (.cells #[.bool s, .slice A n c] 24)).alloc (.cells #[.bool false, .slice none 0 0] 35))
  have b0 := (Bx.new w s A n c).ext ((Ext.refl _).alloc (.cells #[.bool false, .slice none 0 0] 35))
  have b1 := Bz.new (w.alloc (.cells #[.bool s, .slice A n c] 24)) false none 0 0
  rw [size_alloc] at b1
  have HB0 := hid b0
  have HB1 := hid b1
  have hz := h.nv.2
  have hn := h.nv.1
  have hbd := hn.bound
  have hsz : ((w.alloc (.cells #[.bool s, .slice A n c] 24)).alloc (.cells #[.bool false, .slice none 0 0] 35)).heap.size = w.heap.size + 2 := by rw [size_alloc, size_alloc]
  clear b0 b1 h
  have HZ := hid hz
  obtain ⟨xs, h1, h2, h3, h4⟩ := hn
  have ro := hid (rof_any (h1.ext X.out) h2 (by omega))
  rw [h3] at ro
  clear hz h1 h2 h3 h4
  go_enter Try.func35, Try.ntmps35
  go_wp2_with fail
  generalize (w.alloc (.cells #[.bool s, .slice A n c] 24)).alloc (.cells #[.bool false, .slice none 0 0] 35) = wA at *
  refine ro.out.mono ?_
  rintro E w1 ⟨A1, c1, rfl, o1, x1⟩
  have hd : (nd 10 z.natAbs).length ≤ 10 * K := (nd_len_le (by omega)).2 (Nat.lt_of_lt_of_le hbd (pow_10_32 K))
  have O1 := hid o1
  have HF : Hid ((s && decide (0 < (nd 10 z.natAbs).length)) = decide (z < 0)) := by
    show _ = _
    by_cases h0 : z = 0
    · subst h0; simp [nd_zero]
    · have hp : 0 < (nd 10 z.natAbs).length := by
        rcases Nat.eq_zero_or_pos (nd 10 z.natAbs).length with h2 | h2
        · exfalso
          have := (nd_eq_nil (b := 10) (by omega)).1 (List.eq_nil_of_length_eq_zero h2)
          omega
        · exact h2
      rw [decide_eq_true hp, Bool.and_true]
      have e := HZ.out
      rw [e, zv_lt, decide_eq_true (show 0 < z.natAbs by omega), Bool.and_true]
  have HD := hid (show Dg (10 * K) w1 A1 (nd 10 z.natAbs).length c1 z.natAbs from ⟨o1.sl, hd⟩)
  have X1 := hid (X.out.trans x1)
  have HB := HB1.out.ext x1
  have hc0 := (HB0.out.ext x1).c0
  have hr0 := HB.c0
  have hr1 := HB.c1
  have hr2 := HB.fr 0
  have hr3 := HB.fr 1
  have HBB := hid HB
  have HO := hid (o1.off (g := w.heap.size + 1) (by omega))
  clear o1 x1 HB hd ro
  generalize (nd 10 z.natAbs).length = m at *
  cases s
  · go_wp2_with fail
    refine ret_z rfl HBB.out.put rfl rfl (fin_z ⟨by rw [← HF.out]; rfl, HD.out⟩ HO.out (by omega) X1.out)
  · go_wp2_with fail
    refine ret_z rfl HBB.out.put rfl rfl (fin_z ⟨by rw [← HF.out, Bool.true_and], HD.out⟩ HO.out (by omega) X1.out)
end Go.Proofs.Ytikkibpjchmajaa

