/-
  The contracts of nat.Bits, nat.Small, nat.Word.
  Numbers by their value: the contracts of layer 1 once more, for the walks above: a slice holds a number (Nv), or its canonical limbs in new memory (Cn).
  Whole numbers: a sign and a magnitude; what a struct of both stands for.
  Canonical numbers: their lengths and highest limbs.
  Signs of products and powers.
  Signs of fractions.
  Signs: of products, negatives; they stay within a word.
-/
import Derived.Test.YtikkibpjchmajaaPk5
import Derived.Test.YtikkibpjchmajaaPk6
import Derived.Test.YtikkibpjchmajaaPk7
import Derived.Test.YtikkibpjchmajaaPk3
import Derived.Test.YtikkibpjchmajaaPk1
import Derived.Test.YtikkibpjchmajaaPk2
namespace Go.Proofs.Ytikkibpjchmajaa
open Go.RowKit
open Go.Lib (hid)

set_option maxHeartbeats 800000 in
theorem bits_any {w : World} {A : Option Addr} {n c : Nat} {xs : List Nat} (h : Sl .u32 w A n c xs) (hl : Lim 4294967296 xs) (hn : n ≤ 1099511627776) :
    Calls Try.prog 57 #[.slice A n c] w fun e w' => e = .returned (.int .i64 (bl (nv 4294967296 xs) : Nat)) ∧ w = w' := by
  have h1 := h.short hl
  have s1 := hid (short_any h hl)
  have q1 : (nd 4294967296 (nv 4294967296 xs)).length ≤ 1099511627776 := by have := nd_length_le (b := 4294967296) (by omega) hl; have := h.len; omega
  clear h hl
  generalize nv 4294967296 xs = p at *
  have e1 : nv 4294967296 (nd 4294967296 p) = p := nv_nd (by omega) p
  have k1 := nd_lim (b := 4294967296) (by omega) p
  have k2 : ∀ m, (nd 4294967296 p).length = m + 1 → (nd 4294967296 p)[m]?.getD 0 ≠ 0 := fun m hm => nd_top (by omega) hm
  generalize nd 4294967296 p = X at h1 s1 q1 e1 k1 k2
  subst e1
  generalize hm : X.length = m at *
  rcases Nat.eq_zero_or_pos m with h0 | h0
  · subst h0
    have hX : X = [] := List.eq_nil_of_length_eq_zero hm
    subst hX
    have hb : bl (nv 4294967296 []) = 0 := rfl
    rw [hb]
    clear hb k1 k2 hm
    go_enter Try.func57, Try.ntmps57
    go_wp2_with (go_at_call 80; refine s1.out.mono ?_; rintro e w' ⟨rfl, rfl⟩)
    go_ret
    exact ⟨rfl, rfl⟩
  · obtain ⟨j, rfl⟩ : ∃ j, m = j + 1 := ⟨m - 1, by omega⟩
    obtain ⟨t1, t2⟩ := bl_top hm k1 (k2 j rfl)
    obtain ⟨b, o, rfl, g1⟩ := h1.get (i := j) (by omega)
    have b1 := lim_getD (b := 4294967296) (by omega) k1 j
    rw [t1]
    clear k1 k2 hm h0 t1
    generalize X[j]?.getD 0 = x at *
    have hL := hid (fun W => Try.bits_Len32 (x : Int) W (by omega) (by omega))
    simp only [Int.toNat_natCast] at hL
    have hne : ((j : Int) + 1 == 0) = false := beq_eq_false_iff_ne.2 (by omega)
    go_enter Try.func57, Try.ntmps57
    go_wp2_with (first
      | (go_at_call 80; refine s1.out.mono ?_; rintro e w' ⟨rfl, rfl⟩)
      | (go_at_call 81; refine (hL.out _).mono ?_; rintro e w' ⟨rfl, rfl⟩))
    go_ret
    exact ⟨ret_int (by omega), rfl⟩

set_option maxHeartbeats 800000 in
theorem small_any {w : World} {n : Nat} (hn : n < 18446744073709551616) : Calls Try.prog 62 #[.int .u64 n] w (RetO .u32 100 (nd 4294967296 n) w) := by
  go_enter Try.func62, Try.ntmps62
  go_wp2_with fail
  have hv : nv 4294967296 [n % 4294967296, n / 4294967296] = n := by simp only [nv]; omega
  have hl : Lim 4294967296 [n % 4294967296, n / 4294967296] := fun y hy => by simp at hy; omega
  have ht := trim_any (Own.lit (k := .u32) (e := 100) w [n % 4294967296, n / 4294967296] 2 rfl (by simp [maxLen])).sl hl (by omega)
  rw [hv] at ht
  rw [show ((n : Int) % 4294967296) = ((n % 4294967296 : Nat) : Int) from by omega, show ((n : Int) / 4294967296) = ((n / 4294967296 : Nat) : Int) from by omega]
  refine ht.mono ?_
  intro E w' hr
  obtain ⟨A, c, rfl, ho, hx⟩ := hr.mono ((Ext.refl w).alloc _)
  clear ht hv hl
  go_wp2_with fail
  go_ret
  exact ⟨_, _, rfl, ho, hx⟩

theorem or_zero_u64 (x : Nat) (h : x < 4294967296) : bits BinOp.or IntKind.u64 0 (x : Int) = (x : Int) := by
  have := u64_or_nat 0 x (by omega) (by omega)
  simpa using this
theorem or_hi_u64 (x y : Nat) (h : x < 4294967296) (hy : y < 4294967296) : bits BinOp.or IntKind.u64 (x : Int) ((y : Int) * 4294967296) = ((x + 4294967296 * y : Nat) : Int) := by
  have e0 : (y : Int) * 4294967296 = ((y * 4294967296 : Nat) : Int) := by omega
  have e1 : y * 4294967296 ||| x = y * 4294967296 + x := nat_join 32 _ _ (by omega) (by omega)
  rw [e0, u64_or_nat _ _ (by omega) (by omega), Nat.or_comm, e1]
  congr 1
  omega

end Go.Proofs.Ytikkibpjchmajaa

namespace Go.Proofs.Ytikkibpjchmajaa
open Go.RowKit
open Go.Lib (hid)

/-- The slice holds limbs of the number m, at most K of them. -/
def Nv (K : Nat) (w : World) (A : Option Addr) (n c m : Nat) : Prop := ∃ xs, Sl .u32 w A n c xs ∧ Lim 4294967296 xs ∧ nv 4294967296 xs = m ∧ n ≤ K
/-- The slice holds the canonical limbs of the number m, at most K of them, in memory from lo on. -/
def Cn (K : Nat) (w : World) (lo : Nat) (A : Option Addr) (n c m : Nat) : Prop := Own .u32 100 w lo A n c (nd 4294967296 m) ∧ n ≤ K

section
variable {K K' : Nat} {w w' : World} {lo lo' : Nat} {A A' : Option Addr} {n c m n' c' m' : Nat}
theorem Nv.ext (h : Nv K w A n c m) (hx : Ext w w') : Nv K w' A n c m := let ⟨xs, h1, h2⟩ := h; ⟨xs, h1.ext hx, h2⟩
theorem Cn.ext (h : Cn K w lo A n c m) (hx : Ext w w') : Cn K w' lo A n c m := ⟨h.1.ext hx, h.2⟩
theorem Cn.nv (h : Cn K w lo A n c m) : Nv K w A n c m := ⟨_, h.1.sl, nd_lim (by omega) m, nv_nd (by omega) m, h.2⟩
theorem Cn.sl (h : Cn K w lo A n c m) : Sl .u32 w A n c (nd 4294967296 m) := h.1.sl
theorem Cn.len (h : Cn K w lo A n c m) : n = (nd 4294967296 m).length := h.1.len.symm
theorem Nv.mk {xs : List Nat} (h : Sl .u32 w A n c xs) (hl : Lim 4294967296 xs) (hK : n ≤ K) : Nv K w A n c (nv 4294967296 xs) := ⟨xs, h, hl, rfl, hK⟩
theorem Nv.bound (h : Nv K w A n c m) : m < 4294967296 ^ K := by
  obtain ⟨xs, h1, h2, rfl, h3⟩ := h
  have l := nv_lt (b := 4294967296) (by omega) h2
  rw [h1.len] at l
  have := Nat.pow_le_pow_right (n := 4294967296) (by omega) h3
  omega
end

/-- A new number. -/
def RetC (K m : Nat) (w : World) : Ending → World → Prop := fun E w' => ∃ A n c, E = .returned (.slice A n c) ∧ Cn K w' w.heap.size A n c m ∧ Ext w w'
/-- A new number, and an error's. -/
def RetCE (K m : Nat) (err : Int) (w : World) : Ending → World → Prop := fun E w' => ∃ A n c, E = .returned (.tuple #[.slice A n c, .int .i64 err]) ∧ Cn K w' w.heap.size A n c m ∧ Ext w w'

theorem RetO.c {K m : Nat} {w w' : World} {E : Ending} (h : RetO .u32 100 (nd 4294967296 m) w E w') (hb : m < 4294967296 ^ K) : RetC K m w E w' := by
  obtain ⟨A, c, h1, h2, h3⟩ := h
  exact ⟨A, _, c, h1, ⟨h2, (nd_len_le (by omega)).2 hb⟩, h3⟩
theorem RetOE.c {K m : Nat} {err : Int} {w w' : World} {E : Ending} (h : RetOE .u32 100 (nd 4294967296 m) err w E w') (hb : m < 4294967296 ^ K) : RetCE K m err w E w' := by
  obtain ⟨A, c, h1, h2, h3⟩ := h
  exact ⟨A, _, c, h1, ⟨h2, (nd_len_le (by omega)).2 hb⟩, h3⟩
theorem Ext.of_eq {w w' : World} (h : w = w') : Ext w w' := by subst h; exact Ext.refl _

theorem bd_add {b m n K K' : Nat} (hb : 2 ≤ b) (h : m < b ^ K) (h' : n < b ^ K') : m + n < b ^ (K + K' + 1) := by
  have h1 : b ^ K ≤ b ^ (K + K') := Nat.pow_le_pow_right (by omega) (by omega)
  have h2 : b ^ K' ≤ b ^ (K + K') := Nat.pow_le_pow_right (by omega) (by omega)
  have h3 : b ^ (K + K') * 2 ≤ b ^ (K + K' + 1) := by rw [Nat.pow_succ]; exact Nat.mul_le_mul_left _ hb
  generalize b ^ K = x at *
  generalize b ^ K' = y at *
  generalize b ^ (K + K') = z at *
  omega
theorem bd_shl {m K v : Nat} (h : m < 4294967296 ^ K) : m * 2 ^ v < 4294967296 ^ (K + v / 32 + 1) := by
  have h1 : 2 ^ v ≤ 4294967296 ^ (v / 32 + 1) := by
    rw [show (4294967296 : Nat) = 2 ^ 32 from rfl, ← Nat.pow_mul]
    exact Nat.pow_le_pow_right (by omega) (by omega)
  rw [Nat.add_assoc, Nat.pow_add]
  exact Nat.mul_lt_mul_of_lt_of_le h h1 (Nat.pow_pos (by omega))

section
variable {K K' : Nat} {w : World} {lo lo' : Nat} {A A' : Option Addr} {n c m n' c' m' : Nat}

theorem trim_v (h : Nv K w A n c m) (hK : K ≤ 1099511627776) : Calls Try.prog 58 #[.slice A n c] w (RetC K m w) := by
  have hb := h.bound
  obtain ⟨xs, h1, h2, rfl, h3⟩ := h
  exact (trim_any h1 h2 (by omega)).mono fun E w' hr => hr.c hb
theorem add_v (h : Nv K w A n c m) (h' : Nv K' w A' n' c' m') (hK : K + K' ≤ 1099511627776) : Calls Try.prog 71 #[.slice A n c, .slice A' n' c'] w (RetC (K + K' + 1) (m + m') w) := by
  have hb := h.bound
  have hb' := h'.bound
  obtain ⟨xs, h1, h2, rfl, h3⟩ := h
  obtain ⟨ys, h1', h2', rfl, h3'⟩ := h'
  exact (add_any h1 h2 h1' h2' (by omega) (by omega)).mono fun E w' hr => hr.c (bd_add (by omega) hb hb')
theorem cmp_v (h : Nv K w A n c m) (h' : Nv K' w A' n' c' m') (hK : K + K' ≤ 1099511627776) : Calls Try.prog 82 #[.slice A n c, .slice A' n' c'] w (RetE (.int .i64 (cmpN m m')) w) := by
  obtain ⟨xs, h1, h2, rfl, h3⟩ := h
  obtain ⟨ys, h1', h2', rfl, h3'⟩ := h'
  exact cmp_any h1 h2 h1' h2' (by omega) (by omega)
/-- Cmp, its answer given. -/
theorem cmp_is {v : Int} (h : Nv K w A n c m) (h' : Nv K' w A' n' c' m') (hK : K + K' ≤ 1099511627776) (hv : cmpN m m' = v) : Calls Try.prog 82 #[.slice A n c, .slice A' n' c'] w (RetE (.int .i64 v) w) := hv ▸ cmp_v h h' hK
theorem sub_yes (h : Nv K w A n c m) (h' : Nv K' w A' n' c' m') (hK : K + K' ≤ 1099511627776) (hle : m' ≤ m) : Calls Try.prog 79 #[.slice A n c, .slice A' n' c'] w (RetCE K (m - m') 0 w) := by
  have hb := h.bound
  obtain ⟨xs, h1, h2, rfl, h3⟩ := h
  obtain ⟨ys, h1', h2', rfl, h3'⟩ := h'
  exact (sub_any h1 h2 h1' h2' (by omega) (by omega) hle).mono fun E w' hr => hr.c (by omega)
theorem sub_no (h : Nv K w A n c m) (h' : Nv K' w A' n' c' m') (hK : K + K' ≤ 1099511627776) (hlt : m < m') : Calls Try.prog 79 #[.slice A n c, .slice A' n' c'] w (RetNE 2 w) := by
  obtain ⟨xs, h1, h2, rfl, h3⟩ := h
  obtain ⟨ys, h1', h2', rfl, h3'⟩ := h'
  exact sub_less h1 h2 h1' h2' (by omega) (by omega) hlt
theorem shl_v {v : Nat} {V : Int} (hV : V = v) (h : Nv K w A n c m) (hK : K ≤ 1099511627776) (hv : v ≤ 1048576) : Calls Try.prog 83 #[.slice A n c, .int .i64 V] w (RetCE (K + v / 32 + 1) (m * 2 ^ v) 0 w) := by
  have hb := h.bound
  obtain ⟨xs, h1, h2, rfl, h3⟩ := h
  subst hV
  exact (shl_any h1 h2 (by omega) hv).mono fun E w' hr => hr.c (bd_shl hb)
theorem shr_v {v : Nat} {V : Int} (hV : V = v) (h : Nv K w A n c m) (hK : K ≤ 1099511627776) (hv : v ≤ 1048576) : Calls Try.prog 87 #[.slice A n c, .int .i64 V] w (RetCE K (m / 2 ^ v) 0 w) := by
  have hb := h.bound
  obtain ⟨xs, h1, h2, rfl, h3⟩ := h
  subst hV
  exact (shr_any h1 h2 (by omega) hv).mono fun E w' hr => hr.c (Nat.lt_of_le_of_lt (Nat.div_le_self _ _) hb)
theorem bits_v (h : Nv K w A n c m) (hK : K ≤ 1099511627776) : Calls Try.prog 57 #[.slice A n c] w fun e w' => e = .returned (.int .i64 (bl m : Nat)) ∧ w = w' := by
  obtain ⟨xs, h1, h2, rfl, h3⟩ := h
  exact bits_any h1 h2 (by omega)
theorem small_v {v : Nat} {V : Int} (hV : V = v) (hv : v < 18446744073709551616) : Calls Try.prog 62 #[.int .u64 V] w (RetC 2 v w) := by
  subst hV
  exact (small_any hv).mono fun E w' hr => hr.c (by omega)
theorem same_c (h : Cn K w lo A n c m) (h' : Cn K' w lo' A' n' c' m') (hK : K ≤ 1099511627776) (he : m = m') : Calls Try.prog 66 #[.slice A n c, .slice A' n' c'] w (RetE (.bool true) w) :=
  same_yes h.sl h'.sl (by rw [he]) (by have := h.2; omega)
theorem same_cn (h : Cn K w lo A n c m) (h' : Cn K' w lo' A' n' c' m') (hK : K + K' ≤ 1099511627776) (he : m ≠ m') : Calls Try.prog 66 #[.slice A n c, .slice A' n' c'] w (RetE (.bool false) w) :=
  same_no h.sl h'.sl (fun e => he ((nd_inj (by omega)).1 e)) (by have := h.2; omega) (by have := h'.2; omega)

theorem lit_c {xs : List Nat} {g : Nat} (h : Own .u32 100 w lo (some ⟨g, 0, none⟩) n c xs) (he : Canon 4294967296 xs) (hv : nv 4294967296 xs = m) (hK : n ≤ K) : Cn K w lo (some ⟨g, 0, none⟩) n c m := by
  rw [eq_nd (by omega) he hv] at h
  exact ⟨h, hK⟩
theorem canon1 {x : Nat} (h : x < 4294967296) (h0 : x ≠ 0) : Canon 4294967296 [x] := ⟨lim_one h, by simpa using h0⟩
theorem canon2 {x y : Nat} (h : x < 4294967296) (h' : y < 4294967296) (h0 : y ≠ 0) : Canon 4294967296 [x, y] := ⟨fun z hz => by simp at hz; omega, by simpa using h0⟩
theorem lim1 {x : Nat} (h : x < 4294967296) : Lim 4294967296 [x] := lim_one h
theorem lim2 {x y : Nat} (h : x < 4294967296) (h' : y < 4294967296) : Lim 4294967296 [x, y] := fun z hz => by simp at hz; omega
theorem val1 (x : Nat) : nv 4294967296 [x] = x := by simp [nv]
theorem val2 (x y : Nat) : nv 4294967296 [x, y] = x + 4294967296 * y := by simp [nv]
theorem lit_nv1 {x g : Nat} (h : Own .u32 100 w lo (some ⟨g, 0, none⟩) 1 c [x]) (hx : x < 4294967296) : Nv 1 w (some ⟨g, 0, none⟩) 1 c x := ⟨_, h.sl, lim1 hx, val1 x, Nat.le_refl _⟩
theorem lit_nv2 {x y g : Nat} (h : Own .u32 100 w lo (some ⟨g, 0, none⟩) 2 c [x, y]) (hx : x < 4294967296) (hy : y < 4294967296) (hm : x + 4294967296 * y = m) : Nv 2 w (some ⟨g, 0, none⟩) 2 c m := ⟨_, h.sl, lim2 hx hy, (val2 x y).trans hm, Nat.le_refl _⟩
theorem lit_cn1 {x g : Nat} (h : Own .u32 100 w lo (some ⟨g, 0, none⟩) 1 c [x]) (hx : x < 4294967296) (h0 : x ≠ 0) : Cn 1 w lo (some ⟨g, 0, none⟩) 1 c x := lit_c h (canon1 hx h0) (val1 x) (Nat.le_refl _)
theorem lit_cn2 {x y g : Nat} (h : Own .u32 100 w lo (some ⟨g, 0, none⟩) 2 c [x, y]) (hx : x < 4294967296) (hy : y < 4294967296) (h0 : y ≠ 0) (hm : x + 4294967296 * y = m) : Cn 2 w lo (some ⟨g, 0, none⟩) 2 c m := lit_c h (canon2 hx hy h0) ((val2 x y).trans hm) (Nat.le_refl _)
end
end Go.Proofs.Ytikkibpjchmajaa

namespace Go.Proofs.Ytikkibpjchmajaa
open Go.RowKit
open Go.Lib (hid)

/-- The number of a sign and a magnitude. -/
def zv (s : Bool) (m : Nat) : Int := if s then -(m : Int) else m
/-- The struct's parts hold the number z, of at most K limbs, canonical or not. -/
def Iz (K : Nat) (w : World) (s : Bool) (A : Option Addr) (n c : Nat) (z : Int) : Prop := ∃ m, Nv K w A n c m ∧ z = zv s m
/-- The struct's parts hold the number z, canonical, at most K limbs of it, in memory from lo on. -/
def Ci (K : Nat) (w : World) (lo : Nat) (b : Bool) (A : Option Addr) (n c : Nat) (z : Int) : Prop := b = decide (z < 0) ∧ Cn K w lo A n c z.natAbs
/-- A new canonical number. -/
def RetI (K : Nat) (z : Int) (w : World) : Ending → World → Prop := fun E w' => ∃ b A n c, E = .returned (.agg #[.bool b, .slice A n c]) ∧ Ci K w' w.heap.size b A n c z ∧ Ext w w'
/-- A new canonical number, and an error's. -/
def RetIE (K : Nat) (z err : Int) (w : World) : Ending → World → Prop := fun E w' => ∃ b A n c, E = .returned (.tuple #[.agg #[.bool b, .slice A n c], .int .i64 err]) ∧ Ci K w' w.heap.size b A n c z ∧ Ext w w'

theorem zv_abs (s : Bool) (m : Nat) : (zv s m).natAbs = m := by cases s <;> simp [zv]
theorem zv_neg (s : Bool) (m : Nat) : zv (!s) m = -zv s m := by cases s <;> simp [zv]
theorem zv_of (z : Int) : zv (decide (z < 0)) z.natAbs = z := by
  unfold zv
  by_cases h : z < 0
  · rw [decide_eq_true h]; simp; omega
  · rw [decide_eq_false h]; simp; omega
theorem zv_lt {s : Bool} {m : Nat} : decide (zv s m < 0) = (s && decide (0 < m)) := by
  cases s
  · simp [zv]
  · simp only [zv, if_true, Bool.true_and]
    by_cases h : 0 < m
    · rw [decide_eq_true h, decide_eq_true (by omega)]
    · rw [decide_eq_false h, decide_eq_false (by omega)]
theorem zv_same (s : Bool) (m n : Nat) : zv s m + zv s n = zv s (m + n) := by cases s <;> simp [zv] <;> omega
theorem zv_diff {s t : Bool} {m n : Nat} (h : s ≠ t) (hle : n ≤ m) : zv s m + zv t n = zv s (m - n) := by
  cases s <;> cases t <;> simp_all [zv] <;> omega
theorem zv_mul (s t : Bool) (m n : Nat) : zv s m * zv t n = zv (s != t) (m * n) := by
  cases s <;> cases t <;> simp [zv, Int.neg_mul, Int.mul_neg]

section
variable {K K' : Nat} {w w' : World} {lo : Nat} {s : Bool} {A : Option Addr} {n c m : Nat} {z : Int}
theorem Iz.mk (h : Nv K w A n c m) : Iz K w s A n c (zv s m) := ⟨m, h, rfl⟩
theorem Iz.ext (h : Iz K w s A n c z) (hx : Ext w w') : Iz K w' s A n c z := let ⟨m, h1, h2⟩ := h; ⟨m, h1.ext hx, h2⟩
theorem Iz.nv (h : Iz K w s A n c z) : Nv K w A n c z.natAbs ∧ z = zv s z.natAbs := by
  obtain ⟨m, h1, rfl⟩ := h
  rw [zv_abs]; exact ⟨h1, rfl⟩
theorem Ci.iz (h : Ci K w lo s A n c z) : Iz K w s A n c z := ⟨_, h.2.nv, by rw [h.1]; exact (zv_of z).symm⟩
theorem Ci.ext (h : Ci K w lo s A n c z) (hx : Ext w w') : Ci K w' lo s A n c z := ⟨h.1, h.2.ext hx⟩
theorem Ci.mono {lo' : Nat} (h : Ci K w lo s A n c z) (hl : lo' ≤ lo) : Ci K w lo' s A n c z := ⟨h.1, h.2.1.mono hl, h.2.2⟩
theorem Iz.bound (h : Iz K w s A n c z) : z.natAbs < 4294967296 ^ K := h.nv.1.bound
/-- The sign, as the struct has it, of a number that is not 0. -/
theorem Iz.sgn (h : Iz K w s A n c z) (h0 : z ≠ 0) : s = decide (z < 0) := by
  obtain ⟨m, _, rfl⟩ := h
  rw [zv_lt]
  have : 0 < m := by
    rcases Nat.eq_zero_or_pos m with h | h
    · subst h; cases s <;> simp [zv] at h0
    · exact h
  rw [decide_eq_true this, Bool.and_true]
end

/-- The block g is a struct of a sign and limbs. -/
def Bx (w : World) (g : Nat) (s : Bool) (A : Option Addr) (n c : Nat) : Prop := w.heap[g]? = some (.cells #[.bool s, .slice A n c] 24 (0, 0))
section
variable {w w' : World} {g : Nat} {s : Bool} {A : Option Addr} {n c : Nat}
theorem Bx.lt (h : Bx w g s A n c) : g < w.heap.size := (Array.getElem?_eq_some_iff.1 h).1
theorem Bx.ext (h : Bx w g s A n c) (hx : Ext w w') : Bx w' g s A n c := (hx.block g h.lt).trans h
theorem Bx.drew (h : Bx w g s A n c) : Bx w.drew g s A n c := h
theorem Bx.drewN (h : Bx w g s A n c) (k : Nat) : Bx (w.drewN k) g s A n c := h
theorem Bx.grown (h : Bx w g s A n c) {row : Option Nat} (hg : w.grownBy w' row) (hne : some g ≠ row) : Bx w' g s A n c := (hg.block g h.lt hne).trans h
theorem Bx.c0 (h : Bx w g s A n c) : w.cell? ⟨g, 0, none⟩ = some (.bool s) := by
  have h : w.heap[g]? = _ := h
  simp [World.cell?, h]
theorem Bx.c1 (h : Bx w g s A n c) : w.cell? ⟨g, 1, none⟩ = some (.slice A n c) := by
  have h : w.heap[g]? = _ := h
  simp [World.cell?, h]
theorem Bx.fr (h : Bx w g s A n c) (i : Nat) : w.frozen? ⟨g, i, none⟩ = false := by
  have h : w.heap[g]? = _ := h
  simp [World.frozen?, h]
theorem Bx.new (w : World) (s : Bool) (A : Option Addr) (n c : Nat) : Bx (w.alloc (.cells #[.bool s, .slice A n c] 24)) w.heap.size s A n c := heap_alloc_new _ _
end

theorem heap_set {w : World} {g i : Nat} {u : Value} {cs : Array Value} {t : TypeId} {fr : Nat × Nat} (h : w.heap[g]? = some (.cells cs t fr)) : (w.setCell ⟨g, i, none⟩ u).heap[g]? = some (.cells (cs.setIfInBounds i u) t fr) := by
  simp [World.setCell, Array.getElem?_modify, h]
theorem Bx.put {w : World} {g : Nat} {s s' : Bool} {A A' : Option Addr} {n c n' c' : Nat} (h : Bx w g s A n c) : Bx ((w.setCell ⟨g, 0, none⟩ (.bool s')).setCell ⟨g, 1, none⟩ (.slice A' n' c')) g s' A' n' c' := by
  have h1 := heap_set (i := 1) (u := .slice A' n' c') (heap_set (i := 0) (u := .bool s') h)
  exact h1
/-- A store into the struct in block g: nothing else turns. -/
theorem put_gb (w : World) (g : Nat) (u v : Value) : w.grownBy ((w.setCell ⟨g, 0, none⟩ u).setCell ⟨g, 1, none⟩ v) (some g) := gb_set (gb_set (gb_refl _ _) _) _

/-- A struct handed back from its cell. -/
theorem ret_bx {P : Program} {fn : Func} {p : Tmp} {R : Ending → World → Prop} {a : Act} {w : World} {g : Nat} {s : Bool} {A : Option Addr} {n c : Nat} {fs : Array Field} (h : fn.results = #[.cell p 24]) (hB : Bx w g s A n c)
    (hp : a.tmps.getD p undef = .pointer (some ⟨g, 0, none⟩)) (hu : P.underlying 24 = some (.struct fs)) (hi : (P.info? 24).map (·.size) = some 2) (hd : a.defers = []) (hR : R (.returned (.agg #[.bool s, .slice A n c])) w) : bodyPost P fn R .ret a w :=
  bodyPost_ret (results_cell_row h _ _ g _ _ _ _ hp hB hu rfl hi) hd hR

theorem info_int_s : (Try.prog.info? 24).map (·.size) = some 2 := by kernel_rfl
theorem ret_b {fn : Func} {p : Tmp} {R : Ending → World → Prop} {a : Act} {w : World} {g : Nat} {s : Bool} {A : Option Addr} {n c : Nat} (h : fn.results = #[.cell p 24]) (hB : Bx w g s A n c)
    (hp : a.tmps.getD p undef = .pointer (some ⟨g, 0, none⟩)) (hd : a.defers = []) (hR : R (.returned (.agg #[.bool s, .slice A n c])) w) : bodyPost Try.prog fn R .ret a w :=
  ret_bx h hB hp Try.underlying24 info_int_s hd hR
theorem Cn.put {K : Nat} {w : World} {lo g : Nat} {A : Option Addr} {n c m : Nat} {u v : Value} (h : Cn K w lo A n c m) (hg : g < lo) : Cn K ((w.setCell ⟨g, 0, none⟩ u).setCell ⟨g, 1, none⟩ v) lo A n c m :=
  have far : ∀ g', A = some ⟨g', 0, none⟩ → g' ≠ g := fun g' e => by
    rcases h.1.form with ⟨e', _⟩ | ⟨g'', e', hl, _⟩
    · rw [e'] at e; cases e
    · rw [e'] at e; injection e with e; injection e with e; omega
  ⟨(h.1.far (p := ⟨g, 0, none⟩) far _).far (p := ⟨g, 1, none⟩) far _, h.2⟩
theorem Ext.put {a b : World} (h : Ext a b) {g : Nat} (hg : a.heap.size ≤ g) (u v : Value) : Ext a ((b.setCell ⟨g, 0, none⟩ u).setCell ⟨g, 1, none⟩ v) := (h.setCell (p := ⟨g, 0, none⟩) hg u).setCell (p := ⟨g, 1, none⟩) hg v
theorem Cn.mono {K : Nat} {w : World} {lo lo' : Nat} {A : Option Addr} {n c m : Nat} (h : Cn K w lo A n c m) (hl : lo' ≤ lo) : Cn K w lo' A n c m := ⟨h.1.mono hl, h.2⟩
theorem fin_i {K : Nat} {z : Int} {w w1 : World} {g lo : Nat} {b : Bool} {A : Option Addr} {n c : Nat} (ho : Ci K w1 lo b A n c z) (hgl : g < lo) (hwg : w.heap.size ≤ g) (hx : Ext w w1) :
    RetI K z w (.returned (.agg #[.bool b, .slice A n c])) ((w1.setCell ⟨g, 0, none⟩ (.bool b)).setCell ⟨g, 1, none⟩ (.slice A n c)) :=
  ⟨_, _, _, _, rfl, ⟨ho.1, (ho.2.put hgl).mono (by omega)⟩, hx.put hwg _ _⟩
theorem size_alloc (w : World) (o : Obj) : (w.alloc o).heap.size = w.heap.size + 1 := by simp

/-- The sign of a number as a number. -/
def sg (z : Int) : Int := if z < 0 then -1 else if z = 0 then 0 else 1
theorem sg_neg {z : Int} (h : z < 0) : sg z = -1 := by unfold sg; rw [if_pos h]
theorem sg_zero : sg 0 = 0 := rfl
theorem sg_pos {z : Int} (h : 0 < z) : sg z = 1 := by unfold sg; rw [if_neg (by omega), if_neg (by omega)]
theorem sg_cases (z : Int) : sg z = -1 ∧ z < 0 ∨ sg z = 0 ∧ z = 0 ∨ sg z = 1 ∧ 0 < z := by
  rcases Int.lt_trichotomy z 0 with h | h | h
  · exact .inl ⟨sg_neg h, h⟩
  · subst h; exact .inr (.inl ⟨rfl, rfl⟩)
  · exact .inr (.inr ⟨sg_pos h, h⟩)
end Go.Proofs.Ytikkibpjchmajaa

namespace Go.Proofs.Ytikkibpjchmajaa
open Go.RowKit
open Go.Lib (hid)

theorem Nv.mk' {K : Nat} {w : World} {A : Option Addr} {n c m : Nat} {xs : List Nat} (h : Sl .u32 w A n c xs) (hl : Lim 4294967296 xs) (hK : n ≤ K) (hv : nv 4294967296 xs = m) : Nv K w A n c m := ⟨xs, h, hl, hv, hK⟩
theorem Nv.none {w : World} : Nv 0 w none 0 0 0 := ⟨[], ⟨rfl, Nat.le_refl _, by simp [maxLen], fun h => absurd h (by omega)⟩, fun x hx => by simp at hx, rfl, Nat.le_refl _⟩
theorem Cn.len0 {K : Nat} {w : World} {lo : Nat} {A : Option Addr} {n c m : Nat} (h : Cn K w lo A n c m) (h0 : m = 0) : n = 0 := by
  have := h.len; subst h0; rw [this]; rfl
theorem Cn.lenp {K : Nat} {w : World} {lo : Nat} {A : Option Addr} {n c m : Nat} (h : Cn K w lo A n c m) (h0 : m ≠ 0) : 0 < n := by
  have h1 := h.len
  have : n ≠ 0 := fun e => h0 ((nd_eq_nil (b := 4294967296) (by omega)).1 (List.eq_nil_of_length_eq_zero (h1.symm.trans e)))
  omega
theorem Cn.top {K : Nat} {w : World} {lo : Nat} {A : Option Addr} {n c m : Nat} (h : Cn K w lo A n c m) (h0 : m ≠ 0) : ∃ j g x : Nat, n = j + 1 ∧ A = some ⟨g, 0, none⟩ ∧ x ≠ 0 ∧ ∀ w', Ext w w' → w'.cell? ⟨g, j, none⟩ = some (.int .u32 (x : Int)) := by
  have hp := h.lenp h0
  obtain ⟨j, rfl⟩ : ∃ j, n = j + 1 := ⟨n - 1, by omega⟩
  rcases h.1.form with ⟨_, h1, _⟩ | ⟨g, rfl, _, _⟩
  · omega
  · refine ⟨j, g, _, rfl, rfl, ?_, fun w' hx => (h.1.ext hx).cell (i := j) (by omega)⟩
    exact nd_top (by omega) (by rw [← h.len])

end Go.Proofs.Ytikkibpjchmajaa

namespace Go.Proofs.Ytikkibpjchmajaa
open Go.RowKit

theorem sg_lim (z : Int) : sg z = -1 ∨ sg z = 0 ∨ sg z = 1 := by rcases sg_cases z with ⟨e, _⟩ | ⟨e, _⟩ | ⟨e, _⟩ <;> rw [e] <;> simp
theorem sg_times (x y : Int) : sg (x * y) = sg x * sg y := by
  rcases sg_cases x with ⟨e1, h1⟩ | ⟨e1, h1⟩ | ⟨e1, h1⟩ <;> rcases sg_cases y with ⟨e2, h2⟩ | ⟨e2, h2⟩ | ⟨e2, h2⟩ <;> rw [e1, e2]
  · exact sg_pos (Int.mul_pos_of_neg_of_neg h1 h2)
  · rw [h2, Int.mul_zero]; rfl
  · exact sg_neg (Int.mul_neg_of_neg_of_pos h1 h2)
  · rw [h1, Int.zero_mul]; rfl
  · rw [h1, Int.zero_mul]; rfl
  · rw [h1, Int.zero_mul]; rfl
  · exact sg_neg (Int.mul_neg_of_pos_of_neg h1 h2)
  · rw [h2, Int.mul_zero]; rfl
  · exact sg_pos (Int.mul_pos h1 h2)
theorem sg_power (x : Int) (n : Nat) : sg (x ^ n) = sg x ^ n := by
  induction n with
  | zero => rw [Int.pow_zero, Int.pow_zero]; rfl
  | succ n ih => rw [Int.pow_succ, Int.pow_succ, sg_times, ih]
theorem sg_power_lim (x : Int) (n : Nat) : -1 ≤ sg x ^ n ∧ sg x ^ n ≤ 1 := by
  rw [← sg_power]
  rcases sg_lim (x ^ n) with e | e | e <;> rw [e] <;> omega
theorem sg_power_wrap (x : Int) (n : Nat) : wrap64 (sg x ^ n * sg x) = sg x ^ (n + 1) := by
  rw [Int.pow_succ]
  have h1 := sg_power_lim x (n + 1)
  rw [Int.pow_succ] at h1
  unfold wrap64
  omega
end Go.Proofs.Ytikkibpjchmajaa

namespace Go.Proofs.Ytikkibpjchmajaa
open Go.RowKit

theorem sg_scale {t u : Int} (hu : 0 < u) : sg (t * u) = sg t := by rw [sg_times, sg_pos hu, Int.mul_one]
theorem sq_pos {u : Int} (hu : u ≠ 0) : 0 < u * u := by
  rcases Int.lt_trichotomy u 0 with h | h | h
  · exact Int.mul_pos_of_neg_of_neg h h
  · exact absurd h hu
  · exact Int.mul_pos h h
theorem Isf.sgn {p q N D : Int} (h : Isf p q N D) : sg p = sg (N * D) := by
  have h1 := h.cross
  have e : p * (D * D) = N * D * q := by grind
  rw [← sg_scale (t := p) (sq_pos h.1), e, sg_scale h.pos]
theorem sg_eq_scale {t t' u : Int} (hu : 0 < u) (h : t' = t * u) : sg t' = sg t := by rw [h, sg_scale hu]
end Go.Proofs.Ytikkibpjchmajaa

namespace Go.Proofs.Ytikkibpjchmajaa
open Go.RowKit

theorem sg_wrap2 (u v : Int) : IntKind.i64.wrap (sg u * sg v) = sg u * sg v := by
  rcases sg_cases u with ⟨e1, _⟩ | ⟨e1, _⟩ | ⟨e1, _⟩ <;> rcases sg_cases v with ⟨e2, _⟩ | ⟨e2, _⟩ | ⟨e2, _⟩ <;> rw [e1, e2] <;> decide
theorem sg_wneg (u : Int) : IntKind.i64.wrap (-sg u) = -sg u := by
  rcases sg_cases u with ⟨e1, _⟩ | ⟨e1, _⟩ | ⟨e1, _⟩ <;> rw [e1] <;> decide
theorem sg_minus (u : Int) : sg (-u) = -sg u := by
  rcases sg_cases u with ⟨e1, h1⟩ | ⟨e1, h1⟩ | ⟨e1, h1⟩ <;> rw [e1]
  · exact sg_pos (by omega)
  · rw [h1]; rfl
  · exact sg_neg (by omega)
end Go.Proofs.Ytikkibpjchmajaa

