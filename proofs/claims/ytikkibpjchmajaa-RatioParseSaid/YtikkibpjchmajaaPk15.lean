/-
  The contract of layer 4's Gcd.
  The contract of layer 4's Pow.
  The contract of layer 4's statements' own 'great': one of the numbers has more limbs than are looked at.
  The contract of 'known' of layer 4. Printed by wip/gen/law4.py.
-/
import Derived.Test.YtikkibpjchmajaaPk14
import Derived.Deep.LoopGhost
namespace Go.Proofs.Ytikkibpjchmajaa
open Go.RowKit
open Go.Lib (hid)

theorem Nv.weak {K L : Nat} {w : World} {A : Option Addr} {n c m : Nat} (h : Nv K w A n c m) (hl : K ≤ L) : Nv L w A n c m := let ⟨xs, h1, h2, h3, h4⟩ := h; ⟨xs, h1, h2, h3, Nat.le_trans h4 hl⟩
theorem Cn.weak {K L : Nat} {w : World} {lo : Nat} {A : Option Addr} {n c m : Nat} (h : Cn K w lo A n c m) (hl : K ≤ L) : Cn L w lo A n c m := ⟨h.1, Nat.le_trans h.2 hl⟩
theorem Ci.weak {K L : Nat} {w : World} {lo : Nat} {b : Bool} {A : Option Addr} {n c : Nat} {z : Int} (h : Ci K w lo b A n c z) (hl : K ≤ L) : Ci L w lo b A n c z := ⟨h.1, h.2.weak hl⟩

set_option maxHeartbeats 3200000 in
theorem wgcd_v {w : World} {s t : Bool} {A B : Option Addr} {n c m d K K' : Nat} {x y : Int} (h : Iz K w s A n c x) (h' : Iz K' w t B m d y) (hK : K + K' ≤ 500000000) :
    Calls Try.prog 31 #[.agg #[.bool s, .slice A n c], .agg #[.bool t, .slice B m d]] w (RetI (K + K') ((Nat.gcd x.natAbs y.natAbs : Nat) : Int) w) := by
  have T := hid (Tri.mk' w s A n c t B m d)
  have H := hid h.nv.1
  have H' := hid h'.nv.1
  clear h h'
  generalize x.natAbs = p at *
  generalize y.natAbs = q at *
  go_enter Try.func31, Try.ntmps31
  go_wp2_with fail
  generalize (((w.alloc (.cells #[.bool s, .slice A n c] 24)).alloc (.cells #[.bool t, .slice B m d] 24)).alloc (.cells #[.bool false, .slice none 0 0] 24)) = wA at *
  have t1 := hid (fun W (X : Ext wA W) => trim_v (H.out.ext (T.out.x.trans X)) (by omega))
  have t2 := hid (fun W (X : Ext wA W) => trim_v (H'.out.ext (T.out.x.trans X)) (by omega))
  have hk0 := T.out.cs (Ext.refl wA)
  have hkd := T.out.cs ((Ext.refl wA).drew)
  go_region_held3 (fun w' => w'.cell? ⟨w.heap.size, 0, none⟩ = some (.bool s) ∧ w'.cell? ⟨w.heap.size, 1, none⟩ = some (.slice A n c) ∧ w'.cell? ⟨w.heap.size + 1, 0, none⟩ = some (.bool t) ∧ w'.cell? ⟨w.heap.size + 1, 1, none⟩ = some (.slice B m d))
    (first | (with_reducible exact hk0) | (with_reducible exact hkd) | (with_reducible exact hk1) | (with_reducible exact hk2))
    (first
      | ((go_at_call 58); (with_reducible refine (t1.out _ (Ext.refl _).drew).mono ?_); rintro e w1 ⟨A1, n1, c1, rfl, o1, x1⟩; have hk1 := T.out.cs ((Ext.refl _).drew.trans x1); have O1 := hid o1; have X1 := hid ((Ext.refl wA).drew.trans x1); clear o1 x1 t1)
      | ((go_at_call 58); (with_reducible refine (t2.out _ X1.out).mono ?_); rintro e w2 ⟨A2, n2, c2, rfl, o2, x2⟩; have hk2 := T.out.cs (X1.out.trans x2); have O2 := hid (o2.mono (Nat.zero_le _)); have O3 := hid (O1.out.nv.ext x2); have X2 := hid (X1.out.trans x2); clear o2 x2 t2))
  clear hk0 hkd hk1 hk2
  obtain ⟨G, hG⟩ : ∃ G, Nat.gcd p q = G := ⟨_, rfl⟩
  have HG := hid hG
  have HGG := hid hG
  clear hG
  go_wp2_with fail
  go_loopg [5, 6] q (fun k sa sb wr => ∃ (A : Option Addr) (n c p : Nat) (B : Option Addr) (m d q : Nat), sa = .slice A n c ∧ sb = .slice B m d ∧ q ≤ k ∧ Nv (K + K') wr A n c p ∧ Cn (K + K') wr 0 B m d q ∧ Nat.gcd p q = G ∧ Ext wA wr)
  case atStart => exact ⟨_, _, _, _, _, _, _, _, rfl, rfl, Nat.le_refl _, O3.out.weak (by omega), O2.out.weak (by omega), HG.out, X2.out⟩
  case round =>
    clear O1 O2 O3 X1 X2 HG
    obtain ⟨A1, n1, c1, p1, B1, m1, d1, q1, rfl, rfl, hq, ha, hb, hg, hx⟩ := hrel
    have HA := hid ha
    have HB := hid hb
    have HG := hid hg
    have HX := hid hx
    by_cases h0 : q1 = 0
    · have hm : m1 = 0 := by rw [hb.len, h0]; rfl
      rw [h0, Nat.gcd_zero_right] at hg
      subst hm
      have HP := hid hg
      clear ha hb hg hx HB HG h0
      go_wp2_with fail
      refine (made_any (s := false) HA.out (by omega)).mono ?_
      rintro E w3 ⟨b3, A3, n3, c3, rfl, o3, x3⟩
      have X3 := hid (HX.out.trans x3)
      have O3 := hid o3
      obtain ⟨hr0, hr1, hr2, hr3⟩ := T.out.cr X3.out
      clear o3 x3
      have e : zv false G = ((Nat.gcd p q : Nat) : Int) := by rw [HGG.out]; simp [zv]
      rw [HP.out, e] at O3
      clear e
      go_wp2_with fail
      refine ret_b rfl (T.out.put X3.out) rfl rfl (T.out.fin X3.out O3.out HX.out.size)
    · have hmp := (cn_lenp hb (by omega)).1
      have dm := hid (divmod_v ha hb.nv (by omega) (show 0 < q1 by omega))
      have hml := hid (Nat.mod_lt p1 (show 0 < q1 by omega))
      clear ha hb hg hx
      go_wp2_with fail
      refine dm.out.mono ?_
      rintro E w3 ⟨A3, n3, c3, B3, m3, d3, rfl, o3, p3, x3⟩
      have P3 := hid (p3.mono (Nat.zero_le _))
      have X3 := hid x3
      clear dm o3 p3 x3
      go_wp2_with fail
      go_roundg (p1 % q1)
      case measure => have := hml.out; omega
      case rel => exact ⟨_, _, _, _, _, _, _, _, rfl, rfl, Nat.le_refl _, HB.out.nv.ext X3.out, P3.out, by rw [← HG.out, Nat.gcd_comm p1 q1, Nat.gcd_rec q1 p1, Nat.gcd_comm], HX.out.trans X3.out⟩
end Go.Proofs.Ytikkibpjchmajaa

namespace Go.Proofs.Ytikkibpjchmajaa
open Go.RowKit
open Go.Lib (hid)

/-- The limbs lie in another block. -/
def OffB (A : Option Addr) (n g : Nat) : Prop := ∀ b o, A = some ⟨b, o, none⟩ → 0 < n → b ≠ g
theorem Nv.grown {K : Nat} {w w' : World} {A : Option Addr} {n c m g : Nat} (h : Nv K w A n c m) (hg : w.grownBy w' (some g)) (ho : OffB A n g) : Nv K w' A n c m := by
  obtain ⟨xs, h1, h2⟩ := h
  refine ⟨xs, ⟨h1.len, h1.cap, h1.max, fun hp => ?_⟩, h2⟩
  obtain ⟨b, o, e, hlt, hc⟩ := h1.at_ hp
  have hne := ho b o e hp
  refine ⟨b, o, e, Nat.lt_of_lt_of_le hlt hg.size, fun j z hz => ?_⟩
  rw [World.cell?_of_block (a := ⟨b, o + j, Option.none⟩) (hg.block b hlt (fun e => hne (by injection e)))]
  exact hc j z hz
theorem Iz.grown {K : Nat} {w w' : World} {s : Bool} {A : Option Addr} {n c g : Nat} {z : Int} (h : Iz K w s A n c z) (hg : w.grownBy w' (some g)) (ho : OffB A n g) : Iz K w' s A n c z := let ⟨m, h1, h2⟩ := h; ⟨m, h1.grown hg ho, h2⟩
theorem Cn.off {K : Nat} {w : World} {lo : Nat} {A : Option Addr} {n c m g : Nat} (h : Cn K w lo A n c m) (hg : g < lo) : OffB A n g := fun b o e hp => by
  rcases h.1.form with ⟨e', _, _⟩ | ⟨g', e', hl, _⟩
  · rw [e'] at e; cases e
  · rw [e'] at e; injection e with e; injection e with e; omega
theorem Nv.off {K : Nat} {w : World} {A : Option Addr} {n c m g : Nat} (h : Nv K w A n c m) (hg : w.heap.size ≤ g) : OffB A n g := fun b o e hp => by
  obtain ⟨xs, h1, _⟩ := h
  obtain ⟨b', o', e', hlt, _⟩ := h1.at_ hp
  rw [e] at e'; injection e' with e'; injection e' with e'; omega

def RetSq (g K : Nat) (z : Int) (w : World) : Ending → World → Prop := fun E w' => E = .returned (.tuple #[]) ∧ ∃ (w1 : World) (s : Bool) (A : Option Addr) (n c : Nat), Ext w w1 ∧ Ci K w1 w.heap.size s A n c z ∧ w' = (w1.setCell ⟨g, 0, none⟩ (.bool s)).setCell ⟨g, 1, none⟩ (.slice A n c)

theorem pow_sq (X : Int) (h : Nat) : X ^ (2 * h) = (X * X) ^ h := by
  rw [Int.pow_mul, show X ^ 2 = X * X from by rw [Int.pow_succ, Int.pow_succ, Int.pow_zero, Int.one_mul]]
theorem and_one {n : Nat} (h : n < 9223372036854775808) : bits BinOp.and IntKind.i64 (n : Int) 1 = ((n % 2 : Nat) : Int) := by
  have h1 : (BitVec.ofInt 64 1).toNat = 2 ^ 1 - 1 := by decide
  have key : (BitVec.ofInt 64 (n : Int) &&& BitVec.ofInt 64 1).toNat = ((n : Int) % ((2 ^ 64 : Nat) : Int)).toNat % 2 ^ 1 := by
    rw [BitVec.toNat_and, BitVec.toNat_ofInt, h1, Nat.and_two_pow_sub_one_eq_mod]
  show IntKind.i64.wrap ((BitVec.ofInt 64 (n : Int) &&& BitVec.ofInt 64 1).toNat : Nat) = _
  rw [key, IntKind.wrap_i64]
  omega

end Go.Proofs.Ytikkibpjchmajaa

namespace Go.Proofs.Ytikkibpjchmajaa
open Go.RowKit
open Go.Lib (hid)

/-- A row of k structs in block g. -/
def Row (w : World) (g k : Nat) (S : Nat → Bool) (A : Nat → Option Addr) (N C : Nat → Nat) : Prop := g < w.heap.size ∧ ∀ i, i < k → w.cell? ⟨g, i * 2, none⟩ = some (.bool (S i)) ∧ w.cell? ⟨g, i * 2 + 1, none⟩ = some (.slice (A i) (N i) (C i))
theorem Row.ext {w w' : World} {g k : Nat} {S : Nat → Bool} {A : Nat → Option Addr} {N C : Nat → Nat} (h : Row w g k S A N C) (hx : Ext w w') : Row w' g k S A N C :=
  ⟨Nat.lt_of_lt_of_le h.1 hx.size, fun i hi => ⟨(Below.cell hx (p := ⟨g, i * 2, none⟩) h.1).trans (h.2 i hi).1, (Below.cell hx (p := ⟨g, i * 2 + 1, none⟩) h.1).trans (h.2 i hi).2⟩⟩

section
variable {P : Program} {ops : Array Oper} {rest : List Oper} {o : Oper} {a : Act} {Q : Exit → Act → World → Prop} {w : World}
theorem range4 : Array.range 2 = #[0, 1] := by decide +kernel
theorem range4' : Array.range 3 = #[0, 1, 2] := by decide +kernel
theorem cells_of {W : World} {g : Nat} {cs : Array Value} {t : TypeId} {fr : Nat × Nat} (h : W.heap[g]? = some (.cells cs t fr)) (i : Nat) : W.cell? ⟨g, i, none⟩ = cs[i]? := by simp [World.cell?, h]
/-- A literal of two structs, of three. -/
def Row2 (w : World) (g : Nat) (s1 : Bool) (A1 : Option Addr) (n1 c1 : Nat) (s2 : Bool) (A2 : Option Addr) (n2 c2 : Nat) : Prop := Row w g 2 (fun i => if i = 0 then s1 else s2) (fun i => if i = 0 then A1 else A2) (fun i => if i = 0 then n1 else n2) (fun i => if i = 0 then c1 else c2)
def Row3 (w : World) (g : Nat) (s1 : Bool) (A1 : Option Addr) (n1 c1 : Nat) (s2 : Bool) (A2 : Option Addr) (n2 c2 : Nat) (s3 : Bool) (A3 : Option Addr) (n3 c3 : Nat) : Prop :=
  Row w g 3 (fun i => if i = 0 then s1 else if i = 1 then s2 else s3) (fun i => if i = 0 then A1 else if i = 1 then A2 else A3) (fun i => if i = 0 then n1 else if i = 1 then n2 else n3) (fun i => if i = 0 then c1 else if i = 1 then c2 else c3)
theorem row2_new (w : World) (s1 : Bool) (A1 : Option Addr) (n1 c1 : Nat) (s2 : Bool) (A2 : Option Addr) (n2 c2 : Nat) : Row2 (w.alloc (.cells #[.bool s1, .slice A1 n1 c1, .bool s2, .slice A2 n2 c2] 24)) w.heap.size s1 A1 n1 c1 s2 A2 n2 c2 := by
  refine ⟨by rw [size_alloc]; omega, fun i hi => ?_⟩
  have h := heap_alloc_new w (.cells #[.bool s1, .slice A1 n1 c1, .bool s2, .slice A2 n2 c2] 24)
  rcases (show i = 0 ∨ i = 1 by omega) with rfl | rfl <;> exact ⟨(cells_of h _).trans rfl, (cells_of h _).trans rfl⟩
theorem row3_new (w : World) (s1 : Bool) (A1 : Option Addr) (n1 c1 : Nat) (s2 : Bool) (A2 : Option Addr) (n2 c2 : Nat) (s3 : Bool) (A3 : Option Addr) (n3 c3 : Nat) : Row3 (w.alloc (.cells #[.bool s1, .slice A1 n1 c1, .bool s2, .slice A2 n2 c2, .bool s3, .slice A3 n3 c3] 24)) w.heap.size s1 A1 n1 c1 s2 A2 n2 c2 s3 A3 n3 c3 := by
  refine ⟨by rw [size_alloc]; omega, fun i hi => ?_⟩
  have h := heap_alloc_new w (.cells #[.bool s1, .slice A1 n1 c1, .bool s2, .slice A2 n2 c2, .bool s3, .slice A3 n3 c3] 24)
  rcases (show i = 0 ∨ i = 1 ∨ i = 2 by omega) with rfl | rfl | rfl <;> exact ⟨(cells_of h _).trans rfl, (cells_of h _).trans rfl⟩
theorem Iz.zero : Iz 0 w false none 0 0 0 := ⟨0, Nv.none, rfl⟩
end
end Go.Proofs.Ytikkibpjchmajaa

namespace Go.Proofs.Ytikkibpjchmajaa
open Go.RowKit
open Go.Lib (hid)

theorem sign_is {w : World} {s : Bool} {A : Option Addr} {n c K : Nat} {z v : Int} (h : Iz K w s A n c z) (hK : K ≤ 1099511627776) (hv : sg z = v) :
    Calls Try.prog 30 #[.agg #[.bool s, .slice A n c]] w (RetE (.int .i64 v) w) := hv ▸ sign_v h hK
theorem wcmp_is {w : World} {s t : Bool} {A B : Option Addr} {n c m d K K' : Nat} {x y v : Int} (h : Iz K w s A n c x) (h' : Iz K' w t B m d y) (hK : K + K' ≤ 1000000000) (hv : sg (x - y) = v) :
    Calls Try.prog 51 #[.agg #[.bool s, .slice A n c], .agg #[.bool t, .slice B m d]] w (RetE (.int .i64 v) w) := hv ▸ wcmp_v h h' hK
end Go.Proofs.Ytikkibpjchmajaa

