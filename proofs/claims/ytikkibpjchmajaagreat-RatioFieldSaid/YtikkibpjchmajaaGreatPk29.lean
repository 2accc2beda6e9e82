/-
  Rational numbers by their limbs: what two structs of the same limbs share; the value of limbs.
  The contract of 'own' of layer 6's statements. Printed by wip/gen/rat.py.
-/
import Derived.Test.YtikkibpjchmajaaGreatPk28
import Derived.Test.YtikkibpjchmajaaGreatPk13
namespace Go.Proofs.YtikkibpjchmajaaGreat
open Go.RowKit
open Go.Lib (hid)

/-- The number that these signs and limbs stand for. -/
def rl (s : Bool) (X : List Nat) (t : Bool) (Y : List Nat) : Rat := ((zv s (nv 4294967296 X) : Int) : Rat) / ((dn (zv t (nv 4294967296 Y)) : Int) : Rat)
/-- These signs and limbs stand for x; at most K limbs. -/
def LL (K : Nat) (s : Bool) (X : List Nat) (t : Bool) (Y : List Nat) (x : Rat) : Prop := Lim 4294967296 X ∧ Lim 4294967296 Y ∧ X.length ≤ K ∧ Y.length ≤ K ∧ rl s X t Y = x
/-- The struct's parts have these signs and limbs. -/
def Lq (w : World) (b : Bool) (A : Option Addr) (n c : Nat) (e : Bool) (B : Option Addr) (m d : Nat) (s : Bool) (X : List Nat) (t : Bool) (Y : List Nat) : Prop := b = s ∧ e = t ∧ Sl .u32 w A n c X ∧ Sl .u32 w B m d Y
def RetL (s : Bool) (X : List Nat) (t : Bool) (Y : List Nat) (w : World) : Ending → World → Prop := fun E w' => ∃ b A n c e B m d, E = .returned (.agg #[.bool b, .slice A n c, .bool e, .slice B m d]) ∧ Lq w' b A n c e B m d s X t Y ∧ Ext w w'
section
variable {K p : Nat} {T : TypeId} {w w' : World} {b e s t u v : Bool} {A B C G : Option Addr} {n c m d g l f q : Nat} {X Y : List Nat} {x : Rat}
theorem Lq.ext (h : Lq w b A n c e B m d s X t Y) (hx : Ext w w') : Lq w' b A n c e B m d s X t Y := ⟨h.1, h.2.1, h.2.2.1.ext hx, h.2.2.2.ext hx⟩
theorem Lq.gbk2 (h : Lq w b A n c e B m d s X t Y) (hb : Bk T w g #[.bool u, .slice C l p]) (hg : w.grownBy w' (some g)) : Lq w' b A n c e B m d s X t Y := ⟨h.1, h.2.1, h.2.2.1.gbn hb no_int2 hg, h.2.2.2.gbn hb no_int2 hg⟩
theorem Lq.gbk4 (h : Lq w b A n c e B m d s X t Y) (hb : Bk T w g #[.bool u, .slice C l p, .bool v, .slice G f q]) (hg : w.grownBy w' (some g)) : Lq w' b A n c e B m d s X t Y := ⟨h.1, h.2.1, h.2.2.1.gbn hb no_int4 hg, h.2.2.2.gbn hb no_int4 hg⟩
theorem Lq.rv (h : Lq w b A n c e B m d s X t Y) (hl : LL K s X t Y x) : Rv K w b A n c e B m d x := by
  obtain ⟨rfl, rfl, h1, h2⟩ := h
  obtain ⟨l1, l2, l3, l4, rfl⟩ := hl
  exact ⟨_, _, Iz.mk (Nv.mk h1 l1 (h1.len ▸ l3)), Iz.mk (Nv.mk h2 l2 (h2.len ▸ l4)), rfl⟩
theorem Lq.iz (h : Lq w b A n c e B m d s X t Y) (hl : LL K s X t Y x) : Iz K w b A n c (zv s (nv 4294967296 X)) := by
  obtain ⟨rfl, rfl, h1, h2⟩ := h
  obtain ⟨l1, l2, l3, l4, rfl⟩ := hl
  exact Iz.mk (Nv.mk h1 l1 (h1.len ▸ l3))
end
/-- Two structs of the same limbs. -/
theorem zsame_sl {w : World} {s : Bool} {A B : Option Addr} {n c m d : Nat} {xs : List Nat} (h : Sl .u32 w A n c xs) (h' : Sl .u32 w B m d xs) (hn : n ≤ 1099511627776) :
    Calls Tryz.prog 33 #[.agg #[.bool s, .slice A n c], .agg #[.bool s, .slice B m d]] w (RetE (.bool true) w) :=
  zsame_of rfl fun _ hx => same_yes (h.ext hx) (h'.ext hx) rfl hn
end Go.Proofs.YtikkibpjchmajaaGreat

namespace Go.Proofs.YtikkibpjchmajaaGreat
open Go.RowKit
open Go.Lib (hid)

set_option maxHeartbeats 6400000 in
set_option maxRecDepth 100000 in
theorem own6_v {w : World} {sx tx : Bool} {Px Qx : Option Addr} {lx kx mx dx : Nat} {X Y : List Nat} (hx : Sl .u32 w Px lx kx X) (hy : Sl .u32 w Qx mx dx Y) (hl : lx ≤ 1000000) (hm : mx ≤ 1000000) :
    Calls Tryz.prog 6 #[.agg #[.bool sx, .slice Px lx kx, .bool tx, .slice Qx mx dx]] w (RetL sx X tx Y w) := by
  have Hx := hid hx
  have Hy := hid hy
  clear hx hy
  go_enter Tryz.func6, Tryz.ntmps6
  go_upto_region 1 with fail
  have hy1 := hid (((Ext.refl w).alloc (.cells #[.bool sx, .slice Px lx kx, .bool tx, .slice Qx mx dx] 26)).alloc (.cells #[.bool false, .slice none 0 0, .bool false, .slice none 0 0] 26))
  have Bx_ := ((Bk.new w 26 #[.bool sx, .slice Px lx kx, .bool tx, .slice Qx mx dx]).ext ((Ext.refl (w.alloc (.cells #[.bool sx, .slice Px lx kx, .bool tx, .slice Qx mx dx] 26))).alloc (.cells #[.bool false, .slice none 0 0, .bool false, .slice none 0 0] 26)))
  have Bx := hid Bx_
  clear Bx_
  have Bo_ := (Bk.new (w.alloc (.cells #[.bool sx, .slice Px lx kx, .bool tx, .slice Qx mx dx] 26)) 26 #[.bool false, .slice none 0 0, .bool false, .slice none 0 0])
  rw [size_alloc] at Bo_
  have Bo := hid Bo_
  clear Bo_
  generalize ((w.alloc (.cells #[.bool sx, .slice Px lx kx, .bool tx, .slice Qx mx dx] 26)).alloc (.cells #[.bool false, .slice none 0 0, .bool false, .slice none 0 0] 26)) = w1 at *
  have X1 := hid ((Ext.refl _).trans hy1.out)
  have XE2 := hid ((Ext.refl w1).alloc (.cells #[] 74))
  have OE2 := hid (own_empty w1 .u32 74)
  have fa2 : (w1.alloc (.cells #[] 74)).cell? ⟨w.heap.size, 1, none⟩ = some (.slice Px lx kx) := (Bx.out.ext XE2.out).c 1
  go_upto_region 2 with (first
    | (at_builtin; refine wpl_own (w0 := w1) (B := some ⟨w1.heap.size, 0, none⟩) (d := 0) (A := Px) (n := lx) (c := kx) (xs := X) (k := .u32) (e := 74) (bytes := 4) (by rfl) _ _ _ (by rfl) Tryz.underlying22 info_u32 (by rfl) (by rfl) OE2.out ((Hx.out.ext X1.out).ext XE2.out) XE2.out (by omega) (by simp only [maxLen]; omega) ?_; intro A2 c2 w2 ho2 hx2; have X2 := hid (X1.out.trans hx2); have hy2 := hid hx2; have O2 := hid ho2.sl; clear ho2 hx2; clear fa2; obtain ⟨f3_0, f3_1, f3_2, f3_3, f3_4, f3_5, f3_6, f3_7⟩ : w2.cell? ⟨w.heap.size, 0, none⟩ = some (.bool sx) ∧ w2.cell? ⟨w.heap.size, 1, none⟩ = some (.slice Px lx kx) ∧ w2.cell? ⟨w.heap.size, 2, none⟩ = some (.bool tx) ∧ w2.cell? ⟨w.heap.size, 3, none⟩ = some (.slice Qx mx dx) ∧ w2.frozen? ⟨w.heap.size, 0, none⟩ = false ∧ w2.frozen? ⟨w.heap.size, 1, none⟩ = false ∧ w2.frozen? ⟨w.heap.size, 2, none⟩ = false ∧ w2.frozen? ⟨w.heap.size, 3, none⟩ = false := ⟨(Bx.out.ext hy2.out).c 0, (Bx.out.ext hy2.out).c 1, (Bx.out.ext hy2.out).c 2, (Bx.out.ext hy2.out).c 3, (Bx.out.ext hy2.out).fr 0, (Bx.out.ext hy2.out).fr 1, (Bx.out.ext hy2.out).fr 2, (Bx.out.ext hy2.out).fr 3⟩))
  clear f3_0 f3_1 f3_2 f3_3 f3_4 f3_5 f3_6 f3_7
  have HG3 := hid (show w2.grownBy (w2.setCell ⟨w.heap.size, 1, none⟩ (.slice A2 lx c2)) (some (w.heap.size)) from gb_set (gb_refl _ _) _)
  have HO3 := hid (Bx.out.ext hy2.out)
  have HP3 := hid (show Bk 26 (w2.setCell ⟨w.heap.size, 1, none⟩ (.slice A2 lx c2)) (w.heap.size) #[.bool sx, .slice A2 lx c2, .bool tx, .slice Qx mx dx] from (Bx.out.ext hy2.out).set 1 (.slice A2 lx c2))
  generalize (w2.setCell ⟨w.heap.size, 1, none⟩ (.slice A2 lx c2)) = w3 at *
  have X3 := hid (X2.out.gb HG3.out (by omega))
  have XE4 := hid ((Ext.refl w3).alloc (.cells #[] 74))
  have OE4 := hid (own_empty w3 .u32 74)
  have fa4 : (w3.alloc (.cells #[] 74)).cell? ⟨w.heap.size, 3, none⟩ = some (.slice Qx mx dx) := (HP3.out.ext XE4.out).c 3
  go_upto_region 3 with (first
    | (at_builtin; refine wpl_own (w0 := w3) (B := some ⟨w3.heap.size, 0, none⟩) (d := 0) (A := Qx) (n := mx) (c := dx) (xs := Y) (k := .u32) (e := 74) (bytes := 4) (by rfl) _ _ _ (by rfl) Tryz.underlying22 info_u32 (by rfl) (by rfl) OE4.out ((Hy.out.ext X3.out).ext XE4.out) XE4.out (by omega) (by simp only [maxLen]; omega) ?_; intro A4 c4 w4 ho4 hx4; have X4 := hid (X3.out.trans hx4); have hy4 := hid hx4; have O4 := hid ho4.sl; clear ho4 hx4; clear fa4; obtain ⟨f4_0, f4_1, f4_2, f4_3, f4_4, f4_5, f4_6, f4_7⟩ : w4.cell? ⟨w.heap.size, 0, none⟩ = some (.bool sx) ∧ w4.cell? ⟨w.heap.size, 1, none⟩ = some (.slice A2 lx c2) ∧ w4.cell? ⟨w.heap.size, 2, none⟩ = some (.bool tx) ∧ w4.cell? ⟨w.heap.size, 3, none⟩ = some (.slice Qx mx dx) ∧ w4.frozen? ⟨w.heap.size, 0, none⟩ = false ∧ w4.frozen? ⟨w.heap.size, 1, none⟩ = false ∧ w4.frozen? ⟨w.heap.size, 2, none⟩ = false ∧ w4.frozen? ⟨w.heap.size, 3, none⟩ = false := ⟨(HP3.out.ext hy4.out).c 0, (HP3.out.ext hy4.out).c 1, (HP3.out.ext hy4.out).c 2, (HP3.out.ext hy4.out).c 3, (HP3.out.ext hy4.out).fr 0, (HP3.out.ext hy4.out).fr 1, (HP3.out.ext hy4.out).fr 2, (HP3.out.ext hy4.out).fr 3⟩))
  clear f4_0 f4_1 f4_2 f4_3 f4_4 f4_5 f4_6 f4_7
  have HG5 := hid (show w4.grownBy (w4.setCell ⟨w.heap.size, 3, none⟩ (.slice A4 mx c4)) (some (w.heap.size)) from gb_set (gb_refl _ _) _)
  have HO5 := hid (HP3.out.ext hy4.out)
  have HP5 := hid (show Bk 26 (w4.setCell ⟨w.heap.size, 3, none⟩ (.slice A4 mx c4)) (w.heap.size) #[.bool sx, .slice A2 lx c2, .bool tx, .slice A4 mx c4] from (HP3.out.ext hy4.out).set 3 (.slice A4 mx c4))
  generalize (w4.setCell ⟨w.heap.size, 3, none⟩ (.slice A4 mx c4)) = w5 at *
  have X5 := hid (X4.out.gb HG5.out (by omega))
  obtain ⟨f5_0, f5_1, f5_2, f5_3, f5_4, f5_5, f5_6, f5_7, f5_8, f5_9, f5_10, f5_11⟩ : w5.cell? ⟨w.heap.size, 0, none⟩ = some (.bool sx) ∧ w5.cell? ⟨w.heap.size, 1, none⟩ = some (.slice A2 lx c2) ∧ w5.cell? ⟨w.heap.size, 2, none⟩ = some (.bool tx) ∧ w5.cell? ⟨w.heap.size, 3, none⟩ = some (.slice A4 mx c4) ∧ w5.cell? ⟨w.heap.size + 1, 0, none⟩ = some (.bool false) ∧ w5.cell? ⟨w.heap.size + 1, 1, none⟩ = some (.slice none 0 0) ∧ w5.cell? ⟨w.heap.size + 1, 2, none⟩ = some (.bool false) ∧ w5.cell? ⟨w.heap.size + 1, 3, none⟩ = some (.slice none 0 0) ∧ w5.frozen? ⟨w.heap.size + 1, 0, none⟩ = false ∧ w5.frozen? ⟨w.heap.size + 1, 1, none⟩ = false ∧ w5.frozen? ⟨w.heap.size + 1, 2, none⟩ = false ∧ w5.frozen? ⟨w.heap.size + 1, 3, none⟩ = false := ⟨HP5.out.c 0, HP5.out.c 1, HP5.out.c 2, HP5.out.c 3, ((((Bo.out.ext hy2.out).grown HG3.out (by omega)).ext hy4.out).grown HG5.out (by omega)).c 0, ((((Bo.out.ext hy2.out).grown HG3.out (by omega)).ext hy4.out).grown HG5.out (by omega)).c 1, ((((Bo.out.ext hy2.out).grown HG3.out (by omega)).ext hy4.out).grown HG5.out (by omega)).c 2, ((((Bo.out.ext hy2.out).grown HG3.out (by omega)).ext hy4.out).grown HG5.out (by omega)).c 3, ((((Bo.out.ext hy2.out).grown HG3.out (by omega)).ext hy4.out).grown HG5.out (by omega)).fr 0, ((((Bo.out.ext hy2.out).grown HG3.out (by omega)).ext hy4.out).grown HG5.out (by omega)).fr 1, ((((Bo.out.ext hy2.out).grown HG3.out (by omega)).ext hy4.out).grown HG5.out (by omega)).fr 2, ((((Bo.out.ext hy2.out).grown HG3.out (by omega)).ext hy4.out).grown HG5.out (by omega)).fr 3⟩
  go_wp2_with fail
  clear f5_0 f5_1 f5_2 f5_3 f5_4 f5_5 f5_6 f5_7 f5_8 f5_9 f5_10 f5_11
  have HG6 := hid (show w5.grownBy ((((w5.setCell ⟨w.heap.size + 1, 0, none⟩ (.bool sx)).setCell ⟨w.heap.size + 1, 1, none⟩ (.slice A2 lx c2)).setCell ⟨w.heap.size + 1, 2, none⟩ (.bool tx)).setCell ⟨w.heap.size + 1, 3, none⟩ (.slice A4 mx c4)) (some (w.heap.size + 1)) from gb4 w5 (w.heap.size + 1) (.bool sx) (.slice A2 lx c2) (.bool tx) (.slice A4 mx c4))
  have HO6 := hid ((((Bo.out.ext hy2.out).grown HG3.out (by omega)).ext hy4.out).grown HG5.out (by omega))
  have HP6 := hid (show Bk 26 ((((w5.setCell ⟨w.heap.size + 1, 0, none⟩ (.bool sx)).setCell ⟨w.heap.size + 1, 1, none⟩ (.slice A2 lx c2)).setCell ⟨w.heap.size + 1, 2, none⟩ (.bool tx)).setCell ⟨w.heap.size + 1, 3, none⟩ (.slice A4 mx c4)) (w.heap.size + 1) #[.bool sx, .slice A2 lx c2, .bool tx, .slice A4 mx c4] from ((((Bo.out.ext hy2.out).grown HG3.out (by omega)).ext hy4.out).grown HG5.out (by omega)).put4 (.bool sx) (.slice A2 lx c2) (.bool tx) (.slice A4 mx c4))
  generalize ((((w5.setCell ⟨w.heap.size + 1, 0, none⟩ (.bool sx)).setCell ⟨w.heap.size + 1, 1, none⟩ (.slice A2 lx c2)).setCell ⟨w.heap.size + 1, 2, none⟩ (.bool tx)).setCell ⟨w.heap.size + 1, 3, none⟩ (.slice A4 mx c4)) = w6 at *
  have X6 := hid (X5.out.gb HG6.out (by omega))
  refine ret_r rfl HP6.out rfl rfl ⟨_, _, _, _, _, _, _, _, rfl, ⟨rfl, rfl, ((((O2.out.gbn HO3.out no_int4 HG3.out).ext hy4.out).gbn HO5.out no_int4 HG5.out).gbn HO6.out no_int4 HG6.out), ((O4.out.gbn HO5.out no_int4 HG5.out).gbn HO6.out no_int4 HG6.out)⟩, X6.out⟩


end Go.Proofs.YtikkibpjchmajaaGreat

