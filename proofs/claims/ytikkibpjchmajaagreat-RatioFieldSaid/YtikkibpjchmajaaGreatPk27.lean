/-
  The document's rational numbers: two whole numbers, the number that they stand for.
-/
import Derived.Test.YtikkibpjchmajaaGreatPk26
import Derived.Test.YtikkibpjchmajaaGreatPk21
import Derived.Test.YtikkibpjchmajaaGreatPk14
namespace Go.Proofs.YtikkibpjchmajaaGreat
open Go.RowKit
open Go.Lib (hid)

/-- The struct's parts hold the number r, not shortened; the second is not 0. -/
def Qd (K : Nat) (w : World) (s : Bool) (A : Option Addr) (n c : Nat) (t : Bool) (B : Option Addr) (m d : Nat) (r : Rat) : Prop := ∃ N D : Int, Zd K w s A n c N ∧ Zd K w t B m d D ∧ D ≠ 0 ∧ r = (N : Rat) / (D : Rat)
/-- The struct's parts hold N and D. -/
def Qz (K : Nat) (w : World) (s : Bool) (A : Option Addr) (n c : Nat) (t : Bool) (B : Option Addr) (m d : Nat) (N D : Int) : Prop := Zd K w s A n c N ∧ Zd K w t B m d D
def RetP (K : Nat) (N D : Int) (w : World) : Ending → World → Prop := fun E w' => ∃ b A n c e B m d, E = .returned (.agg #[.bool b, .slice A n c, .bool e, .slice B m d]) ∧ Qz K w' b A n c e B m d N D ∧ Ext w w'
def RetQ (K : Nat) (r : Rat) (w : World) : Ending → World → Prop := fun E w' => ∃ b A n c e B m d, E = .returned (.agg #[.bool b, .slice A n c, .bool e, .slice B m d]) ∧ Qd K w' b A n c e B m d r ∧ Ext w w'

section
variable {K L p : Nat} {T : TypeId} {k : IntKind} {w w' : World} {b s t e : Bool} {A B C : Option Addr} {n c g m d l h' : Nat} {z N D : Int} {zs : List Nat} {cs : Array Value} {r : Rat}
theorem Sl.gbn (h : Sl k w A n c zs) (hb : Bk T w g cs) (hc : ∀ (i : Nat) (j : Int), cs[i]? ≠ some (Value.int k j)) (hg : w.grownBy w' (some g)) : Sl k w' A n c zs := by
  refine ⟨h.len, h.cap, h.max, fun hp => ?_⟩
  obtain ⟨b, o, e, hlt, hcell⟩ := h.at_ hp
  have hne : some b ≠ some g := fun e' => by
    injection e' with e'
    subst e'
    have hz : zs[0]? = some (zs[0]'(by rw [h.len]; exact hp)) := List.getElem?_eq_getElem _
    have h0 := hcell 0 _ hz
    have h1 := hb.h
    simp only [World.cell?, Nat.add_zero, h1] at h0
    exact hc o _ (by simpa using h0)
  refine ⟨b, o, e, Nat.lt_of_lt_of_le hlt hg.size, fun j z hz => ?_⟩
  rw [World.cell?_of_block (a := ⟨b, o + j, none⟩) (hg.block b hlt hne)]
  exact hcell j z hz
theorem no_int2 : ∀ (i : Nat) (j : Int), (#[Value.bool s, Value.slice B m d] : Array Value)[i]? ≠ some (Value.int k j) := fun i j h => by
  rcases i with _ | _ | i <;> simp at h
theorem no_int4 : ∀ (i : Nat) (j : Int), (#[Value.bool s, Value.slice B m d, Value.bool t, Value.slice C l p] : Array Value)[i]? ≠ some (Value.int k j) := fun i j h => by
  rcases i with _ | _ | _ | _ | i <;> simp at h
theorem Zd.gbk2 (h : Zd K w b A n c z) (hb : Bk T w g #[.bool s, .slice B m d]) (hg : w.grownBy w' (some g)) : Zd K w' b A n c z := ⟨h.1, h.2.1.gbn hb no_int2 hg, h.2.2⟩
theorem Zd.gbk4 (h : Zd K w b A n c z) (hb : Bk T w g #[.bool s, .slice B m d, .bool t, .slice C l p]) (hg : w.grownBy w' (some g)) : Zd K w' b A n c z := ⟨h.1, h.2.1.gbn hb no_int4 hg, h.2.2⟩
theorem Zd.cast {z' : Int} (h : Zd K w b A n c z) (e : z = z') : Zd K w b A n c z' := e ▸ h
end
section
variable {K L p : Nat} {T : TypeId} {w w' : World} {b s t e : Bool} {A B C G : Option Addr} {n c g m d l f q : Nat} {z N D : Int} {r : Rat}
theorem Qd.ext (h : Qd K w s A n c t B m d r) (hx : Ext w w') : Qd K w' s A n c t B m d r := let ⟨N, D, h1, h2, h3⟩ := h; ⟨N, D, h1.ext hx, h2.ext hx, h3⟩
theorem Qd.weak (h : Qd K w s A n c t B m d r) (hl : K ≤ L) : Qd L w s A n c t B m d r := let ⟨N, D, h1, h2, h3⟩ := h; ⟨N, D, h1.weak hl, h2.weak hl, h3⟩
theorem Qd.cast {r' : Rat} (h : Qd K w s A n c t B m d r) (e : r = r') : Qd K w s A n c t B m d r' := e ▸ h
theorem Qd.mk (h : Zd K w s A n c N) (h' : Zd K w t B m d D) (hD : D ≠ 0) (e : r = (N : Rat) / (D : Rat)) : Qd K w s A n c t B m d r := ⟨N, D, h, h', hD, e⟩
theorem Qz.ext (h : Qz K w s A n c t B m d N D) (hx : Ext w w') : Qz K w' s A n c t B m d N D := ⟨h.1.ext hx, h.2.ext hx⟩
theorem Qz.mk (h : Zd K w s A n c N) (h' : Zd K w t B m d D) : Qz K w s A n c t B m d N D := ⟨h, h'⟩
theorem Qz.zn (h : Qz K w s A n c t B m d N D) : Zd K w s A n c N := h.1
theorem Qz.zd (h : Qz K w s A n c t B m d N D) : Zd K w t B m d D := h.2
theorem Qz.gbk2 (h : Qz K w s A n c t B m d N D) (hb : Bk T w g #[.bool e, .slice C l p]) (hg : w.grownBy w' (some g)) : Qz K w' s A n c t B m d N D := ⟨h.1.gbk2 hb hg, h.2.gbk2 hb hg⟩
theorem Qz.gbk4 (h : Qz K w s A n c t B m d N D) (hb : Bk T w g #[.bool e, .slice C l p, .bool b, .slice G f q]) (hg : w.grownBy w' (some g)) : Qz K w' s A n c t B m d N D := ⟨h.1.gbk4 hb hg, h.2.gbk4 hb hg⟩
theorem Qz.qd (h : Qz K w s A n c t B m d N D) (hD : D ≠ 0) (e : r = (N : Rat) / (D : Rat)) : Qd K w s A n c t B m d r := ⟨N, D, h.1, h.2, hD, e⟩
theorem RetP.toQ {E : Ending} (h : RetP K N D w E w') (hD : D ≠ 0) (e : r = (N : Rat) / (D : Rat)) : RetQ K r w E w' := let ⟨b, A, n, c, e', B, m, d, h1, h2, h3⟩ := h; ⟨b, A, n, c, e', B, m, d, h1, h2.qd hD e, h3⟩
theorem Qd.gbk2 (h : Qd K w s A n c t B m d r) (hb : Bk T w g #[.bool e, .slice C l p]) (hg : w.grownBy w' (some g)) : Qd K w' s A n c t B m d r := let ⟨N, D, h1, h2, h3⟩ := h; ⟨N, D, h1.gbk2 hb hg, h2.gbk2 hb hg, h3⟩
theorem Qd.gbk4 (h : Qd K w s A n c t B m d r) (hb : Bk T w g #[.bool e, .slice C l p, .bool b, .slice G f q]) (hg : w.grownBy w' (some g)) : Qd K w' s A n c t B m d r := let ⟨N, D, h1, h2, h3⟩ := h; ⟨N, D, h1.gbk4 hb hg, h2.gbk4 hb hg, h3⟩
end
theorem info_q : (Tryz.prog.info? 35).map (·.size) = some 4 := by kernel_rfl
theorem alloc_q {o : Oper} {a : Act} {w : World} (ho : o.op = .alloc 35) : (execOp a.eval o).run Tryz.prog w = .ok (.value (.pointer (some ⟨w.heap.size, 0, none⟩))) (w.alloc (.cells #[.bool false, .slice none 0 0, .bool false, .slice none 0 0] 35)) := by
  unfold execOp
  simp only [ho]
  go_simp
theorem ret_q {w : World} {g : Nat} {s t : Bool} {A B : Option Addr} {n c m d : Nat} {fn : Func} {p : Tmp} {R : Ending → World → Prop} {a : Act} (h : fn.results = #[.cell p 35]) (hB : Bk 35 w g #[.bool s, .slice A n c, .bool t, .slice B m d])
    (hp : a.tmps.getD p undef = .pointer (some ⟨g, 0, none⟩)) (hd : a.defers = []) (hR : R (.returned (.agg #[.bool s, .slice A n c, .bool t, .slice B m d])) w) : bodyPost Tryz.prog fn R .ret a w :=
  bodyPost_ret (results_cell_row h _ _ g _ _ _ _ hp hB.h Tryz.underlying35 rfl info_q) hd hR
theorem drop_mul (x y : Int) : IntKind.i64.wrap (sg x * sg y) = sg (x * y) := by rw [sg_times]; exact sg_wrap2 x y
end Go.Proofs.YtikkibpjchmajaaGreat

