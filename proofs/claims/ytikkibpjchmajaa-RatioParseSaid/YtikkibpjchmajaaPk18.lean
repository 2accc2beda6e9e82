/-
  Rational numbers: a struct of two whole numbers (four cells) and the number that it stands for; blocks of any struct type.
  Regions that draw their order: steps of layer 6: a load as a step, a call through a variable, variables of any struct type.
  Texts of rational numbers: bytes. No program in sight.
  The contract of layer 6's statements' own 'great': one of the numbers has more limbs than are looked at. Printed by wip/gen/great6.py.
-/
import Derived.Test.YtikkibpjchmajaaPk15
import Derived.Test.YtikkibpjchmajaaPk17
import Derived.Test.YtikkibpjchmajaaPk8
import Derived.Test.YtikkibpjchmajaaPk2
namespace Go.Proofs.Ytikkibpjchmajaa
open Go.RowKit
open Go.Lib (hid)

/-- The reduced parts of a quotient are those of the rational number. -/
theorem rat_parts {N D : Int} (hD : D ≠ 0) : ((N : Rat) / (D : Rat)).num = fn N D ∧ ((((N : Rat) / (D : Rat)).den : Nat) : Int) = fd N D := by
  have hd : (((((N : Rat) / (D : Rat)).den : Nat) : Int)) ≠ 0 := by have := ((N : Rat) / (D : Rat)).den_nz; omega
  have e : Rat.divInt ((N : Rat) / (D : Rat)).num (((N : Rat) / (D : Rat)).den : Nat) = Rat.divInt N D := by rw [Rat.num_divInt_den, Rat.divInt_eq_div]
  have h := (Rat.divInt_eq_divInt_iff hd hD).1 e
  have h1 : Nat.gcd ((N : Rat) / (D : Rat)).num.natAbs (((((N : Rat) / (D : Rat)).den : Nat) : Int)).natAbs = 1 := by rw [Int.natAbs_natCast]; exact ((N : Rat) / (D : Rat)).reduced
  have := f_unique (n := N) (d := D) hD (by omega) h1 h.symm
  exact ⟨this.1.symm, this.2.symm⟩
theorem rat_self (r : Rat) : ((r.num : Rat) / (((r.den : Nat) : Int) : Rat)) = r := by rw [← Rat.divInt_eq_div, Rat.num_divInt_den]
theorem den_ne (r : Rat) : ((r.den : Nat) : Int) ≠ 0 := by have := r.den_nz; omega
theorem den_pos (r : Rat) : 0 < ((r.den : Nat) : Int) := by have := r.den_nz; omega
theorem cast_ne {D : Int} (h : D ≠ 0) : ((D : Int) : Rat) ≠ 0 := by simpa using h

/-- The sign of a rational number. -/
def rs (r : Rat) : Int := sg r.num
theorem rs_zero {r : Rat} : rs r = 0 ↔ r = 0 := by
  unfold rs
  rw [← Rat.num_eq_zero]
  rcases sg_cases r.num with ⟨e, h⟩ | ⟨e, h⟩ | ⟨e, h⟩ <;> rw [e] <;> omega
theorem rs_eq {N D : Int} (hD : D ≠ 0) : rs ((N : Rat) / (D : Rat)) = sg (N * D) := by
  unfold rs
  rw [(rat_parts hD).1]
  exact (Isf.mk' hD).sgn
theorem rs_int (N : Int) : rs (N : Rat) = sg N := by unfold rs; rw [Rat.num_intCast]
theorem rs_mul (x y : Rat) : rs (x * y) = rs x * rs y := by
  have h : x * y = ((x.num * y.num : Int) : Rat) / (((x.den : Int) * (y.den : Int) : Int) : Rat) := by
    have h1 := rat_self x
    have h2 := rat_self y
    have h3 := cast_ne (den_ne x)
    have h4 := cast_ne (den_ne y)
    rw [Rat.intCast_mul, Rat.intCast_mul]
    grind
  rw [h, rs_eq (Int.mul_ne_zero (den_ne x) (den_ne y))]
  unfold rs
  rw [sg_times, sg_times, sg_times, sg_pos (den_pos x), sg_pos (den_pos y), Int.mul_one, Int.mul_one]
theorem rs_pos {r : Rat} : rs r = 1 ↔ 0 < r := by
  unfold rs
  have h0 : 0 < r ↔ 0 < r.num := by
    rw [Rat.lt_iff]
    show (0 : Int) * _ < r.num * ((1 : Nat) : Int) ↔ _
    simp
  rw [h0]
  rcases sg_cases r.num with ⟨e, h⟩ | ⟨e, h⟩ | ⟨e, h⟩ <;> rw [e] <;> simp <;> omega
theorem rs_neg (r : Rat) : rs (-r) = -rs r := by
  have h : -r = ((-1 : Int) : Rat) * r := by rw [Rat.intCast_neg]; grind
  rw [h, rs_mul, rs_int]
  show -1 * rs r = -rs r
  omega
theorem rs_lt {r : Rat} : rs r = -1 ↔ r < 0 := by
  have h1 := rs_neg r
  have h2 := rs_pos (r := -r)
  constructor
  · intro h
    have := h2.1 (by omega)
    grind
  · intro h
    have := h2.2 (by grind)
    omega
theorem rs_lim (r : Rat) : rs r = -1 ∨ rs r = 0 ∨ rs r = 1 := sg_lim r.num

/-- A divisor of 0 is taken for 1. -/
def dn (D : Int) : Int := if D = 0 then 1 else D
theorem dn_ne (D : Int) : dn D ≠ 0 := by unfold dn; split <;> omega
theorem dn_of {D : Int} (h : D ≠ 0) : dn D = D := by unfold dn; rw [if_neg h]

/-- The struct's parts hold the number r, canonical or not, each at most K limbs. -/
def Rv (K : Nat) (w : World) (s : Bool) (A : Option Addr) (n c : Nat) (t : Bool) (B : Option Addr) (m d : Nat) (r : Rat) : Prop := ∃ N D : Int, Iz K w s A n c N ∧ Iz K w t B m d D ∧ r = (N : Rat) / (dn D : Rat)
/-- The struct's parts hold the number r, canonical, in memory from lo on. -/
def Rc (K : Nat) (w : World) (lo : Nat) (s : Bool) (A : Option Addr) (n c : Nat) (t : Bool) (B : Option Addr) (m d : Nat) (r : Rat) : Prop := Ci K w lo s A n c r.num ∧ Ci K w lo t B m d (r.den : Int)
/-- A new canonical number. -/
def RetR (K : Nat) (r : Rat) (w : World) : Ending → World → Prop := fun E w' => ∃ b A n c e B m d, E = .returned (.agg #[.bool b, .slice A n c, .bool e, .slice B m d]) ∧ Rc K w' w.heap.size b A n c e B m d r ∧ Ext w w'
def RetRE (K : Nat) (r : Rat) (err : Int) (w : World) : Ending → World → Prop := fun E w' => ∃ b A n c e B m d, E = .returned (.tuple #[.agg #[.bool b, .slice A n c, .bool e, .slice B m d], .int .i64 err]) ∧ Rc K w' w.heap.size b A n c e B m d r ∧ Ext w w'
/-- Nothing, and an error. -/
def RetRN (err : Int) (w : World) : Ending → World → Prop := RetE (.tuple #[.agg #[.bool false, .slice none 0 0, .bool false, .slice none 0 0], .int .i64 err]) w
section
variable {K L : Nat} {w w' : World} {lo : Nat} {s t : Bool} {A B : Option Addr} {n c m d : Nat} {r : Rat}
theorem Rv.ext (h : Rv K w s A n c t B m d r) (hx : Ext w w') : Rv K w' s A n c t B m d r := let ⟨N, D, h1, h2, h3⟩ := h; ⟨N, D, h1.ext hx, h2.ext hx, h3⟩
theorem Rc.ext (h : Rc K w lo s A n c t B m d r) (hx : Ext w w') : Rc K w' lo s A n c t B m d r := ⟨h.1.ext hx, h.2.ext hx⟩
theorem Rc.mono {lo' : Nat} (h : Rc K w lo s A n c t B m d r) (hl : lo' ≤ lo) : Rc K w lo' s A n c t B m d r := ⟨h.1.mono hl, h.2.mono hl⟩
theorem Rc.weak (h : Rc K w lo s A n c t B m d r) (hl : K ≤ L) : Rc L w lo s A n c t B m d r := ⟨h.1.weak hl, h.2.weak hl⟩
theorem Rc.rv (h : Rc K w lo s A n c t B m d r) : Rv K w s A n c t B m d r := ⟨_, _, h.1.iz, h.2.iz, by rw [dn_of (den_ne r)]; exact (rat_self r).symm⟩
theorem Rc.nu (h : Rc K w lo s A n c t B m d r) : Ci K w lo s A n c r.num := h.1
theorem Rc.de (h : Rc K w lo s A n c t B m d r) : Ci K w lo t B m d (r.den : Int) := h.2
theorem Rc.cast {r' : Rat} (h : Rc K w lo s A n c t B m d r) (e : r = r') : Rc K w lo s A n c t B m d r' := e ▸ h
theorem RetR.cast {r' : Rat} {E : Ending} (h : RetR K r w E w') (e : r = r') : RetR K r' w E w' := e ▸ h
end

/-- The block g is a struct of type T with these cells. -/
def Bk (T : TypeId) (w : World) (g : Nat) (cs : Array Value) : Prop := w.heap[g]? = some (.cells cs T (0, 0))
section
variable {w w' : World} {g g' : Nat} {T : TypeId} {cs : Array Value} {u1 u2 u3 u4 : Value}
theorem Bk.h (h : Bk T w g cs) : w.heap[g]? = some (.cells cs T (0, 0)) := h
theorem Bk.lt (h : Bk T w g cs) : g < w.heap.size := (Array.getElem?_eq_some_iff.1 h.h).1
theorem Bk.ext (h : Bk T w g cs) (hx : Ext w w') : Bk T w' g cs := (hx.block g h.lt).trans h
theorem Bk.grown (h : Bk T w g cs) (hg : w.grownBy w' (some g')) (hne : g ≠ g') : Bk T w' g cs := (hg.block g h.lt (by simpa using hne)).trans h
theorem Bk.c (h : Bk T w g cs) (i : Nat) : w.cell? ⟨g, i, none⟩ = cs[i]? := by
  have h := h.h
  simp [World.cell?, h]
theorem Bk.fr (h : Bk T w g cs) (i : Nat) : w.frozen? ⟨g, i, none⟩ = false := by
  have h := h.h
  simp [World.frozen?, h]
theorem Bk.new (w : World) (T : TypeId) (cs : Array Value) : Bk T (w.alloc (.cells cs T)) w.heap.size cs := heap_alloc_new _ _
theorem Bk.set (h : Bk T w g cs) (i : Nat) (u : Value) : Bk T (w.setCell ⟨g, i, none⟩ u) g (cs.setIfInBounds i u) := heap_set (i := i) (u := u) h.h
/-- Stores of a whole struct of two cells, of four, of the second half of four. -/
def put2 (w : World) (g : Nat) (a b : Value) : World := (w.setCell ⟨g, 0, none⟩ a).setCell ⟨g, 1, none⟩ b
def put4 (w : World) (g : Nat) (a b c d : Value) : World := (((w.setCell ⟨g, 0, none⟩ a).setCell ⟨g, 1, none⟩ b).setCell ⟨g, 2, none⟩ c).setCell ⟨g, 3, none⟩ d
def putD (w : World) (g : Nat) (c d : Value) : World := (w.setCell ⟨g, 2, none⟩ c).setCell ⟨g, 3, none⟩ d
theorem Bk.put2 (h : Bk T w g #[u1, u2]) (a' b' : Value) : Bk T (put2 w g a' b') g #[a', b'] := (h.set 0 a').set 1 b'
theorem Bk.put4 (h : Bk T w g #[u1, u2, u3, u4]) (a' b' c' d' : Value) : Bk T (put4 w g a' b' c' d') g #[a', b', c', d'] := (((h.set 0 a').set 1 b').set 2 c').set 3 d'
theorem Bk.putD (h : Bk T w g #[u1, u2, u3, u4]) (c' d' : Value) : Bk T (putD w g c' d') g #[u1, u2, c', d'] := (h.set 2 c').set 3 d'
theorem gb2 (w : World) (g : Nat) (a b : Value) : w.grownBy (put2 w g a b) (some g) := gb_set (gb_set (gb_refl _ _) _) _
theorem gb4 (w : World) (g : Nat) (a b c d : Value) : w.grownBy (put4 w g a b c d) (some g) := gb_set (gb_set (gb_set (gb_set (gb_refl _ _) _) _) _) _
theorem gbD (w : World) (g : Nat) (c d : Value) : w.grownBy (putD w g c d) (some g) := gb_set (gb_set (gb_refl _ _) _) _
end
theorem Ci.gbk {K : Nat} {T : TypeId} {w w' : World} {lo g n c : Nat} {b : Bool} {A : Option Addr} {z : Int} {cs : Array Value} (h : Ci K w lo b A n c z) (hb : Bk T w g cs) (hne : 100 ≠ T) (hg : w.grownBy w' (some g)) : Ci K w' lo b A n c z := h.gbx hb.h hne hg
theorem Rc.gbk {K : Nat} {T : TypeId} {w w' : World} {lo g n c m d : Nat} {s t : Bool} {A B : Option Addr} {r : Rat} {cs : Array Value} (h : Rc K w lo s A n c t B m d r) (hb : Bk T w g cs) (hne : 100 ≠ T) (hg : w.grownBy w' (some g)) : Rc K w' lo s A n c t B m d r := ⟨h.1.gbk hb hne hg, h.2.gbk hb hne hg⟩

theorem info_rat : (Try.prog.info? 27).map (·.size) = some 4 := by kernel_rfl
section
variable {w : World} {g : Nat} {v : Value} {s t : Bool} {A B : Option Addr} {n c m d : Nat} {fn : Func} {p u : Tmp} {R : Ending → World → Prop} {a : Act}
theorem ret_r (h : fn.results = #[.cell p 27]) (hB : Bk 27 w g #[.bool s, .slice A n c, .bool t, .slice B m d])
    (hp : a.tmps.getD p undef = .pointer (some ⟨g, 0, none⟩)) (hd : a.defers = []) (hR : R (.returned (.agg #[.bool s, .slice A n c, .bool t, .slice B m d])) w) : bodyPost Try.prog fn R .ret a w :=
  bodyPost_ret (results_cell_row h _ _ g _ _ _ _ hp hB.h Try.underlying27 rfl info_rat) hd hR
theorem results_re (h : fn.results = #[.cell p 27, .tmp u]) (tmps : Array Value) (w : World) (hB : Bk 27 w g #[.bool s, .slice A n c, .bool t, .slice B m d]) (hp : tmps.getD p undef = .pointer (some ⟨g, 0, none⟩)) :
    (results fn tmps).run Try.prog w = .ok (.tuple #[.agg #[.bool s, .slice A n c, .bool t, .slice B m d], tmps.getD u undef]) w := by
  rw [results_cell_tmp h, hp]
  have := run_loadVar_row (P := Try.prog) w g _ 27 _ _ _ hB.h Try.underlying27 rfl info_rat
  simp [asAddr, this, Result.andThen]
theorem ret_re (h : fn.results = #[.cell p 27, .tmp u]) (hB : Bk 27 w g #[.bool s, .slice A n c, .bool t, .slice B m d])
    (hp : a.tmps.getD p undef = .pointer (some ⟨g, 0, none⟩)) (hv : a.tmps.getD u undef = v) (hd : a.defers = []) (hR : R (.returned (.tuple #[.agg #[.bool s, .slice A n c, .bool t, .slice B m d], v])) w) : bodyPost Try.prog fn R .ret a w :=
  bodyPost_ret (results_re h _ _ hB hp) hd (by rw [hv]; exact hR)
theorem ret_i (h : fn.results = #[.cell p 24]) (hB : Bk 24 w g #[.bool s, .slice A n c])
    (hp : a.tmps.getD p undef = .pointer (some ⟨g, 0, none⟩)) (hd : a.defers = []) (hR : R (.returned (.agg #[.bool s, .slice A n c])) w) : bodyPost Try.prog fn R .ret a w := ret_b h hB hp hd hR
end
theorem size_alloc2 (w : World) (a b : Obj) : ((w.alloc a).alloc b).heap.size = w.heap.size + 1 + 1 := by rw [size_alloc, size_alloc]
end Go.Proofs.Ytikkibpjchmajaa

namespace Go.Proofs.Ytikkibpjchmajaa
open Go.RowKit
open Go.Lib (hid)

section
variable {P : Program} {ops : Array Oper} {Q : Exit → Act → World → Prop} {S : World → Prop} {fuel : Nat} {listed : Array Bool} {a : Act} {w : World} {o : Oper} {rs : List Nat} {K : Act → World → Prop}
/-- What yields its value here, as a step like any other. -/
theorem drawn_stepS (i d : Nat) {v : Value} (op : Op) (hi : (ops[i]?).map (fun o => (o.op, o.dst, o.guard)) = some (op, some d, none)) (hrun : ∀ o : Oper, o.op = op → (execOp a.eval o).run P w = .ok (.value v) w) (hS : S w)
    (h : wpAnyH P .any ops Q S fuel (listed.setIfInBounds i true) (a.put (some d) v) w) (hs : AllReadyH P .any ops Q S fuel listed a w rs) : AllReadyH P .any ops Q S fuel listed a w (i :: rs) := by
  obtain ⟨o, hi', ho, hd, hgd⟩ := op_of hi
  refine AllReadyH.cons hi' (fun K hK => step_wanted hgd ?_) hs
  unfold Oper.wp
  rw [hrun o ho, Oper.upon_value]
  exact hK.out _ _ hS fun _ => by rw [hd]; exact h
theorem drawn_loadS (i d : Nat) (ty : TypeId) (x : Operand) (g : Nat) (t : TypeId) (cs : Array Value) (de : TypeDesc) (hi : (ops[i]?).map (fun o => (o.op, o.dst, o.guard)) = some (.load ty x, some d, none)) (hx : a.eval x = .pointer (some ⟨g, 0, none⟩))
    (hg : Bk t w g cs) (hu : P.underlying ty = some de) (hd : (match de with | .struct _ | .array _ _ => true | _ => false) = true) (hinf : (P.info? ty).map (·.size) = some cs.size) (hS : S w)
    (h : wpAnyH P .any ops Q S fuel (listed.setIfInBounds i true) (a.put (some d) (.agg cs)) w) (hs : AllReadyH P .any ops Q S fuel listed a w rs) : AllReadyH P .any ops Q S fuel listed a w (i :: rs) :=
  drawn_stepS i d (.load ty x) hi (fun o ho => by
    unfold execOp
    simp only [ho, hx, Instr.loadAt, Instr.sureAddr, Sem.run_bind, Sem.run_pure, Result.andThen_ok, run_loadVar_row w g t ty cs _ de hg.h hu hd hinf]) hS h hs
theorem drawn_callv2 (i : Nat) (d : Option Tmp) {f : FuncId} (c x y : Operand) {ts : Array TypeId} {u v : Value} {R : Ending → World → Prop} (hi : (ops[i]?).map (fun o => (o.op, o.dst, o.guard)) = some (.call { callee := .value c, args := #[x, y], argTypes := ts }, d, none)) (hce : a.eval c = .func (.func f) #[] #[]) (hf : ∀ args w, (callFunc f args).run P w = .ok (.enter f args) w) (hxe : a.eval x = u) (hye : a.eval y = v) (hc : Calls P f #[u, v] w R)
    (h : ∀ E w', R E w' → ∃ v, E = .returned v ∧ S w' ∧ wpAnyH P .any ops Q S fuel (listed.setIfInBounds i true) (a.put d v) w')
    (hs : AllReadyH P .any ops Q S fuel listed a w rs) : AllReadyH P .any ops Q S fuel listed a w (i :: rs) := by
  obtain ⟨o, hi', ho, rfl, hgd⟩ := op_of hi
  refine AllReadyH.cons hi' (fun K hK => step_wanted hgd ?_) hs
  have hrun : (execOp a.eval o).run P w = .ok (.enter f #[u, v]) w := by
    unfold execOp
    simp only [ho, resolve, invoke, Deferred.ofValue, Sem.run_bind, Sem.run_pure, Result.andThen_ok, List.map_toArray, List.map_cons, List.map_nil, hxe, hye, hce]
    exact hf _ _
  unfold Oper.wp
  rw [hrun, Oper.upon_enter]
  refine hc.mono fun E w' hh => ?_
  obtain ⟨v, rfl, h1, h2⟩ := h E w' hh
  exact hK.out _ _ h1 fun _ => h2
theorem drawn_call0 (i : Nat) (d : Option Tmp) {f : FuncId} {R : Ending → World → Prop} (hi : (ops[i]?).map (fun o => (o.op, o.dst, o.guard)) = some (.call { callee := .value (.func f), args := #[], argTypes := #[] }, d, none)) (hf : ∀ args w, (callFunc f args).run P w = .ok (.enter f args) w) (hc : Calls P f #[] w R)
    (h : ∀ E w', R E w' → ∃ v, E = .returned v ∧ S w' ∧ wpAnyH P .any ops Q S fuel (listed.setIfInBounds i true) (a.put d v) w')
    (hs : AllReadyH P .any ops Q S fuel listed a w rs) : AllReadyH P .any ops Q S fuel listed a w (i :: rs) := by
  obtain ⟨o, hi', ho, rfl, hgd⟩ := op_of hi
  refine AllReadyH.cons hi' (fun K hK => step_wanted hgd ?_) hs
  have hrun : (execOp a.eval o).run P w = .ok (.enter f #[]) w := by
    unfold execOp
    simp only [ho, resolve, invoke, Sem.run_bind, Sem.run_pure, Result.andThen_ok, List.map_toArray, List.map_nil]
    exact hf _ _
  unfold Oper.wp
  rw [hrun, Oper.upon_enter]
  refine hc.mono fun E w' hh => ?_
  obtain ⟨v, rfl, h1, h2⟩ := h E w' hh
  exact hK.out _ _ h1 fun _ => h2
end
theorem one_four {b e : Bool} {A B : Option Addr} {n c m d : Nat} : (#[Value.bool b, Value.slice A n c, Value.bool e, Value.slice B m d]).all (·.oneCell') = true := by simp [Value.oneCell']
theorem alloc_rat {o : Oper} {a : Act} {w : World} (ho : o.op = .alloc 27) : (execOp a.eval o).run Try.prog w = .ok (.value (.pointer (some ⟨w.heap.size, 0, none⟩))) (w.alloc (.cells #[.bool false, .slice none 0 0, .bool false, .slice none 0 0] 27)) := by
  unfold execOp
  simp only [ho]
  go_simp
end Go.Proofs.Ytikkibpjchmajaa

namespace Go.Proofs.Ytikkibpjchmajaa

/-- The text of a rational number. -/
def txr (r : Rat) : List Nat := if r.den = 1 then tx r.num else tx r.num ++ 47 :: tx (r.den : Int)
theorem tx_inj6 {x y : Int} (h : tx x = tx y) : x = y := by rw [← (tx_good x).2, ← (tx_good y).2, h]
theorem bts_inj6 {a b : List Nat} (ha : Lim 256 a) (hb : Lim 256 b) (h : bts a = bts b) : a = b := by rw [← byt_bts ha, ← byt_bts hb, h]
theorem byt_inj {a b : ByteArray} (h : byt a = byt b) : a = b := by rw [← bts_byt a, ← bts_byt b, h]
theorem tx_byte {z : Int} {c : Nat} (h : c ∈ tx z) : c = 45 ∨ (48 ≤ c ∧ c ≤ 57) := by
  have hd := fun m (h : c ∈ dgs m) => dgs_dig m c h
  unfold tx at h
  split at h
  · simp at h; omega
  · split at h
    · rcases List.mem_cons.1 h with rfl | h
      · exact .inl rfl
      · exact .inr (hd _ h)
    · exact .inr (hd _ h)
theorem tx_no {z : Int} : 47 ∉ tx z := fun h => by rcases tx_byte h with h | h <;> omega
theorem good_no {l : List Nat} (h : Good l) : 47 ∉ l := by rw [← good_tx h]; exact tx_no
/-- The first 47 parts a row in one way alone. -/
theorem cut_one {a b a' b' : List Nat} (ha : 47 ∉ a) (ha' : 47 ∉ a') (h : a ++ 47 :: b = a' ++ 47 :: b') : a = a' ∧ b = b' := by
  induction a generalizing a' with
  | nil =>
    cases a' with
    | nil => injection h with _ h; exact ⟨rfl, h⟩
    | cons c r => injection h with e _; exact absurd (by rw [e]; exact List.mem_cons_self) ha'
  | cons c r ih =>
    cases a' with
    | nil => injection h with e _; exact absurd (by rw [e]; exact List.mem_cons_self) ha
    | cons d r' =>
      injection h with e h
      obtain ⟨h1, h2⟩ := ih (fun m => ha (List.mem_cons_of_mem _ m)) (fun m => ha' (List.mem_cons_of_mem _ m)) h
      exact ⟨by rw [e, h1], h2⟩
/-- A row has a first 47, or none. -/
theorem cut_some {l : List Nat} (h : 47 ∈ l) : ∃ a b, 47 ∉ a ∧ l = a ++ 47 :: b := by
  induction l with
  | nil => simp at h
  | cons c r ih =>
    by_cases hc : c = 47
    · exact ⟨[], r, by simp, by rw [hc]; rfl⟩
    · obtain ⟨a, b, h1, h2⟩ := ih (by rcases List.mem_cons.1 h with e | e; exact absurd e.symm hc; exact e)
      refine ⟨c :: a, b, fun m => ?_, by rw [h2]; rfl⟩
      rcases List.mem_cons.1 m with e | e
      · exact hc e.symm
      · exact h1 e
theorem txr_whole {r : Rat} (h : r.den = 1) : txr r = tx r.num := by unfold txr; rw [if_pos h]
theorem txr_part {r : Rat} (h : r.den ≠ 1) : txr r = tx r.num ++ 47 :: tx (r.den : Int) := by unfold txr; rw [if_neg h]
theorem txr_inj {x y : Rat} (h : txr x = txr y) : x = y := by
  by_cases hx : x.den = 1
  · by_cases hy : y.den = 1
    · rw [txr_whole hx, txr_whole hy] at h
      exact Rat.ext (tx_inj6 h) (by rw [hx, hy])
    · rw [txr_whole hx, txr_part hy] at h
      exact absurd (by rw [h]; simp) (tx_no (z := x.num))
  · by_cases hy : y.den = 1
    · rw [txr_part hx, txr_whole hy] at h
      exact absurd (by rw [← h]; simp) (tx_no (z := y.num))
    · rw [txr_part hx, txr_part hy] at h
      obtain ⟨h1, h2⟩ := cut_one tx_no tx_no h
      have := tx_inj6 h2
      exact Rat.ext (tx_inj6 h1) (by omega)
theorem txr_lim (r : Rat) : Lim 256 (txr r) := fun c hc => by
  have key : ∀ z, c ∈ tx z → c < 256 := fun z h => tx_lim z c h
  by_cases h : r.den = 1
  · rw [txr_whole h] at hc; exact key _ hc
  · rw [txr_part h] at hc
    rcases List.mem_append.1 hc with h | h
    · exact key _ h
    · rcases List.mem_cons.1 h with rfl | h
      · omega
      · exact key _ h
/-- The number of reduced parts. -/
theorem rat_of {N D : Int} (hD : 0 < D) (h1 : Nat.gcd N.natAbs D.natAbs = 1) : ((N : Rat) / (D : Rat)).num = N ∧ (((N : Rat) / (D : Rat)).den : Int) = D := by
  obtain ⟨h2, h3⟩ := rat_parts (N := N) (D := D) (by omega)
  have := f_unique (n := N) (d := D) (a := N) (b := D) (by omega) hD h1 rfl
  exact ⟨h2.trans this.1, h3.trans this.2⟩
theorem rat_one (N : Int) : ((N : Rat) / ((1 : Int) : Rat)) = (N : Rat) := by rw [Rat.intCast_one]; grind
/-- What makes a text none of a number's: no cut, and not a whole number's. -/
theorem txr_not1 {l : List Nat} (h : 47 ∉ l) (hg : ¬ Good l) (r : Rat) : l ≠ txr r := fun e => by
  by_cases hr : r.den = 1
  · rw [txr_whole hr] at e
    exact hg (e ▸ (tx_good _).1)
  · rw [txr_part hr] at e
    exact h (by rw [e]; simp)
/-- With a cut: unless both parts are numbers, the second above 1, without common factors. -/
theorem txr_cut {a b : List Nat} (ha : 47 ∉ a) {r : Rat} (e : a ++ 47 :: b = txr r) : Good a ∧ Good b ∧ pz a = r.num ∧ pz b = r.den ∧ 1 < pz b ∧ Nat.gcd (pz a).natAbs (pz b).natAbs = 1 := by
  by_cases hr : r.den = 1
  · rw [txr_whole hr] at e
    exact absurd (by rw [← e]; simp) (tx_no (z := r.num))
  · rw [txr_part hr] at e
    obtain ⟨h1, h2⟩ := cut_one ha tx_no e
    have h3 := (tx_good r.num).2
    have h4 := (tx_good (r.den : Int)).2
    rw [← h1] at h3
    rw [← h2] at h4
    refine ⟨h1 ▸ (tx_good _).1, h2 ▸ (tx_good _).1, h3, h4, ?_, ?_⟩
    · have := r.den_nz
      omega
    · rw [h3, h4, Int.natAbs_natCast]
      exact r.reduced
theorem txr_of {a b : List Nat} (hg : Good a) (hb : Good b) (h1 : 1 < pz b) (h2 : Nat.gcd (pz a).natAbs (pz b).natAbs = 1) : txr ((pz a : Rat) / (pz b : Rat)) = a ++ 47 :: b := by
  obtain ⟨h3, h4⟩ := rat_of (N := pz a) (D := pz b) (by omega) h2
  rw [txr_part (by omega), h3, h4, good_tx hg, good_tx hb]
theorem txr_int {l : List Nat} (hg : Good l) : txr (pz l : Rat) = l := by
  rw [txr_whole (Rat.den_intCast _), Rat.num_intCast, good_tx hg]
end Go.Proofs.Ytikkibpjchmajaa

namespace Go.Proofs.Ytikkibpjchmajaa
open Go.RowKit
open Go.Lib (hid)

/-- A row of k rational numbers in block g. -/
def Row6 (w : World) (g k : Nat) (S : Nat → Bool) (A : Nat → Option Addr) (N : Nat → Nat) (C : Nat → Nat) (T : Nat → Bool) (B : Nat → Option Addr) (M : Nat → Nat) (D : Nat → Nat) : Prop := g < w.heap.size ∧ ∀ i, i < k → w.cell? ⟨g, i * 4, none⟩ = some (.bool (S i)) ∧ w.cell? ⟨g, i * 4 + 1, none⟩ = some (.slice (A i) (N i) (C i)) ∧ w.cell? ⟨g, i * 4 + 2, none⟩ = some (.bool (T i)) ∧ w.cell? ⟨g, i * 4 + 3, none⟩ = some (.slice (B i) (M i) (D i))
theorem Row6.ext {w w' : World} {g k : Nat} {S : Nat → Bool} {A : Nat → Option Addr} {N : Nat → Nat} {C : Nat → Nat} {T : Nat → Bool} {B : Nat → Option Addr} {M : Nat → Nat} {D : Nat → Nat} (h : Row6 w g k S A N C T B M D) (hx : Ext w w') : Row6 w' g k S A N C T B M D :=
  ⟨Nat.lt_of_lt_of_le h.1 hx.size, fun i hi => ⟨(Below.cell hx (p := ⟨g, i * 4, none⟩) h.1).trans (h.2 i hi).1, (Below.cell hx (p := ⟨g, i * 4 + 1, none⟩) h.1).trans (h.2 i hi).2.1, (Below.cell hx (p := ⟨g, i * 4 + 2, none⟩) h.1).trans (h.2 i hi).2.2.1, (Below.cell hx (p := ⟨g, i * 4 + 3, none⟩) h.1).trans (h.2 i hi).2.2.2⟩⟩

set_option maxHeartbeats 1600000 in
set_option maxRecDepth 100000 in
theorem great6_no {w : World} {g k : Nat} {S : Nat → Bool} {A : Nat → Option Addr} {N : Nat → Nat} {C : Nat → Nat} {T : Nat → Bool} {B : Nat → Option Addr} {M : Nat → Nat} {D : Nat → Nat} (h : Row6 w g k S A N C T B M D) (hk : k ≤ 100) (hN : ∀ i, i < k → N i ≤ 8 ∧ M i ≤ 8) :
    Calls Try.prog 17 #[.slice (some ⟨g, 0, none⟩) k k] w (RetE (.bool false) w) := by
  have H := hid h
  have HN := hid hN
  clear h hN
  go_enter Try.func17, Try.ntmps17
  go_wp2_with fail
  go_loopw [7] (fun si wr => ∃ i : Nat, i ≤ k ∧ si = .int .i64 i ∧ Ext w wr) (fun si _ => k - (intOf si).toNat)
  case atStart => exact ⟨0, Nat.zero_le _, rfl, Ext.refl _⟩
  case round =>
    obtain ⟨i, hi, rfl, hx⟩ := hrel
    have HX := hid hx
    clear hx
    by_cases hlt : i < k
    · obtain ⟨hc0, hc1, hc2, hc3⟩ := (H.out.ext HX.out).2 i hlt
      obtain ⟨hn, hm⟩ := HN.out i hlt
      generalize N i = n at *
      generalize M i = m at *
      generalize A i = a at *
      generalize B i = b at *
      generalize S i = s at *
      generalize T i = t at *
      generalize C i = c at *
      generalize D i = d at *
      have hnn : ¬ (8 : Int) < (n : Int) := by omega
      have hmm : ¬ (8 : Int) < (m : Int) := by omega
      go_wp2_with fail
      exact ⟨⟨i + 1, by omega, by go_num, HX.out.alloc _⟩, by simp [intOf]; omega⟩
    · obtain rfl : i = k := by omega
      go_wp2_with fail
      go_ret
      exact ⟨rfl, HX.out⟩

set_option maxHeartbeats 1600000 in
set_option maxRecDepth 100000 in
theorem great6_yes {w : World} {g k : Nat} {S : Nat → Bool} {A : Nat → Option Addr} {N : Nat → Nat} {C : Nat → Nat} {T : Nat → Bool} {B : Nat → Option Addr} {M : Nat → Nat} {D : Nat → Nat} (h : Row6 w g k S A N C T B M D) (hk : k ≤ 100) (hN : ∃ i, i < k ∧ (8 < N i ∨ 8 < M i)) :
    Calls Try.prog 17 #[.slice (some ⟨g, 0, none⟩) k k] w (RetE (.bool true) w) := by
  have H := hid h
  have HN := hid hN
  clear h hN
  go_enter Try.func17, Try.ntmps17
  go_wp2_with fail
  go_loopw [7] (fun si wr => ∃ i : Nat, i ≤ k ∧ si = .int .i64 i ∧ (∀ j, j < i → N j ≤ 8 ∧ M j ≤ 8) ∧ Ext w wr) (fun si _ => k - (intOf si).toNat)
  case atStart => exact ⟨0, Nat.zero_le _, rfl, fun j hj => by omega, Ext.refl _⟩
  case round =>
    obtain ⟨i, hi, rfl, hb, hx⟩ := hrel
    have HX := hid hx
    have HB := hid hb
    clear hx hb
    by_cases hlt : i < k
    · obtain ⟨hc0, hc1, hc2, hc3⟩ := (H.out.ext HX.out).2 i hlt
      obtain ⟨n, hn⟩ : ∃ n, N i = n := ⟨_, rfl⟩
      obtain ⟨m, hm⟩ : ∃ m, M i = m := ⟨_, rfl⟩
      rw [hn] at hc1
      rw [hm] at hc3
      have EN := hid hn
      have EM := hid hm
      clear hn hm
      generalize A i = a at *
      generalize B i = b at *
      generalize S i = s at *
      generalize T i = t at *
      generalize C i = c at *
      generalize D i = d at *
      by_cases hnn : (8 : Int) < (n : Int)
      · go_wp2_with fail
        go_ret
        exact ⟨rfl, HX.out.alloc _⟩
      · by_cases hmm : (8 : Int) < (m : Int)
        · go_wp2_with fail
          go_ret
          exact ⟨rfl, HX.out.alloc _⟩
        · go_wp2_with fail
          exact ⟨⟨i + 1, by omega, by go_num, fun j hj => by
            rcases Nat.lt_or_ge j i with h | h
            · exact HB.out j h
            · obtain rfl : j = i := by omega
              rw [EN.out, EM.out]; omega, HX.out.alloc _⟩, by simp [intOf]; omega⟩
    · exfalso
      obtain ⟨j, hj, hj2⟩ := HN.out
      have := HB.out j (by omega)
      omega

section
variable {w : World} {g : Nat}
theorem row6_1 {s0 : Bool} {A0 : Option Addr} {n0 : Nat} {c0 : Nat} {t0 : Bool} {B0 : Option Addr} {m0 : Nat} {d0 : Nat} (h : Bk 27 w g #[.bool s0, .slice A0 n0 c0, .bool t0, .slice B0 m0 d0]) : Row6 w g 1 (fun i => s0) (fun i => A0) (fun i => n0) (fun i => c0) (fun i => t0) (fun i => B0) (fun i => m0) (fun i => d0) :=
  ⟨h.lt, fun i hi => by (obtain rfl : i = 0 := by omega); exact ⟨(h.c _).trans rfl, (h.c _).trans rfl, (h.c _).trans rfl, (h.c _).trans rfl⟩⟩
theorem great6_no1 {s0 : Bool} {A0 : Option Addr} {n0 : Nat} {c0 : Nat} {t0 : Bool} {B0 : Option Addr} {m0 : Nat} {d0 : Nat} (h : Bk 27 w g #[.bool s0, .slice A0 n0 c0, .bool t0, .slice B0 m0 d0]) (p0 : n0 ≤ 8) (q0 : m0 ≤ 8) : Calls Try.prog 17 #[.slice (some ⟨g, 0, none⟩) 1 1] w (RetE (.bool false) w) :=
  great6_no (row6_1 h) (by omega) fun i hi => by (obtain rfl : i = 0 := by omega); exact ⟨by simpa, by simpa⟩
theorem great6_yes1 {s0 : Bool} {A0 : Option Addr} {n0 : Nat} {c0 : Nat} {t0 : Bool} {B0 : Option Addr} {m0 : Nat} {d0 : Nat} (h : Bk 27 w g #[.bool s0, .slice A0 n0 c0, .bool t0, .slice B0 m0 d0]) (p : 8 < n0 ∨ 8 < m0) : Calls Try.prog 17 #[.slice (some ⟨g, 0, none⟩) 1 1] w (RetE (.bool true) w) :=
  great6_yes (row6_1 h) (by omega) (by
    rcases p with p | p
    · exact ⟨0, by omega, Or.inl (by simpa)⟩
    · exact ⟨0, by omega, Or.inr (by simpa)⟩)
theorem row6_2 {s0 s1 : Bool} {A0 A1 : Option Addr} {n0 n1 : Nat} {c0 c1 : Nat} {t0 t1 : Bool} {B0 B1 : Option Addr} {m0 m1 : Nat} {d0 d1 : Nat} (h : Bk 27 w g #[.bool s0, .slice A0 n0 c0, .bool t0, .slice B0 m0 d0, .bool s1, .slice A1 n1 c1, .bool t1, .slice B1 m1 d1]) : Row6 w g 2 (fun i => if i = 0 then s0 else s1) (fun i => if i = 0 then A0 else A1) (fun i => if i = 0 then n0 else n1) (fun i => if i = 0 then c0 else c1) (fun i => if i = 0 then t0 else t1) (fun i => if i = 0 then B0 else B1) (fun i => if i = 0 then m0 else m1) (fun i => if i = 0 then d0 else d1) :=
  ⟨h.lt, fun i hi => by rcases (show i = 0 ∨ i = 1 by omega) with rfl | rfl <;> exact ⟨(h.c _).trans rfl, (h.c _).trans rfl, (h.c _).trans rfl, (h.c _).trans rfl⟩⟩
theorem great6_no2 {s0 s1 : Bool} {A0 A1 : Option Addr} {n0 n1 : Nat} {c0 c1 : Nat} {t0 t1 : Bool} {B0 B1 : Option Addr} {m0 m1 : Nat} {d0 d1 : Nat} (h : Bk 27 w g #[.bool s0, .slice A0 n0 c0, .bool t0, .slice B0 m0 d0, .bool s1, .slice A1 n1 c1, .bool t1, .slice B1 m1 d1]) (p0 : n0 ≤ 8) (q0 : m0 ≤ 8) (p1 : n1 ≤ 8) (q1 : m1 ≤ 8) : Calls Try.prog 17 #[.slice (some ⟨g, 0, none⟩) 2 2] w (RetE (.bool false) w) :=
  great6_no (row6_2 h) (by omega) fun i hi => by rcases (show i = 0 ∨ i = 1 by omega) with rfl | rfl <;> exact ⟨by simpa, by simpa⟩
theorem great6_yes2 {s0 s1 : Bool} {A0 A1 : Option Addr} {n0 n1 : Nat} {c0 c1 : Nat} {t0 t1 : Bool} {B0 B1 : Option Addr} {m0 m1 : Nat} {d0 d1 : Nat} (h : Bk 27 w g #[.bool s0, .slice A0 n0 c0, .bool t0, .slice B0 m0 d0, .bool s1, .slice A1 n1 c1, .bool t1, .slice B1 m1 d1]) (p : 8 < n0 ∨ 8 < m0 ∨ 8 < n1 ∨ 8 < m1) : Calls Try.prog 17 #[.slice (some ⟨g, 0, none⟩) 2 2] w (RetE (.bool true) w) :=
  great6_yes (row6_2 h) (by omega) (by
    rcases p with p | p | p | p
    · exact ⟨0, by omega, Or.inl (by simpa)⟩
    · exact ⟨0, by omega, Or.inr (by simpa)⟩
    · exact ⟨1, by omega, Or.inl (by simpa)⟩
    · exact ⟨1, by omega, Or.inr (by simpa)⟩)
theorem row6_3 {s0 s1 s2 : Bool} {A0 A1 A2 : Option Addr} {n0 n1 n2 : Nat} {c0 c1 c2 : Nat} {t0 t1 t2 : Bool} {B0 B1 B2 : Option Addr} {m0 m1 m2 : Nat} {d0 d1 d2 : Nat} (h : Bk 27 w g #[.bool s0, .slice A0 n0 c0, .bool t0, .slice B0 m0 d0, .bool s1, .slice A1 n1 c1, .bool t1, .slice B1 m1 d1, .bool s2, .slice A2 n2 c2, .bool t2, .slice B2 m2 d2]) : Row6 w g 3 (fun i => if i = 0 then s0 else if i = 1 then s1 else s2) (fun i => if i = 0 then A0 else if i = 1 then A1 else A2) (fun i => if i = 0 then n0 else if i = 1 then n1 else n2) (fun i => if i = 0 then c0 else if i = 1 then c1 else c2) (fun i => if i = 0 then t0 else if i = 1 then t1 else t2) (fun i => if i = 0 then B0 else if i = 1 then B1 else B2) (fun i => if i = 0 then m0 else if i = 1 then m1 else m2) (fun i => if i = 0 then d0 else if i = 1 then d1 else d2) :=
  ⟨h.lt, fun i hi => by rcases (show i = 0 ∨ i = 1 ∨ i = 2 by omega) with rfl | rfl | rfl <;> exact ⟨(h.c _).trans rfl, (h.c _).trans rfl, (h.c _).trans rfl, (h.c _).trans rfl⟩⟩
theorem great6_no3 {s0 s1 s2 : Bool} {A0 A1 A2 : Option Addr} {n0 n1 n2 : Nat} {c0 c1 c2 : Nat} {t0 t1 t2 : Bool} {B0 B1 B2 : Option Addr} {m0 m1 m2 : Nat} {d0 d1 d2 : Nat} (h : Bk 27 w g #[.bool s0, .slice A0 n0 c0, .bool t0, .slice B0 m0 d0, .bool s1, .slice A1 n1 c1, .bool t1, .slice B1 m1 d1, .bool s2, .slice A2 n2 c2, .bool t2, .slice B2 m2 d2]) (p0 : n0 ≤ 8) (q0 : m0 ≤ 8) (p1 : n1 ≤ 8) (q1 : m1 ≤ 8) (p2 : n2 ≤ 8) (q2 : m2 ≤ 8) : Calls Try.prog 17 #[.slice (some ⟨g, 0, none⟩) 3 3] w (RetE (.bool false) w) :=
  great6_no (row6_3 h) (by omega) fun i hi => by rcases (show i = 0 ∨ i = 1 ∨ i = 2 by omega) with rfl | rfl | rfl <;> exact ⟨by simpa, by simpa⟩
theorem great6_yes3 {s0 s1 s2 : Bool} {A0 A1 A2 : Option Addr} {n0 n1 n2 : Nat} {c0 c1 c2 : Nat} {t0 t1 t2 : Bool} {B0 B1 B2 : Option Addr} {m0 m1 m2 : Nat} {d0 d1 d2 : Nat} (h : Bk 27 w g #[.bool s0, .slice A0 n0 c0, .bool t0, .slice B0 m0 d0, .bool s1, .slice A1 n1 c1, .bool t1, .slice B1 m1 d1, .bool s2, .slice A2 n2 c2, .bool t2, .slice B2 m2 d2]) (p : 8 < n0 ∨ 8 < m0 ∨ 8 < n1 ∨ 8 < m1 ∨ 8 < n2 ∨ 8 < m2) : Calls Try.prog 17 #[.slice (some ⟨g, 0, none⟩) 3 3] w (RetE (.bool true) w) :=
  great6_yes (row6_3 h) (by omega) (by
    rcases p with p | p | p | p | p | p
    · exact ⟨0, by omega, Or.inl (by simpa)⟩
    · exact ⟨0, by omega, Or.inr (by simpa)⟩
    · exact ⟨1, by omega, Or.inl (by simpa)⟩
    · exact ⟨1, by omega, Or.inr (by simpa)⟩
    · exact ⟨2, by omega, Or.inl (by simpa)⟩
    · exact ⟨2, by omega, Or.inr (by simpa)⟩)
end
end Go.Proofs.Ytikkibpjchmajaa

