/-
  Regions that draw their order and make variables beside calls: laws for a step, each world behind it a letter.
  The contracts of the document's whole numbers: Neg, Sign, Mul.
  The contracts of the document's whole numbers: Add, Sub, Cmp, Small.
  Regions that make variables of the document's whole numbers.
-/
import Derived.Test.YtikkibpjchmajaaGreatPk13
import Derived.Deep.RegionHeld3
import Derived.Deep.DeepCutAuto
import Derived.Test.YtikkibpjchmajaaGreatPk12
namespace Go.Proofs.YtikkibpjchmajaaGreat
open Go.RowKit
open Go.Lib (hid)

section
variable {P : Program} {ops : Array Oper} {Q : Exit → Act → World → Prop} {S : World → Prop} {fuel i : Nat} {listed : Array Bool} {a : Act} {w : World} {o : Oper} {rs : List Nat} {K : Act → World → Prop}
theorem step_wanted {E : Prop} (hg : o.guard = none) (h : Oper.wp P o a w K Q) : if Region.wanted o (yielded ops a.tmps) = true then Oper.wp P o a w K Q else E := by
  have hw : Region.wanted o (yielded ops a.tmps) = true := by simp [Region.wanted, hg]
  rw [if_pos hw]; exact h
theorem op_of {op : Op} {d : Option Tmp} (hi : (ops[i]?).map (fun o => (o.op, o.dst, o.guard)) = some (op, d, none)) : ∃ o, ops[i]? = some o ∧ o.op = op ∧ o.dst = d ∧ o.guard = none := by
  cases h : ops[i]? with
  | none => rw [h] at hi; cases hi
  | some o => rw [h] at hi; simp at hi; exact ⟨o, rfl, hi⟩
/-- A load of a whole block, taken first. -/
theorem drawn_load (i d : Nat) (ty : TypeId) (x : Operand) (g : Nat) (t : TypeId) (cs : Array Value) (fr : Nat × Nat) (de : TypeDesc) (hi : (ops[i]?).map (fun o => (o.op, o.dst, o.guard)) = some (.load ty x, some d, none)) (hx : a.eval x = .pointer (some ⟨g, 0, none⟩))
    (hS : ∀ w, S w → w.heap[g]? = some (.cells cs t fr)) (hu : P.underlying ty = some de) (hd : (match de with | .struct _ | .array _ _ => true | _ => false) = true) (hinf : (P.info? ty).map (·.size) = some cs.size)
    (hs : Region.noSelect ops = true) (hf : Region.free .any ops listed i = true) (hr : (Region.ready .any ops listed).contains i = true) (hQ : ∀ c a v w, Q (.panic c) (a.put (some d) v) w → Q (.panic c) a w) (hw : S w)
    (h : wpAnyH P .any ops Q S fuel (listed.setIfInBounds i true) (a.put (some d) (.agg cs)) w) : wpAnyH P .any ops Q S (fuel + 1) listed a w := by
  obtain ⟨o, hi', ho, hd', hgd⟩ := op_of hi
  refine wpAnyH_take (v := .agg cs) hi' hs hf hr (fun c a w h => hQ c a _ w (by rw [← hd']; exact h)) (Or.inl ⟨by simp [Region.wanted, hgd], fun w hw => by
    unfold execOp
    simp only [ho, hx, Instr.loadAt, Instr.sureAddr, Sem.run_bind, Sem.run_pure, Result.andThen_ok, run_loadVar_row w g t ty cs fr de (hS w hw) hu hd hinf]⟩) hw (by rw [hd']; exact h)
/-- What yields in every world that S names, taken first. -/
theorem drawn_free (i d : Nat) {v : Value} (op : Op) (hi : (ops[i]?).map (fun o => (o.op, o.dst, o.guard)) = some (op, some d, none)) (hrun : ∀ o : Oper, o.op = op → ∀ w, S w → (execOp a.eval o).run P w = .ok (.value v) w)
    (hs : Region.noSelect ops = true) (hf : Region.free .any ops listed i = true) (hr : (Region.ready .any ops listed).contains i = true) (hQ : ∀ c a v w, Q (.panic c) (a.put (some d) v) w → Q (.panic c) a w) (hw : S w)
    (h : wpAnyH P .any ops Q S fuel (listed.setIfInBounds i true) (a.put (some d) v) w) : wpAnyH P .any ops Q S (fuel + 1) listed a w := by
  obtain ⟨o, hi', ho, hd', hgd⟩ := op_of hi
  exact wpAnyH_take (v := v) hi' hs hf hr (fun c a w h => hQ c a _ w (by rw [← hd']; exact h)) (Or.inl ⟨by simp [Region.wanted, hgd], fun w hw => hrun o ho w hw⟩) hw (by rw [hd']; exact h)
/-- A variable is made. -/
theorem drawn_alloc (i : Nat) (d : Option Tmp) {zs : Array Value} {T : TypeId} (hi : (ops[i]?).map (fun o => (o.op, o.dst, o.guard)) = some (.alloc T, d, none)) (hrun : ∀ {o : Oper}, o.op = .alloc T → (execOp a.eval o).run P w = .ok (.value (.pointer (some ⟨w.heap.size, 0, none⟩))) (w.alloc (.cells zs T)))
    (h : ∀ g w', w'.heap[g]? = some (.cells zs T (0, 0)) → Ext w w' → w.heap.size ≤ g → S w' ∧ wpAnyH P .any ops Q S fuel (listed.setIfInBounds i true) (a.put d (.pointer (some ⟨g, 0, none⟩))) w')
    (hs : AllReadyH P .any ops Q S fuel listed a w rs) : AllReadyH P .any ops Q S fuel listed a w (i :: rs) := by
  obtain ⟨o, hi', ho, rfl, hgd⟩ := op_of hi
  refine AllReadyH.cons hi' (fun K hK => step_wanted hgd ?_) hs
  unfold Oper.wp
  rw [hrun ho, Oper.upon_value]
  obtain ⟨h1, h2⟩ := h w.heap.size (w.alloc (.cells zs T)) (heap_alloc_new _ _) ((Ext.refl w).alloc _) (Nat.le_refl _)
  exact hK.out _ _ h1 fun _ => h2
/-- An empty slice. -/
theorem drawn_empty (i : Nat) (d : Option Tmp) {t e : TypeId} (k : IntKind) (hi : (ops[i]?).map (fun o => (o.op, o.dst, o.guard)) = some (.buildSlice t 0 #[], d, none)) (hrun : ∀ {o : Oper}, o.op = .buildSlice t 0 #[] → (execOp a.eval o).run P w = .ok (.value (.slice (some ⟨w.heap.size, 0, none⟩) 0 0)) (w.alloc (.cells #[] e)))
    (h : ∀ g w', Own k e w' w.heap.size (some ⟨g, 0, none⟩) 0 0 [] → Ext w w' → S w' ∧ wpAnyH P .any ops Q S fuel (listed.setIfInBounds i true) (a.put d (.slice (some ⟨g, 0, none⟩) 0 0)) w')
    (hs : AllReadyH P .any ops Q S fuel listed a w rs) : AllReadyH P .any ops Q S fuel listed a w (i :: rs) := by
  obtain ⟨o, hi', ho, rfl, hgd⟩ := op_of hi
  refine AllReadyH.cons hi' (fun K hK => step_wanted hgd ?_) hs
  unfold Oper.wp
  rw [hrun ho, Oper.upon_value]
  obtain ⟨h1, h2⟩ := h w.heap.size (w.alloc (.cells #[] e)) (own_empty w k e) ((Ext.refl w).alloc _)
  exact hK.out _ _ h1 fun _ => h2
/-- append onto an empty slice. -/
theorem drawn_own (i : Nat) (d' : Option Tmp) {w0 : World} {e : TypeId} {k : IntKind} {bytes : Nat} {A B : Option Addr} {n c d : Nat} {xs : List Nat} (s x : Operand) (t : TypeId) (hi : (ops[i]?).map (fun o => (o.op, o.dst, o.guard)) = some (.call { callee := .builtin .append, args := #[s, x], argTypes := #[t, t] }, d', none)) (h1 : P.underlying t = some (.slice e)) (hinf : (P.info? e).map (fun i => (i.zero, i.size, i.bytes)) = some (some (.int k 0), 1, bytes))
    (hse : a.eval s = .slice B 0 d) (hxe : a.eval x = .slice A n c) (hB : Own k e w w0.heap.size B 0 d []) (hsl : Sl k w A n c xs) (hx : Ext w0 w) (hb : n * bytes ≤ 140737488355328) (hn : n ≤ maxLen)
    (h : ∀ A' c' w', Own k e w' w0.heap.size A' n c' xs → Ext w0 w' → w.grownBy w' (B.map (·.block)) → S w' ∧ wpAnyH P .any ops Q S fuel (listed.setIfInBounds i true) (a.put d' (.slice A' n c')) w')
    (hs : AllReadyH P .any ops Q S fuel listed a w rs) : AllReadyH P .any ops Q S fuel listed a w (i :: rs) := by
  obtain ⟨o, hi', ho, rfl, hgd⟩ := op_of hi
  refine AllReadyH.cons hi' (fun K hK => step_wanted hgd ?_) hs
  refine wp_own' s x t ho h1 hinf hse hxe hB hsl hx hb hn fun A' c' w' h2 h3 h4 => ?_
  obtain ⟨h5, h6⟩ := h A' c' w' h2 h3 h4
  exact hK.out _ _ h5 fun _ => h6
/-- A call by its contract. -/
theorem drawn_call2 (i : Nat) (d : Option Tmp) {f : FuncId} (x y : Operand) {ts : Array TypeId} {u v : Value} {R : Ending → World → Prop} (hi : (ops[i]?).map (fun o => (o.op, o.dst, o.guard)) = some (.call { callee := .value (.func f), args := #[x, y], argTypes := ts }, d, none)) (hf : ∀ args w, (callFunc f args).run P w = .ok (.enter f args) w) (hxe : a.eval x = u) (hye : a.eval y = v) (hc : Calls P f #[u, v] w R)
    (h : ∀ E w', R E w' → ∃ v, E = .returned v ∧ S w' ∧ wpAnyH P .any ops Q S fuel (listed.setIfInBounds i true) (a.put d v) w')
    (hs : AllReadyH P .any ops Q S fuel listed a w rs) : AllReadyH P .any ops Q S fuel listed a w (i :: rs) := by
  obtain ⟨o, hi', ho, rfl, hgd⟩ := op_of hi
  refine AllReadyH.cons hi' (fun K hK => step_wanted hgd ?_) hs
  have hrun : (execOp a.eval o).run P w = .ok (.enter f #[u, v]) w := by
    unfold execOp
    simp only [ho, resolve, invoke, Sem.run_bind, Sem.run_pure, Result.andThen_ok, List.map_toArray, List.map_cons, List.map_nil, hxe, hye]
    exact hf _ _
  unfold Oper.wp
  rw [hrun, Oper.upon_enter]
  refine hc.mono fun E w' hh => ?_
  obtain ⟨v, rfl, h1, h2⟩ := h E w' hh
  exact hK.out _ _ h1 fun _ => h2
theorem drawn_call1 (i : Nat) (d : Option Tmp) {f : FuncId} (x : Operand) {ts : Array TypeId} {u : Value} {R : Ending → World → Prop} (hi : (ops[i]?).map (fun o => (o.op, o.dst, o.guard)) = some (.call { callee := .value (.func f), args := #[x], argTypes := ts }, d, none)) (hf : ∀ args w, (callFunc f args).run P w = .ok (.enter f args) w) (hxe : a.eval x = u) (hc : Calls P f #[u] w R)
    (h : ∀ E w', R E w' → ∃ v, E = .returned v ∧ S w' ∧ wpAnyH P .any ops Q S fuel (listed.setIfInBounds i true) (a.put d v) w')
    (hs : AllReadyH P .any ops Q S fuel listed a w rs) : AllReadyH P .any ops Q S fuel listed a w (i :: rs) := by
  obtain ⟨o, hi', ho, rfl, hgd⟩ := op_of hi
  refine AllReadyH.cons hi' (fun K hK => step_wanted hgd ?_) hs
  have hrun : (execOp a.eval o).run P w = .ok (.enter f #[u]) w := by
    unfold execOp
    simp only [ho, resolve, invoke, Sem.run_bind, Sem.run_pure, Result.andThen_ok, List.map_toArray, List.map_cons, List.map_nil, hxe]
    exact hf _ _
  unfold Oper.wp
  rw [hrun, Oper.upon_enter]
  refine hc.mono fun E w' hh => ?_
  obtain ⟨v, rfl, h1, h2⟩ := h E w' hh
  exact hK.out _ _ h1 fun _ => h2
/-- A store of a whole struct. -/
theorem drawn_store (i : Nat) (ty : TypeId) (x y : Operand) (g : Nat) (cells old : Array Value) (t : TypeId) (hi : (ops[i]?).map (fun o => (o.op, o.dst, o.guard)) = some (.store ty x y, none, none)) (hx : a.eval x = .pointer (some ⟨g, 0, none⟩)) (hy : a.eval y = .agg cells)
    (hg : w.heap[g]? = some (.cells old t (0, 0))) (hinf : (P.info? ty).map (·.size) = some cells.size) (hold : old.size = cells.size) (h1 : cells.all (·.oneCell') = true)
    (h : ∀ w', w'.heap[g]? = some (.cells cells t (0, 0)) → w.grownBy w' (some g) → S w' ∧ wpAnyH P .any ops Q S fuel (listed.setIfInBounds i true) a w')
    (hs : AllReadyH P .any ops Q S fuel listed a w rs) : AllReadyH P .any ops Q S fuel listed a w (i :: rs) := by
  obtain ⟨o, hi', ho, hd, hgd⟩ := op_of hi
  refine AllReadyH.cons hi' (fun K hK => step_wanted hgd ?_) hs
  refine wp_store_row ty x y ho g cells hx hy t old hg hinf hold h1 ?_
  obtain ⟨h1, h2⟩ := h (w.setRow g cells) (setRow_heap w g _ _ _ _ hg) ⟨rfl, rfl, rfl, Nat.le_of_eq (by simp [World.setRow]), fun j _ hne => by
    have hne : g ≠ j := fun e => hne (by rw [e])
    simp [World.setRow, Array.getElem?_modify, hne]⟩
  refine hK.out _ _ h1 fun _ => ?_
  rw [hd]
  exact h2
theorem drawn_nil : AllReadyH P .any ops Q S fuel listed a w [] := AllReadyH.nil
end
theorem Ext.gb {a b c : World} {g : Nat} (h : Ext a b) (hg : b.grownBy c (some g)) (hge : a.heap.size ≤ g) : Ext a c := h.trans_own hg (by intro g' e; injection e with e; omega)
theorem Bx.lit {w : World} {g : Nat} {s : Bool} {A : Option Addr} {n c : Nat} (h : w.heap[g]? = some (.cells #[.bool s, .slice A n c] 24 (0, 0))) : Bx w g s A n c := h
theorem Bx.own {k : IntKind} {e : TypeId} {w w' : World} {lo g n c m d : Nat} {s : Bool} {A B : Option Addr} {ys : List Nat} (h : Bx w g s A n c) (ho : Own k e w lo B m d ys) (hne : e ≠ 24) (hg : w.grownBy w' (B.map (·.block))) : Bx w' g s A n c :=
  h.grown hg fun e' => by
    rcases ho.2 with ⟨h1, _⟩ | ⟨g1, cap, cur, h1, _, h3, _⟩
    · injection h1 with h1; rw [h1] at e'; cases e'
    · injection h1 with h1
      rw [h1] at e'
      have e' : g = g1 := by simpa using e'
      subst e'
      have h : w.heap[g]? = _ := h
      rw [h3] at h
      injection h with h
      injection h with _ h
      exact hne h
theorem one_two {b : Bool} {A : Option Addr} {n c : Nat} : (#[Value.bool b, Value.slice A n c]).all (·.oneCell') = true := by simp [Value.oneCell']
/-- The block of a store is no array of numbers. -/
theorem Own.gbx {k : IntKind} {e t : TypeId} {w w' : World} {lo g n c : Nat} {A : Option Addr} {zs : List Nat} {cs : Array Value} {fr : Nat × Nat} (h : Own k e w lo A n c zs) (hb : w.heap[g]? = some (.cells cs t fr)) (hne : e ≠ t) (hg : w.grownBy w' (some g)) : Own k e w' lo A n c zs :=
  ⟨h.1, by
    rcases h.2 with h' | ⟨g', cap, cur, h1, h2, h3, r⟩
    · exact .inl h'
    · refine .inr ⟨g', cap, cur, h1, h2, (hg.block g' (Array.getElem?_eq_some_iff.1 h3).1 (fun e' => ?_)).trans h3, r⟩
      injection e' with e'
      subst e'
      rw [h3] at hb
      injection hb with hb
      injection hb with _ hb
      exact hne hb⟩
theorem Sl.gbx {k : IntKind} {t : TypeId} {w w' : World} {g n c m d : Nat} {A B : Option Addr} {s : Bool} {zs : List Nat} (h : Sl k w A n c zs) (hb : w.heap[g]? = some (.cells #[.bool s, .slice B m d] t (0, 0))) (hg : w.grownBy w' (some g)) : Sl k w' A n c zs := by
  refine ⟨h.len, h.cap, h.max, fun hp => ?_⟩
  obtain ⟨b, o, e, hlt, hc⟩ := h.at_ hp
  have hne : some b ≠ some g := fun e' => by
    injection e' with e'
    subst e'
    have hz : zs[0]? = some (zs[0]'(by rw [h.len]; exact hp)) := List.getElem?_eq_getElem _
    have h0 := hc 0 _ hz
    simp only [World.cell?, Nat.add_zero] at h0
    rw [hb] at h0
    rcases o with _ | _ | o <;> simp at h0
  refine ⟨b, o, e, Nat.lt_of_lt_of_le hlt hg.size, fun j z hz => ?_⟩
  rw [World.cell?_of_block (a := ⟨b, o + j, none⟩) (hg.block b hlt hne)]
  exact hc j z hz
theorem Ci.gbx {K : Nat} {t : TypeId} {w w' : World} {lo g n c : Nat} {b : Bool} {A : Option Addr} {z : Int} {cs : Array Value} {fr : Nat × Nat} (h : Ci K w lo b A n c z) (hb : w.heap[g]? = some (.cells cs t fr)) (hne : 74 ≠ t) (hg : w.grownBy w' (some g)) : Ci K w' lo b A n c z := ⟨h.1, h.2.1.gbx hb hne hg, h.2.2⟩
theorem Nv.gbx {K : Nat} {t : TypeId} {w w' : World} {g n c m d l : Nat} {s : Bool} {A B : Option Addr} (h : Nv K w A n c m) (hb : w.heap[g]? = some (.cells #[.bool s, .slice B l d] t (0, 0))) (hg : w.grownBy w' (some g)) : Nv K w' A n c m := let ⟨xs, h1, h2⟩ := h; ⟨xs, h1.gbx hb hg, h2⟩
theorem Iz.gbx {K : Nat} {t : TypeId} {w w' : World} {g n c d l : Nat} {s b : Bool} {A B : Option Addr} {z : Int} (h : Iz K w b A n c z) (hb : w.heap[g]? = some (.cells #[.bool s, .slice B l d] t (0, 0))) (hg : w.grownBy w' (some g)) : Iz K w' b A n c z := let ⟨m, h1, h2⟩ := h; ⟨m, h1.gbx hb hg, h2⟩
theorem alloc_int {o : Oper} {a : Act} {w : World} (ho : o.op = .alloc 24) : (execOp a.eval o).run Tryz.prog w = .ok (.value (.pointer (some ⟨w.heap.size, 0, none⟩))) (w.alloc (.cells #[.bool false, .slice none 0 0] 24)) := by
  unfold execOp
  simp only [ho]
  go_simp
theorem empty_u32 {o : Oper} {a : Act} {w : World} (ho : o.op = .buildSlice 22 0 #[]) : (execOp a.eval o).run Tryz.prog w = .ok (.value (.slice (some ⟨w.heap.size, 0, none⟩) 0 0)) (w.alloc (.cells #[] 74)) := by
  unfold execOp
  simp only [ho]
  go_simp
theorem enters_test : ∀ args w, (callFunc 38 args).run Tryz.prog w = .ok (.enter 38 args) w := enters_of Tryz.func38 (by kernel_rfl) rfl
end Go.Proofs.YtikkibpjchmajaaGreat

namespace Go.Proofs.YtikkibpjchmajaaGreat
open Go.RowKit
open Go.Lib (hid)

/-- Two structs that were handed over, and the result's, in three blocks behind one another. -/
structure TriZ (w wA : World) (s : Bool) (A : Option Addr) (n c : Nat) (t : Bool) (B : Option Addr) (m d : Nat) : Prop where
  x : Ext w wA
  b0 : Bz wA w.heap.size s A n c
  b1 : Bz wA (w.heap.size + 1) t B m d
  b2 : Bz wA (w.heap.size + 1 + 1) false none 0 0
  sz : wA.heap.size = w.heap.size + 3
theorem TriZ.mk' (w : World) (s : Bool) (A : Option Addr) (n c : Nat) (t : Bool) (B : Option Addr) (m d : Nat) :
    TriZ w (((w.alloc (.cells #[.bool s, .slice A n c] 33)).alloc (.cells #[.bool t, .slice B m d] 33)).alloc (.cells #[.bool false, .slice none 0 0] 33)) s A n c t B m d := by
  have h0 := Bz.new w s A n c
  have h1 := Bz.new (w.alloc (.cells #[.bool s, .slice A n c] 33)) t B m d
  have h2 := Bz.new ((w.alloc (.cells #[.bool s, .slice A n c] 33)).alloc (.cells #[.bool t, .slice B m d] 33)) false none 0 0
  rw [size_alloc] at h1 h2
  rw [size_alloc] at h2
  exact ⟨(((Ext.refl w).alloc _).alloc _).alloc _, (h0.ext ((Ext.refl _).alloc _)).ext ((Ext.refl _).alloc _), h1.ext ((Ext.refl _).alloc _), h2, by rw [size_alloc, size_alloc, size_alloc]⟩
section
variable {w wA wB : World} {s t : Bool} {A B : Option Addr} {n c m d : Nat}
theorem TriZ.cs (h : TriZ w wA s A n c t B m d) (hx : Ext wA wB) : (wB.cell? ⟨w.heap.size, 0, none⟩ = some (.bool s) ∧ wB.cell? ⟨w.heap.size, 1, none⟩ = some (.slice A n c) ∧ wB.cell? ⟨w.heap.size + 1, 0, none⟩ = some (.bool t) ∧ wB.cell? ⟨w.heap.size + 1, 1, none⟩ = some (.slice B m d)) :=
  ⟨(h.b0.ext hx).c0, (h.b0.ext hx).c1, (h.b1.ext hx).c0, (h.b1.ext hx).c1⟩
theorem TriZ.cr (h : TriZ w wA s A n c t B m d) (hx : Ext wA wB) : (wB.cell? ⟨w.heap.size + 1 + 1, 0, none⟩ = some (.bool false) ∧ wB.cell? ⟨w.heap.size + 1 + 1, 1, none⟩ = some (.slice none 0 0) ∧ wB.frozen? ⟨w.heap.size + 1 + 1, 0, none⟩ = false ∧ wB.frozen? ⟨w.heap.size + 1 + 1, 1, none⟩ = false) :=
  ⟨(h.b2.ext hx).c0, (h.b2.ext hx).c1, (h.b2.ext hx).fr 0, (h.b2.ext hx).fr 1⟩
theorem TriZ.cp (h : TriZ w wA s A n c t B m d) (hx : Ext wA wB) (u v : Value) : (((wB.setCell ⟨w.heap.size + 1 + 1, 0, none⟩ u).setCell ⟨w.heap.size + 1 + 1, 1, none⟩ v).cell? ⟨w.heap.size, 0, none⟩ = some (.bool s) ∧ ((wB.setCell ⟨w.heap.size + 1 + 1, 0, none⟩ u).setCell ⟨w.heap.size + 1 + 1, 1, none⟩ v).cell? ⟨w.heap.size, 1, none⟩ = some (.slice A n c) ∧ ((wB.setCell ⟨w.heap.size + 1 + 1, 0, none⟩ u).setCell ⟨w.heap.size + 1 + 1, 1, none⟩ v).cell? ⟨w.heap.size + 1, 0, none⟩ = some (.bool t) ∧ ((wB.setCell ⟨w.heap.size + 1 + 1, 0, none⟩ u).setCell ⟨w.heap.size + 1 + 1, 1, none⟩ v).cell? ⟨w.heap.size + 1, 1, none⟩ = some (.slice B m d)) :=
  have p0 := (h.b0.ext hx).other (g' := w.heap.size + 1 + 1) (u := u) (v := v) (by omega)
  have p1 := (h.b1.ext hx).other (g' := w.heap.size + 1 + 1) (u := u) (v := v) (by omega)
  ⟨p0.c0, p0.c1, p1.c0, p1.c1⟩
theorem TriZ.put (h : TriZ w wA s A n c t B m d) (hx : Ext wA wB) {b : Bool} {C : Option Addr} {k l : Nat} : Bz ((wB.setCell ⟨w.heap.size + 1 + 1, 0, none⟩ (.bool b)).setCell ⟨w.heap.size + 1 + 1, 1, none⟩ (.slice C k l)) (w.heap.size + 1 + 1) b C k l := (h.b2.ext hx).put
end
section
variable {K L p : Nat} {w w1 : World} {b s : Bool} {A B : Option Addr} {n c g m d : Nat} {z : Int}
theorem Zd.gbz (h : Zd K w b A n c z) (hb : Bz w g s B m d) (hg : w.grownBy w1 (some g)) : Zd K w1 b A n c z := ⟨h.1, h.2.1.gbx hb hg, h.2.2⟩
theorem fin_zx (hz : Zd K w1 b A n c z) (hB : Bz w1 g s B m d) (hwg : w.heap.size ≤ g) (hx : Ext w w1) :
    RetZ K z w (.returned (.agg #[.bool b, .slice A n c])) ((w1.setCell ⟨g, 0, none⟩ (.bool b)).setCell ⟨g, 1, none⟩ (.slice A n c)) :=
  ⟨_, _, _, _, rfl, hz.gbz hB (put_gb w1 g _ _), hx.put hwg _ _⟩
theorem TriZ.fin {wA : World} {t : Bool} {C : Option Addr} {k l : Nat} (h : TriZ w wA s A n c t B m d) (hx : Ext wA w1) (hz : Zd K w1 b C k l z) :
    RetZ K z w (.returned (.agg #[.bool b, .slice C k l])) ((w1.setCell ⟨w.heap.size + 1 + 1, 0, none⟩ (.bool b)).setCell ⟨w.heap.size + 1 + 1, 1, none⟩ (.slice C k l)) :=
  fin_zx hz (h.b2.ext hx) (by omega) (h.x.trans hx)
theorem Dg.pos (h : Dg K w A n c p) : decide (0 < n) = decide (p ≠ 0) := by
  have h1 := h.1.len
  by_cases h0 : p = 0
  · subst h0
    rw [decide_eq_false (show ¬ (0 : Nat) ≠ 0 by omega)]
    exact decide_eq_false (by rw [← h1]; simp [nd_zero])
  · rw [decide_eq_true h0]
    refine decide_eq_true ?_
    have : (nd 10 p) ≠ [] := fun e => h0 ((nd_eq_nil (by omega)).1 e)
    have := List.length_pos_iff.2 this
    omega
theorem Dg.zero (h : Dg K w A n c p) (h0 : p = 0) : n = 0 := by
  have h1 := h.1.len
  rw [← h1, h0, nd_zero]; rfl
theorem Dg.ne (h : Dg K w A n c p) (h0 : p ≠ 0) : 0 < n := by
  have := h.pos
  rw [decide_eq_true h0] at this
  exact of_decide_eq_true this
end

theorem zsign_v {w : World} {s : Bool} {A : Option Addr} {n c K : Nat} {z : Int} (h : Zd K w s A n c z) :
    Calls Tryz.prog 31 #[.agg #[.bool s, .slice A n c]] w (RetE (.int .i64 (sg z)) w) := by
  have X := hid ((Ext.refl w).alloc (.cells #[.bool s, .slice A n c] 33))
  have B0 := Bz.new w s A n c
  have h0 := B0.c0
  have h1 := B0.c1
  clear B0
  have hfl := h.1
  by_cases hz : z = 0
  · have hn := h.len0 hz
    subst hn
    have hs : Hid (sg z = 0) := by show _ = _; rw [hz]; rfl
    clear h hfl hz
    go_enter Tryz.func31, Tryz.ntmps31
    go_wp2_with fail
    go_ret
    exact ⟨by rw [hs.out]; rfl, X.out⟩
  · have hn := h.lenp hz
    have hne : ((n : Int) == 0) = false := beq_eq_false_iff_ne.2 (by omega)
    by_cases hl : z < 0
    · have hs : Hid (sg z = -1) := sg_neg hl
      have hb : s = true := by rw [hfl]; exact decide_eq_true hl
      subst hb
      clear h hfl hz hl
      go_enter Tryz.func31, Tryz.ntmps31
      go_wp2_with fail
      go_ret
      exact ⟨by rw [hs.out]; rfl, X.out⟩
    · have hs : Hid (sg z = 1) := sg_pos (by omega)
      have hb : s = false := by rw [hfl]; exact decide_eq_false hl
      subst hb
      clear h hfl hz hl
      go_enter Tryz.func31, Tryz.ntmps31
      go_wp2_with fail
      go_ret
      exact ⟨by rw [hs.out]; rfl, X.out⟩

theorem Bz.new2 (w : World) (o : Obj) (s : Bool) (A : Option Addr) (n c : Nat) : Bz ((w.alloc o).alloc (.cells #[.bool s, .slice A n c] 33)) (w.heap.size + 1) s A n c := by
  have h := Bz.new (w.alloc o) s A n c
  rw [size_alloc] at h; exact h
theorem zneg_v {w : World} {s : Bool} {A : Option Addr} {n c K : Nat} {z : Int} (h : Zd K w s A n c z) :
    Calls Tryz.prog 42 #[.agg #[.bool s, .slice A n c]] w (RetZ K (-z) w) := by
  have X := hid (((Ext.refl w).alloc (.cells #[.bool s, .slice A n c] 33)).alloc (.cells #[.bool false, .slice none 0 0] 33))
  have b0 := (Bz.new w s A n c).ext ((Ext.refl _).alloc (.cells #[.bool false, .slice none 0 0] 33))
  have b1 := Bz.new (w.alloc (.cells #[.bool s, .slice A n c] 33)) false none 0 0
  rw [size_alloc] at b1
  have hc0 := b0.c0
  have hc1 := b0.c1
  have hr0 := b1.c0
  have hr1 := b1.c1
  have hr2 := b1.fr 0
  have hr3 := b1.fr 1
  have HB1 := hid b1
  have HD := hid h.2
  have HF : Hid ((!s && decide (0 < n)) = decide (-z < 0)) := by
    show _ = _
    rw [h.2.pos, h.1]
    rcases Int.lt_trichotomy z 0 with h | h | h
    · rw [decide_eq_true h, decide_eq_false (show ¬ -z < 0 by omega)]; rfl
    · subst h; rfl
    · rw [decide_eq_false (show ¬ z < 0 by omega), decide_eq_true (show -z < 0 by omega), decide_eq_true (show z.natAbs ≠ 0 by omega)]; rfl
  clear b0 b1 h
  cases s
  · rcases Nat.eq_zero_or_pos n with hn | hn
    · subst hn
      go_enter Tryz.func42, Tryz.ntmps42
      go_wp2_with fail
      refine ret_z rfl (Bz.new2 _ _ _ _ _ _) rfl rfl ⟨_, _, _, _, rfl, ⟨by rw [← HF.out]; rfl, by rw [Int.natAbs_neg]; exact HD.out.ext (((Ext.refl w).alloc _).alloc _)⟩, ((Ext.refl w).alloc _).alloc _⟩
    · have hd : decide ((0 : Int) < (n : Int)) = true := decide_eq_true (by omega)
      go_enter Tryz.func42, Tryz.ntmps42
      go_wp2_with fail
      refine ret_z rfl (Bz.new2 _ _ _ _ _ _) rfl rfl ⟨_, _, _, _, rfl, ⟨by rw [← HF.out, decide_eq_true hn]; rfl, by rw [Int.natAbs_neg]; exact HD.out.ext (((Ext.refl w).alloc _).alloc _)⟩, ((Ext.refl w).alloc _).alloc _⟩
  · go_enter Tryz.func42, Tryz.ntmps42
    go_wp2_with fail
    refine ret_z rfl (Bz.new2 _ _ _ _ _ _) rfl rfl ⟨_, _, _, _, rfl, ⟨by rw [← HF.out]; rfl, by rw [Int.natAbs_neg]; exact HD.out.ext (((Ext.refl w).alloc _).alloc _)⟩, ((Ext.refl w).alloc _).alloc _⟩

set_option maxHeartbeats 1600000 in
theorem zmul_v {w : World} {s t : Bool} {A B : Option Addr} {n c m d K K' : Nat} {x y : Int} (h : Zd K w s A n c x) (h' : Zd K' w t B m d y) (hK : K + K' ≤ 1073741824) :
    Calls Tryz.prog 40 #[.agg #[.bool s, .slice A n c], .agg #[.bool t, .slice B m d]] w (RetZ (K + K') (x * y) w) := by
  have T := hid (TriZ.mk' w s A n c t B m d)
  have H := hid h
  have H' := hid h'
  have HM := hid (Int.natAbs_mul x y)
  have HF : Hid (∀ k C l, Dg (K + K') k C l m (x.natAbs * y.natAbs) → True) := fun _ _ _ _ => trivial
  have HZ : Hid (decide (x * y < 0) = ((!(s == t)) && decide (x.natAbs * y.natAbs ≠ 0))) := by
    show _ = _
    have e1 := h.1
    have e2 := h'.1
    rcases Int.lt_trichotomy x 0 with hx | hx | hx
    · rcases Int.lt_trichotomy y 0 with hy | hy | hy
      · rw [decide_eq_true hx] at e1; rw [decide_eq_true hy] at e2
        subst e1; subst e2
        exact decide_eq_false (by have := Int.mul_pos_of_neg_of_neg hx hy; omega)
      · subst hy; simp
      · rw [decide_eq_true hx] at e1; rw [decide_eq_false (show ¬ y < 0 by omega)] at e2
        subst e1; subst e2
        rw [decide_eq_true (Int.mul_neg_of_neg_of_pos hx hy), decide_eq_true (Nat.mul_ne_zero (by omega) (by omega))]; rfl
    · subst hx; simp
    · rcases Int.lt_trichotomy y 0 with hy | hy | hy
      · rw [decide_eq_false (show ¬ x < 0 by omega)] at e1; rw [decide_eq_true hy] at e2
        subst e1; subst e2
        rw [decide_eq_true (Int.mul_neg_of_pos_of_neg hx hy), decide_eq_true (Nat.mul_ne_zero (by omega) (by omega))]; rfl
      · subst hy; simp
      · rw [decide_eq_false (show ¬ x < 0 by omega)] at e1; rw [decide_eq_false (show ¬ y < 0 by omega)] at e2
        subst e1; subst e2
        exact decide_eq_false (by have := Int.mul_pos hx hy; omega)
  clear h h' HF
  have hcs := T.out.cs (Ext.refl _)
  obtain ⟨p0, p1, p2, p3⟩ := hcs
  go_enter Tryz.func40, Tryz.ntmps40
  go_wp2_with fail
  generalize (((w.alloc (.cells #[.bool s, .slice A n c] 33)).alloc (.cells #[.bool t, .slice B m d] 33)).alloc (.cells #[.bool false, .slice none 0 0] 33)) = wA at *
  clear p0 p1 p2 p3
  refine (rmul_v (H.out.2.ext T.out.x) (H'.out.2.ext T.out.x) hK).mono ?_
  rintro E w1 ⟨C, k, l, rfl, o1, x1⟩
  have X1 := hid x1
  have O1 := hid o1
  obtain ⟨q0, q1, q2, q3⟩ := T.out.cs x1
  obtain ⟨r0, r1, r2, r3⟩ := T.out.cr x1
  have HP := hid o1.pos
  clear o1 x1
  by_cases hst : s = t
  · subst hst
    have HZ' : Hid (decide (x * y < 0) = false) := by show _ = _; rw [HZ.out]; simp
    clear HZ
    go_wp2_with fail
    refine ret_z rfl (T.out.put X1.out) rfl rfl (T.out.fin X1.out ⟨HZ'.out.symm, by rw [HM.out]; exact O1.out⟩)
  · have hb : (s == t) = false := by cases s <;> cases t <;> simp_all
    by_cases hk : 0 < k
    · have hd : decide ((0 : Int) < (k : Int)) = true := decide_eq_true (by omega)
      have HZ' : Hid (decide (x * y < 0) = true) := by show _ = _; rw [HZ.out, ← HP.out, hb, decide_eq_true hk]; rfl
      clear HZ
      go_wp2_with fail
      refine ret_z rfl (T.out.put X1.out) rfl rfl (T.out.fin X1.out ⟨HZ'.out.symm, by rw [HM.out]; exact O1.out⟩)
    · have hk0 : k = 0 := by omega
      have HZ' : Hid (decide (x * y < 0) = false) := by show _ = _; rw [HZ.out, ← HP.out, decide_eq_false hk, Bool.and_false]
      subst hk0
      clear HZ
      go_wp2_with fail
      refine ret_z rfl (T.out.put X1.out) rfl rfl (T.out.fin X1.out ⟨HZ'.out.symm, by rw [HM.out]; exact O1.out⟩)
end Go.Proofs.YtikkibpjchmajaaGreat

namespace Go.Proofs.YtikkibpjchmajaaGreat
open Go.RowKit
open Go.Lib (hid)

theorem Zd.val {K : Nat} {w : World} {s : Bool} {A : Option Addr} {n c : Nat} {z : Int} (h : Zd K w s A n c z) : z = zv s z.natAbs := by
  rw [h.1]; exact (zv_of z).symm

set_option maxHeartbeats 1600000 in
theorem zadd_same {w : World} {s : Bool} {A B : Option Addr} {n c m d K K' : Nat} {x y : Int} (h : Zd K w s A n c x) (h' : Zd K' w s B m d y) (hK : K + K' ≤ 1073741824) :
    Calls Tryz.prog 39 #[.agg #[.bool s, .slice A n c], .agg #[.bool s, .slice B m d]] w (RetZ (K + K' + 1) (x + y) w) := by
  have T := hid (TriZ.mk' w s A n c s B m d)
  have e1 := h.1
  have e2 := h'.1
  have HS : Hid (s = decide (x + y < 0)) := by
    show _ = _
    cases s
    · have := of_decide_eq_false e1.symm
      have := of_decide_eq_false e2.symm
      exact (decide_eq_false (by omega)).symm
    · have := of_decide_eq_true e1.symm
      have := of_decide_eq_true e2.symm
      exact (decide_eq_true (by omega)).symm
  have HZ : Hid ((x + y).natAbs = x.natAbs + y.natAbs) := by
    show _ = _
    cases s
    · have := of_decide_eq_false e1.symm
      have := of_decide_eq_false e2.symm
      omega
    · have := of_decide_eq_true e1.symm
      have := of_decide_eq_true e2.symm
      omega
  have H := hid h
  have H' := hid h'
  clear h h' e1 e2
  go_enter Tryz.func39, Tryz.ntmps39
  go_wp2_with fail
  generalize (((w.alloc (.cells #[.bool s, .slice A n c] 33)).alloc (.cells #[.bool s, .slice B m d] 33)).alloc (.cells #[.bool false, .slice none 0 0] 33)) = wA at *
  have t1 := hid (fun W (X : Ext wA W) => radd_v (H.out.2.ext (T.out.x.trans X)) (H'.out.2.ext (T.out.x.trans X)) (by omega))
  have hk0 := T.out.cs (Ext.refl wA)
  have hkd := T.out.cs (Ext.refl wA).drew
  go_region_held3 (fun w' => w'.cell? ⟨w.heap.size, 0, none⟩ = some (.bool s) ∧ w'.cell? ⟨w.heap.size, 1, none⟩ = some (.slice A n c) ∧ w'.cell? ⟨w.heap.size + 1, 0, none⟩ = some (.bool s) ∧ w'.cell? ⟨w.heap.size + 1, 1, none⟩ = some (.slice B m d)) (first | (with_reducible exact hk0) | (with_reducible exact hkd) | (with_reducible exact hk1) | (with_reducible exact hk3 _ _))
    (first
      | ((go_at_call 60); (with_reducible refine (t1.out _ (Ext.refl _).drew).mono ?_); rintro e w1 ⟨A1, n1, c1, rfl, o1, x1⟩; have hk1 := T.out.cs ((Ext.refl _).drew.trans x1); have hk3 := fun u v => T.out.cp ((Ext.refl _).drew.trans x1) u v; obtain ⟨hr0, hr1, hr2, hr3⟩ := T.out.cr ((Ext.refl _).drew.trans x1); have O1 := hid o1; have X1 := hid ((Ext.refl _).drew.trans x1); clear o1 x1 t1))
  clear hk0 hkd hk1 hk3 hr0 hr1 hr2 hr3
  go_wp2_with fail
  refine ret_z rfl (T.out.put X1.out) rfl rfl (T.out.fin X1.out ⟨HS.out, by rw [HZ.out]; exact O1.out⟩)

/-- The difference's flag. -/
theorem diff_flag {s : Bool} {p : Nat} {z : Int} (hz : z = zv s p) : (s && decide (p ≠ 0)) = decide (z < 0) := by
  subst hz
  rw [zv_lt]
  congr 1
  by_cases h : p = 0
  · subst h; rfl
  · rw [decide_eq_true h, decide_eq_true (by omega)]

set_option maxHeartbeats 1600000 in
theorem zadd_diff {w : World} {s t : Bool} {A B : Option Addr} {n c m d K K' : Nat} {x y : Int} (hst : s ≠ t) (h : Zd K w s A n c x) (h' : Zd K' w t B m d y) (hK : K + K' ≤ 1073741824) :
    Calls Tryz.prog 39 #[.agg #[.bool s, .slice A n c], .agg #[.bool t, .slice B m d]] w (RetZ (K + K' + 1) (x + y) w) := by
  have T := hid (TriZ.mk' w s A n c t B m d)
  have HX := hid h.val
  have HY := hid h'.val
  have H := hid h
  have H' := hid h'
  have hf : (s == t) = false := by cases s <;> cases t <;> simp_all
  have HST := hid hst
  clear h h' hst
  by_cases hle : y.natAbs ≤ x.natAbs
  · have HZ : Hid (x + y = zv s (x.natAbs - y.natAbs)) := by show _ = _; rw [← zv_diff HST.out hle, ← HX.out, ← HY.out]
    have HC : Hid (∃ v : Int, cmpN x.natAbs y.natAbs = v ∧ ¬ v < 0) := by
      rcases Nat.lt_or_ge y.natAbs x.natAbs with h1 | h1
      · exact ⟨1, cmpN_gt h1, by omega⟩
      · exact ⟨0, by rw [show x.natAbs = y.natAbs by omega]; exact cmpN_eq _, by omega⟩
    obtain ⟨v, hv, hv0⟩ := HC.out
    have HV := hid hv
    clear HC hv
    obtain ⟨p0, p1, p2, p3⟩ := T.out.cs (Ext.refl _)
    go_enter Tryz.func39, Tryz.ntmps39
    go_wp2_with fail
    generalize (((w.alloc (.cells #[.bool s, .slice A n c] 33)).alloc (.cells #[.bool t, .slice B m d] 33)).alloc (.cells #[.bool false, .slice none 0 0] 33)) = wA at *
    clear p0 p1 p2 p3
    refine (rcmp_is (H.out.2.ext T.out.x) (H'.out.2.ext T.out.x) (by omega) HV.out).mono ?_
    rintro E w1 ⟨rfl, x1⟩
    have X1 := hid x1
    obtain ⟨q0, q1, q2, q3⟩ := T.out.cs x1
    clear x1
    go_wp2_with fail
    refine (rsub_v (H.out.2.ext (T.out.x.trans X1.out)) (H'.out.2.ext (T.out.x.trans X1.out)) (by omega) hle).mono ?_
    rintro E w2 ⟨C, k, l, rfl, o2, x2⟩
    have X2 := hid (X1.out.trans x2)
    have O2 := hid o2
    clear q0 q1 q2 q3
    obtain ⟨q0, q1, q2, q3⟩ := T.out.cs X2.out
    obtain ⟨r0, r1, r2, r3⟩ := T.out.cr X2.out
    have HP := hid o2.pos
    clear o2 x2
    have HF : Hid ((s && decide (0 < k)) = decide (x + y < 0)) := by show _ = _; rw [HP.out]; exact diff_flag HZ.out
    have HN : Hid ((x + y).natAbs = x.natAbs - y.natAbs) := by show _ = _; rw [HZ.out, zv_abs]
    clear HZ HP HX HY
    cases s
    · go_wp2_with fail
      refine ret_z rfl (T.out.put X2.out) rfl rfl (T.out.fin X2.out ⟨by rw [← HF.out]; rfl, by rw [HN.out]; exact O2.out.1, Nat.le_trans O2.out.2 (by omega)⟩)
    · go_wp2_with fail
      refine ret_z rfl (T.out.put X2.out) rfl rfl (T.out.fin X2.out ⟨by rw [← HF.out, Bool.true_and], by rw [HN.out]; exact O2.out.1, Nat.le_trans O2.out.2 (by omega)⟩)
  · have hlt : x.natAbs < y.natAbs := by omega
    have HZ : Hid (x + y = zv t (y.natAbs - x.natAbs)) := by show _ = _; rw [← zv_diff (fun e => HST.out e.symm) (by omega), ← HX.out, ← HY.out, Int.add_comm]
    have HV := hid (cmpN_lt hlt)
    obtain ⟨p0, p1, p2, p3⟩ := T.out.cs (Ext.refl _)
    go_enter Tryz.func39, Tryz.ntmps39
    go_wp2_with fail
    generalize (((w.alloc (.cells #[.bool s, .slice A n c] 33)).alloc (.cells #[.bool t, .slice B m d] 33)).alloc (.cells #[.bool false, .slice none 0 0] 33)) = wA at *
    clear p0 p1 p2 p3
    refine (rcmp_is (H.out.2.ext T.out.x) (H'.out.2.ext T.out.x) (by omega) HV.out).mono ?_
    rintro E w1 ⟨rfl, x1⟩
    have X1 := hid x1
    have B0 := T.out.b0.ext x1
    have B1 := T.out.b1.ext x1
    have B2 := T.out.b2.ext x1
    obtain ⟨q0, q1, q2, q3⟩ := T.out.cs x1
    have f0 := B0.fr 0
    have f1 := B0.fr 1
    have f2 := B1.fr 0
    have f3 := B1.fr 1
    -- both change places
    have C0 := (B0.put (s' := t) (A' := B) (n' := m) (c' := d)).other (g' := w.heap.size + 1) (u := .bool s) (v := .slice A n c) (by omega)
    have C1 := (B1.other (g' := w.heap.size) (u := .bool t) (v := .slice B m d) (by omega)).put (s' := s) (A' := A) (n' := n) (c' := c)
    have C2 := (B2.other (g' := w.heap.size) (u := .bool t) (v := .slice B m d) (by omega)).other (g' := w.heap.size + 1) (u := .bool s) (v := .slice A n c) (by omega)
    have HC0 := hid C0
    have HC1 := hid C1
    have HC2 := hid C2
    have hszA := T.out.sz
    have Y := hid (((T.out.x.trans X1.out).put (Nat.le_refl w.heap.size) (.bool t) (.slice B m d)).put (show w.heap.size ≤ w.heap.size + 1 by omega) (.bool s) (.slice A n c))
    have D1 := hid (((H.out.2.ext (T.out.x.trans X1.out)).1.gbx B0 (put_gb w1 w.heap.size (.bool t) (.slice B m d))).gbx (B1.other (g' := w.heap.size) (u := .bool t) (v := .slice B m d) (by omega)) (put_gb _ (w.heap.size + 1) (.bool s) (.slice A n c)))
    have D2 := hid (((H'.out.2.ext (T.out.x.trans X1.out)).1.gbx B0 (put_gb w1 w.heap.size (.bool t) (.slice B m d))).gbx (B1.other (g' := w.heap.size) (u := .bool t) (v := .slice B m d) (by omega)) (put_gb _ (w.heap.size + 1) (.bool s) (.slice A n c)))
    have g0 := C0.c0
    have g1 := C0.c1
    have g2 := C1.c0
    have g3 := C1.c1
    clear x1 B0 B1 B2 C0 C1 C2
    go_wp2_with fail
    clear q0 q1 q2 q3 f0 f1 f2 f3
    generalize ((((w1.setCell ⟨w.heap.size, 0, none⟩ (.bool t)).setCell ⟨w.heap.size, 1, none⟩ (.slice B m d)).setCell ⟨w.heap.size + 1, 0, none⟩ (.bool s)).setCell ⟨w.heap.size + 1, 1, none⟩ (.slice A n c)) = w2 at *
    clear g0 g1 g2 g3
    refine (rsub_v (Dg.mk D2.out H'.out.2.2) (Dg.mk D1.out H.out.2.2) (by omega) (Nat.le_of_lt hlt)).mono ?_
    rintro E w3 ⟨C, k, l, rfl, o3, x3⟩
    have X3 := hid x3
    have O3 := hid o3
    have g0 := (HC0.out.ext x3).c0
    have g1 := (HC0.out.ext x3).c1
    have r0 := (HC2.out.ext x3).c0
    have r1 := (HC2.out.ext x3).c1
    have r2 := (HC2.out.ext x3).fr 0
    have r3 := (HC2.out.ext x3).fr 1
    have HB := hid (HC2.out.ext x3)
    have HP := hid o3.pos
    clear o3 x3
    have HF : Hid ((t && decide (0 < k)) = decide (x + y < 0)) := by show _ = _; rw [HP.out]; exact diff_flag HZ.out
    have HN : Hid ((x + y).natAbs = y.natAbs - x.natAbs) := by show _ = _; rw [HZ.out, zv_abs]
    clear HZ HP HX HY
    cases t
    · go_wp2_with fail
      refine ret_z rfl HB.out.put rfl rfl (fin_zx ⟨by rw [← HF.out]; rfl, by rw [HN.out]; exact O3.out.1, Nat.le_trans O3.out.2 (by omega)⟩ HB.out (by omega) (Y.out.trans X3.out))
    · go_wp2_with fail
      refine ret_z rfl HB.out.put rfl rfl (fin_zx ⟨by rw [← HF.out, Bool.true_and], by rw [HN.out]; exact O3.out.1, Nat.le_trans O3.out.2 (by omega)⟩ HB.out (by omega) (Y.out.trans X3.out))

theorem zadd_v {w : World} {s t : Bool} {A B : Option Addr} {n c m d K K' : Nat} {x y : Int} (h : Zd K w s A n c x) (h' : Zd K' w t B m d y) (hK : K + K' ≤ 1073741824) :
    Calls Tryz.prog 39 #[.agg #[.bool s, .slice A n c], .agg #[.bool t, .slice B m d]] w (RetZ (K + K' + 1) (x + y) w) := by
  by_cases hst : s = t
  · subst hst; exact zadd_same h h' hK
  · exact zadd_diff hst h h' hK

theorem zsign_is {w : World} {s : Bool} {A : Option Addr} {n c K : Nat} {z v : Int} (h : Zd K w s A n c z) (hv : sg z = v) :
    Calls Tryz.prog 31 #[.agg #[.bool s, .slice A n c]] w (RetE (.int .i64 v) w) := hv ▸ zsign_v h
end Go.Proofs.YtikkibpjchmajaaGreat

namespace Go.Proofs.YtikkibpjchmajaaGreat
open Go.RowKit
open Go.Lib (hid)

theorem alloc_z {o : Oper} {a : Act} {w : World} (ho : o.op = .alloc 33) : (execOp a.eval o).run Tryz.prog w = .ok (.value (.pointer (some ⟨w.heap.size, 0, none⟩))) (w.alloc (.cells #[.bool false, .slice none 0 0] 33)) := by
  unfold execOp
  simp only [ho]
  go_simp
end Go.Proofs.YtikkibpjchmajaaGreat

