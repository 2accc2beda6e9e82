/-
  Regions that draw their order and make variables beside calls: laws for a step, each world behind it a letter.
  Regions that draw their order: laws for steps under a guard.
-/
import Derived.Test.YtikkibpjchmajaaPk16
import Derived.Deep.RegionHeld3
import Derived.Deep.DeepCutAuto
namespace Go.Proofs.Ytikkibpjchmajaa
open Go.RowKit
open Go.Lib (hid)

section
variable {P : Program} {ops : Array Oper} {Q : Exit → Act → World → Prop} {S : World → Prop} {fuel i : Nat} {listed : Array Bool} {a : Act} {w : World} {o : Oper} {rs : List Nat} {K : Act → World → Prop}
theorem step_wanted {E : Prop} (hg : o.guard = none) (h : Oper.wp P o a w K Q) : if Region.wanted o (yielded ops a.tmps) = true then Oper.wp P o a w K Q else E := by
  have hw : Region.wanted o (yielded ops a.tmps) = true := by simp [Region.wanted, hg]
  rw [if_pos hw]; exact h
theorem op_of {op : Op} {d : Option Tmp} (hi : (ops[i]?).map (fun o => (o.op, o.dst, o.guard)) = some (op, d, none)) : ∃ o, ops[i]? = some o ∧ o.op = op ∧ o.dst = d ∧ o.guard = none := by
  cases h : ops[i]? with
  | none => rw [h] at hi; cases hi
  | some o => rw [h] at hi; simp at hi; exact ⟨o, rfl, hi⟩
/-- A load of a whole block, taken first. -/
theorem drawn_load (i d : Nat) (ty : TypeId) (x : Operand) (g : Nat) (t : TypeId) (cs : Array Value) (fr : Nat × Nat) (de : TypeDesc) (hi : (ops[i]?).map (fun o => (o.op, o.dst, o.guard)) = some (.load ty x, some d, none)) (hx : a.eval x = .pointer (some ⟨g, 0, none⟩))
    (hS : ∀ w, S w → w.heap[g]? = some (.cells cs t fr)) (hu : P.underlying ty = some de) (hd : (match de with | .struct _ | .array _ _ => true | _ => false) = true) (hinf : (P.info? ty).map (·.size) = some cs.size)
    (hs : Region.noSelect ops = true) (hf : Region.free .any ops listed i = true) (hr : (Region.ready .any ops listed).contains i = true) (hQ : ∀ c a v w, Q (.panic c) (a.put (some d) v) w → Q (.panic c) a w) (hw : S w)
    (h : wpAnyH P .any ops Q S fuel (listed.setIfInBounds i true) (a.put (some d) (.agg cs)) w) : wpAnyH P .any ops Q S (fuel + 1) listed a w := by
  obtain ⟨o, hi', ho, hd', hgd⟩ := op_of hi
  refine wpAnyH_take (v := .agg cs) hi' hs hf hr (fun c a w h => hQ c a _ w (by rw [← hd']; exact h)) (Or.inl ⟨by simp [Region.wanted, hgd], fun w hw => by
    unfold execOp
    simp only [ho, hx, Instr.loadAt, Instr.sureAddr, Sem.run_bind, Sem.run_pure, Result.andThen_ok, run_loadVar_row w g t ty cs fr de (hS w hw) hu hd hinf]⟩) hw (by rw [hd']; exact h)
/-- What yields in every world that S names, taken first. -/
theorem drawn_free (i d : Nat) {v : Value} (op : Op) (hi : (ops[i]?).map (fun o => (o.op, o.dst, o.guard)) = some (op, some d, none)) (hrun : ∀ o : Oper, o.op = op → ∀ w, S w → (execOp a.eval o).run P w = .ok (.value v) w)
    (hs : Region.noSelect ops = true) (hf : Region.free .any ops listed i = true) (hr : (Region.ready .any ops listed).contains i = true) (hQ : ∀ c a v w, Q (.panic c) (a.put (some d) v) w → Q (.panic c) a w) (hw : S w)
    (h : wpAnyH P .any ops Q S fuel (listed.setIfInBounds i true) (a.put (some d) v) w) : wpAnyH P .any ops Q S (fuel + 1) listed a w := by
  obtain ⟨o, hi', ho, hd', hgd⟩ := op_of hi
  exact wpAnyH_take (v := v) hi' hs hf hr (fun c a w h => hQ c a _ w (by rw [← hd']; exact h)) (Or.inl ⟨by simp [Region.wanted, hgd], fun w hw => hrun o ho w hw⟩) hw (by rw [hd']; exact h)
/-- A variable is made. -/
theorem drawn_alloc (i : Nat) (d : Option Tmp) {zs : Array Value} {T : TypeId} (hi : (ops[i]?).map (fun o => (o.op, o.dst, o.guard)) = some (.alloc T, d, none)) (hrun : ∀ {o : Oper}, o.op = .alloc T → (execOp a.eval o).run P w = .ok (.value (.pointer (some ⟨w.heap.size, 0, none⟩))) (w.alloc (.cells zs T)))
    (h : ∀ g w', w'.heap[g]? = some (.cells zs T (0, 0)) → Ext w w' → w.heap.size ≤ g → S w' ∧ wpAnyH P .any ops Q S fuel (listed.setIfInBounds i true) (a.put d (.pointer (some ⟨g, 0, none⟩))) w')
    (hs : AllReadyH P .any ops Q S fuel listed a w rs) : AllReadyH P .any ops Q S fuel listed a w (i :: rs) := by
  obtain ⟨o, hi', ho, rfl, hgd⟩ := op_of hi
  refine AllReadyH.cons hi' (fun K hK => step_wanted hgd ?_) hs
  unfold Oper.wp
  rw [hrun ho, Oper.upon_value]
  obtain ⟨h1, h2⟩ := h w.heap.size (w.alloc (.cells zs T)) (heap_alloc_new _ _) ((Ext.refl w).alloc _) (Nat.le_refl _)
  exact hK.out _ _ h1 fun _ => h2
/-- An empty slice. -/
theorem drawn_empty (i : Nat) (d : Option Tmp) {t e : TypeId} (k : IntKind) (hi : (ops[i]?).map (fun o => (o.op, o.dst, o.guard)) = some (.buildSlice t 0 #[], d, none)) (hrun : ∀ {o : Oper}, o.op = .buildSlice t 0 #[] → (execOp a.eval o).run P w = .ok (.value (.slice (some ⟨w.heap.size, 0, none⟩) 0 0)) (w.alloc (.cells #[] e)))
    (h : ∀ g w', Own k e w' w.heap.size (some ⟨g, 0, none⟩) 0 0 [] → Ext w w' → S w' ∧ wpAnyH P .any ops Q S fuel (listed.setIfInBounds i true) (a.put d (.slice (some ⟨g, 0, none⟩) 0 0)) w')
    (hs : AllReadyH P .any ops Q S fuel listed a w rs) : AllReadyH P .any ops Q S fuel listed a w (i :: rs) := by
  obtain ⟨o, hi', ho, rfl, hgd⟩ := op_of hi
  refine AllReadyH.cons hi' (fun K hK => step_wanted hgd ?_) hs
  unfold Oper.wp
  rw [hrun ho, Oper.upon_value]
  obtain ⟨h1, h2⟩ := h w.heap.size (w.alloc (.cells #[] e)) (own_empty w k e) ((Ext.refl w).alloc _)
  exact hK.out _ _ h1 fun _ => h2
/-- append onto an empty slice. -/
theorem drawn_own (i : Nat) (d' : Option Tmp) {w0 : World} {e : TypeId} {k : IntKind} {bytes : Nat} {A B : Option Addr} {n c d : Nat} {xs : List Nat} (s x : Operand) (t : TypeId) (hi : (ops[i]?).map (fun o => (o.op, o.dst, o.guard)) = some (.call { callee := .builtin .append, args := #[s, x], argTypes := #[t, t] }, d', none)) (h1 : P.underlying t = some (.slice e)) (hinf : (P.info? e).map (fun i => (i.zero, i.size, i.bytes)) = some (some (.int k 0), 1, bytes))
    (hse : a.eval s = .slice B 0 d) (hxe : a.eval x = .slice A n c) (hB : Own k e w w0.heap.size B 0 d []) (hsl : Sl k w A n c xs) (hx : Ext w0 w) (hb : n * bytes ≤ 140737488355328) (hn : n ≤ maxLen)
    (h : ∀ A' c' w', Own k e w' w0.heap.size A' n c' xs → Ext w0 w' → w.grownBy w' (B.map (·.block)) → S w' ∧ wpAnyH P .any ops Q S fuel (listed.setIfInBounds i true) (a.put d' (.slice A' n c')) w')
    (hs : AllReadyH P .any ops Q S fuel listed a w rs) : AllReadyH P .any ops Q S fuel listed a w (i :: rs) := by
  obtain ⟨o, hi', ho, rfl, hgd⟩ := op_of hi
  refine AllReadyH.cons hi' (fun K hK => step_wanted hgd ?_) hs
  refine wp_own' s x t ho h1 hinf hse hxe hB hsl hx hb hn fun A' c' w' h2 h3 h4 => ?_
  obtain ⟨h5, h6⟩ := h A' c' w' h2 h3 h4
  exact hK.out _ _ h5 fun _ => h6
/-- A call by its contract. -/
theorem drawn_call2 (i : Nat) (d : Option Tmp) {f : FuncId} (x y : Operand) {ts : Array TypeId} {u v : Value} {R : Ending → World → Prop} (hi : (ops[i]?).map (fun o => (o.op, o.dst, o.guard)) = some (.call { callee := .value (.func f), args := #[x, y], argTypes := ts }, d, none)) (hf : ∀ args w, (callFunc f args).run P w = .ok (.enter f args) w) (hxe : a.eval x = u) (hye : a.eval y = v) (hc : Calls P f #[u, v] w R)
    (h : ∀ E w', R E w' → ∃ v, E = .returned v ∧ S w' ∧ wpAnyH P .any ops Q S fuel (listed.setIfInBounds i true) (a.put d v) w')
    (hs : AllReadyH P .any ops Q S fuel listed a w rs) : AllReadyH P .any ops Q S fuel listed a w (i :: rs) := by
  obtain ⟨o, hi', ho, rfl, hgd⟩ := op_of hi
  refine AllReadyH.cons hi' (fun K hK => step_wanted hgd ?_) hs
  have hrun : (execOp a.eval o).run P w = .ok (.enter f #[u, v]) w := by
    unfold execOp
    simp only [ho, resolve, invoke, Sem.run_bind, Sem.run_pure, Result.andThen_ok, List.map_toArray, List.map_cons, List.map_nil, hxe, hye]
    exact hf _ _
  unfold Oper.wp
  rw [hrun, Oper.upon_enter]
  refine hc.mono fun E w' hh => ?_
  obtain ⟨v, rfl, h1, h2⟩ := h E w' hh
  exact hK.out _ _ h1 fun _ => h2
theorem drawn_call1 (i : Nat) (d : Option Tmp) {f : FuncId} (x : Operand) {ts : Array TypeId} {u : Value} {R : Ending → World → Prop} (hi : (ops[i]?).map (fun o => (o.op, o.dst, o.guard)) = some (.call { callee := .value (.func f), args := #[x], argTypes := ts }, d, none)) (hf : ∀ args w, (callFunc f args).run P w = .ok (.enter f args) w) (hxe : a.eval x = u) (hc : Calls P f #[u] w R)
    (h : ∀ E w', R E w' → ∃ v, E = .returned v ∧ S w' ∧ wpAnyH P .any ops Q S fuel (listed.setIfInBounds i true) (a.put d v) w')
    (hs : AllReadyH P .any ops Q S fuel listed a w rs) : AllReadyH P .any ops Q S fuel listed a w (i :: rs) := by
  obtain ⟨o, hi', ho, rfl, hgd⟩ := op_of hi
  refine AllReadyH.cons hi' (fun K hK => step_wanted hgd ?_) hs
  have hrun : (execOp a.eval o).run P w = .ok (.enter f #[u]) w := by
    unfold execOp
    simp only [ho, resolve, invoke, Sem.run_bind, Sem.run_pure, Result.andThen_ok, List.map_toArray, List.map_cons, List.map_nil, hxe]
    exact hf _ _
  unfold Oper.wp
  rw [hrun, Oper.upon_enter]
  refine hc.mono fun E w' hh => ?_
  obtain ⟨v, rfl, h1, h2⟩ := h E w' hh
  exact hK.out _ _ h1 fun _ => h2
/-- A store of a whole struct. -/
theorem drawn_store (i : Nat) (ty : TypeId) (x y : Operand) (g : Nat) (cells old : Array Value) (t : TypeId) (hi : (ops[i]?).map (fun o => (o.op, o.dst, o.guard)) = some (.store ty x y, none, none)) (hx : a.eval x = .pointer (some ⟨g, 0, none⟩)) (hy : a.eval y = .agg cells)
    (hg : w.heap[g]? = some (.cells old t (0, 0))) (hinf : (P.info? ty).map (·.size) = some cells.size) (hold : old.size = cells.size) (h1 : cells.all (·.oneCell') = true)
    (h : ∀ w', w'.heap[g]? = some (.cells cells t (0, 0)) → w.grownBy w' (some g) → S w' ∧ wpAnyH P .any ops Q S fuel (listed.setIfInBounds i true) a w')
    (hs : AllReadyH P .any ops Q S fuel listed a w rs) : AllReadyH P .any ops Q S fuel listed a w (i :: rs) := by
  obtain ⟨o, hi', ho, hd, hgd⟩ := op_of hi
  refine AllReadyH.cons hi' (fun K hK => step_wanted hgd ?_) hs
  refine wp_store_row ty x y ho g cells hx hy t old hg hinf hold h1 ?_
  obtain ⟨h1, h2⟩ := h (w.setRow g cells) (setRow_heap w g _ _ _ _ hg) ⟨rfl, rfl, rfl, Nat.le_of_eq (by simp [World.setRow]), fun j _ hne => by
    have hne : g ≠ j := fun e => hne (by rw [e])
    simp [World.setRow, Array.getElem?_modify, hne]⟩
  refine hK.out _ _ h1 fun _ => ?_
  rw [hd]
  exact h2
theorem drawn_nil : AllReadyH P .any ops Q S fuel listed a w [] := AllReadyH.nil
end
theorem Ext.gb {a b c : World} {g : Nat} (h : Ext a b) (hg : b.grownBy c (some g)) (hge : a.heap.size ≤ g) : Ext a c := h.trans_own hg (by intro g' e; injection e with e; omega)
theorem Bx.lit {w : World} {g : Nat} {s : Bool} {A : Option Addr} {n c : Nat} (h : w.heap[g]? = some (.cells #[.bool s, .slice A n c] 24 (0, 0))) : Bx w g s A n c := h
theorem Bx.own {k : IntKind} {e : TypeId} {w w' : World} {lo g n c m d : Nat} {s : Bool} {A B : Option Addr} {ys : List Nat} (h : Bx w g s A n c) (ho : Own k e w lo B m d ys) (hne : e ≠ 24) (hg : w.grownBy w' (B.map (·.block))) : Bx w' g s A n c :=
  h.grown hg fun e' => by
    rcases ho.2 with ⟨h1, _⟩ | ⟨g1, cap, cur, h1, _, h3, _⟩
    · injection h1 with h1; rw [h1] at e'; cases e'
    · injection h1 with h1
      rw [h1] at e'
      have e' : g = g1 := by simpa using e'
      subst e'
      have h : w.heap[g]? = _ := h
      rw [h3] at h
      injection h with h
      injection h with _ h
      exact hne h
theorem one_two {b : Bool} {A : Option Addr} {n c : Nat} : (#[Value.bool b, Value.slice A n c]).all (·.oneCell') = true := by simp [Value.oneCell']
/-- The block of a store is no array of numbers. -/
theorem Own.gbx {k : IntKind} {e t : TypeId} {w w' : World} {lo g n c : Nat} {A : Option Addr} {zs : List Nat} {cs : Array Value} {fr : Nat × Nat} (h : Own k e w lo A n c zs) (hb : w.heap[g]? = some (.cells cs t fr)) (hne : e ≠ t) (hg : w.grownBy w' (some g)) : Own k e w' lo A n c zs :=
  ⟨h.1, by
    rcases h.2 with h' | ⟨g', cap, cur, h1, h2, h3, r⟩
    · exact .inl h'
    · refine .inr ⟨g', cap, cur, h1, h2, (hg.block g' (Array.getElem?_eq_some_iff.1 h3).1 (fun e' => ?_)).trans h3, r⟩
      injection e' with e'
      subst e'
      rw [h3] at hb
      injection hb with hb
      injection hb with _ hb
      exact hne hb⟩
theorem Sl.gbx {k : IntKind} {t : TypeId} {w w' : World} {g n c m d : Nat} {A B : Option Addr} {s : Bool} {zs : List Nat} (h : Sl k w A n c zs) (hb : w.heap[g]? = some (.cells #[.bool s, .slice B m d] t (0, 0))) (hg : w.grownBy w' (some g)) : Sl k w' A n c zs := by
  refine ⟨h.len, h.cap, h.max, fun hp => ?_⟩
  obtain ⟨b, o, e, hlt, hc⟩ := h.at_ hp
  have hne : some b ≠ some g := fun e' => by
    injection e' with e'
    subst e'
    have hz : zs[0]? = some (zs[0]'(by rw [h.len]; exact hp)) := List.getElem?_eq_getElem _
    have h0 := hc 0 _ hz
    simp only [World.cell?, Nat.add_zero] at h0
    rw [hb] at h0
    rcases o with _ | _ | o <;> simp at h0
  refine ⟨b, o, e, Nat.lt_of_lt_of_le hlt hg.size, fun j z hz => ?_⟩
  rw [World.cell?_of_block (a := ⟨b, o + j, none⟩) (hg.block b hlt hne)]
  exact hc j z hz
theorem Ci.gbx {K : Nat} {t : TypeId} {w w' : World} {lo g n c : Nat} {b : Bool} {A : Option Addr} {z : Int} {cs : Array Value} {fr : Nat × Nat} (h : Ci K w lo b A n c z) (hb : w.heap[g]? = some (.cells cs t fr)) (hne : 100 ≠ t) (hg : w.grownBy w' (some g)) : Ci K w' lo b A n c z := ⟨h.1, h.2.1.gbx hb hne hg, h.2.2⟩
theorem Nv.gbx {K : Nat} {t : TypeId} {w w' : World} {g n c m d l : Nat} {s : Bool} {A B : Option Addr} (h : Nv K w A n c m) (hb : w.heap[g]? = some (.cells #[.bool s, .slice B l d] t (0, 0))) (hg : w.grownBy w' (some g)) : Nv K w' A n c m := let ⟨xs, h1, h2⟩ := h; ⟨xs, h1.gbx hb hg, h2⟩
theorem Iz.gbx {K : Nat} {t : TypeId} {w w' : World} {g n c d l : Nat} {s b : Bool} {A B : Option Addr} {z : Int} (h : Iz K w b A n c z) (hb : w.heap[g]? = some (.cells #[.bool s, .slice B l d] t (0, 0))) (hg : w.grownBy w' (some g)) : Iz K w' b A n c z := let ⟨m, h1, h2⟩ := h; ⟨m, h1.gbx hb hg, h2⟩
theorem alloc_int {o : Oper} {a : Act} {w : World} (ho : o.op = .alloc 24) : (execOp a.eval o).run Try.prog w = .ok (.value (.pointer (some ⟨w.heap.size, 0, none⟩))) (w.alloc (.cells #[.bool false, .slice none 0 0] 24)) := by
  unfold execOp
  simp only [ho]
  go_simp
theorem empty_u32 {o : Oper} {a : Act} {w : World} (ho : o.op = .buildSlice 22 0 #[]) : (execOp a.eval o).run Try.prog w = .ok (.value (.slice (some ⟨w.heap.size, 0, none⟩) 0 0)) (w.alloc (.cells #[] 100)) := by
  unfold execOp
  simp only [ho]
  go_simp
theorem enters_test : ∀ args w, (callFunc 56 args).run Try.prog w = .ok (.enter 56 args) w := enters_of Try.func56 (by kernel_rfl) rfl
end Go.Proofs.Ytikkibpjchmajaa

namespace Go.Proofs.Ytikkibpjchmajaa
open Go.RowKit
open Go.Lib (hid)

def want (ops : Array Oper) (a : Act) (g : Option (Nat × Bool)) : Bool := match g with | none => true | some (j, b) => yielded ops a.tmps j == some b
section
variable {P : Program} {ops : Array Oper} {Q : Exit → Act → World → Prop} {S : World → Prop} {fuel : Nat} {listed : Array Bool} {a : Act} {w : World} {o : Oper} {rs : List Nat} {K : Act → World → Prop}
theorem op_ofg {i : Nat} {op : Op} {d : Option Tmp} {g : Option (Nat × Bool)} (hi : (ops[i]?).map (fun o => (o.op, o.dst, o.guard)) = some (op, d, g)) : ∃ o, ops[i]? = some o ∧ o.op = op ∧ o.dst = d ∧ Region.wanted o (yielded ops a.tmps) = want ops a g := by
  cases h : ops[i]? with
  | none => rw [h] at hi; cases hi
  | some o =>
    rw [h] at hi
    simp at hi
    refine ⟨o, rfl, hi.1, hi.2.1, ?_⟩
    unfold Region.wanted want
    rw [hi.2.2]
    cases g <;> rfl
theorem step_wantedG {E : Prop} (hw : Region.wanted o (yielded ops a.tmps) = true) (h : Oper.wp P o a w K Q) : if Region.wanted o (yielded ops a.tmps) = true then Oper.wp P o a w K Q else E := by
  rw [if_pos hw]; exact h
/-- What yields in every world that S names, taken first. -/
theorem drawn_freeG (i d : Nat) {v : Value} (op : Op) (g : Option (Nat × Bool)) (hi : (ops[i]?).map (fun o => (o.op, o.dst, o.guard)) = some (op, some d, g)) (hwt : want ops a g = true) (hrun : ∀ o : Oper, o.op = op → ∀ w, S w → (execOp a.eval o).run P w = .ok (.value v) w)
    (hs : Region.noSelect ops = true) (hf : Region.free .any ops listed i = true) (hr : (Region.ready .any ops listed).contains i = true) (hQ : ∀ c a v w, Q (.panic c) (a.put (some d) v) w → Q (.panic c) a w) (hw : S w)
    (h : wpAnyH P .any ops Q S fuel (listed.setIfInBounds i true) (a.put (some d) v) w) : wpAnyH P .any ops Q S (fuel + 1) listed a w := by
  obtain ⟨o, hi', ho, hd', hgd⟩ := op_ofg (a := a) hi
  exact wpAnyH_take (v := v) hi' hs hf hr (fun c a w h => hQ c a _ w (by rw [← hd']; exact h)) (Or.inl ⟨by rw [hgd]; exact hwt, fun w hw => hrun o ho w hw⟩) hw (by rw [hd']; exact h)
/-- An operation that its guard leaves out. -/
theorem drawn_skipG (i d : Nat) (op : Op) (g : Option (Nat × Bool)) (hi : (ops[i]?).map (fun o => (o.op, o.dst, o.guard)) = some (op, some d, g)) (hwt : want ops a g = false)
    (hs : Region.noSelect ops = true) (hf : Region.free .any ops listed i = true) (hr : (Region.ready .any ops listed).contains i = true) (hQ : ∀ c a v w, Q (.panic c) (a.put (some d) v) w → Q (.panic c) a w) (hw : S w)
    (h : wpAnyH P .any ops Q S fuel (listed.setIfInBounds i true) (a.put (some d) undef) w) : wpAnyH P .any ops Q S (fuel + 1) listed a w := by
  obtain ⟨o, hi', ho, hd', hgd⟩ := op_ofg (a := a) hi
  exact wpAnyH_take (v := undef) hi' hs hf hr (fun c a w h => hQ c a _ w (by rw [← hd']; exact h)) (Or.inr ⟨by rw [hgd]; exact hwt, rfl⟩) hw (by rw [hd']; exact h)
/-- A load of a whole block, taken first. -/
theorem drawn_loadG (i d : Nat) (ty : TypeId) (x : Operand) (gd : Option (Nat × Bool)) (g : Nat) (t : TypeId) (cs : Array Value) (fr : Nat × Nat) (de : TypeDesc) (hi : (ops[i]?).map (fun o => (o.op, o.dst, o.guard)) = some (.load ty x, some d, gd)) (hwt : want ops a gd = true) (hx : a.eval x = .pointer (some ⟨g, 0, none⟩))
    (hS : ∀ w, S w → w.heap[g]? = some (.cells cs t fr)) (hu : P.underlying ty = some de) (hd : (match de with | .struct _ | .array _ _ => true | _ => false) = true) (hinf : (P.info? ty).map (·.size) = some cs.size)
    (hs : Region.noSelect ops = true) (hf : Region.free .any ops listed i = true) (hr : (Region.ready .any ops listed).contains i = true) (hQ : ∀ c a v w, Q (.panic c) (a.put (some d) v) w → Q (.panic c) a w) (hw : S w)
    (h : wpAnyH P .any ops Q S fuel (listed.setIfInBounds i true) (a.put (some d) (.agg cs)) w) : wpAnyH P .any ops Q S (fuel + 1) listed a w := by
  refine drawn_freeG i d (v := .agg cs) (.load ty x) gd hi hwt (fun o ho w hw => ?_) hs hf hr hQ hw h
  unfold execOp
  simp only [ho, hx, Instr.loadAt, Instr.sureAddr, Sem.run_bind, Sem.run_pure, Result.andThen_ok, run_loadVar_row w g t ty cs fr de (hS w hw) hu hd hinf]
/-- A call by its contract. -/
theorem drawn_callG2 (i : Nat) (d : Option Tmp) {f : FuncId} (x y : Operand) {ts : Array TypeId} (g : Option (Nat × Bool)) {u v : Value} {R : Ending → World → Prop} (hi : (ops[i]?).map (fun o => (o.op, o.dst, o.guard)) = some (.call { callee := .value (.func f), args := #[x, y], argTypes := ts }, d, g)) (hwt : want ops a g = true) (hf : ∀ args w, (callFunc f args).run P w = .ok (.enter f args) w) (hxe : a.eval x = u) (hye : a.eval y = v) (hc : Calls P f #[u, v] w R)
    (h : ∀ E w', R E w' → ∃ v, E = .returned v ∧ S w' ∧ wpAnyH P .any ops Q S fuel (listed.setIfInBounds i true) (a.put d v) w')
    (hs : AllReadyH P .any ops Q S fuel listed a w rs) : AllReadyH P .any ops Q S fuel listed a w (i :: rs) := by
  obtain ⟨o, hi', ho, rfl, hgd⟩ := op_ofg (a := a) hi
  refine AllReadyH.cons hi' (fun K hK => step_wantedG (by rw [hgd]; exact hwt) ?_) hs
  have hrun : (execOp a.eval o).run P w = .ok (.enter f #[u, v]) w := by
    unfold execOp
    simp only [ho, resolve, invoke, Sem.run_bind, Sem.run_pure, Result.andThen_ok, List.map_toArray, List.map_cons, List.map_nil, hxe, hye]
    exact hf _ _
  unfold Oper.wp
  rw [hrun, Oper.upon_enter]
  refine hc.mono fun E w' hh => ?_
  obtain ⟨v, rfl, h1, h2⟩ := h E w' hh
  exact hK.out _ _ h1 fun _ => h2
theorem drawn_callG1 (i : Nat) (d : Option Tmp) {f : FuncId} (x : Operand) {ts : Array TypeId} (g : Option (Nat × Bool)) {u : Value} {R : Ending → World → Prop} (hi : (ops[i]?).map (fun o => (o.op, o.dst, o.guard)) = some (.call { callee := .value (.func f), args := #[x], argTypes := ts }, d, g)) (hwt : want ops a g = true) (hf : ∀ args w, (callFunc f args).run P w = .ok (.enter f args) w) (hxe : a.eval x = u) (hc : Calls P f #[u] w R)
    (h : ∀ E w', R E w' → ∃ v, E = .returned v ∧ S w' ∧ wpAnyH P .any ops Q S fuel (listed.setIfInBounds i true) (a.put d v) w')
    (hs : AllReadyH P .any ops Q S fuel listed a w rs) : AllReadyH P .any ops Q S fuel listed a w (i :: rs) := by
  obtain ⟨o, hi', ho, rfl, hgd⟩ := op_ofg (a := a) hi
  refine AllReadyH.cons hi' (fun K hK => step_wantedG (by rw [hgd]; exact hwt) ?_) hs
  have hrun : (execOp a.eval o).run P w = .ok (.enter f #[u]) w := by
    unfold execOp
    simp only [ho, resolve, invoke, Sem.run_bind, Sem.run_pure, Result.andThen_ok, List.map_toArray, List.map_cons, List.map_nil, hxe]
    exact hf _ _
  unfold Oper.wp
  rw [hrun, Oper.upon_enter]
  refine hc.mono fun E w' hh => ?_
  obtain ⟨v, rfl, h1, h2⟩ := h E w' hh
  exact hK.out _ _ h1 fun _ => h2
theorem drawn_callG0 (i : Nat) (d : Option Tmp) {f : FuncId} (g : Option (Nat × Bool)) {R : Ending → World → Prop} (hi : (ops[i]?).map (fun o => (o.op, o.dst, o.guard)) = some (.call { callee := .value (.func f), args := #[], argTypes := #[] }, d, g)) (hwt : want ops a g = true) (hf : ∀ args w, (callFunc f args).run P w = .ok (.enter f args) w) (hc : Calls P f #[] w R)
    (h : ∀ E w', R E w' → ∃ v, E = .returned v ∧ S w' ∧ wpAnyH P .any ops Q S fuel (listed.setIfInBounds i true) (a.put d v) w')
    (hs : AllReadyH P .any ops Q S fuel listed a w rs) : AllReadyH P .any ops Q S fuel listed a w (i :: rs) := by
  obtain ⟨o, hi', ho, rfl, hgd⟩ := op_ofg (a := a) hi
  refine AllReadyH.cons hi' (fun K hK => step_wantedG (by rw [hgd]; exact hwt) ?_) hs
  have hrun : (execOp a.eval o).run P w = .ok (.enter f #[]) w := by
    unfold execOp
    simp only [ho, resolve, invoke, Sem.run_bind, Sem.run_pure, Result.andThen_ok, List.map_toArray, List.map_nil]
    exact hf _ _
  unfold Oper.wp
  rw [hrun, Oper.upon_enter]
  refine hc.mono fun E w' hh => ?_
  obtain ⟨v, rfl, h1, h2⟩ := h E w' hh
  exact hK.out _ _ h1 fun _ => h2
end
end Go.Proofs.Ytikkibpjchmajaa

