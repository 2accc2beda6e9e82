/-
  Regions that draw their order: laws for steps under a guard.
-/
import Derived.Test.YtikkibpjchmajaaGreatPk14
namespace Go.Proofs.YtikkibpjchmajaaGreat
open Go.RowKit
open Go.Lib (hid)

def want (ops : Array Oper) (a : Act) (g : Option (Nat × Bool)) : Bool := match g with | none => true | some (j, b) => yielded ops a.tmps j == some b
section
variable {P : Program} {ops : Array Oper} {Q : Exit → Act → World → Prop} {S : World → Prop} {fuel : Nat} {listed : Array Bool} {a : Act} {w : World} {o : Oper} {rs : List Nat} {K : Act → World → Prop}
theorem op_ofg {i : Nat} {op : Op} {d : Option Tmp} {g : Option (Nat × Bool)} (hi : (ops[i]?).map (fun o => (o.op, o.dst, o.guard)) = some (op, d, g)) : ∃ o, ops[i]? = some o ∧ o.op = op ∧ o.dst = d ∧ Region.wanted o (yielded ops a.tmps) = want ops a g := by
  cases h : ops[i]? with
  | none => rw [h] at hi; cases hi
  | some o =>
    rw [h] at hi
    simp at hi
    refine ⟨o, rfl, hi.1, hi.2.1, ?_⟩
    unfold Region.wanted want
    rw [hi.2.2]
    cases g <;> rfl
theorem step_wantedG {E : Prop} (hw : Region.wanted o (yielded ops a.tmps) = true) (h : Oper.wp P o a w K Q) : if Region.wanted o (yielded ops a.tmps) = true then Oper.wp P o a w K Q else E := by
  rw [if_pos hw]; exact h
/-- What yields in every world that S names, taken first. -/
theorem drawn_freeG (i d : Nat) {v : Value} (op : Op) (g : Option (Nat × Bool)) (hi : (ops[i]?).map (fun o => (o.op, o.dst, o.guard)) = some (op, some d, g)) (hwt : want ops a g = true) (hrun : ∀ o : Oper, o.op = op → ∀ w, S w → (execOp a.eval o).run P w = .ok (.value v) w)
    (hs : Region.noSelect ops = true) (hf : Region.free .any ops listed i = true) (hr : (Region.ready .any ops listed).contains i = true) (hQ : ∀ c a v w, Q (.panic c) (a.put (some d) v) w → Q (.panic c) a w) (hw : S w)
    (h : wpAnyH P .any ops Q S fuel (listed.setIfInBounds i true) (a.put (some d) v) w) : wpAnyH P .any ops Q S (fuel + 1) listed a w := by
  obtain ⟨o, hi', ho, hd', hgd⟩ := op_ofg (a := a) hi
  exact wpAnyH_take (v := v) hi' hs hf hr (fun c a w h => hQ c a _ w (by rw [← hd']; exact h)) (Or.inl ⟨by rw [hgd]; exact hwt, fun w hw => hrun o ho w hw⟩) hw (by rw [hd']; exact h)
/-- An operation that its guard leaves out. -/
theorem drawn_skipG (i d : Nat) (op : Op) (g : Option (Nat × Bool)) (hi : (ops[i]?).map (fun o => (o.op, o.dst, o.guard)) = some (op, some d, g)) (hwt : want ops a g = false)
    (hs : Region.noSelect ops = true) (hf : Region.free .any ops listed i = true) (hr : (Region.ready .any ops listed).contains i = true) (hQ : ∀ c a v w, Q (.panic c) (a.put (some d) v) w → Q (.panic c) a w) (hw : S w)
    (h : wpAnyH P .any ops Q S fuel (listed.setIfInBounds i true) (a.put (some d) undef) w) : wpAnyH P .any ops Q S (fuel + 1) listed a w := by
  obtain ⟨o, hi', ho, hd', hgd⟩ := op_ofg (a := a) hi
  exact wpAnyH_take (v := undef) hi' hs hf hr (fun c a w h => hQ c a _ w (by rw [← hd']; exact h)) (Or.inr ⟨by rw [hgd]; exact hwt, rfl⟩) hw (by rw [hd']; exact h)
/-- A load of a whole block, taken first. -/
theorem drawn_loadG (i d : Nat) (ty : TypeId) (x : Operand) (gd : Option (Nat × Bool)) (g : Nat) (t : TypeId) (cs : Array Value) (fr : Nat × Nat) (de : TypeDesc) (hi : (ops[i]?).map (fun o => (o.op, o.dst, o.guard)) = some (.load ty x, some d, gd)) (hwt : want ops a gd = true) (hx : a.eval x = .pointer (some ⟨g, 0, none⟩))
    (hS : ∀ w, S w → w.heap[g]? = some (.cells cs t fr)) (hu : P.underlying ty = some de) (hd : (match de with | .struct _ | .array _ _ => true | _ => false) = true) (hinf : (P.info? ty).map (·.size) = some cs.size)
    (hs : Region.noSelect ops = true) (hf : Region.free .any ops listed i = true) (hr : (Region.ready .any ops listed).contains i = true) (hQ : ∀ c a v w, Q (.panic c) (a.put (some d) v) w → Q (.panic c) a w) (hw : S w)
    (h : wpAnyH P .any ops Q S fuel (listed.setIfInBounds i true) (a.put (some d) (.agg cs)) w) : wpAnyH P .any ops Q S (fuel + 1) listed a w := by
  refine drawn_freeG i d (v := .agg cs) (.load ty x) gd hi hwt (fun o ho w hw => ?_) hs hf hr hQ hw h
  unfold execOp
  simp only [ho, hx, Instr.loadAt, Instr.sureAddr, Sem.run_bind, Sem.run_pure, Result.andThen_ok, run_loadVar_row w g t ty cs fr de (hS w hw) hu hd hinf]
/-- A call by its contract. -/
theorem drawn_callG2 (i : Nat) (d : Option Tmp) {f : FuncId} (x y : Operand) {ts : Array TypeId} (g : Option (Nat × Bool)) {u v : Value} {R : Ending → World → Prop} (hi : (ops[i]?).map (fun o => (o.op, o.dst, o.guard)) = some (.call { callee := .value (.func f), args := #[x, y], argTypes := ts }, d, g)) (hwt : want ops a g = true) (hf : ∀ args w, (callFunc f args).run P w = .ok (.enter f args) w) (hxe : a.eval x = u) (hye : a.eval y = v) (hc : Calls P f #[u, v] w R)
    (h : ∀ E w', R E w' → ∃ v, E = .returned v ∧ S w' ∧ wpAnyH P .any ops Q S fuel (listed.setIfInBounds i true) (a.put d v) w')
    (hs : AllReadyH P .any ops Q S fuel listed a w rs) : AllReadyH P .any ops Q S fuel listed a w (i :: rs) := by
  obtain ⟨o, hi', ho, rfl, hgd⟩ := op_ofg (a := a) hi
  refine AllReadyH.cons hi' (fun K hK => step_wantedG (by rw [hgd]; exact hwt) ?_) hs
  have hrun : (execOp a.eval o).run P w = .ok (.enter f #[u, v]) w := by
    unfold execOp
    simp only [ho, resolve, invoke, Sem.run_bind, Sem.run_pure, Result.andThen_ok, List.map_toArray, List.map_cons, List.map_nil, hxe, hye]
    exact hf _ _
  unfold Oper.wp
  rw [hrun, Oper.upon_enter]
  refine hc.mono fun E w' hh => ?_
  obtain ⟨v, rfl, h1, h2⟩ := h E w' hh
  exact hK.out _ _ h1 fun _ => h2
theorem drawn_callG1 (i : Nat) (d : Option Tmp) {f : FuncId} (x : Operand) {ts : Array TypeId} (g : Option (Nat × Bool)) {u : Value} {R : Ending → World → Prop} (hi : (ops[i]?).map (fun o => (o.op, o.dst, o.guard)) = some (.call { callee := .value (.func f), args := #[x], argTypes := ts }, d, g)) (hwt : want ops a g = true) (hf : ∀ args w, (callFunc f args).run P w = .ok (.enter f args) w) (hxe : a.eval x = u) (hc : Calls P f #[u] w R)
    (h : ∀ E w', R E w' → ∃ v, E = .returned v ∧ S w' ∧ wpAnyH P .any ops Q S fuel (listed.setIfInBounds i true) (a.put d v) w')
    (hs : AllReadyH P .any ops Q S fuel listed a w rs) : AllReadyH P .any ops Q S fuel listed a w (i :: rs) := by
  obtain ⟨o, hi', ho, rfl, hgd⟩ := op_ofg (a := a) hi
  refine AllReadyH.cons hi' (fun K hK => step_wantedG (by rw [hgd]; exact hwt) ?_) hs
  have hrun : (execOp a.eval o).run P w = .ok (.enter f #[u]) w := by
    unfold execOp
    simp only [ho, resolve, invoke, Sem.run_bind, Sem.run_pure, Result.andThen_ok, List.map_toArray, List.map_cons, List.map_nil, hxe]
    exact hf _ _
  unfold Oper.wp
  rw [hrun, Oper.upon_enter]
  refine hc.mono fun E w' hh => ?_
  obtain ⟨v, rfl, h1, h2⟩ := h E w' hh
  exact hK.out _ _ h1 fun _ => h2
theorem drawn_callG0 (i : Nat) (d : Option Tmp) {f : FuncId} (g : Option (Nat × Bool)) {R : Ending → World → Prop} (hi : (ops[i]?).map (fun o => (o.op, o.dst, o.guard)) = some (.call { callee := .value (.func f), args := #[], argTypes := #[] }, d, g)) (hwt : want ops a g = true) (hf : ∀ args w, (callFunc f args).run P w = .ok (.enter f args) w) (hc : Calls P f #[] w R)
    (h : ∀ E w', R E w' → ∃ v, E = .returned v ∧ S w' ∧ wpAnyH P .any ops Q S fuel (listed.setIfInBounds i true) (a.put d v) w')
    (hs : AllReadyH P .any ops Q S fuel listed a w rs) : AllReadyH P .any ops Q S fuel listed a w (i :: rs) := by
  obtain ⟨o, hi', ho, rfl, hgd⟩ := op_ofg (a := a) hi
  refine AllReadyH.cons hi' (fun K hK => step_wantedG (by rw [hgd]; exact hwt) ?_) hs
  have hrun : (execOp a.eval o).run P w = .ok (.enter f #[]) w := by
    unfold execOp
    simp only [ho, resolve, invoke, Sem.run_bind, Sem.run_pure, Result.andThen_ok, List.map_toArray, List.map_nil]
    exact hf _ _
  unfold Oper.wp
  rw [hrun, Oper.upon_enter]
  refine hc.mono fun E w' hh => ?_
  obtain ⟨v, rfl, h1, h2⟩ := h E w' hh
  exact hK.out _ _ h1 fun _ => h2
end
end Go.Proofs.YtikkibpjchmajaaGreat

