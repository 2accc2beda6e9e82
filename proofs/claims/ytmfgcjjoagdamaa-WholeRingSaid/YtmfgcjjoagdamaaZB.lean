
/-
  append(s, xs...) onto an empty slice of the call's own: a copy in memory of its own.
  Regions that draw their order and make variables beside calls: laws for a step, each world behind it a letter.
  Regions that draw their order: laws for steps under a guard.
  The contracts of the document's whole numbers: Neg, Sign, Mul.
  Regions that make variables of the document's whole numbers.
  The contracts of the document's whole numbers: Add, Sub, Cmp, Small.
  The contracts of the document's whole numbers: Small, DivMod, Gcd, Pow, May.
  Rests that are 0; powers by their value. Printed by wip/gen/law4.py.
  Signs: of products, negatives; they stay within a word.
-/
import Derived.Test.YtmfgcjjoagdamaaInt
import Derived.Deep.AppendLies
import Derived.Deep.RegionHeld3
import Derived.Deep.DeepCutAuto
import Derived.Test.YtmfgcjjoagdamaaZ
import Derived.Test.YtmfgcjjoagdamaaZ2
import Derived.Test.YtmfgcjjoagdamaaWDiv
import Derived.Deep.LoopGhost
import Derived.Test.YtmfgcjjoagdamaaSg
namespace Go.Proofs.Ytmfgcjjoagdamaa
open Go.RowKit
open Go.Lib (hid)

section
variable {P : Program} {w0 w : World} {t ty e : TypeId} {k : IntKind} {bytes : Nat} {A B : Option Addr} {n c d : Nat} {xs : List Nat}
theorem run_own (h1 : P.underlying t = some (.slice e)) (hi : (P.info? e).map (fun i => (i.zero, i.size, i.bytes)) = some (some (.int k 0), 1, bytes)) (hB : Own k e w w0.heap.size B 0 d []) (hs : Sl k w A n c xs) (hx : Ext w0 w) (hb : n * bytes ≤ 140737488355328) (hn : n ≤ maxLen) :
    ∃ A' c' w', (Builtin.append_ #[t, t] ty #[.slice B 0 d, .slice A n c]).run P w = .ok (.slice A' n c') w' ∧ Own k e w' w0.heap.size A' n c' xs ∧ Ext w0 w' ∧ w.grownBy w' (B.map (·.block)) := by
  obtain ⟨i, hi1, hi2, hi3, hi4⟩ := info_parts hi
  cases A with
  | none =>
    have h0 : n = 0 := by
      rcases Nat.eq_zero_or_pos n with h | h
      · exact h
      · obtain ⟨b, o, e, _⟩ := hs.at_ h; cases e
    subst h0
    have hl : xs = [] := List.eq_nil_of_length_eq_zero hs.len
    subst hl
    refine ⟨B, d, w, ?_, hB, hx, gb_refl _ _⟩
    rcases hB.2 with ⟨hv, _⟩ | ⟨g, cap, cur, hv, _, _, hnc, _⟩
    · injection hv with hv1 _ hv2
      subst hv1; subst hv2
      simp [Builtin.append_, run_underlying h1, sizeOf, typeInfo, hi1, Builtin.lenOf, Builtin.firstCells]
    · injection hv with hv1 _ hv2
      subst hv1; subst hv2
      simp [Builtin.append_, run_underlying h1, sizeOf, typeInfo, hi1, Builtin.lenOf, Builtin.firstCells, storeCells]
  | some a =>
    have hcell : ∀ j u, (xs.map fun z : Nat => Value.int k (z : Int))[j]? = some u → w.cell? (a.add j) = some u := fun j u hj => by
      have hjn : j < n := by
        have := (List.getElem?_eq_some_iff.1 hj).1
        rw [List.length_map, hs.len] at this; exact this
      obtain ⟨b, o, e, _, hc⟩ := hs.at_ (by omega)
      injection e with e
      subst e
      rw [List.getElem?_map] at hj
      cases hz : xs[j]? with
      | none => rw [hz] at hj; simp at hj
      | some z =>
        rw [hz] at hj
        have hj' : Value.int k (z : Int) = u := by simpa using hj
        rw [← hj', Addr.add_lit]
        exact hc j z hz
    obtain ⟨v', w', hr, h2, h3, _, _⟩ := Go.run_append_own_at (P := P) w w0.heap.size t ty e i (.int k 0) 1 bytes h1 hi1 hi2 hi3 hi4 rfl (by omega) (.slice B 0 d) 0 [] hB a n c (xs.map fun z : Nat => Value.int k (z : Int)) (by rw [List.length_map, hs.len, Nat.mul_one]) hcell
      (fun u hu => by obtain ⟨z, _, rfl⟩ := List.mem_map.1 hu; rfl) (by omega) (by rw [Nat.zero_add]; exact hb) hx.size
    rw [List.nil_append, Nat.zero_add] at h2
    have hform : ∃ A' c', v' = .slice A' n c' := by
      rcases h2.2 with ⟨hv, h0⟩ | ⟨g, cap, cur, hv, _⟩
      · exact ⟨none, 0, by rw [hv, h0]⟩
      · exact ⟨_, _, hv⟩
    obtain ⟨A', c', rfl⟩ := hform
    have hrow : (Value.slice B 0 d).ownBlock = B.map (·.block) := by
      rcases hB.form with ⟨rfl, _, _⟩ | ⟨g', rfl, _, _⟩ <;> rfl
    rw [hrow] at h3
    refine ⟨A', c', w', hr, h2, hx.trans_own h3 fun g hg => ?_, h3⟩
    rcases hB.form with ⟨rfl, _, _⟩ | ⟨g', rfl, hl, _⟩
    · cases hg
    · have : g' = g := by simpa using hg
      omega

variable {ops : Array Oper} {rest : List Oper} {o : Oper} {a : Act} {Q : Exit → Act → World → Prop} {K : Act → World → Prop} {E : Prop}
theorem wp_own (s x : Operand) (t : TypeId) (ho : o.op = .call { callee := .builtin .append, args := #[s, x], argTypes := #[t, t] }) (h1 : P.underlying t = some (.slice e)) (hi : (P.info? e).map (fun i => (i.zero, i.size, i.bytes)) = some (some (.int k 0), 1, bytes))
    (hse : a.eval s = .slice B 0 d) (hxe : a.eval x = .slice A n c) (hB : Own k e w w0.heap.size B 0 d []) (hs : Sl k w A n c xs) (hx : Ext w0 w) (hb : n * bytes ≤ 140737488355328) (hn : n ≤ maxLen)
    (h : ∀ A' c' w', Own k e w' w0.heap.size A' n c' xs → Ext w0 w' → K (a.put o.dst (.slice A' n c')) w') : o.wp P a w K Q := by
  obtain ⟨A', c', w', hr, h2, h3, _⟩ := run_own (P := P) (ty := o.type) h1 hi hB hs hx hb hn
  unfold Oper.wp execOp
  simp only [ho, resolve, invoke, builtin, Sem.run_bind, Sem.run_pure, Result.andThen_ok, List.map_toArray, List.map_cons, List.map_nil, hse, hxe, hr]
  exact h A' c' w' h2 h3
theorem wp_own' (s x : Operand) (t : TypeId) (ho : o.op = .call { callee := .builtin .append, args := #[s, x], argTypes := #[t, t] }) (h1 : P.underlying t = some (.slice e)) (hi : (P.info? e).map (fun i => (i.zero, i.size, i.bytes)) = some (some (.int k 0), 1, bytes))
    (hse : a.eval s = .slice B 0 d) (hxe : a.eval x = .slice A n c) (hB : Own k e w w0.heap.size B 0 d []) (hs : Sl k w A n c xs) (hx : Ext w0 w) (hb : n * bytes ≤ 140737488355328) (hn : n ≤ maxLen)
    (h : ∀ A' c' w', Own k e w' w0.heap.size A' n c' xs → Ext w0 w' → w.grownBy w' (B.map (·.block)) → K (a.put o.dst (.slice A' n c')) w') : o.wp P a w K Q := by
  obtain ⟨A', c', w', hr, h2, h3, h4⟩ := run_own (P := P) (ty := o.type) h1 hi hB hs hx hb hn
  unfold Oper.wp execOp
  simp only [ho, resolve, invoke, builtin, Sem.run_bind, Sem.run_pure, Result.andThen_ok, List.map_toArray, List.map_cons, List.map_nil, hse, hxe, hr]
  exact h A' c' w' h2 h3 h4
theorem wpl_own (hgd : o.guard = none) (s x : Operand) (t : TypeId) (ho : o.op = .call { callee := .builtin .append, args := #[s, x], argTypes := #[t, t] }) (h1 : P.underlying t = some (.slice e)) (hi : (P.info? e).map (fun i => (i.zero, i.size, i.bytes)) = some (some (.int k 0), 1, bytes))
    (hse : a.eval s = .slice B 0 d) (hxe : a.eval x = .slice A n c) (hB : Own k e w w0.heap.size B 0 d []) (hs : Sl k w A n c xs) (hx : Ext w0 w) (hb : n * bytes ≤ 140737488355328) (hn : n ≤ maxLen)
    (h : ∀ A' c' w', Own k e w' w0.heap.size A' n c' xs → Ext w0 w' → wpList P ops Q rest (a.put o.dst (.slice A' n c')) w') : wpList P ops Q (o :: rest) a w :=
  wpList_plain hgd fun _ hK => wp_own s x t ho h1 hi hse hxe hB hs hx hb hn fun A' c' w' h2 h3 => hK _ _ (h A' c' w' h2 h3)
theorem step_own (hgd : o.guard = none) (s x : Operand) (t : TypeId) (ho : o.op = .call { callee := .builtin .append, args := #[s, x], argTypes := #[t, t] }) (h1 : P.underlying t = some (.slice e)) (hi : (P.info? e).map (fun i => (i.zero, i.size, i.bytes)) = some (some (.int k 0), 1, bytes))
    (hse : a.eval s = .slice B 0 d) (hxe : a.eval x = .slice A n c) (hB : Own k e w w0.heap.size B 0 d []) (hs : Sl k w A n c xs) (hx : Ext w0 w) (hb : n * bytes ≤ 140737488355328) (hn : n ≤ maxLen)
    (h : ∀ A' c' w', Own k e w' w0.heap.size A' n c' xs → Ext w0 w' → K (a.put o.dst (.slice A' n c')) w') : if Region.wanted o (yielded ops a.tmps) = true then Oper.wp P o a w K Q else E := by
  have hw : Region.wanted o (yielded ops a.tmps) = true := by simp [Region.wanted, hgd]
  rw [if_pos hw]
  exact wp_own s x t ho h1 hi hse hxe hB hs hx hb hn h
/-- An empty literal. -/
theorem own_empty (w : World) (k : IntKind) (e : TypeId) : Own k e (w.alloc (.cells #[] e)) w.heap.size (some ⟨w.heap.size, 0, none⟩) 0 0 [] := Own.lit (k := k) (e := e) w [] 0 rfl (by simp [maxLen])
end
end Go.Proofs.Ytmfgcjjoagdamaa

namespace Go.Proofs.Ytmfgcjjoagdamaa
open Go.RowKit
open Go.Lib (hid)

section
variable {P : Program} {ops : Array Oper} {Q : Exit → Act → World → Prop} {S : World → Prop} {fuel i : Nat} {listed : Array Bool} {a : Act} {w : World} {o : Oper} {rs : List Nat} {K : Act → World → Prop}
theorem step_wanted {E : Prop} (hg : o.guard = none) (h : Oper.wp P o a w K Q) : if Region.wanted o (yielded ops a.tmps) = true then Oper.wp P o a w K Q else E := by
  have hw : Region.wanted o (yielded ops a.tmps) = true := by simp [Region.wanted, hg]
  rw [if_pos hw]; exact h
theorem op_of {op : Op} {d : Option Tmp} (hi : (ops[i]?).map (fun o => (o.op, o.dst, o.guard)) = some (op, d, none)) : ∃ o, ops[i]? = some o ∧ o.op = op ∧ o.dst = d ∧ o.guard = none := by
  cases h : ops[i]? with
  | none => rw [h] at hi; cases hi
  | some o => rw [h] at hi; simp at hi; exact ⟨o, rfl, hi⟩
/-- A load of a whole block, taken first. -/
theorem drawn_load (i d : Nat) (ty : TypeId) (x : Operand) (g : Nat) (t : TypeId) (cs : Array Value) (fr : Nat × Nat) (de : TypeDesc) (hi : (ops[i]?).map (fun o => (o.op, o.dst, o.guard)) = some (.load ty x, some d, none)) (hx : a.eval x = .pointer (some ⟨g, 0, none⟩))
    (hS : ∀ w, S w → w.heap[g]? = some (.cells cs t fr)) (hu : P.underlying ty = some de) (hd : (match de with | .struct _ | .array _ _ => true | _ => false) = true) (hinf : (P.info? ty).map (·.size) = some cs.size)
    (hs : Region.noSelect ops = true) (hf : Region.free .any ops listed i = true) (hr : (Region.ready .any ops listed).contains i = true) (hQ : ∀ c a v w, Q (.panic c) (a.put (some d) v) w → Q (.panic c) a w) (hw : S w)
    (h : wpAnyH P .any ops Q S fuel (listed.setIfInBounds i true) (a.put (some d) (.agg cs)) w) : wpAnyH P .any ops Q S (fuel + 1) listed a w := by
  obtain ⟨o, hi', ho, hd', hgd⟩ := op_of hi
  refine wpAnyH_take (v := .agg cs) hi' hs hf hr (fun c a w h => hQ c a _ w (by rw [← hd']; exact h)) (Or.inl ⟨by simp [Region.wanted, hgd], fun w hw => by
    unfold execOp
    simp only [ho, hx, Instr.loadAt, Instr.sureAddr, Sem.run_bind, Sem.run_pure, Result.andThen_ok, run_loadVar_row w g t ty cs fr de (hS w hw) hu hd hinf]⟩) hw (by rw [hd']; exact h)
/-- What yields in every world that S names, taken first. -/
theorem drawn_free (i d : Nat) {v : Value} (op : Op) (hi : (ops[i]?).map (fun o => (o.op, o.dst, o.guard)) = some (op, some d, none)) (hrun : ∀ o : Oper, o.op = op → ∀ w, S w → (execOp a.eval o).run P w = .ok (.value v) w)
    (hs : Region.noSelect ops = true) (hf : Region.free .any ops listed i = true) (hr : (Region.ready .any ops listed).contains i = true) (hQ : ∀ c a v w, Q (.panic c) (a.put (some d) v) w → Q (.panic c) a w) (hw : S w)
    (h : wpAnyH P .any ops Q S fuel (listed.setIfInBounds i true) (a.put (some d) v) w) : wpAnyH P .any ops Q S (fuel + 1) listed a w := by
  obtain ⟨o, hi', ho, hd', hgd⟩ := op_of hi
  exact wpAnyH_take (v := v) hi' hs hf hr (fun c a w h => hQ c a _ w (by rw [← hd']; exact h)) (Or.inl ⟨by simp [Region.wanted, hgd], fun w hw => hrun o ho w hw⟩) hw (by rw [hd']; exact h)
/-- A variable is made. -/
theorem drawn_alloc (i : Nat) (d : Option Tmp) {zs : Array Value} {T : TypeId} (hi : (ops[i]?).map (fun o => (o.op, o.dst, o.guard)) = some (.alloc T, d, none)) (hrun : ∀ {o : Oper}, o.op = .alloc T → (execOp a.eval o).run P w = .ok (.value (.pointer (some ⟨w.heap.size, 0, none⟩))) (w.alloc (.cells zs T)))
    (h : ∀ g w', w'.heap[g]? = some (.cells zs T (0, 0)) → Ext w w' → w.heap.size ≤ g → S w' ∧ wpAnyH P .any ops Q S fuel (listed.setIfInBounds i true) (a.put d (.pointer (some ⟨g, 0, none⟩))) w')
    (hs : AllReadyH P .any ops Q S fuel listed a w rs) : AllReadyH P .any ops Q S fuel listed a w (i :: rs) := by
  obtain ⟨o, hi', ho, rfl, hgd⟩ := op_of hi
  refine AllReadyH.cons hi' (fun K hK => step_wanted hgd ?_) hs
  unfold Oper.wp
  rw [hrun ho, Oper.upon_value]
  obtain ⟨h1, h2⟩ := h w.heap.size (w.alloc (.cells zs T)) (heap_alloc_new _ _) ((Ext.refl w).alloc _) (Nat.le_refl _)
  exact hK.out _ _ h1 fun _ => h2
/-- An empty slice. -/
theorem drawn_empty (i : Nat) (d : Option Tmp) {t e : TypeId} (k : IntKind) (hi : (ops[i]?).map (fun o => (o.op, o.dst, o.guard)) = some (.buildSlice t 0 #[], d, none)) (hrun : ∀ {o : Oper}, o.op = .buildSlice t 0 #[] → (execOp a.eval o).run P w = .ok (.value (.slice (some ⟨w.heap.size, 0, none⟩) 0 0)) (w.alloc (.cells #[] e)))
    (h : ∀ g w', Own k e w' w.heap.size (some ⟨g, 0, none⟩) 0 0 [] → Ext w w' → S w' ∧ wpAnyH P .any ops Q S fuel (listed.setIfInBounds i true) (a.put d (.slice (some ⟨g, 0, none⟩) 0 0)) w')
    (hs : AllReadyH P .any ops Q S fuel listed a w rs) : AllReadyH P .any ops Q S fuel listed a w (i :: rs) := by
  obtain ⟨o, hi', ho, rfl, hgd⟩ := op_of hi
  refine AllReadyH.cons hi' (fun K hK => step_wanted hgd ?_) hs
  unfold Oper.wp
  rw [hrun ho, Oper.upon_value]
  obtain ⟨h1, h2⟩ := h w.heap.size (w.alloc (.cells #[] e)) (own_empty w k e) ((Ext.refl w).alloc _)
  exact hK.out _ _ h1 fun _ => h2
/-- append onto an empty slice. -/
theorem drawn_own (i : Nat) (d' : Option Tmp) {w0 : World} {e : TypeId} {k : IntKind} {bytes : Nat} {A B : Option Addr} {n c d : Nat} {xs : List Nat} (s x : Operand) (t : TypeId) (hi : (ops[i]?).map (fun o => (o.op, o.dst, o.guard)) = some (.call { callee := .builtin .append, args := #[s, x], argTypes := #[t, t] }, d', none)) (h1 : P.underlying t = some (.slice e)) (hinf : (P.info? e).map (fun i => (i.zero, i.size, i.bytes)) = some (some (.int k 0), 1, bytes))
    (hse : a.eval s = .slice B 0 d) (hxe : a.eval x = .slice A n c) (hB : Own k e w w0.heap.size B 0 d []) (hsl : Sl k w A n c xs) (hx : Ext w0 w) (hb : n * bytes ≤ 140737488355328) (hn : n ≤ maxLen)
    (h : ∀ A' c' w', Own k e w' w0.heap.size A' n c' xs → Ext w0 w' → w.grownBy w' (B.map (·.block)) → S w' ∧ wpAnyH P .any ops Q S fuel (listed.setIfInBounds i true) (a.put d' (.slice A' n c')) w')
    (hs : AllReadyH P .any ops Q S fuel listed a w rs) : AllReadyH P .any ops Q S fuel listed a w (i :: rs) := by
  obtain ⟨o, hi', ho, rfl, hgd⟩ := op_of hi
  refine AllReadyH.cons hi' (fun K hK => step_wanted hgd ?_) hs
  refine wp_own' s x t ho h1 hinf hse hxe hB hsl hx hb hn fun A' c' w' h2 h3 h4 => ?_
  obtain ⟨h5, h6⟩ := h A' c' w' h2 h3 h4
  exact hK.out _ _ h5 fun _ => h6
/-- A call by its contract. -/
theorem drawn_call2 (i : Nat) (d : Option Tmp) {f : FuncId} (x y : Operand) {ts : Array TypeId} {u v : Value} {R : Ending → World → Prop} (hi : (ops[i]?).map (fun o => (o.op, o.dst, o.guard)) = some (.call { callee := .value (.func f), args := #[x, y], argTypes := ts }, d, none)) (hf : ∀ args w, (callFunc f args).run P w = .ok (.enter f args) w) (hxe : a.eval x = u) (hye : a.eval y = v) (hc : Calls P f #[u, v] w R)
    (h : ∀ E w', R E w' → ∃ v, E = .returned v ∧ S w' ∧ wpAnyH P .any ops Q S fuel (listed.setIfInBounds i true) (a.put d v) w')
    (hs : AllReadyH P .any ops Q S fuel listed a w rs) : AllReadyH P .any ops Q S fuel listed a w (i :: rs) := by
  obtain ⟨o, hi', ho, rfl, hgd⟩ := op_of hi
  refine AllReadyH.cons hi' (fun K hK => step_wanted hgd ?_) hs
  have hrun : (execOp a.eval o).run P w = .ok (.enter f #[u, v]) w := by
    unfold execOp
    simp only [ho, resolve, invoke, Sem.run_bind, Sem.run_pure, Result.andThen_ok, List.map_toArray, List.map_cons, List.map_nil, hxe, hye]
    exact hf _ _
  unfold Oper.wp
  rw [hrun, Oper.upon_enter]
  refine hc.mono fun E w' hh => ?_
  obtain ⟨v, rfl, h1, h2⟩ := h E w' hh
  exact hK.out _ _ h1 fun _ => h2
theorem drawn_call1 (i : Nat) (d : Option Tmp) {f : FuncId} (x : Operand) {ts : Array TypeId} {u : Value} {R : Ending → World → Prop} (hi : (ops[i]?).map (fun o => (o.op, o.dst, o.guard)) = some (.call { callee := .value (.func f), args := #[x], argTypes := ts }, d, none)) (hf : ∀ args w, (callFunc f args).run P w = .ok (.enter f args) w) (hxe : a.eval x = u) (hc : Calls P f #[u] w R)
    (h : ∀ E w', R E w' → ∃ v, E = .returned v ∧ S w' ∧ wpAnyH P .any ops Q S fuel (listed.setIfInBounds i true) (a.put d v) w')
    (hs : AllReadyH P .any ops Q S fuel listed a w rs) : AllReadyH P .any ops Q S fuel listed a w (i :: rs) := by
  obtain ⟨o, hi', ho, rfl, hgd⟩ := op_of hi
  refine AllReadyH.cons hi' (fun K hK => step_wanted hgd ?_) hs
  have hrun : (execOp a.eval o).run P w = .ok (.enter f #[u]) w := by
    unfold execOp
    simp only [ho, resolve, invoke, Sem.run_bind, Sem.run_pure, Result.andThen_ok, List.map_toArray, List.map_cons, List.map_nil, hxe]
    exact hf _ _
  unfold Oper.wp
  rw [hrun, Oper.upon_enter]
  refine hc.mono fun E w' hh => ?_
  obtain ⟨v, rfl, h1, h2⟩ := h E w' hh
  exact hK.out _ _ h1 fun _ => h2
/-- A store of a whole struct. -/
theorem drawn_store (i : Nat) (ty : TypeId) (x y : Operand) (g : Nat) (cells old : Array Value) (t : TypeId) (hi : (ops[i]?).map (fun o => (o.op, o.dst, o.guard)) = some (.store ty x y, none, none)) (hx : a.eval x = .pointer (some ⟨g, 0, none⟩)) (hy : a.eval y = .agg cells)
    (hg : w.heap[g]? = some (.cells old t (0, 0))) (hinf : (P.info? ty).map (·.size) = some cells.size) (hold : old.size = cells.size) (h1 : cells.all (·.oneCell') = true)
    (h : ∀ w', w'.heap[g]? = some (.cells cells t (0, 0)) → w.grownBy w' (some g) → S w' ∧ wpAnyH P .any ops Q S fuel (listed.setIfInBounds i true) a w')
    (hs : AllReadyH P .any ops Q S fuel listed a w rs) : AllReadyH P .any ops Q S fuel listed a w (i :: rs) := by
  obtain ⟨o, hi', ho, hd, hgd⟩ := op_of hi
  refine AllReadyH.cons hi' (fun K hK => step_wanted hgd ?_) hs
  refine wp_store_row ty x y ho g cells hx hy t old hg hinf hold h1 ?_
  obtain ⟨h1, h2⟩ := h (w.setRow g cells) (setRow_heap w g _ _ _ _ hg) ⟨rfl, rfl, rfl, Nat.le_of_eq (by simp [World.setRow]), fun j _ hne => by
    have hne : g ≠ j := fun e => hne (by rw [e])
    simp [World.setRow, Array.getElem?_modify, hne]⟩
  refine hK.out _ _ h1 fun _ => ?_
  rw [hd]
  exact h2
theorem drawn_nil : AllReadyH P .any ops Q S fuel listed a w [] := AllReadyH.nil
end
theorem Ext.gb {a b c : World} {g : Nat} (h : Ext a b) (hg : b.grownBy c (some g)) (hge : a.heap.size ≤ g) : Ext a c := h.trans_own hg (by intro g' e; injection e with e; omega)
theorem Bx.lit {w : World} {g : Nat} {s : Bool} {A : Option Addr} {n c : Nat} (h : w.heap[g]? = some (.cells #[.bool s, .slice A n c] 24 (0, 0))) : Bx w g s A n c := h
theorem Bx.own {k : IntKind} {e : TypeId} {w w' : World} {lo g n c m d : Nat} {s : Bool} {A B : Option Addr} {ys : List Nat} (h : Bx w g s A n c) (ho : Own k e w lo B m d ys) (hne : e ≠ 24) (hg : w.grownBy w' (B.map (·.block))) : Bx w' g s A n c :=
  h.grown hg fun e' => by
    rcases ho.2 with ⟨h1, _⟩ | ⟨g1, cap, cur, h1, _, h3, _⟩
    · injection h1 with h1; rw [h1] at e'; cases e'
    · injection h1 with h1
      rw [h1] at e'
      have e' : g = g1 := by simpa using e'
      subst e'
      have h : w.heap[g]? = _ := h
      rw [h3] at h
      injection h with h
      injection h with _ h
      exact hne h
theorem one_two {b : Bool} {A : Option Addr} {n c : Nat} : (#[Value.bool b, Value.slice A n c]).all (·.oneCell') = true := by simp [Value.oneCell']
/-- The block of a store is no array of numbers. -/
theorem Own.gbx {k : IntKind} {e t : TypeId} {w w' : World} {lo g n c : Nat} {A : Option Addr} {zs : List Nat} {cs : Array Value} {fr : Nat × Nat} (h : Own k e w lo A n c zs) (hb : w.heap[g]? = some (.cells cs t fr)) (hne : e ≠ t) (hg : w.grownBy w' (some g)) : Own k e w' lo A n c zs :=
  ⟨h.1, by
    rcases h.2 with h' | ⟨g', cap, cur, h1, h2, h3, r⟩
    · exact .inl h'
    · refine .inr ⟨g', cap, cur, h1, h2, (hg.block g' (Array.getElem?_eq_some_iff.1 h3).1 (fun e' => ?_)).trans h3, r⟩
      injection e' with e'
      subst e'
      rw [h3] at hb
      injection hb with hb
      injection hb with _ hb
      exact hne hb⟩
theorem Sl.gbx {k : IntKind} {t : TypeId} {w w' : World} {g n c m d : Nat} {A B : Option Addr} {s : Bool} {zs : List Nat} (h : Sl k w A n c zs) (hb : w.heap[g]? = some (.cells #[.bool s, .slice B m d] t (0, 0))) (hg : w.grownBy w' (some g)) : Sl k w' A n c zs := by
  refine ⟨h.len, h.cap, h.max, fun hp => ?_⟩
  obtain ⟨b, o, e, hlt, hc⟩ := h.at_ hp
  have hne : some b ≠ some g := fun e' => by
    injection e' with e'
    subst e'
    have hz : zs[0]? = some (zs[0]'(by rw [h.len]; exact hp)) := List.getElem?_eq_getElem _
    have h0 := hc 0 _ hz
    simp only [World.cell?, Nat.add_zero] at h0
    rw [hb] at h0
    rcases o with _ | _ | o <;> simp at h0
  refine ⟨b, o, e, Nat.lt_of_lt_of_le hlt hg.size, fun j z hz => ?_⟩
  rw [World.cell?_of_block (a := ⟨b, o + j, none⟩) (hg.block b hlt hne)]
  exact hc j z hz
theorem Ci.gbx {K : Nat} {t : TypeId} {w w' : World} {lo g n c : Nat} {b : Bool} {A : Option Addr} {z : Int} {cs : Array Value} {fr : Nat × Nat} (h : Ci K w lo b A n c z) (hb : w.heap[g]? = some (.cells cs t fr)) (hne : 39 ≠ t) (hg : w.grownBy w' (some g)) : Ci K w' lo b A n c z := ⟨h.1, h.2.1.gbx hb hne hg, h.2.2⟩
theorem Nv.gbx {K : Nat} {t : TypeId} {w w' : World} {g n c m d l : Nat} {s : Bool} {A B : Option Addr} (h : Nv K w A n c m) (hb : w.heap[g]? = some (.cells #[.bool s, .slice B l d] t (0, 0))) (hg : w.grownBy w' (some g)) : Nv K w' A n c m := let ⟨xs, h1, h2⟩ := h; ⟨xs, h1.gbx hb hg, h2⟩
theorem Iz.gbx {K : Nat} {t : TypeId} {w w' : World} {g n c d l : Nat} {s b : Bool} {A B : Option Addr} {z : Int} (h : Iz K w b A n c z) (hb : w.heap[g]? = some (.cells #[.bool s, .slice B l d] t (0, 0))) (hg : w.grownBy w' (some g)) : Iz K w' b A n c z := let ⟨m, h1, h2⟩ := h; ⟨m, h1.gbx hb hg, h2⟩
theorem alloc_int {o : Oper} {a : Act} {w : World} (ho : o.op = .alloc 24) : (execOp a.eval o).run Try.prog w = .ok (.value (.pointer (some ⟨w.heap.size, 0, none⟩))) (w.alloc (.cells #[.bool false, .slice none 0 0] 24)) := by
  unfold execOp
  simp only [ho]
  go_simp
theorem empty_u32 {o : Oper} {a : Act} {w : World} (ho : o.op = .buildSlice 22 0 #[]) : (execOp a.eval o).run Try.prog w = .ok (.value (.slice (some ⟨w.heap.size, 0, none⟩) 0 0)) (w.alloc (.cells #[] 39)) := by
  unfold execOp
  simp only [ho]
  go_simp
theorem enters_test : ∀ args w, (callFunc 39 args).run Try.prog w = .ok (.enter 39 args) w := enters_of Try.func39 (by kernel_rfl) rfl
end Go.Proofs.Ytmfgcjjoagdamaa

namespace Go.Proofs.Ytmfgcjjoagdamaa
open Go.RowKit
open Go.Lib (hid)

def want (ops : Array Oper) (a : Act) (g : Option (Nat × Bool)) : Bool := match g with | none => true | some (j, b) => yielded ops a.tmps j == some b
section
variable {P : Program} {ops : Array Oper} {Q : Exit → Act → World → Prop} {S : World → Prop} {fuel : Nat} {listed : Array Bool} {a : Act} {w : World} {o : Oper} {rs : List Nat} {K : Act → World → Prop}
theorem op_ofg {i : Nat} {op : Op} {d : Option Tmp} {g : Option (Nat × Bool)} (hi : (ops[i]?).map (fun o => (o.op, o.dst, o.guard)) = some (op, d, g)) : ∃ o, ops[i]? = some o ∧ o.op = op ∧ o.dst = d ∧ Region.wanted o (yielded ops a.tmps) = want ops a g := by
  cases h : ops[i]? with
  | none => rw [h] at hi; cases hi
  | some o =>
    rw [h] at hi
    simp at hi
    refine ⟨o, rfl, hi.1, hi.2.1, ?_⟩
    unfold Region.wanted want
    rw [hi.2.2]
    cases g <;> rfl
theorem step_wantedG {E : Prop} (hw : Region.wanted o (yielded ops a.tmps) = true) (h : Oper.wp P o a w K Q) : if Region.wanted o (yielded ops a.tmps) = true then Oper.wp P o a w K Q else E := by
  rw [if_pos hw]; exact h
/-- What yields in every world that S names, taken first. -/
theorem drawn_freeG (i d : Nat) {v : Value} (op : Op) (g : Option (Nat × Bool)) (hi : (ops[i]?).map (fun o => (o.op, o.dst, o.guard)) = some (op, some d, g)) (hwt : want ops a g = true) (hrun : ∀ o : Oper, o.op = op → ∀ w, S w → (execOp a.eval o).run P w = .ok (.value v) w)
    (hs : Region.noSelect ops = true) (hf : Region.free .any ops listed i = true) (hr : (Region.ready .any ops listed).contains i = true) (hQ : ∀ c a v w, Q (.panic c) (a.put (some d) v) w → Q (.panic c) a w) (hw : S w)
    (h : wpAnyH P .any ops Q S fuel (listed.setIfInBounds i true) (a.put (some d) v) w) : wpAnyH P .any ops Q S (fuel + 1) listed a w := by
  obtain ⟨o, hi', ho, hd', hgd⟩ := op_ofg (a := a) hi
  exact wpAnyH_take (v := v) hi' hs hf hr (fun c a w h => hQ c a _ w (by rw [← hd']; exact h)) (Or.inl ⟨by rw [hgd]; exact hwt, fun w hw => hrun o ho w hw⟩) hw (by rw [hd']; exact h)
/-- An operation that its guard leaves out. -/
theorem drawn_skipG (i d : Nat) (op : Op) (g : Option (Nat × Bool)) (hi : (ops[i]?).map (fun o => (o.op, o.dst, o.guard)) = some (op, some d, g)) (hwt : want ops a g = false)
    (hs : Region.noSelect ops = true) (hf : Region.free .any ops listed i = true) (hr : (Region.ready .any ops listed).contains i = true) (hQ : ∀ c a v w, Q (.panic c) (a.put (some d) v) w → Q (.panic c) a w) (hw : S w)
    (h : wpAnyH P .any ops Q S fuel (listed.setIfInBounds i true) (a.put (some d) undef) w) : wpAnyH P .any ops Q S (fuel + 1) listed a w := by
  obtain ⟨o, hi', ho, hd', hgd⟩ := op_ofg (a := a) hi
  exact wpAnyH_take (v := undef) hi' hs hf hr (fun c a w h => hQ c a _ w (by rw [← hd']; exact h)) (Or.inr ⟨by rw [hgd]; exact hwt, rfl⟩) hw (by rw [hd']; exact h)
/-- A load of a whole block, taken first. -/
theorem drawn_loadG (i d : Nat) (ty : TypeId) (x : Operand) (gd : Option (Nat × Bool)) (g : Nat) (t : TypeId) (cs : Array Value) (fr : Nat × Nat) (de : TypeDesc) (hi : (ops[i]?).map (fun o => (o.op, o.dst, o.guard)) = some (.load ty x, some d, gd)) (hwt : want ops a gd = true) (hx : a.eval x = .pointer (some ⟨g, 0, none⟩))
    (hS : ∀ w, S w → w.heap[g]? = some (.cells cs t fr)) (hu : P.underlying ty = some de) (hd : (match de with | .struct _ | .array _ _ => true | _ => false) = true) (hinf : (P.info? ty).map (·.size) = some cs.size)
    (hs : Region.noSelect ops = true) (hf : Region.free .any ops listed i = true) (hr : (Region.ready .any ops listed).contains i = true) (hQ : ∀ c a v w, Q (.panic c) (a.put (some d) v) w → Q (.panic c) a w) (hw : S w)
    (h : wpAnyH P .any ops Q S fuel (listed.setIfInBounds i true) (a.put (some d) (.agg cs)) w) : wpAnyH P .any ops Q S (fuel + 1) listed a w := by
  refine drawn_freeG i d (v := .agg cs) (.load ty x) gd hi hwt (fun o ho w hw => ?_) hs hf hr hQ hw h
  unfold execOp
  simp only [ho, hx, Instr.loadAt, Instr.sureAddr, Sem.run_bind, Sem.run_pure, Result.andThen_ok, run_loadVar_row w g t ty cs fr de (hS w hw) hu hd hinf]
/-- A call by its contract. -/
theorem drawn_callG2 (i : Nat) (d : Option Tmp) {f : FuncId} (x y : Operand) {ts : Array TypeId} (g : Option (Nat × Bool)) {u v : Value} {R : Ending → World → Prop} (hi : (ops[i]?).map (fun o => (o.op, o.dst, o.guard)) = some (.call { callee := .value (.func f), args := #[x, y], argTypes := ts }, d, g)) (hwt : want ops a g = true) (hf : ∀ args w, (callFunc f args).run P w = .ok (.enter f args) w) (hxe : a.eval x = u) (hye : a.eval y = v) (hc : Calls P f #[u, v] w R)
    (h : ∀ E w', R E w' → ∃ v, E = .returned v ∧ S w' ∧ wpAnyH P .any ops Q S fuel (listed.setIfInBounds i true) (a.put d v) w')
    (hs : AllReadyH P .any ops Q S fuel listed a w rs) : AllReadyH P .any ops Q S fuel listed a w (i :: rs) := by
  obtain ⟨o, hi', ho, rfl, hgd⟩ := op_ofg (a := a) hi
  refine AllReadyH.cons hi' (fun K hK => step_wantedG (by rw [hgd]; exact hwt) ?_) hs
  have hrun : (execOp a.eval o).run P w = .ok (.enter f #[u, v]) w := by
    unfold execOp
    simp only [ho, resolve, invoke, Sem.run_bind, Sem.run_pure, Result.andThen_ok, List.map_toArray, List.map_cons, List.map_nil, hxe, hye]
    exact hf _ _
  unfold Oper.wp
  rw [hrun, Oper.upon_enter]
  refine hc.mono fun E w' hh => ?_
  obtain ⟨v, rfl, h1, h2⟩ := h E w' hh
  exact hK.out _ _ h1 fun _ => h2
theorem drawn_callG1 (i : Nat) (d : Option Tmp) {f : FuncId} (x : Operand) {ts : Array TypeId} (g : Option (Nat × Bool)) {u : Value} {R : Ending → World → Prop} (hi : (ops[i]?).map (fun o => (o.op, o.dst, o.guard)) = some (.call { callee := .value (.func f), args := #[x], argTypes := ts }, d, g)) (hwt : want ops a g = true) (hf : ∀ args w, (callFunc f args).run P w = .ok (.enter f args) w) (hxe : a.eval x = u) (hc : Calls P f #[u] w R)
    (h : ∀ E w', R E w' → ∃ v, E = .returned v ∧ S w' ∧ wpAnyH P .any ops Q S fuel (listed.setIfInBounds i true) (a.put d v) w')
    (hs : AllReadyH P .any ops Q S fuel listed a w rs) : AllReadyH P .any ops Q S fuel listed a w (i :: rs) := by
  obtain ⟨o, hi', ho, rfl, hgd⟩ := op_ofg (a := a) hi
  refine AllReadyH.cons hi' (fun K hK => step_wantedG (by rw [hgd]; exact hwt) ?_) hs
  have hrun : (execOp a.eval o).run P w = .ok (.enter f #[u]) w := by
    unfold execOp
    simp only [ho, resolve, invoke, Sem.run_bind, Sem.run_pure, Result.andThen_ok, List.map_toArray, List.map_cons, List.map_nil, hxe]
    exact hf _ _
  unfold Oper.wp
  rw [hrun, Oper.upon_enter]
  refine hc.mono fun E w' hh => ?_
  obtain ⟨v, rfl, h1, h2⟩ := h E w' hh
  exact hK.out _ _ h1 fun _ => h2
theorem drawn_callG0 (i : Nat) (d : Option Tmp) {f : FuncId} (g : Option (Nat × Bool)) {R : Ending → World → Prop} (hi : (ops[i]?).map (fun o => (o.op, o.dst, o.guard)) = some (.call { callee := .value (.func f), args := #[], argTypes := #[] }, d, g)) (hwt : want ops a g = true) (hf : ∀ args w, (callFunc f args).run P w = .ok (.enter f args) w) (hc : Calls P f #[] w R)
    (h : ∀ E w', R E w' → ∃ v, E = .returned v ∧ S w' ∧ wpAnyH P .any ops Q S fuel (listed.setIfInBounds i true) (a.put d v) w')
    (hs : AllReadyH P .any ops Q S fuel listed a w rs) : AllReadyH P .any ops Q S fuel listed a w (i :: rs) := by
  obtain ⟨o, hi', ho, rfl, hgd⟩ := op_ofg (a := a) hi
  refine AllReadyH.cons hi' (fun K hK => step_wantedG (by rw [hgd]; exact hwt) ?_) hs
  have hrun : (execOp a.eval o).run P w = .ok (.enter f #[]) w := by
    unfold execOp
    simp only [ho, resolve, invoke, Sem.run_bind, Sem.run_pure, Result.andThen_ok, List.map_toArray, List.map_nil]
    exact hf _ _
  unfold Oper.wp
  rw [hrun, Oper.upon_enter]
  refine hc.mono fun E w' hh => ?_
  obtain ⟨v, rfl, h1, h2⟩ := h E w' hh
  exact hK.out _ _ h1 fun _ => h2
end
end Go.Proofs.Ytmfgcjjoagdamaa

namespace Go.Proofs.Ytmfgcjjoagdamaa
open Go.RowKit
open Go.Lib (hid)

/-- Two structs that were handed over, and the result's, in three blocks behind one another. -/
structure TriZ (w wA : World) (s : Bool) (A : Option Addr) (n c : Nat) (t : Bool) (B : Option Addr) (m d : Nat) : Prop where
  x : Ext w wA
  b0 : Bz wA w.heap.size s A n c
  b1 : Bz wA (w.heap.size + 1) t B m d
  b2 : Bz wA (w.heap.size + 1 + 1) false none 0 0
  sz : wA.heap.size = w.heap.size + 3
theorem TriZ.mk' (w : World) (s : Bool) (A : Option Addr) (n c : Nat) (t : Bool) (B : Option Addr) (m d : Nat) :
    TriZ w (((w.alloc (.cells #[.bool s, .slice A n c] 34)).alloc (.cells #[.bool t, .slice B m d] 34)).alloc (.cells #[.bool false, .slice none 0 0] 34)) s A n c t B m d := by
  have h0 := Bz.new w s A n c
  have h1 := Bz.new (w.alloc (.cells #[.bool s, .slice A n c] 34)) t B m d
  have h2 := Bz.new ((w.alloc (.cells #[.bool s, .slice A n c] 34)).alloc (.cells #[.bool t, .slice B m d] 34)) false none 0 0
  rw [size_alloc] at h1 h2
  rw [size_alloc] at h2
  exact ⟨(((Ext.refl w).alloc _).alloc _).alloc _, (h0.ext ((Ext.refl _).alloc _)).ext ((Ext.refl _).alloc _), h1.ext ((Ext.refl _).alloc _), h2, by rw [size_alloc, size_alloc, size_alloc]⟩
section
variable {w wA wB : World} {s t : Bool} {A B : Option Addr} {n c m d : Nat}
theorem TriZ.cs (h : TriZ w wA s A n c t B m d) (hx : Ext wA wB) : (wB.cell? ⟨w.heap.size, 0, none⟩ = some (.bool s) ∧ wB.cell? ⟨w.heap.size, 1, none⟩ = some (.slice A n c) ∧ wB.cell? ⟨w.heap.size + 1, 0, none⟩ = some (.bool t) ∧ wB.cell? ⟨w.heap.size + 1, 1, none⟩ = some (.slice B m d)) :=
  ⟨(h.b0.ext hx).c0, (h.b0.ext hx).c1, (h.b1.ext hx).c0, (h.b1.ext hx).c1⟩
theorem TriZ.cr (h : TriZ w wA s A n c t B m d) (hx : Ext wA wB) : (wB.cell? ⟨w.heap.size + 1 + 1, 0, none⟩ = some (.bool false) ∧ wB.cell? ⟨w.heap.size + 1 + 1, 1, none⟩ = some (.slice none 0 0) ∧ wB.frozen? ⟨w.heap.size + 1 + 1, 0, none⟩ = false ∧ wB.frozen? ⟨w.heap.size + 1 + 1, 1, none⟩ = false) :=
  ⟨(h.b2.ext hx).c0, (h.b2.ext hx).c1, (h.b2.ext hx).fr 0, (h.b2.ext hx).fr 1⟩
theorem TriZ.cp (h : TriZ w wA s A n c t B m d) (hx : Ext wA wB) (u v : Value) : (((wB.setCell ⟨w.heap.size + 1 + 1, 0, none⟩ u).setCell ⟨w.heap.size + 1 + 1, 1, none⟩ v).cell? ⟨w.heap.size, 0, none⟩ = some (.bool s) ∧ ((wB.setCell ⟨w.heap.size + 1 + 1, 0, none⟩ u).setCell ⟨w.heap.size + 1 + 1, 1, none⟩ v).cell? ⟨w.heap.size, 1, none⟩ = some (.slice A n c) ∧ ((wB.setCell ⟨w.heap.size + 1 + 1, 0, none⟩ u).setCell ⟨w.heap.size + 1 + 1, 1, none⟩ v).cell? ⟨w.heap.size + 1, 0, none⟩ = some (.bool t) ∧ ((wB.setCell ⟨w.heap.size + 1 + 1, 0, none⟩ u).setCell ⟨w.heap.size + 1 + 1, 1, none⟩ v).cell? ⟨w.heap.size + 1, 1, none⟩ = some (.slice B m d)) :=
  have p0 := (h.b0.ext hx).other (g' := w.heap.size + 1 + 1) (u := u) (v := v) (by omega)
  have p1 := (h.b1.ext hx).other (g' := w.heap.size + 1 + 1) (u := u) (v := v) (by omega)
  ⟨p0.c0, p0.c1, p1.c0, p1.c1⟩
theorem TriZ.put (h : TriZ w wA s A n c t B m d) (hx : Ext wA wB) {b : Bool} {C : Option Addr} {k l : Nat} : Bz ((wB.setCell ⟨w.heap.size + 1 + 1, 0, none⟩ (.bool b)).setCell ⟨w.heap.size + 1 + 1, 1, none⟩ (.slice C k l)) (w.heap.size + 1 + 1) b C k l := (h.b2.ext hx).put
end
section
variable {K L p : Nat} {w w1 : World} {b s : Bool} {A B : Option Addr} {n c g m d : Nat} {z : Int}
theorem Zd.gbz (h : Zd K w b A n c z) (hb : Bz w g s B m d) (hg : w.grownBy w1 (some g)) : Zd K w1 b A n c z := ⟨h.1, h.2.1.gbx hb hg, h.2.2⟩
theorem fin_zx (hz : Zd K w1 b A n c z) (hB : Bz w1 g s B m d) (hwg : w.heap.size ≤ g) (hx : Ext w w1) :
    RetZ K z w (.returned (.agg #[.bool b, .slice A n c])) ((w1.setCell ⟨g, 0, none⟩ (.bool b)).setCell ⟨g, 1, none⟩ (.slice A n c)) :=
  ⟨_, _, _, _, rfl, hz.gbz hB (put_gb w1 g _ _), hx.put hwg _ _⟩
theorem TriZ.fin {wA : World} {t : Bool} {C : Option Addr} {k l : Nat} (h : TriZ w wA s A n c t B m d) (hx : Ext wA w1) (hz : Zd K w1 b C k l z) :
    RetZ K z w (.returned (.agg #[.bool b, .slice C k l])) ((w1.setCell ⟨w.heap.size + 1 + 1, 0, none⟩ (.bool b)).setCell ⟨w.heap.size + 1 + 1, 1, none⟩ (.slice C k l)) :=
  fin_zx hz (h.b2.ext hx) (by omega) (h.x.trans hx)
theorem Dg.pos (h : Dg K w A n c p) : decide (0 < n) = decide (p ≠ 0) := by
  have h1 := h.1.len
  by_cases h0 : p = 0
  · subst h0
    rw [decide_eq_false (show ¬ (0 : Nat) ≠ 0 by omega)]
    exact decide_eq_false (by rw [← h1]; simp [nd_zero])
  · rw [decide_eq_true h0]
    refine decide_eq_true ?_
    have : (nd 10 p) ≠ [] := fun e => h0 ((nd_eq_nil (by omega)).1 e)
    have := List.length_pos_iff.2 this
    omega
theorem Dg.zero (h : Dg K w A n c p) (h0 : p = 0) : n = 0 := by
  have h1 := h.1.len
  rw [← h1, h0, nd_zero]; rfl
theorem Dg.ne (h : Dg K w A n c p) (h0 : p ≠ 0) : 0 < n := by
  have := h.pos
  rw [decide_eq_true h0] at this
  exact of_decide_eq_true this
end

theorem zsign_v {w : World} {s : Bool} {A : Option Addr} {n c K : Nat} {z : Int} (h : Zd K w s A n c z) :
    Calls Try.prog 22 #[.agg #[.bool s, .slice A n c]] w (RetE (.int .i64 (sg z)) w) := by
  have X := hid ((Ext.refl w).alloc (.cells #[.bool s, .slice A n c] 34))
  have B0 := Bz.new w s A n c
  have h0 := B0.c0
  have h1 := B0.c1
  clear B0
  have hfl := h.1
  by_cases hz : z = 0
  · have hn := h.len0 hz
    subst hn
    have hs : Hid (sg z = 0) := by show _ = _; rw [hz]; rfl
    clear h hfl hz
    go_enter Try.func22, Try.ntmps22
    go_wp2_with fail
    go_ret
    exact ⟨by rw [hs.out]; rfl, X.out⟩
  · have hn := h.lenp hz
    have hne : ((n : Int) == 0) = false := beq_eq_false_iff_ne.2 (by omega)
    by_cases hl : z < 0
    · have hs : Hid (sg z = -1) := sg_neg hl
      have hb : s = true := by rw [hfl]; exact decide_eq_true hl
      subst hb
      clear h hfl hz hl
      go_enter Try.func22, Try.ntmps22
      go_wp2_with fail
      go_ret
      exact ⟨by rw [hs.out]; rfl, X.out⟩
    · have hs : Hid (sg z = 1) := sg_pos (by omega)
      have hb : s = false := by rw [hfl]; exact decide_eq_false hl
      subst hb
      clear h hfl hz hl
      go_enter Try.func22, Try.ntmps22
      go_wp2_with fail
      go_ret
      exact ⟨by rw [hs.out]; rfl, X.out⟩

theorem Bz.new2 (w : World) (o : Obj) (s : Bool) (A : Option Addr) (n c : Nat) : Bz ((w.alloc o).alloc (.cells #[.bool s, .slice A n c] 34)) (w.heap.size + 1) s A n c := by
  have h := Bz.new (w.alloc o) s A n c
  rw [size_alloc] at h; exact h
theorem zneg_v {w : World} {s : Bool} {A : Option Addr} {n c K : Nat} {z : Int} (h : Zd K w s A n c z) :
    Calls Try.prog 28 #[.agg #[.bool s, .slice A n c]] w (RetZ K (-z) w) := by
  have X := hid (((Ext.refl w).alloc (.cells #[.bool s, .slice A n c] 34)).alloc (.cells #[.bool false, .slice none 0 0] 34))
  have b0 := (Bz.new w s A n c).ext ((Ext.refl _).alloc (.cells #[.bool false, .slice none 0 0] 34))
  have b1 := Bz.new (w.alloc (.cells #[.bool s, .slice A n c] 34)) false none 0 0
  rw [size_alloc] at b1
  have hc0 := b0.c0
  have hc1 := b0.c1
  have hr0 := b1.c0
  have hr1 := b1.c1
  have hr2 := b1.fr 0
  have hr3 := b1.fr 1
  have HB1 := hid b1
  have HD := hid h.2
  have HF : Hid ((!s && decide (0 < n)) = decide (-z < 0)) := by
    show _ = _
    rw [h.2.pos, h.1]
    rcases Int.lt_trichotomy z 0 with h | h | h
    · rw [decide_eq_true h, decide_eq_false (show ¬ -z < 0 by omega)]; rfl
    · subst h; rfl
    · rw [decide_eq_false (show ¬ z < 0 by omega), decide_eq_true (show -z < 0 by omega), decide_eq_true (show z.natAbs ≠ 0 by omega)]; rfl
  clear b0 b1 h
  cases s
  · rcases Nat.eq_zero_or_pos n with hn | hn
    · subst hn
      go_enter Try.func28, Try.ntmps28
      go_wp2_with fail
      refine ret_z rfl (Bz.new2 _ _ _ _ _ _) rfl rfl ⟨_, _, _, _, rfl, ⟨by rw [← HF.out]; rfl, by rw [Int.natAbs_neg]; exact HD.out.ext (((Ext.refl w).alloc _).alloc _)⟩, ((Ext.refl w).alloc _).alloc _⟩
    · have hd : decide ((0 : Int) < (n : Int)) = true := decide_eq_true (by omega)
      go_enter Try.func28, Try.ntmps28
      go_wp2_with fail
      refine ret_z rfl (Bz.new2 _ _ _ _ _ _) rfl rfl ⟨_, _, _, _, rfl, ⟨by rw [← HF.out, decide_eq_true hn]; rfl, by rw [Int.natAbs_neg]; exact HD.out.ext (((Ext.refl w).alloc _).alloc _)⟩, ((Ext.refl w).alloc _).alloc _⟩
  · go_enter Try.func28, Try.ntmps28
    go_wp2_with fail
    refine ret_z rfl (Bz.new2 _ _ _ _ _ _) rfl rfl ⟨_, _, _, _, rfl, ⟨by rw [← HF.out]; rfl, by rw [Int.natAbs_neg]; exact HD.out.ext (((Ext.refl w).alloc _).alloc _)⟩, ((Ext.refl w).alloc _).alloc _⟩

set_option maxHeartbeats 1600000 in
theorem zmul_v {w : World} {s t : Bool} {A B : Option Addr} {n c m d K K' : Nat} {x y : Int} (h : Zd K w s A n c x) (h' : Zd K' w t B m d y) (hK : K + K' ≤ 1073741824) :
    Calls Try.prog 24 #[.agg #[.bool s, .slice A n c], .agg #[.bool t, .slice B m d]] w (RetZ (K + K') (x * y) w) := by
  have T := hid (TriZ.mk' w s A n c t B m d)
  have H := hid h
  have H' := hid h'
  have HM := hid (Int.natAbs_mul x y)
  have HF : Hid (∀ k C l, Dg (K + K') k C l m (x.natAbs * y.natAbs) → True) := fun _ _ _ _ => trivial
  have HZ : Hid (decide (x * y < 0) = ((!(s == t)) && decide (x.natAbs * y.natAbs ≠ 0))) := by
    show _ = _
    have e1 := h.1
    have e2 := h'.1
    rcases Int.lt_trichotomy x 0 with hx | hx | hx
    · rcases Int.lt_trichotomy y 0 with hy | hy | hy
      · rw [decide_eq_true hx] at e1; rw [decide_eq_true hy] at e2
        subst e1; subst e2
        exact decide_eq_false (by have := Int.mul_pos_of_neg_of_neg hx hy; omega)
      · subst hy; simp
      · rw [decide_eq_true hx] at e1; rw [decide_eq_false (show ¬ y < 0 by omega)] at e2
        subst e1; subst e2
        rw [decide_eq_true (Int.mul_neg_of_neg_of_pos hx hy), decide_eq_true (Nat.mul_ne_zero (by omega) (by omega))]; rfl
    · subst hx; simp
    · rcases Int.lt_trichotomy y 0 with hy | hy | hy
      · rw [decide_eq_false (show ¬ x < 0 by omega)] at e1; rw [decide_eq_true hy] at e2
        subst e1; subst e2
        rw [decide_eq_true (Int.mul_neg_of_pos_of_neg hx hy), decide_eq_true (Nat.mul_ne_zero (by omega) (by omega))]; rfl
      · subst hy; simp
      · rw [decide_eq_false (show ¬ x < 0 by omega)] at e1; rw [decide_eq_false (show ¬ y < 0 by omega)] at e2
        subst e1; subst e2
        exact decide_eq_false (by have := Int.mul_pos hx hy; omega)
  clear h h' HF
  have hcs := T.out.cs (Ext.refl _)
  obtain ⟨p0, p1, p2, p3⟩ := hcs
  go_enter Try.func24, Try.ntmps24
  go_wp2_with fail
  generalize (((w.alloc (.cells #[.bool s, .slice A n c] 34)).alloc (.cells #[.bool t, .slice B m d] 34)).alloc (.cells #[.bool false, .slice none 0 0] 34)) = wA at *
  clear p0 p1 p2 p3
  refine (rmul_v (H.out.2.ext T.out.x) (H'.out.2.ext T.out.x) hK).mono ?_
  rintro E w1 ⟨C, k, l, rfl, o1, x1⟩
  have X1 := hid x1
  have O1 := hid o1
  obtain ⟨q0, q1, q2, q3⟩ := T.out.cs x1
  obtain ⟨r0, r1, r2, r3⟩ := T.out.cr x1
  have HP := hid o1.pos
  clear o1 x1
  by_cases hst : s = t
  · subst hst
    have HZ' : Hid (decide (x * y < 0) = false) := by show _ = _; rw [HZ.out]; simp
    clear HZ
    go_wp2_with fail
    refine ret_z rfl (T.out.put X1.out) rfl rfl (T.out.fin X1.out ⟨HZ'.out.symm, by rw [HM.out]; exact O1.out⟩)
  · have hb : (s == t) = false := by cases s <;> cases t <;> simp_all
    by_cases hk : 0 < k
    · have hd : decide ((0 : Int) < (k : Int)) = true := decide_eq_true (by omega)
      have HZ' : Hid (decide (x * y < 0) = true) := by show _ = _; rw [HZ.out, ← HP.out, hb, decide_eq_true hk]; rfl
      clear HZ
      go_wp2_with fail
      refine ret_z rfl (T.out.put X1.out) rfl rfl (T.out.fin X1.out ⟨HZ'.out.symm, by rw [HM.out]; exact O1.out⟩)
    · have hk0 : k = 0 := by omega
      have HZ' : Hid (decide (x * y < 0) = false) := by show _ = _; rw [HZ.out, ← HP.out, decide_eq_false hk, Bool.and_false]
      subst hk0
      clear HZ
      go_wp2_with fail
      refine ret_z rfl (T.out.put X1.out) rfl rfl (T.out.fin X1.out ⟨HZ'.out.symm, by rw [HM.out]; exact O1.out⟩)
end Go.Proofs.Ytmfgcjjoagdamaa

namespace Go.Proofs.Ytmfgcjjoagdamaa
open Go.RowKit
open Go.Lib (hid)

theorem alloc_z {o : Oper} {a : Act} {w : World} (ho : o.op = .alloc 34) : (execOp a.eval o).run Try.prog w = .ok (.value (.pointer (some ⟨w.heap.size, 0, none⟩))) (w.alloc (.cells #[.bool false, .slice none 0 0] 34)) := by
  unfold execOp
  simp only [ho]
  go_simp
end Go.Proofs.Ytmfgcjjoagdamaa

namespace Go.Proofs.Ytmfgcjjoagdamaa
open Go.RowKit
open Go.Lib (hid)

theorem Zd.val {K : Nat} {w : World} {s : Bool} {A : Option Addr} {n c : Nat} {z : Int} (h : Zd K w s A n c z) : z = zv s z.natAbs := by
  rw [h.1]; exact (zv_of z).symm

set_option maxHeartbeats 1600000 in
theorem zadd_same {w : World} {s : Bool} {A B : Option Addr} {n c m d K K' : Nat} {x y : Int} (h : Zd K w s A n c x) (h' : Zd K' w s B m d y) (hK : K + K' ≤ 1073741824) :
    Calls Try.prog 47 #[.agg #[.bool s, .slice A n c], .agg #[.bool s, .slice B m d]] w (RetZ (K + K' + 1) (x + y) w) := by
  have T := hid (TriZ.mk' w s A n c s B m d)
  have e1 := h.1
  have e2 := h'.1
  have HS : Hid (s = decide (x + y < 0)) := by
    show _ = _
    cases s
    · have := of_decide_eq_false e1.symm
      have := of_decide_eq_false e2.symm
      exact (decide_eq_false (by omega)).symm
    · have := of_decide_eq_true e1.symm
      have := of_decide_eq_true e2.symm
      exact (decide_eq_true (by omega)).symm
  have HZ : Hid ((x + y).natAbs = x.natAbs + y.natAbs) := by
    show _ = _
    cases s
    · have := of_decide_eq_false e1.symm
      have := of_decide_eq_false e2.symm
      omega
    · have := of_decide_eq_true e1.symm
      have := of_decide_eq_true e2.symm
      omega
  have H := hid h
  have H' := hid h'
  clear h h' e1 e2
  go_enter Try.func47, Try.ntmps47
  go_wp2_with fail
  generalize (((w.alloc (.cells #[.bool s, .slice A n c] 34)).alloc (.cells #[.bool s, .slice B m d] 34)).alloc (.cells #[.bool false, .slice none 0 0] 34)) = wA at *
  have t1 := hid (fun W (X : Ext wA W) => radd_v (H.out.2.ext (T.out.x.trans X)) (H'.out.2.ext (T.out.x.trans X)) (by omega))
  have hk0 := T.out.cs (Ext.refl wA)
  have hkd := T.out.cs (Ext.refl wA).drew
  go_region_held3 (fun w' => w'.cell? ⟨w.heap.size, 0, none⟩ = some (.bool s) ∧ w'.cell? ⟨w.heap.size, 1, none⟩ = some (.slice A n c) ∧ w'.cell? ⟨w.heap.size + 1, 0, none⟩ = some (.bool s) ∧ w'.cell? ⟨w.heap.size + 1, 1, none⟩ = some (.slice B m d)) (first | (with_reducible exact hk0) | (with_reducible exact hkd) | (with_reducible exact hk1) | (with_reducible exact hk3 _ _))
    (first
      | ((go_at_call 67); (with_reducible refine (t1.out _ (Ext.refl _).drew).mono ?_); rintro e w1 ⟨A1, n1, c1, rfl, o1, x1⟩; have hk1 := T.out.cs ((Ext.refl _).drew.trans x1); have hk3 := fun u v => T.out.cp ((Ext.refl _).drew.trans x1) u v; obtain ⟨hr0, hr1, hr2, hr3⟩ := T.out.cr ((Ext.refl _).drew.trans x1); have O1 := hid o1; have X1 := hid ((Ext.refl _).drew.trans x1); clear o1 x1 t1))
  clear hk0 hkd hk1 hk3 hr0 hr1 hr2 hr3
  go_wp2_with fail
  refine ret_z rfl (T.out.put X1.out) rfl rfl (T.out.fin X1.out ⟨HS.out, by rw [HZ.out]; exact O1.out⟩)

/-- The difference's flag. -/
theorem diff_flag {s : Bool} {p : Nat} {z : Int} (hz : z = zv s p) : (s && decide (p ≠ 0)) = decide (z < 0) := by
  subst hz
  rw [zv_lt]
  congr 1
  by_cases h : p = 0
  · subst h; rfl
  · rw [decide_eq_true h, decide_eq_true (by omega)]

set_option maxHeartbeats 1600000 in
theorem zadd_diff {w : World} {s t : Bool} {A B : Option Addr} {n c m d K K' : Nat} {x y : Int} (hst : s ≠ t) (h : Zd K w s A n c x) (h' : Zd K' w t B m d y) (hK : K + K' ≤ 1073741824) :
    Calls Try.prog 47 #[.agg #[.bool s, .slice A n c], .agg #[.bool t, .slice B m d]] w (RetZ (K + K' + 1) (x + y) w) := by
  have T := hid (TriZ.mk' w s A n c t B m d)
  have HX := hid h.val
  have HY := hid h'.val
  have H := hid h
  have H' := hid h'
  have hf : (s == t) = false := by cases s <;> cases t <;> simp_all
  have HST := hid hst
  clear h h' hst
  by_cases hle : y.natAbs ≤ x.natAbs
  · have HZ : Hid (x + y = zv s (x.natAbs - y.natAbs)) := by show _ = _; rw [← zv_diff HST.out hle, ← HX.out, ← HY.out]
    have HC : Hid (∃ v : Int, cmpN x.natAbs y.natAbs = v ∧ ¬ v < 0) := by
      rcases Nat.lt_or_ge y.natAbs x.natAbs with h1 | h1
      · exact ⟨1, cmpN_gt h1, by omega⟩
      · exact ⟨0, by rw [show x.natAbs = y.natAbs by omega]; exact cmpN_eq _, by omega⟩
    obtain ⟨v, hv, hv0⟩ := HC.out
    have HV := hid hv
    clear HC hv
    obtain ⟨p0, p1, p2, p3⟩ := T.out.cs (Ext.refl _)
    go_enter Try.func47, Try.ntmps47
    go_wp2_with fail
    generalize (((w.alloc (.cells #[.bool s, .slice A n c] 34)).alloc (.cells #[.bool t, .slice B m d] 34)).alloc (.cells #[.bool false, .slice none 0 0] 34)) = wA at *
    clear p0 p1 p2 p3
    refine (rcmp_is (H.out.2.ext T.out.x) (H'.out.2.ext T.out.x) (by omega) HV.out).mono ?_
    rintro E w1 ⟨rfl, x1⟩
    have X1 := hid x1
    obtain ⟨q0, q1, q2, q3⟩ := T.out.cs x1
    clear x1
    go_wp2_with fail
    refine (rsub_v (H.out.2.ext (T.out.x.trans X1.out)) (H'.out.2.ext (T.out.x.trans X1.out)) (by omega) hle).mono ?_
    rintro E w2 ⟨C, k, l, rfl, o2, x2⟩
    have X2 := hid (X1.out.trans x2)
    have O2 := hid o2
    clear q0 q1 q2 q3
    obtain ⟨q0, q1, q2, q3⟩ := T.out.cs X2.out
    obtain ⟨r0, r1, r2, r3⟩ := T.out.cr X2.out
    have HP := hid o2.pos
    clear o2 x2
    have HF : Hid ((s && decide (0 < k)) = decide (x + y < 0)) := by show _ = _; rw [HP.out]; exact diff_flag HZ.out
    have HN : Hid ((x + y).natAbs = x.natAbs - y.natAbs) := by show _ = _; rw [HZ.out, zv_abs]
    clear HZ HP HX HY
    cases s
    · go_wp2_with fail
      refine ret_z rfl (T.out.put X2.out) rfl rfl (T.out.fin X2.out ⟨by rw [← HF.out]; rfl, by rw [HN.out]; exact O2.out.1, Nat.le_trans O2.out.2 (by omega)⟩)
    · go_wp2_with fail
      refine ret_z rfl (T.out.put X2.out) rfl rfl (T.out.fin X2.out ⟨by rw [← HF.out, Bool.true_and], by rw [HN.out]; exact O2.out.1, Nat.le_trans O2.out.2 (by omega)⟩)
  · have hlt : x.natAbs < y.natAbs := by omega
    have HZ : Hid (x + y = zv t (y.natAbs - x.natAbs)) := by show _ = _; rw [← zv_diff (fun e => HST.out e.symm) (by omega), ← HX.out, ← HY.out, Int.add_comm]
    have HV := hid (cmpN_lt hlt)
    obtain ⟨p0, p1, p2, p3⟩ := T.out.cs (Ext.refl _)
    go_enter Try.func47, Try.ntmps47
    go_wp2_with fail
    generalize (((w.alloc (.cells #[.bool s, .slice A n c] 34)).alloc (.cells #[.bool t, .slice B m d] 34)).alloc (.cells #[.bool false, .slice none 0 0] 34)) = wA at *
    clear p0 p1 p2 p3
    refine (rcmp_is (H.out.2.ext T.out.x) (H'.out.2.ext T.out.x) (by omega) HV.out).mono ?_
    rintro E w1 ⟨rfl, x1⟩
    have X1 := hid x1
    have B0 := T.out.b0.ext x1
    have B1 := T.out.b1.ext x1
    have B2 := T.out.b2.ext x1
    obtain ⟨q0, q1, q2, q3⟩ := T.out.cs x1
    have f0 := B0.fr 0
    have f1 := B0.fr 1
    have f2 := B1.fr 0
    have f3 := B1.fr 1
    -- both change places
    have C0 := (B0.put (s' := t) (A' := B) (n' := m) (c' := d)).other (g' := w.heap.size + 1) (u := .bool s) (v := .slice A n c) (by omega)
    have C1 := (B1.other (g' := w.heap.size) (u := .bool t) (v := .slice B m d) (by omega)).put (s' := s) (A' := A) (n' := n) (c' := c)
    have C2 := (B2.other (g' := w.heap.size) (u := .bool t) (v := .slice B m d) (by omega)).other (g' := w.heap.size + 1) (u := .bool s) (v := .slice A n c) (by omega)
    have HC0 := hid C0
    have HC1 := hid C1
    have HC2 := hid C2
    have hszA := T.out.sz
    have Y := hid (((T.out.x.trans X1.out).put (Nat.le_refl w.heap.size) (.bool t) (.slice B m d)).put (show w.heap.size ≤ w.heap.size + 1 by omega) (.bool s) (.slice A n c))
    have D1 := hid (((H.out.2.ext (T.out.x.trans X1.out)).1.gbx B0 (put_gb w1 w.heap.size (.bool t) (.slice B m d))).gbx (B1.other (g' := w.heap.size) (u := .bool t) (v := .slice B m d) (by omega)) (put_gb _ (w.heap.size + 1) (.bool s) (.slice A n c)))
    have D2 := hid (((H'.out.2.ext (T.out.x.trans X1.out)).1.gbx B0 (put_gb w1 w.heap.size (.bool t) (.slice B m d))).gbx (B1.other (g' := w.heap.size) (u := .bool t) (v := .slice B m d) (by omega)) (put_gb _ (w.heap.size + 1) (.bool s) (.slice A n c)))
    have g0 := C0.c0
    have g1 := C0.c1
    have g2 := C1.c0
    have g3 := C1.c1
    clear x1 B0 B1 B2 C0 C1 C2
    go_wp2_with fail
    clear q0 q1 q2 q3 f0 f1 f2 f3
    generalize ((((w1.setCell ⟨w.heap.size, 0, none⟩ (.bool t)).setCell ⟨w.heap.size, 1, none⟩ (.slice B m d)).setCell ⟨w.heap.size + 1, 0, none⟩ (.bool s)).setCell ⟨w.heap.size + 1, 1, none⟩ (.slice A n c)) = w2 at *
    clear g0 g1 g2 g3
    refine (rsub_v (Dg.mk D2.out H'.out.2.2) (Dg.mk D1.out H.out.2.2) (by omega) (Nat.le_of_lt hlt)).mono ?_
    rintro E w3 ⟨C, k, l, rfl, o3, x3⟩
    have X3 := hid x3
    have O3 := hid o3
    have g0 := (HC0.out.ext x3).c0
    have g1 := (HC0.out.ext x3).c1
    have r0 := (HC2.out.ext x3).c0
    have r1 := (HC2.out.ext x3).c1
    have r2 := (HC2.out.ext x3).fr 0
    have r3 := (HC2.out.ext x3).fr 1
    have HB := hid (HC2.out.ext x3)
    have HP := hid o3.pos
    clear o3 x3
    have HF : Hid ((t && decide (0 < k)) = decide (x + y < 0)) := by show _ = _; rw [HP.out]; exact diff_flag HZ.out
    have HN : Hid ((x + y).natAbs = y.natAbs - x.natAbs) := by show _ = _; rw [HZ.out, zv_abs]
    clear HZ HP HX HY
    cases t
    · go_wp2_with fail
      refine ret_z rfl HB.out.put rfl rfl (fin_zx ⟨by rw [← HF.out]; rfl, by rw [HN.out]; exact O3.out.1, Nat.le_trans O3.out.2 (by omega)⟩ HB.out (by omega) (Y.out.trans X3.out))
    · go_wp2_with fail
      refine ret_z rfl HB.out.put rfl rfl (fin_zx ⟨by rw [← HF.out, Bool.true_and], by rw [HN.out]; exact O3.out.1, Nat.le_trans O3.out.2 (by omega)⟩ HB.out (by omega) (Y.out.trans X3.out))

theorem zadd_v {w : World} {s t : Bool} {A B : Option Addr} {n c m d K K' : Nat} {x y : Int} (h : Zd K w s A n c x) (h' : Zd K' w t B m d y) (hK : K + K' ≤ 1073741824) :
    Calls Try.prog 47 #[.agg #[.bool s, .slice A n c], .agg #[.bool t, .slice B m d]] w (RetZ (K + K' + 1) (x + y) w) := by
  by_cases hst : s = t
  · subst hst; exact zadd_same h h' hK
  · exact zadd_diff hst h h' hK

set_option maxHeartbeats 1600000 in
theorem zsub_v {w : World} {s t : Bool} {A B : Option Addr} {n c m d K K' : Nat} {x y : Int} (h : Zd K w s A n c x) (h' : Zd K' w t B m d y) (hK : K + K' ≤ 1073741824) :
    Calls Try.prog 48 #[.agg #[.bool s, .slice A n c], .agg #[.bool t, .slice B m d]] w (RetZ (K + K' + 1) (x - y) w) := by
  have T := hid (TriZ.mk' w s A n c t B m d)
  have H := hid h
  have H' := hid h'
  clear h h'
  go_enter Try.func48, Try.ntmps48
  go_wp2_with fail
  generalize (((w.alloc (.cells #[.bool s, .slice A n c] 34)).alloc (.cells #[.bool t, .slice B m d] 34)).alloc (.cells #[.bool false, .slice none 0 0] 34)) = wA at *
  have t1 := hid (fun W (X : Ext wA W) => zneg_v (H'.out.ext (T.out.x.trans X)))
  have t2 := hid (fun W (X : Ext wA W) => H.out.ext (T.out.x.trans X))
  have hk0 := T.out.cs (Ext.refl wA)
  have hkd := T.out.cs (Ext.refl wA).drew
  go_region_held3 (fun w' => w'.cell? ⟨w.heap.size, 0, none⟩ = some (.bool s) ∧ w'.cell? ⟨w.heap.size, 1, none⟩ = some (.slice A n c) ∧ w'.cell? ⟨w.heap.size + 1, 0, none⟩ = some (.bool t) ∧ w'.cell? ⟨w.heap.size + 1, 1, none⟩ = some (.slice B m d)) (first | (with_reducible exact hk0) | (with_reducible exact hkd) | (with_reducible exact hk1) | (with_reducible exact hk2) | (with_reducible exact hk3 _ _))
    (first
      | ((go_at_call 28); (with_reducible refine (t1.out _ (Ext.refl _).drew).mono ?_); rintro e w1 ⟨b1, A1, n1, c1, rfl, o1, x1⟩; have hk1 := T.out.cs ((Ext.refl _).drew.trans x1); have O1 := hid o1; have X1 := hid ((Ext.refl _).drew.trans x1); clear o1 x1 t1)
      | ((go_at_call 47); (with_reducible refine (zadd_v (t2.out _ X1.out) O1.out (by omega)).mono ?_); rintro e w2 ⟨b2, A2, n2, c2, rfl, o2, x2⟩; have hk2 := T.out.cs (X1.out.trans x2); have hk3 := fun u v => T.out.cp (X1.out.trans x2) u v; obtain ⟨hr0, hr1, hr2, hr3⟩ := T.out.cr (X1.out.trans x2); have O2 := hid o2; have X2 := hid (X1.out.trans x2); clear o2 x2))
  clear hk0 hkd hk1 hk2 hk3 hr0 hr1 hr2 hr3
  rw [← Int.sub_eq_add_neg] at O2
  go_wp2_with fail
  refine ret_z rfl (T.out.put X2.out) rfl rfl (T.out.fin X2.out O2.out)

theorem zcmp_v {w : World} {s t : Bool} {A B : Option Addr} {n c m d K K' : Nat} {x y : Int} (h : Zd K w s A n c x) (h' : Zd K' w t B m d y) (hK : K + K' ≤ 1073741824) :
    Calls Try.prog 21 #[.agg #[.bool s, .slice A n c], .agg #[.bool t, .slice B m d]] w (RetE (.int .i64 (sg (x - y))) w) := by
  have X := hid (((Ext.refl w).alloc (.cells #[.bool s, .slice A n c] 34)).alloc (.cells #[.bool t, .slice B m d] 34))
  have H := hid h
  have H' := hid h'
  clear h h'
  go_enter Try.func21, Try.ntmps21
  go_wp2_with fail
  refine (zsub_v (H.out.ext X.out) (H'.out.ext X.out) hK).mono ?_
  rintro E w1 ⟨b1, A1, n1, c1, rfl, o1, x1⟩
  go_wp2_with fail
  refine (zsign_v o1).mono ?_
  rintro E w2 ⟨rfl, x2⟩
  go_wp2_with fail
  go_ret
  exact ⟨rfl, (X.out.trans x1).trans x2⟩
theorem zsign_is {w : World} {s : Bool} {A : Option Addr} {n c K : Nat} {z v : Int} (h : Zd K w s A n c z) (hv : sg z = v) :
    Calls Try.prog 22 #[.agg #[.bool s, .slice A n c]] w (RetE (.int .i64 v) w) := hv ▸ zsign_v h
theorem zcmp_is {w : World} {s t : Bool} {A B : Option Addr} {n c m d K K' : Nat} {x y v : Int} (h : Zd K w s A n c x) (h' : Zd K' w t B m d y) (hK : K + K' ≤ 1073741824) (hv : sg (x - y) = v) :
    Calls Try.prog 21 #[.agg #[.bool s, .slice A n c], .agg #[.bool t, .slice B m d]] w (RetE (.int .i64 v) w) := hv ▸ zcmp_v h h' hK
end Go.Proofs.Ytmfgcjjoagdamaa

namespace Go.Proofs.Ytmfgcjjoagdamaa
open Go.RowKit
open Go.Lib (hid)

theorem Dg.weak {K L : Nat} {w : World} {A : Option Addr} {n c p : Nat} (h : Dg K w A n c p) (hl : K ≤ L) : Dg L w A n c p := ⟨h.1, Nat.le_trans h.2 hl⟩
theorem dg_one {w : World} {lo g : Nat} (h : Own .i64 3 w lo (some ⟨g, 0, none⟩) 1 1 [1]) : Dg 1 w (some ⟨g, 0, none⟩) 1 1 1 := by
  have e : nd 10 1 = [1] := (eq_nd (by omega) ⟨by decide, by decide⟩ (by decide)).symm
  refine ⟨?_, Nat.le_refl _⟩
  rw [e]; exact h.sl

set_option maxHeartbeats 1600000 in
theorem zsmall_v {w : World} {n : Int} (h0 : -9223372036854775808 ≤ n) (h1 : n ≤ 9223372036854775807) : Calls Try.prog 26 #[.int .i64 n] w (RetZ 22 n w) := by
  have b0 := Bz.new w false none 0 0
  have HB := hid b0
  have X := hid ((Ext.refl w).alloc (.cells #[.bool false, .slice none 0 0] 34))
  clear b0
  by_cases hn : n < 0
  · have hm : n.natAbs - 1 < 18446744073709551616 := by omega
    have HE : Hid (IntKind.u64.wrap (-(n + 1)) = ((n.natAbs - 1 : Nat) : Int)) := by show _ = _; rw [IntKind.wrap_u64]; omega
    have HE' : Hid (-(n + 1) = ((n.natAbs - 1 : Nat) : Int)) := by show _ = _; omega
    have HN : Hid (n.natAbs - 1 + 1 = n.natAbs) := by show _ = _; omega
    go_enter Try.func26, Try.ntmps26
    go_wp2_with fail
    generalize w.alloc (.cells #[.bool false, .slice none 0 0] 34) = wA at *
    first | (with_reducible refine (rsmall_v HE'.out hm).mono ?_) | (with_reducible refine (rsmall_v HE.out hm).mono ?_)
    rintro E w1 ⟨A1, n1, c1, rfl, o1, x1⟩
    have O1 := hid o1
    have X1 := hid (X.out.trans x1)
    have Y1 := hid x1
    clear o1 x1
    go_wp2_with (refine wpl_lit1 (w0 := w1) (Ext.refl _) (by first | rfl | decide) 32 _ rfl 3 .i64 8 Try.underlying32 info_int _ 1 rfl rfl ?_; intro g4 w4 hg4 ho4 hx4 hx4'; have O4 := hid ho4; have X4 := hid hx4; clear ho4 hx4 hx4')
    refine (radd_v (O1.out.ext X4.out) (dg_one O4.out) (by omega)).mono ?_
    rintro E w5 ⟨A5, n5, c5, rfl, o5, x5⟩
    have X5 := hid ((Y1.out.trans X4.out).trans x5)
    have B5 := HB.out.ext X5.out
    have r0 := B5.c0
    have r1 := B5.c1
    have r2 := B5.fr 0
    have r3 := B5.fr 1
    have HB5 := hid B5
    have O5 := hid o5
    clear B5 o5 x5
    go_wp2_with fail
    refine ret_z rfl HB5.out.put rfl rfl (fin_zx ⟨(decide_eq_true hn).symm, ?_⟩ HB5.out (Nat.le_refl _) (X.out.trans X5.out))
    rw [← HN.out]; exact O5.out
  · have hm : n.natAbs < 18446744073709551616 := by omega
    have HE : Hid (IntKind.u64.wrap n = (n.natAbs : Int)) := by show _ = _; rw [IntKind.wrap_u64]; omega
    have HE' : Hid (n = (n.natAbs : Int)) := by show _ = _; omega
    have hn' : 0 ≤ n := by omega
    go_enter Try.func26, Try.ntmps26
    go_wp2_with fail
    generalize w.alloc (.cells #[.bool false, .slice none 0 0] 34) = wA at *
    first | (with_reducible refine (rsmall_v HE'.out hm).mono ?_) | (with_reducible refine (rsmall_v HE.out hm).mono ?_)
    rintro E w1 ⟨A1, n1, c1, rfl, o1, x1⟩
    have B5 := HB.out.ext x1
    have r0 := B5.c0
    have r1 := B5.c1
    have r2 := B5.fr 0
    have r3 := B5.fr 1
    have HB5 := hid B5
    have O5 := hid o1
    have X5 := hid x1
    clear B5 o1 x1
    go_wp2_with fail
    refine ret_z rfl HB5.out.put rfl rfl (fin_zx ⟨(decide_eq_false (by omega)).symm, O5.out.weak (by omega)⟩ HB5.out (Nat.le_refl _) (X.out.trans X5.out))

/-- Two results' cells. -/
theorem results_zz {fn : Func} {p q : Tmp} (h : fn.results = #[.cell p 34, .cell q 34]) (tmps : Array Value) (w : World) {g g' : Nat} {s s' : Bool} {A A' : Option Addr} {n c n' c' : Nat} (hB : Bz w g s A n c) (hp : tmps.getD p undef = .pointer (some ⟨g, 0, none⟩))
    (hB' : Bz w g' s' A' n' c') (hp' : tmps.getD q undef = .pointer (some ⟨g', 0, none⟩)) :
    (results fn tmps).run Try.prog w = .ok (.tuple #[.agg #[.bool s, .slice A n c], .agg #[.bool s', .slice A' n' c']]) w := by
  have e1 := run_loadVar_row (P := Try.prog) w g _ 34 _ _ _ hB Try.underlying34 rfl info_z_s
  have e2 := run_loadVar_row (P := Try.prog) w g' _ 34 _ _ _ hB' Try.underlying34 rfl info_z_s
  have hp : tmps[p]?.getD undef = .pointer (some ⟨g, 0, none⟩) := by simpa using hp
  have hp' : tmps[q]?.getD undef = .pointer (some ⟨g', 0, none⟩) := by simpa using hp'
  simp [results, h, hp, hp', asAddr, e1, e2, Result.andThen]
theorem ret_zz {fn : Func} {p q : Tmp} {R : Ending → World → Prop} {a : Act} {w : World} {g g' : Nat} {s s' : Bool} {A A' : Option Addr} {n c n' c' : Nat} (h : fn.results = #[.cell p 34, .cell q 34]) (hB : Bz w g s A n c)
    (hp : a.tmps.getD p undef = .pointer (some ⟨g, 0, none⟩)) (hB' : Bz w g' s' A' n' c') (hp' : a.tmps.getD q undef = .pointer (some ⟨g', 0, none⟩)) (hd : a.defers = []) (hR : R (.returned (.tuple #[.agg #[.bool s, .slice A n c], .agg #[.bool s', .slice A' n' c']])) w) : bodyPost Try.prog fn R .ret a w :=
  bodyPost_ret (results_zz h _ _ hB hp hB' hp') hd hR

def RetZZ (K K' : Nat) (q r : Int) (w : World) : Ending → World → Prop := fun E w' => ∃ b A n c b' B m d, E = .returned (.tuple #[.agg #[.bool b, .slice A n c], .agg #[.bool b', .slice B m d]]) ∧ Zd K w' b A n c q ∧ Zd K' w' b' B m d r ∧ Ext w w'

set_option maxHeartbeats 3200000 in
theorem zdivmod_v {w : World} {s t : Bool} {A B : Option Addr} {n c m d K K' : Nat} {x y : Int} (h : Zd K w s A n c x) (h' : Zd K' w t B m d y) (hK : K + K' ≤ 1073741824) (hy : y ≠ 0) :
    Calls Try.prog 38 #[.agg #[.bool s, .slice A n c], .agg #[.bool t, .slice B m d]] w (RetZZ K K' (x.tdiv y) (x.tmod y) w) := by
  have T := TriZ.mk' w s A n c t B m d
  have b3 := Bz.new (((w.alloc (.cells #[.bool s, .slice A n c] 34)).alloc (.cells #[.bool t, .slice B m d] 34)).alloc (.cells #[.bool false, .slice none 0 0] 34)) false none 0 0
  have e := (Ext.refl (((w.alloc (.cells #[.bool s, .slice A n c] 34)).alloc (.cells #[.bool t, .slice B m d] 34)).alloc (.cells #[.bool false, .slice none 0 0] 34))).alloc (.cells #[.bool false, .slice none 0 0] 34)
  rw [T.sz] at b3
  have HB0 := hid (T.b0.ext e)
  have HB1 := hid (T.b1.ext e)
  have HB2 := hid (T.b2.ext e)
  have HB3 := hid b3
  have X0 := hid (T.x.trans e)
  have HX := hid h.val
  have HY := hid h'.val
  have HQ : Hid (x.tdiv y = zv (!(s == t)) (x.natAbs / y.natAbs)) := by
    show _ = _
    rw [zv_tdiv s t, ← h.val, ← h'.val]
  have HR : Hid (x.tmod y = zv s (x.natAbs % y.natAbs)) := by
    show _ = _
    rw [zv_tmod s t, ← h.val, ← h'.val]
  have H := hid h
  have H' := hid h'
  have p0 := HB0.out.c0
  have p1 := HB0.out.c1
  have p2 := HB1.out.c0
  have p3 := HB1.out.c1
  clear h h' T b3 e
  go_enter Try.func38, Try.ntmps38
  go_wp2_with fail
  generalize ((((w.alloc (.cells #[.bool s, .slice A n c] 34)).alloc (.cells #[.bool t, .slice B m d] 34)).alloc (.cells #[.bool false, .slice none 0 0] 34)).alloc (.cells #[.bool false, .slice none 0 0] 34)) = wA at *
  clear p0 p1 p2 p3
  refine (rdivmod_v (H.out.2.ext X0.out) (H'.out.2.ext X0.out) hK (by omega)).mono ?_
  rintro E w1 ⟨C, k, l, F, i, j, rfl, o1, o2, hk, hi, x1⟩
  have X1 := hid x1
  have O1 := hid (Dg.mk o1 hk)
  have O2 := hid (Dg.mk o2 hi)
  have p0 := (HB0.out.ext x1).c0
  have p2 := (HB1.out.ext x1).c0
  have B2 := HB2.out.ext x1
  have B3 := HB3.out.ext x1
  have r0 := B2.c0
  have r1 := B2.c1
  have r2 := B2.fr 0
  have r3 := B2.fr 1
  have u0 := B3.c0
  have u1 := B3.c1
  have u2 := B3.fr 0
  have u3 := B3.fr 1
  have G2 := hid B2
  have G3 := hid B3
  have HF1 : Hid (((!(s == t)) && decide (0 < k)) = decide (x.tdiv y < 0)) := by show _ = _; rw [O1.out.pos]; exact diff_flag HQ.out
  have HF2 : Hid ((s && decide (0 < i)) = decide (x.tmod y < 0)) := by show _ = _; rw [O2.out.pos]; exact diff_flag HR.out
  have HN1 : Hid ((x.tdiv y).natAbs = x.natAbs / y.natAbs) := by show _ = _; rw [HQ.out, zv_abs]
  have HN2 : Hid ((x.tmod y).natAbs = x.natAbs % y.natAbs) := by show _ = _; rw [HR.out, zv_abs]
  clear o1 o2 hk hi x1 B2 B3 HX HY HQ HR
  have fin : ∀ (a b : Bool), a = decide (x.tdiv y < 0) → b = decide (x.tmod y < 0) → RetZZ K K' (x.tdiv y) (x.tmod y) w (.returned (.tuple #[.agg #[.bool a, .slice C k l], .agg #[.bool b, .slice F i j]]))
      ((((w1.setCell ⟨w.heap.size + 1 + 1, 0, none⟩ (.bool a)).setCell ⟨w.heap.size + 1 + 1, 1, none⟩ (.slice C k l)).setCell ⟨w.heap.size + 3, 0, none⟩ (.bool b)).setCell ⟨w.heap.size + 3, 1, none⟩ (.slice F i j)) := fun a b ha hb => by
    have Z1 : Zd K w1 a C k l (x.tdiv y) := ⟨ha, by rw [HN1.out]; exact O1.out⟩
    have Z2 : Zd K' w1 b F i j (x.tmod y) := ⟨hb, by rw [HN2.out]; exact O2.out⟩
    have B3' := G3.out.other (g' := w.heap.size + 1 + 1) (u := .bool a) (v := .slice C k l) (by omega)
    exact ⟨_, _, _, _, _, _, _, _, rfl, (Z1.gbz G2.out (put_gb _ _ _ _)).gbz B3' (put_gb _ _ _ _), (Z2.gbz G2.out (put_gb _ _ _ _)).gbz B3' (put_gb _ _ _ _), ((X0.out.trans X1.out).put (by omega) _ _).put (by omega) _ _⟩
  have FIN := hid fin
  clear fin
  cases s <;> cases t
  all_goals
    go_wp2_with fail
    refine ret_zz rfl ((G2.out.put).other (by omega)) rfl ((G3.out.other (by omega)).put) rfl rfl (FIN.out _ _ ?_ ?_)
    · rw [← HF1.out]; first | rfl | simp
    · rw [← HF2.out]; first | rfl | simp

set_option maxHeartbeats 3200000 in
theorem zgcd_v {w : World} {s t : Bool} {A B : Option Addr} {n c m d K K' : Nat} {x y : Int} (h : Zd K w s A n c x) (h' : Zd K' w t B m d y) (hK : K + K' ≤ 500000000) :
    Calls Try.prog 37 #[.agg #[.bool s, .slice A n c], .agg #[.bool t, .slice B m d]] w (RetZ (K + K') ((Nat.gcd x.natAbs y.natAbs : Nat) : Int) w) := by
  have T := hid (TriZ.mk' w s A n c t B m d)
  have H := hid h.2
  have H' := hid h'.2
  clear h h'
  generalize x.natAbs = p at *
  generalize y.natAbs = q at *
  go_enter Try.func37, Try.ntmps37
  go_wp2_with fail
  generalize (((w.alloc (.cells #[.bool s, .slice A n c] 34)).alloc (.cells #[.bool t, .slice B m d] 34)).alloc (.cells #[.bool false, .slice none 0 0] 34)) = wA at *
  obtain ⟨p0, p1, p2, p3⟩ := T.out.cs (Ext.refl wA)
  obtain ⟨G, hG⟩ : ∃ G, Nat.gcd p q = G := ⟨_, rfl⟩
  have HG := hid hG
  have HGG := hid hG
  clear hG
  go_wp2_with (go_quiet (fail))
  clear p0 p1 p2 p3
  go_loopg [5, 6] q (fun k sa sb wr => ∃ (A : Option Addr) (n c p : Nat) (B : Option Addr) (m d q : Nat), sa = .slice A n c ∧ sb = .slice B m d ∧ q ≤ k ∧ Dg (K + K') wr A n c p ∧ Dg (K + K') wr B m d q ∧ Nat.gcd p q = G ∧ Ext wA wr)
  case atStart => exact ⟨_, _, _, _, _, _, _, _, rfl, rfl, Nat.le_refl _, (H.out.ext (T.out.x.trans ((Ext.refl wA).drewN _))).weak (by omega), (H'.out.ext (T.out.x.trans ((Ext.refl wA).drewN _))).weak (by omega), HG.out, (Ext.refl wA).drewN _⟩
  case round =>
    clear H H' HG
    obtain ⟨A1, n1, c1, p1, B1, m1, d1, q1, rfl, rfl, hq, ha, hb, hg, hx⟩ := hrel
    have HA := hid ha
    have HB := hid hb
    have HG := hid hg
    have HX := hid hx
    by_cases h0 : q1 = 0
    · have hm : m1 = 0 := hb.zero h0
      rw [h0, Nat.gcd_zero_right] at hg
      subst hm
      have HP := hid hg
      obtain ⟨hr0, hr1, hr2, hr3⟩ := T.out.cr hx
      clear ha hb hg hx HB HG h0
      go_wp2_with fail
      refine ret_z rfl (T.out.put HX.out) rfl rfl (T.out.fin HX.out ⟨(decide_eq_false (by omega)).symm, ?_⟩)
      rw [Int.natAbs_natCast, HGG.out, ← HP.out]; exact HA.out
    · have hmp := hb.ne h0
      have dm := hid (rdivmod_v ha hb (by omega) (show 0 < q1 by omega))
      have hml := hid (Nat.mod_lt p1 (show 0 < q1 by omega))
      clear ha hb hg hx
      go_wp2_with fail
      refine dm.out.mono ?_
      rintro E w3 ⟨A3, n3, c3, B3, m3, d3, rfl, o3, p3, hn3, hm3, x3⟩
      have P3 := hid (Dg.mk p3 hm3)
      have X3 := hid x3
      clear dm o3 p3 x3 hn3 hm3
      go_wp2_with fail
      go_roundg (p1 % q1)
      case measure => have := hml.out; omega
      case rel => exact ⟨_, _, _, _, _, _, _, _, rfl, rfl, Nat.le_refl _, HB.out.ext X3.out, P3.out, by rw [← HG.out, Nat.gcd_comm p1 q1, Nat.gcd_rec q1 p1, Nat.gcd_comm], HX.out.trans X3.out⟩

set_option maxHeartbeats 3200000 in
theorem zpow_v {w : World} {s : Bool} {A : Option Addr} {n c K N : Nat} {x : Int} (h : Zd K w s A n c x) (hK : K ≤ 100000) (hN : N ≤ 1000) :
    Calls Try.prog 25 #[.agg #[.bool s, .slice A n c], .int .i64 N] w (RetZ (22 + K * N) (x ^ N) w) := by
  have b0 := (Bz.new w s A n c).ext ((Ext.refl _).alloc (.cells #[.bool false, .slice none 0 0] 34))
  have b1 := Bz.new2 w (.cells #[.bool s, .slice A n c] 34) false none 0 0
  have X0 := hid (((Ext.refl w).alloc (.cells #[.bool s, .slice A n c] 34)).alloc (.cells #[.bool false, .slice none 0 0] 34))
  have hsz : Hid (((w.alloc (.cells #[.bool s, .slice A n c] 34)).alloc (.cells #[.bool false, .slice none 0 0] 34)).heap.size = w.heap.size + 2) := by show _ = _; rw [size_alloc, size_alloc]
  have HB0 := hid b0
  have HB1 := hid b1
  have HD := hid (h.ext X0.out)
  clear b0 b1 h
  go_enter Try.func25, Try.ntmps25
  go_wp2_with fail
  generalize (w.alloc (.cells #[.bool s, .slice A n c] 34)).alloc (.cells #[.bool false, .slice none 0 0] 34) = wA at *
  refine (zsmall_v (by omega) (by omega)).mono ?_
  rintro E w1 ⟨b, A1, n1, c1, rfl, o1, x1⟩
  have e1 := (Ext.refl w1).alloc (.cells #[.bool b, .slice A1 n1 c1] 34)
  have G1 := hid (Bz.new w1 b A1 n1 c1)
  have O1 := hid (o1.ext e1)
  have C0 := hid ((HB0.out.ext x1).ext e1)
  have C1 := hid ((HB1.out.ext x1).ext e1)
  have HD1 := hid ((HD.out.ext x1).ext e1)
  have X1 := hid ((X0.out.trans x1).trans e1)
  have hg : w.heap.size + 2 ≤ w1.heap.size := by have := x1.size; have := hsz.out; omega
  clear o1 x1 e1 HD HB0 HB1
  go_wp2_with fail
  generalize w1.alloc (.cells #[.bool b, .slice A1 n1 c1] 34) = w2 at *
  generalize w1.heap.size = g at *
  go_loopw [6] (fun si wr => ∃ (i : Nat) (b : Bool) (A1 : Option Addr) (n1 c1 : Nat), i ≤ N ∧ si = .int .i64 i ∧ Bz wr g b A1 n1 c1 ∧ Zd (22 + K * i) wr b A1 n1 c1 (x ^ i) ∧ Bz wr w.heap.size s A n c ∧ Bz wr (w.heap.size + 1) false none 0 0 ∧ Zd K wr s A n c x ∧ Ext w wr) (fun si _ => N - (intOf si).toNat)
  case atStart => exact ⟨0, b, A1, n1, c1, Nat.zero_le _, rfl, G1.out, by rw [Int.pow_zero]; exact O1.out, C0.out, C1.out, HD1.out, X1.out⟩
  case round =>
    clear G1 O1 C0 C1 HD1 X1
    obtain ⟨i, b, A1, n1, c1, hi, rfl, hg1, ho, h0, h1, hd, hx⟩ := hrel
    have HG := hid hg1
    have HO := hid ho
    have H0 := hid h0
    have H1 := hid h1
    have HD := hid hd
    have HX := hid hx
    by_cases hlt : i < N
    · have p0 := hg1.c0
      have p1 := hg1.c1
      have q0 := h0.c0
      have q1 := h0.c1
      have hb : K * i ≤ 100000000 := Nat.le_trans (Nat.mul_le_mul hK (show i ≤ 1000 by omega)) (by omega)
      have zm := hid (zmul_v ho hd (by omega))
      clear hg1 ho h0 h1 hd hx
      go_wp2_with fail
      refine zm.out.mono ?_
      rintro E w3 ⟨b3, A3, n3, c3, rfl, o3, x3⟩
      have B3 := HG.out.ext x3
      have r0 := B3.c0
      have r1 := B3.c1
      have r2 := B3.fr 0
      have r3 := B3.fr 1
      have HB3 := hid B3
      have O3 := hid o3
      have X3 := hid x3
      clear B3 o3 x3 p0 p1 q0 q1 zm
      go_wp2_with fail
      go_roundw
      case rel =>
        refine ⟨i + 1, b3, A3, n3, c3, by omega, by go_num, HB3.out.put, ?_, (H0.out.ext X3.out).other (by omega), (H1.out.ext X3.out).other (by omega), (HD.out.ext X3.out).gbz HB3.out (put_gb _ _ _ _), (HX.out.trans X3.out).put (by omega) _ _⟩
        rw [Int.pow_succ]
        exact (O3.out.weak (by rw [Nat.mul_succ]; omega)).gbz HB3.out (put_gb _ _ _ _)
      case measure => simp [intOf]; omega
    · obtain rfl : i = N := by omega
      have p0 := hg1.c0
      have p1 := hg1.c1
      have r0 := h1.c0
      have r1 := h1.c1
      have r2 := h1.fr 0
      have r3 := h1.fr 1
      clear hg1 ho h0 h1 hd hx
      go_wp2_with fail
      refine ret_z rfl H1.out.put rfl rfl (fin_zx HO.out H1.out (by omega) HX.out)

/-- The document's May, of a canonical number. -/
theorem rmay_c {w : World} {s : Bool} {A : Option Addr} {n c K lo : Nat} {z : Int} (h : Ci K w lo s A n c z) (hK : K ≤ 100000) : Calls Try.prog 49 #[.agg #[.bool s, .slice A n c]] w (RetE (.bool true) w) := by
  have B0 := Bx.new w s A n c
  have X0 := hid ((Ext.refl w).alloc (.cells #[.bool s, .slice A n c] 24))
  have HB := hid B0
  have H := hid h
  clear B0 h
  go_enter Try.func49, Try.ntmps49
  go_wp2_with fail
  generalize w.alloc (.cells #[.bool s, .slice A n c] 24) = wA at *
  have hk0 : wA.cell? ⟨w.heap.size, 0, none⟩ = some (.bool s) ∧ wA.cell? ⟨w.heap.size, 1, none⟩ = some (.slice A n c) := ⟨HB.out.c0, HB.out.c1⟩
  have hkd : wA.drew.cell? ⟨w.heap.size, 0, none⟩ = some (.bool s) ∧ wA.drew.cell? ⟨w.heap.size, 1, none⟩ = some (.slice A n c) := hk0
  go_region_held3 (fun w' => w'.cell? ⟨w.heap.size, 0, none⟩ = some (.bool s) ∧ w'.cell? ⟨w.heap.size, 1, none⟩ = some (.slice A n c)) (first | (with_reducible exact hk0) | (with_reducible exact hkd) | (with_reducible exact hk1) | (with_reducible exact hk2) | (with_reducible exact hk3))
    (first
      | ((go_at_call 18); (with_reducible refine (zof_v (H.out.iz.ext (X0.out.trans (Ext.refl _).drew)) hK).mono ?_); rintro e w1 ⟨b1, A1, n1, c1, rfl, o1, x1⟩; have X1 := hid ((Ext.refl wA).drew.trans x1); have hk1 : w1.cell? ⟨w.heap.size, 0, none⟩ = some (.bool s) ∧ w1.cell? ⟨w.heap.size, 1, none⟩ = some (.slice A n c) := ⟨(HB.out.ext X1.out).c0, (HB.out.ext X1.out).c1⟩; have O1 := hid o1; clear o1 x1)
      | ((go_at_call 19); (with_reducible refine (zint_v O1.out (by omega)).mono ?_); rintro e w2 ⟨b2, A2, n2, c2, rfl, o2, x2⟩; have X2 := hid (X1.out.trans x2); have hk2 : w2.cell? ⟨w.heap.size, 0, none⟩ = some (.bool s) ∧ w2.cell? ⟨w.heap.size, 1, none⟩ = some (.slice A n c) := ⟨(HB.out.ext X2.out).c0, (HB.out.ext X2.out).c1⟩; have O2 := hid o2; clear o2 x2)
      | ((go_at_call 17); (with_reducible refine (zsame_v (H.out.ext (X0.out.trans X2.out)) O2.out (by omega) rfl).mono ?_); rintro e w3 ⟨rfl, x3⟩; have X3 := hid (X2.out.trans x3); have hk3 : w3.cell? ⟨w.heap.size, 0, none⟩ = some (.bool s) ∧ w3.cell? ⟨w.heap.size, 1, none⟩ = some (.slice A n c) := ⟨(HB.out.ext X3.out).c0, (HB.out.ext X3.out).c1⟩; clear x3))
  clear hk0 hkd hk1 hk2 hk3
  go_wp2_with fail
  go_ret
  exact ⟨rfl, X0.out.trans X3.out⟩
end Go.Proofs.Ytmfgcjjoagdamaa

namespace Go.Proofs.Ytmfgcjjoagdamaa
open Go.RowKit
open Go.Lib (hid)

theorem tmod_zero {x y : Int} (h : x.natAbs % y.natAbs = 0) : x.tmod y = 0 := by
  have := Int.natAbs_tmod x y
  omega
theorem tmod_ne {x y : Int} (h : x.natAbs % y.natAbs ≠ 0) : x.tmod y ≠ 0 := by
  intro e
  have := Int.natAbs_tmod x y
  rw [e] at this
  omega
theorem zpow_is {w : World} {s : Bool} {A : Option Addr} {n c K N : Nat} {x V : Int} (hV : V = (N : Int)) (h : Zd K w s A n c x) (hK : K ≤ 100000) (hN : N ≤ 1000) :
    Calls Try.prog 25 #[.agg #[.bool s, .slice A n c], .int .i64 V] w (RetZ (22 + K * N) (x ^ N) w) := hV ▸ zpow_v h hK hN

end Go.Proofs.Ytmfgcjjoagdamaa

namespace Go.Proofs.Ytmfgcjjoagdamaa
open Go.RowKit

theorem sg_wrap2 (u v : Int) : IntKind.i64.wrap (sg u * sg v) = sg u * sg v := by
  rcases sg_cases u with ⟨e1, _⟩ | ⟨e1, _⟩ | ⟨e1, _⟩ <;> rcases sg_cases v with ⟨e2, _⟩ | ⟨e2, _⟩ | ⟨e2, _⟩ <;> rw [e1, e2] <;> decide
theorem sg_wneg (u : Int) : IntKind.i64.wrap (-sg u) = -sg u := by
  rcases sg_cases u with ⟨e1, _⟩ | ⟨e1, _⟩ | ⟨e1, _⟩ <;> rw [e1] <;> decide
theorem sg_minus (u : Int) : sg (-u) = -sg u := by
  rcases sg_cases u with ⟨e1, h1⟩ | ⟨e1, h1⟩ | ⟨e1, h1⟩ <;> rw [e1]
  · exact sg_pos (by omega)
  · rw [h1]; rfl
  · exact sg_neg (by omega)
end Go.Proofs.Ytmfgcjjoagdamaa

