/-
  append(s, xs...) onto an empty slice of the call's own: a copy in memory of its own.
-/
import Derived.Test.YtikkibpjchmajaaPk8
import Derived.Deep.AppendLies
namespace Go.Proofs.Ytikkibpjchmajaa
open Go.RowKit
open Go.Lib (hid)

section
variable {P : Program} {w0 w : World} {t ty e : TypeId} {k : IntKind} {bytes : Nat} {A B : Option Addr} {n c d : Nat} {xs : List Nat}
theorem run_own (h1 : P.underlying t = some (.slice e)) (hi : (P.info? e).map (fun i => (i.zero, i.size, i.bytes)) = some (some (.int k 0), 1, bytes)) (hB : Own k e w w0.heap.size B 0 d []) (hs : Sl k w A n c xs) (hx : Ext w0 w) (hb : n * bytes ≤ 140737488355328) (hn : n ≤ maxLen) :
    ∃ A' c' w', (Builtin.append_ #[t, t] ty #[.slice B 0 d, .slice A n c]).run P w = .ok (.slice A' n c') w' ∧ Own k e w' w0.heap.size A' n c' xs ∧ Ext w0 w' ∧ w.grownBy w' (B.map (·.block)) := by
  obtain ⟨i, hi1, hi2, hi3, hi4⟩ := info_parts hi
  cases A with
  | none =>
    have h0 : n = 0 := by
      rcases Nat.eq_zero_or_pos n with h | h
      · exact h
      · obtain ⟨b, o, e, _⟩ := hs.at_ h; cases e
    subst h0
    have hl : xs = [] := List.eq_nil_of_length_eq_zero hs.len
    subst hl
    refine ⟨B, d, w, ?_, hB, hx, gb_refl _ _⟩
    rcases hB.2 with ⟨hv, _⟩ | ⟨g, cap, cur, hv, _, _, hnc, _⟩
    · injection hv with hv1 _ hv2
      subst hv1; subst hv2
      simp [Builtin.append_, run_underlying h1, sizeOf, typeInfo, hi1, Builtin.lenOf, Builtin.firstCells]
    · injection hv with hv1 _ hv2
      subst hv1; subst hv2
      simp [Builtin.append_, run_underlying h1, sizeOf, typeInfo, hi1, Builtin.lenOf, Builtin.firstCells, storeCells]
  | some a =>
    have hcell : ∀ j u, (xs.map fun z : Nat => Value.int k (z : Int))[j]? = some u → w.cell? (a.add j) = some u := fun j u hj => by
      have hjn : j < n := by
        have := (List.getElem?_eq_some_iff.1 hj).1
        rw [List.length_map, hs.len] at this; exact this
      obtain ⟨b, o, e, _, hc⟩ := hs.at_ (by omega)
      injection e with e
      subst e
      rw [List.getElem?_map] at hj
      cases hz : xs[j]? with
      | none => rw [hz] at hj; simp at hj
      | some z =>
        rw [hz] at hj
        have hj' : Value.int k (z : Int) = u := by simpa using hj
        rw [← hj', Addr.add_lit]
        exact hc j z hz
    obtain ⟨v', w', hr, h2, h3, _, _⟩ := Go.run_append_own_at (P := P) w w0.heap.size t ty e i (.int k 0) 1 bytes h1 hi1 hi2 hi3 hi4 rfl (by omega) (.slice B 0 d) 0 [] hB a n c (xs.map fun z : Nat => Value.int k (z : Int)) (by rw [List.length_map, hs.len, Nat.mul_one]) hcell
      (fun u hu => by obtain ⟨z, _, rfl⟩ := List.mem_map.1 hu; rfl) (by omega) (by rw [Nat.zero_add]; exact hb) hx.size
    rw [List.nil_append, Nat.zero_add] at h2
    have hform : ∃ A' c', v' = .slice A' n c' := by
      rcases h2.2 with ⟨hv, h0⟩ | ⟨g, cap, cur, hv, _⟩
      · exact ⟨none, 0, by rw [hv, h0]⟩
      · exact ⟨_, _, hv⟩
    obtain ⟨A', c', rfl⟩ := hform
    have hrow : (Value.slice B 0 d).ownBlock = B.map (·.block) := by
      rcases hB.form with ⟨rfl, _, _⟩ | ⟨g', rfl, _, _⟩ <;> rfl
    rw [hrow] at h3
    refine ⟨A', c', w', hr, h2, hx.trans_own h3 fun g hg => ?_, h3⟩
    rcases hB.form with ⟨rfl, _, _⟩ | ⟨g', rfl, hl, _⟩
    · cases hg
    · have : g' = g := by simpa using hg
      omega

variable {ops : Array Oper} {rest : List Oper} {o : Oper} {a : Act} {Q : Exit → Act → World → Prop} {K : Act → World → Prop} {E : Prop}
theorem wp_own (s x : Operand) (t : TypeId) (ho : o.op = .call { callee := .builtin .append, args := #[s, x], argTypes := #[t, t] }) (h1 : P.underlying t = some (.slice e)) (hi : (P.info? e).map (fun i => (i.zero, i.size, i.bytes)) = some (some (.int k 0), 1, bytes))
    (hse : a.eval s = .slice B 0 d) (hxe : a.eval x = .slice A n c) (hB : Own k e w w0.heap.size B 0 d []) (hs : Sl k w A n c xs) (hx : Ext w0 w) (hb : n * bytes ≤ 140737488355328) (hn : n ≤ maxLen)
    (h : ∀ A' c' w', Own k e w' w0.heap.size A' n c' xs → Ext w0 w' → K (a.put o.dst (.slice A' n c')) w') : o.wp P a w K Q := by
  obtain ⟨A', c', w', hr, h2, h3, _⟩ := run_own (P := P) (ty := o.type) h1 hi hB hs hx hb hn
  unfold Oper.wp execOp
  simp only [ho, resolve, invoke, builtin, Sem.run_bind, Sem.run_pure, Result.andThen_ok, List.map_toArray, List.map_cons, List.map_nil, hse, hxe, hr]
  exact h A' c' w' h2 h3
theorem wp_own' (s x : Operand) (t : TypeId) (ho : o.op = .call { callee := .builtin .append, args := #[s, x], argTypes := #[t, t] }) (h1 : P.underlying t = some (.slice e)) (hi : (P.info? e).map (fun i => (i.zero, i.size, i.bytes)) = some (some (.int k 0), 1, bytes))
    (hse : a.eval s = .slice B 0 d) (hxe : a.eval x = .slice A n c) (hB : Own k e w w0.heap.size B 0 d []) (hs : Sl k w A n c xs) (hx : Ext w0 w) (hb : n * bytes ≤ 140737488355328) (hn : n ≤ maxLen)
    (h : ∀ A' c' w', Own k e w' w0.heap.size A' n c' xs → Ext w0 w' → w.grownBy w' (B.map (·.block)) → K (a.put o.dst (.slice A' n c')) w') : o.wp P a w K Q := by
  obtain ⟨A', c', w', hr, h2, h3, h4⟩ := run_own (P := P) (ty := o.type) h1 hi hB hs hx hb hn
  unfold Oper.wp execOp
  simp only [ho, resolve, invoke, builtin, Sem.run_bind, Sem.run_pure, Result.andThen_ok, List.map_toArray, List.map_cons, List.map_nil, hse, hxe, hr]
  exact h A' c' w' h2 h3 h4
theorem wpl_own (hgd : o.guard = none) (s x : Operand) (t : TypeId) (ho : o.op = .call { callee := .builtin .append, args := #[s, x], argTypes := #[t, t] }) (h1 : P.underlying t = some (.slice e)) (hi : (P.info? e).map (fun i => (i.zero, i.size, i.bytes)) = some (some (.int k 0), 1, bytes))
    (hse : a.eval s = .slice B 0 d) (hxe : a.eval x = .slice A n c) (hB : Own k e w w0.heap.size B 0 d []) (hs : Sl k w A n c xs) (hx : Ext w0 w) (hb : n * bytes ≤ 140737488355328) (hn : n ≤ maxLen)
    (h : ∀ A' c' w', Own k e w' w0.heap.size A' n c' xs → Ext w0 w' → wpList P ops Q rest (a.put o.dst (.slice A' n c')) w') : wpList P ops Q (o :: rest) a w :=
  wpList_plain hgd fun _ hK => wp_own s x t ho h1 hi hse hxe hB hs hx hb hn fun A' c' w' h2 h3 => hK _ _ (h A' c' w' h2 h3)
theorem step_own (hgd : o.guard = none) (s x : Operand) (t : TypeId) (ho : o.op = .call { callee := .builtin .append, args := #[s, x], argTypes := #[t, t] }) (h1 : P.underlying t = some (.slice e)) (hi : (P.info? e).map (fun i => (i.zero, i.size, i.bytes)) = some (some (.int k 0), 1, bytes))
    (hse : a.eval s = .slice B 0 d) (hxe : a.eval x = .slice A n c) (hB : Own k e w w0.heap.size B 0 d []) (hs : Sl k w A n c xs) (hx : Ext w0 w) (hb : n * bytes ≤ 140737488355328) (hn : n ≤ maxLen)
    (h : ∀ A' c' w', Own k e w' w0.heap.size A' n c' xs → Ext w0 w' → K (a.put o.dst (.slice A' n c')) w') : if Region.wanted o (yielded ops a.tmps) = true then Oper.wp P o a w K Q else E := by
  have hw : Region.wanted o (yielded ops a.tmps) = true := by simp [Region.wanted, hgd]
  rw [if_pos hw]
  exact wp_own s x t ho h1 hi hse hxe hB hs hx hb hn h
/-- An empty literal. -/
theorem own_empty (w : World) (k : IntKind) (e : TypeId) : Own k e (w.alloc (.cells #[] e)) w.heap.size (some ⟨w.heap.size, 0, none⟩) 0 0 [] := Own.lit (k := k) (e := e) w [] 0 rfl (by simp [maxLen])
end
end Go.Proofs.Ytikkibpjchmajaa

