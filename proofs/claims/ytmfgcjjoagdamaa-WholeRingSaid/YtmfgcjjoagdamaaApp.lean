
/-
  append of one element.
-/
import Derived.Test.YtmfgcjjoagdamaaBase
namespace Go.Proofs.Ytmfgcjjoagdamaa
open Go.RowKit
open Go.Lib (hid)

section
variable {P : Program} {ops : Array Oper} {rest : List Oper} {o : Oper} {a : Act} {Q : Exit → Act → World → Prop} {w : World}

/-- append(s, x): x stands in a block that was just made. -/
theorem wpl_append1 {w0 : World} (hg : o.guard = none) (s x : Operand) (t : TypeId) (ho : o.op = .call { callee := .builtin .append, args := #[s, x], argTypes := #[t, t] })
    (e : TypeId) (k : IntKind) (bytes : Nat) (h1 : P.underlying t = some (.slice e)) (hi : (P.info? e).map (fun i => (i.zero, i.size, i.bytes)) = some (some (.int k 0), 1, bytes))
    {A : Option Addr} {n c : Nat} {zs : List Nat} (v : Int) (z : Nat) (hs : a.eval s = .slice A n c) (hx : a.eval x = .slice (some ⟨w.heap.size, 0, none⟩) 1 1) (hv : v = (z : Int))
    (hown : Own k e w w0.heap.size A n c zs) (hext : Ext w0 w) (hb : (n + 1) * bytes ≤ 140737488355328) (hn : n + 1 ≤ maxLen)
    (hK : ∀ A' c' w', Own k e w' w0.heap.size A' (n + 1) c' (zs ++ [z]) → Ext w0 w' → Hid (w.grownBy w' (A.map (·.block))) → wpList P ops Q rest (a.put o.dst (.slice A' (n + 1) c')) w') :
    wpList P ops Q (o :: rest) a (w.alloc (.cells #[.int k v] e)) := by
  subst hv
  obtain ⟨i, hi1, hi2, hi3, hi4⟩ := info_parts hi
  have hext' : Ext w0 (w.alloc (.cells #[.int k (z : Int)] e)) := hext.alloc _
  refine wpList_append_own (P := P) (w.alloc (.cells #[.int k (z : Int)] e)) hg s x t ho w0.heap.size e i (.int k 0) 1 bytes h1 hi1 hi2 hi3 hi4 rfl (by omega) (.slice A n c) n _ hs (hown.alloc _)
    ⟨w.heap.size, 0, none⟩ 1 1 [.int k (z : Int)] hx rfl ?_ ?_ hn hb hext'.size ?_
  · intro j u hu
    have hj : j = 0 := by
      have := (List.getElem?_eq_some_iff.1 hu).1
      simp at this; omega
    subst hj
    have hu' : Value.int k (z : Int) = u := by simpa using hu
    rw [← hu', Addr.add_lit]
    exact (Own.lit (k := k) (e := e) w [z] 1 rfl (by simp [maxLen])).cell (i := 0) (by omega)
  · intro u hu
    simp at hu
    subst hu
    rfl
  · intro v' w' hown' hgr _
    have hpos : ∃ A' c', v' = .slice A' (n + 1) c' := by
      rcases hown'.2 with ⟨_, h0⟩ | ⟨g, cap, cur, hv', _⟩
      · omega
      · exact ⟨_, _, hv'⟩
    obtain ⟨A', c', rfl⟩ := hpos
    refine hK A' c' w' ?_ ?_ ?_
    · unfold Own
      rw [List.map_append]
      exact hown'
    · refine hext'.trans_own hgr fun g hg' => ?_
      rcases hown.form with ⟨rfl, _⟩ | ⟨g', rfl, hlo, _⟩
      · simp [Value.ownBlock] at hg'
      · simp [Value.ownBlock] at hg'
        omega
    · have e : (Value.slice A n c).ownBlock = A.map (·.block) := by cases A <;> rfl
      rw [e] at hgr
      exact ⟨hgr.os, hgr.tape, hgr.output, Nat.le_trans (by simp) hgr.size, fun j hj hne => (hgr.block j (by simp; omega) hne).trans (Below.heap_alloc _ _ _ hj)⟩

theorem run_append_of_nil' (base : Nat) (t ty e : TypeId) (i : TypeInfo) (size : Nat) (ht : P.underlying t = some (.slice e)) (hi : P.info? e = some i)
    (v : Value) (n : Nat) (xs : List Value) (hown : w.ownsRow base e size v n xs) (c : Nat) : (Builtin.append_ #[t, t] ty #[v, .slice none 0 c]).run P w = .ok v w := by
  rcases hown.2 with ⟨rfl, rfl⟩ | ⟨g, cap, cur, rfl, _, _, hnc, _⟩
  · simp [Builtin.append_, run_underlying ht, sizeOf, typeInfo, hi, Builtin.lenOf, Builtin.firstCells]
  · simp [Builtin.append_, run_underlying ht, sizeOf, typeInfo, hi, Builtin.lenOf, Builtin.firstCells, hnc, storeCells]

/-- append(s, x...): s the call's own, x any slice of numbers. -/
theorem wpl_append {w0 : World} (hg : o.guard = none) (s x : Operand) (t : TypeId) (ho : o.op = .call { callee := .builtin .append, args := #[s, x], argTypes := #[t, t] })
    (e : TypeId) (k : IntKind) (bytes : Nat) (h1 : P.underlying t = some (.slice e)) (hi : (P.info? e).map (fun i => (i.zero, i.size, i.bytes)) = some (some (.int k 0), 1, bytes))
    {A B : Option Addr} {n c m d : Nat} {zs ys : List Nat} (hs : a.eval s = .slice A n c) (hx : a.eval x = .slice B m d)
    (hown : Own k e w w0.heap.size A n c zs) (hsl : Sl k w B m d ys) (hext : Ext w0 w) (hb : (n + m) * bytes ≤ 140737488355328) (hn : n + m ≤ maxLen)
    (hK : ∀ A' n' c' w', Own k e w' w0.heap.size A' n' c' (zs ++ ys) → Ext w0 w' → Hid (w.grownBy w' (A.map (·.block))) → Hid (n' = n + m) → wpList P ops Q rest (a.put o.dst (.slice A' n' c')) w') :
    wpList P ops Q (o :: rest) a w := by
  obtain ⟨i, hi1, hi2, hi3, hi4⟩ := info_parts hi
  rcases B with _ | ad
  · have hm : m = 0 := by
      rcases Nat.eq_zero_or_pos m with h0 | h0
      · exact h0
      · obtain ⟨_, _, h, _⟩ := hsl.at_ h0
        cases h
    subst hm
    have hys : ys = [] := List.eq_nil_of_length_eq_zero hsl.len
    subst hys
    have hrun := run_append_of_nil' (P := P) (w := w) w0.heap.size t o.type e i 1 h1 hi1 (.slice A n c) n _ hown d
    refine wpList_plain hg fun K hK' => ?_
    unfold Oper.wp execOp
    simp only [ho, resolve, invoke, builtin, Sem.run_bind, Sem.run_pure, Result.andThen_ok, List.map_toArray, List.map_cons, List.map_nil, hs, hx, hrun]
    exact hK' _ _ (hK A n c w (by rw [List.append_nil]; exact hown) hext ⟨rfl, rfl, rfl, Nat.le_refl _, fun _ _ _ => rfl⟩ rfl)
  · refine wpList_append_own (P := P) w hg s x t ho w0.heap.size e i (.int k 0) 1 bytes h1 hi1 hi2 hi3 hi4 rfl (by omega) (.slice A n c) n _ hs hown
      ad m d (ys.map fun z : Nat => Value.int k (z : Int)) hx (by simp [hsl.len]) ?_ ?_ hn hb hext.size ?_
    · intro j u hu
      rw [List.getElem?_map] at hu
      cases hj : ys[j]? with
      | none => rw [hj] at hu; simp at hu
      | some z =>
        rw [hj] at hu
        have hjl : j < ys.length := (List.getElem?_eq_some_iff.1 hj).1
        obtain ⟨b, off, hA, _, hc⟩ := hsl.at_ (by have := hsl.len; omega)
        injection hA with hA
        subst hA
        have hu' : Value.int k (z : Int) = u := by simpa using hu
        rw [← hu', Addr.add_lit]
        exact hc j z hj
    · intro u hu
      obtain ⟨_, _, rfl⟩ := List.mem_map.1 hu
      rfl
    · intro v' w' hown' hgr hnil
      have hex : ∃ A' c', v' = .slice A' (n + m) c' := by
        rcases hown'.2 with ⟨h, h0⟩ | ⟨g, cap, cur, hv', _⟩
        · exact ⟨none, 0, by rw [h, h0]⟩
        · exact ⟨_, _, hv'⟩
      obtain ⟨A', c', rfl⟩ := hex
      have e : (Value.slice A n c).ownBlock = A.map (·.block) := by cases A <;> rfl
      rw [e] at hgr
      refine hK A' (n + m) c' w' ?_ ?_ hgr rfl
      · unfold Own
        rw [List.map_append]
        exact hown'
      · refine hext.trans_own hgr fun g hg' => ?_
        rcases hown.form with ⟨rfl, _⟩ | ⟨g', rfl, hlo, _⟩
        · simp at hg'
        · simp at hg'
          omega
end

/-- What lies in another block than the one that was written reads as before. -/
theorem Sl.grown {k : IntKind} {w w' : World} {A : Option Addr} {n c : Nat} {zs : List Nat} {row : Option Nat} (h : Sl k w A n c zs) (hg : w.grownBy w' row) (hne : ∀ b o, A = some ⟨b, o, none⟩ → 0 < n → some b ≠ row) : Sl k w' A n c zs :=
  ⟨h.len, h.cap, h.max, fun hn => by
    obtain ⟨b, o, e, hlt, hc⟩ := h.at_ hn
    exact ⟨b, o, e, Nat.lt_of_lt_of_le hlt hg.size, fun j z hz => (World.cell?_of_block (hg.block b hlt (hne b o e hn))).trans (hc j z hz)⟩⟩
theorem Own.grown {k : IntKind} {e : TypeId} {w w' : World} {lo : Nat} {A : Option Addr} {n c : Nat} {zs : List Nat} {row : Option Nat} (h : Own k e w lo A n c zs) (hg : w.grownBy w' row) (hne : ∀ g, A = some ⟨g, 0, none⟩ → some g ≠ row) : Own k e w' lo A n c zs :=
  ⟨h.1, by
    rcases h.2 with h' | ⟨g, cap, cur, h1, h2, h3, r⟩
    · exact .inl h'
    · injection h1 with h1a h1b h1c
      exact .inr ⟨g, cap, cur, by rw [h1a, h1c], h2, (hg.block g (Array.getElem?_eq_some_iff.1 h3).1 (hne g h1a)).trans h3, r⟩⟩
/-- Two rows of the call's own, the second one made later. -/
theorem Own.apart {k k' : IntKind} {e e' : TypeId} {w w' : World} {lo lo' : Nat} {A B : Option Addr} {n c n' c' : Nat} {zs ys : List Nat} (h : Own k e w lo A n c zs) (h' : Own k' e' w' lo' B n' c' ys) (hl : w.heap.size ≤ lo') :
    ∀ b o, B = some ⟨b, o, none⟩ → 0 < n' → some b ≠ A.map (·.block) := by
  intro b o hB _ he
  rcases h.form with ⟨rfl, _⟩ | ⟨g, rfl, _, hlt⟩
  · simp at he
  · rcases h'.form with ⟨h1, _⟩ | ⟨g', h1, h2, _⟩
    · rw [h1] at hB; cases hB
    · rw [h1] at hB
      injection hB with hB
      injection hB with hB
      have he' : b = g := by simpa using he
      omega

end Go.Proofs.Ytmfgcjjoagdamaa
