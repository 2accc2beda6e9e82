
/-
  Literals of slices, as laws of the walk: the world behind is a name.
-/
import Derived.Test.YtmfgcjjoagdamaaBase
namespace Go.Proofs.Ytmfgcjjoagdamaa
open Go.RowKit
open Go.Lib (hid)

section
variable {P : Program} {ops : Array Oper} {rest : List Oper} {o : Oper} {a : Act} {Q : Exit → Act → World → Prop} {w : World}

theorem wpl_of_run (hw : Region.wanted o (yielded ops a.tmps) = true) {v : Value} {w' : World} (hrun : (execOp a.eval o).run P w = .ok (.value v) w') (h : wpList P ops Q rest (a.put o.dst v) w') : wpList P ops Q (o :: rest) a w :=
  BigFrame.wpList_want hw fun K hK => by
    unfold Oper.wp
    rw [hrun]
    exact hK _ _ h

theorem range0 : Array.range 0 = #[] := by decide +kernel
theorem range1 : Array.range 1 = #[0] := by decide +kernel
theorem range2 : Array.range 2 = #[0, 1] := by decide +kernel
theorem run_lit1 (t e : TypeId) (k : IntKind) (bytes : Nat) (h1 : P.underlying t = some (.slice e)) (hi : (P.info? e).map (fun i => (i.zero, i.size, i.bytes)) = some (some (.int k 0), 1, bytes)) (v : Int) :
    (Instr.buildSlice t 1 #[(0, .int k v)]).run P w = .ok (.slice (some ⟨w.heap.size, 0, none⟩) 1 1) (w.alloc (.cells #[.int k v] e)) := by
  obtain ⟨i, hi1, hi2, hi3, hi4⟩ := info_parts hi
  simp [Instr.buildSlice, run_underlying h1, sizeOf, typeInfo, hi1, hi2, hi3, zeroValue, Instr.fill, newRow, Value.cells, range1, range2]
theorem run_lit2 (t e : TypeId) (k : IntKind) (bytes : Nat) (h1 : P.underlying t = some (.slice e)) (hi : (P.info? e).map (fun i => (i.zero, i.size, i.bytes)) = some (some (.int k 0), 1, bytes)) (v v' : Int) :
    (Instr.buildSlice t 2 #[(0, .int k v), (1, .int k v')]).run P w = .ok (.slice (some ⟨w.heap.size, 0, none⟩) 2 2) (w.alloc (.cells #[.int k v, .int k v'] e)) := by
  obtain ⟨i, hi1, hi2, hi3, hi4⟩ := info_parts hi
  simp [Instr.buildSlice, run_underlying h1, sizeOf, typeInfo, hi1, hi2, hi3, zeroValue, Instr.fill, newRow, Value.cells, range1, range2]
theorem run_lit0 (t e : TypeId) (k : IntKind) (bytes : Nat) (h1 : P.underlying t = some (.slice e)) (hi : (P.info? e).map (fun i => (i.zero, i.size, i.bytes)) = some (some (.int k 0), 1, bytes)) :
    (Instr.buildSlice t 0 #[]).run P w = .ok (.slice (some ⟨w.heap.size, 0, none⟩) 0 0) (w.alloc (.cells #[] e)) := by
  obtain ⟨i, hi1, hi2, hi3, hi4⟩ := info_parts hi
  simp [Instr.buildSlice, run_underlying h1, sizeOf, typeInfo, hi1, hi3, Instr.fill, newRow, range0]

theorem wpl_lit0 {w0 : World} (hx : Ext w0 w) (hw : Region.wanted o (yielded ops a.tmps) = true) (t : TypeId) (hop : o.op = .buildSlice t 0 #[]) (e : TypeId) (k : IntKind) (bytes : Nat) (h1 : P.underlying t = some (.slice e))
    (hi : (P.info? e).map (fun i => (i.zero, i.size, i.bytes)) = some (some (.int k 0), 1, bytes))
    (hK : ∀ g w', w0.heap.size ≤ g → Own k e w' w0.heap.size (some ⟨g, 0, none⟩) 0 0 [] → Ext w0 w' → Ext w w' → wpList P ops Q rest (a.put o.dst (.slice (some ⟨g, 0, none⟩) 0 0)) w') : wpList P ops Q (o :: rest) a w := by
  refine wpl_of_run hw (w' := w.alloc (.cells #[] e)) (v := .slice (some ⟨w.heap.size, 0, none⟩) 0 0) ?_ ?_
  · simp [execOp, hop, run_lit0 t e k bytes h1 hi, Result.andThen]
  · exact hK _ _ hx.size ((Own.lit w [] 0 rfl (by simp [maxLen])).mono hx.size) (hx.alloc _) ((Ext.refl w).alloc _)
theorem wpl_lit1 {w0 : World} (hx : Ext w0 w) (hw : Region.wanted o (yielded ops a.tmps) = true) (t : TypeId) (x : Operand) (hop : o.op = .buildSlice t 1 #[(0, x)]) (e : TypeId) (k : IntKind) (bytes : Nat) (h1 : P.underlying t = some (.slice e))
    (hi : (P.info? e).map (fun i => (i.zero, i.size, i.bytes)) = some (some (.int k 0), 1, bytes)) (v : Int) (z : Nat) (hv : a.eval x = .int k v) (hz : v = z)
    (hK : ∀ g w', w0.heap.size ≤ g → Own k e w' w0.heap.size (some ⟨g, 0, none⟩) 1 1 [z] → Ext w0 w' → Ext w w' → wpList P ops Q rest (a.put o.dst (.slice (some ⟨g, 0, none⟩) 1 1)) w') : wpList P ops Q (o :: rest) a w := by
  subst hz
  refine wpl_of_run hw (w' := w.alloc (.cells #[.int k (z : Int)] e)) (v := .slice (some ⟨w.heap.size, 0, none⟩) 1 1) ?_ ?_
  · simp [execOp, hop, hv, run_lit1 t e k bytes h1 hi, Result.andThen]
  · exact hK _ _ hx.size ((Own.lit w [z] 1 rfl (by simp [maxLen])).mono hx.size) (hx.alloc _) ((Ext.refl w).alloc _)
theorem wpl_lit2 {w0 : World} (hx : Ext w0 w) (hw : Region.wanted o (yielded ops a.tmps) = true) (t : TypeId) (x y : Operand) (hop : o.op = .buildSlice t 2 #[(0, x), (1, y)]) (e : TypeId) (k : IntKind) (bytes : Nat) (h1 : P.underlying t = some (.slice e))
    (hi : (P.info? e).map (fun i => (i.zero, i.size, i.bytes)) = some (some (.int k 0), 1, bytes)) (v v' : Int) (z z' : Nat) (hv : a.eval x = .int k v) (hv' : a.eval y = .int k v') (hz : v = z) (hz' : v' = z')
    (hK : ∀ g w', w0.heap.size ≤ g → Own k e w' w0.heap.size (some ⟨g, 0, none⟩) 2 2 [z, z'] → Ext w0 w' → Ext w w' → wpList P ops Q rest (a.put o.dst (.slice (some ⟨g, 0, none⟩) 2 2)) w') : wpList P ops Q (o :: rest) a w := by
  subst hz; subst hz'
  refine wpl_of_run hw (w' := w.alloc (.cells #[.int k (z : Int), .int k (z' : Int)] e)) (v := .slice (some ⟨w.heap.size, 0, none⟩) 2 2) ?_ ?_
  · simp [execOp, hop, hv, hv', run_lit2 t e k bytes h1 hi, Result.andThen]
  · exact hK _ _ hx.size ((Own.lit w [z, z'] 2 rfl (by simp [maxLen])).mono hx.size) (hx.alloc _) ((Ext.refl w).alloc _)

end
end Go.Proofs.Ytmfgcjjoagdamaa
