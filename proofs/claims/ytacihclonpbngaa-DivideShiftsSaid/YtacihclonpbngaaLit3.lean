
/-
  Literals of three.
-/
import Derived.Test.YtacihclonpbngaaNum
namespace Go.Proofs.Ytacihclonpbngaa
open Go.RowKit
open Go.Lib (hid)

section
variable {P : Program} {ops : Array Oper} {rest : List Oper} {o : Oper} {a : Act} {Q : Exit → Act → World → Prop} {w : World}
theorem range3 : Array.range 3 = #[0, 1, 2] := by decide +kernel
theorem run_lit3 (t e : TypeId) (k : IntKind) (bytes : Nat) (h1 : P.underlying t = some (.slice e)) (hi : (P.info? e).map (fun i => (i.zero, i.size, i.bytes)) = some (some (.int k 0), 1, bytes)) (v v' v'' : Int) :
    (Instr.buildSlice t 3 #[(0, .int k v), (1, .int k v'), (2, .int k v'')]).run P w = .ok (.slice (some ⟨w.heap.size, 0, none⟩) 3 3) (w.alloc (.cells #[.int k v, .int k v', .int k v''] e)) := by
  obtain ⟨i, hi1, hi2, hi3, hi4⟩ := info_parts hi
  simp [Instr.buildSlice, run_underlying h1, sizeOf, typeInfo, hi1, hi2, hi3, zeroValue, Instr.fill, newRow, Value.cells, range3]
theorem wpl_lit3 {w0 : World} (hx : Ext w0 w) (hw : Region.wanted o (yielded ops a.tmps) = true) (t : TypeId) (x y u : Operand) (hop : o.op = .buildSlice t 3 #[(0, x), (1, y), (2, u)]) (e : TypeId) (k : IntKind) (bytes : Nat) (h1 : P.underlying t = some (.slice e))
    (hi : (P.info? e).map (fun i => (i.zero, i.size, i.bytes)) = some (some (.int k 0), 1, bytes)) (v v' v'' : Int) (z z' z'' : Nat) (hv : a.eval x = .int k v) (hv' : a.eval y = .int k v') (hv'' : a.eval u = .int k v'') (hz : v = z) (hz' : v' = z') (hz'' : v'' = z'')
    (hK : ∀ g w', w0.heap.size ≤ g → Own k e w' w0.heap.size (some ⟨g, 0, none⟩) 3 3 [z, z', z''] → Ext w0 w' → Ext w w' → wpList P ops Q rest (a.put o.dst (.slice (some ⟨g, 0, none⟩) 3 3)) w') : wpList P ops Q (o :: rest) a w := by
  subst hz; subst hz'; subst hz''
  refine wpl_of_run hw (w' := w.alloc (.cells #[.int k (z : Int), .int k (z' : Int), .int k (z'' : Int)] e)) (v := .slice (some ⟨w.heap.size, 0, none⟩) 3 3) ?_ ?_
  · simp [execOp, hop, hv, hv', hv'', run_lit3 t e k bytes h1 hi, Result.andThen]
  · exact hK _ _ hx.size ((Own.lit w [z, z', z''] 3 rfl (by simp [maxLen])).mono hx.size) (hx.alloc _) ((Ext.refl w).alloc _)
end
section
variable {K K' : Nat} {w : World} {lo lo' : Nat} {A A' : Option Addr} {n c m n' c' m' : Nat}
theorem lim3 {x y z : Nat} (h : x < 4294967296) (h' : y < 4294967296) (h'' : z < 4294967296) : Lim 4294967296 [x, y, z] := fun u hu => by simp at hu; omega
theorem val3 (x y z : Nat) : nv 4294967296 [x, y, z] = x + 4294967296 * (y + 4294967296 * z) := by simp [nv]
theorem lit_nv3 {x y z g : Nat} (h : Own .u32 23 w lo (some ⟨g, 0, none⟩) 3 c [x, y, z]) (hx : x < 4294967296) (hy : y < 4294967296) (hz : z < 4294967296) (hm : x + 4294967296 * (y + 4294967296 * z) = m) : Nv 3 w (some ⟨g, 0, none⟩) 3 c m := ⟨_, h.sl, lim3 hx hy hz, (val3 x y z).trans hm, Nat.le_refl _⟩
end
end Go.Proofs.Ytacihclonpbngaa
