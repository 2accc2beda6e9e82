
/-
  The contract of layer 4's statements' own 'great': one of the numbers has more limbs than are looked at.
-/
import Derived.Test.YtmfgcjjoagdamaaWPow
namespace Go.Proofs.Ytmfgcjjoagdamaa
open Go.RowKit
open Go.Lib (hid)

/-- A row of k structs in block g. -/
def Row (w : World) (g k : Nat) (S : Nat → Bool) (A : Nat → Option Addr) (N C : Nat → Nat) : Prop := g < w.heap.size ∧ ∀ i, i < k → w.cell? ⟨g, i * 2, none⟩ = some (.bool (S i)) ∧ w.cell? ⟨g, i * 2 + 1, none⟩ = some (.slice (A i) (N i) (C i))
theorem Row.ext {w w' : World} {g k : Nat} {S : Nat → Bool} {A : Nat → Option Addr} {N C : Nat → Nat} (h : Row w g k S A N C) (hx : Ext w w') : Row w' g k S A N C :=
  ⟨Nat.lt_of_lt_of_le h.1 hx.size, fun i hi => ⟨(Below.cell hx (p := ⟨g, i * 2, none⟩) h.1).trans (h.2 i hi).1, (Below.cell hx (p := ⟨g, i * 2 + 1, none⟩) h.1).trans (h.2 i hi).2⟩⟩

set_option maxHeartbeats 800000 in
theorem great4_no {w : World} {g k : Nat} {S : Nat → Bool} {A : Nat → Option Addr} {N C : Nat → Nat} (h : Row w g k S A N C) (hk : k ≤ 100) (hN : ∀ i, i < k → N i ≤ 25) :
    Calls Try.prog 33 #[.slice (some ⟨g, 0, none⟩) k k] w (RetE (.bool false) w) := by
  have H := hid h
  have HN := hid hN
  clear h hN
  go_enter Try.func33, Try.ntmps33
  go_wp2_with fail
  go_loopw [7] (fun si wr => ∃ i : Nat, i ≤ k ∧ si = .int .i64 i ∧ Ext w wr) (fun si _ => k - (intOf si).toNat)
  case atStart => exact ⟨0, Nat.zero_le _, rfl, Ext.refl _⟩
  case round =>
    obtain ⟨i, hi, rfl, hx⟩ := hrel
    have HX := hid hx
    clear hx
    by_cases hlt : i < k
    · have hc := (H.out.ext HX.out).2 i hlt
      obtain ⟨hc0, hc1⟩ := hc
      have hn := HN.out i hlt
      generalize N i = m at *
      generalize A i = a at *
      generalize S i = s at *
      generalize C i = c at *
      have hnn : ¬ (25 : Int) < (m : Int) := by omega
      go_wp2_with fail
      exact ⟨⟨i + 1, by omega, by go_num, HX.out.alloc _⟩, by simp [intOf]; omega⟩
    · obtain rfl : i = k := by omega
      go_wp2_with fail
      go_ret
      exact ⟨rfl, HX.out⟩

set_option maxHeartbeats 800000 in
theorem great4_yes {w : World} {g k : Nat} {S : Nat → Bool} {A : Nat → Option Addr} {N C : Nat → Nat} (h : Row w g k S A N C) (hk : k ≤ 100) (hN : ∃ i, i < k ∧ 25 < N i) :
    Calls Try.prog 33 #[.slice (some ⟨g, 0, none⟩) k k] w (RetE (.bool true) w) := by
  have H := hid h
  have HN := hid hN
  clear h hN
  go_enter Try.func33, Try.ntmps33
  go_wp2_with fail
  go_loopw [7] (fun si wr => ∃ i : Nat, i ≤ k ∧ si = .int .i64 i ∧ (∀ j, j < i → N j ≤ 25) ∧ Ext w wr) (fun si _ => k - (intOf si).toNat)
  case atStart => exact ⟨0, Nat.zero_le _, rfl, fun j hj => by omega, Ext.refl _⟩
  case round =>
    obtain ⟨i, hi, rfl, hb, hx⟩ := hrel
    have HX := hid hx
    have HB := hid hb
    clear hx hb
    by_cases hlt : i < k
    · have hc := (H.out.ext HX.out).2 i hlt
      obtain ⟨hc0, hc1⟩ := hc
      obtain ⟨m, hm⟩ : ∃ m, N i = m := ⟨_, rfl⟩
      have HM := hid hm
      rw [hm] at hc1
      clear hm
      generalize A i = a at *
      generalize S i = s at *
      generalize C i = c at *
      by_cases hnn : (25 : Int) < (m : Int)
      · go_wp2_with fail
        go_ret
        exact ⟨rfl, HX.out.alloc _⟩
      · go_wp2_with fail
        exact ⟨⟨i + 1, by omega, by go_num, fun j hj => by
          rcases Nat.lt_or_ge j i with h | h
          · exact HB.out j h
          · obtain rfl : j = i := by omega
            rw [HM.out]; omega, HX.out.alloc _⟩, by simp [intOf]; omega⟩
    · exfalso
      obtain ⟨j, hj, hj2⟩ := HN.out
      have := HB.out j (by omega)
      omega

section
variable {P : Program} {ops : Array Oper} {rest : List Oper} {o : Oper} {a : Act} {Q : Exit → Act → World → Prop} {w : World}
theorem range4 : Array.range 2 = #[0, 1] := by decide +kernel
theorem range4' : Array.range 3 = #[0, 1, 2] := by decide +kernel
theorem run_litI2 {s1 s2 : Bool} {A1 A2 : Option Addr} {n1 c1 n2 c2 : Nat} : (Instr.buildSlice 99 2 #[(0, .agg #[.bool s1, .slice A1 n1 c1]), (1, .agg #[.bool s2, .slice A2 n2 c2])]).run Try.prog w =
    .ok (.slice (some ⟨w.heap.size, 0, none⟩) 2 2) (w.alloc (.cells #[.bool s1, .slice A1 n1 c1, .bool s2, .slice A2 n2 c2] 24)) := by
  kernel_rfl
theorem run_litI3 {s1 s2 s3 : Bool} {A1 A2 A3 : Option Addr} {n1 c1 n2 c2 n3 c3 : Nat} : (Instr.buildSlice 99 3 #[(0, .agg #[.bool s1, .slice A1 n1 c1]), (1, .agg #[.bool s2, .slice A2 n2 c2]), (2, .agg #[.bool s3, .slice A3 n3 c3])]).run Try.prog w =
    .ok (.slice (some ⟨w.heap.size, 0, none⟩) 3 3) (w.alloc (.cells #[.bool s1, .slice A1 n1 c1, .bool s2, .slice A2 n2 c2, .bool s3, .slice A3 n3 c3] 24)) := by
  kernel_rfl
theorem cells_of {W : World} {g : Nat} {cs : Array Value} {t : TypeId} {fr : Nat × Nat} (h : W.heap[g]? = some (.cells cs t fr)) (i : Nat) : W.cell? ⟨g, i, none⟩ = cs[i]? := by simp [World.cell?, h]
/-- A literal of two structs, of three. -/
def Row2 (w : World) (g : Nat) (s1 : Bool) (A1 : Option Addr) (n1 c1 : Nat) (s2 : Bool) (A2 : Option Addr) (n2 c2 : Nat) : Prop := Row w g 2 (fun i => if i = 0 then s1 else s2) (fun i => if i = 0 then A1 else A2) (fun i => if i = 0 then n1 else n2) (fun i => if i = 0 then c1 else c2)
def Row3 (w : World) (g : Nat) (s1 : Bool) (A1 : Option Addr) (n1 c1 : Nat) (s2 : Bool) (A2 : Option Addr) (n2 c2 : Nat) (s3 : Bool) (A3 : Option Addr) (n3 c3 : Nat) : Prop :=
  Row w g 3 (fun i => if i = 0 then s1 else if i = 1 then s2 else s3) (fun i => if i = 0 then A1 else if i = 1 then A2 else A3) (fun i => if i = 0 then n1 else if i = 1 then n2 else n3) (fun i => if i = 0 then c1 else if i = 1 then c2 else c3)
theorem wpl_litI2 {w0 : World} (hx : Ext w0 w) (hw : Region.wanted o (yielded ops a.tmps) = true) (x y : Operand) (hop : o.op = .buildSlice 99 2 #[(0, x), (1, y)]) {s1 s2 : Bool} {A1 A2 : Option Addr} {n1 c1 n2 c2 : Nat} (hv : a.eval x = .agg #[.bool s1, .slice A1 n1 c1]) (hv' : a.eval y = .agg #[.bool s2, .slice A2 n2 c2])
    (hK : ∀ g w', Row2 w' g s1 A1 n1 c1 s2 A2 n2 c2 → Ext w0 w' → Ext w w' → wpList Try.prog ops Q rest (a.put o.dst (.slice (some ⟨g, 0, none⟩) 2 2)) w') : wpList Try.prog ops Q (o :: rest) a w := by
  refine wpl_of_run hw (w' := w.alloc (.cells #[.bool s1, .slice A1 n1 c1, .bool s2, .slice A2 n2 c2] 24)) (v := .slice (some ⟨w.heap.size, 0, none⟩) 2 2) ?_ ?_
  · simp [execOp, hop, hv, hv', run_litI2, Result.andThen]
  · refine hK _ _ ⟨by rw [size_alloc]; omega, fun i hi => ?_⟩ (hx.alloc _) ((Ext.refl w).alloc _)
    have h := heap_alloc_new w (.cells #[.bool s1, .slice A1 n1 c1, .bool s2, .slice A2 n2 c2] 24)
    rcases (show i = 0 ∨ i = 1 by omega) with rfl | rfl <;> exact ⟨(cells_of h _).trans rfl, (cells_of h _).trans rfl⟩
theorem wpl_litI3 {w0 : World} (hx : Ext w0 w) (hw : Region.wanted o (yielded ops a.tmps) = true) (x y u : Operand) (hop : o.op = .buildSlice 99 3 #[(0, x), (1, y), (2, u)]) {s1 s2 s3 : Bool} {A1 A2 A3 : Option Addr} {n1 c1 n2 c2 n3 c3 : Nat} (hv : a.eval x = .agg #[.bool s1, .slice A1 n1 c1]) (hv' : a.eval y = .agg #[.bool s2, .slice A2 n2 c2]) (hv'' : a.eval u = .agg #[.bool s3, .slice A3 n3 c3])
    (hK : ∀ g w', Row3 w' g s1 A1 n1 c1 s2 A2 n2 c2 s3 A3 n3 c3 → Ext w0 w' → Ext w w' → wpList Try.prog ops Q rest (a.put o.dst (.slice (some ⟨g, 0, none⟩) 3 3)) w') : wpList Try.prog ops Q (o :: rest) a w := by
  refine wpl_of_run hw (w' := w.alloc (.cells #[.bool s1, .slice A1 n1 c1, .bool s2, .slice A2 n2 c2, .bool s3, .slice A3 n3 c3] 24)) (v := .slice (some ⟨w.heap.size, 0, none⟩) 3 3) ?_ ?_
  · simp [execOp, hop, hv, hv', hv'', run_litI3, Result.andThen]
  · refine hK _ _ ⟨by rw [size_alloc]; omega, fun i hi => ?_⟩ (hx.alloc _) ((Ext.refl w).alloc _)
    have h := heap_alloc_new w (.cells #[.bool s1, .slice A1 n1 c1, .bool s2, .slice A2 n2 c2, .bool s3, .slice A3 n3 c3] 24)
    rcases (show i = 0 ∨ i = 1 ∨ i = 2 by omega) with rfl | rfl | rfl <;> exact ⟨(cells_of h _).trans rfl, (cells_of h _).trans rfl⟩
theorem row2_new (w : World) (s1 : Bool) (A1 : Option Addr) (n1 c1 : Nat) (s2 : Bool) (A2 : Option Addr) (n2 c2 : Nat) : Row2 (w.alloc (.cells #[.bool s1, .slice A1 n1 c1, .bool s2, .slice A2 n2 c2] 24)) w.heap.size s1 A1 n1 c1 s2 A2 n2 c2 := by
  refine ⟨by rw [size_alloc]; omega, fun i hi => ?_⟩
  have h := heap_alloc_new w (.cells #[.bool s1, .slice A1 n1 c1, .bool s2, .slice A2 n2 c2] 24)
  rcases (show i = 0 ∨ i = 1 by omega) with rfl | rfl <;> exact ⟨(cells_of h _).trans rfl, (cells_of h _).trans rfl⟩
theorem row3_new (w : World) (s1 : Bool) (A1 : Option Addr) (n1 c1 : Nat) (s2 : Bool) (A2 : Option Addr) (n2 c2 : Nat) (s3 : Bool) (A3 : Option Addr) (n3 c3 : Nat) : Row3 (w.alloc (.cells #[.bool s1, .slice A1 n1 c1, .bool s2, .slice A2 n2 c2, .bool s3, .slice A3 n3 c3] 24)) w.heap.size s1 A1 n1 c1 s2 A2 n2 c2 s3 A3 n3 c3 := by
  refine ⟨by rw [size_alloc]; omega, fun i hi => ?_⟩
  have h := heap_alloc_new w (.cells #[.bool s1, .slice A1 n1 c1, .bool s2, .slice A2 n2 c2, .bool s3, .slice A3 n3 c3] 24)
  rcases (show i = 0 ∨ i = 1 ∨ i = 2 by omega) with rfl | rfl | rfl <;> exact ⟨(cells_of h _).trans rfl, (cells_of h _).trans rfl⟩
theorem great2_no {g : Nat} {s1 s2 : Bool} {A1 A2 : Option Addr} {n1 c1 n2 c2 : Nat} (h : Row2 w g s1 A1 n1 c1 s2 A2 n2 c2) (h1 : n1 ≤ 25) (h2 : n2 ≤ 25) : Calls Try.prog 33 #[.slice (some ⟨g, 0, none⟩) 2 2] w (RetE (.bool false) w) :=
  great4_no h (by omega) fun i hi => by rcases (show i = 0 ∨ i = 1 by omega) with rfl | rfl <;> simpa
theorem great2_yes {g : Nat} {s1 s2 : Bool} {A1 A2 : Option Addr} {n1 c1 n2 c2 : Nat} (h : Row2 w g s1 A1 n1 c1 s2 A2 n2 c2) (h1 : 25 < n1 ∨ 25 < n2) : Calls Try.prog 33 #[.slice (some ⟨g, 0, none⟩) 2 2] w (RetE (.bool true) w) :=
  great4_yes h (by omega) (by rcases h1 with h1 | h1; exact ⟨0, by omega, by simpa⟩; exact ⟨1, by omega, by simpa⟩)
theorem great3_no {g : Nat} {s1 s2 s3 : Bool} {A1 A2 A3 : Option Addr} {n1 c1 n2 c2 n3 c3 : Nat} (h : Row3 w g s1 A1 n1 c1 s2 A2 n2 c2 s3 A3 n3 c3) (h1 : n1 ≤ 25) (h2 : n2 ≤ 25) (h3 : n3 ≤ 25) : Calls Try.prog 33 #[.slice (some ⟨g, 0, none⟩) 3 3] w (RetE (.bool false) w) :=
  great4_no h (by omega) fun i hi => by rcases (show i = 0 ∨ i = 1 ∨ i = 2 by omega) with rfl | rfl | rfl <;> simpa
theorem great3_yes {g : Nat} {s1 s2 s3 : Bool} {A1 A2 A3 : Option Addr} {n1 c1 n2 c2 n3 c3 : Nat} (h : Row3 w g s1 A1 n1 c1 s2 A2 n2 c2 s3 A3 n3 c3) (h1 : 25 < n1 ∨ 25 < n2 ∨ 25 < n3) : Calls Try.prog 33 #[.slice (some ⟨g, 0, none⟩) 3 3] w (RetE (.bool true) w) :=
  great4_yes h (by omega) (by rcases h1 with h1 | h1 | h1; exact ⟨0, by omega, by simpa⟩; exact ⟨1, by omega, by simpa⟩; exact ⟨2, by omega, by simpa⟩)
theorem Iz.zero : Iz 0 w false none 0 0 0 := ⟨0, Nv.none, rfl⟩
end
end Go.Proofs.Ytmfgcjjoagdamaa
