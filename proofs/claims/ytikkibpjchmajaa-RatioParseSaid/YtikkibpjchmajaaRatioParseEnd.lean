/-
  The statement RatioParse of layer's laws is proved: for every input the call returns true, and each argument reads as before. No condition.
-/
import Derived.Test.YtikkibpjchmajaaRows
import Derived.WalkKit
import Derived.Test.YtikkibpjchmajaaPk42
import Derived.ProofKit
import Derived.OpenShut
import Derived.ShutString
import Derived.ChangeOld
import Derived.Below
import Derived.Lib.SmallJoins
namespace Go.Proofs.Ytikkibpjchmajaa.ratioParse
open Go.ChangeShapes Go.WideShapes Go.ChangeAt Go.RowKit Go.Joins
open Go.ChangeMaps (open_string shut_string)
set_option linter.unusedVariables false

theorem own : ownKnob Try.prog.godebug = none := by kernel_rfl
theorem laidOut : laidOutB Try.prog = true := by kernel_rfl

def IsRow (k : IntKind) (w : World) (a : Option Addr) (len cap : Nat) (zs : List Int) : Prop :=
  (a = none ∧ len = 0 ∧ cap = 0 ∧ zs = []) ∨
  ∃ x, a = some x ∧ len ≤ cap ∧ cap ≤ maxLen ∧ zs.length = cap ∧ (∀ i, i < zs.length → w.cell? (x.add i) = some (.int k (zs.getD i 0))) ∧ ∀ n ∈ zs, (Lit.int k n).wf = true

theorem sl_of_row {w : World} {a : Option Addr} {len cap : Nat} {zs : List Int} (h : IsRow .u32 w a len cap zs) : ∃ xs : List Nat, Sl .u32 w a len cap xs ∧ Lim 4294967296 xs := by
  rcases h with ⟨rfl, rfl, rfl, rfl⟩ | ⟨x, rfl, hl, hm, hz, hc, hw⟩
  · exact ⟨[], ⟨rfl, Nat.le_refl _, by simp [maxLen], fun h => absurd h (by omega)⟩, fun x hx => by simp at hx⟩
  · have hb : ∀ z ∈ zs, 0 ≤ z ∧ z ≤ 4294967295 := fun z hz => bounds_u32 (hw z hz)
    refine ⟨(zs.take len).map Int.toNat, ⟨by simp; omega, hl, hm, fun hp => ?_⟩, fun y hy => ?_⟩
    · obtain ⟨b, off, spot⟩ := x
      have h0 := hc 0 (by omega)
      have hspot : spot = none := by simpa [Addr.add] using World.cell?_spot h0
      subst hspot
      have hlt := World.block_lt_of_cell? w _ h0
      rw [Addr.add_lit] at hlt
      refine ⟨b, off, rfl, hlt, fun j z hj => ?_⟩
      rw [List.getElem?_map, List.getElem?_take] at hj
      split at hj
      · rename_i hjl
        have hcj := hc j (by omega)
        rw [Addr.add_lit] at hcj
        rw [hcj]
        rw [List.getElem?_eq_getElem (by omega)] at hj
        have hz' : zs[j].toNat = z := by simpa using hj
        have hb' := hb zs[j] (List.getElem_mem _)
        have e : zs.getD j 0 = (z : Int) := by
          rw [List.getD_eq_getElem?_getD, List.getElem?_eq_getElem (by omega)]
          simp only [Option.getD_some]
          omega
        rw [e]
      · simp at hj
    · obtain ⟨z, hz1, rfl⟩ := List.mem_map.1 hy
      have := hb z (List.mem_of_mem_take hz1)
      omega


/-- A field of limbs. -/
theorem int_row {H : Type} {enc : TypeId × Value → H} {W : World} {fuel : Nat} {v : Value} {y : DataW H × List MemPlace} (hf : DataW.trod enc Try.prog W 0 (fun _ => true) true fuel 22 [v] = some y) : ∃ a len cap zs, v = .slice a len cap ∧ IsRow .u32 W a len cap zs := by
  rcases open_ints Try.underlying22 Try.underlying100 (by kernel_rfl) hf with ⟨hcs, _⟩ | ⟨x, l, c, zs, hcs, _, hl, hm, hz, _, hcell, hwz⟩
  · simp at hcs
    exact ⟨_, _, _, [], hcs, .inl ⟨rfl, rfl, rfl, rfl⟩⟩
  · simp at hcs
    exact ⟨_, _, _, zs, hcs, .inr ⟨_, rfl, hl, hm, by simpa using hz, hcell, hwz⟩⟩

set_option maxRecDepth 100000 in
/-- A number of two whole ones. -/
theorem open_rat {H : Type} {enc : TypeId × Value → H} {W : World} {base : Nat} {v : Value} {d : DataW H} {p : List MemPlace} (hv : Value.okWide Try.prog W .any base 27 v) (h : DataW.Trod enc Try.prog W 0 (fun _ => true) true 27 v d p) :
    ∃ (b : Bool) (P : Option Addr) (l k : Nat) (z : List Int) (c : Bool) (Q : Option Addr) (m e : Nat) (u : List Int), v = .agg #[.bool b, .slice P l k, .bool c, .slice Q m e] ∧ IsRow .u32 W P l k z ∧ IsRow .u32 W Q m e u := by
  have e0 : Try.prog.cellsOf 27 = 4 := by kernel_rfl
  obtain ⟨cs, rfl, hsz⟩ := okWide_struct Try.underlying27 hv
  obtain ⟨c0, c1, c2, c3, rfl⟩ := array4 (hsz.trans e0)
  obtain ⟨fuel, hf⟩ := h
  obtain ⟨y0, y1, n, _, _, h0, h1⟩ := trod_struct2 Try.underlying27 hf
  have e1 : Try.prog.cellsOf 24 = 2 := by kernel_rfl
  have e2 : Try.prog.cellsOf 4 = 1 := by kernel_rfl
  have e3 : Try.prog.cellsOf 22 = 1 := by kernel_rfl
  simp [Value.cells, e1] at h0 h1
  obtain ⟨a0, a1, n0, _, _, g0, g1⟩ := trod_struct2 Try.underlying24 h0
  obtain ⟨a2, a3, n1, _, _, g2, g3⟩ := trod_struct2 Try.underlying24 h1
  simp [e2, e3] at g0 g1 g2 g3
  obtain ⟨b, hb, _⟩ := DataW.trod_bool Try.underlying4 g0
  obtain ⟨c, hc, _⟩ := DataW.trod_bool Try.underlying4 g2
  obtain ⟨P, l, k, z, hp, r0⟩ := int_row g1
  obtain ⟨Q, m, e, u, hq, r1⟩ := int_row g3
  have hb' : c0 = .bool b := by simpa using hb
  have hc' : c2 = .bool c := by simpa using hc
  exact ⟨b, P, l, k, z, c, Q, m, e, u, by rw [hb', hc', hp, hq], r0, r1⟩

theorem walk (s0 : ByteArray) (b1 : Bool) (P1 : Option Addr) (l1 k1 : Nat) (z1 : List Int) (B1 : Bool) (Q1 : Option Addr) (L1 K1 : Nat) (Z1 : List Int) (w : World) (w0 : s0.size ≤ maxLen) (w1 : IsRow .u32 w P1 l1 k1 z1) (u1 : IsRow .u32 w Q1 L1 K1 Z1) :
    Calls Try.prog 4 #[.string s0, .agg #[.bool b1, .slice P1 l1 k1, .bool B1, .slice Q1 L1 K1]] w fun e w' => e = .returned (.bool true) ∧ Below w.heap.size w w' := by
  obtain ⟨X1, h1, m1⟩ := sl_of_row w1
  obtain ⟨Y1, g1, q1⟩ := sl_of_row u1
  exact ratioParse_any h1 m1 g1 q1

set_option maxRecDepth 100000 in
theorem lifted (os : Os) (started : os.Started) (H : Type) (enc : TypeId × Value → H) :
    ReturnsInHanded {} Try.checked os 4 .any (Rows.ratioParseSpec.pre6 enc Try.prog Try.f4 Rows.ratioParseRow.domain false) (Rows.ratioParseSpec.post enc Try.prog Try.f4 false true false false) := by
  refine returnsInHanded_of_change (C := Try.checked) own started (by kernel_rfl) Try.func4
    (ChangeSpec.witness6 (enc := enc) (C := Try.checked) false ⟨#[], #[.string ByteArray.empty, .agg #[.bool false, .slice none 0 0, .bool false, .slice none 0 0]], []⟩ 8 (by kernel_rfl) (by kernel_rfl) (by kernel_rfl) (by kernel_rfl)) ?_
  intro W base args ds gs before hval0 hW hcnd _
  have hval : ∀ (j : Nat) t v, Try.f4.params[j]? = some t → args[j]? = some v → Value.okWide Try.prog W .any base t v := hval0
  have hW' := hW
  obtain ⟨p, q, hA0, hV, rfl, hfz, hnd⟩ := hW
  have hA : DataW.TrodAll enc Try.prog W 0 (fun _ => true) true Try.f4.params.toList args.toList ds p := hA0
  rw [Try.params4] at hA hval
  obtain ⟨v0, vs0, d0, ds0, p0, q0, hargs, rfl, rfl, h0, r0⟩ := trodAll_cons hA
  obtain ⟨v1, vs1, d1, ds1, p1, q1, rfl, rfl, rfl, h1, r1⟩ := trodAll_cons r0
  obtain ⟨rfl, rfl, rfl⟩ := trodAll_nil r1
  obtain rfl : args = #[v0, v1] := by cases args; simp_all
  obtain ⟨rfl, rfl⟩ := trodVars_none hV
  obtain ⟨s0, rfl, rfl, rfl, w0⟩ := open_string Try.underlying9 (hval 0 9 v0 rfl rfl) h0
  have k1 := h1
  have lt1 : ∀ x ∈ p1, x.block < W.heap.size := by obtain ⟨m, hm⟩ := k1; exact DataW.trod_lt m _ _ _ hm
  obtain ⟨b1, P1, l1, c1, z1, B1, Q1, L1, K1, Z1, hv1, w1, u1⟩ := open_rat (hval 1 27 v1 rfl rfl) h1
  subst hv1
  clear hA0 hval0
  refine (walk s0 b1 P1 l1 c1 z1 B1 Q1 L1 K1 Z1 W w0 w1 u1).mono fun e W' ⟨he, bel⟩ => ?_
  subst he
  exact ⟨_, rfl, _, _, _, [], _, [], hW', trodAll_mk1 (shut_bool Try.underlying4 _), (trodAll_cons_mk (shut_string Try.underlying9 w0) (trodAll_cons_mk (Below.trod laidOut (by kernel_rfl) (of_decide_eq_true (by kernel_rfl)) k1 bel lt1) trodAll_mk0)), rfl, bel.frame _, fun h => by cases h⟩

theorem over : Rows.ratioParseRow.holds Try.pinned (OpenSpec.ofChange Rows.ratioParseSpec) :=
  OpenClaim.holds_of_wide 4 Try.f4 rfl rfl rfl rfl rfl rfl rfl ⟨rfl, rfl, rfl, rfl, rfl⟩ rfl rfl rfl rfl rfl (by kernel_rfl) Try.func4 (by kernel_rfl)
    (of_decide_eq_true (by kernel_rfl)) (by unfold Func.isWrapper; first | (rw [if_pos (by decide +kernel)]; kernel_rfl) | (rw [if_neg (by decide +kernel)]; exact ⟨rfl, rfl⟩))
    (fun os started H enc _ => lifted os started H enc)

theorem proved : Rows.RatioParseSaid := over
#print axioms proved
end Go.Proofs.Ytikkibpjchmajaa.ratioParse
