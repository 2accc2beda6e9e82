/-
  Words for memory: a slice that reads as a list of numbers; a slice of the call's own; laws for make, copy, append of one.
  Literals of slices, as laws of the walk: the world behind is a name.
  Worlds that part in one block alone.
  append of one element.
-/
import Derived.WalkKit
import Derived.WalkLawsBesides
import Derived.Deep.QuietTactic
import Derived.BigQuiet
import Derived.Lib.Hide
import Derived.WalkSpells
import Derived.Laws.CopyOwn
namespace Go.Proofs.Ytikkibpjchmajaa
open Go.RowKit
open Go.Lib (hid)

/-- The slice value '.slice A n c' reads as the numbers zs of kind k. -/
structure Sl (k : IntKind) (w : World) (A : Option Addr) (n c : Nat) (zs : List Nat) : Prop where
  len : zs.length = n
  cap : n ≤ c
  max : c ≤ maxLen
  at_ : 0 < n → ∃ b o, A = some ⟨b, o, none⟩ ∧ b < w.heap.size ∧ ∀ (j z : Nat), zs[j]? = some z → w.cell? ⟨b, o + j, none⟩ = some (.int k (z : Int))

/-- The world w' is w with new blocks: what was there is as it was. -/
def Ext (w w' : World) : Prop := Below w.heap.size w w'

theorem Ext.refl (w : World) : Ext w w := Below.refl _ _
theorem Ext.trans {a b c : World} (h : Ext a b) (k : Ext b c) : Ext a c := Below.trans h (Below.mono k h.size)
theorem Ext.size {a b : World} (h : Ext a b) : a.heap.size ≤ b.heap.size := Below.size h
theorem Ext.drew {a b : World} (h : Ext a b) : Ext a b.drew := Below.drew h
theorem Ext.drewN {a b : World} (h : Ext a b) (n : Nat) : Ext a (b.drewN n) := by
  have h' : Below a.heap.size a b := h
  exact ⟨h'.os, h'.tape, h'.output, h'.size, h'.block⟩
theorem Ext.alloc {a b : World} (h : Ext a b) (o : Obj) : Ext a (b.alloc o) := Below.alloc h h.size o
theorem Ext.setCell {a b : World} (h : Ext a b) {p : Addr} (hp : a.heap.size ≤ p.block) (u : Value) : Ext a (b.setCell p u) := Below.setCell h hp u
theorem Ext.of_below {a b : World} {B : Nat} (h : Below B a b) (hB : a.heap.size ≤ B) : Ext a b := Below.mono h hB

section
variable {k : IntKind} {w w' : World} {A : Option Addr} {n c : Nat} {zs : List Nat}

theorem Sl.ext (h : Sl k w A n c zs) (hb : Ext w w') : Sl k w' A n c zs :=
  ⟨h.len, h.cap, h.max, fun hn => by
    obtain ⟨b, o, e, hlt, hc⟩ := h.at_ hn
    exact ⟨b, o, e, Nat.lt_of_lt_of_le hlt hb.size, fun j z hz => (Below.cell hb (p := ⟨b, o + j, none⟩) hlt).trans (hc j z hz)⟩⟩
theorem Sl.drewN (h : Sl k w A n c zs) (m : Nat) : Sl k (w.drewN m) A n c zs := h.ext ((Ext.refl _).drewN m)
theorem Sl.drew (h : Sl k w A n c zs) : Sl k w.drew A n c zs := h.ext (Ext.refl _).drew

/-- The cell of one element. -/
theorem Sl.get (h : Sl k w A n c zs) {i : Nat} (hi : i < n) : ∃ b o, A = some ⟨b, o, none⟩ ∧ w.cell? ⟨b, o + i, none⟩ = some (.int k ((zs[i]?.getD 0 : Nat) : Int)) := by
  obtain ⟨b, o, e, _, hc⟩ := h.at_ (by omega)
  refine ⟨b, o, e, hc i _ ?_⟩
  have := h.len
  rw [List.getElem?_eq_getElem (by omega)]; rfl

/-- Shorter by its length, in the same place. -/
theorem Sl.take (h : Sl k w A n c zs) {m : Nat} (hm : m ≤ n) : Sl k w A m c (zs.take m) :=
  ⟨by rw [List.length_take, h.len]; omega, Nat.le_trans hm h.cap, h.max, fun hp => by
    obtain ⟨b, o, e, hlt, hc⟩ := h.at_ (by omega)
    refine ⟨b, o, e, hlt, fun j z hz => hc j z ?_⟩
    rw [List.getElem?_take] at hz
    split at hz
    · exact hz
    · simp at hz⟩

/-- A slice of the call's own, in a block from lo on. -/
def Own (k : IntKind) (e : TypeId) (w : World) (lo : Nat) (A : Option Addr) (n c : Nat) (zs : List Nat) : Prop :=
  w.ownsRow lo e 1 (.slice A n c) n (zs.map fun z : Nat => Value.int k (z : Int))

variable {e : TypeId} {lo : Nat}

theorem Own.len (h : Own k e w lo A n c zs) : zs.length = n := by simpa using h.1

theorem Own.form (h : Own k e w lo A n c zs) : (A = none ∧ n = 0 ∧ c = 0) ∨ ∃ g, A = some ⟨g, 0, none⟩ ∧ lo ≤ g ∧ g < w.heap.size := by
  rcases h.2 with ⟨h, hn⟩ | ⟨g, cap, cur, h, hl, hg, _⟩
  · injection h with h1 h2 h3
    exact .inl ⟨h1, h2, h3⟩
  · injection h with h1 h2 h3
    exact .inr ⟨g, h1, hl, (Array.getElem?_eq_some_iff.1 hg).1⟩

theorem Own.cap (h : Own k e w lo A n c zs) : n ≤ c ∧ c ≤ maxLen := by
  rcases h.2 with ⟨h, hn⟩ | ⟨g, cap, cur, h, hl, hg, hnc, hm, _⟩
  · injection h with h1 h2 h3
    subst h3; exact ⟨by omega, by simp [maxLen]⟩
  · injection h with h1 h2 h3
    subst h3; exact ⟨hnc, hm⟩

theorem Own.sl (h : Own k e w lo A n c zs) : Sl k w A n c zs :=
  ⟨h.len, h.cap.1, h.cap.2, fun hn => by
    rcases h.form with ⟨_, h0, _⟩ | ⟨g, rfl, _, hlt⟩
    · omega
    · refine ⟨g, 0, rfl, hlt, fun j z hz => ?_⟩
      have hj : j < zs.length := (List.getElem?_eq_some_iff.1 hz).1
      have hl := h.len
      have hc := World.ownsRow.cellAt h j (by omega)
      rw [Nat.zero_add, hc, List.getElem?_map, hz]; rfl⟩

theorem Own.mono {lo' : Nat} (h : Own k e w lo A n c zs) (hl : lo' ≤ lo) : Own k e w lo' A n c zs :=
  ⟨h.1, by
    rcases h.2 with h' | ⟨g, cap, cur, h1, h2, r⟩
    · exact .inl h'
    · exact .inr ⟨g, cap, cur, h1, Nat.le_trans hl h2, r⟩⟩

theorem Own.ext (h : Own k e w lo A n c zs) (hb : Ext w w') : Own k e w' lo A n c zs :=
  ⟨h.1, by
    rcases h.2 with h' | ⟨g, cap, cur, h1, h2, h3, r⟩
    · exact .inl h'
    · exact .inr ⟨g, cap, cur, h1, h2, (hb.block g (Array.getElem?_eq_some_iff.1 h3).1).trans h3, r⟩⟩
theorem Own.drew (h : Own k e w lo A n c zs) : Own k e w.drew lo A n c zs := h
theorem Own.drewN (h : Own k e w lo A n c zs) (m : Nat) : Own k e (w.drewN m) lo A n c zs := h
theorem Own.alloc (h : Own k e w lo A n c zs) (o : Obj) : Own k e (w.alloc o) lo A n c zs := h.ext ((Ext.refl _).alloc o)

/-- A store into another block. -/
theorem Own.far (h : Own k e w lo A n c zs) {p : Addr} (hp : ∀ g, A = some ⟨g, 0, none⟩ → g ≠ p.block) (u : Value) : Own k e (w.setCell p u) lo A n c zs :=
  ⟨h.1, by
    rcases h.2 with h' | ⟨g, cap, cur, h1, h2, h3, r⟩
    · exact .inl h'
    · injection h1 with h1a h1b h1c
      exact .inr ⟨g, cap, cur, by rw [h1a, h1c], h2, (Below.heap_setCell _ _ _ _ (hp g h1a)).trans h3, r⟩⟩

variable {g : Nat}
/-- Facts of one element for the walk. -/
theorem Own.cell (h : Own k e w lo (some ⟨g, 0, none⟩) n c zs) {i : Nat} (hi : i < n) : w.cell? ⟨g, i, none⟩ = some (.int k ((zs[i]?.getD 0 : Nat) : Int)) := by
  have hl := h.len
  rw [World.ownsRow.cellAt h i (by omega), List.getElem?_map, List.getElem?_eq_getElem (show i < zs.length by omega)]; rfl
theorem Own.frozen (h : Own k e w lo (some ⟨g, 0, none⟩) n c zs) (i : Nat) : w.frozen? ⟨g, i, none⟩ = false := World.ownsRow.frozenAt h i
theorem Own.set (h : Own k e w lo (some ⟨g, 0, none⟩) n c zs) (i z : Nat) : Own k e (w.setCell ⟨g, i, none⟩ (.int k (z : Int))) lo (some ⟨g, 0, none⟩) n c (zs.set i z) := by
  have := (World.ownsRow.stored h i (.int k (z : Int))).1
  unfold Own
  rw [List.map_set]
  exact this
theorem Own.lo_le (h : Own k e w lo (some ⟨g, 0, none⟩) n c zs) : lo ≤ g ∧ g < w.heap.size := by
  rcases h.form with ⟨h, _⟩ | ⟨g', h, h1, h2⟩
  · cases h
  · injection h with h; injection h with h; subst h; exact ⟨h1, h2⟩

theorem Own.take (h : Own k e w lo A n c zs) {m : Nat} (hm : m ≤ n) : Own k e w lo A m c (zs.take m) := by
  have hl := h.len
  refine ⟨by simp [hl]; omega, ?_⟩
  rcases h.2 with ⟨h1, h2⟩ | ⟨g, cap, cur, h1, h2, h3, h4, h5, h6, h7⟩
  · injection h1 with h1 h1' h1''
    exact .inl ⟨by rw [h1, h1'']; congr 1; omega, by omega⟩
  · injection h1 with h1 h1' h1''
    refine .inr ⟨g, cap, cur, by rw [h1, h1''], h2, h3, by omega, h5, h6, ?_⟩
    rw [List.map_take, ← h7, List.take_take]
    congr 1; omega

end

/-- A result: a new slice. -/
def RetO (k : IntKind) (e : TypeId) (zs : List Nat) (w : World) : Ending → World → Prop := fun E w' =>
  ∃ A c, E = .returned (.slice A zs.length c) ∧ Own k e w' w.heap.size A zs.length c zs ∧ Ext w w'

theorem ret_int {k : IntKind} {a b : Int} (h : a = b) : Ending.returned (.int k a) = .returned (.int k b) := by rw [h]

theorem RetO.mono {k : IntKind} {e : TypeId} {zs : List Nat} {w w1 w' : World} {E : Ending} (h : RetO k e zs w1 E w') (hx : Ext w w1) : RetO k e zs w E w' := by
  obtain ⟨A, c, h1, h2, h3⟩ := h
  exact ⟨A, c, h1, h2.mono hx.size, hx.trans h3⟩

theorem Own.lit {k : IntKind} {e : TypeId} (w : World) (zs : List Nat) (n : Nat) (hn : zs.length = n) (hm : n ≤ maxLen) :
    Own k e (w.alloc (.cells (zs.map fun z : Nat => Value.int k (z : Int)).toArray e)) w.heap.size (some ⟨w.heap.size, 0, none⟩) n n zs := by
  have := World.ownsRow_lit (e := e) (size := 1) (base := w.heap.size) w (zs.map fun z : Nat => Value.int k (z : Int)).toArray n (Nat.le_refl _) hm (by simp [hn])
  simpa [Own] using this

theorem Ext.trans_own {a b c : World} {row : Option Nat} (h : Ext a b) (hg : b.grownBy c row) (hr : ∀ g, row = some g → a.heap.size ≤ g) : Ext a c :=
  Below.grown h hg h.size hr

section
variable {P : Program} {ops : Array Oper} {rest : List Oper} {o : Oper} {a : Act} {Q : Exit → Act → World → Prop} {w : World}

/-- make([]T, n). -/
theorem wpl_make {w0 : World} (hx : Ext w0 w) (hg : o.guard = none) (l c : Operand) (t : TypeId) (hop : o.op = Op.makeSlice t l c) (e : TypeId) (k : IntKind) (bytes : Nat) (h1 : P.underlying t = some (.slice e))
    (hi : (P.info? e).map (fun i => (i.zero, i.size, i.bytes)) = some (some (.int k 0), 1, bytes)) (L : Int) (n : Nat) (hl : a.eval l = .int .i64 L) (hc : a.eval c = .int .i64 L) (hL : L = (n : Int))
    (hb : bytes * n ≤ 281474976710656) (hn : n ≤ maxLen)
    (hK : ∀ g w', w0.heap.size ≤ g → Own k e w' w0.heap.size (some ⟨g, 0, none⟩) n n (List.replicate n 0) → Ext w0 w' → wpList P ops Q rest (a.put o.dst (.slice (some ⟨g, 0, none⟩) n n)) w') :
    wpList P ops Q (o :: rest) a w := by
  obtain ⟨i, hi1, hi2, hi3, hi4⟩ := info_parts hi
  refine wpList_make_full (P := P) w hg l c t hop w0.heap.size e i (.int k 0) 1 h1 hi1 hi2 hi3 .i64 .i64 L L n hl hc hL hL (by rw [hi4]; exact hb) hn hx.size ?_
  intro w' hown hgr
  refine hK w.heap.size w' hx.size ?_ (hx.trans ⟨hgr.os, hgr.tape, hgr.output, hgr.size, fun j hj => hgr.block j hj (by simp)⟩)
  have e1 : (madeCells (Value.int k 0).cells (n * 1)).toList = (List.replicate n 0).map fun z : Nat => Value.int k (z : Int) := by
    apply List.ext_getElem
    · simp [madeCells]
    · intro j h1 h2
      simp [madeCells, Value.cells, Nat.mod_one]
  unfold Own
  rw [← e1]
  exact hown

/-- copy(dst, src) of as many elements as dst has, dst the call's own. -/
theorem wpl_copy {w0 : World} (hg : o.guard = none) (d s : Operand) (dT sT : TypeId) (ho : o.op = .call { callee := .builtin .copy, args := #[d, s], argTypes := #[dT, sT] }) (e : TypeId)
    (hu : P.underlying dT = some (.slice e)) (hsz : (P.info? e).map (·.size) = some 1) {k : IntKind} {A : Option Addr} {g n c c' : Nat} {zs ys : List Nat}
    (hd : a.eval d = .slice (some ⟨g, 0, none⟩) n c) (hs : a.eval s = .slice A n c') (hown : Own k e w w0.heap.size (some ⟨g, 0, none⟩) n c zs) (hsl : Sl k w A n c' ys) (hx : Ext w0 w)
    (hK : ∀ w', Own k e w' w0.heap.size (some ⟨g, 0, none⟩) n c ys → Ext w0 w' → wpList P ops Q rest (a.put o.dst (goInt n)) w') :
    wpList P ops Q (o :: rest) a w := by
  rcases hown.2 with ⟨h, _⟩ | ⟨g', cap, cur, h1, h2, h3, h4, h5, h6, h7⟩
  · cases h
  · injection h1 with h1 _ h1c
    injection h1 with h1
    injection h1 with h1
    subst h1; subst h1c
    have hyl := hsl.len
    have hmin : Nat.min n n = n := Nat.min_self n
    have hcl : (ys.map fun z : Nat => Value.int k (z : Int)).length = n := by simp [hyl]
    refine wpList_copy_splice (P := P) (w := w) hg d s dT sT ho e hu hsz (some ⟨g, 0, none⟩) A n c n c' hd hs g 0 cur.toList e (by simpa using h3) (ys.map fun z : Nat => Value.int k (z : Int)) (by rw [hcl, hmin])
      ?_ (by simp only [hcl, Array.length_toList]; omega) ?_ w0.heap.size w0 hx h2 ?_
    · intro hp
      obtain ⟨b, off, hA, _, hc⟩ := hsl.at_ (by omega)
      refine ⟨rfl, ⟨b, off, none⟩, hA, fun j v hv => ?_⟩
      rw [List.getElem?_map] at hv
      cases hj : ys[j]? with
      | none => rw [hj] at hv; simp at hv
      | some z =>
        rw [hj] at hv
        have hv' : Value.int k (z : Int) = v := by simpa using hv
        rw [← hv', Addr.add_lit]
        exact hc j z hj
    · intro v hv
      obtain ⟨_, _, rfl⟩ := List.mem_map.1 hv
      rfl
    · intro w' hb hbel
      have hb := hb.out
      rw [hcl]
      refine hK w' ⟨by simp [hyl], .inr ⟨g, c, _, rfl, h2, hb, h4, h5, ?_, ?_⟩⟩ hbel
      · simp [splice, hyl]; omega
      · simp only [splice, Nat.mul_one, List.take_zero, List.nil_append]
        rw [List.take_append_of_le_length (by simp [hyl]), List.take_of_length_le (by simp [hyl])]

end
end Go.Proofs.Ytikkibpjchmajaa

namespace Go.Proofs.Ytikkibpjchmajaa
open Go.RowKit
open Go.Lib (hid)

section
variable {P : Program} {ops : Array Oper} {rest : List Oper} {o : Oper} {a : Act} {Q : Exit → Act → World → Prop} {w : World}

theorem wpl_of_run (hw : Region.wanted o (yielded ops a.tmps) = true) {v : Value} {w' : World} (hrun : (execOp a.eval o).run P w = .ok (.value v) w') (h : wpList P ops Q rest (a.put o.dst v) w') : wpList P ops Q (o :: rest) a w :=
  BigFrame.wpList_want hw fun K hK => by
    unfold Oper.wp
    rw [hrun]
    exact hK _ _ h

theorem range0 : Array.range 0 = #[] := by decide +kernel
theorem range1 : Array.range 1 = #[0] := by decide +kernel
theorem range2 : Array.range 2 = #[0, 1] := by decide +kernel
theorem run_lit1 (t e : TypeId) (k : IntKind) (bytes : Nat) (h1 : P.underlying t = some (.slice e)) (hi : (P.info? e).map (fun i => (i.zero, i.size, i.bytes)) = some (some (.int k 0), 1, bytes)) (v : Int) :
    (Instr.buildSlice t 1 #[(0, .int k v)]).run P w = .ok (.slice (some ⟨w.heap.size, 0, none⟩) 1 1) (w.alloc (.cells #[.int k v] e)) := by
  obtain ⟨i, hi1, hi2, hi3, hi4⟩ := info_parts hi
  simp [Instr.buildSlice, run_underlying h1, sizeOf, typeInfo, hi1, hi2, hi3, zeroValue, Instr.fill, newRow, Value.cells, range1, range2]
theorem run_lit2 (t e : TypeId) (k : IntKind) (bytes : Nat) (h1 : P.underlying t = some (.slice e)) (hi : (P.info? e).map (fun i => (i.zero, i.size, i.bytes)) = some (some (.int k 0), 1, bytes)) (v v' : Int) :
    (Instr.buildSlice t 2 #[(0, .int k v), (1, .int k v')]).run P w = .ok (.slice (some ⟨w.heap.size, 0, none⟩) 2 2) (w.alloc (.cells #[.int k v, .int k v'] e)) := by
  obtain ⟨i, hi1, hi2, hi3, hi4⟩ := info_parts hi
  simp [Instr.buildSlice, run_underlying h1, sizeOf, typeInfo, hi1, hi2, hi3, zeroValue, Instr.fill, newRow, Value.cells, range1, range2]
theorem run_lit0 (t e : TypeId) (k : IntKind) (bytes : Nat) (h1 : P.underlying t = some (.slice e)) (hi : (P.info? e).map (fun i => (i.zero, i.size, i.bytes)) = some (some (.int k 0), 1, bytes)) :
    (Instr.buildSlice t 0 #[]).run P w = .ok (.slice (some ⟨w.heap.size, 0, none⟩) 0 0) (w.alloc (.cells #[] e)) := by
  obtain ⟨i, hi1, hi2, hi3, hi4⟩ := info_parts hi
  simp [Instr.buildSlice, run_underlying h1, sizeOf, typeInfo, hi1, hi3, Instr.fill, newRow, range0]

theorem wpl_lit0 {w0 : World} (hx : Ext w0 w) (hw : Region.wanted o (yielded ops a.tmps) = true) (t : TypeId) (hop : o.op = .buildSlice t 0 #[]) (e : TypeId) (k : IntKind) (bytes : Nat) (h1 : P.underlying t = some (.slice e))
    (hi : (P.info? e).map (fun i => (i.zero, i.size, i.bytes)) = some (some (.int k 0), 1, bytes))
    (hK : ∀ g w', w0.heap.size ≤ g → Own k e w' w0.heap.size (some ⟨g, 0, none⟩) 0 0 [] → Ext w0 w' → Ext w w' → wpList P ops Q rest (a.put o.dst (.slice (some ⟨g, 0, none⟩) 0 0)) w') : wpList P ops Q (o :: rest) a w := by
  refine wpl_of_run hw (w' := w.alloc (.cells #[] e)) (v := .slice (some ⟨w.heap.size, 0, none⟩) 0 0) ?_ ?_
  · simp [execOp, hop, run_lit0 t e k bytes h1 hi, Result.andThen]
  · exact hK _ _ hx.size ((Own.lit w [] 0 rfl (by simp [maxLen])).mono hx.size) (hx.alloc _) ((Ext.refl w).alloc _)
theorem wpl_lit1 {w0 : World} (hx : Ext w0 w) (hw : Region.wanted o (yielded ops a.tmps) = true) (t : TypeId) (x : Operand) (hop : o.op = .buildSlice t 1 #[(0, x)]) (e : TypeId) (k : IntKind) (bytes : Nat) (h1 : P.underlying t = some (.slice e))
    (hi : (P.info? e).map (fun i => (i.zero, i.size, i.bytes)) = some (some (.int k 0), 1, bytes)) (v : Int) (z : Nat) (hv : a.eval x = .int k v) (hz : v = z)
    (hK : ∀ g w', w0.heap.size ≤ g → Own k e w' w0.heap.size (some ⟨g, 0, none⟩) 1 1 [z] → Ext w0 w' → Ext w w' → wpList P ops Q rest (a.put o.dst (.slice (some ⟨g, 0, none⟩) 1 1)) w') : wpList P ops Q (o :: rest) a w := by
  subst hz
  refine wpl_of_run hw (w' := w.alloc (.cells #[.int k (z : Int)] e)) (v := .slice (some ⟨w.heap.size, 0, none⟩) 1 1) ?_ ?_
  · simp [execOp, hop, hv, run_lit1 t e k bytes h1 hi, Result.andThen]
  · exact hK _ _ hx.size ((Own.lit w [z] 1 rfl (by simp [maxLen])).mono hx.size) (hx.alloc _) ((Ext.refl w).alloc _)
theorem wpl_lit2 {w0 : World} (hx : Ext w0 w) (hw : Region.wanted o (yielded ops a.tmps) = true) (t : TypeId) (x y : Operand) (hop : o.op = .buildSlice t 2 #[(0, x), (1, y)]) (e : TypeId) (k : IntKind) (bytes : Nat) (h1 : P.underlying t = some (.slice e))
    (hi : (P.info? e).map (fun i => (i.zero, i.size, i.bytes)) = some (some (.int k 0), 1, bytes)) (v v' : Int) (z z' : Nat) (hv : a.eval x = .int k v) (hv' : a.eval y = .int k v') (hz : v = z) (hz' : v' = z')
    (hK : ∀ g w', w0.heap.size ≤ g → Own k e w' w0.heap.size (some ⟨g, 0, none⟩) 2 2 [z, z'] → Ext w0 w' → Ext w w' → wpList P ops Q rest (a.put o.dst (.slice (some ⟨g, 0, none⟩) 2 2)) w') : wpList P ops Q (o :: rest) a w := by
  subst hz; subst hz'
  refine wpl_of_run hw (w' := w.alloc (.cells #[.int k (z : Int), .int k (z' : Int)] e)) (v := .slice (some ⟨w.heap.size, 0, none⟩) 2 2) ?_ ?_
  · simp [execOp, hop, hv, hv', run_lit2 t e k bytes h1 hi, Result.andThen]
  · exact hK _ _ hx.size ((Own.lit w [z, z'] 2 rfl (by simp [maxLen])).mono hx.size) (hx.alloc _) ((Ext.refl w).alloc _)

end
end Go.Proofs.Ytikkibpjchmajaa

namespace Go.Proofs.Ytikkibpjchmajaa
open Go.RowKit

theorem gb_refl (w : World) (row : Option Nat) : w.grownBy w row := ⟨rfl, rfl, rfl, Nat.le_refl _, fun _ _ _ => rfl⟩
theorem gb_trans {a b c : World} {row : Option Nat} (h : a.grownBy b row) (k : b.grownBy c row) : a.grownBy c row :=
  ⟨k.os.trans h.os, k.tape.trans h.tape, k.output.trans h.output, Nat.le_trans h.size k.size, fun j hj hne => (k.block j (Nat.lt_of_lt_of_le hj h.size) hne).trans (h.block j hj hne)⟩
theorem gb_set {a b : World} {g i : Nat} (h : a.grownBy b (some g)) (v : Value) : a.grownBy (b.setCell ⟨g, i, none⟩ v) (some g) :=
  gb_trans h ⟨rfl, rfl, rfl, Nat.le_of_eq (World.size_setCell _ _ _).symm, fun j _ hne => Below.heap_setCell _ _ _ _ (fun e => hne (by rw [e]))⟩
end Go.Proofs.Ytikkibpjchmajaa

namespace Go.Proofs.Ytikkibpjchmajaa
open Go.RowKit
open Go.Lib (hid)

section
variable {P : Program} {ops : Array Oper} {rest : List Oper} {o : Oper} {a : Act} {Q : Exit → Act → World → Prop} {w : World}

/-- append(s, x): x stands in a block that was just made. -/
theorem wpl_append1 {w0 : World} (hg : o.guard = none) (s x : Operand) (t : TypeId) (ho : o.op = .call { callee := .builtin .append, args := #[s, x], argTypes := #[t, t] })
    (e : TypeId) (k : IntKind) (bytes : Nat) (h1 : P.underlying t = some (.slice e)) (hi : (P.info? e).map (fun i => (i.zero, i.size, i.bytes)) = some (some (.int k 0), 1, bytes))
    {A : Option Addr} {n c : Nat} {zs : List Nat} (v : Int) (z : Nat) (hs : a.eval s = .slice A n c) (hx : a.eval x = .slice (some ⟨w.heap.size, 0, none⟩) 1 1) (hv : v = (z : Int))
    (hown : Own k e w w0.heap.size A n c zs) (hext : Ext w0 w) (hb : (n + 1) * bytes ≤ 140737488355328) (hn : n + 1 ≤ maxLen)
    (hK : ∀ A' c' w', Own k e w' w0.heap.size A' (n + 1) c' (zs ++ [z]) → Ext w0 w' → Hid (w.grownBy w' (A.map (·.block))) → wpList P ops Q rest (a.put o.dst (.slice A' (n + 1) c')) w') :
    wpList P ops Q (o :: rest) a (w.alloc (.cells #[.int k v] e)) := by
  subst hv
  obtain ⟨i, hi1, hi2, hi3, hi4⟩ := info_parts hi
  have hext' : Ext w0 (w.alloc (.cells #[.int k (z : Int)] e)) := hext.alloc _
  refine wpList_append_own (P := P) (w.alloc (.cells #[.int k (z : Int)] e)) hg s x t ho w0.heap.size e i (.int k 0) 1 bytes h1 hi1 hi2 hi3 hi4 rfl (by omega) (.slice A n c) n _ hs (hown.alloc _)
    ⟨w.heap.size, 0, none⟩ 1 1 [.int k (z : Int)] hx rfl ?_ ?_ hn hb hext'.size ?_
  · intro j u hu
    have hj : j = 0 := by
      have := (List.getElem?_eq_some_iff.1 hu).1
      simp at this; omega
    subst hj
    have hu' : Value.int k (z : Int) = u := by simpa using hu
    rw [← hu', Addr.add_lit]
    exact (Own.lit (k := k) (e := e) w [z] 1 rfl (by simp [maxLen])).cell (i := 0) (by omega)
  · intro u hu
    simp at hu
    subst hu
    rfl
  · intro v' w' hown' hgr _
    have hpos : ∃ A' c', v' = .slice A' (n + 1) c' := by
      rcases hown'.2 with ⟨_, h0⟩ | ⟨g, cap, cur, hv', _⟩
      · omega
      · exact ⟨_, _, hv'⟩
    obtain ⟨A', c', rfl⟩ := hpos
    refine hK A' c' w' ?_ ?_ ?_
    · unfold Own
      rw [List.map_append]
      exact hown'
    · refine hext'.trans_own hgr fun g hg' => ?_
      rcases hown.form with ⟨rfl, _⟩ | ⟨g', rfl, hlo, _⟩
      · simp [Value.ownBlock] at hg'
      · simp [Value.ownBlock] at hg'
        omega
    · have e : (Value.slice A n c).ownBlock = A.map (·.block) := by cases A <;> rfl
      rw [e] at hgr
      exact ⟨hgr.os, hgr.tape, hgr.output, Nat.le_trans (by simp) hgr.size, fun j hj hne => (hgr.block j (by simp; omega) hne).trans (Below.heap_alloc _ _ _ hj)⟩

theorem run_append_of_nil' (base : Nat) (t ty e : TypeId) (i : TypeInfo) (size : Nat) (ht : P.underlying t = some (.slice e)) (hi : P.info? e = some i)
    (v : Value) (n : Nat) (xs : List Value) (hown : w.ownsRow base e size v n xs) (c : Nat) : (Builtin.append_ #[t, t] ty #[v, .slice none 0 c]).run P w = .ok v w := by
  rcases hown.2 with ⟨rfl, rfl⟩ | ⟨g, cap, cur, rfl, _, _, hnc, _⟩
  · simp [Builtin.append_, run_underlying ht, sizeOf, typeInfo, hi, Builtin.lenOf, Builtin.firstCells]
  · simp [Builtin.append_, run_underlying ht, sizeOf, typeInfo, hi, Builtin.lenOf, Builtin.firstCells, hnc, storeCells]

/-- append(s, x...): s the call's own, x any slice of numbers. -/
theorem wpl_append {w0 : World} (hg : o.guard = none) (s x : Operand) (t : TypeId) (ho : o.op = .call { callee := .builtin .append, args := #[s, x], argTypes := #[t, t] })
    (e : TypeId) (k : IntKind) (bytes : Nat) (h1 : P.underlying t = some (.slice e)) (hi : (P.info? e).map (fun i => (i.zero, i.size, i.bytes)) = some (some (.int k 0), 1, bytes))
    {A B : Option Addr} {n c m d : Nat} {zs ys : List Nat} (hs : a.eval s = .slice A n c) (hx : a.eval x = .slice B m d)
    (hown : Own k e w w0.heap.size A n c zs) (hsl : Sl k w B m d ys) (hext : Ext w0 w) (hb : (n + m) * bytes ≤ 140737488355328) (hn : n + m ≤ maxLen)
    (hK : ∀ A' n' c' w', Own k e w' w0.heap.size A' n' c' (zs ++ ys) → Ext w0 w' → Hid (w.grownBy w' (A.map (·.block))) → Hid (n' = n + m) → wpList P ops Q rest (a.put o.dst (.slice A' n' c')) w') :
    wpList P ops Q (o :: rest) a w := by
  obtain ⟨i, hi1, hi2, hi3, hi4⟩ := info_parts hi
  rcases B with _ | ad
  · have hm : m = 0 := by
      rcases Nat.eq_zero_or_pos m with h0 | h0
      · exact h0
      · obtain ⟨_, _, h, _⟩ := hsl.at_ h0
        cases h
    subst hm
    have hys : ys = [] := List.eq_nil_of_length_eq_zero hsl.len
    subst hys
    have hrun := run_append_of_nil' (P := P) (w := w) w0.heap.size t o.type e i 1 h1 hi1 (.slice A n c) n _ hown d
    refine wpList_plain hg fun K hK' => ?_
    unfold Oper.wp execOp
    simp only [ho, resolve, invoke, builtin, Sem.run_bind, Sem.run_pure, Result.andThen_ok, List.map_toArray, List.map_cons, List.map_nil, hs, hx, hrun]
    exact hK' _ _ (hK A n c w (by rw [List.append_nil]; exact hown) hext ⟨rfl, rfl, rfl, Nat.le_refl _, fun _ _ _ => rfl⟩ rfl)
  · refine wpList_append_own (P := P) w hg s x t ho w0.heap.size e i (.int k 0) 1 bytes h1 hi1 hi2 hi3 hi4 rfl (by omega) (.slice A n c) n _ hs hown
      ad m d (ys.map fun z : Nat => Value.int k (z : Int)) hx (by simp [hsl.len]) ?_ ?_ hn hb hext.size ?_
    · intro j u hu
      rw [List.getElem?_map] at hu
      cases hj : ys[j]? with
      | none => rw [hj] at hu; simp at hu
      | some z =>
        rw [hj] at hu
        have hjl : j < ys.length := (List.getElem?_eq_some_iff.1 hj).1
        obtain ⟨b, off, hA, _, hc⟩ := hsl.at_ (by have := hsl.len; omega)
        injection hA with hA
        subst hA
        have hu' : Value.int k (z : Int) = u := by simpa using hu
        rw [← hu', Addr.add_lit]
        exact hc j z hj
    · intro u hu
      obtain ⟨_, _, rfl⟩ := List.mem_map.1 hu
      rfl
    · intro v' w' hown' hgr hnil
      have hex : ∃ A' c', v' = .slice A' (n + m) c' := by
        rcases hown'.2 with ⟨h, h0⟩ | ⟨g, cap, cur, hv', _⟩
        · exact ⟨none, 0, by rw [h, h0]⟩
        · exact ⟨_, _, hv'⟩
      obtain ⟨A', c', rfl⟩ := hex
      have e : (Value.slice A n c).ownBlock = A.map (·.block) := by cases A <;> rfl
      rw [e] at hgr
      refine hK A' (n + m) c' w' ?_ ?_ hgr rfl
      · unfold Own
        rw [List.map_append]
        exact hown'
      · refine hext.trans_own hgr fun g hg' => ?_
        rcases hown.form with ⟨rfl, _⟩ | ⟨g', rfl, hlo, _⟩
        · simp at hg'
        · simp at hg'
          omega
end

/-- What lies in another block than the one that was written reads as before. -/
theorem Sl.grown {k : IntKind} {w w' : World} {A : Option Addr} {n c : Nat} {zs : List Nat} {row : Option Nat} (h : Sl k w A n c zs) (hg : w.grownBy w' row) (hne : ∀ b o, A = some ⟨b, o, none⟩ → 0 < n → some b ≠ row) : Sl k w' A n c zs :=
  ⟨h.len, h.cap, h.max, fun hn => by
    obtain ⟨b, o, e, hlt, hc⟩ := h.at_ hn
    exact ⟨b, o, e, Nat.lt_of_lt_of_le hlt hg.size, fun j z hz => (World.cell?_of_block (hg.block b hlt (hne b o e hn))).trans (hc j z hz)⟩⟩
theorem Own.grown {k : IntKind} {e : TypeId} {w w' : World} {lo : Nat} {A : Option Addr} {n c : Nat} {zs : List Nat} {row : Option Nat} (h : Own k e w lo A n c zs) (hg : w.grownBy w' row) (hne : ∀ g, A = some ⟨g, 0, none⟩ → some g ≠ row) : Own k e w' lo A n c zs :=
  ⟨h.1, by
    rcases h.2 with h' | ⟨g, cap, cur, h1, h2, h3, r⟩
    · exact .inl h'
    · injection h1 with h1a h1b h1c
      exact .inr ⟨g, cap, cur, by rw [h1a, h1c], h2, (hg.block g (Array.getElem?_eq_some_iff.1 h3).1 (hne g h1a)).trans h3, r⟩⟩
/-- Two rows of the call's own, the second one made later. -/
theorem Own.apart {k k' : IntKind} {e e' : TypeId} {w w' : World} {lo lo' : Nat} {A B : Option Addr} {n c n' c' : Nat} {zs ys : List Nat} (h : Own k e w lo A n c zs) (h' : Own k' e' w' lo' B n' c' ys) (hl : w.heap.size ≤ lo') :
    ∀ b o, B = some ⟨b, o, none⟩ → 0 < n' → some b ≠ A.map (·.block) := by
  intro b o hB _ he
  rcases h.form with ⟨rfl, _⟩ | ⟨g, rfl, _, hlt⟩
  · simp at he
  · rcases h'.form with ⟨h1, _⟩ | ⟨g', h1, h2, _⟩
    · rw [h1] at hB; cases hB
    · rw [h1] at hB
      injection hB with hB
      injection hB with hB
      have he' : b = g := by simpa using he
      omega

end Go.Proofs.Ytikkibpjchmajaa

