
/-
  Words for memory: a slice that reads as a list of numbers; a slice of the call's own; laws for make, copy, append of one.
-/
import Derived.WalkKit
import Derived.WalkLawsBesides
import Derived.Deep.QuietTactic
import Derived.BigQuiet
import Derived.Lib.Hide
import Derived.WalkSpells
import Derived.Laws.CopyOwn
namespace Go.Proofs.Ytmfgcjjoagdamaa
open Go.RowKit
open Go.Lib (hid)

/-- The slice value '.slice A n c' reads as the numbers zs of kind k. -/
structure Sl (k : IntKind) (w : World) (A : Option Addr) (n c : Nat) (zs : List Nat) : Prop where
  len : zs.length = n
  cap : n ≤ c
  max : c ≤ maxLen
  at_ : 0 < n → ∃ b o, A = some ⟨b, o, none⟩ ∧ b < w.heap.size ∧ ∀ (j z : Nat), zs[j]? = some z → w.cell? ⟨b, o + j, none⟩ = some (.int k (z : Int))

/-- The world w' is w with new blocks: what was there is as it was. -/
def Ext (w w' : World) : Prop := Below w.heap.size w w'

theorem Ext.refl (w : World) : Ext w w := Below.refl _ _
theorem Ext.trans {a b c : World} (h : Ext a b) (k : Ext b c) : Ext a c := Below.trans h (Below.mono k h.size)
theorem Ext.size {a b : World} (h : Ext a b) : a.heap.size ≤ b.heap.size := Below.size h
theorem Ext.drew {a b : World} (h : Ext a b) : Ext a b.drew := Below.drew h
theorem Ext.drewN {a b : World} (h : Ext a b) (n : Nat) : Ext a (b.drewN n) := by
  have h' : Below a.heap.size a b := h
  exact ⟨h'.os, h'.tape, h'.output, h'.size, h'.block⟩
theorem Ext.alloc {a b : World} (h : Ext a b) (o : Obj) : Ext a (b.alloc o) := Below.alloc h h.size o
theorem Ext.setCell {a b : World} (h : Ext a b) {p : Addr} (hp : a.heap.size ≤ p.block) (u : Value) : Ext a (b.setCell p u) := Below.setCell h hp u
theorem Ext.of_below {a b : World} {B : Nat} (h : Below B a b) (hB : a.heap.size ≤ B) : Ext a b := Below.mono h hB

section
variable {k : IntKind} {w w' : World} {A : Option Addr} {n c : Nat} {zs : List Nat}

theorem Sl.ext (h : Sl k w A n c zs) (hb : Ext w w') : Sl k w' A n c zs :=
  ⟨h.len, h.cap, h.max, fun hn => by
    obtain ⟨b, o, e, hlt, hc⟩ := h.at_ hn
    exact ⟨b, o, e, Nat.lt_of_lt_of_le hlt hb.size, fun j z hz => (Below.cell hb (p := ⟨b, o + j, none⟩) hlt).trans (hc j z hz)⟩⟩
theorem Sl.drewN (h : Sl k w A n c zs) (m : Nat) : Sl k (w.drewN m) A n c zs := h.ext ((Ext.refl _).drewN m)
theorem Sl.drew (h : Sl k w A n c zs) : Sl k w.drew A n c zs := h.ext (Ext.refl _).drew

/-- The cell of one element. -/
theorem Sl.get (h : Sl k w A n c zs) {i : Nat} (hi : i < n) : ∃ b o, A = some ⟨b, o, none⟩ ∧ w.cell? ⟨b, o + i, none⟩ = some (.int k ((zs[i]?.getD 0 : Nat) : Int)) := by
  obtain ⟨b, o, e, _, hc⟩ := h.at_ (by omega)
  refine ⟨b, o, e, hc i _ ?_⟩
  have := h.len
  rw [List.getElem?_eq_getElem (by omega)]; rfl

/-- Shorter by its length, in the same place. -/
theorem Sl.take (h : Sl k w A n c zs) {m : Nat} (hm : m ≤ n) : Sl k w A m c (zs.take m) :=
  ⟨by rw [List.length_take, h.len]; omega, Nat.le_trans hm h.cap, h.max, fun hp => by
    obtain ⟨b, o, e, hlt, hc⟩ := h.at_ (by omega)
    refine ⟨b, o, e, hlt, fun j z hz => hc j z ?_⟩
    rw [List.getElem?_take] at hz
    split at hz
    · exact hz
    · simp at hz⟩

/-- A slice of the call's own, in a block from lo on. -/
def Own (k : IntKind) (e : TypeId) (w : World) (lo : Nat) (A : Option Addr) (n c : Nat) (zs : List Nat) : Prop :=
  w.ownsRow lo e 1 (.slice A n c) n (zs.map fun z : Nat => Value.int k (z : Int))

variable {e : TypeId} {lo : Nat}

theorem Own.len (h : Own k e w lo A n c zs) : zs.length = n := by simpa using h.1

theorem Own.form (h : Own k e w lo A n c zs) : (A = none ∧ n = 0 ∧ c = 0) ∨ ∃ g, A = some ⟨g, 0, none⟩ ∧ lo ≤ g ∧ g < w.heap.size := by
  rcases h.2 with ⟨h, hn⟩ | ⟨g, cap, cur, h, hl, hg, _⟩
  · injection h with h1 h2 h3
    exact .inl ⟨h1, h2, h3⟩
  · injection h with h1 h2 h3
    exact .inr ⟨g, h1, hl, (Array.getElem?_eq_some_iff.1 hg).1⟩

theorem Own.cap (h : Own k e w lo A n c zs) : n ≤ c ∧ c ≤ maxLen := by
  rcases h.2 with ⟨h, hn⟩ | ⟨g, cap, cur, h, hl, hg, hnc, hm, _⟩
  · injection h with h1 h2 h3
    subst h3; exact ⟨by omega, by simp [maxLen]⟩
  · injection h with h1 h2 h3
    subst h3; exact ⟨hnc, hm⟩

theorem Own.sl (h : Own k e w lo A n c zs) : Sl k w A n c zs :=
  ⟨h.len, h.cap.1, h.cap.2, fun hn => by
    rcases h.form with ⟨_, h0, _⟩ | ⟨g, rfl, _, hlt⟩
    · omega
    · refine ⟨g, 0, rfl, hlt, fun j z hz => ?_⟩
      have hj : j < zs.length := (List.getElem?_eq_some_iff.1 hz).1
      have hl := h.len
      have hc := World.ownsRow.cellAt h j (by omega)
      rw [Nat.zero_add, hc, List.getElem?_map, hz]; rfl⟩

theorem Own.mono {lo' : Nat} (h : Own k e w lo A n c zs) (hl : lo' ≤ lo) : Own k e w lo' A n c zs :=
  ⟨h.1, by
    rcases h.2 with h' | ⟨g, cap, cur, h1, h2, r⟩
    · exact .inl h'
    · exact .inr ⟨g, cap, cur, h1, Nat.le_trans hl h2, r⟩⟩

theorem Own.ext (h : Own k e w lo A n c zs) (hb : Ext w w') : Own k e w' lo A n c zs :=
  ⟨h.1, by
    rcases h.2 with h' | ⟨g, cap, cur, h1, h2, h3, r⟩
    · exact .inl h'
    · exact .inr ⟨g, cap, cur, h1, h2, (hb.block g (Array.getElem?_eq_some_iff.1 h3).1).trans h3, r⟩⟩
theorem Own.drew (h : Own k e w lo A n c zs) : Own k e w.drew lo A n c zs := h
theorem Own.drewN (h : Own k e w lo A n c zs) (m : Nat) : Own k e (w.drewN m) lo A n c zs := h
theorem Own.alloc (h : Own k e w lo A n c zs) (o : Obj) : Own k e (w.alloc o) lo A n c zs := h.ext ((Ext.refl _).alloc o)

/-- A store into another block. -/
theorem Own.far (h : Own k e w lo A n c zs) {p : Addr} (hp : ∀ g, A = some ⟨g, 0, none⟩ → g ≠ p.block) (u : Value) : Own k e (w.setCell p u) lo A n c zs :=
  ⟨h.1, by
    rcases h.2 with h' | ⟨g, cap, cur, h1, h2, h3, r⟩
    · exact .inl h'
    · injection h1 with h1a h1b h1c
      exact .inr ⟨g, cap, cur, by rw [h1a, h1c], h2, (Below.heap_setCell _ _ _ _ (hp g h1a)).trans h3, r⟩⟩

variable {g : Nat}
/-- Facts of one element for the walk. -/
theorem Own.cell (h : Own k e w lo (some ⟨g, 0, none⟩) n c zs) {i : Nat} (hi : i < n) : w.cell? ⟨g, i, none⟩ = some (.int k ((zs[i]?.getD 0 : Nat) : Int)) := by
  have hl := h.len
  rw [World.ownsRow.cellAt h i (by omega), List.getElem?_map, List.getElem?_eq_getElem (show i < zs.length by omega)]; rfl
theorem Own.frozen (h : Own k e w lo (some ⟨g, 0, none⟩) n c zs) (i : Nat) : w.frozen? ⟨g, i, none⟩ = false := World.ownsRow.frozenAt h i
theorem Own.set (h : Own k e w lo (some ⟨g, 0, none⟩) n c zs) (i z : Nat) : Own k e (w.setCell ⟨g, i, none⟩ (.int k (z : Int))) lo (some ⟨g, 0, none⟩) n c (zs.set i z) := by
  have := (World.ownsRow.stored h i (.int k (z : Int))).1
  unfold Own
  rw [List.map_set]
  exact this
theorem Own.lo_le (h : Own k e w lo (some ⟨g, 0, none⟩) n c zs) : lo ≤ g ∧ g < w.heap.size := by
  rcases h.form with ⟨h, _⟩ | ⟨g', h, h1, h2⟩
  · cases h
  · injection h with h; injection h with h; subst h; exact ⟨h1, h2⟩

theorem Own.take (h : Own k e w lo A n c zs) {m : Nat} (hm : m ≤ n) : Own k e w lo A m c (zs.take m) := by
  have hl := h.len
  refine ⟨by simp [hl]; omega, ?_⟩
  rcases h.2 with ⟨h1, h2⟩ | ⟨g, cap, cur, h1, h2, h3, h4, h5, h6, h7⟩
  · injection h1 with h1 h1' h1''
    exact .inl ⟨by rw [h1, h1'']; congr 1; omega, by omega⟩
  · injection h1 with h1 h1' h1''
    refine .inr ⟨g, cap, cur, by rw [h1, h1''], h2, h3, by omega, h5, h6, ?_⟩
    rw [List.map_take, ← h7, List.take_take]
    congr 1; omega

end

/-- A result: a new slice. -/
def RetO (k : IntKind) (e : TypeId) (zs : List Nat) (w : World) : Ending → World → Prop := fun E w' =>
  ∃ A c, E = .returned (.slice A zs.length c) ∧ Own k e w' w.heap.size A zs.length c zs ∧ Ext w w'

theorem ret_int {k : IntKind} {a b : Int} (h : a = b) : Ending.returned (.int k a) = .returned (.int k b) := by rw [h]

theorem RetO.mono {k : IntKind} {e : TypeId} {zs : List Nat} {w w1 w' : World} {E : Ending} (h : RetO k e zs w1 E w') (hx : Ext w w1) : RetO k e zs w E w' := by
  obtain ⟨A, c, h1, h2, h3⟩ := h
  exact ⟨A, c, h1, h2.mono hx.size, hx.trans h3⟩

theorem Own.lit {k : IntKind} {e : TypeId} (w : World) (zs : List Nat) (n : Nat) (hn : zs.length = n) (hm : n ≤ maxLen) :
    Own k e (w.alloc (.cells (zs.map fun z : Nat => Value.int k (z : Int)).toArray e)) w.heap.size (some ⟨w.heap.size, 0, none⟩) n n zs := by
  have := World.ownsRow_lit (e := e) (size := 1) (base := w.heap.size) w (zs.map fun z : Nat => Value.int k (z : Int)).toArray n (Nat.le_refl _) hm (by simp [hn])
  simpa [Own] using this

theorem Ext.trans_own {a b c : World} {row : Option Nat} (h : Ext a b) (hg : b.grownBy c row) (hr : ∀ g, row = some g → a.heap.size ≤ g) : Ext a c :=
  Below.grown h hg h.size hr

section
variable {P : Program} {ops : Array Oper} {rest : List Oper} {o : Oper} {a : Act} {Q : Exit → Act → World → Prop} {w : World}

/-- make([]T, n). -/
theorem wpl_make {w0 : World} (hx : Ext w0 w) (hg : o.guard = none) (l c : Operand) (t : TypeId) (hop : o.op = Op.makeSlice t l c) (e : TypeId) (k : IntKind) (bytes : Nat) (h1 : P.underlying t = some (.slice e))
    (hi : (P.info? e).map (fun i => (i.zero, i.size, i.bytes)) = some (some (.int k 0), 1, bytes)) (L : Int) (n : Nat) (hl : a.eval l = .int .i64 L) (hc : a.eval c = .int .i64 L) (hL : L = (n : Int))
    (hb : bytes * n ≤ 281474976710656) (hn : n ≤ maxLen)
    (hK : ∀ g w', w0.heap.size ≤ g → Own k e w' w0.heap.size (some ⟨g, 0, none⟩) n n (List.replicate n 0) → Ext w0 w' → wpList P ops Q rest (a.put o.dst (.slice (some ⟨g, 0, none⟩) n n)) w') :
    wpList P ops Q (o :: rest) a w := by
  obtain ⟨i, hi1, hi2, hi3, hi4⟩ := info_parts hi
  refine wpList_make_full (P := P) w hg l c t hop w0.heap.size e i (.int k 0) 1 h1 hi1 hi2 hi3 .i64 .i64 L L n hl hc hL hL (by rw [hi4]; exact hb) hn hx.size ?_
  intro w' hown hgr
  refine hK w.heap.size w' hx.size ?_ (hx.trans ⟨hgr.os, hgr.tape, hgr.output, hgr.size, fun j hj => hgr.block j hj (by simp)⟩)
  have e1 : (madeCells (Value.int k 0).cells (n * 1)).toList = (List.replicate n 0).map fun z : Nat => Value.int k (z : Int) := by
    apply List.ext_getElem
    · simp [madeCells]
    · intro j h1 h2
      simp [madeCells, Value.cells, Nat.mod_one]
  unfold Own
  rw [← e1]
  exact hown

/-- copy(dst, src) of as many elements as dst has, dst the call's own. -/
theorem wpl_copy {w0 : World} (hg : o.guard = none) (d s : Operand) (dT sT : TypeId) (ho : o.op = .call { callee := .builtin .copy, args := #[d, s], argTypes := #[dT, sT] }) (e : TypeId)
    (hu : P.underlying dT = some (.slice e)) (hsz : (P.info? e).map (·.size) = some 1) {k : IntKind} {A : Option Addr} {g n c c' : Nat} {zs ys : List Nat}
    (hd : a.eval d = .slice (some ⟨g, 0, none⟩) n c) (hs : a.eval s = .slice A n c') (hown : Own k e w w0.heap.size (some ⟨g, 0, none⟩) n c zs) (hsl : Sl k w A n c' ys) (hx : Ext w0 w)
    (hK : ∀ w', Own k e w' w0.heap.size (some ⟨g, 0, none⟩) n c ys → Ext w0 w' → wpList P ops Q rest (a.put o.dst (goInt n)) w') :
    wpList P ops Q (o :: rest) a w := by
  rcases hown.2 with ⟨h, _⟩ | ⟨g', cap, cur, h1, h2, h3, h4, h5, h6, h7⟩
  · cases h
  · injection h1 with h1 _ h1c
    injection h1 with h1
    injection h1 with h1
    subst h1; subst h1c
    have hyl := hsl.len
    have hmin : Nat.min n n = n := Nat.min_self n
    have hcl : (ys.map fun z : Nat => Value.int k (z : Int)).length = n := by simp [hyl]
    refine wpList_copy_splice (P := P) (w := w) hg d s dT sT ho e hu hsz (some ⟨g, 0, none⟩) A n c n c' hd hs g 0 cur.toList e (by simpa using h3) (ys.map fun z : Nat => Value.int k (z : Int)) (by rw [hcl, hmin])
      ?_ (by simp only [hcl, Array.length_toList]; omega) ?_ w0.heap.size w0 hx h2 ?_
    · intro hp
      obtain ⟨b, off, hA, _, hc⟩ := hsl.at_ (by omega)
      refine ⟨rfl, ⟨b, off, none⟩, hA, fun j v hv => ?_⟩
      rw [List.getElem?_map] at hv
      cases hj : ys[j]? with
      | none => rw [hj] at hv; simp at hv
      | some z =>
        rw [hj] at hv
        have hv' : Value.int k (z : Int) = v := by simpa using hv
        rw [← hv', Addr.add_lit]
        exact hc j z hj
    · intro v hv
      obtain ⟨_, _, rfl⟩ := List.mem_map.1 hv
      rfl
    · intro w' hb hbel
      have hb := hb.out
      rw [hcl]
      refine hK w' ⟨by simp [hyl], .inr ⟨g, c, _, rfl, h2, hb, h4, h5, ?_, ?_⟩⟩ hbel
      · simp [splice, hyl]; omega
      · simp only [splice, Nat.mul_one, List.take_zero, List.nil_append]
        rw [List.take_append_of_le_length (by simp [hyl]), List.take_of_length_le (by simp [hyl])]

end
end Go.Proofs.Ytmfgcjjoagdamaa
