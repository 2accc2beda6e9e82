
/-
  Texts of numbers: bytes, digits, values. No program in sight.
-/
import Derived.Test.YtmfgcjjoagdamaaMath
namespace Go.Proofs.Ytmfgcjjoagdamaa

/-- The bytes of a number's digits, the greatest first. -/
def dgs (m : Nat) : List Nat := ((nd 10 m).map (· + 48)).reverse
/-- The bytes of a whole number's text. -/
def tx (z : Int) : List Nat := if z = 0 then [48] else if z < 0 then 45 :: dgs z.natAbs else dgs z.natAbs
/-- The text of these bytes. -/
def bts (l : List Nat) : ByteArray := ⟨(l.map UInt8.ofNat).toArray⟩
/-- The bytes of a text. -/
def byt (s : ByteArray) : List Nat := s.data.toList.map UInt8.toNat
/-- The number of digits, the greatest first. -/
def vl (d : List Nat) : Nat := nv 10 (d.map (· - 48)).reverse
/-- What stands behind the sign. -/
def dd (l : List Nat) : List Nat := if l.head? = some 45 then l.drop 1 else l
/-- Digits, all of them. -/
def Dig (d : List Nat) : Prop := ∀ c ∈ d, 48 ≤ c ∧ c ≤ 57
/-- The text is a whole number's. -/
def Good (l : List Nat) : Prop := dd l ≠ [] ∧ ¬((dd l).head? = some 48 ∧ (1 < (dd l).length ∨ l.head? = some 45)) ∧ Dig (dd l)
open Classical in
/-- The number of a text, 0 if it is none. -/
noncomputable def pz (l : List Nat) : Int := if Good l then (if l.head? = some 45 then -(vl (dd l) : Int) else vl (dd l)) else 0
open Classical in
/-- The error's number of a text. -/
noncomputable def pe (l : List Nat) : Int := if Good l then 0 else 4

theorem vl_append (a b : List Nat) : vl (a ++ b) = vl a * 10 ^ b.length + vl b := by
  unfold vl
  rw [List.map_append, List.reverse_append, nv_append, List.length_reverse, List.length_map, Nat.mul_comm, Nat.add_comm]
theorem vl_one (c : Nat) : vl [c] = c - 48 := by simp [vl, nv]
theorem vl_nil : vl [] = 0 := rfl
theorem Dig.append {a b : List Nat} (h : Dig (a ++ b)) : Dig a ∧ Dig b := ⟨fun c hc => h c (List.mem_append.2 (.inl hc)), fun c hc => h c (List.mem_append.2 (.inr hc))⟩
theorem Dig.lim {d : List Nat} (h : Dig d) : Lim 10 (d.map (· - 48)) := fun x hx => by
  obtain ⟨c, hc, rfl⟩ := List.mem_map.1 hx
  have := h c hc
  omega
theorem Dig.back {d : List Nat} (h : Dig d) : (d.map (· - 48)).map (· + 48) = d := by
  rw [List.map_map]
  conv => rhs; rw [← List.map_id d]
  refine List.map_congr_left fun c hc => ?_
  have := h c hc
  simp; omega
theorem vl_lt {d : List Nat} (h : Dig d) : vl d < 10 ^ d.length := by
  have := nv_lt (b := 10) (by omega) (xs := (d.map (· - 48)).reverse) (fun x hx => h.lim x (List.mem_reverse.1 hx))
  simpa [vl] using this

theorem dgs_dig (m : Nat) : Dig (dgs m) := fun c hc => by
  obtain ⟨x, hx, rfl⟩ := List.mem_map.1 (List.mem_reverse.1 hc)
  have := nd_lim (b := 10) (by omega) m x hx
  omega
theorem vl_dgs (m : Nat) : vl (dgs m) = m := by
  unfold vl dgs
  rw [List.map_reverse, List.reverse_reverse, List.map_map]
  have : (nd 10 m).map ((fun x => x - 48) ∘ fun x => x + 48) = nd 10 m := by
    conv => rhs; rw [← List.map_id (nd 10 m)]
    exact List.map_congr_left fun x _ => by simp
  rw [this]
  exact nv_nd (by omega) m
theorem dgs_ne {m : Nat} (h : m ≠ 0) : dgs m ≠ [] := by
  intro e
  have : (nd 10 m) = [] := by simpa [dgs] using e
  exact h ((nd_eq_nil (by omega)).1 this)
theorem dgs_head (m : Nat) : (dgs m).head? ≠ some 48 := by
  intro h
  rw [dgs, List.head?_reverse, List.getLast?_map] at h
  have := nd_last (b := 10) (by omega) m
  cases e : (nd 10 m).getLast? with
  | none => rw [e] at h; simp at h
  | some v => rw [e] at h; simp at h; rw [e, h] at this; exact this rfl
theorem head_dig {d : List Nat} (h : Dig d) : d.head? ≠ some 45 := by
  intro e
  cases d with
  | nil => simp at e
  | cons c r => simp at e; have := h c (by simp); omega
/-- Digits that begin with no 0 are those of their number. -/
theorem dgs_vl {d : List Nat} (h : Dig d) (h0 : d.head? ≠ some 48) : dgs (vl d) = d := by
  have hc : Canon 10 (d.map (· - 48)).reverse := by
    refine ⟨fun x hx => h.lim x (List.mem_reverse.1 hx), ?_⟩
    rw [List.getLast?_reverse, List.head?_map]
    intro e
    cases d with
    | nil => simp at e
    | cons c r =>
      have := h c (by simp)
      simp at e h0
      omega
  unfold vl dgs
  rw [nd_nv (by omega) hc, List.map_reverse, List.reverse_reverse, h.back]
theorem vl_pos {d : List Nat} (h : Dig d) (h0 : d.head? ≠ some 48) (hn : d ≠ []) : vl d ≠ 0 := by
  intro e
  have := dgs_vl h h0
  rw [e] at this
  exact hn this.symm

theorem tx_good (z : Int) : Good (tx z) ∧ pz (tx z) = z := by
  have key : Good (tx z) ∧ (if (tx z).head? = some 45 then -(vl (dd (tx z)) : Int) else vl (dd (tx z))) = z := by
    by_cases h0 : z = 0
    · subst h0
      exact ⟨⟨by decide, by decide, by intro c hc; simp [tx, dd] at hc; omega⟩, by decide⟩
    · by_cases hn : z < 0
      · have e : tx z = 45 :: dgs z.natAbs := by unfold tx; rw [if_neg h0, if_pos hn]
        have e2 : dd (tx z) = dgs z.natAbs := by rw [e]; rfl
        refine ⟨⟨by rw [e2]; exact dgs_ne (by omega), ?_, by rw [e2]; exact dgs_dig _⟩, ?_⟩
        · rw [e2]; exact fun h => dgs_head _ h.1
        · rw [e2, vl_dgs, e]; simp; omega
      · have e : tx z = dgs z.natAbs := by unfold tx; rw [if_neg h0, if_neg hn]
        have hh := head_dig (dgs_dig z.natAbs)
        have e2 : dd (tx z) = dgs z.natAbs := by unfold dd; rw [e, if_neg hh]
        refine ⟨⟨by rw [e2]; exact dgs_ne (by omega), ?_, by rw [e2]; exact dgs_dig _⟩, ?_⟩
        · rw [e2]; exact fun h => dgs_head _ h.1
        · rw [e2, vl_dgs, e, if_neg hh]; omega
  exact ⟨key.1, by unfold pz; rw [if_pos key.1]; exact key.2⟩
theorem good_tx {l : List Nat} (h : Good l) : tx (pz l) = l := by
  obtain ⟨h1, h2, h3⟩ := h
  unfold pz
  rw [if_pos ⟨h1, h2, h3⟩]
  by_cases hn : l.head? = some 45
  · rw [if_pos hn]
    have h0 : (dd l).head? ≠ some 48 := fun e => h2 ⟨e, .inr hn⟩
    have hp := vl_pos h3 h0 h1
    unfold tx
    rw [if_neg (by omega), if_pos (by omega), Int.natAbs_neg, Int.natAbs_natCast, dgs_vl h3 h0]
    cases l with
    | nil => simp at hn
    | cons c r => simp at hn; subst hn; rfl
  · rw [if_neg hn]
    have e : dd l = l := by unfold dd; rw [if_neg hn]
    rw [e] at h1 h2 h3 ⊢
    by_cases h0 : l.head? = some 48
    · have hl : ¬ 1 < l.length := fun hl => h2 ⟨h0, .inl hl⟩
      cases l with
      | nil => simp at h0
      | cons c r =>
        simp at h0 hl
        subst h0
        subst hl
        decide
    · have hp := vl_pos h3 h0 h1
      unfold tx
      rw [if_neg (by omega), if_neg (by omega), Int.natAbs_natCast, dgs_vl h3 h0]
theorem pe_good {l : List Nat} (h : Good l) : pe l = 0 := by unfold pe; rw [if_pos h]
theorem pe_bad {l : List Nat} (h : ¬ Good l) : pe l = 4 ∧ pz l = 0 := by unfold pe pz; rw [if_neg h, if_neg h]; exact ⟨rfl, rfl⟩
/-- The number's flag is the text's sign. -/
theorem pz_neg {l : List Nat} (h : Good l) : decide (pz l < 0) = decide (l.head? = some 45) ∧ (pz l).natAbs = vl (dd l) := by
  obtain ⟨h1, h2, h3⟩ := h
  unfold pz
  rw [if_pos ⟨h1, h2, h3⟩]
  by_cases hn : l.head? = some 45
  · have hp := vl_pos h3 (fun e => h2 ⟨e, .inr hn⟩) h1
    rw [if_pos hn, decide_eq_true hn, decide_eq_true (by omega)]
    exact ⟨rfl, by omega⟩
  · rw [if_neg hn, decide_eq_false hn, decide_eq_false (by omega)]
    exact ⟨rfl, by omega⟩

theorem byt_len (s : ByteArray) : (byt s).length = s.size := by rw [byt, List.length_map, Array.length_toList]; rfl
theorem byt_lim (s : ByteArray) : Lim 256 (byt s) := fun x hx => by
  obtain ⟨b, _, rfl⟩ := List.mem_map.1 hx
  exact b.toNat_lt
theorem bts_byt (s : ByteArray) : bts (byt s) = s := by
  have key : ∀ l : List UInt8, List.map (UInt8.ofNat ∘ UInt8.toNat) l = l := fun l => by
    conv => rhs; rw [← List.map_id l]
    exact List.map_congr_left fun b _ => UInt8.ofNat_toNat
  unfold bts byt
  rw [List.map_map, key, Array.toArray_toList]
theorem byt_bts {l : List Nat} (h : Lim 256 l) : byt (bts l) = l := by
  unfold bts byt
  simp only [List.map_map]
  conv => rhs; rw [← List.map_id l]
  refine List.map_congr_left fun c hc => ?_
  have := h c hc
  simp; omega
theorem bts_len (l : List Nat) : (bts l).size = l.length := by show (l.map UInt8.ofNat).toArray.size = _; rw [List.size_toArray, List.length_map]
theorem tx_lim (z : Int) : Lim 256 (tx z) := fun c hc => by
  have hd := fun m (h : c ∈ dgs m) => dgs_dig m c h
  unfold tx at hc
  split at hc
  · simp at hc; omega
  · split at hc
    · rcases List.mem_cons.1 hc with rfl | h
      · omega
      · have := hd _ h; omega
    · have := hd _ hc; omega
theorem tx_len (z : Int) : (tx z).length ≤ (nd 10 z.natAbs).length + 1 := by
  unfold tx
  split
  · simp
  · split <;> simp [dgs]
/-- Noughts at the end of digits. -/
theorem nv_strip {b : Nat} {xs : List Nat} (h : xs.getLast? = some 0) : nv b (xs.take (xs.length - 1)) = nv b xs := by
  have hn : xs ≠ [] := by intro e; rw [e] at h; simp at h
  have e := List.dropLast_concat_getLast hn
  have hl : xs.getLast hn = 0 := by rw [List.getLast?_eq_some_getLast hn] at h; injection h
  rw [← List.dropLast_eq_take]
  conv => rhs; rw [← e, nv_append, hl]
  simp [nv]
end Go.Proofs.Ytmfgcjjoagdamaa
