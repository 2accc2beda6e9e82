
/-
  Canonical numbers: their lengths and highest limbs.
-/
import Derived.Test.YtmfgcjjoagdamaaNum
namespace Go.Proofs.Ytmfgcjjoagdamaa
open Go.RowKit
open Go.Lib (hid)

theorem Nv.mk' {K : Nat} {w : World} {A : Option Addr} {n c m : Nat} {xs : List Nat} (h : Sl .u32 w A n c xs) (hl : Lim 4294967296 xs) (hK : n ≤ K) (hv : nv 4294967296 xs = m) : Nv K w A n c m := ⟨xs, h, hl, hv, hK⟩
theorem Nv.none {w : World} : Nv 0 w none 0 0 0 := ⟨[], ⟨rfl, Nat.le_refl _, by simp [maxLen], fun h => absurd h (by omega)⟩, fun x hx => by simp at hx, rfl, Nat.le_refl _⟩
theorem Cn.len0 {K : Nat} {w : World} {lo : Nat} {A : Option Addr} {n c m : Nat} (h : Cn K w lo A n c m) (h0 : m = 0) : n = 0 := by
  have := h.len; subst h0; rw [this]; rfl
theorem Cn.lenp {K : Nat} {w : World} {lo : Nat} {A : Option Addr} {n c m : Nat} (h : Cn K w lo A n c m) (h0 : m ≠ 0) : 0 < n := by
  have h1 := h.len
  have : n ≠ 0 := fun e => h0 ((nd_eq_nil (b := 4294967296) (by omega)).1 (List.eq_nil_of_length_eq_zero (h1.symm.trans e)))
  omega
theorem Cn.top {K : Nat} {w : World} {lo : Nat} {A : Option Addr} {n c m : Nat} (h : Cn K w lo A n c m) (h0 : m ≠ 0) : ∃ j g x : Nat, n = j + 1 ∧ A = some ⟨g, 0, none⟩ ∧ x ≠ 0 ∧ ∀ w', Ext w w' → w'.cell? ⟨g, j, none⟩ = some (.int .u32 (x : Int)) := by
  have hp := h.lenp h0
  obtain ⟨j, rfl⟩ : ∃ j, n = j + 1 := ⟨n - 1, by omega⟩
  rcases h.1.form with ⟨_, h1, _⟩ | ⟨g, rfl, _, _⟩
  · omega
  · refine ⟨j, g, _, rfl, rfl, ?_, fun w' hx => (h.1.ext hx).cell (i := j) (by omega)⟩
    exact nd_top (by omega) (by rw [← h.len])

end Go.Proofs.Ytmfgcjjoagdamaa
