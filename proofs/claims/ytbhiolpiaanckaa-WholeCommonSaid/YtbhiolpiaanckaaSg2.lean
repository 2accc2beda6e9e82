
/-
  Signs: of products, negatives; they stay within a word.
-/
import Derived.Test.YtbhiolpiaanckaaSg
namespace Go.Proofs.Ytbhiolpiaanckaa
open Go.RowKit

theorem sg_wrap2 (u v : Int) : IntKind.i64.wrap (sg u * sg v) = sg u * sg v := by
  rcases sg_cases u with ⟨e1, _⟩ | ⟨e1, _⟩ | ⟨e1, _⟩ <;> rcases sg_cases v with ⟨e2, _⟩ | ⟨e2, _⟩ | ⟨e2, _⟩ <;> rw [e1, e2] <;> decide
theorem sg_wneg (u : Int) : IntKind.i64.wrap (-sg u) = -sg u := by
  rcases sg_cases u with ⟨e1, _⟩ | ⟨e1, _⟩ | ⟨e1, _⟩ <;> rw [e1] <;> decide
theorem sg_minus (u : Int) : sg (-u) = -sg u := by
  rcases sg_cases u with ⟨e1, h1⟩ | ⟨e1, h1⟩ | ⟨e1, h1⟩ <;> rw [e1]
  · exact sg_pos (by omega)
  · rw [h1]; rfl
  · exact sg_neg (by omega)
end Go.Proofs.Ytbhiolpiaanckaa
