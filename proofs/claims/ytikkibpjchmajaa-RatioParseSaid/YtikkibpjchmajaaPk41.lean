/-
  The contract of the document's Parse of rational numbers. Printed by wip/gen/rat.py.
-/
import Derived.Test.YtikkibpjchmajaaPk40
namespace Go.Proofs.Ytikkibpjchmajaa
open Go.RowKit
open Go.Lib (hid)

theorem tx_nat_lt {z : Int} {L : Nat} (h : (tx z).length ≤ L) : z.natAbs < 10 ^ (L + 1) := by
  refine (nd_len_le (b := 10) (by omega)).1 ?_
  unfold tx at h
  split at h
  · rename_i h0
    subst h0
    have : nd 10 (Int.natAbs 0) = [] := (eq_nd (by omega) ⟨by decide, by decide⟩ (by decide)).symm
    rw [this]
    exact Nat.zero_le _
  · split at h <;> simp [dgs] at h <;> omega
theorem ten_pow (L : Nat) (h : L ≤ 200) : (10 : Nat) ^ (L + 1) ≤ 4294967296 ^ 200 := by
  refine Nat.le_trans (Nat.pow_le_pow_right (by omega) (show L + 1 ≤ 201 by omega)) ?_
  decide +kernel
theorem big_lt {z : Int} (h : (tx z).length ≤ 200) : z.natAbs < 4294967296 ^ 200 := Nat.lt_of_lt_of_le (tx_nat_lt h) (ten_pow 200 (Nat.le_refl _))
theorem quot_lt {N D : Int} (hD : D ≠ 0) (h1 : N.natAbs < 4294967296 ^ 200) (h2 : D.natAbs < 4294967296 ^ 200) : ((N : Rat) / (D : Rat)).num.natAbs < 4294967296 ^ 200 ∧ ((N : Rat) / (D : Rat)).den < 4294967296 ^ (200 + 1) := by
  obtain ⟨e1, e2⟩ := rat_parts (N := N) (D := D) hD
  have f1 := fn_abs N D
  have f2 := fd_abs N D
  rw [← e1] at f1
  rw [← e2, Int.natAbs_natCast] at f2
  rw [f1, f2]
  refine ⟨Nat.lt_of_le_of_lt (Nat.div_le_self _ _) h1, Nat.lt_of_le_of_lt (Nat.div_le_self _ _) (Nat.lt_of_lt_of_le h2 ?_)⟩
  exact Nat.pow_le_pow_right (by omega) (by omega)
theorem dparse_l {w : World} {s : ByteArray} {l : List Nat} {z e : Int} (hl : byt s = l) (hs : l.length ≤ 200) (hz : pz l = z) (he : pe l = e) : Calls Try.prog 47 #[.string s] w (RetIE 200 z e w) := by
  subst hz he hl
  rw [byt_len] at hs
  refine (rparse_v (by omega)).mono ?_
  rintro E w' ⟨b, A, n, c, rfl, h1, h2⟩
  exact ⟨b, A, n, c, rfl, h1.weak hs, h2⟩
/-- A text that is a number's. -/
theorem dparse_yes {w : World} {s : ByteArray} {r : Rat} (hs : s.size ≤ 200) (h : byt s = txr r) : Calls Try.prog 19 #[.string s] w (RetRE (200 + 22) r 0 w) := by
  have hl := byt_len s
  by_cases hr : r.den = 1
  · have e : byt s = tx r.num := by rw [h, txr_whole hr]
    have ht := tx_good r.num
    have hsz : (tx r.num).length ≤ 200 := by rw [← e]; omega
    exact dparse_nE (a := tx r.num) hs (by omega) tx_no e (fun w d hd => dparse_l hd hsz ht.2 (pe_good ht.1)) (by rw [rat_one]; rw [show ((r.num : Int) : Rat) = r by have := rat_self r; rw [hr] at this; rw [← this, show (((1 : Nat) : Int) : Rat) = 1 from rfl]; grind])
      ⟨big_lt hsz, by rw [hr]; exact Nat.one_lt_pow (by omega) (by omega)⟩ h rfl (by rw [hr]; rfl)
  · have e : byt s = tx r.num ++ 47 :: tx (r.den : Int) := by rw [h, txr_part hr]
    have hl2 : (tx r.num).length + ((tx (r.den : Int)).length + 1) = s.size := by rw [← hl, e, List.length_append, List.length_cons]
    have g1 := tx_good r.num
    have g2 := tx_good (r.den : Int)
    have s1 := big_lt (z := r.num) (by omega)
    have s2 := big_lt (z := (r.den : Int)) (by omega)
    rw [Int.natAbs_natCast] at s2
    exact dparse_cE (a := tx r.num) (b := tx (r.den : Int)) hs (by omega) tx_no e (fun w d hd => dparse_l hd (by omega) g1.2 (pe_good g1.1)) (fun w d hd => dparse_l hd (by omega) g2.2 (pe_good g2.1)) (den_pos r) (rat_self r).symm
      ⟨s1, Nat.lt_of_lt_of_le s2 (Nat.pow_le_pow_right (by omega) (by omega))⟩ h rfl rfl
/-- A text that is no number's. -/
theorem dparse_no {w : World} {s : ByteArray} (hs : s.size ≤ 200) (h : ∀ r, byt s ≠ txr r) : Calls Try.prog 19 #[.string s] w (RetRN 4 w) := by
  have hl := byt_len s
  by_cases h47 : 47 ∈ byt s
  · obtain ⟨a, b, ha, e⟩ := cut_some h47
    have hl2 : a.length + (b.length + 1) = s.size := by rw [← hl, e, List.length_append, List.length_cons]
    by_cases ga : Good a
    · have pa : ∀ (w : World) (d : ByteArray), byt d = a → Calls Try.prog 47 #[.string d] w (RetIE 200 (pz a) 0 w) := fun w d hd => dparse_l hd (by omega) rfl (pe_good ga)
      by_cases gb : Good b
      · have pb : ∀ (w : World) (d : ByteArray), byt d = b → Calls Try.prog 47 #[.string d] w (RetIE 200 (pz b) 0 w) := fun w d hd => dparse_l hd (by omega) rfl (pe_good gb)
        by_cases h1 : 0 < pz b
        · exact dparse_cD hs (by omega) ha e pa pb h1 rfl (quot_lt (by omega) (big_lt (by rw [good_tx ga]; omega)) (big_lt (by rw [good_tx gb]; omega))) (h _)
        · by_cases h2 : pz b = 0
          · exact dparse_cZ hs (by omega) ha e pa pb h2
          · exact dparse_cM hs (by omega) ha e pa pb (by omega)
      · exact dparse_cB hs (by omega) ha e pa (fun w d hd => dparse_l hd (by omega) (pe_bad gb).2 (pe_bad gb).1)
    · exact dparse_cA hs (by omega) ha e (fun w d hd => dparse_l hd (by omega) (pe_bad ga).2 (pe_bad ga).1)
  · have hg : ¬ Good (byt s) := fun hg => h _ (txr_int hg).symm
    exact dparse_nA (K := 200) hs (by omega) h47 rfl (fun w d hd => dparse_l hd (by omega) (pe_bad hg).2 (pe_bad hg).1)

end Go.Proofs.Ytikkibpjchmajaa

