
/-
  The contract of divide.guess: the limb told is the quotient's, or one more.
-/
import Derived.Test.YtmfgcjjoagdamaaDLimb
namespace Go.Proofs.Ytmfgcjjoagdamaa
open Go.RowKit
open Go.Lib (hid)

theorem Sl.gets {k : IntKind} {w : World} {A : Option Addr} {n c : Nat} {zs : List Nat} (h : Sl k w A n c zs) (hn : 0 < n) : ∃ b o, A = some ⟨b, o, none⟩ ∧ ∀ w', Ext w w' → ∀ i, i < n → w'.cell? ⟨b, o + i, none⟩ = some (.int k ((zs[i]?.getD 0 : Nat) : Int)) := by
  obtain ⟨b, o, e, hlt, hc⟩ := h.at_ hn
  refine ⟨b, o, e, fun w' hx i hi => ?_⟩
  rw [Below.cell hx (p := ⟨b, o + i, none⟩) hlt]
  refine hc i _ ?_
  have := h.len
  rw [List.getElem?_eq_getElem (by omega)]; rfl

def RetG (lo : Nat) (w : World) : Ending → World → Prop := fun E w' => ∃ q : Nat, E = .returned (.int .u64 q) ∧ q < 4294967296 ∧ lo ≤ q ∧ q ≤ lo + 1 ∧ Ext w w'

theorem guess_first {x1 x2 y1 : Nat} (h1 : x1 < 4294967296) (h2 : x2 < 4294967296) (hy : 2147483648 ≤ y1) : (x1 + 4294967296 * x2) / y1 ≤ 8589934592 := by
  refine Nat.le_of_lt_succ ?_
  rw [Nat.div_lt_iff_lt_mul (by omega)]
  omega
theorem u64_tdiv {T d : Nat} (h : T / d ≤ 8589934592) : IntKind.u64.wrap ((T : Int).tdiv d) = ((T / d : Nat) : Int) := by
  rw [IntKind.wrap_u64, ← Int.ofNat_tdiv]
  generalize T / d = q at *
  omega
theorem guess_next {t q r y1 : Nat} (ht : t = q * y1 + r) (hq : 1 ≤ q) : t = (q - 1) * y1 + (r + y1) := by
  obtain ⟨j, rfl⟩ : ∃ j, q = j + 1 := ⟨q - 1, by omega⟩
  rw [ht, Nat.add_sub_cancel, Nat.add_mul]; omega
theorem guess_fin {q y0 r x0 : Nat} (hq : q < 4294967296) (hy : y0 < 4294967296) (hr : 4294967296 ≤ r) : q * y0 ≤ r * 4294967296 + x0 := by
  have := le_sq hq hy
  omega
/-- Where the loop is broken off the guess is a limb. -/
theorem guess_brk {x1 x2 q r y1 : Nat} (h1 : x1 < 4294967296) (hx : x2 ≤ y1) (ht : x1 + 4294967296 * x2 = q * y1 + r) (hr : 4294967296 ≤ r) : q < 4294967296 := by
  refine Nat.lt_of_not_le fun h => ?_
  have := Nat.mul_le_mul_right y1 h
  omega

set_option maxHeartbeats 3200000 in
theorem guess_any {w : World} {A B : Option Addr} {n c c' : Nat} {X Y : List Nat} (h : Sl .u32 w A (n + 1) c X) (lX : Lim 4294967296 X) (h' : Sl .u32 w B n c' Y) (lY : Lim 4294967296 Y) (h2 : 2 ≤ n) (hn : n ≤ 1073741824)
    (hv : 2147483648 ≤ Y[n - 1]?.getD 0) (hs : nv 4294967296 X < nv 4294967296 Y * 4294967296) :
    Calls Try.prog 95 #[.slice A (n + 1) c, .slice B n c'] w (RetG (nv 4294967296 X / nv 4294967296 Y) w) := by
  have HT := hid (Tops.of (b := 4294967296) (n := n) (by omega) lX h.len lY h'.len h2 hs (by omega))
  have HLE := hid (top_le (b := 4294967296) (n := n) (by omega) lX h.len lY h'.len h2 hs)
  have hcx := h.cap
  have hcy := h'.cap
  obtain ⟨ba, oa, rfl, ca⟩ := h.gets (by omega)
  obtain ⟨bb, ob, rfl, cb⟩ := h'.gets (by omega)
  have CA := hid ca
  have CB := hid cb
  have b0 := lim_getD (b := 4294967296) (by omega) lX (n - 2)
  have b1 := lim_getD (b := 4294967296) (by omega) lX (n - 1)
  have b2 := lim_getD (b := 4294967296) (by omega) lX n
  have d0 := lim_getD (b := 4294967296) (by omega) lY (n - 2)
  have d1 := lim_getD (b := 4294967296) (by omega) lY (n - 1)
  clear ca cb h h' lX lY hs
  have G : Hid (∀ w', Ext w w' → w'.cell? ⟨ba, oa + n, none⟩ = some (.int .u32 (X[n]?.getD 0 : Nat)) ∧ w'.cell? ⟨ba, oa + (n - 1), none⟩ = some (.int .u32 (X[n - 1]?.getD 0 : Nat)) ∧ w'.cell? ⟨ba, oa + (n - 2), none⟩ = some (.int .u32 (X[n - 2]?.getD 0 : Nat)) ∧
      w'.cell? ⟨bb, ob + (n - 1), none⟩ = some (.int .u32 (Y[n - 1]?.getD 0 : Nat)) ∧ w'.cell? ⟨bb, ob + (n - 2), none⟩ = some (.int .u32 (Y[n - 2]?.getD 0 : Nat))) :=
    fun w' hx => ⟨CA.out w' hx _ (by omega), CA.out w' hx _ (by omega), CA.out w' hx _ (by omega), CB.out w' hx _ (by omega), CB.out w' hx _ (by omega)⟩
  clear CA CB
  generalize nv 4294967296 X = U at *
  generalize nv 4294967296 Y = V at *
  generalize X[n]?.getD 0 = x2 at *
  generalize X[n - 1]?.getD 0 = x1 at *
  generalize X[n - 2]?.getD 0 = x0 at *
  generalize Y[n - 1]?.getD 0 = y1 at *
  generalize Y[n - 2]?.getD 0 = y0 at *
  obtain ⟨Q, hQ⟩ : ∃ Q, U / V = Q := ⟨_, rfl⟩
  rw [hQ]
  have I0 := HT.out.init
  have I1 := hid (fun (q r : Nat) ht hc => HT.out.step (q := q) (r := r) ht hc)
  have I2 := hid (fun (q r : Nat) hq ht hc => HT.out.done (q := q) (r := r) hq ht hc)
  rw [hQ] at I0 I1 I2
  have I0 := hid I0
  clear hQ HT
  have hle := HLE.out
  clear HLE
  have F0 := guess_first b1 b2 hv
  obtain ⟨T, hT⟩ : ∃ T, x1 + 4294967296 * x2 = T := ⟨_, rfl⟩
  rw [hT] at I0 I1 I2 F0
  have HTT := hid hT
  have e1 : ∀ x0 : Nat, x0 < 4294967296 → bits BinOp.or IntKind.u64 ((x2 : Int) * 4294967296) (x1 : Int) = (T : Int) := fun _ _ => by rw [or_hi b1 b2, ← hT]; congr 1; omega
  have E1 := hid (e1 0 (by omega))
  have E2 := hid (u64_tdiv F0)
  clear hT e1
  obtain ⟨ga2, ga1, ga0, gb1, gb0⟩ := G.out w (Ext.refl w)
  have hyne : ((y1 : Int) == 0) = false := beq_eq_false_iff_ne.2 (by omega)
  have w1 : IntKind.i64.wrap ((n : Int) - 1) = ((n - 1 : Nat) : Int) := by rw [IntKind.wrap_i64] <;> omega
  have w2 : IntKind.i64.wrap ((n : Int) - 2) = ((n - 2 : Nat) : Int) := by rw [IntKind.wrap_i64] <;> omega
  go_enter Try.func95, Try.ntmps95
  go_wp2
  go_step3
  go_wp2_with (go_quiet (fail))
  go_step3
  clear ga2 ga1 ga0 gb1 gb0
  go_wp2
  go_loopw [7, 8] (fun sq sr wr => ∃ q r : Nat, sq = .int .u64 q ∧ sr = .int .u64 r ∧ Q ≤ q ∧ q ≤ 8589934592 ∧ T = q * y1 + r ∧ r < 4294967296 ∧ Ext w wr) (fun sq _ _ => (intOf sq).toNat)
  case atStart =>
    refine ⟨T / y1, T % y1, ?_, ?_, I0.out, F0, ?_, ?_, ((Ext.refl w).drewN _).drewN _⟩
    · show Value.int _ _ = _
      rw [E1.out, E2.out]
    · show Value.int _ _ = _
      rw [E1.out, ← Int.ofNat_tmod]
    · rw [Nat.mul_comm]; exact (Nat.div_add_mod T y1).symm
    · have := Nat.mod_lt T (show 0 < y1 by omega)
      omega
  case round =>
    clear I0 E1 E2 F0
    obtain ⟨q, r, rfl, rfl, hq, hqb, ht, hr, hx⟩ := hrel
    obtain ⟨ga2, ga1, ga0, gb1, gb0⟩ := G.out _ hx
    have HE := hid hx
    have HTQ := hid ht
    clear hx ht
    by_cases hbig : 4294967296 ≤ q
    · have hlt := I1.out q r HTQ.out (.inl hbig)
      have HN := hid (guess_next HTQ.out (by omega))
      have hd : decide ((4294967296 : Int) ≤ q) = true := decide_eq_true (by omega)
      by_cases hb2 : 4294967296 ≤ r + y1
      · have hqs := guess_brk (q := q - 1) (r := r + y1) b1 hle (by rw [HTT.out]; exact HN.out) hb2
        have HF := hid (I2.out (q - 1) (r + y1) hqs HN.out (guess_fin hqs d0 hb2))
        have hd2 : decide ((4294967296 : Int) ≤ (r : Int) + y1) = true := decide_eq_true (by omega)
        go_wp2_with (go_quiet (fail))
        rw [Exit.noGoto_ret]
        go_ret
        exact ⟨q - 1, by go_num, hqs, by omega, HF.out, HE.out.drewN _⟩
      · have hd2 : ¬ (4294967296 : Int) ≤ (r : Int) + y1 := by omega
        go_wp2_with (go_quiet (fail))
        exact ⟨⟨q - 1, r + y1, by go_num, by go_num, by omega, by omega, HN.out, by omega, HE.out.drewN _⟩, by simp [intOf]; omega⟩
    · have hd : decide ((4294967296 : Int) ≤ q) = false := decide_eq_false (by omega)
      have hsq := le_sq (show q < 4294967296 by omega) d0
      have w3 : IntKind.u64.wrap ((q : Int) * y0) = (q : Int) * y0 := by rw [← Int.natCast_mul, IntKind.wrap_u64]; omega
      have hor := or_hi b0 hr
      have HS := hid hsq
      clear hsq
      by_cases hgt : r * 4294967296 + x0 < q * y0
      · have hlt := I1.out q r HTQ.out (.inr hgt)
        have HN := hid (guess_next HTQ.out (by omega))
        have hdc : decide (bits BinOp.or IntKind.u64 ((r : Int) * 4294967296) (x0 : Int) < (q : Int) * y0) = true := decide_eq_true (by rw [hor, ← Int.natCast_mul]; omega)
        clear hor
        by_cases hb2 : 4294967296 ≤ r + y1
        · have hqs := guess_brk (q := q - 1) (r := r + y1) b1 hle (by rw [HTT.out]; exact HN.out) hb2
          have HF := hid (I2.out (q - 1) (r + y1) hqs HN.out (guess_fin hqs d0 hb2))
          have hd2 : decide ((4294967296 : Int) ≤ (r : Int) + y1) = true := decide_eq_true (by omega)
          go_wp2_with (go_quiet (fail))
          rw [Exit.noGoto_ret]
          go_ret
          exact ⟨q - 1, by go_num, hqs, by omega, HF.out, HE.out.drewN _⟩
        · have hd2 : ¬ (4294967296 : Int) ≤ (r : Int) + y1 := by omega
          go_wp2_with (go_quiet (fail))
          exact ⟨⟨q - 1, r + y1, by go_num, by go_num, by omega, by omega, HN.out, by omega, HE.out.drewN _⟩, by simp [intOf]; omega⟩
      · have HF := hid (I2.out q r (by omega) HTQ.out (Nat.le_of_not_lt hgt))
        have hdc : decide (bits BinOp.or IntKind.u64 ((r : Int) * 4294967296) (x0 : Int) < (q : Int) * y0) = false := decide_eq_false (by rw [hor, ← Int.natCast_mul]; omega)
        clear hor hgt
        go_wp2_with (go_quiet (fail))
        rw [Exit.noGoto_ret]
        go_ret
        exact ⟨q, rfl, by omega, hq, HF.out, HE.out.drewN _⟩
end Go.Proofs.Ytmfgcjjoagdamaa
