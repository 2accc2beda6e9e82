
/-
  The contract of divide.Limb.
-/
import Derived.Test.YtmfgcjjoagdamaaNum
import Derived.Test.YtmfgcjjoagdamaaMath7
namespace Go.Proofs.Ytmfgcjjoagdamaa
open Go.RowKit
open Go.Lib (hid)

/-- A new number, a limb, and an error's number. -/
def RetCL (K m : Nat) (r err : Int) (w : World) : Ending → World → Prop := fun E w' =>
  ∃ A n c, E = .returned (.tuple #[.slice A n c, .int .u32 r, .int .i64 err]) ∧ Cn K w' w.heap.size A n c m ∧ Ext w w'

theorem dlimb_no {w : World} {A : Option Addr} {n c : Nat} : Calls Try.prog 52 #[.slice A n c, .int .u32 0] w fun e w' => e = .returned (.tuple #[.slice none 0 0, .int .u32 0, .int .i64 7]) ∧ w = w' := by
  go_enter Try.func52, Try.ntmps52
  go_wp2
  go_ret3
  exact ⟨rfl, rfl⟩

theorem or_hi {y z : Nat} (hy : y < 4294967296) (hz : z < 4294967296) : bits BinOp.or IntKind.u64 ((z : Int) * 4294967296) (y : Int) = ((z * 4294967296 + y : Nat) : Int) := by
  have e0 : (z : Int) * 4294967296 = ((z * 4294967296 : Nat) : Int) := by omega
  have e1 : z * 4294967296 ||| y = z * 4294967296 + y := nat_join 32 _ _ (by omega) (by omega)
  rw [e0, u64_or_nat _ _ (by omega) (by omega), e1]

theorem set_front {X qs : List Nat} {k z : Nat} (h : k < X.length) : (X.take (k + 1) ++ qs).set k z = X.take k ++ z :: qs := by
  rw [List.take_succ_eq_append_getElem h, List.append_assoc, List.set_append_right _ _ (by rw [List.length_take]; omega), List.length_take, Nat.min_eq_left (by omega), Nat.sub_self]
  rfl
theorem div_cast {T d : Nat} (h : T / d < 4294967296) : IntKind.u64.wrap ((T : Int).tdiv d) % 4294967296 = ((T / d : Nat) : Int) := by
  rw [IntKind.wrap_u64, ← Int.ofNat_tdiv]
  generalize T / d = q at *
  omega
theorem div_small {rest d x : Nat} (h : rest < d) (hx : x < 4294967296) : (rest * 4294967296 + x) / d < 4294967296 := by
  rw [Nat.div_lt_iff_lt_mul (by omega)]
  have := Nat.mul_le_mul_left 4294967296 h
  omega

set_option maxHeartbeats 1600000 in
theorem dlimb_v {w : World} {A : Option Addr} {n c p d K : Nat} {D : Int} (hD : D = d) (h : Nv K w A n c p) (hK : K ≤ 1099511627776) (hd : 0 < d) (hdB : d < 4294967296) :
    Calls Try.prog 52 #[.slice A n c, .int .u32 D] w (RetCL K (p / d) ((p % d : Nat) : Int) 0 w) := by
  subst hD
  have hb := h.bound
  have t1 := hid (trim_v h hK)
  clear h
  have hdi : ((d : Int) == 0) = false := beq_eq_false_iff_ne.2 (by omega)
  go_enter Try.func52, Try.ntmps52
  go_wp2_with fail
  refine t1.out.mono ?_
  rintro E w1 ⟨A1, m, c1, rfl, o1, x1⟩
  have hm := o1.2
  have HL := hid (nd_lim (b := 4294967296) (by omega) p)
  have HV := hid (nv_nd (b := 4294967296) (by omega) p)
  have O1 := hid o1.1
  have X1 := hid x1
  clear t1 o1 x1
  generalize nd 4294967296 p = X at *
  have HX := hid O1.out.len
  go_wp2_with fail
  go_loopw [7, 16] (fun sr si wr => ∃ (i rest : Nat) (qs : List Nat), i ≤ m ∧ sr = .int .u64 rest ∧ si = .int .i64 i ∧ rest < d ∧ qs.length = i ∧ Lim 4294967296 qs ∧ nv 4294967296 (X.drop (m - i)) = nv 4294967296 qs * d + rest ∧
      Own .u32 39 wr w.heap.size A1 m c1 (X.take (m - i) ++ qs) ∧ Ext w wr) (fun _ si _ => m - (intOf si).toNat)
  case atStart => exact ⟨0, 0, [], Nat.zero_le _, rfl, rfl, hd, rfl, fun y hy => by simp at hy, by rw [List.drop_eq_nil_of_le (by rw [HX.out]; omega)]; simp [nv], by rw [Nat.sub_zero, List.take_of_length_le (by rw [HX.out]; omega), List.append_nil]; exact O1.out, X1.out⟩
  case round =>
    clear O1 X1
    obtain ⟨i, rest, qs, hi, rfl, rfl, hr, hql, hqs, hinv, ho, hx⟩ := hrel
    have HE := hid hx
    have HI := hid hinv
    have HO := hid ho
    have HQ := hid hqs
    have HQL := hid hql
    clear hx hinv ho hqs hql
    by_cases hlt : i < m
    · rcases HO.out.form with ⟨_, h0, _⟩ | ⟨g, rfl, hg1, hg2⟩
      · omega
      · have hkm : m - 1 - i < m := by omega
        have gz := HO.out.cell hkm
        have gf := HO.out.frozen (m - 1 - i)
        have bz := lim_getD (b := 4294967296) (by omega) HL.out (m - 1 - i)
        have ez : (X.take (m - i) ++ qs)[m - 1 - i]?.getD 0 = X[m - 1 - i]?.getD 0 := by
          rw [List.getElem?_append_left (by rw [List.length_take, HX.out]; omega), List.getElem?_take, if_pos (by omega)]
        rw [ez] at gz
        clear ez
        have hst : nv 4294967296 (X.drop (m - 1 - i)) = X[m - 1 - i]?.getD 0 + 4294967296 * nv 4294967296 (X.drop (m - i)) := by
          have := nv_drop_step (b := 4294967296) X (m - 1 - i)
          rwa [show m - 1 - i + 1 = m - i from by omega] at this
        have HST := hid hst
        have HS := hid (fun z => set_front (qs := qs) (z := z) (show m - 1 - i < X.length by rw [HX.out]; omega))
        clear hst
        generalize X[m - 1 - i]?.getD 0 = x at *
        go_wp2_with (go_quiet (fail))
        have hor := or_hi bz (show rest < 4294967296 by omega)
        rw [hor]
        have hsm := div_small hr bz
        generalize hT : rest * 4294967296 + x = T at *
        rw [div_cast hsm, ← Int.ofNat_tmod]
        refine ⟨⟨i + 1, T % d, T / d :: qs, by omega, rfl, by go_num, Nat.mod_lt _ hd, by rw [List.length_cons, HQL.out], fun y hy => ?_, ?_, ?_, HE.out.setCell hg1 _⟩, by simp [intOf]; omega⟩
        · rcases List.mem_cons.1 hy with rfl | hy
          · exact hsm
          · exact HQ.out y hy
        · rw [show m - (i + 1) = m - 1 - i from by omega, HST.out]
          have := dlimb_step (b := 4294967296) (x := x) hT.symm HI.out
          rwa [nv] at this
        · have h2 := HO.out.set (m - 1 - i) (T / d)
          have h3 := HS.out (T / d)
          rw [show m - 1 - i + 1 = m - i from by omega] at h3
          rw [h3] at h2
          rw [show m - (i + 1) = m - 1 - i from by omega]
          exact h2
    · obtain rfl : i = m := by omega
      have ho := HO.out
      have hv := HI.out
      rw [Nat.sub_self] at ho hv
      rw [List.drop_zero, HV.out] at hv
      rw [List.take_zero, List.nil_append] at ho
      have hdm : p / d = nv 4294967296 qs ∧ p % d = rest := by
        rw [hv]
        refine ⟨?_, by rw [Nat.mul_comm, Nat.mul_add_mod, Nat.mod_eq_of_lt hr]⟩
        rw [Nat.mul_comm, Nat.mul_add_div hd, Nat.div_eq_of_lt hr, Nat.add_zero]
      have hs := hid (trim_any ho.sl HQ.out (by omega))
      rw [← hdm.1] at hs
      have HR := hid hdm.2
      have hkb := hid (Nat.lt_of_le_of_lt (Nat.div_le_self p d) hb)
      clear ho hv hdm
      go_wp2_with (go_at_call 50; refine hs.out.mono ?_; rintro e w' hr2; obtain ⟨A2, n2, c2, rfl, o2, x2⟩ := hr2.c hkb.out)
      go_ret3
      refine ⟨_, _, _, ?_, ⟨o2.1.mono HE.out.size, o2.2⟩, HE.out.trans x2⟩
      rw [HR.out]
      rfl
end Go.Proofs.Ytmfgcjjoagdamaa
