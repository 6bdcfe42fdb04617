/- The walk of SumsTells. Conditions: none. -/
import Derived.Test.YtocapddabodilaaAmSumsAwake
set_option linter.unusedVariables false
set_option linter.unusedSimpArgs false
set_option maxRecDepth 20000
namespace Go.Proofs.YtocapddabodilaaAm
open Go.Proofs
set_option maxHeartbeats 1000000 in
theorem walkSumsTells (a b : ByteArray) (h width : Int) (wa : a.size ≤ 9223372036854775807) (wb : b.size ≤ 9223372036854775807) (wh : 0 ≤ h ∧ h ≤ 18446744073709551615) (ww : -9223372036854775808 ≤ width ∧ width ≤ 9223372036854775807) :
    QCall Try.prog 3 [.lit (.string a), .lit (.string b), .lit (.int .u64 h), .lit (.int .i64 width)] [] (.lit (.bool true)) := by
  refine acall_intro (n := 74) (rvs := [.tmp 8]) Try.func3 rfl rfl rfl (Nat.le_of_ble_eq_true rfl) ?_
  refine awp_seq ?_
  refine awp_region ?_
  refine aqs rfl (q_as (by constructor)) rfl ?_
  refine alist_nil ?_
  show AWP _ _ _ _
  refine awp_seq ?_
  refine awp_region ?_
  refine aqs rfl (e_callN cb37 (awake37_c _) rfl rfl) rfl ?_
  refine aqs rfl (q_as (by constructor)) rfl ?_
  refine alist_nil ?_
  show AWP _ _ _ _
  refine awp_seq ?_
  refine awp_region ?_
  refine aqs rfl (q_mv (by constructor)) rfl ?_
  refine aqs rfl (q_mv (by constructor)) rfl ?_
  refine aqs rfl (q_lenS Try.underlying9 rfl) rfl ?_
  refine aqs rfl (q_min rfl rfl) rfl ?_
  refine aqs rfl (q_slS Try.underlying9 rfl rfl (by first | (refine ⟨_, _, rfl, ?_⟩; with_reducible rfl) | exact bnd_int rfl (by omega)) (by omega) (by omega)) rfl ?_
  refine aqs rfl (q_as (by constructor)) rfl ?_
  obtain ⟨x, hx, ex⟩ : ∃ x : ByteArray, x.size ≤ 200 ∧ x = a.extract 0 (min (a.size : Int) 200).toNat := ⟨_, by simp; omega, rfl⟩
  rw [← ex]
  refine alist_nil ?_
  show AWP _ _ _ _
  refine awp_seq ?_
  refine awp_region ?_
  refine aqs rfl (q_mv (by constructor)) rfl ?_
  refine aqs rfl (q_mv (by constructor)) rfl ?_
  refine aqs rfl (q_lenS Try.underlying9 rfl) rfl ?_
  refine aqs rfl (q_min rfl rfl) rfl ?_
  refine aqs rfl (q_slS Try.underlying9 rfl rfl (by first | (refine ⟨_, _, rfl, ?_⟩; with_reducible rfl) | exact bnd_int rfl (by omega)) (by omega) (by omega)) rfl ?_
  refine aqs rfl (q_as (by constructor)) rfl ?_
  obtain ⟨y, hy, ey⟩ : ∃ x : ByteArray, x.size ≤ 200 ∧ x = b.extract 0 (min (b.size : Int) 200).toNat := ⟨_, by simp; omega, rfl⟩
  rw [← ey]
  refine alist_nil ?_
  show AWP _ _ _ _
  refine awp_seq ?_
  refine awp_seq ?_
  refine awp_region ?_
  refine aqs rfl (q_mv (by constructor)) rfl ?_
  refine aqs rfl (q_mv (by constructor)) rfl ?_
  refine aqs rfl (e_callN cb38 (pick38_c _ _ (by omega) (by omega) (by omega) _) rfl rfl) rfl ?_
  first | refine aqs rfl (q_bs Try.underlying25 sz3 zr3 rfl (by first | ((repeat constructor); done) | exact .same _) rfl (by decide) (by repeat (first | exact BS.nil | (apply BS.cons; (· constructor); (· rfl); (· rfl); (· rfl); (· exact (by first | ((repeat constructor); done) | exact .same _)))))) rfl ?_ | (refine aes rfl (e_bs Try.underlying25 sz3 zr3 rfl (by first | ((repeat constructor); done) | exact .same _) rfl (by decide) (by repeat (first | exact BS.nil | (apply BS.cons; (· constructor); (· rfl); (· rfl); (· rfl); (· exact (by first | ((repeat constructor); done) | exact .same _)))))) rfl ?_; rintro _ _ ⟨u28, rfl, rfl⟩)
  first | refine aqs rfl (q_len Try.underlying25 .ro) rfl ?_ | refine aqs rfl (q_lenO Try.underlying25 rfl (by repeat (first | exact .here | apply HAt.there)) (by omega)) rfl ?_ | refine aqs rfl (q_len Try.underlying25 .nil) rfl ?_ | refine aqs rfl (q_len Try.underlying25 .cro) rfl ?_
  refine aqs rfl (q_mv (by constructor)) rfl ?_
  refine alist_nil ?_
  show AWP _ _ _ _
  refine awp_block ?_
  refine awp_loop_inv (fun i : Nat => ⟨[(30, .lit (.int .i64 i)), (29, .lit (.int .i64 2)), (28, .cro [[.lit (.int .i64 width)], [.lit (.int .i64 (pick width 66))]]), (9, .lit (.bool true)), (10, .lit (.string x)), (11, .lit (.string y)), (2, .lit (.int .u64 h))], 74, []⟩) (fun i => i ≤ 2) (fun i => 2 - i) 0 ?_ ?_ ?_
  · omega
  · exact .mk' (by repeat (first | exact trivial | refine ⟨rfl, ?_⟩)) (by repeat (first | exact .refl _ | apply List.Sublist.cons₂ | apply List.Sublist.cons))
  · intro i hi
    refine awp_seq ?_
    refine awp_region ?_
    refine aqs rfl (q_lss rfl rfl) rfl ?_
    refine alist_nil ?_
    show AWP _ _ _ _
    refine awp_seq ?_
    refine awp_cond rfl (fun hc0 => ?_) (fun hc0 => ?_)
    · simp only [decide_eq_true_eq] at hc0
      obtain ⟨w, hw⟩ : ∃ w, [[AV.lit (.int .i64 width)], [.lit (.int .i64 (pick width 66))]][i]? = some [.lit (.int .i64 w)] := by
        match i, hc0 with
        | 0, _ => exact ⟨_, rfl⟩
        | 1, _ => exact ⟨_, rfl⟩
      refine awp_skip ?_
      show AWP _ _ _ _
      refine awp_seq ?_
      refine awp_block ?_
      refine awp_seq ?_
      refine awp_region ?_
      first | refine aqs rfl (q_iaN Try.underlying25 sz3 (.inl rfl) rfl (by omega) (by first | rfl | assumption | (simp [*]; done)) (by first | rfl | assumption | (simp [*]; done)) (by decide) (by first | ((repeat constructor); done) | exact .same _)) rfl ?_ | refine aqs rfl (q_iaS Try.underlying25 sz3 rfl rfl (by omega) (by omega) rfl) rfl ?_ | refine aqs rfl (q_iaN Try.underlying25 sz3 (.inr rfl) rfl (by omega) (by first | rfl | assumption | (simp [*]; done)) (by first | rfl | assumption | (simp [*]; done)) (by decide) (by first | ((repeat constructor); done) | exact .same _)) rfl ?_
      first | refine aqs rfl (q_ldpN ag3 rfl (by repeat (first | exact .here | apply HAt.there)) (by first | rfl | assumption | (simp [*]; done)) (by first | rfl | assumption | (simp [*]; done)) (by constructor)) rfl ?_ | refine aqs rfl (q_ld1N ag3 rfl (by constructor)) rfl ?_
      refine aqs rfl (q_as (by constructor)) rfl ?_
      refine alist_nil ?_
      show AWP _ _ _ _
      refine awp_seq ?_
      refine awp_region ?_
      refine aqs rfl (q_mv (by constructor)) rfl ?_
      refine aqs rfl (q_mv (by constructor)) rfl ?_
      refine aqs rfl (e_callN cb39 (sum39_c _ _ (by omega) _) rfl rfl) rfl ?_
      refine aqs rfl (q_mv (by constructor)) rfl ?_
      refine aqs rfl (q_mv (by constructor)) rfl ?_
      refine aqs rfl (e_callN cb40 (sum40_c _ _ (by omega) _) rfl rfl) rfl ?_
      refine aqs rfl (castF (q_neq rfl rfl) (by simp)) rfl ?_
      refine aqs rfl (q_mv (by constructor)) rfl ?_
      first | refine ans rfl rfl ?_ | refine aqs rfl (q_mv (by constructor)) rfl ?_
      first | refine ans rfl rfl ?_ | refine aqs rfl (q_mv (by constructor)) rfl ?_
      first | refine ans rfl rfl ?_ | refine aqs rfl (q_mv (by constructor)) rfl ?_
      first | refine ans rfl rfl ?_ | refine aqs rfl (e_callN cb41 (more41_c _ _ _ (by omega) (by omega) (by omega) _) rfl rfl) rfl ?_
      first | refine ans rfl rfl ?_ | refine aqs rfl (q_mv (by constructor)) rfl ?_
      first | refine ans rfl rfl ?_ | refine aqs rfl (q_mv (by constructor)) rfl ?_
      first | refine ans rfl rfl ?_ | refine aqs rfl (q_mv (by constructor)) rfl ?_
      first | refine ans rfl rfl ?_ | refine aqs rfl (e_callN cb42 (more42_c _ _ _ (by omega) (by omega) (by omega) _) rfl rfl) rfl ?_
      first | refine ans rfl rfl ?_ | refine aqs rfl (castF (q_neq rfl rfl) (by simp)) rfl ?_
      first | refine aqs rfl (q_pickT rfl (by constructor)) rfl ?_ | refine aqs rfl (q_pickF rfl (by constructor)) rfl ?_
      refine aqs rfl (q_mv (by constructor)) rfl ?_
      first | refine ans rfl rfl ?_ | refine aqs rfl (q_mv (by constructor)) rfl ?_
      first | refine ans rfl rfl ?_ | refine aqs rfl (q_mv (by constructor)) rfl ?_
      first | refine ans rfl rfl ?_ | refine aqs rfl (e_callN cb43 (of43_c _ _ (by omega) _) rfl rfl) rfl ?_
      first | refine ans rfl rfl ?_ | refine aqs rfl (q_mv (by constructor)) rfl ?_
      first | refine ans rfl rfl ?_ | refine aqs rfl (q_mv (by constructor)) rfl ?_
      first | refine ans rfl rfl ?_ | refine aqs rfl (e_callN cb44 (of44_c _ _ (by omega) _) rfl rfl) rfl ?_
      first | refine ans rfl rfl ?_ | refine aqs rfl (castF (q_neqA gd29 rfl rfl (by repeat constructor) (by repeat constructor) (fun w => eq29 w)) (by simp)) rfl ?_
      first | refine aqs rfl (q_pickT rfl (by constructor)) rfl ?_ | refine aqs rfl (q_pickF rfl (by constructor)) rfl ?_
      refine aqs rfl (q_mv (by constructor)) rfl ?_
      first | refine ans rfl rfl ?_ | refine aqs rfl (q_mv (by constructor)) rfl ?_
      first | refine ans rfl rfl ?_ | refine aqs rfl (q_mv (by constructor)) rfl ?_
      first | refine ans rfl rfl ?_ | refine aqs rfl (q_mv (by constructor)) rfl ?_
      first | refine ans rfl rfl ?_ | refine aqs rfl (e_callN cb45 (both45_c _ _ _ (by omega) _) rfl rfl) rfl ?_
      first | refine ans rfl rfl ?_ | refine aqs rfl (q_mv (by constructor)) rfl ?_
      first | refine ans rfl rfl ?_ | refine aqs rfl (q_mv (by constructor)) rfl ?_
      first | refine ans rfl rfl ?_ | refine aqs rfl (q_mv (by constructor)) rfl ?_
      first | refine ans rfl rfl ?_ | refine aqs rfl (e_callN cb46 (both46_c _ _ _ (by omega) _) rfl rfl) rfl ?_
      first | refine ans rfl rfl ?_ | refine aqs rfl (castF (q_neqA gd29 rfl rfl (by repeat constructor) (by repeat constructor) (fun w => eq29 w)) (by simp)) rfl ?_
      first | refine aqs rfl (q_pickT rfl (by constructor)) rfl ?_ | refine aqs rfl (q_pickF rfl (by constructor)) rfl ?_
      refine alist_nil ?_
      show AWP _ _ _ _
      refine awp_cond rfl (fun hc1 => ?_) (fun hc1 => ?_)
      · exfalso; first | (simp at hc1; done) | (simp at hc1; omega) | contradiction
      · try simp only [decide_eq_true_eq, decide_eq_false_iff_not, Bool.not_eq_true', Bool.not_eq_false', Bool.not_eq_eq_eq_not, Bool.not_true, Bool.not_false, beq_iff_eq, beq_eq_false_iff_ne, Int.not_lt, Int.not_le] at hc1
        refine awp_skip ?_
        show AWP _ _ _ _
        refine awp_region ?_
        first | refine aqs rfl (q_add64 rfl rfl (by omega) (by omega)) rfl ?_ | refine aqs rfl (q_add rfl rfl) rfl ?_
        refine aqs rfl (q_mv (by constructor)) rfl ?_
        refine alist_nil ?_
        show ∃ y, _ ∧ _ ∧ _
        exact ⟨i + 1, by omega, by omega, .mk' ⟨by rfl, rfl, rfl, rfl, rfl, rfl, rfl, trivial⟩ (.refl _)⟩
    · skip
      refine awp_exit ?_
      show AWP _ _ _ _
      refine awp_seq ?_
      refine awp_region ?_
      refine aqs rfl (q_mv (by constructor)) rfl ?_
      refine aqs rfl (q_as (by constructor)) rfl ?_
      refine alist_nil ?_
      show AWP _ _ _ _
      refine awp_ret ?_
      repeat with_reducible refine then_ret ?_
      apply retq (.inr rfl) (.cons (rok_t rfl) .nil)
      rotate_left
      · exact ⟨rfl, rfl⟩
      repeat (first | exact List.Sublist.refl _ | exact List.nil_sublist _ | apply List.Sublist.cons)
end Go.Proofs.YtocapddabodilaaAm
