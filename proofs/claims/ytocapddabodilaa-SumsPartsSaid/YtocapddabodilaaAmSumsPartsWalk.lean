/- The walk of SumsParts. Conditions: none. -/
import Derived.Test.YtocapddabodilaaAmSumsLaws
set_option linter.unusedVariables false
set_option linter.unusedSimpArgs false
set_option maxRecDepth 20000
namespace Go.Proofs.YtocapddabodilaaAm
open Go.Proofs
set_option maxHeartbeats 2000000 in
theorem walkSumsParts (a b : ByteArray) (g h width : Int) (wa : a.size ≤ 9223372036854775807) (wb : b.size ≤ 9223372036854775807) (wg : 0 ≤ g ∧ g ≤ 18446744073709551615) (wh : 0 ≤ h ∧ h ≤ 18446744073709551615) (w1 : -9223372036854775808 ≤ width ∧ width ≤ 9223372036854775807) :
    QCall Try.prog 5 [.lit (.string a), .lit (.string b), .lit (.int .u64 g), .lit (.int .u64 h), .lit (.int .i64 width)] [] (.lit (.bool true)) := by
  refine acall_intro (n := 71) (rvs := [.tmp 10]) Try.func5 rfl rfl rfl (Nat.le_of_ble_eq_true rfl) ?_
  refine awp_seq ?_
  refine awp_region ?_
  refine aqs rfl (q_as (by constructor)) rfl ?_
  refine alist_nil ?_
  show AWP _ _ _ _
  refine awp_seq ?_
  refine awp_region ?_
  refine aqs rfl (e_callN cb37 (awake37_c _) rfl rfl) rfl ?_
  refine aqs rfl (q_as (by constructor)) rfl ?_
  refine alist_nil ?_
  show AWP _ _ _ _
  refine awp_seq ?_
  refine awp_region ?_
  refine aqs rfl (q_mv (by constructor)) rfl ?_
  refine aqs rfl (q_mv (by constructor)) rfl ?_
  refine aqs rfl (q_lenS Try.underlying9 rfl) rfl ?_
  refine aqs rfl (q_min rfl rfl) rfl ?_
  refine aqs rfl (q_slS Try.underlying9 rfl rfl (by first | (refine ⟨_, _, rfl, ?_⟩; with_reducible rfl) | exact bnd_int rfl (by omega)) (by omega) (by omega)) rfl ?_
  refine aqs rfl (q_as (by constructor)) rfl ?_
  obtain ⟨x, hx, ex⟩ : ∃ x : ByteArray, x.size ≤ 100 ∧ x = a.extract 0 (min (a.size : Int) 100).toNat := ⟨_, by simp; omega, rfl⟩
  rw [← ex]
  refine alist_nil ?_
  show AWP _ _ _ _
  refine awp_seq ?_
  refine awp_region ?_
  refine aqs rfl (q_mv (by constructor)) rfl ?_
  refine aqs rfl (q_mv (by constructor)) rfl ?_
  refine aqs rfl (q_lenS Try.underlying9 rfl) rfl ?_
  refine aqs rfl (q_min rfl rfl) rfl ?_
  refine aqs rfl (q_slS Try.underlying9 rfl rfl (by first | (refine ⟨_, _, rfl, ?_⟩; with_reducible rfl) | exact bnd_int rfl (by omega)) (by omega) (by omega)) rfl ?_
  refine aqs rfl (q_as (by constructor)) rfl ?_
  obtain ⟨y, hy, ey⟩ : ∃ x : ByteArray, x.size ≤ 100 ∧ x = b.extract 0 (min (b.size : Int) 100).toNat := ⟨_, by simp; omega, rfl⟩
  rw [← ey]
  refine alist_nil ?_
  show AWP _ _ _ _
  refine awp_seq ?_
  refine awp_region ?_
  refine aqs rfl (q_mv (by constructor)) rfl ?_
  refine aqs rfl (e_callN cb38 (pick38_c _ _ (by omega) (by omega) (by omega) _) rfl rfl) rfl ?_
  refine aqs rfl (q_as (by constructor)) rfl ?_
  have p0 := pick_nonneg width 65 (by omega)
  have p1 := pick_lt width 65 (by omega)
  generalize pick width 65 = w at p0 p1 ⊢
  refine alist_nil ?_
  show AWP _ _ _ _
  refine awp_seq ?_
  refine awp_region ?_
  refine aqs rfl (q_mv (by constructor)) rfl ?_
  refine aqs rfl (q_mv (by constructor)) rfl ?_
  first | refine ans rfl rfl ?_ | refine aqs rfl (q_mv (by constructor)) rfl ?_
  first | refine ans rfl rfl ?_ | refine aqs rfl (q_mv (by constructor)) rfl ?_
  first | refine ans rfl rfl ?_ | refine aqs rfl (q_mv (by constructor)) rfl ?_
  first | refine ans rfl rfl ?_ | refine aqs rfl (e_callN cb41 (more41_c _ _ _ (by first | omega | exact (more_range _ _ _ (by omega) (by omega)).1 | exact (sum_range _ _).1) (by first | omega | exact (more_range _ _ _ (by omega) (by omega)).2 | exact (sum_range _ _).2) (by first | omega | (simp; omega)) _) rfl rfl) rfl ?_
  first | refine ans rfl rfl ?_ | refine aqs rfl (q_mv (by constructor)) rfl ?_
  first | refine ans rfl rfl ?_ | refine aqs rfl (q_mv (by constructor)) rfl ?_
  first | refine ans rfl rfl ?_ | refine aqs rfl (e_callN cb41 (more41_c _ _ _ (by first | omega | exact (more_range _ _ _ (by omega) (by omega)).1 | exact (sum_range _ _).1) (by first | omega | exact (more_range _ _ _ (by omega) (by omega)).2 | exact (sum_range _ _).2) (by first | omega | (simp; omega)) _) rfl rfl) rfl ?_
  first | refine ans rfl rfl ?_ | refine aqs rfl (q_mv (by constructor)) rfl ?_
  first | refine ans rfl rfl ?_ | refine aqs rfl (q_mv (by constructor)) rfl ?_
  first | refine ans rfl rfl ?_ | refine aqs rfl (q_mv (by constructor)) rfl ?_
  first | refine ans rfl rfl ?_ | refine aqs rfl (q_sadd rfl rfl (by omega)) rfl ?_
  first | refine ans rfl rfl ?_ | refine aqs rfl (q_mv (by constructor)) rfl ?_
  first | refine ans rfl rfl ?_ | refine aqs rfl (e_callN cb41 (more41_c _ _ _ (by first | omega | exact (more_range _ _ _ (by omega) (by omega)).1 | exact (sum_range _ _).1) (by first | omega | exact (more_range _ _ _ (by omega) (by omega)).2 | exact (sum_range _ _).2) (by first | omega | (simp; omega)) _) rfl rfl) rfl ?_
  refine aqs rfl (castT (q_eql rfl rfl) (by exact decide_eq_true (more_app g x y w wg.1 wg.2 (by omega)))) rfl ?_
  first | refine aqs rfl (q_pickT rfl (by constructor)) rfl ?_ | refine aqs rfl (q_pickF rfl (by constructor)) rfl ?_
  refine aqs rfl (q_mv (by constructor)) rfl ?_
  first | refine ans rfl rfl ?_ | refine aqs rfl (q_mv (by constructor)) rfl ?_
  first | refine ans rfl rfl ?_ | refine aqs rfl (q_mv (by constructor)) rfl ?_
  first | refine ans rfl rfl ?_ | refine aqs rfl (q_sadd rfl rfl (by omega)) rfl ?_
  first | refine ans rfl rfl ?_ | refine aqs rfl (q_mv (by constructor)) rfl ?_
  first | refine ans rfl rfl ?_ | refine aqs rfl (e_callN cb39 (sum39_c _ _ (by first | omega | (simp; omega)) _) rfl rfl) rfl ?_
  first | refine ans rfl rfl ?_ | refine aqs rfl (q_mv (by constructor)) rfl ?_
  first | refine ans rfl rfl ?_ | refine aqs rfl (e_callN cb39 (sum39_c _ _ (by first | omega | (simp; omega)) _) rfl rfl) rfl ?_
  first | refine ans rfl rfl ?_ | refine aqs rfl (q_mv (by constructor)) rfl ?_
  first | refine ans rfl rfl ?_ | refine aqs rfl (q_mv (by constructor)) rfl ?_
  first | refine ans rfl rfl ?_ | refine aqs rfl (e_callN cb41 (more41_c _ _ _ (by first | omega | exact (more_range _ _ _ (by omega) (by omega)).1 | exact (sum_range _ _).1) (by first | omega | exact (more_range _ _ _ (by omega) (by omega)).2 | exact (sum_range _ _).2) (by first | omega | (simp; omega)) _) rfl rfl) rfl ?_
  refine aqs rfl (castT (q_eql rfl rfl) (by exact decide_eq_true (sum_app x y w (by omega)))) rfl ?_
  first | refine aqs rfl (q_pickT rfl (by constructor)) rfl ?_ | refine aqs rfl (q_pickF rfl (by constructor)) rfl ?_
  refine aqs rfl (q_mv (by constructor)) rfl ?_
  first | refine ans rfl rfl ?_ | refine aqs rfl (q_mv (by constructor)) rfl ?_
  first | refine ans rfl rfl ?_ | refine aqs rfl (q_mv (by constructor)) rfl ?_
  first | refine ans rfl rfl ?_ | refine aqs rfl (e_callN cb41 (more41_c _ _ _ (by first | omega | exact (more_range _ _ _ (by omega) (by omega)).1 | exact (sum_range _ _).1) (by first | omega | exact (more_range _ _ _ (by omega) (by omega)).2 | exact (sum_range _ _).2) (by first | omega | (simp; omega)) _) rfl rfl) rfl ?_
  first | refine ans rfl rfl ?_ | refine aqs rfl (q_mv (by constructor)) rfl ?_
  first | refine ans rfl rfl ?_ | refine aqs rfl (q_mv (by constructor)) rfl ?_
  first | refine ans rfl rfl ?_ | refine aqs rfl (e_callN cb41 (more41_c _ _ _ (by first | omega | exact (more_range _ _ _ (by omega) (by omega)).1 | exact (sum_range _ _).1) (by first | omega | exact (more_range _ _ _ (by omega) (by omega)).2 | exact (sum_range _ _).2) (by first | omega | (simp; omega)) _) rfl rfl) rfl ?_
  first | refine ans rfl rfl ?_ | refine aqs rfl (q_eql rfl rfl) rfl ?_
  first | refine ans rfl rfl ?_ | refine aqs rfl (q_mv (by constructor)) rfl ?_
  first | refine ans rfl rfl ?_ | refine aqs rfl (q_mv (by constructor)) rfl ?_
  first | refine ans rfl rfl ?_ | refine aqs rfl (q_eql rfl rfl) rfl ?_
  refine aqs rfl (castT (q_beql rfl rfl Try.underlying4) (by have := more64_inj x g h wg.1 wg.2 wh.1 wh.2; simp [this])) rfl ?_
  first | refine aqs rfl (q_pickT rfl (by constructor)) rfl ?_ | refine aqs rfl (q_pickF rfl (by constructor)) rfl ?_
  refine aqs rfl (q_as (by constructor)) rfl ?_
  refine alist_nil ?_
  show AWP _ _ _ _
  refine awp_ret ?_
  repeat with_reducible refine then_ret ?_
  apply retq (.inr rfl) (.cons (rok_t rfl) .nil)
  rotate_left
  · exact ⟨rfl, rfl⟩
  repeat (first | exact List.Sublist.refl _ | exact List.nil_sublist _ | apply List.Sublist.cons)
end Go.Proofs.YtocapddabodilaaAm
