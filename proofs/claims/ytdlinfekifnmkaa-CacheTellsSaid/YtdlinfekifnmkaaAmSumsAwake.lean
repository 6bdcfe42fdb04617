/- What layer 9 asks of its own function once. Conditions: none. -/
import Derived.Test.YtdlinfekifnmkaaAmSums
set_option linter.unusedVariables false
set_option linter.unusedSimpArgs false
set_option maxRecDepth 20000
namespace Go.Proofs.YtdlinfekifnmkaaAm
open Go.Proofs
set_option maxHeartbeats 1000000 in
theorem awake37_c (H : Heap) : QCall Try.prog 37 [] H (.lit (.bool true)) := by
  refine acall_intro (n := 29) (rvs := [.tmp 0]) Try.func37 rfl rfl rfl (Nat.le_of_ble_eq_true rfl) ?_
  refine awp_seq ?_
  refine awp_region ?_
  refine aqs rfl (q_as (by constructor)) rfl ?_
  refine alist_nil ?_
  show AWP _ _ _ _
  refine awp_seq ?_
  refine awp_region ?_
  first | refine aqs rfl (e_callN cb39 (sum39_c _ _ (by decide) _) rfl rfl) rfl ?_ | refine aqs rfl (e_callN cb39 (ACall.arg (sum39_c _ _ (by decide) _) (by repeat (first | exact ArgL.nil | (apply ArgL.cons; (· first | exact .same | exact .cro | exact .nil))))) rfl rfl) rfl ?_
  refine aqs rfl (castT (q_eql rfl rfl) (by decide +kernel)) rfl ?_
  refine aqs rfl (q_mv (by constructor)) rfl ?_
  first | refine ans rfl rfl ?_ | refine aqs rfl (e_callN cb39 (sum39_c _ _ (by decide) _) rfl rfl) rfl ?_ | refine aqs rfl (e_callN cb39 (ACall.arg (sum39_c _ _ (by decide) _) (by repeat (first | exact ArgL.nil | (apply ArgL.cons; (· first | exact .same | exact .cro | exact .nil))))) rfl rfl) rfl ?_
  refine aqs rfl (castT (q_eql rfl rfl) (by decide +kernel)) rfl ?_
  first | refine aqs rfl (q_pickT rfl (by constructor)) rfl ?_ | refine aqs rfl (q_pickF rfl (by constructor)) rfl ?_
  refine aqs rfl (q_mv (by constructor)) rfl ?_
  first | refine ans rfl rfl ?_ | refine aqs rfl (e_callN cb39 (sum39_c _ _ (by decide) _) rfl rfl) rfl ?_ | refine aqs rfl (e_callN cb39 (ACall.arg (sum39_c _ _ (by decide) _) (by repeat (first | exact ArgL.nil | (apply ArgL.cons; (· first | exact .same | exact .cro | exact .nil))))) rfl rfl) rfl ?_
  refine aqs rfl (castT (q_eql rfl rfl) (by decide +kernel)) rfl ?_
  first | refine aqs rfl (q_pickT rfl (by constructor)) rfl ?_ | refine aqs rfl (q_pickF rfl (by constructor)) rfl ?_
  refine aqs rfl (q_mv (by constructor)) rfl ?_
  first | refine ans rfl rfl ?_ | refine aqs rfl (e_callN cb43 (of43_c _ _ (by decide) _) rfl rfl) rfl ?_ | refine aqs rfl (e_callN cb43 (ACall.arg (of43_c _ _ (by decide) _) (by repeat (first | exact ArgL.nil | (apply ArgL.cons; (· first | exact .same | exact .cro | exact .nil))))) rfl rfl) rfl ?_
  first | refine ans rfl rfl ?_ | refine aqs rfl (q_bd st29 zr29 (by first | ((repeat constructor); done) | exact .same _) (by repeat (first | exact BD.nil | (apply BD.cons; (· rfl); (· constructor); (· rfl); (· rfl); (· exact Nat.le_of_ble_eq_true (by rfl)); (· exact (by first | ((repeat constructor); done) | exact .same _)))))) rfl ?_
  refine aqs rfl (castT (q_eqlA gd29 rfl rfl (by repeat constructor) (by repeat constructor) (fun w => eq29 w)) (by decide +kernel)) rfl ?_
  first | refine aqs rfl (q_pickT rfl (by constructor)) rfl ?_ | refine aqs rfl (q_pickF rfl (by constructor)) rfl ?_
  refine aqs rfl (q_mv (by constructor)) rfl ?_
  first | refine ans rfl rfl ?_ | refine aqs rfl (e_callN cb45 (both45_c _ _ _ (by decide) _) rfl rfl) rfl ?_ | refine aqs rfl (e_callN cb45 (ACall.arg (both45_c _ _ _ (by decide) _) (by repeat (first | exact ArgL.nil | (apply ArgL.cons; (· first | exact .same | exact .cro | exact .nil))))) rfl rfl) rfl ?_
  first | refine ans rfl rfl ?_ | refine aqs rfl (q_bd st29 zr29 (by first | ((repeat constructor); done) | exact .same _) (by repeat (first | exact BD.nil | (apply BD.cons; (· rfl); (· constructor); (· rfl); (· rfl); (· exact Nat.le_of_ble_eq_true (by rfl)); (· exact (by first | ((repeat constructor); done) | exact .same _)))))) rfl ?_
  refine aqs rfl (castT (q_eqlA gd29 rfl rfl (by repeat constructor) (by repeat constructor) (fun w => eq29 w)) (by decide +kernel)) rfl ?_
  first | refine aqs rfl (q_pickT rfl (by constructor)) rfl ?_ | refine aqs rfl (q_pickF rfl (by constructor)) rfl ?_
  refine aqs rfl (q_mv (by constructor)) rfl ?_
  first | refine ans rfl rfl ?_ | refine aqs rfl (e_callN cb41 (more41_c _ _ _ (by omega) (by omega) (by decide) _) rfl rfl) rfl ?_ | refine aqs rfl (e_callN cb41 (ACall.arg (more41_c _ _ _ (by omega) (by omega) (by decide) _) (by repeat (first | exact ArgL.nil | (apply ArgL.cons; (· first | exact .same | exact .cro | exact .nil))))) rfl rfl) rfl ?_
  refine aqs rfl (castT (q_eql rfl rfl) (by decide +kernel)) rfl ?_
  first | refine aqs rfl (q_pickT rfl (by constructor)) rfl ?_ | refine aqs rfl (q_pickF rfl (by constructor)) rfl ?_
  refine aqs rfl (q_mv (by constructor)) rfl ?_
  first | refine ans rfl rfl ?_ | refine aqs rfl (e_callN cb41 (more41_c _ _ _ (by omega) (by omega) (by decide) _) rfl rfl) rfl ?_ | refine aqs rfl (e_callN cb41 (ACall.arg (more41_c _ _ _ (by omega) (by omega) (by decide) _) (by repeat (first | exact ArgL.nil | (apply ArgL.cons; (· first | exact .same | exact .cro | exact .nil))))) rfl rfl) rfl ?_
  refine aqs rfl (castT (q_eql rfl rfl) (by decide +kernel)) rfl ?_
  first | refine aqs rfl (q_pickT rfl (by constructor)) rfl ?_ | refine aqs rfl (q_pickF rfl (by constructor)) rfl ?_
  refine aqs rfl (q_as (by constructor)) rfl ?_
  refine alist_nil ?_
  show AWP _ _ _ _
  refine awp_ret ?_
  repeat first | with_reducible refine then_ret ?_ | with_reducible refine blk_ret ?_
  apply retq (.inr rfl) (.cons (rok_t rfl) .nil)
  rotate_left
  · exact ⟨rfl, rfl⟩
  repeat (first | exact List.Sublist.refl _ | exact List.nil_sublist _ | exact List.sublist_append_left _ _ | apply List.Sublist.cons)
end Go.Proofs.YtdlinfekifnmkaaAm
