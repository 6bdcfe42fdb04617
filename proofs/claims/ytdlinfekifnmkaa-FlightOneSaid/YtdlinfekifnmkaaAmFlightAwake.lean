/- What the layer 'flight' asks of itself. Conditions: none. -/
import Derived.Test.YtdlinfekifnmkaaAmFlightH
set_option linter.unusedVariables false
set_option linter.unusedSimpArgs false
set_option maxRecDepth 20000
namespace Go.Proofs.YtdlinfekifnmkaaAm
open Go.Proofs
set_option maxHeartbeats 8000000 in
theorem awake91_c : QCall Try.prog 91 [] [] (.lit (.bool true)) := by
  have l0 : FLen [] := ⟨by simp, by simp⟩
  have l1 : FLen [⟨⟨#[97]⟩, ⟨#[98]⟩, 1, []⟩] := ⟨by simp, by simp⟩
  have l2 : FLen [⟨⟨#[97]⟩, ⟨#[98]⟩, 1, [2]⟩] := ⟨by simp, by simp⟩
  have l3 : FLen [⟨⟨#[97]⟩, ⟨#[98]⟩, 1, [2, 3]⟩] := ⟨by simp, by simp⟩
  have l4 : FLen [⟨⟨#[97]⟩, ⟨#[98]⟩, 1, [3]⟩] := ⟨by simp, by simp⟩
  have l5 : FLen [⟨⟨#[]⟩, ⟨#[]⟩, 1, []⟩, ⟨⟨#[]⟩, ⟨#[]⟩, 2, []⟩] := ⟨by simp, by simp⟩
  have e0 : beginS [] ⟨#[97]⟩ ⟨#[98]⟩ 1 = (true, [⟨⟨#[97]⟩, ⟨#[98]⟩, 1, []⟩], 0) := by decide +kernel
  have e1 : beginS [⟨⟨#[97]⟩, ⟨#[98]⟩, 1, []⟩] ⟨#[97]⟩ ⟨#[98]⟩ 2 = (false, [⟨⟨#[97]⟩, ⟨#[98]⟩, 1, [2]⟩], 0) := by decide +kernel
  have e2 : beginS [⟨⟨#[97]⟩, ⟨#[98]⟩, 1, [2]⟩] ⟨#[97]⟩ ⟨#[98]⟩ 3 = (false, [⟨⟨#[97]⟩, ⟨#[98]⟩, 1, [2, 3]⟩], 0) := by decide +kernel
  have e3 : leaveS [⟨⟨#[97]⟩, ⟨#[98]⟩, 1, [2, 3]⟩] 2 = ([⟨⟨#[97]⟩, ⟨#[98]⟩, 1, [3]⟩], 0) := by decide +kernel
  have e4 : doneS [⟨⟨#[97]⟩, ⟨#[98]⟩, 1, [3]⟩] 1 = ([3], [], 0) := by decide +kernel
  have e5 : beginS [⟨⟨#[97]⟩, ⟨#[98]⟩, 1, [3]⟩] ⟨#[120]⟩ ⟨#[121]⟩ 3 = (false, [], 4) := by decide +kernel
  have e6 : doneS [⟨⟨#[97]⟩, ⟨#[98]⟩, 1, [3]⟩] 3 = ([], [], 10) := by decide +kernel
  have e7 : leaveS [⟨⟨#[97]⟩, ⟨#[98]⟩, 1, [3]⟩] 1 = ([], 10) := by decide +kernel
  have e8 : beginS [⟨⟨#[]⟩, ⟨#[]⟩, 1, []⟩, ⟨⟨#[]⟩, ⟨#[]⟩, 2, []⟩] ⟨#[]⟩ ⟨#[]⟩ 4 = (false, [], 1) := by decide +kernel
  have e9 : fRight [⟨⟨#[97]⟩, ⟨#[98]⟩, 1, [3]⟩] = true := by decide +kernel
  refine acall_intro (n := 138) (rvs := [.tmp 0]) Try.func91 rfl rfl rfl (Nat.le_of_ble_eq_true rfl) ?_
  refine awp_seq ?_
  refine awp_region ?_
  refine aqs rfl (q_as (by constructor)) rfl ?_
  refine alist_nil ?_
  show AWP _ _ _ _
  refine awp_seq ?_
  refine awp_region ?_
  first | refine aqs rfl (e_callN cb97 (e0 ▸ begin97_c [] l0 ⟨#[97]⟩ ⟨#[98]⟩ 1 _) rfl rfl) rfl ?_ | refine aqs rfl (e_callN cb97 (ACall.arg (e0 ▸ begin97_c [] l0 ⟨#[97]⟩ ⟨#[98]⟩ 1 _) (by repeat (first | exact ArgL.nil | (apply ArgL.cons; (· first | exact .same | exact .cro | exact .nil))))) rfl rfl) rfl ?_
  refine aqs rfl (q_mv (by constructor)) rfl ?_
  refine aqs rfl (q_ex rfl rfl (by constructor)) rfl ?_
  refine aqs rfl (q_ex rfl rfl (by constructor)) rfl ?_
  refine aqs rfl (q_ex rfl rfl (by constructor)) rfl ?_
  refine aqs rfl (q_as (by constructor)) rfl ?_
  refine aqs rfl (q_as (by constructor)) rfl ?_
  refine aqs rfl (q_as (by constructor)) rfl ?_
  refine alist_nil ?_
  show AWP _ _ _ _
  refine awp_seq ?_
  refine awp_region ?_
  refine aqs rfl (q_mv (by constructor)) rfl ?_
  first | refine aqs rfl (e_callN cb97 (e1 ▸ begin97_c [⟨⟨#[97]⟩, ⟨#[98]⟩, 1, []⟩] l1 ⟨#[97]⟩ ⟨#[98]⟩ 2 _) rfl rfl) rfl ?_ | refine aqs rfl (e_callN cb97 (ACall.arg (e1 ▸ begin97_c [⟨⟨#[97]⟩, ⟨#[98]⟩, 1, []⟩] l1 ⟨#[97]⟩ ⟨#[98]⟩ 2 _) (by repeat (first | exact ArgL.nil | (apply ArgL.cons; (· first | exact .same | exact .cro | exact .nil))))) rfl rfl) rfl ?_
  refine aqs rfl (q_mv (by constructor)) rfl ?_
  refine aqs rfl (q_ex rfl rfl (by constructor)) rfl ?_
  refine aqs rfl (q_ex rfl rfl (by constructor)) rfl ?_
  refine aqs rfl (q_ex rfl rfl (by constructor)) rfl ?_
  refine aqs rfl (q_as (by constructor)) rfl ?_
  refine aqs rfl (q_as (by constructor)) rfl ?_
  refine aqs rfl (q_as (by constructor)) rfl ?_
  refine alist_nil ?_
  show AWP _ _ _ _
  refine awp_seq ?_
  refine awp_region ?_
  refine aqs rfl (q_mv (by constructor)) rfl ?_
  first | refine aqs rfl (e_callN cb97 (e2 ▸ begin97_c [⟨⟨#[97]⟩, ⟨#[98]⟩, 1, [2]⟩] l2 ⟨#[97]⟩ ⟨#[98]⟩ 3 _) rfl rfl) rfl ?_ | refine aqs rfl (e_callN cb97 (ACall.arg (e2 ▸ begin97_c [⟨⟨#[97]⟩, ⟨#[98]⟩, 1, [2]⟩] l2 ⟨#[97]⟩ ⟨#[98]⟩ 3 _) (by repeat (first | exact ArgL.nil | (apply ArgL.cons; (· first | exact .same | exact .cro | exact .nil))))) rfl rfl) rfl ?_
  refine aqs rfl (q_mv (by constructor)) rfl ?_
  refine aqs rfl (q_ex rfl rfl (by constructor)) rfl ?_
  refine aqs rfl (q_ex rfl rfl (by constructor)) rfl ?_
  refine aqs rfl (q_ex rfl rfl (by constructor)) rfl ?_
  refine aqs rfl (q_as (by constructor)) rfl ?_
  refine aqs rfl (q_as (by constructor)) rfl ?_
  refine aqs rfl (q_as (by constructor)) rfl ?_
  refine alist_nil ?_
  show AWP _ _ _ _
  refine awp_seq ?_
  refine awp_region ?_
  refine aqs rfl (q_mv (by constructor)) rfl ?_
  first | refine aqs rfl (e_callN cb102 (e3 ▸ leave102_c [⟨⟨#[97]⟩, ⟨#[98]⟩, 1, [2, 3]⟩] l3 2 _) rfl rfl) rfl ?_ | refine aqs rfl (e_callN cb102 (ACall.arg (e3 ▸ leave102_c [⟨⟨#[97]⟩, ⟨#[98]⟩, 1, [2, 3]⟩] l3 2 _) (by repeat (first | exact ArgL.nil | (apply ArgL.cons; (· first | exact .same | exact .cro | exact .nil))))) rfl rfl) rfl ?_
  refine aqs rfl (q_mv (by constructor)) rfl ?_
  refine aqs rfl (q_ex rfl rfl (by constructor)) rfl ?_
  refine aqs rfl (q_ex rfl rfl (by constructor)) rfl ?_
  refine aqs rfl (q_as (by constructor)) rfl ?_
  refine aqs rfl (q_as (by constructor)) rfl ?_
  refine alist_nil ?_
  show AWP _ _ _ _
  refine awp_seq ?_
  refine awp_region ?_
  refine aqs rfl (q_mv (by constructor)) rfl ?_
  first | refine aqs rfl (e_callN cb100 (e4 ▸ done100_c [⟨⟨#[97]⟩, ⟨#[98]⟩, 1, [3]⟩] l4 1 _) rfl rfl) rfl ?_ | refine aqs rfl (e_callN cb100 (ACall.arg (e4 ▸ done100_c [⟨⟨#[97]⟩, ⟨#[98]⟩, 1, [3]⟩] l4 1 _) (by repeat (first | exact ArgL.nil | (apply ArgL.cons; (· first | exact .same | exact .cro | exact .nil))))) rfl rfl) rfl ?_
  refine aqs rfl (q_mv (by constructor)) rfl ?_
  refine aqs rfl (q_ex rfl rfl (by constructor)) rfl ?_
  refine aqs rfl (q_ex rfl rfl (by constructor)) rfl ?_
  refine aqs rfl (q_ex rfl rfl (by constructor)) rfl ?_
  refine aqs rfl (q_as (by constructor)) rfl ?_
  refine aqs rfl (q_as (by constructor)) rfl ?_
  refine aqs rfl (q_as (by constructor)) rfl ?_
  refine alist_nil ?_
  show AWP _ _ _ _
  refine awp_seq ?_
  refine awp_region ?_
  refine aqs rfl (q_mv (by constructor)) rfl ?_
  first | refine aqs rfl (e_callN cb97 (e5 ▸ begin97_c [⟨⟨#[97]⟩, ⟨#[98]⟩, 1, [3]⟩] l4 ⟨#[120]⟩ ⟨#[121]⟩ 3 _) rfl rfl) rfl ?_ | refine aqs rfl (e_callN cb97 (ACall.arg (e5 ▸ begin97_c [⟨⟨#[97]⟩, ⟨#[98]⟩, 1, [3]⟩] l4 ⟨#[120]⟩ ⟨#[121]⟩ 3 _) (by repeat (first | exact ArgL.nil | (apply ArgL.cons; (· first | exact .same | exact .cro | exact .nil))))) rfl rfl) rfl ?_
  refine aqs rfl (q_mv (by constructor)) rfl ?_
  refine aqs rfl (q_ex rfl rfl (by constructor)) rfl ?_
  refine aqs rfl (q_ex rfl rfl (by constructor)) rfl ?_
  refine aqs rfl (q_ex rfl rfl (by constructor)) rfl ?_
  refine aqs rfl (q_as (by constructor)) rfl ?_
  refine aqs rfl (q_as (by constructor)) rfl ?_
  refine aqs rfl (q_as (by constructor)) rfl ?_
  refine alist_nil ?_
  show AWP _ _ _ _
  refine awp_seq ?_
  refine awp_region ?_
  refine aqs rfl (q_mv (by constructor)) rfl ?_
  first | refine aqs rfl (e_callN cb100 (e6 ▸ done100_c [⟨⟨#[97]⟩, ⟨#[98]⟩, 1, [3]⟩] l4 3 _) rfl rfl) rfl ?_ | refine aqs rfl (e_callN cb100 (ACall.arg (e6 ▸ done100_c [⟨⟨#[97]⟩, ⟨#[98]⟩, 1, [3]⟩] l4 3 _) (by repeat (first | exact ArgL.nil | (apply ArgL.cons; (· first | exact .same | exact .cro | exact .nil))))) rfl rfl) rfl ?_
  refine aqs rfl (q_mv (by constructor)) rfl ?_
  refine aqs rfl (q_ex rfl rfl (by constructor)) rfl ?_
  refine aqs rfl (q_ex rfl rfl (by constructor)) rfl ?_
  refine aqs rfl (q_ex rfl rfl (by constructor)) rfl ?_
  refine aqs rfl (q_as (by constructor)) rfl ?_
  refine aqs rfl (q_as (by constructor)) rfl ?_
  refine aqs rfl (q_as (by constructor)) rfl ?_
  refine alist_nil ?_
  show AWP _ _ _ _
  refine awp_seq ?_
  refine awp_region ?_
  refine aqs rfl (q_mv (by constructor)) rfl ?_
  first | refine aqs rfl (e_callN cb102 (e7 ▸ leave102_c [⟨⟨#[97]⟩, ⟨#[98]⟩, 1, [3]⟩] l4 1 _) rfl rfl) rfl ?_ | refine aqs rfl (e_callN cb102 (ACall.arg (e7 ▸ leave102_c [⟨⟨#[97]⟩, ⟨#[98]⟩, 1, [3]⟩] l4 1 _) (by repeat (first | exact ArgL.nil | (apply ArgL.cons; (· first | exact .same | exact .cro | exact .nil))))) rfl rfl) rfl ?_
  refine aqs rfl (q_mv (by constructor)) rfl ?_
  refine aqs rfl (q_ex rfl rfl (by constructor)) rfl ?_
  refine aqs rfl (q_ex rfl rfl (by constructor)) rfl ?_
  refine aqs rfl (q_as (by constructor)) rfl ?_
  refine aqs rfl (q_as (by constructor)) rfl ?_
  refine alist_nil ?_
  show AWP _ _ _ _
  refine awp_seq ?_
  refine awp_region ?_
  refine aqs rfl (q_bd st115 zr115 (by first | ((repeat constructor); done) | exact .same _) (by repeat (first | exact BD.nil | (apply BD.cons; (· rfl); (· constructor); (· rfl); (· rfl); (· exact Nat.le_of_ble_eq_true (by rfl)); (· exact (by first | ((repeat constructor); done) | exact .same _)))))) rfl ?_
  refine alist_niltmp (cs2 := [.lit (.string ⟨#[]⟩), .lit (.string ⟨#[]⟩), .lit (.int .i64 1), .ro []]) 72 rfl (.cons .same (.cons .same (.cons .same (.cons .nil .nil)))) ?_
  refine aqs rfl (q_bd st115 zr115 (by first | ((repeat constructor); done) | exact .same _) (by repeat (first | exact BD.nil | (apply BD.cons; (· rfl); (· constructor); (· rfl); (· rfl); (· exact Nat.le_of_ble_eq_true (by rfl)); (· exact (by first | ((repeat constructor); done) | exact .same _)))))) rfl ?_
  refine alist_niltmp (cs2 := [.lit (.string ⟨#[]⟩), .lit (.string ⟨#[]⟩), .lit (.int .i64 2), .ro []]) 73 rfl (.cons .same (.cons .same (.cons .same (.cons .nil .nil)))) ?_
  first | refine aqs rfl (q_bs Try.underlying112 sz115 zr115 rfl (by first | ((repeat constructor); done) | exact .same _) rfl (by decide) (by repeat (first | exact BS.nil | (apply BS.cons; (· constructor); (· rfl); (· rfl); (· rfl); (· exact (by first | ((repeat constructor); done) | exact .same _)))))) rfl ?_ | (refine aes rfl (e_bs Try.underlying112 sz115 zr115 rfl (by first | ((repeat constructor); done) | exact .same _) rfl (by decide) (by repeat (first | exact BS.nil | (apply BS.cons; (· constructor); (· rfl); (· rfl); (· rfl); (· exact (by first | ((repeat constructor); done) | exact .same _)))))) rfl ?_; rintro _ _ ⟨u74, rfl, rfl⟩)
  first | refine aqs rfl (e_callN cb97 (e8 ▸ begin97_c [⟨⟨#[]⟩, ⟨#[]⟩, 1, []⟩, ⟨⟨#[]⟩, ⟨#[]⟩, 2, []⟩] l5 ⟨#[]⟩ ⟨#[]⟩ 4 _) rfl rfl) rfl ?_ | refine aqs rfl (e_callN cb97 (ACall.arg (e8 ▸ begin97_c [⟨⟨#[]⟩, ⟨#[]⟩, 1, []⟩, ⟨⟨#[]⟩, ⟨#[]⟩, 2, []⟩] l5 ⟨#[]⟩ ⟨#[]⟩ 4 _) (by repeat (first | exact ArgL.nil | (apply ArgL.cons; (· first | exact .same | exact .cro | exact .nil))))) rfl rfl) rfl ?_
  refine aqs rfl (q_mv (by constructor)) rfl ?_
  refine aqs rfl (q_ex rfl rfl (by constructor)) rfl ?_
  refine aqs rfl (q_ex rfl rfl (by constructor)) rfl ?_
  refine aqs rfl (q_ex rfl rfl (by constructor)) rfl ?_
  refine aqs rfl (q_as (by constructor)) rfl ?_
  refine aqs rfl (q_as (by constructor)) rfl ?_
  refine aqs rfl (q_as (by constructor)) rfl ?_
  refine alist_nil ?_
  show AWP _ _ _ _
  refine awp_seq ?_
  refine awp_region ?_
  refine aqs rfl (q_mv (by constructor)) rfl ?_
  refine aqs rfl (q_mv (by constructor)) rfl ?_
  first | refine ans rfl rfl ?_ | refine aqs rfl (q_mv (by constructor)) rfl ?_
  refine aqs rfl (castT (q_eql rfl rfl) (by rfl)) rfl ?_
  first | refine aqs rfl (q_pickT rfl (by constructor)) rfl ?_ | refine aqs rfl (q_pickF rfl (by constructor)) rfl ?_
  refine aqs rfl (q_mv (by constructor)) rfl ?_
  first | refine ans rfl rfl ?_ | refine aqs rfl (q_mv (by constructor)) rfl ?_
  first | refine ans rfl rfl ?_ | refine aqs rfl (q_not rfl) rfl ?_
  first | refine aqs rfl (q_pickT rfl (by constructor)) rfl ?_ | refine aqs rfl (q_pickF rfl (by constructor)) rfl ?_
  refine aqs rfl (q_mv (by constructor)) rfl ?_
  first | refine ans rfl rfl ?_ | refine aqs rfl (q_mv (by constructor)) rfl ?_
  refine aqs rfl (castT (q_eql rfl rfl) (by rfl)) rfl ?_
  first | refine aqs rfl (q_pickT rfl (by constructor)) rfl ?_ | refine aqs rfl (q_pickF rfl (by constructor)) rfl ?_
  refine aqs rfl (q_mv (by constructor)) rfl ?_
  first | refine ans rfl rfl ?_ | refine aqs rfl (q_mv (by constructor)) rfl ?_
  first | refine ans rfl rfl ?_ | refine aqs rfl (q_not rfl) rfl ?_
  first | refine aqs rfl (q_pickT rfl (by constructor)) rfl ?_ | refine aqs rfl (q_pickF rfl (by constructor)) rfl ?_
  refine aqs rfl (q_mv (by constructor)) rfl ?_
  first | refine ans rfl rfl ?_ | refine aqs rfl (q_mv (by constructor)) rfl ?_
  refine aqs rfl (castT (q_eql rfl rfl) (by rfl)) rfl ?_
  first | refine aqs rfl (q_pickT rfl (by constructor)) rfl ?_ | refine aqs rfl (q_pickF rfl (by constructor)) rfl ?_
  refine aqs rfl (q_mv (by constructor)) rfl ?_
  first | refine ans rfl rfl ?_ | refine aqs rfl (q_mv (by constructor)) rfl ?_
  refine aqs rfl (castT (q_eql rfl rfl) (by rfl)) rfl ?_
  first | refine aqs rfl (q_pickT rfl (by constructor)) rfl ?_ | refine aqs rfl (q_pickF rfl (by constructor)) rfl ?_
  refine aqs rfl (q_mv (by constructor)) rfl ?_
  first | refine ans rfl rfl ?_ | refine aqs rfl (q_mv (by constructor)) rfl ?_
  refine aqs rfl (castT (q_eql rfl rfl) (by rfl)) rfl ?_
  first | refine aqs rfl (q_pickT rfl (by constructor)) rfl ?_ | refine aqs rfl (q_pickF rfl (by constructor)) rfl ?_
  refine aqs rfl (q_mv (by constructor)) rfl ?_
  first | refine ans rfl rfl ?_ | refine aqs rfl (q_mv (by constructor)) rfl ?_
  first | refine ans rfl rfl ?_ | refine aqs rfl (q_bs Try.underlying25 sz3 zr3 rfl (by first | ((repeat constructor); done) | exact .same _) rfl (by decide) (by repeat (first | exact BS.nil | (apply BS.cons; (· constructor); (· rfl); (· rfl); (· rfl); (· exact (by first | ((repeat constructor); done) | exact .same _)))))) rfl ?_ | (refine aes rfl (e_bs Try.underlying25 sz3 zr3 rfl (by first | ((repeat constructor); done) | exact .same _) rfl (by decide) (by repeat (first | exact BS.nil | (apply BS.cons; (· constructor); (· rfl); (· rfl); (· rfl); (· exact (by first | ((repeat constructor); done) | exact .same _)))))) rfl ?_; rintro _ _ ⟨u110, rfl, rfl⟩)
  first | refine aqs rfl (castQ (r2 := .lit (.bool true)) (e_callN cb104 (ints104_c [3] [3] (by simp) (by simp) _) rfl rfl) (by rw [decide_eq_true rfl])) rfl ?_ | refine aqs rfl (castQ (r2 := .lit (.bool true)) (e_callN cb104 (ACall.arg (ints104_c [3] [3] (by simp) (by simp) _) (by repeat (first | exact ArgL.nil | (apply ArgL.cons; (· first | exact .same | exact .cro | exact .nil))))) rfl rfl) (by rw [decide_eq_true rfl])) rfl ?_
  first | refine aqs rfl (q_pickT rfl (by constructor)) rfl ?_ | refine aqs rfl (q_pickF rfl (by constructor)) rfl ?_
  refine aqs rfl (q_mv (by constructor)) rfl ?_
  first | refine ans rfl rfl ?_ | refine aqs rfl (q_mv (by constructor)) rfl ?_
  first | refine ans rfl rfl ?_ | refine aqs rfl (q_len Try.underlying112 .ro) rfl ?_ | refine aqs rfl (q_lenO Try.underlying112 rfl (by repeat (first | exact .here | assumption | (apply HAt.left; assumption) | apply HAt.there | apply HAt.right)) (by first | omega | (simp; done) | (simp; omega) | fail) (by first | exact Nat.sub_zero _ | rfl)) rfl ?_ | refine aqs rfl (q_len Try.underlying112 .nil) rfl ?_ | refine aqs rfl (q_len Try.underlying112 .cro) rfl ?_
  refine aqs rfl (castT (q_eql rfl rfl) (by rfl)) rfl ?_
  first | refine aqs rfl (q_pickT rfl (by constructor)) rfl ?_ | refine aqs rfl (q_pickF rfl (by constructor)) rfl ?_
  refine aqs rfl (q_mv (by constructor)) rfl ?_
  first | refine ans rfl rfl ?_ | refine aqs rfl (q_mv (by constructor)) rfl ?_
  refine aqs rfl (castT (q_eql rfl rfl) (by rfl)) rfl ?_
  first | refine aqs rfl (q_pickT rfl (by constructor)) rfl ?_ | refine aqs rfl (q_pickF rfl (by constructor)) rfl ?_
  refine aqs rfl (q_mv (by constructor)) rfl ?_
  first | refine ans rfl rfl ?_ | refine aqs rfl (q_mv (by constructor)) rfl ?_
  refine aqs rfl (castT (q_eql rfl rfl) (by rfl)) rfl ?_
  first | refine aqs rfl (q_pickT rfl (by constructor)) rfl ?_ | refine aqs rfl (q_pickF rfl (by constructor)) rfl ?_
  refine aqs rfl (q_mv (by constructor)) rfl ?_
  first | refine ans rfl rfl ?_ | refine aqs rfl (q_mv (by constructor)) rfl ?_
  refine aqs rfl (castT (q_eql rfl rfl) (by rfl)) rfl ?_
  first | refine aqs rfl (q_pickT rfl (by constructor)) rfl ?_ | refine aqs rfl (q_pickF rfl (by constructor)) rfl ?_
  refine aqs rfl (q_mv (by constructor)) rfl ?_
  first | refine ans rfl rfl ?_ | refine aqs rfl (q_mv (by constructor)) rfl ?_
  refine aqs rfl (castT (q_eql rfl rfl) (by rfl)) rfl ?_
  first | refine aqs rfl (q_pickT rfl (by constructor)) rfl ?_ | refine aqs rfl (q_pickF rfl (by constructor)) rfl ?_
  refine aqs rfl (q_mv (by constructor)) rfl ?_
  first | refine ans rfl rfl ?_ | refine aqs rfl (q_mv (by constructor)) rfl ?_
  first | refine ans rfl rfl ?_ | refine aqs rfl (e_callN cb93 (e9 ▸ right93_c [⟨⟨#[97]⟩, ⟨#[98]⟩, 1, [3]⟩] l4 _) rfl rfl) rfl ?_ | refine aqs rfl (e_callN cb93 (ACall.arg (e9 ▸ right93_c [⟨⟨#[97]⟩, ⟨#[98]⟩, 1, [3]⟩] l4 _) (by repeat (first | exact ArgL.nil | (apply ArgL.cons; (· first | exact .same | exact .cro | exact .nil))))) rfl rfl) rfl ?_
  first | refine aqs rfl (q_pickT rfl (by constructor)) rfl ?_ | refine aqs rfl (q_pickF rfl (by constructor)) rfl ?_
  refine aqs rfl (q_as (by constructor)) rfl ?_
  refine alist_nil ?_
  show AWP _ _ _ _
  refine awp_ret ?_
  repeat first | with_reducible refine then_ret ?_ | with_reducible refine blk_ret ?_
  apply retq (.inr rfl) (.cons (rok_t rfl) .nil)
  rotate_left
  ·exact ⟨rfl, rfl⟩
  repeat (first | exact List.Sublist.refl _ | exact List.nil_sublist _ | exact List.sublist_append_left _ _ | apply List.Sublist.cons)
end Go.Proofs.YtdlinfekifnmkaaAm
