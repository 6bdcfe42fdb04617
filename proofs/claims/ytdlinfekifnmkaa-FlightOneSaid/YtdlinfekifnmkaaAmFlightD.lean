/- Contracts of the layer 'flight', fourth part: the program's helpers. Conditions: the lengths. -/
import Derived.Test.YtdlinfekifnmkaaAmFlightC
set_option linter.unusedVariables false
set_option linter.unusedSimpArgs false
set_option maxRecDepth 20000
namespace Go.Proofs.YtdlinfekifnmkaaAm
open Go.Proofs
theorem idx_any {α : Type} (p : α → Bool) (l : List α) : decide ((0 : Int) ≤ idxOf p l) = l.any p := by
  unfold idxOf
  cases h : l.any p with
  | true => simp
  | false => simp
set_option maxHeartbeats 1000000 in
theorem index175_c (l : List Int) (hl : l.length ≤ 1000000) (v : Int) (H : Heap) : QCall Try.prog 175 [.ro (l.map cI), .lit (.int .i64 v)] H (.lit (.int .i64 (idxOf (fun w => decide (v = w)) l))) := by
  refine acall_intro (n := 19) (rvs := [.tmp 4]) Try.func175 rfl rfl rfl (Nat.le_of_ble_eq_true rfl) ?_
  refine awp_seq ?_
  refine awp_region ?_
  refine aqs rfl (q_as (by constructor)) rfl ?_
  refine alist_nil ?_
  show AWP _ _ _ _
  refine awp_seq ?_
  refine awp_seq ?_
  refine awp_region ?_
  refine aqs rfl (q_mv (by constructor)) rfl ?_
  first | refine aqs rfl (q_len Try.underlying25 .ro) rfl ?_ | refine aqs rfl (q_lenO Try.underlying25 rfl (by repeat (first | exact .here | assumption | (apply HAt.left; assumption) | apply HAt.there | apply HAt.right)) (by first | omega | (simp; done) | (simp; omega) | fail) (by first | exact Nat.sub_zero _ | rfl)) rfl ?_ | refine aqs rfl (q_len Try.underlying25 .nil) rfl ?_ | refine aqs rfl (q_len Try.underlying25 .cro) rfl ?_
  refine aqs rfl (q_mv (by constructor)) rfl ?_
  refine alist_nil ?_
  show AWP _ _ _ _
  refine awp_block ?_
  rw [List.length_map]
  refine awp_loop_inv (fun i : Nat => ⟨[(8, .lit (.int .i64 i)), (7, .lit (.int .i64 l.length)), (0, .ro (l.map cI)), (1, .lit (.int .i64 v))], 19, H⟩) (fun i => i ≤ l.length ∧ ∀ j s, j < i → l[j]? = some s → decide (v = s) = false) (fun i => l.length - i) 0 ?_ ?_ ?_
  ·exact ⟨Nat.zero_le _, fun j s h => absurd h (Nat.not_lt_zero _)⟩
  ·exact .mk' (by repeat (first | exact trivial | refine ⟨rfl, ?_⟩)) (by repeat (first | exact .refl _ | apply List.Sublist.cons_cons | apply List.Sublist.cons))
  ·intro i hi
   obtain ⟨hi, hall⟩ := hi
   refine awp_seq ?_
   refine awp_region ?_
   refine aqs rfl (q_lss rfl rfl) rfl ?_
   refine alist_nil ?_
   show AWP _ _ _ _
   refine awp_seq ?_
   refine awp_cond rfl (fun hc0 => ?_) (fun hc0 => ?_)
   ·simp only [decide_eq_true_eq] at hc0
    obtain ⟨s, hs, hsm⟩ := get_lt (l := l) (i := i) (by omega)
    have hs2 := get_map (f := cI) hs
    refine awp_skip ?_
    show AWP _ _ _ _
    refine awp_seq ?_
    refine awp_block ?_
    refine awp_seq ?_
    refine awp_region ?_
    refine aqs rfl (q_mv (by constructor)) rfl ?_
    refine aqs rfl (q_as (by constructor)) rfl ?_
    refine alist_nil ?_
    show AWP _ _ _ _
    refine awp_seq ?_
    refine awp_region ?_
    refine aqs rfl (q_mv (by constructor)) rfl ?_
    refine aqs rfl (q_mv (by constructor)) rfl ?_
    refine aqs rfl (q_mv (by constructor)) rfl ?_
    first | refine aqs rfl (q_iaN Try.underlying25 sz3 (.inl rfl) rfl (by omega) (by first | rfl | assumption | (simp [*]; done) | fail) (by first | rfl | assumption | (simp [*]; done) | fail) (by decide) (by first | ((repeat constructor); done) | exact .same _)) rfl ?_ | refine aqs rfl (q_iaS Try.underlying25 sz3 rfl (by repeat (first | exact .here | assumption | (apply HAt.left; assumption) | apply HAt.there | apply HAt.right)) rfl (by omega) (by omega) (by first | exact Nat.zero_add _ | rfl)) rfl ?_ | refine aqs rfl (q_iaN Try.underlying25 sz3 (.inr rfl) rfl (by omega) (by first | rfl | assumption | (simp [*]; done) | fail) (by first | rfl | assumption | (simp [*]; done) | fail) (by decide) (by first | ((repeat constructor); done) | exact .same _)) rfl ?_
    first | refine aqs rfl (q_ldpN ag3 rfl (by repeat (first | exact .here | assumption | (apply HAt.left; assumption) | apply HAt.there | apply HAt.right)) (by first | rfl | assumption | (simp [*]; done) | fail) (by first | rfl | assumption | (simp [*]; done) | fail) (by constructor)) rfl ?_ | refine aqs rfl (q_ld1N ag3 rfl (by constructor)) rfl ?_
    refine aqs rfl (q_eql rfl rfl) rfl ?_
    refine alist_nil ?_
    show AWP _ _ _ _
    refine awp_cond rfl (fun hc1 => ?_) (fun hc1 => ?_)
    ·have e := idx_hit (p := fun w => decide (v = w)) hall hs hc1
     rw [e]
     refine awp_seq ?_
     refine awp_region ?_
     refine aqs rfl (q_mv (by constructor)) rfl ?_
     refine aqs rfl (q_as (by constructor)) rfl ?_
     refine alist_nil ?_
     show AWP _ _ _ _
     refine awp_ret ?_
     repeat first | with_reducible refine then_ret ?_ | with_reducible refine blk_ret ?_
     apply retq (.inr rfl) (.cons (rok_t rfl) .nil)
     rotate_left
     ·exact ⟨rfl, rfl⟩
     repeat (first | exact List.Sublist.refl _ | exact List.nil_sublist _ | exact List.sublist_append_left _ _ | apply List.Sublist.cons)
    ·skip
     refine awp_skip ?_
     show AWP _ _ _ _
     refine awp_region ?_
     first | refine aqs rfl (q_add64 rfl rfl (by omega) (by omega)) rfl ?_ | refine aqs rfl (q_add rfl rfl) rfl ?_
     refine aqs rfl (q_mv (by constructor)) rfl ?_
     refine alist_nil ?_
     show ∃ y, _ ∧ _ ∧ _
     refine ⟨i + 1, ⟨by omega, fun j s' hj hs' => ?_⟩, by omega, .mk' ⟨by rfl, rfl, rfl, rfl, trivial⟩ (.refl _)⟩
     by_cases hji : j = i
     ·subst hji
      rw [hs] at hs'
      injection hs' with hs'
      subst hs'
      exact hc1
     ·exact hall j s' (by omega) hs'
   ·simp only [decide_eq_false_iff_not] at hc0
    have e := idx_miss (p := fun w => decide (v = w)) (l := l) fun j s hj hs => hall j s (by omega) hs
    rw [e]
    refine awp_exit ?_
    show AWP _ _ _ _
    refine awp_seq ?_
    refine awp_region ?_
    refine aqs rfl (q_as (by constructor)) rfl ?_
    refine alist_nil ?_
    show AWP _ _ _ _
    refine awp_ret ?_
    repeat first | with_reducible refine then_ret ?_ | with_reducible refine blk_ret ?_
    apply retq (.inr rfl) (.cons (rok_t rfl) .nil)
    rotate_left
    ·exact ⟨rfl, rfl⟩
    repeat (first | exact List.Sublist.refl _ | exact List.nil_sublist _ | exact List.sublist_append_left _ _ | apply List.Sublist.cons)
theorem any_mem (v : Int) (l : List Int) : l.any (fun w => decide (v = w)) = decide (v ∈ l) := by
  rw [Bool.eq_iff_iff]
  simp
set_option maxHeartbeats 1000000 in
theorem contains149_c (l : List Int) (hl : l.length ≤ 1000000) (v : Int) (H : Heap) : QCall Try.prog 149 [.ro (l.map cI), .lit (.int .i64 v)] H (.lit (.bool (decide (v ∈ l)))) := by
  refine acall_intro (n := 9) (rvs := [.tmp 4]) Try.func149 rfl rfl rfl (Nat.le_of_ble_eq_true rfl) ?_
  refine awp_seq ?_
  refine awp_region ?_
  refine aqs rfl (q_as (by constructor)) rfl ?_
  refine alist_nil ?_
  show AWP _ _ _ _
  refine awp_seq ?_
  refine awp_region ?_
  refine aqs rfl (q_mv (by constructor)) rfl ?_
  refine aqs rfl (q_mv (by constructor)) rfl ?_
  first | refine aqs rfl (e_callN cb175 (index175_c l hl v _) rfl rfl) rfl ?_ | refine aqs rfl (e_callN cb175 (ACall.arg (index175_c l hl v _) (by repeat (first | exact ArgL.nil | (apply ArgL.cons; (· first | exact .same | exact .cro | exact .nil))))) rfl rfl) rfl ?_
  refine aqs rfl (castQ (r2 := .lit (.bool (decide (v ∈ l)))) (q_geq rfl rfl) (by exact congrArg (fun b => AV.lit (.bool b)) ((idx_any _ l).trans (any_mem v l)))) rfl ?_
  refine aqs rfl (q_as (by constructor)) rfl ?_
  refine alist_nil ?_
  show AWP _ _ _ _
  refine awp_ret ?_
  repeat first | with_reducible refine then_ret ?_ | with_reducible refine blk_ret ?_
  apply retq (.inr rfl) (.cons (rok_t rfl) .nil)
  rotate_left
  ·exact ⟨rfl, rfl⟩
  repeat (first | exact List.Sublist.refl _ | exact List.nil_sublist _ | exact List.sublist_append_left _ _ | apply List.Sublist.cons)
set_option maxHeartbeats 1000000 in
theorem clo148_c (x : Fill) (hx : x.waiting.length ≤ 1000) (who : Int) (u : Nat) (H : Heap) (hq : HAt H u (.arr 3 1 [[.lit (.int .i64 who)]])) : QCall Try.prog 148 [.agg x.cells, .ptr u 0 0] H (.lit (.bool (decide (x.by_ = who) || decide (who ∈ x.waiting)))) := by
  refine acall_intro (n := 14) (rvs := [.tmp 3]) Try.func148 rfl rfl rfl (Nat.le_of_ble_eq_true rfl) ?_
  refine awp_seq ?_
  refine awp_region ?_
  (refine aes rfl (e_bx (by constructor) rfl rfl) rfl ?_; rintro _ _ ⟨u2, rfl, rfl⟩)
  refine aqs rfl (q_as (by constructor)) rfl ?_
  refine alist_nil ?_
  show AWP _ _ _ _
  refine awp_mid [(3, .lit (.bool (decide (x.by_ = who) || decide (who ∈ x.waiting))))] ?_ ?_
  ·skip
   refine awp_region ?_
   all_goals (first | refine aqs rfl (q_fapP fl115_2 (by decide) rfl rfl) rfl ?_ | refine aqs rfl (q_faP fl115_2 (by decide) rfl (by first | ((repeat constructor); done) | exact .same _)) rfl ?_)
   all_goals (first | refine aqs rfl (q_ldpN ag3 rfl (by repeat (first | exact .here | assumption | (apply HAt.left; assumption) | apply HAt.there | apply HAt.right)) (by first | rfl | assumption | (simp [*]; done) | fail) (by first | rfl | assumption | (simp [*]; done) | fail) (by constructor)) rfl ?_ | refine aqs rfl (q_ld1N ag3 rfl (by constructor)) rfl ?_)
   all_goals (first | refine aqs rfl (q_ldpN ag3 rfl (by repeat (first | exact .here | assumption | (apply HAt.left; assumption) | apply HAt.there | apply HAt.right)) (by first | rfl | assumption | (simp [*]; done) | fail) (by first | rfl | assumption | (simp [*]; done) | fail) (by constructor)) rfl ?_ | refine aqs rfl (q_ld1N ag3 rfl (by constructor)) rfl ?_)
   all_goals (refine aqs rfl (q_eql rfl rfl) rfl ?_)
   all_goals (refine aqs rfl (q_mv (by constructor)) rfl ?_)
   all_goals try (refine acase (fun hb4 => ?_) (fun hb4 => ?_))
   all_goals first | (exfalso; cases hb4; done) | skip
   all_goals (first | refine ans rfl rfl ?_ | refine aqs rfl (q_fapP fl115_3 (by decide) rfl rfl) rfl ?_ | refine aqs rfl (q_faP fl115_3 (by decide) rfl (by first | ((repeat constructor); done) | exact .same _)) rfl ?_)
   all_goals (first | refine ans rfl rfl ?_ | refine aqs rfl (q_ldpN ag25 rfl (by repeat (first | exact .here | assumption | (apply HAt.left; assumption) | apply HAt.there | apply HAt.right)) (by first | rfl | assumption | (simp [*]; done) | fail) (by first | rfl | assumption | (simp [*]; done) | fail) (by constructor)) rfl ?_ | refine aqs rfl (q_ld1N ag25 rfl (by constructor)) rfl ?_)
   all_goals (first | refine ans rfl rfl ?_ | refine aqs rfl (q_ldpN ag3 rfl (by repeat (first | exact .here | assumption | (apply HAt.left; assumption) | apply HAt.there | apply HAt.right)) (by first | rfl | assumption | (simp [*]; done) | fail) (by first | rfl | assumption | (simp [*]; done) | fail) (by constructor)) rfl ?_ | refine aqs rfl (q_ld1N ag3 rfl (by constructor)) rfl ?_)
   all_goals (first | refine ans rfl rfl ?_ | refine aqs rfl (e_callN cb149 (contains149_c x.waiting (by omega) who _) rfl rfl) rfl ?_ | refine aqs rfl (e_callN cb149 (ACall.arg (contains149_c x.waiting (by omega) who _) (by repeat (first | exact ArgL.nil | (apply ArgL.cons; (· first | exact .same | exact .cro | exact .nil))))) rfl rfl) rfl ?_)
   all_goals (first | refine aqs rfl (q_pickT rfl (by constructor)) rfl ?_ | refine aqs rfl (q_pickF rfl (by constructor)) rfl ?_)
   all_goals (refine aqs rfl (q_as (by constructor)) rfl ?_)
   all_goals (refine alist_nil ?_)
   all_goals (exact ⟨rfl, .mk' (by repeat (first | exact trivial | refine ⟨rfl, ?_⟩ | (refine ⟨?_, ?_⟩; (· first | (rw [hb4]; rfl) | fail)))) (by repeat (first | exact .refl _ | exact List.nil_sublist _ | exact List.sublist_append_left _ _ | apply List.Sublist.cons))⟩)
  refine awp_ret ?_
  repeat first | with_reducible refine then_ret ?_ | with_reducible refine blk_ret ?_
  apply retq (.inr rfl) (.cons (rok_t rfl) .nil)
  rotate_left
  ·exact ⟨rfl, rfl⟩
  repeat (first | exact List.Sublist.refl _ | exact List.nil_sublist _ | exact List.sublist_append_left _ _ | apply List.Sublist.cons)
set_option maxHeartbeats 1000000 in
theorem clo151_c (x : Fill) (l r : ByteArray) (u v : Nat) (H : Heap) (hq : HAt H u (.arr 9 1 [[.lit (.string l)]])) (hv : HAt H v (.arr 9 1 [[.lit (.string r)]])) : QCall Try.prog 151 [.agg x.cells, .ptr u 0 0, .ptr v 0 0] H (.lit (.bool (isTexts l r x))) := by
  have e : isTexts l r x = ((x.left.toList == l.toList) && (x.right.toList == r.toList)) := by rw [isTexts, ← str_eq, ← str_eq]
  rw [e]
  refine acall_intro (n := 15) (rvs := [.tmp 4]) Try.func151 rfl rfl rfl (Nat.le_of_ble_eq_true rfl) ?_
  refine awp_seq ?_
  refine awp_region ?_
  (refine aes rfl (e_bx (by constructor) rfl rfl) rfl ?_; rintro _ _ ⟨u3, rfl, rfl⟩)
  refine aqs rfl (q_as (by constructor)) rfl ?_
  refine alist_nil ?_
  show AWP _ _ _ _
  refine awp_mid [(4, .lit (.bool ((x.left.toList == l.toList) && (x.right.toList == r.toList))))] ?_ ?_
  ·skip
   refine awp_region ?_
   all_goals (first | refine aqs rfl (q_fapP fl115_0 (by decide) rfl rfl) rfl ?_ | refine aqs rfl (q_faP fl115_0 (by decide) rfl (by first | ((repeat constructor); done) | exact .same _)) rfl ?_)
   all_goals (first | refine aqs rfl (q_ldpN ag9 rfl (by repeat (first | exact .here | assumption | (apply HAt.left; assumption) | apply HAt.there | apply HAt.right)) (by first | rfl | assumption | (simp [*]; done) | fail) (by first | rfl | assumption | (simp [*]; done) | fail) (by constructor)) rfl ?_ | refine aqs rfl (q_ld1N ag9 rfl (by constructor)) rfl ?_)
   all_goals (first | refine aqs rfl (q_ldpN ag9 rfl (by repeat (first | exact .here | assumption | (apply HAt.left; assumption) | apply HAt.there | apply HAt.right)) (by first | rfl | assumption | (simp [*]; done) | fail) (by first | rfl | assumption | (simp [*]; done) | fail) (by constructor)) rfl ?_ | refine aqs rfl (q_ld1N ag9 rfl (by constructor)) rfl ?_)
   all_goals (refine aqs rfl (q_seql rfl rfl) rfl ?_)
   all_goals (refine aqs rfl (q_mv (by constructor)) rfl ?_)
   all_goals try (refine acase (fun hb4 => ?_) (fun hb4 => ?_))
   all_goals first | (exfalso; cases hb4; done) | skip
   all_goals (first | refine ans rfl rfl ?_ | refine aqs rfl (q_fapP fl115_1 (by decide) rfl rfl) rfl ?_ | refine aqs rfl (q_faP fl115_1 (by decide) rfl (by first | ((repeat constructor); done) | exact .same _)) rfl ?_)
   all_goals (first | refine ans rfl rfl ?_ | refine aqs rfl (q_ldpN ag9 rfl (by repeat (first | exact .here | assumption | (apply HAt.left; assumption) | apply HAt.there | apply HAt.right)) (by first | rfl | assumption | (simp [*]; done) | fail) (by first | rfl | assumption | (simp [*]; done) | fail) (by constructor)) rfl ?_ | refine aqs rfl (q_ld1N ag9 rfl (by constructor)) rfl ?_)
   all_goals (first | refine ans rfl rfl ?_ | refine aqs rfl (q_ldpN ag9 rfl (by repeat (first | exact .here | assumption | (apply HAt.left; assumption) | apply HAt.there | apply HAt.right)) (by first | rfl | assumption | (simp [*]; done) | fail) (by first | rfl | assumption | (simp [*]; done) | fail) (by constructor)) rfl ?_ | refine aqs rfl (q_ld1N ag9 rfl (by constructor)) rfl ?_)
   all_goals (first | refine ans rfl rfl ?_ | refine aqs rfl (q_seql rfl rfl) rfl ?_)
   all_goals (first | refine aqs rfl (q_pickT rfl (by constructor)) rfl ?_ | refine aqs rfl (q_pickF rfl (by constructor)) rfl ?_)
   all_goals (refine aqs rfl (q_as (by constructor)) rfl ?_)
   all_goals (refine alist_nil ?_)
   all_goals (exact ⟨rfl, .mk' (by repeat (first | exact trivial | refine ⟨rfl, ?_⟩ | (refine ⟨?_, ?_⟩; (· first | (rw [hb4]; rfl) | fail)))) (by repeat (first | exact .refl _ | exact List.nil_sublist _ | exact List.sublist_append_left _ _ | apply List.Sublist.cons))⟩)
  refine awp_ret ?_
  repeat first | with_reducible refine then_ret ?_ | with_reducible refine blk_ret ?_
  apply retq (.inr rfl) (.cons (rok_t rfl) .nil)
  rotate_left
  ·exact ⟨rfl, rfl⟩
  repeat (first | exact List.Sublist.refl _ | exact List.nil_sublist _ | exact List.sublist_append_left _ _ | apply List.Sublist.cons)
set_option maxHeartbeats 1000000 in
theorem clo153_c (x : Fill) (who : Int) (u : Nat) (H : Heap) (hq : HAt H u (.arr 3 1 [[.lit (.int .i64 who)]])) : QCall Try.prog 153 [.agg x.cells, .ptr u 0 0] H (.lit (.bool (isBy who x))) := by
  refine acall_intro (n := 8) (rvs := [.tmp 3]) Try.func153 rfl rfl rfl (Nat.le_of_ble_eq_true rfl) ?_
  refine awp_seq ?_
  refine awp_region ?_
  (refine aes rfl (e_bx (by constructor) rfl rfl) rfl ?_; rintro _ _ ⟨u2, rfl, rfl⟩)
  refine aqs rfl (q_as (by constructor)) rfl ?_
  refine alist_nil ?_
  show AWP _ _ _ _
  refine awp_seq ?_
  refine awp_region ?_
  first | refine aqs rfl (q_fapP fl115_2 (by decide) rfl rfl) rfl ?_ | refine aqs rfl (q_faP fl115_2 (by decide) rfl (by first | ((repeat constructor); done) | exact .same _)) rfl ?_
  first | refine aqs rfl (q_ldpN ag3 rfl (by repeat (first | exact .here | assumption | (apply HAt.left; assumption) | apply HAt.there | apply HAt.right)) (by first | rfl | assumption | (simp [*]; done) | fail) (by first | rfl | assumption | (simp [*]; done) | fail) (by constructor)) rfl ?_ | refine aqs rfl (q_ld1N ag3 rfl (by constructor)) rfl ?_
  first | refine aqs rfl (q_ldpN ag3 rfl (by repeat (first | exact .here | assumption | (apply HAt.left; assumption) | apply HAt.there | apply HAt.right)) (by first | rfl | assumption | (simp [*]; done) | fail) (by first | rfl | assumption | (simp [*]; done) | fail) (by constructor)) rfl ?_ | refine aqs rfl (q_ld1N ag3 rfl (by constructor)) rfl ?_
  refine aqs rfl (q_eql rfl rfl) rfl ?_
  refine aqs rfl (q_as (by constructor)) rfl ?_
  refine alist_nil ?_
  show AWP _ _ _ _
  refine awp_ret ?_
  repeat first | with_reducible refine then_ret ?_ | with_reducible refine blk_ret ?_
  apply retq (.inr rfl) (.cons (rok_t rfl) .nil)
  rotate_left
  ·exact ⟨rfl, rfl⟩
  repeat (first | exact List.Sublist.refl _ | exact List.nil_sublist _ | exact List.sublist_append_left _ _ | apply List.Sublist.cons)
set_option maxHeartbeats 1000000 in
theorem clo155_c (x : Fill) (hx : x.waiting.length ≤ 1000) (who : Int) (u : Nat) (H : Heap) (hq : HAt H u (.arr 3 1 [[.lit (.int .i64 who)]])) : QCall Try.prog 155 [.agg x.cells, .ptr u 0 0] H (.lit (.bool (isWaiting who x))) := by
  refine acall_intro (n := 8) (rvs := [.tmp 3]) Try.func155 rfl rfl rfl (Nat.le_of_ble_eq_true rfl) ?_
  refine awp_seq ?_
  refine awp_region ?_
  (refine aes rfl (e_bx (by constructor) rfl rfl) rfl ?_; rintro _ _ ⟨u2, rfl, rfl⟩)
  refine aqs rfl (q_as (by constructor)) rfl ?_
  refine alist_nil ?_
  show AWP _ _ _ _
  refine awp_seq ?_
  refine awp_region ?_
  first | refine aqs rfl (q_fapP fl115_3 (by decide) rfl rfl) rfl ?_ | refine aqs rfl (q_faP fl115_3 (by decide) rfl (by first | ((repeat constructor); done) | exact .same _)) rfl ?_
  first | refine aqs rfl (q_ldpN ag25 rfl (by repeat (first | exact .here | assumption | (apply HAt.left; assumption) | apply HAt.there | apply HAt.right)) (by first | rfl | assumption | (simp [*]; done) | fail) (by first | rfl | assumption | (simp [*]; done) | fail) (by constructor)) rfl ?_ | refine aqs rfl (q_ld1N ag25 rfl (by constructor)) rfl ?_
  first | refine aqs rfl (q_ldpN ag3 rfl (by repeat (first | exact .here | assumption | (apply HAt.left; assumption) | apply HAt.there | apply HAt.right)) (by first | rfl | assumption | (simp [*]; done) | fail) (by first | rfl | assumption | (simp [*]; done) | fail) (by constructor)) rfl ?_ | refine aqs rfl (q_ld1N ag3 rfl (by constructor)) rfl ?_
  first | refine aqs rfl (e_callN cb149 (contains149_c x.waiting (by omega) who _) rfl rfl) rfl ?_ | refine aqs rfl (e_callN cb149 (ACall.arg (contains149_c x.waiting (by omega) who _) (by repeat (first | exact ArgL.nil | (apply ArgL.cons; (· first | exact .same | exact .cro | exact .nil))))) rfl rfl) rfl ?_
  refine aqs rfl (q_as (by constructor)) rfl ?_
  refine alist_nil ?_
  show AWP _ _ _ _
  refine awp_ret ?_
  repeat first | with_reducible refine then_ret ?_ | with_reducible refine blk_ret ?_
  apply retq (.inr rfl) (.cons (rok_t rfl) .nil)
  rotate_left
  ·exact ⟨rfl, rfl⟩
  repeat (first | exact List.Sublist.refl _ | exact List.nil_sublist _ | exact List.sublist_append_left _ _ | apply List.Sublist.cons)
set_option maxHeartbeats 1000000 in
theorem clo157_c (w who : Int) (u : Nat) (H : Heap) (hq : HAt H u (.arr 3 1 [[.lit (.int .i64 who)]])) : QCall Try.prog 157 [.lit (.int .i64 w), .ptr u 0 0] H (.lit (.bool (decide (w = who)))) := by
  refine acall_intro (n := 7) (rvs := [.tmp 3]) Try.func157 rfl rfl rfl (Nat.le_of_ble_eq_true rfl) ?_
  refine awp_seq ?_
  refine awp_region ?_
  refine aqs rfl (q_as (by constructor)) rfl ?_
  refine alist_nil ?_
  show AWP _ _ _ _
  refine awp_seq ?_
  refine awp_region ?_
  refine aqs rfl (q_mv (by constructor)) rfl ?_
  first | refine aqs rfl (q_ldpN ag3 rfl (by repeat (first | exact .here | assumption | (apply HAt.left; assumption) | apply HAt.there | apply HAt.right)) (by first | rfl | assumption | (simp [*]; done) | fail) (by first | rfl | assumption | (simp [*]; done) | fail) (by constructor)) rfl ?_ | refine aqs rfl (q_ld1N ag3 rfl (by constructor)) rfl ?_
  refine aqs rfl (q_eql rfl rfl) rfl ?_
  refine aqs rfl (q_as (by constructor)) rfl ?_
  refine alist_nil ?_
  show AWP _ _ _ _
  refine awp_ret ?_
  repeat first | with_reducible refine then_ret ?_ | with_reducible refine blk_ret ?_
  apply retq (.inr rfl) (.cons (rok_t rfl) .nil)
  rotate_left
  ·exact ⟨rfl, rfl⟩
  repeat (first | exact List.Sublist.refl _ | exact List.nil_sublist _ | exact List.sublist_append_left _ _ | apply List.Sublist.cons)
set_option maxHeartbeats 1000000 in
theorem at147_c (f : List Fill) (hf : f.length ≤ 1000) (p : Fill → Bool) {k : FuncId} (hk : Callable Try.prog k) (caps : List AV) (H : Heap) (hp : ∀ s ∈ f, QCall Try.prog k (.agg s.cells :: caps) H (.lit (.bool (p s)))) :
    QCall Try.prog 147 [.ro (f.map Fill.cells), .clo (.func k) [] caps] H (.lit (.int .i64 (idxOf p f))) := by
  refine acall_intro (n := 8) (rvs := [.tmp 4]) Try.func147 rfl rfl rfl (Nat.le_of_ble_eq_true rfl) ?_
  refine awp_seq ?_
  refine awp_region ?_
  refine aqs rfl (q_as (by constructor)) rfl ?_
  refine alist_nil ?_
  show AWP _ _ _ _
  refine awp_seq ?_
  refine awp_region ?_
  refine aqs rfl (q_mv (by constructor)) rfl ?_
  refine aqs rfl (q_mv (by constructor)) rfl ?_
  first | refine aqs rfl (e_callN cb174 (ixro174_c f (by omega) p hk caps _ hp) rfl rfl) rfl ?_ | refine aqs rfl (e_callN cb174 (ACall.arg (ixro174_c f (by omega) p hk caps _ hp) (by repeat (first | exact ArgL.nil | (apply ArgL.cons; (· first | exact .same | exact .cro | exact .nil))))) rfl rfl) rfl ?_
  refine aqs rfl (q_as (by constructor)) rfl ?_
  refine alist_nil ?_
  show AWP _ _ _ _
  refine awp_ret ?_
  repeat first | with_reducible refine then_ret ?_ | with_reducible refine blk_ret ?_
  apply retq (.inr rfl) (.cons (rok_t rfl) .nil)
  rotate_left
  ·exact ⟨rfl, rfl⟩
  repeat (first | exact List.Sublist.refl _ | exact List.nil_sublist _ | exact List.sublist_append_left _ _ | apply List.Sublist.cons)

/-! ### Fills in memory of their own -/
def ownC (x : Fill) (v : Nat) : List AV := [.lit (.string x.left), .lit (.string x.right), .lit (.int .i64 x.by_), .sl v 0 x.waiting.length]
theorem pubE_set {u : Nat} {es : List (List AV)} {a b : List AV} (h : PubL u es a b) : ∀ (rows : List (List AV)) (j : Nat), PubE u es (rows.set j a) (rows.set j b)
  | [], _ => .nil
  | r :: rows, 0 => .cons h .same
  | r :: rows, j + 1 => .cons .same (pubE_set h rows j)
theorem set_self {α : Type} {l : List α} {j : Nat} {x : α} (h : l[j]? = some x) : l.set j x = l := by
  refine List.ext_getElem? fun k => ?_
  rw [List.getElem?_set]
  split
  · rename_i e
    subst e
    split
    · exact h.symm
    · rename_i hl; rw [List.getElem?_eq_none (by omega)]
  · rfl
structure OwnI (f : List Fill) (i j : Nat) (R : Heap) (rows : List (List AV)) : Prop where
  le : j ≤ f.length
  small : j ≤ i → R = [] ∧ rows = f.map Fill.cells
  great : i < j → ∃ v, R = [(v, .arr 3 1 ((fth f i).waiting.map cI))] ∧ rows = (f.map Fill.cells).set i (ownC (fth f i) v)
theorem own_row {f : List Fill} {i j : Nat} {R : Heap} {rows : List (List AV)} (h : OwnI f i j R rows) (hj : j < f.length) : rows.length = f.length ∧ rows[j]? = some (fth f j).cells := by
  have hg := get_map (f := Fill.cells) (fth_get hj)
  by_cases hji : j ≤ i
  · obtain ⟨_, e⟩ := h.small hji
    rw [e]
    exact ⟨List.length_map .., hg⟩
  · obtain ⟨v, _, e⟩ := h.great (by omega)
    rw [e]
    exact ⟨by rw [List.length_set, List.length_map], by rw [List.getElem?_set_ne (by omega)]; exact hg⟩
theorem own_step {f : List Fill} {i j : Nat} {R : Heap} {rows : List (List AV)} (h : OwnI f i j R rows) (hj : j < f.length) (v u : Nat) : ∃ rows' R', OwnI f i (j + 1) R' rows' ∧
    ∀ (P : Program) (c : Code) (Q : Exit → St → Prop) (n k : Nat) (m : Int), AWP P c Q ⟨[(9, .lit (.int .i64 m)), (8, .lit (.int .i64 k)), (3, .sl u 0 k)], n, (u, .arr 115 4 rows') :: R'⟩ →
      AWP P c Q ⟨[(9, .lit (.int .i64 m)), (8, .lit (.int .i64 k)), (3, .sl u 0 k)], n, (v, .arr 3 1 ((fth f j).waiting.map cI)) :: (u, .arr 115 4 (rows.set j (ownC (fth f j) v))) :: R⟩ := by
  obtain ⟨hl, hrow⟩ := own_row h hj
  by_cases hji : j = i
  · obtain ⟨e1, e2⟩ := h.small (by omega)
    refine ⟨(f.map Fill.cells).set i (ownC (fth f i) v), [(v, .arr 3 1 ((fth f i).waiting.map cI))], ⟨hj, fun h => by omega, fun _ => ⟨v, rfl, rfl⟩⟩, fun P c Q n k m hk => ?_⟩
    subst hji
    rw [e1, e2]
    exact awp_perm (List.Perm.swap ..) hk
  · refine ⟨rows, R, ⟨hj, fun hle => h.small (by omega), fun hlt => h.great (by omega)⟩, fun P c Q n k m hk => ?_⟩
    refine awp_pub (u := v) (H2 := (u, .arr 115 4 rows) :: R) .here PubT.same (.drop (.cons (.arr ?_) .same)) hk
    have := pubE_set (u := v) (es := (fth f j).waiting.map cI) (a := ownC (fth f j) v) (b := (fth f j).cells) (.cons .same (.cons .same (.cons .same (.cons (pub_all (by simp)) .nil)))) rows j
    rwa [set_self hrow] at this
set_option maxHeartbeats 4000000 in
theorem owned150_c (f : List Fill) (hf : FLen f) (i : Nat) : ACall Try.prog 150 [.ro (f.map Fill.cells)] [] (fun r H' => ∃ u R rows, r = .sl u 0 f.length ∧ H' = (u, .arr 115 4 rows) :: R ∧ OwnI f i f.length R rows) := by
  have hfn := hf.n
  refine acall_intro (n := 24) (rvs := [.tmp 2]) Try.func150 rfl rfl rfl (Nat.le_of_ble_eq_true rfl) ?_
  refine awp_seq ?_
  refine awp_region ?_
  refine aqs rfl (q_as (by constructor)) rfl ?_
  refine alist_nil ?_
  show AWP _ _ _ _
  refine awp_seq ?_
  refine awp_region ?_
  refine aqs rfl (q_mv (by constructor)) rfl ?_
  first | (refine aes rfl (e_callN cb176 (clone176_c f (by omega) _) rfl rfl) rfl ?_; rintro _ _ ⟨u, rfl, rfl⟩) | (refine aes rfl (e_callN cb176 (ACall.arg (clone176_c f (by omega) _) (by repeat (first | exact ArgL.nil | (apply ArgL.cons; (· first | exact .same | exact .cro | exact .nil))))) rfl rfl) rfl ?_; rintro _ _ ⟨u, rfl, rfl⟩)
  refine aqs rfl (q_as (by constructor)) rfl ?_
  refine alist_nil ?_
  show AWP _ _ _ _
  refine awp_seq ?_
  refine awp_seq ?_
  refine awp_region ?_
  refine aqs rfl (q_mv (by constructor)) rfl ?_
  first | refine aqs rfl (q_len Try.underlying112 .ro) rfl ?_ | refine aqs rfl (q_lenO Try.underlying112 rfl (by repeat (first | exact .here | assumption | (apply HAt.left; assumption) | apply HAt.there | apply HAt.right)) (by first | omega | (simp; done) | (simp; omega) | fail) (by first | exact Nat.sub_zero _ | rfl)) rfl ?_ | refine aqs rfl (q_len Try.underlying112 .nil) rfl ?_ | refine aqs rfl (q_len Try.underlying112 .cro) rfl ?_
  refine aqs rfl (q_mv (by constructor)) rfl ?_
  refine alist_nil ?_
  show AWP _ _ _ _
  refine awp_block ?_
  refine awp_loop_inv (fun x : Nat × Heap × List (List AV) => ⟨[(9, .lit (.int .i64 x.1)), (8, .lit (.int .i64 f.length)), (3, .sl u 0 f.length)], 24, (u, .arr 115 4 x.2.2) :: x.2.1⟩) (fun x => OwnI f i x.1 x.2.1 x.2.2) (fun x => f.length - x.1) (0, [], f.map Fill.cells) ?_ ?_ ?_
  ·exact ⟨Nat.zero_le _, fun _ => ⟨rfl, rfl⟩, fun h => absurd h (Nat.not_lt_zero _)⟩
  ·exact .mk' (by repeat (first | exact trivial | refine ⟨rfl, ?_⟩)) (by repeat (first | exact .refl _ | apply List.Sublist.cons_cons | apply List.Sublist.cons))
  ·rintro ⟨j, R, rows⟩ hI
   simp only at hI ⊢
   refine awp_seq ?_
   refine awp_region ?_
   refine aqs rfl (q_lss rfl rfl) rfl ?_
   refine alist_nil ?_
   show AWP _ _ _ _
   refine awp_seq ?_
   refine awp_cond rfl (fun hc0 => ?_) (fun hc0 => ?_)
   ·simp only [decide_eq_true_eq] at hc0
    have hj : j < f.length := by omega
    obtain ⟨hrl, hrow⟩ := own_row hI hj
    have hjw := hf.w _ (fth_mem hj)
    refine awp_skip ?_
    show AWP _ _ _ _
    refine awp_seq ?_
    refine awp_block ?_
    refine awp_seq ?_
    refine awp_region ?_
    refine aqs rfl (q_mv (by constructor)) rfl ?_
    refine aqs rfl (q_as (by constructor)) rfl ?_
    refine alist_nil ?_
    show AWP _ _ _ _
    refine awp_region ?_
    refine aqs rfl (q_mv (by constructor)) rfl ?_
    refine aqs rfl (q_mv (by constructor)) rfl ?_
    refine aqs rfl (q_mv (by constructor)) rfl ?_
    refine aqs rfl (q_mv (by constructor)) rfl ?_
    first | refine aqs rfl (q_iaN Try.underlying112 sz115 (.inl rfl) rfl (by omega) (by first | rfl | assumption | (simp [*]; done) | fail) (by first | rfl | assumption | (simp [*]; done) | fail) (by decide) (by first | ((repeat constructor); done) | exact .same _)) rfl ?_ | refine aqs rfl (q_iaS Try.underlying112 sz115 rfl (by repeat (first | exact .here | assumption | (apply HAt.left; assumption) | apply HAt.there | apply HAt.right)) rfl (by omega) (by omega) (by first | exact Nat.zero_add _ | rfl)) rfl ?_ | refine aqs rfl (q_iaN Try.underlying112 sz115 (.inr rfl) rfl (by omega) (by first | rfl | assumption | (simp [*]; done) | fail) (by first | rfl | assumption | (simp [*]; done) | fail) (by decide) (by first | ((repeat constructor); done) | exact .same _)) rfl ?_
    first | refine aqs rfl (q_fapP fl115_3 (by decide) rfl rfl) rfl ?_ | refine aqs rfl (q_faP fl115_3 (by decide) rfl (by first | ((repeat constructor); done) | exact .same _)) rfl ?_
    first | refine aqs rfl (q_ldpN ag25 rfl (by repeat (first | exact .here | assumption | (apply HAt.left; assumption) | apply HAt.there | apply HAt.right)) (by first | rfl | assumption | (simp [*]; done) | fail) (by first | rfl | assumption | (simp [*]; done) | fail) (by constructor)) rfl ?_ | refine aqs rfl (q_ld1N ag25 rfl (by constructor)) rfl ?_
    first | (refine aes rfl (e_callN cb177 (clone177_c (fth f j).waiting (by omega) _) rfl rfl) rfl ?_; rintro _ _ ⟨v, rfl, rfl⟩) | (refine aes rfl (e_callN cb177 (ACall.arg (clone177_c (fth f j).waiting (by omega) _) (by repeat (first | exact ArgL.nil | (apply ArgL.cons; (· first | exact .same | exact .cro | exact .nil))))) rfl rfl) rfl ?_; rintro _ _ ⟨v, rfl, rfl⟩)
    first | refine aqs rfl (q_iaN Try.underlying112 sz115 (.inl rfl) rfl (by omega) (by first | rfl | assumption | (simp [*]; done) | fail) (by first | rfl | assumption | (simp [*]; done) | fail) (by decide) (by first | ((repeat constructor); done) | exact .same _)) rfl ?_ | refine aqs rfl (q_iaS Try.underlying112 sz115 rfl (by repeat (first | exact .here | assumption | (apply HAt.left; assumption) | apply HAt.there | apply HAt.right)) rfl (by omega) (by omega) (by first | exact Nat.zero_add _ | rfl)) rfl ?_ | refine aqs rfl (q_iaN Try.underlying112 sz115 (.inr rfl) rfl (by omega) (by first | rfl | assumption | (simp [*]; done) | fail) (by first | rfl | assumption | (simp [*]; done) | fail) (by decide) (by first | ((repeat constructor); done) | exact .same _)) rfl ?_
    first | refine aqs rfl (q_fapP fl115_3 (by decide) rfl rfl) rfl ?_ | refine aqs rfl (q_faP fl115_3 (by decide) rfl (by first | ((repeat constructor); done) | exact .same _)) rfl ?_
    first | (refine aen rfl (e_stW sz25 rfl (by repeat (first | exact .here | assumption | (apply HAt.left; assumption) | apply HAt.there | apply HAt.right)) (by constructor) (by first | rfl | assumption | (simp [*]; done) | fail) rfl (by repeat (first | exact .here | apply HSet.there))) ?_; rintro _ _ ⟨rfl, rfl⟩) | (refine aen rfl (e_stP sz25 rfl (by repeat (first | exact .here | assumption | (apply HAt.left; assumption) | apply HAt.there | apply HAt.right)) (by first | rfl | assumption | (simp [*]; done) | fail) (by constructor) (by first | rfl | assumption | (simp [*]; done) | fail) rfl (by first | decide | omega) (by first | ((repeat constructor); done) | exact .same _) (by first | exact .one | exact .set) (by repeat (first | exact .here | apply HSet.there))) ?_; rintro _ _ ⟨rfl, rfl⟩)
    refine alist_nil ?_
    show AWP _ _ _ _
    obtain ⟨rows', R', hI', hk⟩ := own_step hI hj v u
    refine awp_weak ⟨[(9, .lit (.int .i64 j)), (8, .lit (.int .i64 f.length)), (3, .sl u 0 f.length)], 24, _⟩ (.mk' ⟨by rfl, rfl, rfl, trivial⟩ (List.Sublist.refl _)) (hk _ _ _ _ _ _ ?_)
    show AWP _ _ _ _
    refine awp_region ?_
    first | refine aqs rfl (q_add64 rfl rfl (by omega) (by omega)) rfl ?_ | refine aqs rfl (q_add rfl rfl) rfl ?_
    refine aqs rfl (q_mv (by constructor)) rfl ?_
    refine alist_nil ?_
    show ∃ y, _ ∧ _ ∧ _
    exact ⟨(j + 1, R', rows'), hI', by show f.length - (j + 1) < f.length - j; omega, .mk' ⟨by rfl, rfl, rfl, trivial⟩ (by repeat (first | exact List.Sublist.refl _ | exact List.nil_sublist _ | exact List.sublist_append_left _ _ | (apply List.Sublist.cons_cons) | (apply List.Sublist.cons)))⟩
   ·simp only [decide_eq_false_iff_not] at hc0
    have hjf : j = f.length := by have := hI.le; omega
    subst hjf
    refine awp_exit ?_
    show AWP _ _ _ _
    refine awp_seq ?_
    refine awp_region ?_
    refine aqs rfl (q_mv (by constructor)) rfl ?_
    refine aqs rfl (q_as (by constructor)) rfl ?_
    refine alist_nil ?_
    show AWP _ _ _ _
    refine awp_ret ?_
    repeat first | with_reducible refine then_ret ?_ | with_reducible refine blk_ret ?_
    apply retq (.inr rfl) (.cons (rok_t rfl) .nil)
    rotate_left
    ·exact ⟨u, R, rows, rfl, rfl, hI⟩
    repeat (first | exact List.Sublist.refl _ | exact List.nil_sublist _ | exact List.sublist_append_left _ _ | apply List.Sublist.cons)
end Go.Proofs.YtdlinfekifnmkaaAm
