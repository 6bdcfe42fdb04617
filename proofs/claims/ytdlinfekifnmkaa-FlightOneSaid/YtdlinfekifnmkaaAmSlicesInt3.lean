/- slices.Clone, IndexFunc, DeleteFunc at Int3. Conditions: the lengths. -/
import Derived.Test.YtdlinfekifnmkaaAmNil
set_option linter.unusedVariables false
set_option linter.unusedSimpArgs false
set_option maxRecDepth 20000
namespace Go.Proofs.YtdlinfekifnmkaaAm
open Go.Proofs
/-! ### slices.Clone, IndexFunc, DeleteFunc at Int3 -/
theorem lenInt3 (l : List Int) : ∀ c ∈ l.map cI, c.length = 1 := by
  intro c hc
  obtain ⟨s, _, rfl⟩ := List.mem_map.1 hc
  rfl
theorem oneInt3 (l : List Int) : ∀ c ∈ l.map cI, c.all cell1 = true := by
  intro c hc
  obtain ⟨s, _, rfl⟩ := List.mem_map.1 hc
  rfl
set_option maxHeartbeats 1000000 in
theorem clone177_c (l : List Int) (hl : l.length ≤ 1000000) (H : Heap) :
    ACall Try.prog 177 [.ro (l.map cI)] H (fun r H' => ∃ u, r = .sl u 0 l.length ∧ H' = (u, .arr 3 1 (l.map cI)) :: H) := by
  have hlen := lenInt3 l
  have hone := oneInt3 l
  refine acall_intro (n := 8) (rvs := [.tmp 2]) Try.func177 rfl rfl rfl (Nat.le_of_ble_eq_true rfl) ?_
  refine awp_seq ?_
  refine awp_region ?_
  refine aqs rfl (q_as (by constructor)) rfl ?_
  refine alist_nil ?_
  show AWP _ _ _ _
  refine awp_seq ?_
  refine awp_seq ?_
  refine awp_region ?_
  refine aqs rfl (q_mv (by constructor)) rfl ?_
  (refine aes rfl (e_eqnil Try.underlying25 rfl rfl (by first | assumption | (intro c hc; simp at hc; subst hc; rfl) | (simp; done) | fail) (by decide)) rfl ?_; rintro _ _ ⟨bnil, rfl, hbnil, rfl⟩)
  refine alist_nil ?_
  show AWP _ _ _ _
  refine awp_cond rfl (fun hc0 => ?_) (fun hc0 => ?_)
  ·have hnil := hbnil hc0
   have hl0 : l = [] := by simpa using hnil
   subst hl0
   refine awp_seq ?_
   refine awp_region ?_
   refine aqs rfl (q_as (by constructor)) rfl ?_
   refine alist_nil ?_
   show AWP _ _ _ _
   refine awp_adopt 2 3 1 rfl fun u => ?_
   show AWP _ _ _ _
   refine awp_ret ?_
   repeat first | with_reducible refine then_ret ?_ | with_reducible refine blk_ret ?_
   apply retq (.inr rfl) (.cons (rok_t rfl) .nil)
   rotate_left
   ·exact ⟨_, rfl, rfl⟩
   repeat (first | exact List.Sublist.refl _ | exact List.nil_sublist _ | exact List.sublist_append_left _ _ | apply List.Sublist.cons)
  ·try simp only [decide_eq_true_eq, decide_eq_false_iff_not, Bool.not_eq_true', Bool.not_eq_false', Bool.not_eq_eq_eq_not, Bool.not_true, Bool.not_false, beq_iff_eq, beq_eq_false_iff_ne, Int.not_lt, Int.not_le] at hc0
   refine awp_skip ?_
   show AWP _ _ _ _
   refine awp_seq ?_
   refine awp_region ?_
   (refine aes rfl (e_bs Try.underlying25 sz3 zr3 rfl (by first | ((repeat constructor); done) | exact .same _) rfl (by decide) (by repeat (first | exact BS.nil | (apply BS.cons; (· constructor); (· rfl); (· rfl); (· rfl); (· exact (by first | ((repeat constructor); done) | exact .same _)))))) rfl ?_; rintro _ _ ⟨u5, rfl, rfl⟩)
   refine aqs rfl (q_mv (by constructor)) rfl ?_
   first | (refine aes rfl (e_apO Try.underlying25 sz3 by3 zr3 rfl (by repeat (first | exact .here | assumption | (apply HAt.left; assumption) | apply HAt.there | apply HAt.right)) (by first | omega | (simp; done) | (simp; omega) | fail) (by first | exact .ro | exact .cro | exact .nil | exact SV.slA (by repeat (first | exact .here | assumption | (apply HAt.left; assumption) | apply HAt.there | apply HAt.right)) (by first | rfl | (simp; done) | (simp; omega) | (simp [*]; done) | fail)) (by first | assumption | (intro c hc; simp at hc; subst hc; rfl) | (simp; done) | fail) (by first | assumption | (intro c hc; simp at hc; subst hc; rfl) | (simp; done) | fail) (by first | assumption | (intro c hc; simp at hc; subst hc; rfl) | (simp; done) | fail) (by simp; omega) (by decide) (by decide) rfl (by simp; rfl) (by first | rfl | (simp; done) | fail) (fun v => (by repeat (first | exact .here | apply HSet.there)))) rfl ?_; rintro _ _ ⟨u7, rfl, rfl⟩) | (refine aes rfl (e_apN Try.underlying25 sz3 by3 zr3 rfl (by first | exact .ro | exact .cro | exact .nil | exact SV.slA (by repeat (first | exact .here | assumption | (apply HAt.left; assumption) | apply HAt.there | apply HAt.right)) (by first | rfl | (simp; done) | (simp; omega) | (simp [*]; done) | fail)) (by first | assumption | (intro c hc; simp at hc; subst hc; rfl) | (simp; done) | fail) (by first | assumption | (intro c hc; simp at hc; subst hc; rfl) | (simp; done) | fail) (by simp; omega) (by decide) (by decide) rfl rfl) rfl ?_; rintro _ _ ⟨u7, rfl, rfl⟩)
   refine aqs rfl (q_as (by constructor)) rfl ?_
   refine alist_nil ?_
   show AWP _ _ _ _
   refine awp_ret ?_
   repeat first | with_reducible refine then_ret ?_ | with_reducible refine blk_ret ?_
   apply retq (.inr rfl) (.cons (rok_t rfl) .nil)
   rotate_left
   ·exact ⟨_, rfl, rfl⟩
   repeat (first | exact List.Sublist.refl _ | exact List.nil_sublist _ | exact List.sublist_append_left _ _ | apply List.Sublist.cons)

set_option maxHeartbeats 1000000 in
theorem ixro178_c (l : List Int) (hl : l.length ≤ 1000000) (p : Int → Bool) {k : FuncId} (hk : Callable Try.prog k) (caps : List AV) (H : Heap) (hp : ∀ s ∈ l, QCall Try.prog k (.lit (.int .i64 s) :: caps) H (.lit (.bool (p s)))) :
    QCall Try.prog 178 [.ro (l.map cI), .clo (.func k) [] caps] H (.lit (.int .i64 (idxOf p l))) := by
  refine acall_intro (n := 19) (rvs := [.tmp 4]) Try.func178 rfl rfl rfl (Nat.le_of_ble_eq_true rfl) ?_
  refine awp_seq ?_
  refine awp_region ?_
  refine aqs rfl (q_as (by constructor)) rfl ?_
  refine alist_nil ?_
  show AWP _ _ _ _
  refine awp_seq ?_
  refine awp_seq ?_
  refine awp_region ?_
  refine aqs rfl (q_mv (by constructor)) rfl ?_
  first | refine aqs rfl (q_len Try.underlying25 .ro) rfl ?_ | refine aqs rfl (q_lenO Try.underlying25 rfl (by repeat (first | exact .here | assumption | (apply HAt.left; assumption) | apply HAt.there | apply HAt.right)) (by first | omega | (simp; done) | (simp; omega) | fail) (by first | exact Nat.sub_zero _ | rfl)) rfl ?_ | refine aqs rfl (q_len Try.underlying25 .nil) rfl ?_ | refine aqs rfl (q_len Try.underlying25 .cro) rfl ?_
  refine aqs rfl (q_mv (by constructor)) rfl ?_
  refine alist_nil ?_
  show AWP _ _ _ _
  refine awp_block ?_
  rw [List.length_map]
  refine awp_loop_inv (fun i : Nat => ⟨[(8, .lit (.int .i64 i)), (7, .lit (.int .i64 l.length)), (0, .ro (l.map cI)), (1, .clo (.func k) [] caps)], 19, H⟩) (fun i => i ≤ l.length ∧ ∀ j s, j < i → l[j]? = some s → p s = false) (fun i => l.length - i) 0 ?_ ?_ ?_
  ·exact ⟨Nat.zero_le _, fun j s h => absurd h (Nat.not_lt_zero _)⟩
  ·exact .mk' (by repeat (first | exact trivial | refine ⟨rfl, ?_⟩)) (by repeat (first | exact .refl _ | apply List.Sublist.cons_cons | apply List.Sublist.cons))
  ·intro i hi
   obtain ⟨hi, hall⟩ := hi
   refine awp_seq ?_
   refine awp_region ?_
   refine aqs rfl (q_lss rfl rfl) rfl ?_
   refine alist_nil ?_
   show AWP _ _ _ _
   refine awp_seq ?_
   refine awp_cond rfl (fun hc0 => ?_) (fun hc0 => ?_)
   ·simp only [decide_eq_true_eq] at hc0
    obtain ⟨s, hs, hsm⟩ := get_lt (l := l) (i := i) (by omega)
    have hs2 := get_map (f := cI) hs
    refine awp_skip ?_
    show AWP _ _ _ _
    refine awp_seq ?_
    refine awp_block ?_
    refine awp_seq ?_
    refine awp_region ?_
    refine aqs rfl (q_mv (by constructor)) rfl ?_
    refine aqs rfl (q_as (by constructor)) rfl ?_
    refine alist_nil ?_
    show AWP _ _ _ _
    refine awp_seq ?_
    refine awp_region ?_
    refine aqs rfl (q_mv (by constructor)) rfl ?_
    refine aqs rfl (q_mv (by constructor)) rfl ?_
    refine aqs rfl (q_mv (by constructor)) rfl ?_
    first | refine aqs rfl (q_iaN Try.underlying25 sz3 (.inl rfl) rfl (by omega) (by first | rfl | assumption | (simp [*]; done) | fail) (by first | rfl | assumption | (simp [*]; done) | fail) (by decide) (by first | ((repeat constructor); done) | exact .same _)) rfl ?_ | refine aqs rfl (q_iaS Try.underlying25 sz3 rfl (by repeat (first | exact .here | assumption | (apply HAt.left; assumption) | apply HAt.there | apply HAt.right)) rfl (by omega) (by omega) (by first | exact Nat.zero_add _ | rfl)) rfl ?_ | refine aqs rfl (q_iaN Try.underlying25 sz3 (.inr rfl) rfl (by omega) (by first | rfl | assumption | (simp [*]; done) | fail) (by first | rfl | assumption | (simp [*]; done) | fail) (by decide) (by first | ((repeat constructor); done) | exact .same _)) rfl ?_
    first | refine aqs rfl (q_ldpN ag3 rfl (by repeat (first | exact .here | assumption | (apply HAt.left; assumption) | apply HAt.there | apply HAt.right)) (by first | rfl | assumption | (simp [*]; done) | fail) (by first | rfl | assumption | (simp [*]; done) | fail) (by constructor)) rfl ?_ | refine aqs rfl (q_ld1N ag3 rfl (by constructor)) rfl ?_
    refine aqs rfl (e_callC hk (hp s hsm) rfl rfl) rfl ?_
    refine alist_nil ?_
    show AWP _ _ _ _
    refine awp_cond rfl (fun hc1 => ?_) (fun hc1 => ?_)
    ·have e := idx_hit hall hs hc1
     rw [e]
     refine awp_seq ?_
     refine awp_region ?_
     refine aqs rfl (q_mv (by constructor)) rfl ?_
     refine aqs rfl (q_as (by constructor)) rfl ?_
     refine alist_nil ?_
     show AWP _ _ _ _
     refine awp_ret ?_
     repeat first | with_reducible refine then_ret ?_ | with_reducible refine blk_ret ?_
     apply retq (.inr rfl) (.cons (rok_t rfl) .nil)
     rotate_left
     ·exact ⟨rfl, rfl⟩
     repeat (first | exact List.Sublist.refl _ | exact List.nil_sublist _ | exact List.sublist_append_left _ _ | apply List.Sublist.cons)
    ·skip
     refine awp_skip ?_
     show AWP _ _ _ _
     refine awp_region ?_
     first | refine aqs rfl (q_add64 rfl rfl (by omega) (by omega)) rfl ?_ | refine aqs rfl (q_add rfl rfl) rfl ?_
     refine aqs rfl (q_mv (by constructor)) rfl ?_
     refine alist_nil ?_
     show ∃ y, _ ∧ _ ∧ _
     refine ⟨i + 1, ⟨by omega, fun j s' hj hs' => ?_⟩, by omega, .mk' ⟨by rfl, rfl, rfl, rfl, trivial⟩ (.refl _)⟩
     by_cases hji : j = i
     ·subst hji
      rw [hs] at hs'
      injection hs' with hs'
      subst hs'
      exact hc1
     ·exact hall j s' (by omega) hs'
   ·simp only [decide_eq_false_iff_not] at hc0
    have e := idx_miss (p := p) (l := l) fun j s hj hs => hall j s (by omega) hs
    rw [e]
    refine awp_exit ?_
    show AWP _ _ _ _
    refine awp_seq ?_
    refine awp_region ?_
    refine aqs rfl (q_as (by constructor)) rfl ?_
    refine alist_nil ?_
    show AWP _ _ _ _
    refine awp_ret ?_
    repeat first | with_reducible refine then_ret ?_ | with_reducible refine blk_ret ?_
    apply retq (.inr rfl) (.cons (rok_t rfl) .nil)
    rotate_left
    ·exact ⟨rfl, rfl⟩
    repeat (first | exact List.Sublist.refl _ | exact List.nil_sublist _ | exact List.sublist_append_left _ _ | apply List.Sublist.cons)

set_option maxHeartbeats 1000000 in
theorem ixow178_c (l : List Int) (hl : l.length ≤ 1000000) (p : Int → Bool) {k : FuncId} (hk : Callable Try.prog k) (caps : List AV) (u : Nat) (Hr : Heap) (hp : ∀ s ∈ l, QCall Try.prog k (.lit (.int .i64 s) :: caps) Hr (.lit (.bool (p s)))) :
    QCall Try.prog 178 [.sl u 0 l.length, .clo (.func k) [] caps] ((u, .arr 3 1 (l.map cI)) :: Hr) (.lit (.int .i64 (idxOf p l))) := by
  refine acall_intro (n := 19) (rvs := [.tmp 4]) Try.func178 rfl rfl rfl (Nat.le_of_ble_eq_true rfl) ?_
  refine awp_seq ?_
  refine awp_region ?_
  refine aqs rfl (q_as (by constructor)) rfl ?_
  refine alist_nil ?_
  show AWP _ _ _ _
  refine awp_seq ?_
  refine awp_seq ?_
  refine awp_region ?_
  refine aqs rfl (q_mv (by constructor)) rfl ?_
  first | refine aqs rfl (q_len Try.underlying25 .ro) rfl ?_ | refine aqs rfl (q_lenO Try.underlying25 rfl (by repeat (first | exact .here | assumption | (apply HAt.left; assumption) | apply HAt.there | apply HAt.right)) (by first | omega | (simp; done) | (simp; omega) | fail) (by first | exact Nat.sub_zero _ | rfl)) rfl ?_ | refine aqs rfl (q_len Try.underlying25 .nil) rfl ?_ | refine aqs rfl (q_len Try.underlying25 .cro) rfl ?_
  refine aqs rfl (q_mv (by constructor)) rfl ?_
  refine alist_nil ?_
  show AWP _ _ _ _
  refine awp_block ?_
  refine awp_loop_inv (fun i : Nat => ⟨[(8, .lit (.int .i64 i)), (7, .lit (.int .i64 l.length)), (0, .sl u 0 l.length), (1, .clo (.func k) [] caps)], 19, (u, .arr 3 1 (l.map cI)) :: Hr⟩) (fun i => i ≤ l.length ∧ ∀ j s, j < i → l[j]? = some s → p s = false) (fun i => l.length - i) 0 ?_ ?_ ?_
  ·exact ⟨Nat.zero_le _, fun j s h => absurd h (Nat.not_lt_zero _)⟩
  ·exact .mk' (by repeat (first | exact trivial | refine ⟨rfl, ?_⟩)) (by repeat (first | exact .refl _ | apply List.Sublist.cons_cons | apply List.Sublist.cons))
  ·intro i hi
   obtain ⟨hi, hall⟩ := hi
   refine awp_seq ?_
   refine awp_region ?_
   refine aqs rfl (q_lss rfl rfl) rfl ?_
   refine alist_nil ?_
   show AWP _ _ _ _
   refine awp_seq ?_
   refine awp_cond rfl (fun hc0 => ?_) (fun hc0 => ?_)
   ·simp only [decide_eq_true_eq] at hc0
    obtain ⟨s, hs, hsm⟩ := get_lt (l := l) (i := i) (by omega)
    have hs2 := get_map (f := cI) hs
    refine awp_skip ?_
    show AWP _ _ _ _
    refine awp_seq ?_
    refine awp_block ?_
    refine awp_seq ?_
    refine awp_region ?_
    refine aqs rfl (q_mv (by constructor)) rfl ?_
    refine aqs rfl (q_as (by constructor)) rfl ?_
    refine alist_nil ?_
    show AWP _ _ _ _
    refine awp_seq ?_
    refine awp_region ?_
    refine aqs rfl (q_mv (by constructor)) rfl ?_
    refine aqs rfl (q_mv (by constructor)) rfl ?_
    refine aqs rfl (q_mv (by constructor)) rfl ?_
    first | refine aqs rfl (q_iaN Try.underlying25 sz3 (.inl rfl) rfl (by omega) (by first | rfl | assumption | (simp [*]; done) | fail) (by first | rfl | assumption | (simp [*]; done) | fail) (by decide) (by first | ((repeat constructor); done) | exact .same _)) rfl ?_ | refine aqs rfl (q_iaS Try.underlying25 sz3 rfl (by repeat (first | exact .here | assumption | (apply HAt.left; assumption) | apply HAt.there | apply HAt.right)) rfl (by omega) (by omega) (by first | exact Nat.zero_add _ | rfl)) rfl ?_ | refine aqs rfl (q_iaN Try.underlying25 sz3 (.inr rfl) rfl (by omega) (by first | rfl | assumption | (simp [*]; done) | fail) (by first | rfl | assumption | (simp [*]; done) | fail) (by decide) (by first | ((repeat constructor); done) | exact .same _)) rfl ?_
    first | refine aqs rfl (q_ldpN ag3 rfl (by repeat (first | exact .here | assumption | (apply HAt.left; assumption) | apply HAt.there | apply HAt.right)) (by first | rfl | assumption | (simp [*]; done) | fail) (by first | rfl | assumption | (simp [*]; done) | fail) (by constructor)) rfl ?_ | refine aqs rfl (q_ld1N ag3 rfl (by constructor)) rfl ?_
    refine aqs rfl (e_callC hk (QCall.front [_] (hp s hsm)) rfl rfl) rfl ?_
    refine alist_nil ?_
    show AWP _ _ _ _
    refine awp_cond rfl (fun hc1 => ?_) (fun hc1 => ?_)
    ·have e := idx_hit hall hs hc1
     rw [e]
     refine awp_seq ?_
     refine awp_region ?_
     refine aqs rfl (q_mv (by constructor)) rfl ?_
     refine aqs rfl (q_as (by constructor)) rfl ?_
     refine alist_nil ?_
     show AWP _ _ _ _
     refine awp_ret ?_
     repeat first | with_reducible refine then_ret ?_ | with_reducible refine blk_ret ?_
     apply retq (.inr rfl) (.cons (rok_t rfl) .nil)
     rotate_left
     ·exact ⟨rfl, rfl⟩
     repeat (first | exact List.Sublist.refl _ | exact List.nil_sublist _ | exact List.sublist_append_left _ _ | apply List.Sublist.cons)
    ·skip
     refine awp_skip ?_
     show AWP _ _ _ _
     refine awp_region ?_
     first | refine aqs rfl (q_add64 rfl rfl (by omega) (by omega)) rfl ?_ | refine aqs rfl (q_add rfl rfl) rfl ?_
     refine aqs rfl (q_mv (by constructor)) rfl ?_
     refine alist_nil ?_
     show ∃ y, _ ∧ _ ∧ _
     refine ⟨i + 1, ⟨by omega, fun j s' hj hs' => ?_⟩, by omega, .mk' ⟨by rfl, rfl, rfl, rfl, trivial⟩ (.refl _)⟩
     by_cases hji : j = i
     ·subst hji
      rw [hs] at hs'
      injection hs' with hs'
      subst hs'
      exact hc1
     ·exact hall j s' (by omega) hs'
   ·simp only [decide_eq_false_iff_not] at hc0
    have e := idx_miss (p := p) (l := l) fun j s hj hs => hall j s (by omega) hs
    rw [e]
    refine awp_exit ?_
    show AWP _ _ _ _
    refine awp_seq ?_
    refine awp_region ?_
    refine aqs rfl (q_as (by constructor)) rfl ?_
    refine alist_nil ?_
    show AWP _ _ _ _
    refine awp_ret ?_
    repeat first | with_reducible refine then_ret ?_ | with_reducible refine blk_ret ?_
    apply retq (.inr rfl) (.cons (rok_t rfl) .nil)
    rotate_left
    ·exact ⟨rfl, rfl⟩
    repeat (first | exact List.Sublist.refl _ | exact List.nil_sublist _ | exact List.sublist_append_left _ _ | apply List.Sublist.cons)
set_option maxHeartbeats 2000000 in
theorem del156_c (l : List Int) (hl : l.length ≤ 1000000) (p : Int → Bool) {k : FuncId} (hk : Callable Try.prog k) (caps : List AV) (u : Nat) (Hr : Heap) (hp : ∀ s ∈ l, QCall Try.prog k (.lit (.int .i64 s) :: caps) Hr (.lit (.bool (p s)))) :
    ACall Try.prog 156 [.sl u 0 l.length, .clo (.func k) [] caps] ((u, .arr 3 1 (l.map cI)) :: Hr) (fun r H' => r = .sl u 0 (keep p l).length ∧ H' = (u, .arr 3 1 ((keep p l).map cI)) :: Hr) := by
  rcases idx_cases p l with ⟨hi, hkeep⟩ | ⟨i0, s0, hi, hs0, hps0, hkeep⟩
  · rw [hkeep]
    refine acall_intro (n := 42) (rvs := [.tmp 4]) Try.func156 rfl rfl rfl (Nat.le_of_ble_eq_true rfl) ?_
    refine awp_seq ?_
    refine awp_region ?_
    refine aqs rfl (q_as (by constructor)) rfl ?_
    refine alist_nil ?_
    show AWP _ _ _ _
    refine awp_seq ?_
    refine awp_region ?_
    refine aqs rfl (q_mv (by constructor)) rfl ?_
    refine aqs rfl (q_mv (by constructor)) rfl ?_
    first | refine aqs rfl (e_callN cb178 (ixow178_c l hl p hk caps u Hr hp) rfl rfl) rfl ?_ | refine aqs rfl (e_callN cb178 (ACall.arg (ixow178_c l hl p hk caps u Hr hp) (by repeat (first | exact ArgL.nil | (apply ArgL.cons; (· first | exact .same | exact .cro | exact .nil))))) rfl rfl) rfl ?_
    refine aqs rfl (q_as (by constructor)) rfl ?_
    rw [hi]
    refine alist_nil ?_
    show AWP _ _ _ _
    refine awp_seq ?_
    refine awp_seq ?_
    refine awp_region ?_
    refine aqs rfl (q_mv (by constructor)) rfl ?_
    refine aqs rfl (q_eql rfl rfl) rfl ?_
    refine alist_nil ?_
    show AWP _ _ _ _
    refine awp_cond rfl (fun hc0 => ?_) (fun hc0 => ?_)
    ·try simp only [decide_eq_true_eq, decide_eq_false_iff_not, Bool.not_eq_true', Bool.not_eq_false', Bool.not_eq_eq_eq_not, Bool.not_true, Bool.not_false, beq_iff_eq, beq_eq_false_iff_ne, Int.not_lt, Int.not_le] at hc0
     refine awp_seq ?_
     refine awp_region ?_
     refine aqs rfl (q_mv (by constructor)) rfl ?_
     refine aqs rfl (q_as (by constructor)) rfl ?_
     refine alist_nil ?_
     show AWP _ _ _ _
     refine awp_ret ?_
     repeat first | with_reducible refine then_ret ?_ | with_reducible refine blk_ret ?_
     apply retq (.inr rfl) (.cons (rok_t rfl) .nil)
     rotate_left
     ·exact ⟨rfl, rfl⟩
     repeat (first | exact List.Sublist.refl _ | exact List.nil_sublist _ | exact List.sublist_append_left _ _ | apply List.Sublist.cons)
    ·exfalso; first | (simp at hc0; done) | (simp at hc0; omega) | contradiction
  · have hlt0 : i0 < l.length := (List.getElem?_eq_some_iff.1 hs0).1
    have hk0 : keep p (l.take (i0 + 1)) = l.take i0 := by rw [keep_next hs0, if_pos hps0, hkeep]
    have hlen0 : (keep p (l.take (i0 + 1))).length = i0 := by rw [hk0, List.length_take]; omega
    have hl0 : l = keep p (l.take (i0 + 1)) ++ [s0] ++ l.drop (i0 + 1) := by
      rw [hk0, List.append_assoc, List.singleton_append, ← drop_at hs0, List.take_append_drop]
    refine acall_intro (n := 42) (rvs := [.tmp 4]) Try.func156 rfl rfl rfl (Nat.le_of_ble_eq_true rfl) ?_
    refine awp_seq ?_
    refine awp_region ?_
    refine aqs rfl (q_as (by constructor)) rfl ?_
    refine alist_nil ?_
    show AWP _ _ _ _
    refine awp_seq ?_
    refine awp_region ?_
    refine aqs rfl (q_mv (by constructor)) rfl ?_
    refine aqs rfl (q_mv (by constructor)) rfl ?_
    first | refine aqs rfl (e_callN cb178 (ixow178_c l hl p hk caps u Hr hp) rfl rfl) rfl ?_ | refine aqs rfl (e_callN cb178 (ACall.arg (ixow178_c l hl p hk caps u Hr hp) (by repeat (first | exact ArgL.nil | (apply ArgL.cons; (· first | exact .same | exact .cro | exact .nil))))) rfl rfl) rfl ?_
    refine aqs rfl (q_as (by constructor)) rfl ?_
    rw [hi]
    refine alist_nil ?_
    show AWP _ _ _ _
    refine awp_seq ?_
    refine awp_seq ?_
    refine awp_region ?_
    refine aqs rfl (q_mv (by constructor)) rfl ?_
    refine aqs rfl (q_eql rfl rfl) rfl ?_
    refine alist_nil ?_
    show AWP _ _ _ _
    refine awp_cond rfl (fun hc0 => ?_) (fun hc0 => ?_)
    ·exfalso; first | (simp at hc0; done) | (simp at hc0; omega) | contradiction
    ·skip
     refine awp_skip ?_
     show AWP _ _ _ _
     refine awp_seq ?_
     refine awp_seq ?_
     refine awp_region ?_
     refine aqs rfl (q_mv (by constructor)) rfl ?_
     first | refine aqs rfl (q_add64 rfl rfl (by omega) (by omega)) rfl ?_ | refine aqs rfl (q_add rfl rfl) rfl ?_
     refine aqs rfl (q_as (by constructor)) rfl ?_
     refine alist_nil ?_
     show AWP _ _ _ _
     refine awp_block ?_
     rw [show l.map cI = (keep p (l.take (i0 + 1)) ++ [s0] ++ l.drop (i0 + 1)).map cI from congrArg _ hl0]
     refine awp_loop_inv (fun x : Nat × List Int => ⟨[(6, .lit (.int .i64 x.1)), (5, .lit (.int .i64 (keep p (l.take x.1)).length)), (0, .sl u 0 l.length), (1, .clo (.func k) [] caps)], 42, (u, .arr 3 1 ((keep p (l.take x.1) ++ x.2 ++ l.drop x.1).map cI)) :: Hr⟩) (fun x => x.1 ≤ l.length ∧ x.2 ≠ [] ∧ (keep p (l.take x.1)).length + x.2.length = x.1) (fun x => l.length - x.1) (i0 + 1, [s0]) ?_ ?_ ?_
     ·exact ⟨hlt0, by simp, by rw [hlen0]; simp⟩
     ·exact .mk' (by refine ⟨by rfl, ?_, rfl, rfl, trivial⟩; show AV.lit (.int .i64 _) = AV.lit (.int .i64 _); rw [hlen0]) (by repeat (first | exact .refl _ | apply List.Sublist.cons_cons | apply List.Sublist.cons))
     ·rintro ⟨j, B⟩ ⟨hj, hB, hAB⟩
      obtain ⟨b, B, rfl⟩ : ∃ b B', B = b :: B' := by cases B with | nil => exact absurd rfl hB | cons b B => exact ⟨b, B, rfl⟩
      simp only at hj hAB ⊢
      simp only [List.length_cons] at hAB
      refine awp_seq ?_
      refine awp_seq ?_
      refine awp_region ?_
      refine aqs rfl (q_mv (by constructor)) rfl ?_
      refine aqs rfl (q_mv (by constructor)) rfl ?_
      first | refine aqs rfl (q_len Try.underlying25 .ro) rfl ?_ | refine aqs rfl (q_lenO Try.underlying25 rfl (by repeat (first | exact .here | assumption | (apply HAt.left; assumption) | apply HAt.there | apply HAt.right)) (by first | omega | (simp; done) | (simp; omega) | fail) (by first | exact Nat.sub_zero _ | rfl)) rfl ?_ | refine aqs rfl (q_len Try.underlying25 .nil) rfl ?_ | refine aqs rfl (q_len Try.underlying25 .cro) rfl ?_
      refine aqs rfl (q_lss rfl rfl) rfl ?_
      refine alist_nil ?_
      show AWP _ _ _ _
      refine awp_cond rfl (fun hc1 => ?_) (fun hc1 => ?_)
      ·simp only [decide_eq_true_eq] at hc1
       obtain ⟨s, hs, hsm⟩ := get_lt (l := l) (i := j) (by omega)
       have hs2 := get_map (f := cI) (mid_at (A := keep p (l.take j)) (B := b :: B) (D := l.drop j) (j := j) (by simp; omega) (show (l.drop j)[0]? = some s by simpa using hs))
       have hb2 := get_map (f := cI) (show (keep p (l.take j) ++ (b :: B) ++ l.drop j)[(keep p (l.take j)).length]? = some b by simp)
       have hw1 : ((cI b).length = 1) := rfl
       refine awp_skip ?_
       show AWP _ _ _ _
       refine awp_seq ?_
       refine awp_block ?_
       refine awp_seq ?_
       refine awp_region ?_
       refine aqs rfl (q_mv (by constructor)) rfl ?_
       refine aqs rfl (q_mv (by constructor)) rfl ?_
       first | refine aqs rfl (q_iaN Try.underlying25 sz3 (.inl rfl) rfl (by omega) (by first | rfl | assumption | (simp [*]; done) | fail) (by first | rfl | assumption | (simp [*]; done) | fail) (by decide) (by first | ((repeat constructor); done) | exact .same _)) rfl ?_ | refine aqs rfl (q_iaS Try.underlying25 sz3 rfl (by repeat (first | exact .here | assumption | (apply HAt.left; assumption) | apply HAt.there | apply HAt.right)) rfl (by omega) (by omega) (by first | exact Nat.zero_add _ | rfl)) rfl ?_ | refine aqs rfl (q_iaN Try.underlying25 sz3 (.inr rfl) rfl (by omega) (by first | rfl | assumption | (simp [*]; done) | fail) (by first | rfl | assumption | (simp [*]; done) | fail) (by decide) (by first | ((repeat constructor); done) | exact .same _)) rfl ?_
       first | refine aqs rfl (q_ldpN ag3 rfl (by repeat (first | exact .here | assumption | (apply HAt.left; assumption) | apply HAt.there | apply HAt.right)) (by first | rfl | assumption | (simp [*]; done) | fail) (by first | rfl | assumption | (simp [*]; done) | fail) (by constructor)) rfl ?_ | refine aqs rfl (q_ld1N ag3 rfl (by constructor)) rfl ?_
       refine aqs rfl (q_as (by constructor)) rfl ?_
       refine alist_nil ?_
       show AWP _ _ _ _
       refine awp_seq ?_
       refine awp_region ?_
       refine aqs rfl (q_mv (by constructor)) rfl ?_
       refine aqs rfl (q_mv (by constructor)) rfl ?_
       refine aqs rfl (e_callC hk (QCall.front [_] (hp s hsm)) rfl rfl) rfl ?_
       refine aqs rfl (q_not rfl) rfl ?_
       refine alist_nil ?_
       show AWP _ _ _ _
       refine awp_cond rfl (fun hc2 => ?_) (fun hc2 => ?_)
       ·have hps : p s = false := by simpa using hc2
        have hnx := keep_next (p := p) hs
        rw [hps] at hnx
        have hst : ((keep p (l.take j) ++ (b :: B) ++ l.drop j).map cI).set (keep p (l.take j)).length (cI s) = (keep p (l.take (j + 1)) ++ (B ++ [s]) ++ l.drop (j + 1)).map cI := by
         rw [← List.map_set, set_mid, hnx, drop_at hs]; simp
        have hAB' : (keep p (l.take (j + 1))).length + (B ++ [s]).length = j + 1 := by rw [hnx]; simp; omega
        have hln : ((keep p (l.take (j + 1))).length : Int) = (keep p (l.take j)).length + 1 := by rw [hnx]; simp
        refine awp_seq ?_
        refine awp_region ?_
        refine aqs rfl (q_mv (by constructor)) rfl ?_
        refine aqs rfl (q_mv (by constructor)) rfl ?_
        refine aqs rfl (q_mv (by constructor)) rfl ?_
        first | refine aqs rfl (q_iaN Try.underlying25 sz3 (.inl rfl) rfl (by omega) (by first | rfl | assumption | (simp [*]; done) | fail) (by first | rfl | assumption | (simp [*]; done) | fail) (by decide) (by first | ((repeat constructor); done) | exact .same _)) rfl ?_ | refine aqs rfl (q_iaS Try.underlying25 sz3 rfl (by repeat (first | exact .here | assumption | (apply HAt.left; assumption) | apply HAt.there | apply HAt.right)) rfl (by omega) (by omega) (by first | exact Nat.zero_add _ | rfl)) rfl ?_ | refine aqs rfl (q_iaN Try.underlying25 sz3 (.inr rfl) rfl (by omega) (by first | rfl | assumption | (simp [*]; done) | fail) (by first | rfl | assumption | (simp [*]; done) | fail) (by decide) (by first | ((repeat constructor); done) | exact .same _)) rfl ?_
        first | (refine aen rfl (e_stW sz3 rfl (by repeat (first | exact .here | assumption | (apply HAt.left; assumption) | apply HAt.there | apply HAt.right)) (by constructor) (by first | rfl | assumption | (simp [*]; done) | fail) rfl (by repeat (first | exact .here | apply HSet.there))) ?_; rintro _ _ ⟨rfl, rfl⟩) | (refine aen rfl (e_stP sz3 rfl (by repeat (first | exact .here | assumption | (apply HAt.left; assumption) | apply HAt.there | apply HAt.right)) (by first | rfl | assumption | (simp [*]; done) | fail) (by constructor) (by first | rfl | assumption | (simp [*]; done) | fail) rfl (by first | decide | omega) (by first | ((repeat constructor); done) | exact .same _) (by first | exact .one | exact .set) (by repeat (first | exact .here | apply HSet.there))) ?_; rintro _ _ ⟨rfl, rfl⟩)
        refine alist_nil ?_
        show AWP _ _ _ _
        refine awp_region ?_
        refine aqs rfl (q_mv (by constructor)) rfl ?_
        first | refine aqs rfl (q_add64 rfl rfl (by omega) (by omega)) rfl ?_ | refine aqs rfl (q_add rfl rfl) rfl ?_
        refine aqs rfl (q_as (by constructor)) rfl ?_
        refine alist_nil ?_
        show AWP _ _ _ _
        refine awp_region ?_
        refine aqs rfl (q_mv (by constructor)) rfl ?_
        first | refine aqs rfl (q_add64 rfl rfl (by omega) (by omega)) rfl ?_ | refine aqs rfl (q_add rfl rfl) rfl ?_
        refine aqs rfl (q_as (by constructor)) rfl ?_
        refine alist_nil ?_
        show ∃ y, _ ∧ _ ∧ _
        first
         | exact ⟨(j + 1, B ++ [s]), ⟨by show j + 1 ≤ l.length; omega, by simp, hAB'⟩, by show l.length - (j + 1) < l.length - j; omega, .mk' ⟨by rfl, congrArg (fun z => AV.lit (.int .i64 z)) hln.symm, rfl, rfl, trivial⟩ (by rw [← hst]; exact .refl _)⟩
         | exact ⟨(j + 1, b :: B ++ [s]), ⟨by show j + 1 ≤ l.length; omega, by simp, hAB'⟩, by show l.length - (j + 1) < l.length - j; omega, .mk' ⟨by rfl, congrArg (fun z => AV.lit (.int .i64 z)) hln.symm, rfl, rfl, trivial⟩ (by rw [← hst]; exact .refl _)⟩
       ·have hps : p s = true := by simpa using hc2
        have hnx := keep_next (p := p) hs
        rw [hps] at hnx
        have hst : (keep p (l.take j) ++ (b :: B) ++ l.drop j).map cI = (keep p (l.take (j + 1)) ++ (b :: B ++ [s]) ++ l.drop (j + 1)).map cI := by
         rw [hnx, drop_at hs]; simp
        have hAB' : (keep p (l.take (j + 1))).length + (b :: B ++ [s]).length = j + 1 := by rw [hnx]; simp; omega
        have hln : ((keep p (l.take (j + 1))).length : Int) = (keep p (l.take j)).length := by rw [hnx]; simp
        refine awp_skip ?_
        show AWP _ _ _ _
        refine awp_region ?_
        refine aqs rfl (q_mv (by constructor)) rfl ?_
        first | refine aqs rfl (q_add64 rfl rfl (by omega) (by omega)) rfl ?_ | refine aqs rfl (q_add rfl rfl) rfl ?_
        refine aqs rfl (q_as (by constructor)) rfl ?_
        refine alist_nil ?_
        show ∃ y, _ ∧ _ ∧ _
        first
         | exact ⟨(j + 1, B ++ [s]), ⟨by show j + 1 ≤ l.length; omega, by simp, hAB'⟩, by show l.length - (j + 1) < l.length - j; omega, .mk' ⟨by rfl, congrArg (fun z => AV.lit (.int .i64 z)) hln.symm, rfl, rfl, trivial⟩ (by rw [← hst]; exact .refl _)⟩
         | exact ⟨(j + 1, b :: B ++ [s]), ⟨by show j + 1 ≤ l.length; omega, by simp, hAB'⟩, by show l.length - (j + 1) < l.length - j; omega, .mk' ⟨by rfl, congrArg (fun z => AV.lit (.int .i64 z)) hln.symm, rfl, rfl, trivial⟩ (by rw [← hst]; exact .refl _)⟩
      ·simp only [decide_eq_false_iff_not] at hc1
       have hjn : j = l.length := by omega
       subst hjn
       have htk : l.take l.length = l := List.take_length
       rw [htk] at hAB ⊢
       have htake : ((keep p l ++ (b :: B) ++ l.drop l.length).map cI).take (keep p l).length = (keep p l).map cI := by simp
       refine awp_exit ?_
       show AWP _ _ _ _
       refine awp_seq ?_
       refine awp_region ?_
       refine aqs rfl (q_mv (by constructor)) rfl ?_
       refine aqs rfl (q_mv (by constructor)) rfl ?_
       first | refine aqs rfl (q_slR Try.underlying25 sz3 (.inl rfl) (by first | (refine ⟨_, _, rfl, ?_⟩; with_reducible rfl) | exact bnd_int rfl (by omega)) rfl (by first | omega | (simp; done) | (simp; omega) | fail) (by first | omega | (simp; done) | (simp; omega) | fail) (by first | rfl | assumption | (simp [*]; done) | fail)) rfl ?_ | refine aqs rfl (q_slO Try.underlying25 sz3 rfl (by repeat (first | exact .here | assumption | (apply HAt.left; assumption) | apply HAt.there | apply HAt.right)) (by first | (refine ⟨_, _, rfl, ?_⟩; with_reducible rfl) | exact bnd_int rfl (by omega)) rfl (by first | omega | (simp; done) | (simp; omega) | fail) (by first | omega | (simp; done) | (simp; omega) | fail) (by first | exact Nat.zero_add _ | rfl) (by first | exact Nat.zero_add _ | rfl)) rfl ?_
       (refine aen rfl (e_clr rfl Try.underlying25 sz3 zr3 rfl (by rfl) rfl (by repeat (first | exact .here | assumption | (apply HAt.left; assumption) | apply HAt.there | apply HAt.right)) (by simp; omega) htake (by repeat (first | exact .here | apply HSet.there))) ?_; rintro _ _ ⟨rfl, rfl⟩)
       refine alist_nil ?_
       show AWP _ _ _ _
       refine awp_seq ?_
       refine awp_region ?_
       refine aqs rfl (q_mv (by constructor)) rfl ?_
       refine aqs rfl (q_mv (by constructor)) rfl ?_
       first | refine aqs rfl (q_slR Try.underlying25 sz3 (.inl rfl) rfl (by first | (refine ⟨_, _, rfl, ?_⟩; with_reducible rfl) | exact bnd_int rfl (by omega)) (by first | omega | (simp; done) | (simp; omega) | fail) (by first | omega | (simp; done) | (simp; omega) | fail) (by first | rfl | assumption | (simp [*]; done) | fail)) rfl ?_ | refine aqs rfl (q_slO Try.underlying25 sz3 rfl (by repeat (first | exact .here | assumption | (apply HAt.left; assumption) | apply HAt.there | apply HAt.right)) rfl (by first | (refine ⟨_, _, rfl, ?_⟩; with_reducible rfl) | exact bnd_int rfl (by omega)) (by first | omega | (simp; done) | (simp; omega) | fail) (by first | omega | (simp; done) | (simp; omega) | fail) (by first | exact Nat.zero_add _ | rfl) (by first | exact Nat.zero_add _ | rfl)) rfl ?_
       refine aqs rfl (q_as (by constructor)) rfl ?_
       refine alist_nil ?_
       show AWP _ _ _ _
       refine awp_ret ?_
       repeat first | with_reducible refine then_ret ?_ | with_reducible refine blk_ret ?_
       apply retq (.inr rfl) (.cons (rok_t rfl) .nil)
       rotate_left
       ·exact ⟨rfl, rfl⟩
       repeat (first | exact List.Sublist.refl _ | exact List.nil_sublist _ | exact List.sublist_append_left _ _ | apply List.Sublist.cons)
end Go.Proofs.YtdlinfekifnmkaaAm
