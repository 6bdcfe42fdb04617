/- slices.Clone, IndexFunc, DeleteFunc. Conditions: the lengths. -/
import Derived.Test.YtdlinfekifnmkaaAmSums
set_option linter.unusedVariables false
set_option linter.unusedSimpArgs false
set_option maxRecDepth 20000
namespace Go.Proofs.YtdlinfekifnmkaaAm
open Go.Proofs
/-! ### slices.Clone, IndexFunc, DeleteFunc at Slot -/
theorem lenSlot (l : List Slot) : ∀ c ∈ l.map Slot.cells, c.length = 5 := by
  intro c hc
  obtain ⟨s, _, rfl⟩ := List.mem_map.1 hc
  rfl
theorem oneSlot (l : List Slot) : ∀ c ∈ l.map Slot.cells, c.all cell1 = true := by
  intro c hc
  obtain ⟨s, _, rfl⟩ := List.mem_map.1 hc
  rfl
set_option maxHeartbeats 1000000 in
theorem clone129_c (l : List Slot) (hl : l.length ≤ 1000000) (H : Heap) :
    ACall Try.prog 129 [.ro (l.map Slot.cells)] H (fun r H' => ∃ u, r = .sl u 0 l.length ∧ H' = (u, .arr 40 5 (l.map Slot.cells)) :: H) := by
  have hlen := lenSlot l
  have hone := oneSlot l
  refine acall_intro (n := 8) (rvs := [.tmp 2]) Try.func129 rfl rfl rfl (Nat.le_of_ble_eq_true rfl) ?_
  refine awp_seq ?_
  refine awp_region ?_
  refine aqs rfl (q_as (by constructor)) rfl ?_
  refine alist_nil ?_
  show AWP _ _ _ _
  refine awp_seq ?_
  refine awp_seq ?_
  refine awp_region ?_
  refine aqs rfl (q_mv (by constructor)) rfl ?_
  (refine aes rfl (e_eqnil Try.underlying38 rfl rfl (by first | assumption | (intro c hc; simp at hc; subst hc; rfl) | (simp; done) | fail) (by decide)) rfl ?_; rintro _ _ ⟨bnil, rfl, hbnil, rfl⟩)
  refine alist_nil ?_
  show AWP _ _ _ _
  refine awp_cond rfl (fun hc0 => ?_) (fun hc0 => ?_)
  · have hnil := hbnil hc0
    have hl0 : l = [] := by simpa using hnil
    subst hl0
    refine awp_seq ?_
    refine awp_region ?_
    refine aqs rfl (q_as (by constructor)) rfl ?_
    refine alist_nil ?_
    show AWP _ _ _ _
    refine awp_adopt 2 40 5 rfl fun u => ?_
    show AWP _ _ _ _
    refine awp_ret ?_
    repeat first | with_reducible refine then_ret ?_ | with_reducible refine blk_ret ?_
    apply retq (.inr rfl) (.cons (rok_t rfl) .nil)
    rotate_left
    · exact ⟨_, rfl, rfl⟩
    repeat (first | exact List.Sublist.refl _ | exact List.nil_sublist _ | exact List.sublist_append_left _ _ | apply List.Sublist.cons)
  · try simp only [decide_eq_true_eq, decide_eq_false_iff_not, Bool.not_eq_true', Bool.not_eq_false', Bool.not_eq_eq_eq_not, Bool.not_true, Bool.not_false, beq_iff_eq, beq_eq_false_iff_ne, Int.not_lt, Int.not_le] at hc0
    refine awp_skip ?_
    show AWP _ _ _ _
    refine awp_seq ?_
    refine awp_region ?_
    (refine aes rfl (e_bs Try.underlying38 sz40 zr40 rfl (by first | ((repeat constructor); done) | exact .same _) rfl (by decide) (by repeat (first | exact BS.nil | (apply BS.cons; (· constructor); (· rfl); (· rfl); (· rfl); (· exact (by first | ((repeat constructor); done) | exact .same _)))))) rfl ?_; rintro _ _ ⟨u5, rfl, rfl⟩)
    refine aqs rfl (q_mv (by constructor)) rfl ?_
    first | (refine aes rfl (e_apO Try.underlying38 sz40 by40 zr40 rfl (by repeat (first | exact .here | assumption | (apply HAt.left; assumption) | apply HAt.there | apply HAt.right)) (by first | omega | (simp; done) | (simp; omega) | fail) (by first | exact .ro | exact .cro | exact .nil | exact SV.slA (by repeat (first | exact .here | assumption | (apply HAt.left; assumption) | apply HAt.there | apply HAt.right)) (by first | rfl | (simp; done) | (simp; omega) | (simp [*]; done) | fail)) (by first | assumption | (intro c hc; simp at hc; subst hc; rfl) | (simp; done) | fail) (by first | assumption | (intro c hc; simp at hc; subst hc; rfl) | (simp; done) | fail) (by first | assumption | (intro c hc; simp at hc; subst hc; rfl) | (simp; done) | fail) (by simp; omega) (by decide) (by decide) rfl (by simp; rfl) (by first | rfl | (simp; done) | fail) (fun v => (by repeat (first | exact .here | apply HSet.there)))) rfl ?_; rintro _ _ ⟨u7, rfl, rfl⟩) | (refine aes rfl (e_apN Try.underlying38 sz40 by40 zr40 rfl (by first | exact .ro | exact .cro | exact .nil | exact SV.slA (by repeat (first | exact .here | assumption | (apply HAt.left; assumption) | apply HAt.there | apply HAt.right)) (by first | rfl | (simp; done) | (simp; omega) | (simp [*]; done) | fail)) (by first | assumption | (intro c hc; simp at hc; subst hc; rfl) | (simp; done) | fail) (by first | assumption | (intro c hc; simp at hc; subst hc; rfl) | (simp; done) | fail) (by simp; omega) (by decide) (by decide) rfl rfl) rfl ?_; rintro _ _ ⟨u7, rfl, rfl⟩)
    refine aqs rfl (q_as (by constructor)) rfl ?_
    refine alist_nil ?_
    show AWP _ _ _ _
    refine awp_ret ?_
    repeat first | with_reducible refine then_ret ?_ | with_reducible refine blk_ret ?_
    apply retq (.inr rfl) (.cons (rok_t rfl) .nil)
    rotate_left
    · exact ⟨_, rfl, rfl⟩
    repeat (first | exact List.Sublist.refl _ | exact List.nil_sublist _ | exact List.sublist_append_left _ _ | apply List.Sublist.cons)

def idxOf {α : Type} (p : α → Bool) (l : List α) : Int := if l.any p then (l.findIdx p : Int) else -1
theorem idx_hit {α : Type} {p : α → Bool} {l : List α} {i : Nat} {s : α} (h : ∀ j s, j < i → l[j]? = some s → p s = false) (hs : l[i]? = some s) (hp : p s = true) : idxOf p l = i := by
  obtain ⟨hi, rfl⟩ := List.getElem?_eq_some_iff.1 hs
  have ha : l.any p = true := List.any_eq_true.2 ⟨_, List.getElem_mem hi, hp⟩
  have hf : l.findIdx p = i := (List.findIdx_eq hi).2 ⟨hp, fun j hj => h j _ hj (List.getElem?_eq_getElem (by omega))⟩
  rw [idxOf, if_pos ha, hf]
theorem idx_miss {α : Type} {p : α → Bool} {l : List α} (h : ∀ j s, j < l.length → l[j]? = some s → p s = false) : idxOf p l = -1 := by
  have ha : ¬ l.any p = true := by
    intro ha
    obtain ⟨s, hs, hp⟩ := List.any_eq_true.1 ha
    obtain ⟨j, hj⟩ := List.mem_iff_getElem?.1 hs
    have := h j s (List.getElem?_eq_some_iff.1 hj).1 hj
    rw [hp] at this; cases this
  rw [idxOf, if_neg ha]
theorem get_map {α β : Type} {f : α → β} {l : List α} {i : Nat} {s : α} (h : l[i]? = some s) : (l.map f)[i]? = some (f s) := by simp [h]
theorem get_lt {α : Type} {l : List α} {i : Nat} (h : i < l.length) : ∃ s, l[i]? = some s ∧ s ∈ l := ⟨l[i], List.getElem?_eq_getElem h, List.getElem_mem h⟩
set_option maxHeartbeats 1000000 in
theorem ixro123_c (l : List Slot) (hl : l.length ≤ 1000000) (p : Slot → Bool) {k : FuncId} (hk : Callable Try.prog k) (caps : List AV) (H : Heap) (hp : ∀ s ∈ l, QCall Try.prog k (.agg s.cells :: caps) H (.lit (.bool (p s)))) :
    QCall Try.prog 123 [.ro (l.map Slot.cells), .clo (.func k) [] caps] H (.lit (.int .i64 (idxOf p l))) := by
  refine acall_intro (n := 19) (rvs := [.tmp 4]) Try.func123 rfl rfl rfl (Nat.le_of_ble_eq_true rfl) ?_
  refine awp_seq ?_
  refine awp_region ?_
  refine aqs rfl (q_as (by constructor)) rfl ?_
  refine alist_nil ?_
  show AWP _ _ _ _
  refine awp_seq ?_
  refine awp_seq ?_
  refine awp_region ?_
  refine aqs rfl (q_mv (by constructor)) rfl ?_
  first | refine aqs rfl (q_len Try.underlying38 .ro) rfl ?_ | refine aqs rfl (q_lenO Try.underlying38 rfl (by repeat (first | exact .here | assumption | (apply HAt.left; assumption) | apply HAt.there | apply HAt.right)) (by first | omega | (simp; done) | (simp; omega) | fail) (by first | exact Nat.sub_zero _ | rfl)) rfl ?_ | refine aqs rfl (q_len Try.underlying38 .nil) rfl ?_ | refine aqs rfl (q_len Try.underlying38 .cro) rfl ?_
  refine aqs rfl (q_mv (by constructor)) rfl ?_
  refine alist_nil ?_
  show AWP _ _ _ _
  refine awp_block ?_
  rw [List.length_map]
  refine awp_loop_inv (fun i : Nat => ⟨[(8, .lit (.int .i64 i)), (7, .lit (.int .i64 l.length)), (0, .ro (l.map Slot.cells)), (1, .clo (.func k) [] caps)], 19, H⟩) (fun i => i ≤ l.length ∧ ∀ j s, j < i → l[j]? = some s → p s = false) (fun i => l.length - i) 0 ?_ ?_ ?_
  · exact ⟨Nat.zero_le _, fun j s h => absurd h (Nat.not_lt_zero _)⟩
  · exact .mk' (by repeat (first | exact trivial | refine ⟨rfl, ?_⟩)) (by repeat (first | exact .refl _ | apply List.Sublist.cons_cons | apply List.Sublist.cons))
  · intro i hi
    obtain ⟨hi, hall⟩ := hi
    refine awp_seq ?_
    refine awp_region ?_
    refine aqs rfl (q_lss rfl rfl) rfl ?_
    refine alist_nil ?_
    show AWP _ _ _ _
    refine awp_seq ?_
    refine awp_cond rfl (fun hc0 => ?_) (fun hc0 => ?_)
    · simp only [decide_eq_true_eq] at hc0
      obtain ⟨s, hs, hsm⟩ := get_lt (l := l) (i := i) (by omega)
      have hs2 := get_map (f := Slot.cells) hs
      refine awp_skip ?_
      show AWP _ _ _ _
      refine awp_seq ?_
      refine awp_block ?_
      refine awp_seq ?_
      refine awp_region ?_
      refine aqs rfl (q_mv (by constructor)) rfl ?_
      refine aqs rfl (q_as (by constructor)) rfl ?_
      refine alist_nil ?_
      show AWP _ _ _ _
      refine awp_seq ?_
      refine awp_region ?_
      refine aqs rfl (q_mv (by constructor)) rfl ?_
      refine aqs rfl (q_mv (by constructor)) rfl ?_
      refine aqs rfl (q_mv (by constructor)) rfl ?_
      first | refine aqs rfl (q_iaN Try.underlying38 sz40 (.inl rfl) rfl (by omega) (by first | rfl | assumption | (simp [*]; done) | fail) (by first | rfl | assumption | (simp [*]; done) | fail) (by decide) (by first | ((repeat constructor); done) | exact .same _)) rfl ?_ | refine aqs rfl (q_iaS Try.underlying38 sz40 rfl (by repeat (first | exact .here | assumption | (apply HAt.left; assumption) | apply HAt.there | apply HAt.right)) rfl (by omega) (by omega) (by first | exact Nat.zero_add _ | rfl)) rfl ?_ | refine aqs rfl (q_iaN Try.underlying38 sz40 (.inr rfl) rfl (by omega) (by first | rfl | assumption | (simp [*]; done) | fail) (by first | rfl | assumption | (simp [*]; done) | fail) (by decide) (by first | ((repeat constructor); done) | exact .same _)) rfl ?_
      first | refine aqs rfl (q_ldpW ag40 sz40 rfl (by repeat (first | exact .here | assumption | (apply HAt.left; assumption) | apply HAt.there | apply HAt.right)) (by first | rfl | assumption | (simp [*]; done) | fail) (by first | rfl | assumption | (simp [*]; done) | fail) (by decide)) rfl ?_ | refine aqs rfl (q_ldW ag40 sz40 rfl (by first | rfl | assumption | (simp [*]; done) | fail)) rfl ?_ | refine aqs rfl (q_ldpP ag40 sz40 rfl (by repeat (first | exact .here | assumption | (apply HAt.left; assumption) | apply HAt.there | apply HAt.right)) (by first | rfl | assumption | (simp [*]; done) | fail) (by first | decide | (simp; done) | omega | fail) (by decide) (by first | ((repeat constructor); done) | exact .same _)) rfl ?_ | refine aqs rfl (q_ldP ag40 sz40 rfl (by first | decide | (simp; done) | omega | fail) (by first | ((repeat constructor); done) | exact .same _)) rfl ?_
      refine aqs rfl (e_callC hk (hp s hsm) rfl rfl) rfl ?_
      refine alist_nil ?_
      show AWP _ _ _ _
      refine awp_cond rfl (fun hc1 => ?_) (fun hc1 => ?_)
      · have e := idx_hit hall hs hc1
        rw [e]
        refine awp_seq ?_
        refine awp_region ?_
        refine aqs rfl (q_mv (by constructor)) rfl ?_
        refine aqs rfl (q_as (by constructor)) rfl ?_
        refine alist_nil ?_
        show AWP _ _ _ _
        refine awp_ret ?_
        repeat first | with_reducible refine then_ret ?_ | with_reducible refine blk_ret ?_
        apply retq (.inr rfl) (.cons (rok_t rfl) .nil)
        rotate_left
        · exact ⟨rfl, rfl⟩
        repeat (first | exact List.Sublist.refl _ | exact List.nil_sublist _ | exact List.sublist_append_left _ _ | apply List.Sublist.cons)
      · skip
        refine awp_skip ?_
        show AWP _ _ _ _
        refine awp_region ?_
        first | refine aqs rfl (q_add64 rfl rfl (by omega) (by omega)) rfl ?_ | refine aqs rfl (q_add rfl rfl) rfl ?_
        refine aqs rfl (q_mv (by constructor)) rfl ?_
        refine alist_nil ?_
        show ∃ y, _ ∧ _ ∧ _
        refine ⟨i + 1, ⟨by omega, fun j s' hj hs' => ?_⟩, by omega, .mk' ⟨by rfl, rfl, rfl, rfl, trivial⟩ (.refl _)⟩
        by_cases hji : j = i
        · subst hji
          rw [hs] at hs'
          injection hs' with hs'
          subst hs'
          exact hc1
        · exact hall j s' (by omega) hs'
    · simp only [decide_eq_false_iff_not] at hc0
      have e := idx_miss (p := p) (l := l) fun j s hj hs => hall j s (by omega) hs
      rw [e]
      refine awp_exit ?_
      show AWP _ _ _ _
      refine awp_seq ?_
      refine awp_region ?_
      refine aqs rfl (q_as (by constructor)) rfl ?_
      refine alist_nil ?_
      show AWP _ _ _ _
      refine awp_ret ?_
      repeat first | with_reducible refine then_ret ?_ | with_reducible refine blk_ret ?_
      apply retq (.inr rfl) (.cons (rok_t rfl) .nil)
      rotate_left
      · exact ⟨rfl, rfl⟩
      repeat (first | exact List.Sublist.refl _ | exact List.nil_sublist _ | exact List.sublist_append_left _ _ | apply List.Sublist.cons)

set_option maxHeartbeats 1000000 in
theorem ixow123_c (l : List Slot) (hl : l.length ≤ 1000000) (p : Slot → Bool) {k : FuncId} (hk : Callable Try.prog k) (caps : List AV) (u : Nat) (Hr : Heap) (hp : ∀ s ∈ l, QCall Try.prog k (.agg s.cells :: caps) Hr (.lit (.bool (p s)))) :
    QCall Try.prog 123 [.sl u 0 l.length, .clo (.func k) [] caps] ((u, .arr 40 5 (l.map Slot.cells)) :: Hr) (.lit (.int .i64 (idxOf p l))) := by
  refine acall_intro (n := 19) (rvs := [.tmp 4]) Try.func123 rfl rfl rfl (Nat.le_of_ble_eq_true rfl) ?_
  refine awp_seq ?_
  refine awp_region ?_
  refine aqs rfl (q_as (by constructor)) rfl ?_
  refine alist_nil ?_
  show AWP _ _ _ _
  refine awp_seq ?_
  refine awp_seq ?_
  refine awp_region ?_
  refine aqs rfl (q_mv (by constructor)) rfl ?_
  first | refine aqs rfl (q_len Try.underlying38 .ro) rfl ?_ | refine aqs rfl (q_lenO Try.underlying38 rfl (by repeat (first | exact .here | assumption | (apply HAt.left; assumption) | apply HAt.there | apply HAt.right)) (by first | omega | (simp; done) | (simp; omega) | fail) (by first | exact Nat.sub_zero _ | rfl)) rfl ?_ | refine aqs rfl (q_len Try.underlying38 .nil) rfl ?_ | refine aqs rfl (q_len Try.underlying38 .cro) rfl ?_
  refine aqs rfl (q_mv (by constructor)) rfl ?_
  refine alist_nil ?_
  show AWP _ _ _ _
  refine awp_block ?_
  refine awp_loop_inv (fun i : Nat => ⟨[(8, .lit (.int .i64 i)), (7, .lit (.int .i64 l.length)), (0, .sl u 0 l.length), (1, .clo (.func k) [] caps)], 19, (u, .arr 40 5 (l.map Slot.cells)) :: Hr⟩) (fun i => i ≤ l.length ∧ ∀ j s, j < i → l[j]? = some s → p s = false) (fun i => l.length - i) 0 ?_ ?_ ?_
  · exact ⟨Nat.zero_le _, fun j s h => absurd h (Nat.not_lt_zero _)⟩
  · exact .mk' (by repeat (first | exact trivial | refine ⟨rfl, ?_⟩)) (by repeat (first | exact .refl _ | apply List.Sublist.cons_cons | apply List.Sublist.cons))
  · intro i hi
    obtain ⟨hi, hall⟩ := hi
    refine awp_seq ?_
    refine awp_region ?_
    refine aqs rfl (q_lss rfl rfl) rfl ?_
    refine alist_nil ?_
    show AWP _ _ _ _
    refine awp_seq ?_
    refine awp_cond rfl (fun hc0 => ?_) (fun hc0 => ?_)
    · simp only [decide_eq_true_eq] at hc0
      obtain ⟨s, hs, hsm⟩ := get_lt (l := l) (i := i) (by omega)
      have hs2 := get_map (f := Slot.cells) hs
      refine awp_skip ?_
      show AWP _ _ _ _
      refine awp_seq ?_
      refine awp_block ?_
      refine awp_seq ?_
      refine awp_region ?_
      refine aqs rfl (q_mv (by constructor)) rfl ?_
      refine aqs rfl (q_as (by constructor)) rfl ?_
      refine alist_nil ?_
      show AWP _ _ _ _
      refine awp_seq ?_
      refine awp_region ?_
      refine aqs rfl (q_mv (by constructor)) rfl ?_
      refine aqs rfl (q_mv (by constructor)) rfl ?_
      refine aqs rfl (q_mv (by constructor)) rfl ?_
      first | refine aqs rfl (q_iaN Try.underlying38 sz40 (.inl rfl) rfl (by omega) (by first | rfl | assumption | (simp [*]; done) | fail) (by first | rfl | assumption | (simp [*]; done) | fail) (by decide) (by first | ((repeat constructor); done) | exact .same _)) rfl ?_ | refine aqs rfl (q_iaS Try.underlying38 sz40 rfl (by repeat (first | exact .here | assumption | (apply HAt.left; assumption) | apply HAt.there | apply HAt.right)) rfl (by omega) (by omega) (by first | exact Nat.zero_add _ | rfl)) rfl ?_ | refine aqs rfl (q_iaN Try.underlying38 sz40 (.inr rfl) rfl (by omega) (by first | rfl | assumption | (simp [*]; done) | fail) (by first | rfl | assumption | (simp [*]; done) | fail) (by decide) (by first | ((repeat constructor); done) | exact .same _)) rfl ?_
      first | refine aqs rfl (q_ldpW ag40 sz40 rfl (by repeat (first | exact .here | assumption | (apply HAt.left; assumption) | apply HAt.there | apply HAt.right)) (by first | rfl | assumption | (simp [*]; done) | fail) (by first | rfl | assumption | (simp [*]; done) | fail) (by decide)) rfl ?_ | refine aqs rfl (q_ldW ag40 sz40 rfl (by first | rfl | assumption | (simp [*]; done) | fail)) rfl ?_ | refine aqs rfl (q_ldpP ag40 sz40 rfl (by repeat (first | exact .here | assumption | (apply HAt.left; assumption) | apply HAt.there | apply HAt.right)) (by first | rfl | assumption | (simp [*]; done) | fail) (by first | decide | (simp; done) | omega | fail) (by decide) (by first | ((repeat constructor); done) | exact .same _)) rfl ?_ | refine aqs rfl (q_ldP ag40 sz40 rfl (by first | decide | (simp; done) | omega | fail) (by first | ((repeat constructor); done) | exact .same _)) rfl ?_
      refine aqs rfl (e_callC hk (QCall.front [_] (hp s hsm)) rfl rfl) rfl ?_
      refine alist_nil ?_
      show AWP _ _ _ _
      refine awp_cond rfl (fun hc1 => ?_) (fun hc1 => ?_)
      · have e := idx_hit hall hs hc1
        rw [e]
        refine awp_seq ?_
        refine awp_region ?_
        refine aqs rfl (q_mv (by constructor)) rfl ?_
        refine aqs rfl (q_as (by constructor)) rfl ?_
        refine alist_nil ?_
        show AWP _ _ _ _
        refine awp_ret ?_
        repeat first | with_reducible refine then_ret ?_ | with_reducible refine blk_ret ?_
        apply retq (.inr rfl) (.cons (rok_t rfl) .nil)
        rotate_left
        · exact ⟨rfl, rfl⟩
        repeat (first | exact List.Sublist.refl _ | exact List.nil_sublist _ | exact List.sublist_append_left _ _ | apply List.Sublist.cons)
      · skip
        refine awp_skip ?_
        show AWP _ _ _ _
        refine awp_region ?_
        first | refine aqs rfl (q_add64 rfl rfl (by omega) (by omega)) rfl ?_ | refine aqs rfl (q_add rfl rfl) rfl ?_
        refine aqs rfl (q_mv (by constructor)) rfl ?_
        refine alist_nil ?_
        show ∃ y, _ ∧ _ ∧ _
        refine ⟨i + 1, ⟨by omega, fun j s' hj hs' => ?_⟩, by omega, .mk' ⟨by rfl, rfl, rfl, rfl, trivial⟩ (.refl _)⟩
        by_cases hji : j = i
        · subst hji
          rw [hs] at hs'
          injection hs' with hs'
          subst hs'
          exact hc1
        · exact hall j s' (by omega) hs'
    · simp only [decide_eq_false_iff_not] at hc0
      have e := idx_miss (p := p) (l := l) fun j s hj hs => hall j s (by omega) hs
      rw [e]
      refine awp_exit ?_
      show AWP _ _ _ _
      refine awp_seq ?_
      refine awp_region ?_
      refine aqs rfl (q_as (by constructor)) rfl ?_
      refine alist_nil ?_
      show AWP _ _ _ _
      refine awp_ret ?_
      repeat first | with_reducible refine then_ret ?_ | with_reducible refine blk_ret ?_
      apply retq (.inr rfl) (.cons (rok_t rfl) .nil)
      rotate_left
      · exact ⟨rfl, rfl⟩
      repeat (first | exact List.Sublist.refl _ | exact List.nil_sublist _ | exact List.sublist_append_left _ _ | apply List.Sublist.cons)
def keep {α : Type} (p : α → Bool) (l : List α) : List α := l.filter fun s => !p s
theorem idx_cases {α : Type} (p : α → Bool) (l : List α) : (idxOf p l = -1 ∧ keep p l = l) ∨ ∃ (i : Nat) (s : α), idxOf p l = i ∧ l[i]? = some s ∧ p s = true ∧ keep p (l.take i) = l.take i := by
  by_cases ha : l.any p = true
  · have hlt : l.findIdx p < l.length := List.findIdx_lt_length.2 (by simpa using ha)
    refine .inr ⟨l.findIdx p, l[l.findIdx p], by rw [idxOf, if_pos ha], List.getElem?_eq_getElem hlt, List.findIdx_getElem, ?_⟩
    rw [keep, List.filter_eq_self]
    intro s hs
    obtain ⟨j, hj⟩ := List.mem_iff_getElem?.1 hs
    have hj1 : j < l.findIdx p ∧ j < l.length := by
      have := (List.getElem?_eq_some_iff.1 hj).1
      rw [List.length_take] at this
      omega
    have := List.not_of_lt_findIdx hj1.1
    have hj2 := hj1.2
    have e : l[j] = s := by
      have h2 := (List.getElem?_eq_some_iff.1 hj).2
      simpa using h2
    rw [e] at this
    simp [this]
  · refine .inl ⟨by rw [idxOf, if_neg ha], ?_⟩
    rw [keep, List.filter_eq_self]
    intro s hs
    cases hps : p s with
    | false => rfl
    | true => exact absurd (List.any_eq_true.2 ⟨s, hs, hps⟩) ha
theorem keep_next {α : Type} {p : α → Bool} {l : List α} {j : Nat} {s : α} (h : l[j]? = some s) : keep p (l.take (j + 1)) = if p s = true then keep p (l.take j) else keep p (l.take j) ++ [s] := by
  rw [keep, List.take_add_one, h, List.filter_append]
  cases hp : p s <;> simp [hp, keep]
theorem mid_at {α : Type} {A B D : List α} {j : Nat} {s : α} (h : A.length + B.length = j) (hd : D[0]? = some s) : (A ++ B ++ D)[j]? = some s := by
  rw [List.getElem?_append_right (by simp; omega)]
  rw [show j - (A ++ B).length = 0 by simp; omega]
  exact hd
theorem drop_at {α : Type} {l : List α} {j : Nat} {s : α} (h : l[j]? = some s) : l.drop j = s :: l.drop (j + 1) := by
  obtain ⟨hj, rfl⟩ := List.getElem?_eq_some_iff.1 h
  exact List.drop_eq_getElem_cons hj
theorem set_mid {α : Type} {A B D : List α} {b s : α} : ((A ++ (b :: B) ++ D).set A.length s) = A ++ [s] ++ B ++ D := by
  rw [List.append_assoc, List.set_append_right _ _ (Nat.le_refl _)]
  simp
set_option maxHeartbeats 2000000 in
theorem del169_c (l : List Slot) (hl : l.length ≤ 1000000) (p : Slot → Bool) {k : FuncId} (hk : Callable Try.prog k) (caps : List AV) (u : Nat) (Hr : Heap) (hp : ∀ s ∈ l, QCall Try.prog k (.agg s.cells :: caps) Hr (.lit (.bool (p s)))) :
    ACall Try.prog 169 [.sl u 0 l.length, .clo (.func k) [] caps] ((u, .arr 40 5 (l.map Slot.cells)) :: Hr) (fun r H' => r = .sl u 0 (keep p l).length ∧ H' = (u, .arr 40 5 ((keep p l).map Slot.cells)) :: Hr) := by
  rcases idx_cases p l with ⟨hi, hkeep⟩ | ⟨i0, s0, hi, hs0, hps0, hkeep⟩
  · rw [hkeep]
    refine acall_intro (n := 42) (rvs := [.tmp 4]) Try.func169 rfl rfl rfl (Nat.le_of_ble_eq_true rfl) ?_
    refine awp_seq ?_
    refine awp_region ?_
    refine aqs rfl (q_as (by constructor)) rfl ?_
    refine alist_nil ?_
    show AWP _ _ _ _
    refine awp_seq ?_
    refine awp_region ?_
    refine aqs rfl (q_mv (by constructor)) rfl ?_
    refine aqs rfl (q_mv (by constructor)) rfl ?_
    first | refine aqs rfl (e_callN cb123 (ixow123_c l hl p hk caps u Hr hp) rfl rfl) rfl ?_ | refine aqs rfl (e_callN cb123 (ACall.arg (ixow123_c l hl p hk caps u Hr hp) (by repeat (first | exact ArgL.nil | (apply ArgL.cons; (· first | exact .same | exact .cro | exact .nil))))) rfl rfl) rfl ?_
    refine aqs rfl (q_as (by constructor)) rfl ?_
    rw [hi]
    refine alist_nil ?_
    show AWP _ _ _ _
    refine awp_seq ?_
    refine awp_seq ?_
    refine awp_region ?_
    refine aqs rfl (q_mv (by constructor)) rfl ?_
    refine aqs rfl (q_eql rfl rfl) rfl ?_
    refine alist_nil ?_
    show AWP _ _ _ _
    refine awp_cond rfl (fun hc0 => ?_) (fun hc0 => ?_)
    · try simp only [decide_eq_true_eq, decide_eq_false_iff_not, Bool.not_eq_true', Bool.not_eq_false', Bool.not_eq_eq_eq_not, Bool.not_true, Bool.not_false, beq_iff_eq, beq_eq_false_iff_ne, Int.not_lt, Int.not_le] at hc0
      refine awp_seq ?_
      refine awp_region ?_
      refine aqs rfl (q_mv (by constructor)) rfl ?_
      refine aqs rfl (q_as (by constructor)) rfl ?_
      refine alist_nil ?_
      show AWP _ _ _ _
      refine awp_ret ?_
      repeat first | with_reducible refine then_ret ?_ | with_reducible refine blk_ret ?_
      apply retq (.inr rfl) (.cons (rok_t rfl) .nil)
      rotate_left
      · exact ⟨rfl, rfl⟩
      repeat (first | exact List.Sublist.refl _ | exact List.nil_sublist _ | exact List.sublist_append_left _ _ | apply List.Sublist.cons)
    · exfalso; first | (simp at hc0; done) | (simp at hc0; omega) | contradiction
  · have hlt0 : i0 < l.length := (List.getElem?_eq_some_iff.1 hs0).1
    have hk0 : keep p (l.take (i0 + 1)) = l.take i0 := by rw [keep_next hs0, if_pos hps0, hkeep]
    have hlen0 : (keep p (l.take (i0 + 1))).length = i0 := by rw [hk0, List.length_take]; omega
    have hl0 : l = keep p (l.take (i0 + 1)) ++ [s0] ++ l.drop (i0 + 1) := by
      rw [hk0, List.append_assoc, List.singleton_append, ← drop_at hs0, List.take_append_drop]
    refine acall_intro (n := 42) (rvs := [.tmp 4]) Try.func169 rfl rfl rfl (Nat.le_of_ble_eq_true rfl) ?_
    refine awp_seq ?_
    refine awp_region ?_
    refine aqs rfl (q_as (by constructor)) rfl ?_
    refine alist_nil ?_
    show AWP _ _ _ _
    refine awp_seq ?_
    refine awp_region ?_
    refine aqs rfl (q_mv (by constructor)) rfl ?_
    refine aqs rfl (q_mv (by constructor)) rfl ?_
    first | refine aqs rfl (e_callN cb123 (ixow123_c l hl p hk caps u Hr hp) rfl rfl) rfl ?_ | refine aqs rfl (e_callN cb123 (ACall.arg (ixow123_c l hl p hk caps u Hr hp) (by repeat (first | exact ArgL.nil | (apply ArgL.cons; (· first | exact .same | exact .cro | exact .nil))))) rfl rfl) rfl ?_
    refine aqs rfl (q_as (by constructor)) rfl ?_
    rw [hi]
    refine alist_nil ?_
    show AWP _ _ _ _
    refine awp_seq ?_
    refine awp_seq ?_
    refine awp_region ?_
    refine aqs rfl (q_mv (by constructor)) rfl ?_
    refine aqs rfl (q_eql rfl rfl) rfl ?_
    refine alist_nil ?_
    show AWP _ _ _ _
    refine awp_cond rfl (fun hc0 => ?_) (fun hc0 => ?_)
    · exfalso; first | (simp at hc0; done) | (simp at hc0; omega) | contradiction
    · skip
      refine awp_skip ?_
      show AWP _ _ _ _
      refine awp_seq ?_
      refine awp_seq ?_
      refine awp_region ?_
      refine aqs rfl (q_mv (by constructor)) rfl ?_
      first | refine aqs rfl (q_add64 rfl rfl (by omega) (by omega)) rfl ?_ | refine aqs rfl (q_add rfl rfl) rfl ?_
      refine aqs rfl (q_as (by constructor)) rfl ?_
      refine alist_nil ?_
      show AWP _ _ _ _
      refine awp_block ?_
      rw [show l.map Slot.cells = (keep p (l.take (i0 + 1)) ++ [s0] ++ l.drop (i0 + 1)).map Slot.cells from congrArg _ hl0]
      refine awp_loop_inv (fun x : Nat × List Slot => ⟨[(6, .lit (.int .i64 x.1)), (5, .lit (.int .i64 (keep p (l.take x.1)).length)), (0, .sl u 0 l.length), (1, .clo (.func k) [] caps)], 42, (u, .arr 40 5 ((keep p (l.take x.1) ++ x.2 ++ l.drop x.1).map Slot.cells)) :: Hr⟩) (fun x => x.1 ≤ l.length ∧ x.2 ≠ [] ∧ (keep p (l.take x.1)).length + x.2.length = x.1) (fun x => l.length - x.1) (i0 + 1, [s0]) ?_ ?_ ?_
      · exact ⟨hlt0, by simp, by rw [hlen0]; simp⟩
      · exact .mk' (by refine ⟨by rfl, ?_, rfl, rfl, trivial⟩; show AV.lit (.int .i64 _) = AV.lit (.int .i64 _); rw [hlen0]) (by repeat (first | exact .refl _ | apply List.Sublist.cons_cons | apply List.Sublist.cons))
      · rintro ⟨j, B⟩ ⟨hj, hB, hAB⟩
        obtain ⟨b, B, rfl⟩ : ∃ b B', B = b :: B' := by cases B with | nil => exact absurd rfl hB | cons b B => exact ⟨b, B, rfl⟩
        simp only at hj hAB ⊢
        simp only [List.length_cons] at hAB
        refine awp_seq ?_
        refine awp_seq ?_
        refine awp_region ?_
        refine aqs rfl (q_mv (by constructor)) rfl ?_
        refine aqs rfl (q_mv (by constructor)) rfl ?_
        first | refine aqs rfl (q_len Try.underlying38 .ro) rfl ?_ | refine aqs rfl (q_lenO Try.underlying38 rfl (by repeat (first | exact .here | assumption | (apply HAt.left; assumption) | apply HAt.there | apply HAt.right)) (by first | omega | (simp; done) | (simp; omega) | fail) (by first | exact Nat.sub_zero _ | rfl)) rfl ?_ | refine aqs rfl (q_len Try.underlying38 .nil) rfl ?_ | refine aqs rfl (q_len Try.underlying38 .cro) rfl ?_
        refine aqs rfl (q_lss rfl rfl) rfl ?_
        refine alist_nil ?_
        show AWP _ _ _ _
        refine awp_cond rfl (fun hc1 => ?_) (fun hc1 => ?_)
        · simp only [decide_eq_true_eq] at hc1
          obtain ⟨s, hs, hsm⟩ := get_lt (l := l) (i := j) (by omega)
          have hs2 := get_map (f := Slot.cells) (mid_at (A := keep p (l.take j)) (B := b :: B) (D := l.drop j) (j := j) (by simp; omega) (show (l.drop j)[0]? = some s by simpa using hs))
          have hb2 := get_map (f := Slot.cells) (show (keep p (l.take j) ++ (b :: B) ++ l.drop j)[(keep p (l.take j)).length]? = some b by simp)
          have hw1 : (b.cells.length = 5) := rfl
          refine awp_skip ?_
          show AWP _ _ _ _
          refine awp_seq ?_
          refine awp_block ?_
          refine awp_seq ?_
          refine awp_region ?_
          refine aqs rfl (q_mv (by constructor)) rfl ?_
          refine aqs rfl (q_mv (by constructor)) rfl ?_
          first | refine aqs rfl (q_iaN Try.underlying38 sz40 (.inl rfl) rfl (by omega) (by first | rfl | assumption | (simp [*]; done) | fail) (by first | rfl | assumption | (simp [*]; done) | fail) (by decide) (by first | ((repeat constructor); done) | exact .same _)) rfl ?_ | refine aqs rfl (q_iaS Try.underlying38 sz40 rfl (by repeat (first | exact .here | assumption | (apply HAt.left; assumption) | apply HAt.there | apply HAt.right)) rfl (by omega) (by omega) (by first | exact Nat.zero_add _ | rfl)) rfl ?_ | refine aqs rfl (q_iaN Try.underlying38 sz40 (.inr rfl) rfl (by omega) (by first | rfl | assumption | (simp [*]; done) | fail) (by first | rfl | assumption | (simp [*]; done) | fail) (by decide) (by first | ((repeat constructor); done) | exact .same _)) rfl ?_
          first | refine aqs rfl (q_ldpW ag40 sz40 rfl (by repeat (first | exact .here | assumption | (apply HAt.left; assumption) | apply HAt.there | apply HAt.right)) (by first | rfl | assumption | (simp [*]; done) | fail) (by first | rfl | assumption | (simp [*]; done) | fail) (by decide)) rfl ?_ | refine aqs rfl (q_ldW ag40 sz40 rfl (by first | rfl | assumption | (simp [*]; done) | fail)) rfl ?_ | refine aqs rfl (q_ldpP ag40 sz40 rfl (by repeat (first | exact .here | assumption | (apply HAt.left; assumption) | apply HAt.there | apply HAt.right)) (by first | rfl | assumption | (simp [*]; done) | fail) (by first | decide | (simp; done) | omega | fail) (by decide) (by first | ((repeat constructor); done) | exact .same _)) rfl ?_ | refine aqs rfl (q_ldP ag40 sz40 rfl (by first | decide | (simp; done) | omega | fail) (by first | ((repeat constructor); done) | exact .same _)) rfl ?_
          (refine aes rfl (e_al (xs := [.lit (.int .u64 0), .lit (.int .i64 0), .lit (.string ⟨#[]⟩), .lit (.string ⟨#[]⟩), .lit (.string ⟨#[]⟩)]) (k := 5) zr40 (.same _) rfl) rfl ?_; rintro _ _ ⟨u7, rfl, rfl⟩)
          first | (refine aen rfl (e_stW sz40 rfl (by repeat (first | exact .here | assumption | (apply HAt.left; assumption) | apply HAt.there | apply HAt.right)) (by constructor) (by first | rfl | assumption | (simp [*]; done) | fail) rfl (by repeat (first | exact .here | apply HSet.there))) ?_; rintro _ _ ⟨rfl, rfl⟩) | (refine aen rfl (e_stP sz40 rfl (by repeat (first | exact .here | assumption | (apply HAt.left; assumption) | apply HAt.there | apply HAt.right)) (by first | rfl | assumption | (simp [*]; done) | fail) (by constructor) (by first | rfl | assumption | (simp [*]; done) | fail) rfl (by first | decide | omega) (by first | ((repeat constructor); done) | exact .same _) (by first | exact .one | exact .set) (by repeat (first | exact .here | apply HSet.there))) ?_; rintro _ _ ⟨rfl, rfl⟩)
          refine alist_nil ?_
          show AWP _ _ _ _
          refine awp_seq ?_
          refine awp_region ?_
          refine aqs rfl (q_mv (by constructor)) rfl ?_
          first | refine aqs rfl (q_ldpW ag40 sz40 rfl (by repeat (first | exact .here | assumption | (apply HAt.left; assumption) | apply HAt.there | apply HAt.right)) (by first | rfl | assumption | (simp [*]; done) | fail) (by first | rfl | assumption | (simp [*]; done) | fail) (by decide)) rfl ?_ | refine aqs rfl (q_ldW ag40 sz40 rfl (by first | rfl | assumption | (simp [*]; done) | fail)) rfl ?_ | refine aqs rfl (q_ldpP ag40 sz40 rfl (by repeat (first | exact .here | assumption | (apply HAt.left; assumption) | apply HAt.there | apply HAt.right)) (by first | rfl | assumption | (simp [*]; done) | fail) (by first | decide | (simp; done) | omega | fail) (by decide) (by first | ((repeat constructor); done) | exact .same _)) rfl ?_ | refine aqs rfl (q_ldP ag40 sz40 rfl (by first | decide | (simp; done) | omega | fail) (by first | ((repeat constructor); done) | exact .same _)) rfl ?_
          refine aqs rfl (e_callC hk (QCall.front [_, _] (hp s hsm)) rfl rfl) rfl ?_
          refine aqs rfl (q_not rfl) rfl ?_
          refine alist_nil ?_
          show AWP _ _ _ _
          refine awp_cond rfl (fun hc2 => ?_) (fun hc2 => ?_)
          · have hps : p s = false := by simpa using hc2
            have hnx := keep_next (p := p) hs
            rw [hps] at hnx
            have hst : ((keep p (l.take j) ++ (b :: B) ++ l.drop j).map Slot.cells).set (keep p (l.take j)).length s.cells = (keep p (l.take (j + 1)) ++ (B ++ [s]) ++ l.drop (j + 1)).map Slot.cells := by
              rw [← List.map_set, set_mid, hnx, drop_at hs]; simp
            have hAB' : (keep p (l.take (j + 1))).length + (B ++ [s]).length = j + 1 := by rw [hnx]; simp; omega
            have hln : ((keep p (l.take (j + 1))).length : Int) = (keep p (l.take j)).length + 1 := by rw [hnx]; simp
            refine awp_seq ?_
            refine awp_region ?_
            refine aqs rfl (q_mv (by constructor)) rfl ?_
            refine aqs rfl (q_mv (by constructor)) rfl ?_
            first | refine aqs rfl (q_ldpW ag40 sz40 rfl (by repeat (first | exact .here | assumption | (apply HAt.left; assumption) | apply HAt.there | apply HAt.right)) (by first | rfl | assumption | (simp [*]; done) | fail) (by first | rfl | assumption | (simp [*]; done) | fail) (by decide)) rfl ?_ | refine aqs rfl (q_ldW ag40 sz40 rfl (by first | rfl | assumption | (simp [*]; done) | fail)) rfl ?_ | refine aqs rfl (q_ldpP ag40 sz40 rfl (by repeat (first | exact .here | assumption | (apply HAt.left; assumption) | apply HAt.there | apply HAt.right)) (by first | rfl | assumption | (simp [*]; done) | fail) (by first | decide | (simp; done) | omega | fail) (by decide) (by first | ((repeat constructor); done) | exact .same _)) rfl ?_ | refine aqs rfl (q_ldP ag40 sz40 rfl (by first | decide | (simp; done) | omega | fail) (by first | ((repeat constructor); done) | exact .same _)) rfl ?_
            first | refine aqs rfl (q_iaN Try.underlying38 sz40 (.inl rfl) rfl (by omega) (by first | rfl | assumption | (simp [*]; done) | fail) (by first | rfl | assumption | (simp [*]; done) | fail) (by decide) (by first | ((repeat constructor); done) | exact .same _)) rfl ?_ | refine aqs rfl (q_iaS Try.underlying38 sz40 rfl (by repeat (first | exact .here | assumption | (apply HAt.left; assumption) | apply HAt.there | apply HAt.right)) rfl (by omega) (by omega) (by first | exact Nat.zero_add _ | rfl)) rfl ?_ | refine aqs rfl (q_iaN Try.underlying38 sz40 (.inr rfl) rfl (by omega) (by first | rfl | assumption | (simp [*]; done) | fail) (by first | rfl | assumption | (simp [*]; done) | fail) (by decide) (by first | ((repeat constructor); done) | exact .same _)) rfl ?_
            first | (refine aen rfl (e_stW sz40 rfl (by repeat (first | exact .here | assumption | (apply HAt.left; assumption) | apply HAt.there | apply HAt.right)) (by constructor) (by first | rfl | assumption | (simp [*]; done) | fail) rfl (by repeat (first | exact .here | apply HSet.there))) ?_; rintro _ _ ⟨rfl, rfl⟩) | (refine aen rfl (e_stP sz40 rfl (by repeat (first | exact .here | assumption | (apply HAt.left; assumption) | apply HAt.there | apply HAt.right)) (by first | rfl | assumption | (simp [*]; done) | fail) (by constructor) (by first | rfl | assumption | (simp [*]; done) | fail) rfl (by first | decide | omega) (by first | ((repeat constructor); done) | exact .same _) (by first | exact .one | exact .set) (by repeat (first | exact .here | apply HSet.there))) ?_; rintro _ _ ⟨rfl, rfl⟩)
            refine alist_nil ?_
            show AWP _ _ _ _
            refine awp_region ?_
            refine aqs rfl (q_mv (by constructor)) rfl ?_
            first | refine aqs rfl (q_add64 rfl rfl (by omega) (by omega)) rfl ?_ | refine aqs rfl (q_add rfl rfl) rfl ?_
            refine aqs rfl (q_as (by constructor)) rfl ?_
            refine alist_nil ?_
            show AWP _ _ _ _
            refine awp_region ?_
            refine aqs rfl (q_mv (by constructor)) rfl ?_
            first | refine aqs rfl (q_add64 rfl rfl (by omega) (by omega)) rfl ?_ | refine aqs rfl (q_add rfl rfl) rfl ?_
            refine aqs rfl (q_as (by constructor)) rfl ?_
            refine alist_nil ?_
            show ∃ y, _ ∧ _ ∧ _
            first
              | exact ⟨(j + 1, B ++ [s]), ⟨by show j + 1 ≤ l.length; omega, by simp, hAB'⟩, by show l.length - (j + 1) < l.length - j; omega, .mk' ⟨by rfl, congrArg (fun z => AV.lit (.int .i64 z)) hln.symm, rfl, rfl, trivial⟩ (by rw [← hst]; exact .cons _ (.refl _))⟩
              | exact ⟨(j + 1, b :: B ++ [s]), ⟨by show j + 1 ≤ l.length; omega, by simp, hAB'⟩, by show l.length - (j + 1) < l.length - j; omega, .mk' ⟨by rfl, congrArg (fun z => AV.lit (.int .i64 z)) hln.symm, rfl, rfl, trivial⟩ (by rw [← hst]; exact .cons _ (.refl _))⟩
          · have hps : p s = true := by simpa using hc2
            have hnx := keep_next (p := p) hs
            rw [hps] at hnx
            have hst : (keep p (l.take j) ++ (b :: B) ++ l.drop j).map Slot.cells = (keep p (l.take (j + 1)) ++ (b :: B ++ [s]) ++ l.drop (j + 1)).map Slot.cells := by
              rw [hnx, drop_at hs]; simp
            have hAB' : (keep p (l.take (j + 1))).length + (b :: B ++ [s]).length = j + 1 := by rw [hnx]; simp; omega
            have hln : ((keep p (l.take (j + 1))).length : Int) = (keep p (l.take j)).length := by rw [hnx]; simp
            refine awp_skip ?_
            show AWP _ _ _ _
            refine awp_region ?_
            refine aqs rfl (q_mv (by constructor)) rfl ?_
            first | refine aqs rfl (q_add64 rfl rfl (by omega) (by omega)) rfl ?_ | refine aqs rfl (q_add rfl rfl) rfl ?_
            refine aqs rfl (q_as (by constructor)) rfl ?_
            refine alist_nil ?_
            show ∃ y, _ ∧ _ ∧ _
            first
              | exact ⟨(j + 1, B ++ [s]), ⟨by show j + 1 ≤ l.length; omega, by simp, hAB'⟩, by show l.length - (j + 1) < l.length - j; omega, .mk' ⟨by rfl, congrArg (fun z => AV.lit (.int .i64 z)) hln.symm, rfl, rfl, trivial⟩ (by rw [← hst]; exact .cons _ (.refl _))⟩
              | exact ⟨(j + 1, b :: B ++ [s]), ⟨by show j + 1 ≤ l.length; omega, by simp, hAB'⟩, by show l.length - (j + 1) < l.length - j; omega, .mk' ⟨by rfl, congrArg (fun z => AV.lit (.int .i64 z)) hln.symm, rfl, rfl, trivial⟩ (by rw [← hst]; exact .cons _ (.refl _))⟩
        · simp only [decide_eq_false_iff_not] at hc1
          have hjn : j = l.length := by omega
          subst hjn
          have htk : l.take l.length = l := List.take_length
          rw [htk] at hAB ⊢
          have htake : ((keep p l ++ (b :: B) ++ l.drop l.length).map Slot.cells).take (keep p l).length = (keep p l).map Slot.cells := by simp
          refine awp_exit ?_
          show AWP _ _ _ _
          refine awp_seq ?_
          refine awp_region ?_
          refine aqs rfl (q_mv (by constructor)) rfl ?_
          refine aqs rfl (q_mv (by constructor)) rfl ?_
          first | refine aqs rfl (q_slR Try.underlying38 sz40 (.inl rfl) (by first | (refine ⟨_, _, rfl, ?_⟩; with_reducible rfl) | exact bnd_int rfl (by omega)) rfl (by first | omega | (simp; done) | (simp; omega) | fail) (by first | omega | (simp; done) | (simp; omega) | fail) (by first | rfl | assumption | (simp [*]; done) | fail)) rfl ?_ | refine aqs rfl (q_slO Try.underlying38 sz40 rfl (by repeat (first | exact .here | assumption | (apply HAt.left; assumption) | apply HAt.there | apply HAt.right)) (by first | (refine ⟨_, _, rfl, ?_⟩; with_reducible rfl) | exact bnd_int rfl (by omega)) rfl (by first | omega | (simp; done) | (simp; omega) | fail) (by first | omega | (simp; done) | (simp; omega) | fail) (by first | exact Nat.zero_add _ | rfl) (by first | exact Nat.zero_add _ | rfl)) rfl ?_
          (refine aen rfl (e_clr rfl Try.underlying38 sz40 zr40 rfl (by rfl) rfl (by repeat (first | exact .here | assumption | (apply HAt.left; assumption) | apply HAt.there | apply HAt.right)) (by simp; omega) htake (by repeat (first | exact .here | apply HSet.there))) ?_; rintro _ _ ⟨rfl, rfl⟩)
          refine alist_nil ?_
          show AWP _ _ _ _
          refine awp_seq ?_
          refine awp_region ?_
          refine aqs rfl (q_mv (by constructor)) rfl ?_
          refine aqs rfl (q_mv (by constructor)) rfl ?_
          first | refine aqs rfl (q_slR Try.underlying38 sz40 (.inl rfl) rfl (by first | (refine ⟨_, _, rfl, ?_⟩; with_reducible rfl) | exact bnd_int rfl (by omega)) (by first | omega | (simp; done) | (simp; omega) | fail) (by first | omega | (simp; done) | (simp; omega) | fail) (by first | rfl | assumption | (simp [*]; done) | fail)) rfl ?_ | refine aqs rfl (q_slO Try.underlying38 sz40 rfl (by repeat (first | exact .here | assumption | (apply HAt.left; assumption) | apply HAt.there | apply HAt.right)) rfl (by first | (refine ⟨_, _, rfl, ?_⟩; with_reducible rfl) | exact bnd_int rfl (by omega)) (by first | omega | (simp; done) | (simp; omega) | fail) (by first | omega | (simp; done) | (simp; omega) | fail) (by first | exact Nat.zero_add _ | rfl) (by first | exact Nat.zero_add _ | rfl)) rfl ?_
          refine aqs rfl (q_as (by constructor)) rfl ?_
          refine alist_nil ?_
          show AWP _ _ _ _
          refine awp_ret ?_
          repeat first | with_reducible refine then_ret ?_ | with_reducible refine blk_ret ?_
          apply retq (.inr rfl) (.cons (rok_t rfl) .nil)
          rotate_left
          · exact ⟨rfl, rfl⟩
          repeat (first | exact List.Sublist.refl _ | exact List.nil_sublist _ | exact List.sublist_append_left _ _ | apply List.Sublist.cons)
end Go.Proofs.YtdlinfekifnmkaaAm
