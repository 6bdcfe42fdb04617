/- Contracts of the layer 'hist', seventh part: the program's search. Conditions: the lengths. -/
import Derived.Test.YtdlinfekifnmkaaAmHistE
set_option linter.unusedVariables false
set_option linter.unusedSimpArgs false
set_option maxRecDepth 20000
namespace Go.Proofs.YtdlinfekifnmkaaAm
open Go.Proofs
theorem awp_mid2 {P : Program} {c y : Code} {Q : Exit → St → Prop} {t : List (Nat × AV)} {n : Nat} {H : Heap} (x : List (Nat × AV)) (H2 : Heap) (h1 : AWP P c (fun e s => e = .normal ∧ Sub s ⟨x, n, H2⟩) ⟨t, n, H⟩) (h2 : AWP P y Q ⟨x, n, H2⟩) : AWP P (.seq c y) Q ⟨t, n, H⟩ :=
  awp_seq (awp_mono h1 fun e s hq => by
    obtain ⟨rfl, hs⟩ := hq
    exact awp_weak _ hs h2)
def linearS (c : List Call) (r : Int) : Bool × Int := if (c.any fun x => !mayC x) = true then (false, 1) else if 8 < c.length then (false, 8) else (linear c r, 0)
def linA (g : Bool × Int) : AV := .tup [.lit (.bool g.1), .lit (.int .i64 g.2)]
def bad86 (x : Call) : Bool := (decide (x.frm < 0) || decide (x.to < -1)) || (decide (0 ≤ x.to) && decide (x.to ≤ x.frm))
theorem bad_may (x : Call) : bad86 x = !mayC x := by
  rw [Bool.eq_iff_iff]
  simp only [bad86, mayC, Bool.or_eq_true, Bool.and_eq_true, decide_eq_true_eq, Bool.not_eq_true', Bool.and_eq_false_iff, Bool.or_eq_false_iff, decide_eq_false_iff_not]
  omega
theorem linS_bad {c : List Call} {r : Int} {i : Nat} (hi : i < c.length) (h : mayC (nth c i) = false) : linearS c r = (false, 1) := by
  rw [linearS, if_pos (List.any_eq_true.2 ⟨_, nth_mem hi, by rw [h]; rfl⟩)]
theorem linS_many {c : List Call} {r : Int} (h : ∀ j, j < c.length → mayC (nth c j) = true) (hl : 8 < c.length) : linearS c r = (false, 8) := by
  rw [linearS, if_neg, if_pos hl]
  intro ha
  obtain ⟨x, hx, hm⟩ := List.any_eq_true.1 ha
  obtain ⟨j, hj⟩ := List.mem_iff_getElem?.1 hx
  have := h j (List.getElem?_eq_some_iff.1 hj).1
  rw [nth_of hj] at this
  rw [this] at hm; cases hm
theorem linS_ok {c : List Call} {r : Int} (h : ∀ j, j < c.length → mayC (nth c j) = true) (hl : ¬ 8 < c.length) : linearS c r = (linear c r, 0) := by
  rw [linearS, if_neg, if_neg hl]
  intro ha
  obtain ⟨x, hx, hm⟩ := List.any_eq_true.1 ha
  obtain ⟨j, hj⟩ := List.mem_iff_getElem?.1 hx
  have := h j (List.getElem?_eq_some_iff.1 hj).1
  rw [nth_of hj] at this
  rw [this] at hm; cases hm
theorem ord_nil (c : List Call) : Ord c [] := ⟨List.nodup_nil, by simp⟩
def doneF (o : List Nat) (w : Int) : Option Unit := if ∃ n ∈ o, (n : Int) = w then some () else none
theorem done_at (o : List Nat) (k : Nat) : (doneF o (k : Int)).isSome = decide (k ∈ o) := by
  unfold doneF
  by_cases h : k ∈ o
  · rw [if_pos ⟨k, h, rfl⟩, decide_eq_true h]; rfl
  · rw [if_neg, decide_eq_false h]; rfl
    rintro ⟨n, hn, he⟩
    exact h (by rw [show k = n by omega]; exact hn)
theorem done_nil : MapOf ikv bvv [] (doneF []) := mo_ext mo_nil fun k => by simp [doneF]
theorem done_add {o : List Nat} {i : Nat} {kvs : List (Value × AV)} (h : MapOf ikv bvv kvs (fun w => if w = (i : Int) then some () else doneF o w)) : MapOf ikv bvv kvs (doneF (o ++ [i])) := mo_ext h fun w => by
  unfold doneF
  by_cases hw : w = (i : Int)
  · subst hw
    rw [if_pos rfl, if_pos ⟨i, by simp, rfl⟩]
  · rw [if_neg hw]
    have : (∃ n ∈ o ++ [i], (n : Int) = w) ↔ ∃ n ∈ o, (n : Int) = w := by
      constructor
      · rintro ⟨n, hn, he⟩
        rcases List.mem_append.1 hn with hn | hn
        · exact ⟨n, hn, he⟩
        · simp at hn; subst hn; exact absurd he.symm hw
      · rintro ⟨n, hn, he⟩; exact ⟨n, by simp [hn], he⟩
    simp only [this]
theorem done_del {o : List Nat} {i : Nat} {kvs : List (Value × AV)} (hi : i ∉ o) (h : MapOf ikv bvv kvs (fun w => if w = (i : Int) then none else doneF (o ++ [i]) w)) : MapOf ikv bvv kvs (doneF o) := mo_ext h fun w => by
  unfold doneF
  by_cases hw : w = (i : Int)
  · subst hw
    rw [if_pos rfl, if_neg]
    rintro ⟨n, hn, he⟩
    exact hi (by rw [show i = n by omega]; exact hn)
  · rw [if_neg hw]
    have : (∃ n ∈ o ++ [i], (n : Int) = w) ↔ ∃ n ∈ o, (n : Int) = w := by
      constructor
      · rintro ⟨n, hn, he⟩
        rcases List.mem_append.1 hn with hn | hn
        · exact ⟨n, hn, he⟩
        · simp at hn; subst hn; exact absurd he.symm hw
      · rintro ⟨n, hn, he⟩; exact ⟨n, by simp [hn], he⟩
    simp only [this]
set_option maxHeartbeats 4000000 in
theorem free139_c (c : List Call) (o : List Nat) (i : Nat) (hi : i < c.length) (hc : c.length ≤ 1000) (kvs : List (Value × AV)) (hm : MapOf ikv bvv kvs (doneF o)) (b9 um b2 : Nat) (p1 p2 p3 p4 p5 p6 : Nat × Ob) :
    QCall Try.prog 139 [.lit (.int .i64 i), .ptr b2 0 0, .ptr b9 0 0] [p1, p2, p3, (b9, .arr 175 1 [[.mp um]]), (um, .map kvs), p4, p5, p6, (b2, .arr 90 1 [[.ro (c.map Call.cells)]])] (.lit (.bool (freeB c o i))) := by
  have hD := mo_int hm
  have hs2 := get_map (f := Call.cells) (nth_get hi)
  refine acall_intro (n := 27) (rvs := [.tmp 4]) Try.func139 rfl rfl rfl (Nat.le_of_ble_eq_true rfl) ?_
  refine awp_seq ?_
  refine awp_region ?_
  refine aqs rfl (q_as (by constructor)) rfl ?_
  refine alist_nil ?_
  show AWP _ _ _ _
  refine awp_seq ?_
  refine awp_seq ?_
  refine awp_region ?_
  first | refine aqs rfl (q_ldpN ag90 rfl (by repeat (first | exact .here | assumption | (apply HAt.left; assumption) | apply HAt.there | apply HAt.right)) (by first | rfl | assumption | (simp [*]; done) | fail) (by first | rfl | assumption | (simp [*]; done) | fail) (by constructor)) rfl ?_ | refine aqs rfl (q_ld1N ag90 rfl (by constructor)) rfl ?_
  first | refine aqs rfl (q_len Try.underlying90 .ro) rfl ?_ | refine aqs rfl (q_lenO Try.underlying90 rfl (by repeat (first | exact .here | assumption | (apply HAt.left; assumption) | apply HAt.there | apply HAt.right)) (by first | omega | (simp; done) | (simp; omega) | fail) (by first | exact Nat.sub_zero _ | rfl)) rfl ?_ | refine aqs rfl (q_len Try.underlying90 .nil) rfl ?_ | refine aqs rfl (q_len Try.underlying90 .cro) rfl ?_
  refine aqs rfl (q_mv (by constructor)) rfl ?_
  refine alist_nil ?_
  show AWP _ _ _ _
  refine awp_block ?_
  rw [List.length_map]
  refine awp_loop_inv (fun k : Nat => ⟨[(9, .lit (.int .i64 k)), (8, .lit (.int .i64 c.length)), (7, .ro (c.map Call.cells)), (0, .lit (.int .i64 i)), (1, .ptr b2 0 0), (2, .ptr b9 0 0)], 27, [p1, p2, p3, (b9, .arr 175 1 [[.mp um]]), (um, .map kvs), p4, p5, p6, (b2, .arr 90 1 [[.ro (c.map Call.cells)]])]⟩) (fun k => k ≤ c.length ∧ ∀ j, j < k → (decide (j ∈ o) || !before (nth c j) (nth c i)) = true) (fun k => c.length - k) 0 ?_ ?_ ?_
  ·exact ⟨Nat.zero_le _, fun j h => absurd h (Nat.not_lt_zero _)⟩
  ·exact .mk' (by repeat (first | exact trivial | refine ⟨rfl, ?_⟩)) (by repeat (first | exact .refl _ | apply List.Sublist.cons_cons | apply List.Sublist.cons))
  ·rintro k ⟨hk, hall⟩
   refine awp_seq ?_
   refine awp_region ?_
   refine aqs rfl (q_lss rfl rfl) rfl ?_
   refine alist_nil ?_
   show AWP _ _ _ _
   refine awp_seq ?_
   refine awp_cond rfl (fun hc0 => ?_) (fun hc0 => ?_)
   ·simp only [decide_eq_true_eq] at hc0
    have hk2 := get_map (f := Call.cells) (nth_get (c := c) (i := k) (by omega))
    refine awp_skip ?_
    show AWP _ _ _ _
    refine awp_seq ?_
    refine awp_block ?_
    refine awp_seq ?_
    refine awp_region ?_
    refine aqs rfl (q_mv (by constructor)) rfl ?_
    first | refine aqs rfl (q_iaN Try.underlying90 sz103 (.inl rfl) rfl (by omega) (by first | rfl | assumption | (simp [*]; done) | fail) (by first | rfl | assumption | (simp [*]; done) | fail) (by decide) (by first | ((repeat constructor); done) | exact .same _)) rfl ?_ | refine aqs rfl (q_iaS Try.underlying90 sz103 rfl (by repeat (first | exact .here | assumption | (apply HAt.left; assumption) | apply HAt.there | apply HAt.right)) rfl (by omega) (by omega) (by first | exact Nat.zero_add _ | rfl)) rfl ?_ | refine aqs rfl (q_iaN Try.underlying90 sz103 (.inr rfl) rfl (by omega) (by first | rfl | assumption | (simp [*]; done) | fail) (by first | rfl | assumption | (simp [*]; done) | fail) (by decide) (by first | ((repeat constructor); done) | exact .same _)) rfl ?_
    first | refine aqs rfl (q_ldpW ag103 sz103 rfl (by repeat (first | exact .here | assumption | (apply HAt.left; assumption) | apply HAt.there | apply HAt.right)) (by first | rfl | assumption | (simp [*]; done) | fail) (by first | rfl | assumption | (simp [*]; done) | fail) (by decide)) rfl ?_ | refine aqs rfl (q_ldW ag103 sz103 rfl (by first | rfl | assumption | (simp [*]; done) | fail)) rfl ?_ | refine aqs rfl (q_ldpP ag103 sz103 rfl (by repeat (first | exact .here | assumption | (apply HAt.left; assumption) | apply HAt.there | apply HAt.right)) (by first | rfl | assumption | (simp [*]; done) | fail) (by first | decide | (simp; done) | omega | fail) (by decide) (by first | ((repeat constructor); done) | exact .same _)) rfl ?_ | refine aqs rfl (q_ldP ag103 sz103 rfl (by first | decide | (simp; done) | omega | fail) (by first | ((repeat constructor); done) | exact .same _)) rfl ?_
    (refine aes rfl (e_al (xs := [.lit (.bool false), .lit (.int .i64 0), .lit (.int .i64 0), .lit (.int .i64 0), .lit (.bool false), .lit (.int .i64 0), .lit (.int .i64 0)]) (k := 7) zr103 (.same _) rfl) rfl ?_; rintro _ _ ⟨u6, rfl, rfl⟩)
    refine aqs rfl (q_as (by constructor)) rfl ?_
    first | (refine aen rfl (e_stW sz103 rfl (by repeat (first | exact .here | assumption | (apply HAt.left; assumption) | apply HAt.there | apply HAt.right)) (by constructor) (by first | rfl | assumption | (simp [*]; done) | fail) rfl (by repeat (first | exact .here | apply HSet.there))) ?_; rintro _ _ ⟨rfl, rfl⟩) | (refine aen rfl (e_stP sz103 rfl (by repeat (first | exact .here | assumption | (apply HAt.left; assumption) | apply HAt.there | apply HAt.right)) (by first | rfl | assumption | (simp [*]; done) | fail) (by constructor) (by first | rfl | assumption | (simp [*]; done) | fail) rfl (by first | decide | omega) (by first | ((repeat constructor); done) | exact .same _) (by first | exact .one | exact .set) (by repeat (first | exact .here | apply HSet.there))) ?_; rintro _ _ ⟨rfl, rfl⟩)
    refine alist_nil ?_
    show AWP _ _ _ _
    refine awp_mid2 [(25, .lit (.bool (!decide (k ∈ o) && before (nth c k) (nth c i)))), (9, .lit (.int .i64 k)), (8, .lit (.int .i64 c.length)), (7, .ro (c.map Call.cells)), (0, .lit (.int .i64 i)), (1, .ptr b2 0 0), (2, .ptr b9 0 0)] [p1, p2, p3, (b9, .arr 175 1 [[.mp um]]), p4, p5, p6, (b2, .arr 90 1 [[.ro (c.map Call.cells)]]), (um, .map kvs)] ?_ ?_
    ·skip
     refine awp_draw 12 [(0, false), (1, false), (2, true), (3, false), (4, false), (5, false), (6, false), (7, false), (8, false), (9, false), (10, false), (11, false)] [_, _, _, _, _, _, _, _, _] ([_]) mixed (by kernel_rfl) (.cons _ (.cons _ (.cons _ (.cons _ (.cons _ (List.perm_append_singleton _ _).symm))))) ?_
     all_goals (first | refine glq rfl (.inl ⟨rfl, q_ldpN ag175 rfl (by repeat (first | exact .here | assumption | (apply HAt.left; assumption) | apply HAt.there | apply HAt.right)) (by first | rfl | assumption | (simp [*]; done) | fail) (by first | rfl | assumption | (simp [*]; done) | fail) (by constructor)⟩) rfl ?_ | refine glq rfl (.inl ⟨rfl, q_ld1N ag175 rfl (by constructor)⟩) rfl ?_)
     all_goals (refine glq rfl (.inl ⟨rfl, q_mv (by constructor)⟩) rfl ?_)
     all_goals ((refine gla rfl rfl (EOp.frame (e_lk Try.underlying175 KL3 zv4 rfl (by repeat (first | exact .here | assumption | (apply HAt.left; assumption) | apply HAt.there | apply HAt.right)) (by first | exact kv29 | exact .lit) ⟨_, rfl⟩ (by first | assumption | (intro p hp; cases hp; done)))) rfl ?_; rintro rlk _ ⟨hlk, rfl⟩))
     obtain rfl := mo_in hm hlk
     rw [done_at]
     all_goals (refine glq rfl (.inl ⟨rfl, q_not rfl⟩) rfl ?_)
     all_goals (refine glq rfl (.inl ⟨rfl, q_mv (by constructor)⟩) rfl ?_)
     all_goals try (refine gcase (fun hb4 => ?_) (fun hb4 => ?_))
     all_goals first | (exfalso; cases hb4; done) | skip
     all_goals (first | refine glq rfl (.inl ⟨rfl, q_ldpW ag103 sz103 rfl (by repeat (first | exact .here | assumption | (apply HAt.left; assumption) | apply HAt.there | apply HAt.right)) (by first | rfl | assumption | (simp [*]; done) | fail) (by first | rfl | assumption | (simp [*]; done) | fail) (by decide)⟩) rfl ?_ | refine glq rfl (.inl ⟨rfl, q_ldW ag103 sz103 rfl (by first | rfl | assumption | (simp [*]; done) | fail)⟩) rfl ?_ | refine glq rfl (.inl ⟨rfl, q_ldpP ag103 sz103 rfl (by repeat (first | exact .here | assumption | (apply HAt.left; assumption) | apply HAt.there | apply HAt.right)) (by first | rfl | assumption | (simp [*]; done) | fail) (by first | decide | (simp; done) | omega | fail) (by decide) (by first | ((repeat constructor); done) | exact .same _)⟩) rfl ?_ | refine glq rfl (.inl ⟨rfl, q_ldP ag103 sz103 rfl (by first | decide | (simp; done) | omega | fail) (by first | ((repeat constructor); done) | exact .same _)⟩) rfl ?_ | refine glq rfl (.inr ⟨rfl, rfl⟩) rfl ?_)
     all_goals (first | refine glq rfl (.inl ⟨rfl, q_ldpN ag90 rfl (by repeat (first | exact .here | assumption | (apply HAt.left; assumption) | apply HAt.there | apply HAt.right)) (by first | rfl | assumption | (simp [*]; done) | fail) (by first | rfl | assumption | (simp [*]; done) | fail) (by constructor)⟩) rfl ?_ | refine glq rfl (.inl ⟨rfl, q_ld1N ag90 rfl (by constructor)⟩) rfl ?_ | refine glq rfl (.inr ⟨rfl, rfl⟩) rfl ?_)
     all_goals (first | refine glq rfl (.inl ⟨rfl, q_mv (by constructor)⟩) rfl ?_ | refine glq rfl (.inr ⟨rfl, rfl⟩) rfl ?_)
     all_goals (first | refine glq rfl (.inl ⟨rfl, q_iaN Try.underlying90 sz103 (.inl rfl) rfl (by omega) (by first | rfl | assumption | (simp [*]; done) | fail) (by first | rfl | assumption | (simp [*]; done) | fail) (by decide) (by first | ((repeat constructor); done) | exact .same _)⟩) rfl ?_ | refine glq rfl (.inl ⟨rfl, q_iaS Try.underlying90 sz103 rfl (by repeat (first | exact .here | assumption | (apply HAt.left; assumption) | apply HAt.there | apply HAt.right)) rfl (by omega) (by omega) (by first | exact Nat.zero_add _ | rfl)⟩) rfl ?_ | refine glq rfl (.inl ⟨rfl, q_iaN Try.underlying90 sz103 (.inr rfl) rfl (by omega) (by first | rfl | assumption | (simp [*]; done) | fail) (by first | rfl | assumption | (simp [*]; done) | fail) (by decide) (by first | ((repeat constructor); done) | exact .same _)⟩) rfl ?_ | refine glq rfl (.inr ⟨rfl, rfl⟩) rfl ?_)
     all_goals (first | refine glq rfl (.inl ⟨rfl, q_ldpW ag103 sz103 rfl (by repeat (first | exact .here | assumption | (apply HAt.left; assumption) | apply HAt.there | apply HAt.right)) (by first | rfl | assumption | (simp [*]; done) | fail) (by first | rfl | assumption | (simp [*]; done) | fail) (by decide)⟩) rfl ?_ | refine glq rfl (.inl ⟨rfl, q_ldW ag103 sz103 rfl (by first | rfl | assumption | (simp [*]; done) | fail)⟩) rfl ?_ | refine glq rfl (.inl ⟨rfl, q_ldpP ag103 sz103 rfl (by repeat (first | exact .here | assumption | (apply HAt.left; assumption) | apply HAt.there | apply HAt.right)) (by first | rfl | assumption | (simp [*]; done) | fail) (by first | decide | (simp; done) | omega | fail) (by decide) (by first | ((repeat constructor); done) | exact .same _)⟩) rfl ?_ | refine glq rfl (.inl ⟨rfl, q_ldP ag103 sz103 rfl (by first | decide | (simp; done) | omega | fail) (by first | ((repeat constructor); done) | exact .same _)⟩) rfl ?_ | refine glq rfl (.inr ⟨rfl, rfl⟩) rfl ?_)
     all_goals (first | refine glq rfl (.inl ⟨rfl, e_callN cb89 (before89_c (nth c k) (nth c i) _) rfl rfl⟩) rfl ?_ | refine glq rfl (.inl ⟨rfl, e_callN cb89 (ACall.arg (before89_c (nth c k) (nth c i) _) (by repeat (first | exact ArgL.nil | (apply ArgL.cons; (· first | exact .same | exact .cro | exact .nil))))) rfl rfl⟩) rfl ?_ | refine glq rfl (.inr ⟨rfl, rfl⟩) rfl ?_)
     all_goals (first | refine glq rfl (.inl ⟨rfl, q_pickT rfl (by constructor)⟩) rfl ?_ | refine glq rfl (.inl ⟨rfl, q_pickF rfl (by constructor)⟩) rfl ?_)
     all_goals refine gldA ?_
     all_goals (refine alist_nil ?_)
     all_goals (exact ⟨rfl, .mk' (by repeat (first | exact trivial | refine ⟨rfl, ?_⟩ | (refine ⟨?_, ?_⟩; (· first | (rw [hb4]; rfl) | fail)))) (by repeat (first | exact .refl _ | exact List.nil_sublist _ | exact List.sublist_append_left _ _ | apply List.Sublist.cons))⟩)
    refine awp_perm (.cons _ (.cons _ (.cons _ (.cons _ (List.perm_append_singleton (um, Ob.map kvs) [p4, p5, p6, (b2, .arr 90 1 [[.ro (c.map Call.cells)]])]))))) ?_
    refine awp_cond rfl (fun hc1 => ?_) (fun hc1 => ?_)
    ·have e : freeB c o i = false := all_no (i := k) (by omega) (by
      simp only [Bool.and_eq_true, Bool.not_eq_true'] at hc1
      rw [hc1.1, hc1.2]; rfl)
     rw [e]
     refine awp_seq ?_
     refine awp_region ?_
     refine aqs rfl (q_as (by constructor)) rfl ?_
     refine alist_nil ?_
     show AWP _ _ _ _
     refine awp_ret ?_
     repeat first | with_reducible refine then_ret ?_ | with_reducible refine blk_ret ?_
     apply retq (.inr rfl) (.cons (rok_t rfl) .nil)
     rotate_left
     ·exact ⟨rfl, rfl⟩
     repeat (first | exact List.Sublist.refl _ | exact List.nil_sublist _ | exact List.sublist_append_left _ _ | apply List.Sublist.cons)
    ·have hok : (decide (k ∈ o) || !before (nth c k) (nth c i)) = true := by
      cases h1 : decide (k ∈ o) with
      | true => rfl
      | false => rw [h1] at hc1; simpa using hc1
     refine awp_skip ?_
     show AWP _ _ _ _
     refine awp_region ?_
     first | refine aqs rfl (q_add64 rfl rfl (by omega) (by omega)) rfl ?_ | refine aqs rfl (q_add rfl rfl) rfl ?_
     refine aqs rfl (q_mv (by constructor)) rfl ?_
     refine alist_nil ?_
     show ∃ y, _ ∧ _ ∧ _
     exact ⟨k + 1, ⟨by omega, upto hall hok⟩, by omega, .mk' ⟨by rfl, rfl, rfl, rfl, rfl, rfl, trivial⟩ (by repeat (first | exact List.Sublist.refl _ | exact List.nil_sublist _ | exact List.sublist_append_left _ _ | (apply List.Sublist.cons_cons) | (apply List.Sublist.cons)))⟩
   ·simp only [decide_eq_false_iff_not] at hc0
    have e : freeB c o i = true := all_yes fun j hj => hall j (by omega)
    rw [e]
    refine awp_exit ?_
    show AWP _ _ _ _
    refine awp_seq ?_
    refine awp_region ?_
    refine aqs rfl (q_as (by constructor)) rfl ?_
    refine alist_nil ?_
    show AWP _ _ _ _
    refine awp_ret ?_
    repeat first | with_reducible refine then_ret ?_ | with_reducible refine blk_ret ?_
    apply retq (.inr rfl) (.cons (rok_t rfl) .nil)
    rotate_left
    ·exact ⟨rfl, rfl⟩
    repeat (first | exact List.Sublist.refl _ | exact List.nil_sublist _ | exact List.sublist_append_left _ _ | apply List.Sublist.cons)
end Go.Proofs.YtdlinfekifnmkaaAm
