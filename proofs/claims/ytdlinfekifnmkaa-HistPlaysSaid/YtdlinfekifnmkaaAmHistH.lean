/- Contracts of the layer 'hist', eighth part: the program's search and Linear. Conditions: the lengths. -/
import Derived.Test.YtdlinfekifnmkaaAmHistG
set_option linter.unusedVariables false
set_option linter.unusedSimpArgs false
set_option maxRecDepth 20000
namespace Go.Proofs.YtdlinfekifnmkaaAm
open Go.Proofs
def leftB (c : List Call) (o : List Nat) (n : Nat) : Bool := (List.range n).any fun j => !decide (j ∈ o) && decide (0 ≤ (nth c j).to)
theorem left_next (c : List Call) (o : List Nat) (n : Nat) : leftB c o (n + 1) = (leftB c o n || (!decide (n ∈ o) && decide (0 ≤ (nth c n).to))) := by
  unfold leftB
  rw [List.range_succ, List.any_append]
  simp
theorem left_whole (c : List Call) (o : List Nat) : wholeB c o = !leftB c o c.length := by
  rw [Bool.eq_iff_iff, whole_iff]
  unfold leftB
  simp only [Bool.not_eq_true', List.any_eq_false, List.mem_range, Bool.and_eq_true, Bool.not_eq_true', decide_eq_false_iff_not, decide_eq_true_eq, not_and]
  constructor
  · intro h i hi hn ht; exact hn (h i hi ht)
  · intro h i hi ht
    exact Classical.byContradiction fun hn => h i hi hn ht
abbrev hsH (c : List Call) (r : Int) (b2 b3 b8 b9 b10 b11 um : Nat) (o : List Nat) (kvs : List (Value × AV)) (uo : Nat) (ex : List Call) : Heap :=
  [(b11, .arr 23 1 [[.clo (.func 140) [] [.ptr b2 0 0, .ptr b9 0 0, .ptr b10 0 0, .ptr b8 0 0, .ptr b3 0 0, .ptr b11 0 0]]]),
   (b10, .arr 177 1 [[.clo (.func 139) [] [.ptr b2 0 0, .ptr b9 0 0]]]), (b9, .arr 175 1 [[.mp um]]), (um, .map kvs),
   (uo, .arr 103 7 ((listed c o ++ ex).map Call.cells)), (b8, .arr 90 1 [[.sl uo 0 (listed c o).length]]), (b3, .arr 3 1 [[.lit (.int .i64 r)]]), (b2, .arr 90 1 [[.ro (c.map Call.cells)]])]
set_option maxHeartbeats 4000000 in
theorem search140_c (c : List Call) (r : Int) (hc : c.length ≤ 1000) (b2 b3 b8 b9 b10 b11 um : Nat) : ∀ (n : Nat) (o : List Nat) (kvs : List (Value × AV)) (uo : Nat) (ex : List Call), Ord c o → c.length < n + o.length → MapOf ikv bvv kvs (doneF o) →
    ACall Try.prog 140 [.ptr b2 0 0, .ptr b9 0 0, .ptr b10 0 0, .ptr b8 0 0, .ptr b3 0 0, .ptr b11 0 0] (hsH c r b2 b3 b8 b9 b10 b11 um o kvs uo ex) (fun rr H' => ∃ (o' : List Nat) (kvs' : List (Value × AV)) (uo' : Nat) (ex' : List Call),
      rr = .lit (.bool (seek c r n o)) ∧ H' = hsH c r b2 b3 b8 b9 b10 b11 um o' kvs' uo' ex' ∧ MapOf ikv bvv kvs' (doneF o') ∧ (seek c r n o = false → o' = o)) := by
  intro n
  induction n with
  | zero => intro o kvs uo ex ho hn hm; have := ho.len; omega
  | succ n ih =>
    intro o kvs uo ex ho hn hm
    have hD := mo_int hm
    have hol := ho.len
    have hll : (listed c o).length = o.length := by simp [listed]
    refine acall_intro (n := 81) (rvs := [.tmp 6]) Try.func140 rfl rfl rfl (Nat.le_of_ble_eq_true rfl) ?_
    refine awp_seq ?_
    refine awp_region ?_
    refine aqs rfl (q_as (by constructor)) rfl ?_
    refine alist_nil ?_
    show AWP _ _ _ _
    refine awp_seq ?_
    refine awp_region ?_
    refine aqs rfl (q_as (by constructor)) rfl ?_
    refine alist_nil ?_
    show AWP _ _ _ _
    refine awp_seq ?_
    refine awp_seq ?_
    refine awp_region ?_
    first | refine aqs rfl (q_ldpN ag90 rfl (by repeat (first | exact .here | assumption | (apply HAt.left; assumption) | apply HAt.there | apply HAt.right)) (by first | rfl | assumption | (simp [*]; done) | fail) (by first | rfl | assumption | (simp [*]; done) | fail) (by constructor)) rfl ?_ | refine aqs rfl (q_ld1N ag90 rfl (by constructor)) rfl ?_
    first | refine aqs rfl (q_len Try.underlying90 .ro) rfl ?_ | refine aqs rfl (q_lenO Try.underlying90 rfl (by repeat (first | exact .here | assumption | (apply HAt.left; assumption) | apply HAt.there | apply HAt.right)) (by first | omega | (simp; done) | (simp; omega) | fail) (by first | exact Nat.sub_zero _ | rfl)) rfl ?_ | refine aqs rfl (q_len Try.underlying90 .nil) rfl ?_ | refine aqs rfl (q_len Try.underlying90 .cro) rfl ?_
    refine aqs rfl (q_mv (by constructor)) rfl ?_
    refine alist_nil ?_
    show AWP _ _ _ _
    refine awp_block ?_
    rw [List.length_map]
    refine awp_loop_inv (fun i : Nat => ⟨[(14, .lit (.int .i64 i)), (13, .lit (.int .i64 c.length)), (12, .ro (c.map Call.cells)), (7, .lit (.bool (leftB c o i))), (0, .ptr b2 0 0), (1, .ptr b9 0 0), (2, .ptr b10 0 0), (3, .ptr b8 0 0), (4, .ptr b3 0 0), (5, .ptr b11 0 0)], 81, hsH c r b2 b3 b8 b9 b10 b11 um o kvs uo ex⟩) (fun i => i ≤ c.length) (fun i => c.length - i) 0 ?_ ?_ ?_
    ·exact Nat.zero_le _
    ·exact .mk' (by repeat (first | exact trivial | refine ⟨rfl, ?_⟩)) (by repeat (first | exact .refl _ | apply List.Sublist.cons_cons | apply List.Sublist.cons))
    ·intro i hi
     have hlf := left_next c o i
     refine awp_seq ?_
     refine awp_region ?_
     refine aqs rfl (q_lss rfl rfl) rfl ?_
     refine alist_nil ?_
     show AWP _ _ _ _
     refine awp_seq ?_
     refine awp_cond rfl (fun hc0 => ?_) (fun hc0 => ?_)
     ·simp only [decide_eq_true_eq] at hc0
      have hs2 := get_map (f := Call.cells) (nth_get (c := c) (i := i) (by omega))
      refine awp_skip ?_
      show AWP _ _ _ _
      refine awp_seq ?_
      refine awp_block ?_
      refine awp_seq ?_
      refine awp_region ?_
      refine aqs rfl (q_mv (by constructor)) rfl ?_
      first | refine aqs rfl (q_iaN Try.underlying90 sz103 (.inl rfl) rfl (by omega) (by first | rfl | assumption | (simp [*]; done) | fail) (by first | rfl | assumption | (simp [*]; done) | fail) (by decide) (by first | ((repeat constructor); done) | exact .same _)) rfl ?_ | refine aqs rfl (q_iaS Try.underlying90 sz103 rfl (by repeat (first | exact .here | assumption | (apply HAt.left; assumption) | apply HAt.there | apply HAt.right)) rfl (by omega) (by omega) (by first | exact Nat.zero_add _ | rfl)) rfl ?_ | refine aqs rfl (q_iaN Try.underlying90 sz103 (.inr rfl) rfl (by omega) (by first | rfl | assumption | (simp [*]; done) | fail) (by first | rfl | assumption | (simp [*]; done) | fail) (by decide) (by first | ((repeat constructor); done) | exact .same _)) rfl ?_
      first | refine aqs rfl (q_ldpW ag103 sz103 rfl (by repeat (first | exact .here | assumption | (apply HAt.left; assumption) | apply HAt.there | apply HAt.right)) (by first | rfl | assumption | (simp [*]; done) | fail) (by first | rfl | assumption | (simp [*]; done) | fail) (by decide)) rfl ?_ | refine aqs rfl (q_ldW ag103 sz103 rfl (by first | rfl | assumption | (simp [*]; done) | fail)) rfl ?_ | refine aqs rfl (q_ldpP ag103 sz103 rfl (by repeat (first | exact .here | assumption | (apply HAt.left; assumption) | apply HAt.there | apply HAt.right)) (by first | rfl | assumption | (simp [*]; done) | fail) (by first | decide | (simp; done) | omega | fail) (by decide) (by first | ((repeat constructor); done) | exact .same _)) rfl ?_ | refine aqs rfl (q_ldP ag103 sz103 rfl (by first | decide | (simp; done) | omega | fail) (by first | ((repeat constructor); done) | exact .same _)) rfl ?_
      (refine aes rfl (e_al (xs := [.lit (.bool false), .lit (.int .i64 0), .lit (.int .i64 0), .lit (.int .i64 0), .lit (.bool false), .lit (.int .i64 0), .lit (.int .i64 0)]) (k := 7) zr103 (.same _) rfl) rfl ?_; rintro _ _ ⟨u9, rfl, rfl⟩)
      refine aqs rfl (q_as (by constructor)) rfl ?_
      first | (refine aen rfl (e_stW sz103 rfl (by repeat (first | exact .here | assumption | (apply HAt.left; assumption) | apply HAt.there | apply HAt.right)) (by constructor) (by first | rfl | assumption | (simp [*]; done) | fail) rfl (by repeat (first | exact .here | apply HSet.there))) ?_; rintro _ _ ⟨rfl, rfl⟩) | (refine aen rfl (e_stP sz103 rfl (by repeat (first | exact .here | assumption | (apply HAt.left; assumption) | apply HAt.there | apply HAt.right)) (by first | rfl | assumption | (simp [*]; done) | fail) (by constructor) (by first | rfl | assumption | (simp [*]; done) | fail) rfl (by first | decide | omega) (by first | ((repeat constructor); done) | exact .same _) (by first | exact .one | exact .set) (by repeat (first | exact .here | apply HSet.there))) ?_; rintro _ _ ⟨rfl, rfl⟩)
      refine alist_nil ?_
      show AWP _ _ _ _
      refine awp_mid1 [(7, .lit (.bool (leftB c o i || (!decide (i ∈ o) && decide ((0 : Int) ≤ (nth c i).to))))), (14, .lit (.int .i64 i)), (13, .lit (.int .i64 c.length)), (12, .ro (c.map Call.cells)), (0, .ptr b2 0 0), (1, .ptr b9 0 0), (2, .ptr b10 0 0), (3, .ptr b8 0 0), (4, .ptr b3 0 0), (5, .ptr b11 0 0)] ?_ ?_
      ·skip
       refine awp_region ?_
       all_goals (refine aqs rfl (q_mv (by constructor)) rfl ?_)
       all_goals (refine aqs rfl (q_mv (by constructor)) rfl ?_)
       all_goals try (refine acase (fun hb1 => ?_) (fun hb1 => ?_))
       all_goals first | (exfalso; cases hb1; done) | skip
       all_goals (first | refine ans rfl rfl ?_ | refine aqs rfl (q_ldpN ag175 rfl (by repeat (first | exact .here | assumption | (apply HAt.left; assumption) | apply HAt.there | apply HAt.right)) (by first | rfl | assumption | (simp [*]; done) | fail) (by first | rfl | assumption | (simp [*]; done) | fail) (by constructor)) rfl ?_ | refine aqs rfl (q_ld1N ag175 rfl (by constructor)) rfl ?_)
       all_goals (first | refine ans rfl rfl ?_ | refine aqs rfl (q_mv (by constructor)) rfl ?_)
       all_goals (first | refine ans rfl rfl ?_ | (refine aes rfl (e_lk Try.underlying175 KL3 zv4 rfl (by repeat (first | exact .here | assumption | (apply HAt.left; assumption) | apply HAt.there | apply HAt.right)) (by first | exact kv29 | exact .lit) ⟨_, rfl⟩ (by first | assumption | (intro p hp; cases hp; done))) rfl ?_; rintro rlk _ ⟨hlk, rfl⟩))
       all_goals try (obtain rfl := mo_in hm hlk; rw [done_at])
       all_goals (first | refine ans rfl rfl ?_ | refine aqs rfl (q_not rfl) rfl ?_)
       all_goals (first | refine ans rfl rfl ?_ | refine aqs rfl (q_mv (by constructor)) rfl ?_)
       all_goals try (refine acase (fun hb6 => ?_) (fun hb6 => ?_))
       all_goals first | (exfalso; cases hb6; done) | skip
       all_goals (first | refine ans rfl rfl ?_ | refine aqs rfl (q_fapP fl103_6 (by decide) rfl rfl) rfl ?_ | refine aqs rfl (q_faP fl103_6 (by decide) rfl (by first | ((repeat constructor); done) | exact .same _)) rfl ?_)
       all_goals (first | refine ans rfl rfl ?_ | refine aqs rfl (q_ldpN ag3 rfl (by repeat (first | exact .here | assumption | (apply HAt.left; assumption) | apply HAt.there | apply HAt.right)) (by first | rfl | assumption | (simp [*]; done) | fail) (by first | rfl | assumption | (simp [*]; done) | fail) (by constructor)) rfl ?_ | refine aqs rfl (q_ld1N ag3 rfl (by constructor)) rfl ?_)
       all_goals (first | refine ans rfl rfl ?_ | refine aqs rfl (q_geq rfl rfl) rfl ?_)
       all_goals (first | refine ans rfl rfl ?_ | refine aqs rfl (q_pickT rfl (by constructor)) rfl ?_ | refine aqs rfl (q_pickF rfl (by constructor)) rfl ?_)
       all_goals (first | refine aqs rfl (q_pickT rfl (by constructor)) rfl ?_ | refine aqs rfl (q_pickF rfl (by constructor)) rfl ?_)
       all_goals (refine aqs rfl (q_as (by constructor)) rfl ?_)
       all_goals (refine alist_nil ?_)
       all_goals (exact ⟨rfl, .mk' (by repeat (first | exact trivial | refine ⟨rfl, ?_⟩ | (refine ⟨?_, ?_⟩; (· first | (rw [hb1, hb6]; rfl) | (rw [hb1]; rfl) | fail)))) (by repeat (first | exact .refl _ | exact List.nil_sublist _ | exact List.sublist_append_left _ _ | apply List.Sublist.cons))⟩)
      show AWP _ _ _ _
      refine awp_region ?_
      first | refine aqs rfl (q_add64 rfl rfl (by omega) (by omega)) rfl ?_ | refine aqs rfl (q_add rfl rfl) rfl ?_
      refine aqs rfl (q_mv (by constructor)) rfl ?_
      refine alist_nil ?_
      show ∃ y, _ ∧ _ ∧ _
      exact ⟨i + 1, by omega, by omega, by rw [hlf]; exact .mk' ⟨by rfl, rfl, rfl, rfl, rfl, rfl, rfl, rfl, rfl, rfl, trivial⟩ (by repeat (first | exact List.Sublist.refl _ | exact List.nil_sublist _ | exact List.sublist_append_left _ _ | (apply List.Sublist.cons_cons) | (apply List.Sublist.cons)))⟩
     ·simp only [decide_eq_false_iff_not] at hc0
      obtain rfl : i = c.length := by omega
      have hwl := left_whole c o
      refine awp_exit ?_
      show AWP _ _ _ _
      refine awp_seq ?_
      refine awp_seq ?_
      refine awp_region ?_
      refine aqs rfl (q_mv (by constructor)) rfl ?_
      refine aqs rfl (q_not rfl) rfl ?_
      refine alist_nil ?_
      show AWP _ _ _ _
      refine awp_cond rfl (fun hc1 => ?_) (fun hc1 => ?_)
      ·have e : seek c r (n + 1) o = true := by
        have hw : wholeB c o = true := by rw [hwl]; exact hc1
        rw [seek, hw]; rfl
       refine awp_seq ?_
       refine awp_region ?_
       refine aqs rfl (q_as (by constructor)) rfl ?_
       refine alist_nil ?_
       show AWP _ _ _ _
       refine awp_ret ?_
       repeat first | with_reducible refine then_ret ?_ | with_reducible refine blk_ret ?_
       apply retq (.inr rfl) (.cons (rok_t rfl) .nil)
       rotate_left
       ·first
         | exact ⟨o1, kv1, uo1, ex1, congrArg (fun b => AV.lit (.bool b)) e.symm, rfl, hm2, fun h => (by rw [e] at h; cases h)⟩
         | exact ⟨o, kvs, uo, ex, congrArg (fun b => AV.lit (.bool b)) e.symm, rfl, hm, fun _ => rfl⟩
       repeat (first | exact List.Sublist.refl _ | exact List.nil_sublist _ | exact List.sublist_append_left _ _ | apply List.Sublist.cons)
      ·have hw : wholeB c o = false := by rw [hwl]; exact hc1
       have e0 : seek c r (n + 1) o = (List.range c.length).any fun i => mayB c o i && (legal (listed c (o ++ [i])) r && seek c r n (o ++ [i])) := by rw [seek, hw]; rfl
       refine awp_skip ?_
       show AWP _ _ _ _
       refine awp_seq ?_
       refine awp_seq ?_
       refine awp_region ?_
       first | refine aqs rfl (q_ldpN ag90 rfl (by repeat (first | exact .here | assumption | (apply HAt.left; assumption) | apply HAt.there | apply HAt.right)) (by first | rfl | assumption | (simp [*]; done) | fail) (by first | rfl | assumption | (simp [*]; done) | fail) (by constructor)) rfl ?_ | refine aqs rfl (q_ld1N ag90 rfl (by constructor)) rfl ?_
       first | refine aqs rfl (q_len Try.underlying90 .ro) rfl ?_ | refine aqs rfl (q_lenO Try.underlying90 rfl (by repeat (first | exact .here | assumption | (apply HAt.left; assumption) | apply HAt.there | apply HAt.right)) (by first | omega | (simp; done) | (simp; omega) | fail) (by first | exact Nat.sub_zero _ | rfl)) rfl ?_ | refine aqs rfl (q_len Try.underlying90 .nil) rfl ?_ | refine aqs rfl (q_len Try.underlying90 .cro) rfl ?_
       refine aqs rfl (q_mv (by constructor)) rfl ?_
       refine alist_nil ?_
       show AWP _ _ _ _
       refine awp_block ?_
       rw [List.length_map]
       refine awp_loop_inv (fun x : Nat × List (Value × AV) × Nat × List Call => ⟨[(36, .lit (.int .i64 x.1)), (35, .lit (.int .i64 c.length)), (34, .ro (c.map Call.cells)), (0, .ptr b2 0 0), (1, .ptr b9 0 0), (2, .ptr b10 0 0), (3, .ptr b8 0 0), (4, .ptr b3 0 0), (5, .ptr b11 0 0)], 81, hsH c r b2 b3 b8 b9 b10 b11 um o x.2.1 x.2.2.1 x.2.2.2⟩) (fun x => x.1 ≤ c.length ∧ MapOf ikv bvv x.2.1 (doneF o) ∧ ∀ j, j < x.1 → (mayB c o j && (legal (listed c (o ++ [j])) r && seek c r n (o ++ [j]))) = false) (fun x => c.length - x.1) (0, kvs, uo, ex) ?_ ?_ ?_
       ·exact ⟨Nat.zero_le _, hm, fun j h => absurd h (Nat.not_lt_zero _)⟩
       ·exact .mk' (by repeat (first | exact trivial | refine ⟨rfl, ?_⟩)) (by repeat (first | exact .refl _ | apply List.Sublist.cons_cons | apply List.Sublist.cons))
       ·rintro ⟨i, kvs, uo, ex⟩ ⟨hi, hm, hall⟩
        simp only at hi hm hall ⊢
        have hD := mo_int hm
        have hlen := lenCall (listed c o ++ ex)
        have hone := oneCall (listed c o ++ ex)
        refine awp_seq ?_
        refine awp_region ?_
        refine aqs rfl (q_lss rfl rfl) rfl ?_
        refine alist_nil ?_
        show AWP _ _ _ _
        refine awp_seq ?_
        refine awp_cond rfl (fun hc2 => ?_) (fun hc2 => ?_)
        ·simp only [decide_eq_true_eq] at hc2
         have hil : i < c.length := by omega
         have hs2 := get_map (f := Call.cells) (nth_get (c := c) (i := i) hil)
         refine awp_skip ?_
         show AWP _ _ _ _
         refine awp_seq ?_
         refine awp_block ?_
         refine awp_seq ?_
         refine awp_region ?_
         refine aqs rfl (q_mv (by constructor)) rfl ?_
         first | refine aqs rfl (q_iaN Try.underlying90 sz103 (.inl rfl) rfl (by omega) (by first | rfl | assumption | (simp [*]; done) | fail) (by first | rfl | assumption | (simp [*]; done) | fail) (by decide) (by first | ((repeat constructor); done) | exact .same _)) rfl ?_ | refine aqs rfl (q_iaS Try.underlying90 sz103 rfl (by repeat (first | exact .here | assumption | (apply HAt.left; assumption) | apply HAt.there | apply HAt.right)) rfl (by omega) (by omega) (by first | exact Nat.zero_add _ | rfl)) rfl ?_ | refine aqs rfl (q_iaN Try.underlying90 sz103 (.inr rfl) rfl (by omega) (by first | rfl | assumption | (simp [*]; done) | fail) (by first | rfl | assumption | (simp [*]; done) | fail) (by decide) (by first | ((repeat constructor); done) | exact .same _)) rfl ?_
         first | refine aqs rfl (q_ldpW ag103 sz103 rfl (by repeat (first | exact .here | assumption | (apply HAt.left; assumption) | apply HAt.there | apply HAt.right)) (by first | rfl | assumption | (simp [*]; done) | fail) (by first | rfl | assumption | (simp [*]; done) | fail) (by decide)) rfl ?_ | refine aqs rfl (q_ldW ag103 sz103 rfl (by first | rfl | assumption | (simp [*]; done) | fail)) rfl ?_ | refine aqs rfl (q_ldpP ag103 sz103 rfl (by repeat (first | exact .here | assumption | (apply HAt.left; assumption) | apply HAt.there | apply HAt.right)) (by first | rfl | assumption | (simp [*]; done) | fail) (by first | decide | (simp; done) | omega | fail) (by decide) (by first | ((repeat constructor); done) | exact .same _)) rfl ?_ | refine aqs rfl (q_ldP ag103 sz103 rfl (by first | decide | (simp; done) | omega | fail) (by first | ((repeat constructor); done) | exact .same _)) rfl ?_
         (refine aes rfl (e_al (xs := [.lit (.bool false), .lit (.int .i64 0), .lit (.int .i64 0), .lit (.int .i64 0), .lit (.bool false), .lit (.int .i64 0), .lit (.int .i64 0)]) (k := 7) zr103 (.same _) rfl) rfl ?_; rintro _ _ ⟨u11, rfl, rfl⟩)
         refine aqs rfl (q_as (by constructor)) rfl ?_
         first | (refine aen rfl (e_stW sz103 rfl (by repeat (first | exact .here | assumption | (apply HAt.left; assumption) | apply HAt.there | apply HAt.right)) (by constructor) (by first | rfl | assumption | (simp [*]; done) | fail) rfl (by repeat (first | exact .here | apply HSet.there))) ?_; rintro _ _ ⟨rfl, rfl⟩) | (refine aen rfl (e_stP sz103 rfl (by repeat (first | exact .here | assumption | (apply HAt.left; assumption) | apply HAt.there | apply HAt.right)) (by first | rfl | assumption | (simp [*]; done) | fail) (by constructor) (by first | rfl | assumption | (simp [*]; done) | fail) rfl (by first | decide | omega) (by first | ((repeat constructor); done) | exact .same _) (by first | exact .one | exact .set) (by repeat (first | exact .here | apply HSet.there))) ?_; rintro _ _ ⟨rfl, rfl⟩)
         refine alist_nil ?_
         show AWP _ _ _ _
         refine awp_seq ?_
         refine awp_mid [(59, .lit (.bool ((decide (i ∈ o) || (!(nth c i).put && decide ((nth c i).to < 0))) || !freeB c o i))), (10, .lit (.int .i64 i)), (11, .ptr u11 0 0), (36, .lit (.int .i64 i)), (35, .lit (.int .i64 c.length)), (34, .ro (c.map Call.cells)), (0, .ptr b2 0 0), (1, .ptr b9 0 0), (2, .ptr b10 0 0), (3, .ptr b8 0 0), (4, .ptr b3 0 0), (5, .ptr b11 0 0)] ?_ ?_
         ·skip
          refine awp_region ?_
          all_goals (first | refine aqs rfl (q_ldpN ag175 rfl (by repeat (first | exact .here | assumption | (apply HAt.left; assumption) | apply HAt.there | apply HAt.right)) (by first | rfl | assumption | (simp [*]; done) | fail) (by first | rfl | assumption | (simp [*]; done) | fail) (by constructor)) rfl ?_ | refine aqs rfl (q_ld1N ag175 rfl (by constructor)) rfl ?_)
          all_goals (refine aqs rfl (q_mv (by constructor)) rfl ?_)
          all_goals ((refine aes rfl (e_lk Try.underlying175 KL3 zv4 rfl (by repeat (first | exact .here | assumption | (apply HAt.left; assumption) | apply HAt.there | apply HAt.right)) (by first | exact kv29 | exact .lit) ⟨_, rfl⟩ (by first | assumption | (intro p hp; cases hp; done))) rfl ?_; rintro rlk _ ⟨hlk, rfl⟩))
          all_goals try (obtain rfl := mo_in hm hlk; rw [done_at])
          all_goals (refine aqs rfl (q_mv (by constructor)) rfl ?_)
          all_goals try (refine acase (fun hb3 => ?_) (fun hb3 => ?_))
          all_goals first | (exfalso; cases hb3; done) | skip
          all_goals (first | refine ans rfl rfl ?_ | refine aqs rfl (q_fapP fl103_0 (by decide) rfl rfl) rfl ?_ | refine aqs rfl (q_faP fl103_0 (by decide) rfl (by first | ((repeat constructor); done) | exact .same _)) rfl ?_)
          all_goals (first | refine ans rfl rfl ?_ | refine aqs rfl (q_ldpN ag4 rfl (by repeat (first | exact .here | assumption | (apply HAt.left; assumption) | apply HAt.there | apply HAt.right)) (by first | rfl | assumption | (simp [*]; done) | fail) (by first | rfl | assumption | (simp [*]; done) | fail) (by constructor)) rfl ?_ | refine aqs rfl (q_ld1N ag4 rfl (by constructor)) rfl ?_)
          all_goals (first | refine ans rfl rfl ?_ | refine aqs rfl (q_not rfl) rfl ?_)
          all_goals (first | refine ans rfl rfl ?_ | refine aqs rfl (q_mv (by constructor)) rfl ?_)
          all_goals try (refine acase (fun hb7 => ?_) (fun hb7 => ?_))
          all_goals first | (exfalso; cases hb7; done) | skip
          all_goals (first | refine ans rfl rfl ?_ | refine aqs rfl (q_fapP fl103_6 (by decide) rfl rfl) rfl ?_ | refine aqs rfl (q_faP fl103_6 (by decide) rfl (by first | ((repeat constructor); done) | exact .same _)) rfl ?_)
          all_goals (first | refine ans rfl rfl ?_ | refine aqs rfl (q_ldpN ag3 rfl (by repeat (first | exact .here | assumption | (apply HAt.left; assumption) | apply HAt.there | apply HAt.right)) (by first | rfl | assumption | (simp [*]; done) | fail) (by first | rfl | assumption | (simp [*]; done) | fail) (by constructor)) rfl ?_ | refine aqs rfl (q_ld1N ag3 rfl (by constructor)) rfl ?_)
          all_goals (first | refine ans rfl rfl ?_ | refine aqs rfl (q_lss rfl rfl) rfl ?_)
          all_goals (first | refine ans rfl rfl ?_ | refine aqs rfl (q_pickT rfl (by constructor)) rfl ?_ | refine aqs rfl (q_pickF rfl (by constructor)) rfl ?_)
          all_goals (first | refine aqs rfl (q_pickT rfl (by constructor)) rfl ?_ | refine aqs rfl (q_pickF rfl (by constructor)) rfl ?_)
          all_goals (refine aqs rfl (q_mv (by constructor)) rfl ?_)
          all_goals try (refine acase (fun hb13 => ?_) (fun hb13 => ?_))
          all_goals first | (exfalso; cases hb13; done) | skip
          all_goals (first | refine ans rfl rfl ?_ | refine aqs rfl (q_ldpN ag177 rfl (by repeat (first | exact .here | assumption | (apply HAt.left; assumption) | apply HAt.there | apply HAt.right)) (by first | rfl | assumption | (simp [*]; done) | fail) (by first | rfl | assumption | (simp [*]; done) | fail) (by constructor)) rfl ?_ | refine aqs rfl (q_ld1N ag177 rfl (by constructor)) rfl ?_)
          all_goals (first | refine ans rfl rfl ?_ | refine aqs rfl (q_mv (by constructor)) rfl ?_)
          all_goals (first | refine ans rfl rfl ?_ | refine aqs rfl (e_callC cb139 (free139_c c o i hil hc kvs hm b9 um b2 _ _ _ _ _ _) rfl rfl) rfl ?_)
          all_goals (first | refine ans rfl rfl ?_ | refine aqs rfl (q_not rfl) rfl ?_)
          all_goals (first | refine aqs rfl (q_pickT rfl (by constructor)) rfl ?_ | refine aqs rfl (q_pickF rfl (by constructor)) rfl ?_)
          all_goals (refine alist_nil ?_)
          all_goals (exact ⟨rfl, .mk' (by repeat (first | exact trivial | refine ⟨rfl, ?_⟩ | (refine ⟨?_, ?_⟩; (· first | (rw [hb3, hb7, hb13]; rfl) | (rw [hb3, hb7]; rfl) | (rw [hb3]; rfl) | fail)))) (by repeat (first | exact .refl _ | exact List.nil_sublist _ | exact List.sublist_append_left _ _ | apply List.Sublist.cons))⟩)
         refine awp_cond rfl (fun hc3 => ?_) (fun hc3 => ?_)
         ·have hno : (mayB c o i && (legal (listed c (o ++ [i])) r && seek c r n (o ++ [i]))) = false := by
           have : mayB c o i = false := by
            unfold mayB
            rw [Bool.eq_false_iff]
            intro h
            simp only [Bool.and_eq_true, Bool.not_eq_true', decide_eq_false_iff_not, Bool.and_eq_false_iff] at h
            obtain ⟨⟨h1, h2⟩, h3⟩ := h
            rw [h3] at hc3
            rcases h2 with h2 | h2
            ·simp [h1, h2] at hc3
            ·simp [h1, h2] at hc3
           rw [this]; rfl
          refine awp_exit ?_
          show AWP _ _ _ _
          refine awp_region ?_
          first | refine aqs rfl (q_add64 rfl rfl (by omega) (by omega)) rfl ?_ | refine aqs rfl (q_add rfl rfl) rfl ?_
          refine aqs rfl (q_mv (by constructor)) rfl ?_
          refine alist_nil ?_
          show ∃ y, _ ∧ _ ∧ _
          first
           | exact ⟨(i + 1, kvs', uo1, nth c i :: ex1), ⟨by show i + 1 ≤ c.length; omega, hm3, upto hall hno⟩, by show c.length - (i + 1) < c.length - i; omega, by simp only [hsH, hle]; exact .mk' ⟨by rfl, rfl, rfl, rfl, rfl, rfl, rfl, rfl, rfl, trivial⟩ (by repeat (first | exact List.Sublist.refl _ | exact List.nil_sublist _ | exact List.sublist_append_left _ _ | (apply List.Sublist.cons_cons) | (apply List.Sublist.cons)))⟩
           | exact ⟨(i + 1, kvs, uo, ex), ⟨by show i + 1 ≤ c.length; omega, hm, upto hall hno⟩, by show c.length - (i + 1) < c.length - i; omega, .mk' ⟨by rfl, rfl, rfl, rfl, rfl, rfl, rfl, rfl, rfl, trivial⟩ (by repeat (first | exact List.Sublist.refl _ | exact List.nil_sublist _ | exact List.sublist_append_left _ _ | (apply List.Sublist.cons_cons) | (apply List.Sublist.cons)))⟩
         ·have hmay : mayB c o i = true := by
           unfold mayB
           simp only [Bool.or_eq_false_iff, decide_eq_false_iff_not, Bool.not_eq_false'] at hc3
           obtain ⟨⟨h1, h2⟩, h3⟩ := hc3
           rw [h3, decide_eq_false h1]
           rw [Bool.and_comm] at h2
           rw [h2]; rfl
          have hni : i ∉ o := (may_iff.1 hmay).1
          have hord := ho.next hil hni
          have hll1 : (listed c (o ++ [i])).length = (listed c o).length + 1 := by simp [listed]
          have hml : (listed c o).length - 0 + 1 = (listed c (o ++ [i])).length := by rw [hll1]; omega
          have hes : ((listed c o ++ ex).map Call.cells).take (listed c o).length ++ [(nth c i).cells] = (listed c (o ++ [i]) ++ []).map Call.cells := by
           rw [List.map_append, List.take_left' (by simp)]; simp [listed]
          refine awp_skip ?_
          show AWP _ _ _ _
          refine awp_seq ?_
          refine awp_region ?_
          first | refine aqs rfl (q_ldpN ag90 rfl (by repeat (first | exact .here | assumption | (apply HAt.left; assumption) | apply HAt.there | apply HAt.right)) (by first | rfl | assumption | (simp [*]; done) | fail) (by first | rfl | assumption | (simp [*]; done) | fail) (by constructor)) rfl ?_ | refine aqs rfl (q_ld1N ag90 rfl (by constructor)) rfl ?_
          first | refine aqs rfl (q_ldpW ag103 sz103 rfl (by repeat (first | exact .here | assumption | (apply HAt.left; assumption) | apply HAt.there | apply HAt.right)) (by first | rfl | assumption | (simp [*]; done) | fail) (by first | rfl | assumption | (simp [*]; done) | fail) (by decide)) rfl ?_ | refine aqs rfl (q_ldW ag103 sz103 rfl (by first | rfl | assumption | (simp [*]; done) | fail)) rfl ?_ | refine aqs rfl (q_ldpP ag103 sz103 rfl (by repeat (first | exact .here | assumption | (apply HAt.left; assumption) | apply HAt.there | apply HAt.right)) (by first | rfl | assumption | (simp [*]; done) | fail) (by first | decide | (simp; done) | omega | fail) (by decide) (by first | ((repeat constructor); done) | exact .same _)) rfl ?_ | refine aqs rfl (q_ldP ag103 sz103 rfl (by first | decide | (simp; done) | omega | fail) (by first | ((repeat constructor); done) | exact .same _)) rfl ?_
          first | refine aqs rfl (q_bs Try.underlying90 sz103 zr103 rfl (by first | ((repeat constructor); done) | exact .same _) rfl (by decide) (by repeat (first | exact BS.nil | (apply BS.cons; (· constructor); (· rfl); (· rfl); (· rfl); (· exact (by first | ((repeat constructor); done) | exact .same _)))))) rfl ?_ | (refine aes rfl (e_bs Try.underlying90 sz103 zr103 rfl (by first | ((repeat constructor); done) | exact .same _) rfl (by decide) (by repeat (first | exact BS.nil | (apply BS.cons; (· constructor); (· rfl); (· rfl); (· rfl); (· exact (by first | ((repeat constructor); done) | exact .same _)))))) rfl ?_; rintro _ _ ⟨u62, rfl, rfl⟩)
          first | refine aqs rfl (q_apC Try.underlying90 sz103 by103 zr103 (.inl rfl) (by first | exact .ro | exact .cro | exact .nil | exact SV.slA (by repeat (first | exact .here | assumption | (apply HAt.left; assumption) | apply HAt.there | apply HAt.right)) (by first | rfl | (simp; done) | (simp; omega) | (simp [*]; done) | fail)) (by first | assumption | (intro c hc; simp at hc; subst hc; rfl) | (simp; done) | fail) (by first | assumption | (intro c hc; simp at hc; subst hc; rfl) | (simp; done) | fail) (by first | omega | decide | (simp; omega) | assumption | fail) (by decide) (by decide) rfl (by first | rfl | (simp; done) | fail)) rfl ?_ | refine aqs rfl (q_apC Try.underlying90 sz103 by103 zr103 (.inr ⟨rfl, rfl⟩) (by first | exact .ro | exact .cro | exact .nil | exact SV.slA (by repeat (first | exact .here | assumption | (apply HAt.left; assumption) | apply HAt.there | apply HAt.right)) (by first | rfl | (simp; done) | (simp; omega) | (simp [*]; done) | fail)) (by first | assumption | (intro c hc; simp at hc; subst hc; rfl) | (simp; done) | fail) (by first | assumption | (intro c hc; simp at hc; subst hc; rfl) | (simp; done) | fail) (by first | omega | decide | (simp; omega) | assumption | fail) (by decide) (by decide) rfl (by first | rfl | (simp; done) | fail)) rfl ?_ | (refine aes rfl (e_apO Try.underlying90 sz103 by103 zr103 rfl (by repeat (first | exact .here | assumption | (apply HAt.left; assumption) | apply HAt.there | apply HAt.right)) (by simp) (by first | exact .ro | exact .cro | exact .nil | exact SV.slA (by repeat (first | exact .here | assumption | (apply HAt.left; assumption) | apply HAt.there | apply HAt.right)) (by first | rfl | (simp; done) | (simp; omega) | (simp [*]; done) | fail)) (by first | assumption | (intro c hc; simp at hc; subst hc; rfl) | (simp; done) | fail) (by first | assumption | (intro c hc; simp at hc; subst hc; rfl) | (simp; done) | fail) (by first | assumption | (intro c hc; simp at hc; subst hc; rfl) | (simp; done) | fail) (by first | (simp; done) | (simp; omega) | omega | fail) (by decide) (by decide) rfl (by exact hml) hes (fun v => (by repeat (first | exact .here | apply HSet.there)))) rfl ?_; rintro _ _ ⟨u63, rfl, rfl⟩) | (refine aes rfl (e_apN Try.underlying90 sz103 by103 zr103 rfl (by first | exact .ro | exact .cro | exact .nil | exact SV.slA (by repeat (first | exact .here | assumption | (apply HAt.left; assumption) | apply HAt.there | apply HAt.right)) (by first | rfl | (simp; done) | (simp; omega) | (simp [*]; done) | fail)) (by first | assumption | (intro c hc; simp at hc; subst hc; rfl) | (simp; done) | fail) (by first | assumption | (intro c hc; simp at hc; subst hc; rfl) | (simp; done) | fail) (by first | (simp; done) | (simp; omega) | omega | fail) (by decide) (by decide) rfl rfl) rfl ?_; rintro _ _ ⟨u63, rfl, rfl⟩)
          first | (refine aen rfl (e_stW sz90 rfl (by repeat (first | exact .here | assumption | (apply HAt.left; assumption) | apply HAt.there | apply HAt.right)) (by constructor) (by first | rfl | assumption | (simp [*]; done) | fail) rfl (by repeat (first | exact .here | apply HSet.there))) ?_; rintro _ _ ⟨rfl, rfl⟩) | (refine aen rfl (e_stP sz90 rfl (by repeat (first | exact .here | assumption | (apply HAt.left; assumption) | apply HAt.there | apply HAt.right)) (by first | rfl | assumption | (simp [*]; done) | fail) (by constructor) (by first | rfl | assumption | (simp [*]; done) | fail) rfl (by first | decide | omega) (by first | ((repeat constructor); done) | exact .same _) (by first | exact .one | exact .set) (by repeat (first | exact .here | apply HSet.there))) ?_; rintro _ _ ⟨rfl, rfl⟩)
          refine alist_nil ?_
          show AWP _ _ _ _
          refine awp_seq ?_
          refine awp_region ?_
          first | refine aqs rfl (q_ldpN ag175 rfl (by repeat (first | exact .here | assumption | (apply HAt.left; assumption) | apply HAt.there | apply HAt.right)) (by first | rfl | assumption | (simp [*]; done) | fail) (by first | rfl | assumption | (simp [*]; done) | fail) (by constructor)) rfl ?_ | refine aqs rfl (q_ld1N ag175 rfl (by constructor)) rfl ?_
          refine aqs rfl (q_mv (by constructor)) rfl ?_
          (refine aen rfl (e_mu Try.underlying175 KL3 rfl (by repeat (first | exact .here | assumption | (apply HAt.left; assumption) | apply HAt.there | apply HAt.right)) (by first | exact kv29 | exact .lit) ⟨_, rfl⟩ (by first | assumption | (intro p hp; cases hp; done)) (by constructor) (fun kvs' => (by repeat (first | exact .here | apply HSet.there)))) ?_; rintro _ _ ⟨kvs', hup, rfl⟩)
          have hm1 := done_add (mo_up ikv_inj hm (k := (i : Int)) (v := ()) hup)
          refine alist_nil ?_
          show AWP _ _ _ _
          refine awp_seq ?_
          refine awp_join (fun x : Bool × List Nat × List (Value × AV) × Nat × List Call => ⟨[(72, .lit (.bool x.1)), (10, .lit (.int .i64 i)), (36, .lit (.int .i64 i)), (35, .lit (.int .i64 c.length)), (34, .ro (c.map Call.cells)), (0, .ptr b2 0 0), (1, .ptr b9 0 0), (2, .ptr b10 0 0), (3, .ptr b8 0 0), (4, .ptr b3 0 0), (5, .ptr b11 0 0)], 81, hsH c r b2 b3 b8 b9 b10 b11 um x.2.1 x.2.2.1 x.2.2.2.1 x.2.2.2.2⟩) (fun x => x.1 = (legal (listed c (o ++ [i])) r && seek c r n (o ++ [i])) ∧ MapOf ikv bvv x.2.2.1 (doneF x.2.1) ∧ (x.1 = false → x.2.1 = o ++ [i])) ?_ ?_
          ·skip
           refine awp_region ?_
           all_goals (first | refine aqs rfl (q_ldpN ag90 rfl (by repeat (first | exact .here | assumption | (apply HAt.left; assumption) | apply HAt.there | apply HAt.right)) (by first | rfl | assumption | (simp [*]; done) | fail) (by first | rfl | assumption | (simp [*]; done) | fail) (by constructor)) rfl ?_ | refine aqs rfl (q_ld1N ag90 rfl (by constructor)) rfl ?_)
           all_goals (first | refine aqs rfl (q_ldpN ag3 rfl (by repeat (first | exact .here | assumption | (apply HAt.left; assumption) | apply HAt.there | apply HAt.right)) (by first | rfl | assumption | (simp [*]; done) | fail) (by first | rfl | assumption | (simp [*]; done) | fail) (by constructor)) rfl ?_ | refine aqs rfl (q_ld1N ag3 rfl (by constructor)) rfl ?_)
           all_goals (first | refine aqs rfl (e_callN cb87 (legal87s_c (listed c (o ++ [i])) [] u63 r (by omega) _ (by repeat (first | exact .here | assumption | (apply HAt.left; assumption) | apply HAt.there | apply HAt.right))) rfl rfl) rfl ?_ | refine aqs rfl (e_callN cb87 (ACall.arg (legal87s_c (listed c (o ++ [i])) [] u63 r (by omega) _ (by repeat (first | exact .here | assumption | (apply HAt.left; assumption) | apply HAt.there | apply HAt.right))) (by repeat (first | exact ArgL.nil | (apply ArgL.cons; (· first | exact .same | exact .cro | exact .nil))))) rfl rfl) rfl ?_)
           all_goals (refine aqs rfl (q_mv (by constructor)) rfl ?_)
           all_goals try (refine acase (fun hb3 => ?_) (fun hb3 => ?_))
           all_goals first | (exfalso; cases hb3; done) | skip
           all_goals (first | refine ans rfl rfl ?_ | refine aqs rfl (q_ldpN ag23 rfl (by repeat (first | exact .here | assumption | (apply HAt.left; assumption) | apply HAt.there | apply HAt.right)) (by first | rfl | assumption | (simp [*]; done) | fail) (by first | rfl | assumption | (simp [*]; done) | fail) (by constructor)) rfl ?_ | refine aqs rfl (q_ld1N ag23 rfl (by constructor)) rfl ?_)
           all_goals (first | refine ans rfl rfl ?_ | (refine aes rfl (e_callC cb140 (ACall.frame [_] (ih (o ++ [i]) kvs' u63 [] hord (by simp; omega) hm1)) rfl rfl) rfl ?_; rintro _ _ ⟨Hv, rfl, o1, kv1, uo1, ex1, rfl, rfl, hm2, ho2⟩))
           all_goals (first | refine aqs rfl (q_pickT rfl (by constructor)) rfl ?_ | refine aqs rfl (q_pickF rfl (by constructor)) rfl ?_)
           all_goals (refine alist_nil ?_)
           all_goals (show ∃ y, _ ∧ _)
           all_goals first
            | exact ⟨(seek c r n (o ++ [i]), o1, kv1, uo1, ex1), ⟨by show _ = (_ && _); rw [hb3]; rfl, hm2, ho2⟩, .mk' ⟨by rfl, rfl, rfl, rfl, rfl, rfl, rfl, rfl, rfl, rfl, rfl, trivial⟩ (by repeat (first | exact List.Sublist.refl _ | exact List.nil_sublist _ | exact List.sublist_append_left _ _ | (apply List.Sublist.cons_cons) | (apply List.Sublist.cons)))⟩
            | exact ⟨(false, o ++ [i], kvs', u63, []), ⟨by show _ = (_ && _); rw [hb3]; rfl, hm1, fun _ => rfl⟩, .mk' ⟨by rfl, rfl, rfl, rfl, rfl, rfl, rfl, rfl, rfl, rfl, rfl, trivial⟩ (by repeat (first | exact List.Sublist.refl _ | exact List.nil_sublist _ | exact List.sublist_append_left _ _ | (apply List.Sublist.cons_cons) | (apply List.Sublist.cons)))⟩
          rintro ⟨b, o1, kv1, uo1, ex1⟩ ⟨hb, hm2, ho2⟩
          simp only at hb hm2 ho2 ⊢
          have hD2 := mo_int hm2
          refine awp_cond rfl (fun hc4 => ?_) (fun hc4 => ?_)
          ·have e : seek c r (n + 1) o = true := by
            rw [e0]
            exact any_yes hil (by rw [hmay, ← hb, hc4]; rfl)
           refine awp_seq ?_
           refine awp_region ?_
           refine aqs rfl (q_as (by constructor)) rfl ?_
           refine alist_nil ?_
           show AWP _ _ _ _
           refine awp_ret ?_
           repeat first | with_reducible refine then_ret ?_ | with_reducible refine blk_ret ?_
           apply retq (.inr rfl) (.cons (rok_t rfl) .nil)
           rotate_left
           ·first
             | exact ⟨o1, kv1, uo1, ex1, congrArg (fun b => AV.lit (.bool b)) e.symm, rfl, hm2, fun h => (by rw [e] at h; cases h)⟩
             | exact ⟨o, kvs, uo, ex, congrArg (fun b => AV.lit (.bool b)) e.symm, rfl, hm, fun _ => rfl⟩
           repeat (first | exact List.Sublist.refl _ | exact List.nil_sublist _ | exact List.sublist_append_left _ _ | apply List.Sublist.cons)
          ·have hno : (mayB c o i && (legal (listed c (o ++ [i])) r && seek c r n (o ++ [i]))) = false := by rw [← hb, hc4, Bool.and_false]
           obtain rfl := ho2 hc4
           have hle : listed c o ++ (nth c i :: ex1) = listed c (o ++ [i]) ++ ex1 := by simp [listed]
           refine awp_skip ?_
           show AWP _ _ _ _
           refine awp_seq ?_
           refine awp_region ?_
           first | refine aqs rfl (q_ldpN ag175 rfl (by repeat (first | exact .here | assumption | (apply HAt.left; assumption) | apply HAt.there | apply HAt.right)) (by first | rfl | assumption | (simp [*]; done) | fail) (by first | rfl | assumption | (simp [*]; done) | fail) (by constructor)) rfl ?_ | refine aqs rfl (q_ld1N ag175 rfl (by constructor)) rfl ?_
           refine aqs rfl (q_mv (by constructor)) rfl ?_
           (refine aen rfl (e_dl Try.underlying175 KL3 rfl (by repeat (first | exact .here | assumption | (apply HAt.left; assumption) | apply HAt.there | apply HAt.right)) (by first | exact kv29 | exact .lit) ⟨_, rfl⟩ (by first | assumption | (intro p hp; cases hp; done)) rfl (fun kvs' => (by repeat (first | exact .here | apply HSet.there)))) ?_; rintro _ _ ⟨rfl, kvs', hdl, rfl⟩)
           have hm3 := done_del hni (mo_del ikv_inj hm2 (k := (i : Int)) hdl)
           refine alist_nil ?_
           show AWP _ _ _ _
           refine awp_region ?_
           first | refine aqs rfl (q_ldpN ag90 rfl (by repeat (first | exact .here | assumption | (apply HAt.left; assumption) | apply HAt.there | apply HAt.right)) (by first | rfl | assumption | (simp [*]; done) | fail) (by first | rfl | assumption | (simp [*]; done) | fail) (by constructor)) rfl ?_ | refine aqs rfl (q_ld1N ag90 rfl (by constructor)) rfl ?_
           first | refine aqs rfl (q_ldpN ag90 rfl (by repeat (first | exact .here | assumption | (apply HAt.left; assumption) | apply HAt.there | apply HAt.right)) (by first | rfl | assumption | (simp [*]; done) | fail) (by first | rfl | assumption | (simp [*]; done) | fail) (by constructor)) rfl ?_ | refine aqs rfl (q_ld1N ag90 rfl (by constructor)) rfl ?_
           first | refine aqs rfl (q_len Try.underlying90 .ro) rfl ?_ | refine aqs rfl (q_lenO Try.underlying90 rfl (by repeat (first | exact .here | assumption | (apply HAt.left; assumption) | apply HAt.there | apply HAt.right)) (by first | omega | (simp; done) | (simp; omega) | fail) (by first | exact Nat.sub_zero _ | rfl)) rfl ?_ | refine aqs rfl (q_len Try.underlying90 .nil) rfl ?_ | refine aqs rfl (q_len Try.underlying90 .cro) rfl ?_
           first | refine aqs rfl (q_sub64 rfl rfl (by omega) (by omega)) rfl ?_ | refine aqs rfl (q_sub rfl rfl) rfl ?_
           first | refine aqs rfl (castQ (r2 := .sl uo1 0 (listed c o).length) (q_slR Try.underlying90 sz103 (.inl rfl) rfl (by first | (refine ⟨_, _, rfl, ?_⟩; with_reducible rfl) | exact bnd_int rfl (by omega)) (by first | omega | (simp; done) | (simp; omega) | fail) (by first | omega | (simp; done) | (simp; omega) | fail) (by first | rfl | assumption | (simp [*]; done) | fail)) (by rw [AV.sl.injEq]; exact ⟨rfl, rfl, by simp [listed]⟩)) rfl ?_ | refine aqs rfl (castQ (r2 := .sl uo1 0 (listed c o).length) (q_slO Try.underlying90 sz103 rfl (by repeat (first | exact .here | assumption | (apply HAt.left; assumption) | apply HAt.there | apply HAt.right)) rfl (by first | (refine ⟨_, _, rfl, ?_⟩; with_reducible rfl) | exact bnd_int rfl (by omega)) (by first | omega | (simp; done) | (simp; omega) | fail) (by first | omega | (simp; done) | (simp; omega) | fail) (by first | exact Nat.zero_add _ | rfl) (by first | exact Nat.zero_add _ | rfl)) (by rw [AV.sl.injEq]; exact ⟨rfl, rfl, by simp [listed]⟩)) rfl ?_
           first | (refine aen rfl (e_stW sz90 rfl (by repeat (first | exact .here | assumption | (apply HAt.left; assumption) | apply HAt.there | apply HAt.right)) (by constructor) (by first | rfl | assumption | (simp [*]; done) | fail) rfl (by repeat (first | exact .here | apply HSet.there))) ?_; rintro _ _ ⟨rfl, rfl⟩) | (refine aen rfl (e_stP sz90 rfl (by repeat (first | exact .here | assumption | (apply HAt.left; assumption) | apply HAt.there | apply HAt.right)) (by first | rfl | assumption | (simp [*]; done) | fail) (by constructor) (by first | rfl | assumption | (simp [*]; done) | fail) rfl (by first | decide | omega) (by first | ((repeat constructor); done) | exact .same _) (by first | exact .one | exact .set) (by repeat (first | exact .here | apply HSet.there))) ?_; rintro _ _ ⟨rfl, rfl⟩)
           refine alist_nil ?_
           show AWP _ _ _ _
           refine awp_region ?_
           first | refine aqs rfl (q_add64 rfl rfl (by omega) (by omega)) rfl ?_ | refine aqs rfl (q_add rfl rfl) rfl ?_
           refine aqs rfl (q_mv (by constructor)) rfl ?_
           refine alist_nil ?_
           show ∃ y, _ ∧ _ ∧ _
           first
            | exact ⟨(i + 1, kvs', uo1, nth c i :: ex1), ⟨by show i + 1 ≤ c.length; omega, hm3, upto hall hno⟩, by show c.length - (i + 1) < c.length - i; omega, by simp only [hsH, hle]; exact .mk' ⟨by rfl, rfl, rfl, rfl, rfl, rfl, rfl, rfl, rfl, trivial⟩ (by repeat (first | exact List.Sublist.refl _ | exact List.nil_sublist _ | exact List.sublist_append_left _ _ | (apply List.Sublist.cons_cons) | (apply List.Sublist.cons)))⟩
            | exact ⟨(i + 1, kvs, uo, ex), ⟨by show i + 1 ≤ c.length; omega, hm, upto hall hno⟩, by show c.length - (i + 1) < c.length - i; omega, .mk' ⟨by rfl, rfl, rfl, rfl, rfl, rfl, rfl, rfl, rfl, trivial⟩ (by repeat (first | exact List.Sublist.refl _ | exact List.nil_sublist _ | exact List.sublist_append_left _ _ | (apply List.Sublist.cons_cons) | (apply List.Sublist.cons)))⟩
        ·simp only [decide_eq_false_iff_not] at hc2
         have e : seek c r (n + 1) o = false := by rw [e0, any_no fun j hj => hall j (by omega)]
         refine awp_exit ?_
         show AWP _ _ _ _
         refine awp_seq ?_
         refine awp_region ?_
         refine aqs rfl (q_as (by constructor)) rfl ?_
         refine alist_nil ?_
         show AWP _ _ _ _
         refine awp_ret ?_
         repeat first | with_reducible refine then_ret ?_ | with_reducible refine blk_ret ?_
         apply retq (.inr rfl) (.cons (rok_t rfl) .nil)
         rotate_left
         ·first
           | exact ⟨o1, kv1, uo1, ex1, congrArg (fun b => AV.lit (.bool b)) e.symm, rfl, hm2, fun h => (by rw [e] at h; cases h)⟩
           | exact ⟨o, kvs, uo, ex, congrArg (fun b => AV.lit (.bool b)) e.symm, rfl, hm, fun _ => rfl⟩
         repeat (first | exact List.Sublist.refl _ | exact List.nil_sublist _ | exact List.sublist_append_left _ _ | apply List.Sublist.cons)
set_option maxHeartbeats 4000000 in
theorem linear85_c (c : List Call) (r : Int) (hc : c.length ≤ 1000000) (H : Heap) : QCall Try.prog 85 [.ro (c.map Call.cells), .lit (.int .i64 r)] H (linA (linearS c r)) := by
  refine QCall.any H ?_
  refine acall_intro (n := 30) (rvs := [.tmp 4, .tmp 5]) Try.func85 rfl rfl rfl (Nat.le_of_ble_eq_true rfl) ?_
  refine awp_seq ?_
  refine awp_region ?_
  (refine aes rfl (e_bx (by constructor) rfl rfl) rfl ?_; rintro _ _ ⟨u2, rfl, rfl⟩)
  (refine aes rfl (e_bx (by constructor) rfl rfl) rfl ?_; rintro _ _ ⟨u3, rfl, rfl⟩)
  refine aqs rfl (q_as (by constructor)) rfl ?_
  refine aqs rfl (q_as (by constructor)) rfl ?_
  refine alist_nil ?_
  show AWP _ _ _ _
  refine awp_seq ?_
  refine awp_seq ?_
  refine awp_region ?_
  first | refine aqs rfl (q_ldpN ag90 rfl (by repeat (first | exact .here | assumption | (apply HAt.left; assumption) | apply HAt.there | apply HAt.right)) (by first | rfl | assumption | (simp [*]; done) | fail) (by first | rfl | assumption | (simp [*]; done) | fail) (by constructor)) rfl ?_ | refine aqs rfl (q_ld1N ag90 rfl (by constructor)) rfl ?_
  first | refine aqs rfl (q_len Try.underlying90 .ro) rfl ?_ | refine aqs rfl (q_lenO Try.underlying90 rfl (by repeat (first | exact .here | assumption | (apply HAt.left; assumption) | apply HAt.there | apply HAt.right)) (by first | omega | (simp; done) | (simp; omega) | fail) (by first | exact Nat.sub_zero _ | rfl)) rfl ?_ | refine aqs rfl (q_len Try.underlying90 .nil) rfl ?_ | refine aqs rfl (q_len Try.underlying90 .cro) rfl ?_
  refine aqs rfl (q_mv (by constructor)) rfl ?_
  refine alist_nil ?_
  show AWP _ _ _ _
  refine awp_block ?_
  rw [List.length_map]
  refine awp_loop_inv (fun i : Nat => ⟨[(14, .lit (.int .i64 i)), (13, .lit (.int .i64 c.length)), (12, .ro (c.map Call.cells)), (2, .ptr u2 0 0), (3, .ptr u3 0 0)], 30, [(u3, .arr 3 1 [[.lit (.int .i64 r)]]), (u2, .arr 90 1 [[.ro (c.map Call.cells)]])]⟩) (fun i => i ≤ c.length ∧ ∀ j, j < i → mayC (nth c j) = true) (fun i => c.length - i) 0 ?_ ?_ ?_
  ·exact ⟨Nat.zero_le _, fun j h => absurd h (Nat.not_lt_zero _)⟩
  ·exact .mk' (by repeat (first | exact trivial | refine ⟨rfl, ?_⟩)) (by repeat (first | exact .refl _ | apply List.Sublist.cons_cons | apply List.Sublist.cons))
  ·rintro i ⟨hi, hall⟩
   refine awp_seq ?_
   refine awp_region ?_
   refine aqs rfl (q_lss rfl rfl) rfl ?_
   refine alist_nil ?_
   show AWP _ _ _ _
   refine awp_seq ?_
   refine awp_cond rfl (fun hc0 => ?_) (fun hc0 => ?_)
   ·simp only [decide_eq_true_eq] at hc0
    have hs2 := get_map (f := Call.cells) (nth_get (c := c) (i := i) (by omega))
    refine awp_skip ?_
    show AWP _ _ _ _
    refine awp_seq ?_
    refine awp_block ?_
    refine awp_seq ?_
    refine awp_region ?_
    first | refine aqs rfl (q_iaN Try.underlying90 sz103 (.inl rfl) rfl (by omega) (by first | rfl | assumption | (simp [*]; done) | fail) (by first | rfl | assumption | (simp [*]; done) | fail) (by decide) (by first | ((repeat constructor); done) | exact .same _)) rfl ?_ | refine aqs rfl (q_iaS Try.underlying90 sz103 rfl (by repeat (first | exact .here | assumption | (apply HAt.left; assumption) | apply HAt.there | apply HAt.right)) rfl (by omega) (by omega) (by first | exact Nat.zero_add _ | rfl)) rfl ?_ | refine aqs rfl (q_iaN Try.underlying90 sz103 (.inr rfl) rfl (by omega) (by first | rfl | assumption | (simp [*]; done) | fail) (by first | rfl | assumption | (simp [*]; done) | fail) (by decide) (by first | ((repeat constructor); done) | exact .same _)) rfl ?_
    first | refine aqs rfl (q_ldpW ag103 sz103 rfl (by repeat (first | exact .here | assumption | (apply HAt.left; assumption) | apply HAt.there | apply HAt.right)) (by first | rfl | assumption | (simp [*]; done) | fail) (by first | rfl | assumption | (simp [*]; done) | fail) (by decide)) rfl ?_ | refine aqs rfl (q_ldW ag103 sz103 rfl (by first | rfl | assumption | (simp [*]; done) | fail)) rfl ?_ | refine aqs rfl (q_ldpP ag103 sz103 rfl (by repeat (first | exact .here | assumption | (apply HAt.left; assumption) | apply HAt.there | apply HAt.right)) (by first | rfl | assumption | (simp [*]; done) | fail) (by first | decide | (simp; done) | omega | fail) (by decide) (by first | ((repeat constructor); done) | exact .same _)) rfl ?_ | refine aqs rfl (q_ldP ag103 sz103 rfl (by first | decide | (simp; done) | omega | fail) (by first | ((repeat constructor); done) | exact .same _)) rfl ?_
    (refine aes rfl (e_al (xs := [.lit (.bool false), .lit (.int .i64 0), .lit (.int .i64 0), .lit (.int .i64 0), .lit (.bool false), .lit (.int .i64 0), .lit (.int .i64 0)]) (k := 7) zr103 (.same _) rfl) rfl ?_; rintro _ _ ⟨u7, rfl, rfl⟩)
    first | (refine aen rfl (e_stW sz103 rfl (by repeat (first | exact .here | assumption | (apply HAt.left; assumption) | apply HAt.there | apply HAt.right)) (by constructor) (by first | rfl | assumption | (simp [*]; done) | fail) rfl (by repeat (first | exact .here | apply HSet.there))) ?_; rintro _ _ ⟨rfl, rfl⟩) | (refine aen rfl (e_stP sz103 rfl (by repeat (first | exact .here | assumption | (apply HAt.left; assumption) | apply HAt.there | apply HAt.right)) (by first | rfl | assumption | (simp [*]; done) | fail) (by constructor) (by first | rfl | assumption | (simp [*]; done) | fail) rfl (by first | decide | omega) (by first | ((repeat constructor); done) | exact .same _) (by first | exact .one | exact .set) (by repeat (first | exact .here | apply HSet.there))) ?_; rintro _ _ ⟨rfl, rfl⟩)
    refine alist_nil ?_
    show AWP _ _ _ _
    refine awp_seq ?_
    refine awp_region ?_
    first | refine aqs rfl (q_ldpW ag103 sz103 rfl (by repeat (first | exact .here | assumption | (apply HAt.left; assumption) | apply HAt.there | apply HAt.right)) (by first | rfl | assumption | (simp [*]; done) | fail) (by first | rfl | assumption | (simp [*]; done) | fail) (by decide)) rfl ?_ | refine aqs rfl (q_ldW ag103 sz103 rfl (by first | rfl | assumption | (simp [*]; done) | fail)) rfl ?_ | refine aqs rfl (q_ldpP ag103 sz103 rfl (by repeat (first | exact .here | assumption | (apply HAt.left; assumption) | apply HAt.there | apply HAt.right)) (by first | rfl | assumption | (simp [*]; done) | fail) (by first | decide | (simp; done) | omega | fail) (by decide) (by first | ((repeat constructor); done) | exact .same _)) rfl ?_ | refine aqs rfl (q_ldP ag103 sz103 rfl (by first | decide | (simp; done) | omega | fail) (by first | ((repeat constructor); done) | exact .same _)) rfl ?_
    first | refine aqs rfl (e_callN cb138 (may138_c (nth c i) _) rfl rfl) rfl ?_ | refine aqs rfl (e_callN cb138 (ACall.arg (may138_c (nth c i) _) (by repeat (first | exact ArgL.nil | (apply ArgL.cons; (· first | exact .same | exact .cro | exact .nil))))) rfl rfl) rfl ?_
    refine aqs rfl (q_not rfl) rfl ?_
    refine alist_nil ?_
    show AWP _ _ _ _
    refine awp_cond rfl (fun hc1 => ?_) (fun hc1 => ?_)
    ·rw [linS_bad (show i < c.length by omega) (by simpa using hc1)]
     refine awp_seq ?_
     refine awp_region ?_
     refine aqs rfl (q_as (by constructor)) rfl ?_
     refine aqs rfl (q_as (by constructor)) rfl ?_
     refine alist_nil ?_
     show AWP _ _ _ _
     refine awp_ret ?_
     repeat first | with_reducible refine then_ret ?_ | with_reducible refine blk_ret ?_
     apply retq (.inr rfl) (.cons (rok_t rfl) (.cons (rok_t rfl) .nil))
     rotate_left
     ·exact ⟨rfl, rfl⟩
     repeat (first | exact List.Sublist.refl _ | exact List.nil_sublist _ | exact List.sublist_append_left _ _ | apply List.Sublist.cons)
    ·have hok : mayC (nth c i) = true := by simpa using hc1
     refine awp_skip ?_
     show AWP _ _ _ _
     refine awp_region ?_
     first | refine aqs rfl (q_add64 rfl rfl (by omega) (by omega)) rfl ?_ | refine aqs rfl (q_add rfl rfl) rfl ?_
     refine aqs rfl (q_mv (by constructor)) rfl ?_
     refine alist_nil ?_
     show ∃ y, _ ∧ _ ∧ _
     exact ⟨i + 1, ⟨by omega, upto hall hok⟩, by omega, .mk' ⟨by rfl, rfl, rfl, rfl, rfl, trivial⟩ (by repeat (first | exact List.Sublist.refl _ | exact List.nil_sublist _ | exact List.sublist_append_left _ _ | (apply List.Sublist.cons_cons) | (apply List.Sublist.cons)))⟩
   ·simp only [decide_eq_false_iff_not] at hc0
    have hall2 : ∀ j, j < c.length → mayC (nth c j) = true := fun j hj => hall j (by omega)
    refine awp_exit ?_
    show AWP _ _ _ _
    refine awp_seq ?_
    refine awp_seq ?_
    refine awp_region ?_
    first | refine aqs rfl (q_ldpN ag90 rfl (by repeat (first | exact .here | assumption | (apply HAt.left; assumption) | apply HAt.there | apply HAt.right)) (by first | rfl | assumption | (simp [*]; done) | fail) (by first | rfl | assumption | (simp [*]; done) | fail) (by constructor)) rfl ?_ | refine aqs rfl (q_ld1N ag90 rfl (by constructor)) rfl ?_
    first | refine aqs rfl (q_len Try.underlying90 .ro) rfl ?_ | refine aqs rfl (q_lenO Try.underlying90 rfl (by repeat (first | exact .here | assumption | (apply HAt.left; assumption) | apply HAt.there | apply HAt.right)) (by first | omega | (simp; done) | (simp; omega) | fail) (by first | exact Nat.sub_zero _ | rfl)) rfl ?_ | refine aqs rfl (q_len Try.underlying90 .nil) rfl ?_ | refine aqs rfl (q_len Try.underlying90 .cro) rfl ?_
    refine aqs rfl (q_gtr rfl rfl) rfl ?_
    refine alist_nil ?_
    show AWP _ _ _ _
    refine awp_cond rfl (fun hc2 => ?_) (fun hc2 => ?_)
    ·have h8 : 8 < c.length := by simp at hc2; omega
     rw [linS_many hall2 h8]
     refine awp_seq ?_
     refine awp_region ?_
     refine aqs rfl (q_as (by constructor)) rfl ?_
     refine aqs rfl (q_as (by constructor)) rfl ?_
     refine alist_nil ?_
     show AWP _ _ _ _
     refine awp_ret ?_
     repeat first | with_reducible refine then_ret ?_ | with_reducible refine blk_ret ?_
     apply retq (.inr rfl) (.cons (rok_t rfl) (.cons (rok_t rfl) .nil))
     rotate_left
     ·exact ⟨rfl, rfl⟩
     repeat (first | exact List.Sublist.refl _ | exact List.nil_sublist _ | exact List.sublist_append_left _ _ | apply List.Sublist.cons)
    ·have h8 : ¬ 8 < c.length := by simp at hc2; omega
     rw [linS_ok hall2 h8]
     refine awp_skip ?_
     show AWP _ _ _ _
     refine awp_seq ?_
     refine awp_region ?_
     (refine aes rfl (e_al (xs := [.lit (.slice none 0 0)]) (k := 1) zr90 (.same _) rfl) rfl ?_; rintro _ _ ⟨u8, rfl, rfl⟩)
     refine alist_nil ?_
     show AWP _ _ _ _
     refine awp_adopt_ob (u := u8) (j := 0) 103 7 (by repeat (first | exact .here | assumption | (apply HAt.left; assumption) | apply HAt.there | apply HAt.right)) rfl (fun u' => (by repeat (first | exact .here | apply HSet.there))) fun u0 => ?_
     show AWP _ _ _ _
     refine awp_seq ?_
     refine awp_region ?_
     (refine aes rfl (e_mm) rfl ?_; rintro _ _ ⟨u25, rfl, rfl⟩)
     (refine aes rfl (e_al (xs := [.lit (.map none)]) (k := 1) zr175 (.same _) rfl) rfl ?_; rintro _ _ ⟨u9, rfl, rfl⟩)
     first | (refine aen rfl (e_stW sz175 rfl (by repeat (first | exact .here | assumption | (apply HAt.left; assumption) | apply HAt.there | apply HAt.right)) (by constructor) (by first | rfl | assumption | (simp [*]; done) | fail) rfl (by repeat (first | exact .here | apply HSet.there))) ?_; rintro _ _ ⟨rfl, rfl⟩) | (refine aen rfl (e_stP sz175 rfl (by repeat (first | exact .here | assumption | (apply HAt.left; assumption) | apply HAt.there | apply HAt.right)) (by first | rfl | assumption | (simp [*]; done) | fail) (by constructor) (by first | rfl | assumption | (simp [*]; done) | fail) rfl (by first | decide | omega) (by first | ((repeat constructor); done) | exact .same _) (by first | exact .one | exact .set) (by repeat (first | exact .here | apply HSet.there))) ?_; rintro _ _ ⟨rfl, rfl⟩)
     refine alist_nil ?_
     show AWP _ _ _ _
     refine awp_seq ?_
     refine awp_region ?_
     refine aqs rfl (q_fn (by first | ((repeat constructor); done) | exact .same _) (by first | ((repeat constructor); done) | exact .same _)) rfl ?_
     (refine aes rfl (e_al (xs := [.lit .nilFunc]) (k := 1) zr177 (.same _) rfl) rfl ?_; rintro _ _ ⟨u10, rfl, rfl⟩)
     first | (refine aen rfl (e_stW sz177 rfl (by repeat (first | exact .here | assumption | (apply HAt.left; assumption) | apply HAt.there | apply HAt.right)) (by constructor) (by first | rfl | assumption | (simp [*]; done) | fail) rfl (by repeat (first | exact .here | apply HSet.there))) ?_; rintro _ _ ⟨rfl, rfl⟩) | (refine aen rfl (e_stP sz177 rfl (by repeat (first | exact .here | assumption | (apply HAt.left; assumption) | apply HAt.there | apply HAt.right)) (by first | rfl | assumption | (simp [*]; done) | fail) (by constructor) (by first | rfl | assumption | (simp [*]; done) | fail) rfl (by first | decide | omega) (by first | ((repeat constructor); done) | exact .same _) (by first | exact .one | exact .set) (by repeat (first | exact .here | apply HSet.there))) ?_; rintro _ _ ⟨rfl, rfl⟩)
     refine alist_nil ?_
     show AWP _ _ _ _
     refine awp_seq ?_
     refine awp_region ?_
     (refine aes rfl (e_al (xs := [.lit .nilFunc]) (k := 1) zr23 (.same _) rfl) rfl ?_; rintro _ _ ⟨u11, rfl, rfl⟩)
     refine alist_nil ?_
     show AWP _ _ _ _
     refine awp_seq ?_
     refine awp_region ?_
     refine aqs rfl (q_fn (by first | ((repeat constructor); done) | exact .same _) (by first | ((repeat constructor); done) | exact .same _)) rfl ?_
     first | (refine aen rfl (e_stW sz23 rfl (by repeat (first | exact .here | assumption | (apply HAt.left; assumption) | apply HAt.there | apply HAt.right)) (by constructor) (by first | rfl | assumption | (simp [*]; done) | fail) rfl (by repeat (first | exact .here | apply HSet.there))) ?_; rintro _ _ ⟨rfl, rfl⟩) | (refine aen rfl (e_stP sz23 rfl (by repeat (first | exact .here | assumption | (apply HAt.left; assumption) | apply HAt.there | apply HAt.right)) (by first | rfl | assumption | (simp [*]; done) | fail) (by constructor) (by first | rfl | assumption | (simp [*]; done) | fail) rfl (by first | decide | omega) (by first | ((repeat constructor); done) | exact .same _) (by first | exact .one | exact .set) (by repeat (first | exact .here | apply HSet.there))) ?_; rintro _ _ ⟨rfl, rfl⟩)
     refine alist_nil ?_
     show AWP _ _ _ _
     refine awp_seq ?_
     refine awp_region ?_
     first | refine aqs rfl (q_ldpN ag23 rfl (by repeat (first | exact .here | assumption | (apply HAt.left; assumption) | apply HAt.there | apply HAt.right)) (by first | rfl | assumption | (simp [*]; done) | fail) (by first | rfl | assumption | (simp [*]; done) | fail) (by constructor)) rfl ?_ | refine aqs rfl (q_ld1N ag23 rfl (by constructor)) rfl ?_
     (refine aes rfl (e_callC cb140 (search140_c c r (by omega) u2 u3 u8 u9 u10 u11 u25 (c.length + 1) [] [] u0 [] (ord_nil c) (by simp) done_nil) rfl rfl) rfl ?_; rintro _ _ ⟨o1, kv1, uo1, ex1, rfl, rfl, hm1, _⟩)
     refine aqs rfl (q_as (by constructor)) rfl ?_
     refine aqs rfl (q_as (by constructor)) rfl ?_
     refine alist_nil ?_
     show AWP _ _ _ _
     refine awp_ret ?_
     repeat first | with_reducible refine then_ret ?_ | with_reducible refine blk_ret ?_
     apply retq (.inr rfl) (.cons (rok_t rfl) (.cons (rok_t rfl) .nil))
     rotate_left
     ·exact ⟨rfl, rfl⟩
     repeat (first | exact List.Sublist.refl _ | exact List.nil_sublist _ | exact List.sublist_append_left _ _ | apply List.Sublist.cons)
end Go.Proofs.YtdlinfekifnmkaaAm
