/- Contracts of the layer 'hist', sixth part: the reference's search. Conditions: the lengths. -/
import Derived.Test.YtdlinfekifnmkaaAmHistE
set_option linter.unusedVariables false
set_option linter.unusedSimpArgs false
set_option maxRecDepth 20000
namespace Go.Proofs.YtdlinfekifnmkaaAm
open Go.Proofs
set_option maxHeartbeats 400000 in
theorem seek141_c (c : List Call) (r : Int) (hc : c.length ≤ 1000) : ∀ (n : Nat) (o : List Nat) (H : Heap), Ord c o → c.length < n + o.length → QCall Try.prog 141 [.ro (c.map Call.cells), .ro (o.map cN), .lit (.int .i64 r)] H (.lit (.bool (legal (listed c o) r && seek c r n o))) := by
  intro n
  induction n with
  | zero => intro o H ho hn; have := ho.len; omega
  | succ n ih =>
    intro o H ho hn
    refine QCall.any H ?_
    have hol := ho.len
    have hll : (listed c o).length = o.length := by simp [listed]
    have hlo : ∀ x ∈ o.map cN, x.length = 1 := fun x hx => by obtain ⟨y, _, rfl⟩ := List.mem_map.1 hx; rfl
    have hoo : ∀ x ∈ o.map cN, x.all cell1 = true := fun x hx => by obtain ⟨y, _, rfl⟩ := List.mem_map.1 hx; rfl
    have hoi : ∀ i : Nat, (o.map cN).take (o.map cN).length ++ [[AV.lit (.int .i64 i)]] = (o ++ [i]).map cN := fun i => by
      rw [List.take_length]; simp [cN]
    refine acall_intro (n := 41) (rvs := [.tmp 6]) Try.func141 rfl rfl rfl (Nat.le_of_ble_eq_true rfl) ?_
    refine awp_seq ?_
    refine awp_region ?_
    refine aqs rfl (q_as (by constructor)) rfl ?_
    refine alist_nil ?_
    show AWP _ _ _ _
    refine awp_seq ?_
    refine awp_region ?_
    refine aqs rfl (q_mv (by constructor)) rfl ?_
    refine aqs rfl (q_mv (by constructor)) rfl ?_
    first | refine aqs rfl (e_callN cb171 (listed171_c c o ho.lt (by omega) _) rfl rfl) rfl ?_ | refine aqs rfl (e_callN cb171 (ACall.arg (listed171_c c o ho.lt (by omega) _) (by repeat (first | exact ArgL.nil | (apply ArgL.cons; (· first | exact .same | exact .cro | exact .nil))))) rfl rfl) rfl ?_
    refine aqs rfl (q_mv (by constructor)) rfl ?_
    first | refine aqs rfl (e_callN cb88 (legal88_c (listed c o) r (by omega) _) rfl rfl) rfl ?_ | refine aqs rfl (e_callN cb88 (ACall.arg (legal88_c (listed c o) r (by omega) _) (by repeat (first | exact ArgL.nil | (apply ArgL.cons; (· first | exact .same | exact .cro | exact .nil))))) rfl rfl) rfl ?_
    refine aqs rfl (q_as (by constructor)) rfl ?_
    refine alist_nil ?_
    show AWP _ _ _ _
    refine awp_seq ?_
    refine awp_seq ?_
    refine awp_region ?_
    refine aqs rfl (q_mv (by constructor)) rfl ?_
    refine aqs rfl (q_not rfl) rfl ?_
    refine alist_nil ?_
    show AWP _ _ _ _
    refine awp_cond rfl (fun hc0 => ?_) (fun hc0 => ?_)
    · have hl : legal (listed c o) r = false := by simpa using hc0
      rw [hl, Bool.false_and]
      refine awp_seq ?_
      refine awp_region ?_
      refine aqs rfl (q_as (by constructor)) rfl ?_
      refine alist_nil ?_
      show AWP _ _ _ _
      refine awp_ret ?_
      repeat first | with_reducible refine then_ret ?_ | with_reducible refine blk_ret ?_
      apply retq (.inr rfl) (.cons (rok_t rfl) .nil)
      rotate_left
      · exact ⟨rfl, rfl⟩
      repeat (first | exact List.Sublist.refl _ | exact List.nil_sublist _ | exact List.sublist_append_left _ _ | apply List.Sublist.cons)
    · have hl : legal (listed c o) r = true := by simpa using hc0
      rw [hl, Bool.true_and]
      refine awp_skip ?_
      show AWP _ _ _ _
      refine awp_seq ?_
      refine awp_seq ?_
      refine awp_region ?_
      refine aqs rfl (q_mv (by constructor)) rfl ?_
      refine aqs rfl (q_mv (by constructor)) rfl ?_
      first | refine aqs rfl (e_callN cb172 (whole172_c c o (by omega) (by omega) _) rfl rfl) rfl ?_ | refine aqs rfl (e_callN cb172 (ACall.arg (whole172_c c o (by omega) (by omega) _) (by repeat (first | exact ArgL.nil | (apply ArgL.cons; (· first | exact .same | exact .cro | exact .nil))))) rfl rfl) rfl ?_
      refine alist_nil ?_
      show AWP _ _ _ _
      refine awp_cond rfl (fun hc1 => ?_) (fun hc1 => ?_)
      · have e : seek c r (n + 1) o = true := by rw [seek, hc1]; rfl
        rw [e]
        refine awp_seq ?_
        refine awp_region ?_
        refine aqs rfl (q_as (by constructor)) rfl ?_
        refine alist_nil ?_
        show AWP _ _ _ _
        refine awp_ret ?_
        repeat first | with_reducible refine then_ret ?_ | with_reducible refine blk_ret ?_
        apply retq (.inr rfl) (.cons (rok_t rfl) .nil)
        rotate_left
        · exact ⟨rfl, rfl⟩
        repeat (first | exact List.Sublist.refl _ | exact List.nil_sublist _ | exact List.sublist_append_left _ _ | apply List.Sublist.cons)
      · have e : seek c r (n + 1) o = (List.range c.length).any fun i => mayB c o i && (legal (listed c (o ++ [i])) r && seek c r n (o ++ [i])) := by rw [seek, hc1]; rfl
        rw [e]
        refine awp_skip ?_
        show AWP _ _ _ _
        refine awp_seq ?_
        refine awp_seq ?_
        refine awp_region ?_
        refine aqs rfl (q_as (by constructor)) rfl ?_
        refine alist_nil ?_
        show AWP _ _ _ _
        refine awp_block ?_
        refine awp_loop_inv (fun i : Nat => ⟨[(8, .lit (.int .i64 i)), (0, .ro (c.map Call.cells)), (1, .ro (o.map cN)), (2, .lit (.int .i64 r))], 41, []⟩) (fun i => i ≤ c.length ∧ ∀ j, j < i → (mayB c o j && (legal (listed c (o ++ [j])) r && seek c r n (o ++ [j]))) = false) (fun i => c.length - i) 0 ?_ ?_ ?_
        · exact ⟨Nat.zero_le _, fun j h => absurd h (Nat.not_lt_zero _)⟩
        · exact .mk' (by repeat (first | exact trivial | refine ⟨rfl, ?_⟩)) (by repeat (first | exact .refl _ | apply List.Sublist.cons_cons | apply List.Sublist.cons))
        · rintro i ⟨hi, hall⟩
          refine awp_seq ?_
          refine awp_seq ?_
          refine awp_region ?_
          refine aqs rfl (q_mv (by constructor)) rfl ?_
          refine aqs rfl (q_mv (by constructor)) rfl ?_
          first | refine aqs rfl (q_len Try.underlying90 .ro) rfl ?_ | refine aqs rfl (q_lenO Try.underlying90 rfl (by repeat (first | exact .here | assumption | (apply HAt.left; assumption) | apply HAt.there | apply HAt.right)) (by first | omega | (simp; done) | (simp; omega) | fail) (by first | exact Nat.sub_zero _ | rfl)) rfl ?_ | refine aqs rfl (q_len Try.underlying90 .nil) rfl ?_ | refine aqs rfl (q_len Try.underlying90 .cro) rfl ?_
          refine aqs rfl (q_lss rfl rfl) rfl ?_
          refine alist_nil ?_
          show AWP _ _ _ _
          refine awp_cond rfl (fun hc2 => ?_) (fun hc2 => ?_)
          · simp only [decide_eq_true_eq, List.length_map] at hc2
            have hoi2 := hoi i
            refine awp_skip ?_
            show AWP _ _ _ _
            refine awp_seq ?_
            refine awp_block ?_
            refine awp_seq ?_
            refine awp_region ?_
            refine aqs rfl (q_mv (by constructor)) rfl ?_
            refine aqs rfl (q_mv (by constructor)) rfl ?_
            refine aqs rfl (q_mv (by constructor)) rfl ?_
            first | refine aqs rfl (e_callN cb173 (may173_c c o i (by omega) (by omega) (by omega) _) rfl rfl) rfl ?_ | refine aqs rfl (e_callN cb173 (ACall.arg (may173_c c o i (by omega) (by omega) (by omega) _) (by repeat (first | exact ArgL.nil | (apply ArgL.cons; (· first | exact .same | exact .cro | exact .nil))))) rfl rfl) rfl ?_
            refine aqs rfl (q_as (by constructor)) rfl ?_
            refine alist_nil ?_
            show AWP _ _ _ _
            refine awp_mid [(40, .lit (.bool (mayB c o i && (legal (listed c (o ++ [i])) r && seek c r n (o ++ [i]))))), (8, .lit (.int .i64 i)), (0, .ro (c.map Call.cells)), (1, .ro (o.map cN)), (2, .lit (.int .i64 r))] ?_ ?_
            · skip
              refine awp_region ?_
              all_goals (refine aqs rfl (q_mv (by constructor)) rfl ?_)
              all_goals (refine aqs rfl (q_mv (by constructor)) rfl ?_)
              all_goals try (refine acase (fun hb1 => ?_) (fun hb1 => ?_))
              all_goals first | (exfalso; cases hb1; done) | skip
              all_goals (first | refine ans rfl rfl ?_ | refine aqs rfl (q_mv (by constructor)) rfl ?_)
              all_goals (first | refine ans rfl rfl ?_ | refine aqs rfl (q_mv (by constructor)) rfl ?_)
              all_goals (first | refine ans rfl rfl ?_ | (refine aes rfl (e_apO Try.underlying25 sz3 by3 zr3 rfl (by repeat (first | exact .here | assumption | (apply HAt.left; assumption) | apply HAt.there | apply HAt.right)) (by first | exact Nat.le_refl _ | (simp; done)) (by first | exact .ro | exact .cro | exact .nil | exact SV.slA (by repeat (first | exact .here | assumption | (apply HAt.left; assumption) | apply HAt.there | apply HAt.right)) (by first | rfl | (simp; done) | (simp; omega) | (simp [*]; done) | fail)) (by first | assumption | (intro c hc; simp at hc; subst hc; rfl) | (simp; done) | fail) (by first | assumption | (intro c hc; simp at hc; subst hc; rfl) | (simp; done) | fail) (by first | assumption | (intro c hc; simp at hc; subst hc; rfl) | (simp; done) | fail) (by first | (simp; done) | (simp; omega) | omega | fail) (by decide) (by decide) rfl (by rfl) (by first | exact hoi2 | rfl) (fun v => (by repeat (first | exact .here | apply HSet.there)))) rfl ?_; rintro _ _ ⟨u34, rfl, rfl⟩) | (refine aes rfl (e_apN Try.underlying25 sz3 by3 zr3 rfl (by first | exact .ro | exact .cro | exact .nil | exact SV.slA (by repeat (first | exact .here | assumption | (apply HAt.left; assumption) | apply HAt.there | apply HAt.right)) (by first | rfl | (simp; done) | (simp; omega) | (simp [*]; done) | fail)) (by first | assumption | (intro c hc; simp at hc; subst hc; rfl) | (simp; done) | fail) (by first | assumption | (intro c hc; simp at hc; subst hc; rfl) | (simp; done) | fail) (by first | (simp; done) | (simp; omega) | omega | fail) (by decide) (by decide) rfl rfl) rfl ?_; rintro _ _ ⟨u34, rfl, rfl⟩))
              all_goals (first | refine ans rfl rfl ?_ | refine aqs rfl (q_mv (by constructor)) rfl ?_)
              all_goals (first | refine ans rfl rfl ?_ | refine aqs rfl (q_bs Try.underlying25 sz3 zr3 rfl (by first | ((repeat constructor); done) | exact .same _) rfl (by decide) (by repeat (first | exact BS.nil | (apply BS.cons; (· constructor); (· rfl); (· rfl); (· rfl); (· exact (by first | ((repeat constructor); done) | exact .same _)))))) rfl ?_ | (refine aes rfl (e_bs Try.underlying25 sz3 zr3 rfl (by first | ((repeat constructor); done) | exact .same _) rfl (by decide) (by repeat (first | exact BS.nil | (apply BS.cons; (· constructor); (· rfl); (· rfl); (· rfl); (· exact (by first | ((repeat constructor); done) | exact .same _)))))) rfl ?_; rintro _ _ ⟨u36, rfl, rfl⟩))
              all_goals (first | refine ans rfl rfl ?_ | refine aqs rfl (q_apC Try.underlying25 sz3 by3 zr3 (.inl rfl) (by first | exact .ro | exact .cro | exact .nil | exact SV.slA (by repeat (first | exact .here | assumption | (apply HAt.left; assumption) | apply HAt.there | apply HAt.right)) (by first | rfl | (simp; done) | (simp; omega) | (simp [*]; done) | fail)) (by first | assumption | (intro c hc; simp at hc; subst hc; rfl) | (simp; done) | fail) (by first | assumption | (intro c hc; simp at hc; subst hc; rfl) | (simp; done) | fail) (by first | omega | decide | (simp; omega) | assumption | fail) (by decide) (by decide) rfl (by first | rfl | (simp; done) | fail)) rfl ?_ | refine aqs rfl (q_apC Try.underlying25 sz3 by3 zr3 (.inr ⟨rfl, rfl⟩) (by first | exact .ro | exact .cro | exact .nil | exact SV.slA (by repeat (first | exact .here | assumption | (apply HAt.left; assumption) | apply HAt.there | apply HAt.right)) (by first | rfl | (simp; done) | (simp; omega) | (simp [*]; done) | fail)) (by first | assumption | (intro c hc; simp at hc; subst hc; rfl) | (simp; done) | fail) (by first | assumption | (intro c hc; simp at hc; subst hc; rfl) | (simp; done) | fail) (by first | omega | decide | (simp; omega) | assumption | fail) (by decide) (by decide) rfl (by first | rfl | (simp; done) | fail)) rfl ?_ | (refine aes rfl (e_apO Try.underlying25 sz3 by3 zr3 rfl (by repeat (first | exact .here | assumption | (apply HAt.left; assumption) | apply HAt.there | apply HAt.right)) (by first | exact Nat.le_refl _ | (simp; done)) (by first | exact .ro | exact .cro | exact .nil | exact SV.slA (by repeat (first | exact .here | assumption | (apply HAt.left; assumption) | apply HAt.there | apply HAt.right)) (by first | rfl | (simp; done) | (simp; omega) | (simp [*]; done) | fail)) (by first | assumption | (intro c hc; simp at hc; subst hc; rfl) | (simp; done) | fail) (by first | assumption | (intro c hc; simp at hc; subst hc; rfl) | (simp; done) | fail) (by first | assumption | (intro c hc; simp at hc; subst hc; rfl) | (simp; done) | fail) (by first | (simp; done) | (simp; omega) | omega | fail) (by decide) (by decide) rfl (by rfl) (by first | exact hoi2 | rfl) (fun v => (by repeat (first | exact .here | apply HSet.there)))) rfl ?_; rintro _ _ ⟨u37, rfl, rfl⟩) | (refine aes rfl (e_apN Try.underlying25 sz3 by3 zr3 rfl (by first | exact .ro | exact .cro | exact .nil | exact SV.slA (by repeat (first | exact .here | assumption | (apply HAt.left; assumption) | apply HAt.there | apply HAt.right)) (by first | rfl | (simp; done) | (simp; omega) | (simp [*]; done) | fail)) (by first | assumption | (intro c hc; simp at hc; subst hc; rfl) | (simp; done) | fail) (by first | assumption | (intro c hc; simp at hc; subst hc; rfl) | (simp; done) | fail) (by first | (simp; done) | (simp; omega) | omega | fail) (by decide) (by decide) rfl rfl) rfl ?_; rintro _ _ ⟨u37, rfl, rfl⟩))
              all_goals try (refine alist_pub (u := u37) (by repeat (first | exact .here | assumption | (apply HAt.left; assumption) | apply HAt.there | apply HAt.right)) (by repeat (first | exact PubT.nil | (apply PubT.cons; (· first | exact .one (pub_all (by first | rfl | (simp; done) | (simp; omega) | (simp [*]; done) | fail)) | exact .one .same)) | exact PubT.same)) (by repeat (first | exact PubH.drop .same | (apply PubH.cons; (· exact .same)))) ?_)
              all_goals (first | refine ans rfl rfl ?_ | refine aqs rfl (q_mv (by constructor)) rfl ?_)
              all_goals (first | refine ans rfl rfl ?_ | refine aqs rfl (e_callN cb141 (ih (o ++ [i]) _ (ho.next (by omega) (may_iff.1 hb1).1) (by simp; omega)) rfl rfl) rfl ?_ | refine aqs rfl (e_callN cb141 (ACall.arg (ih (o ++ [i]) _ (ho.next (by omega) (may_iff.1 hb1).1) (by simp; omega)) (by repeat (first | exact ArgL.nil | (apply ArgL.cons; (· first | exact .same | exact .cro | exact .nil))))) rfl rfl) rfl ?_)
              all_goals (first | refine aqs rfl (q_pickT rfl (by constructor)) rfl ?_ | refine aqs rfl (q_pickF rfl (by constructor)) rfl ?_)
              all_goals (refine alist_nil ?_)
              all_goals (exact ⟨rfl, .mk' (by repeat (first | exact trivial | refine ⟨rfl, ?_⟩ | (refine ⟨?_, ?_⟩; (· first | (rw [hb1]; rfl) | fail)))) (by repeat (first | exact .refl _ | exact List.nil_sublist _ | exact List.sublist_append_left _ _ | apply List.Sublist.cons))⟩)
            refine awp_cond rfl (fun hc3 => ?_) (fun hc3 => ?_)
            · rw [any_yes (by omega) hc3]
              refine awp_seq ?_
              refine awp_region ?_
              refine aqs rfl (q_as (by constructor)) rfl ?_
              refine alist_nil ?_
              show AWP _ _ _ _
              refine awp_ret ?_
              repeat first | with_reducible refine then_ret ?_ | with_reducible refine blk_ret ?_
              apply retq (.inr rfl) (.cons (rok_t rfl) .nil)
              rotate_left
              · exact ⟨rfl, rfl⟩
              repeat (first | exact List.Sublist.refl _ | exact List.nil_sublist _ | exact List.sublist_append_left _ _ | apply List.Sublist.cons)
            · try simp only [decide_eq_true_eq, decide_eq_false_iff_not, Bool.not_eq_true', Bool.not_eq_false', Bool.not_eq_eq_eq_not, Bool.not_true, Bool.not_false, beq_iff_eq, beq_eq_false_iff_ne, Int.not_lt, Int.not_le] at hc3
              refine awp_skip ?_
              show AWP _ _ _ _
              refine awp_region ?_
              refine aqs rfl (q_mv (by constructor)) rfl ?_
              first | refine aqs rfl (q_add64 rfl rfl (by omega) (by omega)) rfl ?_ | refine aqs rfl (q_add rfl rfl) rfl ?_
              refine aqs rfl (q_as (by constructor)) rfl ?_
              refine alist_nil ?_
              show ∃ y, _ ∧ _ ∧ _
              exact ⟨i + 1, ⟨by omega, upto hall hc3⟩, by omega, .mk' ⟨by rfl, rfl, rfl, rfl, trivial⟩ (.refl _)⟩
          · simp only [decide_eq_false_iff_not, List.length_map] at hc2
            rw [any_no fun j hj => hall j (by omega)]
            refine awp_exit ?_
            show AWP _ _ _ _
            refine awp_seq ?_
            refine awp_region ?_
            refine aqs rfl (q_as (by constructor)) rfl ?_
            refine alist_nil ?_
            show AWP _ _ _ _
            refine awp_ret ?_
            repeat first | with_reducible refine then_ret ?_ | with_reducible refine blk_ret ?_
            apply retq (.inr rfl) (.cons (rok_t rfl) .nil)
            rotate_left
            · exact ⟨rfl, rfl⟩
            repeat (first | exact List.Sublist.refl _ | exact List.nil_sublist _ | exact List.sublist_append_left _ _ | apply List.Sublist.cons)
end Go.Proofs.YtdlinfekifnmkaaAm
