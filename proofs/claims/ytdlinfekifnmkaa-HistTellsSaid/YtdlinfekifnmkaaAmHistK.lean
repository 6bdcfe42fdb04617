/- Contracts of the layer 'hist', tenth part: a list of calls of one's own, and what its calls are. Conditions: the lengths. -/
import Derived.Test.YtdlinfekifnmkaaAmHistI
import Derived.Test.YtdlinfekifnmkaaAmHistJ
set_option linter.unusedVariables false
set_option linter.unusedSimpArgs false
set_option maxRecDepth 20000
namespace Go.Proofs.YtdlinfekifnmkaaAm
open Go.Proofs
structure Fine (x : Call) : Prop where
  frm : 0 ≤ x.frm ∧ x.frm ≤ 11
  to : x.to = -1 ∨ (x.frm < x.to ∧ x.to ≤ 19)
  key : 0 ≤ x.key ∧ x.key ≤ 2
  val : 0 ≤ x.val ∧ x.val ≤ 2
  who : 0 ≤ x.who ∧ x.who ≤ 3
  has : isHas x = true → 0 ≤ x.to
theorem fine_of {x : Quad} (hx : x.Wf) : Fine (callOf x) := by
  have a0 := pick_nonneg x.d 12 (by omega)
  have a1 := pick_lt x.d 12 (by omega)
  have b0 := pick_nonneg (x.d.tdiv 12) 9 (by omega)
  have b1 := pick_lt (x.d.tdiv 12) 9 (by omega)
  have c0 := pick_nonneg x.b 3 (by omega)
  have c1 := pick_lt x.b 3 (by omega)
  have d0 := pick_nonneg x.c 3 (by omega)
  have d1 := pick_lt x.c 3 (by omega)
  have e0 := pick_nonneg (x.a.tdiv 2) 4 (by omega)
  have e1 := pick_lt (x.a.tdiv 2) 4 (by omega)
  refine ⟨?_, ?_, ?_, ?_, ?_, ?_⟩
  · show 0 ≤ pick x.d 12 ∧ pick x.d 12 ≤ 11
    omega
  · show (if pick x.d 12 + pick (x.d.tdiv 12) 9 = pick x.d 12 then (-1 : Int) else pick x.d 12 + pick (x.d.tdiv 12) 9) = -1 ∨ (pick x.d 12 < (if pick x.d 12 + pick (x.d.tdiv 12) 9 = pick x.d 12 then (-1 : Int) else pick x.d 12 + pick (x.d.tdiv 12) 9) ∧ (if pick x.d 12 + pick (x.d.tdiv 12) 9 = pick x.d 12 then (-1 : Int) else pick x.d 12 + pick (x.d.tdiv 12) 9) ≤ 19)
    split <;> omega
  · show 0 ≤ pick x.b 3 ∧ pick x.b 3 ≤ 2
    omega
  · unfold callOf
    simp only
    split <;> omega
  · show 0 ≤ pick (x.a.tdiv 2) 4 ∧ pick (x.a.tdiv 2) 4 ≤ 3
    omega
  · intro h
    simp only [isHas, callOf, Bool.and_eq_true, decide_eq_true_eq] at h
    exact h.2.2.2
theorem listOf_fine {raw : List Quad} (hw : ∀ y ∈ raw, y.Wf) (n : Nat) : ∀ x ∈ listOf raw n, Fine x := by
  intro x hx
  obtain ⟨y, hy, rfl⟩ := List.mem_map.1 hx
  exact fine_of (hw y (List.mem_of_mem_take hy))
theorem listOf_len (raw : List Quad) (n : Nat) : (listOf raw n).length ≤ n := by
  rw [listOf, List.length_map, List.length_take]; omega
theorem Fine.may {x : Call} (h : Fine x) : mayC x = true := by
  have h1 := h.frm
  have h2 := h.to
  have := bad_may x
  have hb : bad86 x = false := by
    simp only [bad86, Bool.or_eq_false_iff, Bool.and_eq_false_iff, decide_eq_false_iff_not]
    omega
  rw [hb] at this
  simpa using this.symm
theorem linS_all {c : List Call} {r : Int} (h : ∀ x ∈ c, mayC x = true) (hl : c.length ≤ 8) : linearS c r = (linear c r, 0) :=
  linS_ok (fun j hj => h _ (nth_mem hj)) (by omega)
theorem app_cells (c : List Call) (g : Call) : ((c.map Call.cells).take (c.map Call.cells).length).drop 0 ++ [g.cells] = (c ++ [g]).map Call.cells := by
  rw [List.take_length]; simp
theorem app_many (c d : List Call) : ((c.map Call.cells).take (c.map Call.cells).length).drop 0 ++ d.map Call.cells = (c ++ d).map Call.cells := by
  rw [List.take_length]; simp
set_option maxHeartbeats 2000000 in
theorem list83o_c (raw : List Quad) (hw : ∀ y ∈ raw, y.Wf) (n : Nat) (hn : n ≤ 100) : ACall Try.prog 83 [.ro (raw.map Quad.cells), .lit (.int .i64 n)] [] (fun r H' => ∃ u, r = .sl u 0 (listOf raw n).length ∧ H' = [(u, .arr 103 7 ((listOf raw n).map Call.cells))]) := by
  refine acall_intro (n := 27) (rvs := [.tmp 4]) Try.func83 rfl rfl rfl (Nat.le_of_ble_eq_true rfl) ?_
  refine awp_seq ?_
  refine awp_region ?_
  refine aqs rfl (q_as (by constructor)) rfl ?_
  refine alist_nil ?_
  show AWP _ _ _ _
  refine awp_seq ?_
  refine awp_region ?_
  refine aqs rfl (q_as (by constructor)) rfl ?_
  refine alist_nil ?_
  show AWP _ _ _ _
  refine awp_adopt 5 103 7 rfl fun u0 => ?_
  show AWP _ _ _ _
  refine awp_seq ?_
  refine awp_seq ?_
  refine awp_region ?_
  refine aqs rfl (q_as (by constructor)) rfl ?_
  refine alist_nil ?_
  show AWP _ _ _ _
  refine awp_block ?_
  refine awp_loop_inv (fun x : Nat × Nat => ⟨[(6, .lit (.int .i64 x.1)), (0, .ro (raw.map Quad.cells)), (1, .lit (.int .i64 n)), (5, .sl x.2 0 x.1)], 27, [(x.2, .arr 103 7 (((raw.take x.1).map callOf).map Call.cells))]⟩) (fun x => x.1 ≤ raw.length ∧ x.1 ≤ n) (fun x => n - x.1) (0, u0) ?_ ?_ ?_
  · exact ⟨Nat.zero_le _, Nat.zero_le _⟩
  · exact .mk' (by repeat (first | exact trivial | refine ⟨rfl, ?_⟩)) (by repeat (first | exact .refl _ | apply List.Sublist.cons_cons | apply List.Sublist.cons))
  · rintro ⟨i, u⟩ ⟨hi, hin⟩
    simp only at hi hin ⊢
    have hlen := lenCall ((raw.take i).map callOf)
    have hone := oneCall ((raw.take i).map callOf)
    have hlt : ((raw.take i).map callOf).length = i := by rw [List.length_map, List.length_take]; omega
    refine awp_seq ?_
    refine awp_mid [(15, .lit (.bool (decide ((i : Int) < (raw.map Quad.cells).length) && decide ((i : Int) < n)))), (6, .lit (.int .i64 i)), (0, .ro (raw.map Quad.cells)), (1, .lit (.int .i64 n)), (5, .sl u 0 i)] ?_ ?_
    · skip
      refine awp_region ?_
      all_goals (refine aqs rfl (q_mv (by constructor)) rfl ?_)
      all_goals (refine aqs rfl (q_mv (by constructor)) rfl ?_)
      all_goals (first | refine aqs rfl (q_len Try.underlying89 .ro) rfl ?_ | refine aqs rfl (q_lenO Try.underlying89 rfl (by repeat (first | exact .here | assumption | (apply HAt.left; assumption) | apply HAt.there | apply HAt.right)) (by first | omega | (simp; done) | (simp; omega) | fail) (by first | exact Nat.sub_zero _ | rfl)) rfl ?_ | refine aqs rfl (q_len Try.underlying89 .nil) rfl ?_ | refine aqs rfl (q_len Try.underlying89 .cro) rfl ?_)
      all_goals (refine aqs rfl (q_lss rfl rfl) rfl ?_)
      all_goals (refine aqs rfl (q_mv (by constructor)) rfl ?_)
      all_goals try (refine acase (fun hb4 => ?_) (fun hb4 => ?_))
      all_goals first | (exfalso; cases hb4; done) | skip
      all_goals (first | refine ans rfl rfl ?_ | refine aqs rfl (q_mv (by constructor)) rfl ?_)
      all_goals (first | refine ans rfl rfl ?_ | refine aqs rfl (q_mv (by constructor)) rfl ?_)
      all_goals (first | refine ans rfl rfl ?_ | refine aqs rfl (q_lss rfl rfl) rfl ?_)
      all_goals (first | refine aqs rfl (q_pickT rfl (by constructor)) rfl ?_ | refine aqs rfl (q_pickF rfl (by constructor)) rfl ?_)
      all_goals (refine alist_nil ?_)
      all_goals (exact ⟨rfl, .mk' (by repeat (first | exact trivial | refine ⟨rfl, ?_⟩ | (refine ⟨?_, ?_⟩; (· first | (rw [hb4]; rfl) | fail)))) (by repeat (first | exact .refl _ | exact List.nil_sublist _ | exact List.sublist_append_left _ _ | apply List.Sublist.cons))⟩)
    refine awp_cond rfl (fun hc0 => ?_) (fun hc0 => ?_)
    · simp only [Bool.and_eq_true, decide_eq_true_eq, List.length_map] at hc0
      obtain ⟨s, hs, hsm⟩ := get_lt (l := raw) (i := i) (by omega)
      have hs2 := get_map (f := Quad.cells) hs
      have hes : (((raw.take i).map callOf).map Call.cells).take i ++ [(callOf s).cells] = ((raw.take (i + 1)).map callOf).map Call.cells := by
        rw [List.take_of_length_le (by rw [List.length_map, hlt]; exact Nat.le_refl _), take_next hs]; simp
      refine awp_skip ?_
      show AWP _ _ _ _
      refine awp_seq ?_
      refine awp_block ?_
      refine awp_region ?_
      refine aqs rfl (q_mv (by constructor)) rfl ?_
      refine aqs rfl (q_mv (by constructor)) rfl ?_
      refine aqs rfl (q_mv (by constructor)) rfl ?_
      first | refine aqs rfl (q_iaN Try.underlying89 sz155 (.inl rfl) rfl (by omega) (by first | rfl | assumption | (simp [*]; done) | fail) (by first | rfl | assumption | (simp [*]; done) | fail) (by decide) (by first | ((repeat constructor); done) | exact .same _)) rfl ?_ | refine aqs rfl (q_iaS Try.underlying89 sz155 rfl (by repeat (first | exact .here | assumption | (apply HAt.left; assumption) | apply HAt.there | apply HAt.right)) rfl (by omega) (by omega) (by first | exact Nat.zero_add _ | rfl)) rfl ?_ | refine aqs rfl (q_iaN Try.underlying89 sz155 (.inr rfl) rfl (by omega) (by first | rfl | assumption | (simp [*]; done) | fail) (by first | rfl | assumption | (simp [*]; done) | fail) (by decide) (by first | ((repeat constructor); done) | exact .same _)) rfl ?_
      first | refine aqs rfl (q_ldpW ag155 sz155 rfl (by repeat (first | exact .here | assumption | (apply HAt.left; assumption) | apply HAt.there | apply HAt.right)) (by first | rfl | assumption | (simp [*]; done) | fail) (by first | rfl | assumption | (simp [*]; done) | fail) (by decide)) rfl ?_ | refine aqs rfl (q_ldW ag155 sz155 rfl (by first | rfl | assumption | (simp [*]; done) | fail)) rfl ?_ | refine aqs rfl (q_ldpP ag155 sz155 rfl (by repeat (first | exact .here | assumption | (apply HAt.left; assumption) | apply HAt.there | apply HAt.right)) (by first | rfl | assumption | (simp [*]; done) | fail) (by first | decide | (simp; done) | omega | fail) (by decide) (by first | ((repeat constructor); done) | exact .same _)) rfl ?_ | refine aqs rfl (q_ldP ag155 sz155 rfl (by first | decide | (simp; done) | omega | fail) (by first | ((repeat constructor); done) | exact .same _)) rfl ?_
      first | refine aqs rfl (e_callN cb137 (call137_c s (hw s hsm) _) rfl rfl) rfl ?_ | refine aqs rfl (e_callN cb137 (ACall.arg (call137_c s (hw s hsm) _) (by repeat (first | exact ArgL.nil | (apply ArgL.cons; (· first | exact .same | exact .cro | exact .nil))))) rfl rfl) rfl ?_
      first | refine aqs rfl (q_bs Try.underlying90 sz103 zr103 rfl (by first | ((repeat constructor); done) | exact .same _) rfl (by decide) (by repeat (first | exact BS.nil | (apply BS.cons; (· constructor); (· rfl); (· rfl); (· rfl); (· exact (by first | ((repeat constructor); done) | exact .same _)))))) rfl ?_ | (refine aes rfl (e_bs Try.underlying90 sz103 zr103 rfl (by first | ((repeat constructor); done) | exact .same _) rfl (by decide) (by repeat (first | exact BS.nil | (apply BS.cons; (· constructor); (· rfl); (· rfl); (· rfl); (· exact (by first | ((repeat constructor); done) | exact .same _)))))) rfl ?_; rintro _ _ ⟨u24, rfl, rfl⟩)
      first | refine aqs rfl (q_apC Try.underlying90 sz103 by103 zr103 (.inl rfl) (by first | exact .ro | exact .cro | exact .nil | exact SV.slA (by repeat (first | exact .here | assumption | (apply HAt.left; assumption) | apply HAt.there | apply HAt.right)) (by first | rfl | (simp; done) | (simp; omega) | (simp [*]; done) | fail)) (by first | assumption | (intro c hc; simp at hc; subst hc; rfl) | (simp; done) | fail) (by first | assumption | (intro c hc; simp at hc; subst hc; rfl) | (simp; done) | fail) (by first | omega | decide | (simp; omega) | assumption | fail) (by decide) (by decide) rfl (by first | rfl | (simp; done) | fail)) rfl ?_ | refine aqs rfl (q_apC Try.underlying90 sz103 by103 zr103 (.inr ⟨rfl, rfl⟩) (by first | exact .ro | exact .cro | exact .nil | exact SV.slA (by repeat (first | exact .here | assumption | (apply HAt.left; assumption) | apply HAt.there | apply HAt.right)) (by first | rfl | (simp; done) | (simp; omega) | (simp [*]; done) | fail)) (by first | assumption | (intro c hc; simp at hc; subst hc; rfl) | (simp; done) | fail) (by first | assumption | (intro c hc; simp at hc; subst hc; rfl) | (simp; done) | fail) (by first | omega | decide | (simp; omega) | assumption | fail) (by decide) (by decide) rfl (by first | rfl | (simp; done) | fail)) rfl ?_ | (refine aes rfl (e_apO Try.underlying90 sz103 by103 zr103 rfl (by repeat (first | exact .here | assumption | (apply HAt.left; assumption) | apply HAt.there | apply HAt.right)) (by rw [List.length_map, hlt]; exact Nat.le_refl _) (by first | exact .ro | exact .cro | exact .nil | exact SV.slA (by repeat (first | exact .here | assumption | (apply HAt.left; assumption) | apply HAt.there | apply HAt.right)) (by first | rfl | (simp; done) | (simp; omega) | (simp [*]; done) | fail)) (by first | assumption | (intro c hc; simp at hc; subst hc; rfl) | (simp; done) | fail) (by first | assumption | (intro c hc; simp at hc; subst hc; rfl) | (simp; done) | fail) (by first | assumption | (intro c hc; simp at hc; subst hc; rfl) | (simp; done) | fail) (by first | (simp; done) | (simp; omega) | omega | fail) (by decide) (by decide) rfl (by rfl) hes (fun v => (by repeat (first | exact .here | apply HSet.there)))) rfl ?_; rintro _ _ ⟨u25, rfl, rfl⟩) | (refine aes rfl (e_apN Try.underlying90 sz103 by103 zr103 rfl (by first | exact .ro | exact .cro | exact .nil | exact SV.slA (by repeat (first | exact .here | assumption | (apply HAt.left; assumption) | apply HAt.there | apply HAt.right)) (by first | rfl | (simp; done) | (simp; omega) | (simp [*]; done) | fail)) (by first | assumption | (intro c hc; simp at hc; subst hc; rfl) | (simp; done) | fail) (by first | assumption | (intro c hc; simp at hc; subst hc; rfl) | (simp; done) | fail) (by first | (simp; done) | (simp; omega) | omega | fail) (by decide) (by decide) rfl rfl) rfl ?_; rintro _ _ ⟨u25, rfl, rfl⟩)
      refine aqs rfl (q_as (by constructor)) rfl ?_
      refine alist_nil ?_
      show AWP _ _ _ _
      refine awp_region ?_
      refine aqs rfl (q_mv (by constructor)) rfl ?_
      first | refine aqs rfl (q_add64 rfl rfl (by omega) (by omega)) rfl ?_ | refine aqs rfl (q_add rfl rfl) rfl ?_
      refine aqs rfl (q_as (by constructor)) rfl ?_
      refine alist_nil ?_
      show ∃ y, _ ∧ _ ∧ _
      exact ⟨(i + 1, _), ⟨by show i + 1 ≤ raw.length; omega, by show i + 1 ≤ n; omega⟩, by show n - (i + 1) < n - i; omega, .mk' ⟨by rfl, rfl, rfl, rfl, trivial⟩ (by repeat (first | exact List.Sublist.refl _ | exact List.nil_sublist _ | exact List.sublist_append_left _ _ | (apply List.Sublist.cons_cons) | (apply List.Sublist.cons)))⟩
    · simp only [Bool.and_eq_false_iff, decide_eq_false_iff_not, List.length_map] at hc0
      have e : (raw.take i).map callOf = listOf raw n := by
        rw [listOf]
        rcases hc0 with h | h
        · rw [List.take_of_length_le (show raw.length ≤ i by omega), List.take_of_length_le (by omega)]
        · rw [show i = n by omega]
      rw [e] at hlt ⊢
      subst hlt
      refine awp_exit ?_
      show AWP _ _ _ _
      refine awp_seq ?_
      refine awp_region ?_
      refine aqs rfl (q_mv (by constructor)) rfl ?_
      refine aqs rfl (q_as (by constructor)) rfl ?_
      refine alist_nil ?_
      show AWP _ _ _ _
      refine awp_ret ?_
      repeat first | with_reducible refine then_ret ?_ | with_reducible refine blk_ret ?_
      apply retq (.inr rfl) (.cons (rok_t rfl) .nil)
      rotate_left
      · exact ⟨u, rfl, rfl⟩
      repeat (first | exact List.Sublist.refl _ | exact List.nil_sublist _ | exact List.sublist_append_left _ _ | apply List.Sublist.cons)
end Go.Proofs.YtdlinfekifnmkaaAm
