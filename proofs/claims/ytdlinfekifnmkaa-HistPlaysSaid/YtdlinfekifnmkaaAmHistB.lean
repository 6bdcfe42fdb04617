/- Contracts of the layer 'hist', second part: calls of events. Conditions: the lengths. -/
import Derived.Test.YtdlinfekifnmkaaAmHist
set_option linter.unusedVariables false
set_option linter.unusedSimpArgs false
set_option maxRecDepth 20000
namespace Go.Proofs.YtdlinfekifnmkaaAm
open Go.Proofs

theorem ceq (a b : Call) : ((a.put == b.put) && ((a.who == b.who) && ((a.key == b.key) && ((a.val == b.val) && ((a.has == b.has) && ((a.frm == b.frm) && (a.to == b.to))))))) = decide (a = b) := by
  rcases a with ⟨a1, a2, a3, a4, a5, a6, a7⟩
  rcases b with ⟨b1, b2, b3, b4, b5, b6, b7⟩
  rw [Bool.eq_iff_iff]
  simp
def listOf (raw : List Quad) (n : Nat) : List Call := (raw.take n).map callOf
set_option maxHeartbeats 2000000 in
theorem list83_c (raw : List Quad) (hw : ∀ y ∈ raw, y.Wf) (n : Nat) (hn : n ≤ 100) (H : Heap) : QCall Try.prog 83 [.ro (raw.map Quad.cells), .lit (.int .i64 n)] H (.ro ((listOf raw n).map Call.cells)) := by
  refine QCall.any H ?_
  refine acall_intro (n := 27) (rvs := [.tmp 4]) Try.func83 rfl rfl rfl (Nat.le_of_ble_eq_true rfl) ?_
  refine awp_seq ?_
  refine awp_region ?_
  refine aqs rfl (q_as (by constructor)) rfl ?_
  refine alist_nil ?_
  show AWP _ _ _ _
  refine awp_seq ?_
  refine awp_region ?_
  refine aqs rfl (q_as (by constructor)) rfl ?_
  refine alist_nil ?_
  show AWP _ _ _ _
  refine awp_adopt 5 103 7 rfl fun u0 => ?_
  show AWP _ _ _ _
  refine awp_seq ?_
  refine awp_seq ?_
  refine awp_region ?_
  refine aqs rfl (q_as (by constructor)) rfl ?_
  refine alist_nil ?_
  show AWP _ _ _ _
  refine awp_block ?_
  refine awp_loop_inv (fun x : Nat × Nat => ⟨[(6, .lit (.int .i64 x.1)), (0, .ro (raw.map Quad.cells)), (1, .lit (.int .i64 n)), (5, .sl x.2 0 x.1)], 27, [(x.2, .arr 103 7 (((raw.take x.1).map callOf).map Call.cells))]⟩) (fun x => x.1 ≤ raw.length ∧ x.1 ≤ n) (fun x => n - x.1) (0, u0) ?_ ?_ ?_
  · exact ⟨Nat.zero_le _, Nat.zero_le _⟩
  · exact .mk' (by repeat (first | exact trivial | refine ⟨rfl, ?_⟩)) (by repeat (first | exact .refl _ | apply List.Sublist.cons_cons | apply List.Sublist.cons))
  · rintro ⟨i, u⟩ ⟨hi, hin⟩
    simp only at hi hin ⊢
    have hlen := lenCall ((raw.take i).map callOf)
    have hone := oneCall ((raw.take i).map callOf)
    have hlt : ((raw.take i).map callOf).length = i := by rw [List.length_map, List.length_take]; omega
    refine awp_seq ?_
    refine awp_mid [(15, .lit (.bool (decide ((i : Int) < (raw.map Quad.cells).length) && decide ((i : Int) < n)))), (6, .lit (.int .i64 i)), (0, .ro (raw.map Quad.cells)), (1, .lit (.int .i64 n)), (5, .sl u 0 i)] ?_ ?_
    · skip
      refine awp_region ?_
      all_goals (refine aqs rfl (q_mv (by constructor)) rfl ?_)
      all_goals (refine aqs rfl (q_mv (by constructor)) rfl ?_)
      all_goals (first | refine aqs rfl (q_len Try.underlying89 .ro) rfl ?_ | refine aqs rfl (q_lenO Try.underlying89 rfl (by repeat (first | exact .here | assumption | (apply HAt.left; assumption) | apply HAt.there | apply HAt.right)) (by first | omega | (simp; done) | (simp; omega) | fail) (by first | exact Nat.sub_zero _ | rfl)) rfl ?_ | refine aqs rfl (q_len Try.underlying89 .nil) rfl ?_ | refine aqs rfl (q_len Try.underlying89 .cro) rfl ?_)
      all_goals (refine aqs rfl (q_lss rfl rfl) rfl ?_)
      all_goals (refine aqs rfl (q_mv (by constructor)) rfl ?_)
      all_goals try (refine acase (fun hb4 => ?_) (fun hb4 => ?_))
      all_goals first | (exfalso; cases hb4; done) | skip
      all_goals (first | refine ans rfl rfl ?_ | refine aqs rfl (q_mv (by constructor)) rfl ?_)
      all_goals (first | refine ans rfl rfl ?_ | refine aqs rfl (q_mv (by constructor)) rfl ?_)
      all_goals (first | refine ans rfl rfl ?_ | refine aqs rfl (q_lss rfl rfl) rfl ?_)
      all_goals (first | refine aqs rfl (q_pickT rfl (by constructor)) rfl ?_ | refine aqs rfl (q_pickF rfl (by constructor)) rfl ?_)
      all_goals (refine alist_nil ?_)
      all_goals (exact ⟨rfl, .mk' (by repeat (first | exact trivial | refine ⟨rfl, ?_⟩ | (refine ⟨?_, ?_⟩; (· first | (rw [hb4]; rfl) | fail)))) (by repeat (first | exact .refl _ | exact List.nil_sublist _ | exact List.sublist_append_left _ _ | apply List.Sublist.cons))⟩)
    refine awp_cond rfl (fun hc0 => ?_) (fun hc0 => ?_)
    · simp only [Bool.and_eq_true, decide_eq_true_eq, List.length_map] at hc0
      obtain ⟨s, hs, hsm⟩ := get_lt (l := raw) (i := i) (by omega)
      have hs2 := get_map (f := Quad.cells) hs
      have hes : (((raw.take i).map callOf).map Call.cells).take i ++ [(callOf s).cells] = ((raw.take (i + 1)).map callOf).map Call.cells := by
        rw [List.take_of_length_le (by rw [List.length_map, hlt]; exact Nat.le_refl _), take_next hs]; simp
      refine awp_skip ?_
      show AWP _ _ _ _
      refine awp_seq ?_
      refine awp_block ?_
      refine awp_region ?_
      refine aqs rfl (q_mv (by constructor)) rfl ?_
      refine aqs rfl (q_mv (by constructor)) rfl ?_
      refine aqs rfl (q_mv (by constructor)) rfl ?_
      first | refine aqs rfl (q_iaN Try.underlying89 sz155 (.inl rfl) rfl (by omega) (by first | rfl | assumption | (simp [*]; done) | fail) (by first | rfl | assumption | (simp [*]; done) | fail) (by decide) (by first | ((repeat constructor); done) | exact .same _)) rfl ?_ | refine aqs rfl (q_iaS Try.underlying89 sz155 rfl (by repeat (first | exact .here | assumption | (apply HAt.left; assumption) | apply HAt.there | apply HAt.right)) rfl (by omega) (by omega) (by first | exact Nat.zero_add _ | rfl)) rfl ?_ | refine aqs rfl (q_iaN Try.underlying89 sz155 (.inr rfl) rfl (by omega) (by first | rfl | assumption | (simp [*]; done) | fail) (by first | rfl | assumption | (simp [*]; done) | fail) (by decide) (by first | ((repeat constructor); done) | exact .same _)) rfl ?_
      first | refine aqs rfl (q_ldpW ag155 sz155 rfl (by repeat (first | exact .here | assumption | (apply HAt.left; assumption) | apply HAt.there | apply HAt.right)) (by first | rfl | assumption | (simp [*]; done) | fail) (by first | rfl | assumption | (simp [*]; done) | fail) (by decide)) rfl ?_ | refine aqs rfl (q_ldW ag155 sz155 rfl (by first | rfl | assumption | (simp [*]; done) | fail)) rfl ?_ | refine aqs rfl (q_ldpP ag155 sz155 rfl (by repeat (first | exact .here | assumption | (apply HAt.left; assumption) | apply HAt.there | apply HAt.right)) (by first | rfl | assumption | (simp [*]; done) | fail) (by first | decide | (simp; done) | omega | fail) (by decide) (by first | ((repeat constructor); done) | exact .same _)) rfl ?_ | refine aqs rfl (q_ldP ag155 sz155 rfl (by first | decide | (simp; done) | omega | fail) (by first | ((repeat constructor); done) | exact .same _)) rfl ?_
      first | refine aqs rfl (e_callN cb137 (call137_c s (hw s hsm) _) rfl rfl) rfl ?_ | refine aqs rfl (e_callN cb137 (ACall.arg (call137_c s (hw s hsm) _) (by repeat (first | exact ArgL.nil | (apply ArgL.cons; (· first | exact .same | exact .cro | exact .nil))))) rfl rfl) rfl ?_
      first | refine aqs rfl (q_bs Try.underlying90 sz103 zr103 rfl (by first | ((repeat constructor); done) | exact .same _) rfl (by decide) (by repeat (first | exact BS.nil | (apply BS.cons; (· constructor); (· rfl); (· rfl); (· rfl); (· exact (by first | ((repeat constructor); done) | exact .same _)))))) rfl ?_ | (refine aes rfl (e_bs Try.underlying90 sz103 zr103 rfl (by first | ((repeat constructor); done) | exact .same _) rfl (by decide) (by repeat (first | exact BS.nil | (apply BS.cons; (· constructor); (· rfl); (· rfl); (· rfl); (· exact (by first | ((repeat constructor); done) | exact .same _)))))) rfl ?_; rintro _ _ ⟨u24, rfl, rfl⟩)
      first | refine aqs rfl (q_apC Try.underlying90 sz103 by103 zr103 (.inl rfl) (by first | exact .ro | exact .cro | exact .nil | exact SV.slA (by repeat (first | exact .here | assumption | (apply HAt.left; assumption) | apply HAt.there | apply HAt.right)) (by first | rfl | (simp; done) | (simp; omega) | (simp [*]; done) | fail)) (by first | assumption | (intro c hc; simp at hc; subst hc; rfl) | (simp; done) | fail) (by first | assumption | (intro c hc; simp at hc; subst hc; rfl) | (simp; done) | fail) (by first | omega | decide | (simp; omega) | assumption | fail) (by decide) (by decide) rfl (by first | rfl | (simp; done) | fail)) rfl ?_ | refine aqs rfl (q_apC Try.underlying90 sz103 by103 zr103 (.inr ⟨rfl, rfl⟩) (by first | exact .ro | exact .cro | exact .nil | exact SV.slA (by repeat (first | exact .here | assumption | (apply HAt.left; assumption) | apply HAt.there | apply HAt.right)) (by first | rfl | (simp; done) | (simp; omega) | (simp [*]; done) | fail)) (by first | assumption | (intro c hc; simp at hc; subst hc; rfl) | (simp; done) | fail) (by first | assumption | (intro c hc; simp at hc; subst hc; rfl) | (simp; done) | fail) (by first | omega | decide | (simp; omega) | assumption | fail) (by decide) (by decide) rfl (by first | rfl | (simp; done) | fail)) rfl ?_ | (refine aes rfl (e_apO Try.underlying90 sz103 by103 zr103 rfl (by repeat (first | exact .here | assumption | (apply HAt.left; assumption) | apply HAt.there | apply HAt.right)) (by rw [List.length_map, hlt]; exact Nat.le_refl _) (by first | exact .ro | exact .cro | exact .nil | exact SV.slA (by repeat (first | exact .here | assumption | (apply HAt.left; assumption) | apply HAt.there | apply HAt.right)) (by first | rfl | (simp; done) | (simp; omega) | (simp [*]; done) | fail)) (by first | assumption | (intro c hc; simp at hc; subst hc; rfl) | (simp; done) | fail) (by first | assumption | (intro c hc; simp at hc; subst hc; rfl) | (simp; done) | fail) (by first | assumption | (intro c hc; simp at hc; subst hc; rfl) | (simp; done) | fail) (by first | (simp; done) | (simp; omega) | omega | fail) (by decide) (by decide) rfl (by rfl) hes (fun v => (by repeat (first | exact .here | apply HSet.there)))) rfl ?_; rintro _ _ ⟨u25, rfl, rfl⟩) | (refine aes rfl (e_apN Try.underlying90 sz103 by103 zr103 rfl (by first | exact .ro | exact .cro | exact .nil | exact SV.slA (by repeat (first | exact .here | assumption | (apply HAt.left; assumption) | apply HAt.there | apply HAt.right)) (by first | rfl | (simp; done) | (simp; omega) | (simp [*]; done) | fail)) (by first | assumption | (intro c hc; simp at hc; subst hc; rfl) | (simp; done) | fail) (by first | assumption | (intro c hc; simp at hc; subst hc; rfl) | (simp; done) | fail) (by first | (simp; done) | (simp; omega) | omega | fail) (by decide) (by decide) rfl rfl) rfl ?_; rintro _ _ ⟨u25, rfl, rfl⟩)
      refine aqs rfl (q_as (by constructor)) rfl ?_
      refine alist_nil ?_
      show AWP _ _ _ _
      refine awp_region ?_
      refine aqs rfl (q_mv (by constructor)) rfl ?_
      first | refine aqs rfl (q_add64 rfl rfl (by omega) (by omega)) rfl ?_ | refine aqs rfl (q_add rfl rfl) rfl ?_
      refine aqs rfl (q_as (by constructor)) rfl ?_
      refine alist_nil ?_
      show ∃ y, _ ∧ _ ∧ _
      exact ⟨(i + 1, _), ⟨by show i + 1 ≤ raw.length; omega, by show i + 1 ≤ n; omega⟩, by show n - (i + 1) < n - i; omega, .mk' ⟨by rfl, rfl, rfl, rfl, trivial⟩ (by repeat (first | exact List.Sublist.refl _ | exact List.nil_sublist _ | exact List.sublist_append_left _ _ | (apply List.Sublist.cons_cons) | (apply List.Sublist.cons)))⟩
    · simp only [Bool.and_eq_false_iff, decide_eq_false_iff_not, List.length_map] at hc0
      have e : (raw.take i).map callOf = listOf raw n := by
        rw [listOf]
        rcases hc0 with h | h
        · rw [List.take_of_length_le (show raw.length ≤ i by omega), List.take_of_length_le (by omega)]
        · rw [show i = n by omega]
      rw [e] at hlt ⊢
      refine awp_exit ?_
      show AWP _ _ _ _
      refine awp_seq ?_
      refine awp_region ?_
      refine aqs rfl (q_mv (by constructor)) rfl ?_
      refine aqs rfl (q_as (by constructor)) rfl ?_
      refine alist_nil ?_
      show AWP _ _ _ _
      refine awp_pub (u := u) (by repeat (first | exact .here | assumption | (apply HAt.left; assumption) | apply HAt.there | apply HAt.right)) (by repeat (first | exact PubT.nil | (apply PubT.cons; (· first | exact .one (pub_all (by first | rfl | (simp; done) | (simp; omega) | (simp [*]; done) | fail)) | exact .one .same)) | exact PubT.same)) (by repeat (first | exact PubH.drop .same | (apply PubH.cons; (· exact .same)))) ?_
      show AWP _ _ _ _
      refine awp_ret ?_
      repeat first | with_reducible refine then_ret ?_ | with_reducible refine blk_ret ?_
      apply retq (.inr rfl) (.cons (rok_t rfl) .nil)
      rotate_left
      · exact ⟨rfl, rfl⟩
      repeat (first | exact List.Sublist.refl _ | exact List.nil_sublist _ | exact List.sublist_append_left _ _ | apply List.Sublist.cons)
theorem under_next {out : List Call} {w : Int} {i : Nat} {c : Call} (hc : out[i]? = some c) (h : ∀ (j : Nat) (d : Call), j < i → out[j]? = some d → isUnder w d = false) (hu : isUnder w c = true) : underS out w = some i := by
  obtain ⟨hi, rfl⟩ := List.getElem?_eq_some_iff.1 hc
  unfold underS
  rw [List.findIdx?_eq_some_iff_getElem]
  exact ⟨hi, hu, fun j hj => by simp [h j out[j] hj (List.getElem?_eq_getElem (by omega))]⟩
theorem under_no {out : List Call} {w : Int} (h : ∀ (j : Nat) (d : Call), out[j]? = some d → isUnder w d = false) : underS out w = none := by
  unfold underS
  rw [List.findIdx?_eq_none_iff]
  intro x hx
  obtain ⟨j, hj⟩ := List.mem_iff_getElem?.1 hx
  exact h j x hj
def underI (out : List Call) (w : Int) : Int := match underS out w with
  | none => -1
  | some a => a
set_option maxHeartbeats 1000000 in
theorem under136_c (out : List Call) (w : Int) (u : Nat) (H : Heap) (hl : out.length ≤ 1000000) (hq : HAt H u (.arr 103 7 (out.map Call.cells))) : QCall Try.prog 136 [.sl u 0 out.length, .lit (.int .i64 w)] H (.lit (.int .i64 (underI out w))) := by
  refine acall_intro (n := 28) (rvs := [.tmp 4]) Try.func136 rfl rfl rfl (Nat.le_of_ble_eq_true rfl) ?_
  refine awp_seq ?_
  refine awp_region ?_
  refine aqs rfl (q_as (by constructor)) rfl ?_
  refine alist_nil ?_
  show AWP _ _ _ _
  refine awp_seq ?_
  refine awp_seq ?_
  refine awp_region ?_
  refine aqs rfl (q_as (by constructor)) rfl ?_
  refine alist_nil ?_
  show AWP _ _ _ _
  refine awp_block ?_
  refine awp_loop_inv (fun i : Nat => ⟨[(5, .lit (.int .i64 i)), (0, .sl u 0 out.length), (1, .lit (.int .i64 w))], 28, H⟩) (fun i => i ≤ out.length ∧ ∀ (j : Nat) (d : Call), j < i → out[j]? = some d → isUnder w d = false) (fun i => out.length - i) 0 ?_ ?_ ?_
  · exact ⟨Nat.zero_le _, fun j d h => absurd h (Nat.not_lt_zero _)⟩
  · exact .mk' (by repeat (first | exact trivial | refine ⟨rfl, ?_⟩)) (by repeat (first | exact .refl _ | apply List.Sublist.cons_cons | apply List.Sublist.cons))
  · intro i hi
    obtain ⟨hi, hall⟩ := hi
    refine awp_seq ?_
    refine awp_seq ?_
    refine awp_region ?_
    refine aqs rfl (q_mv (by constructor)) rfl ?_
    refine aqs rfl (q_mv (by constructor)) rfl ?_
    first | refine aqs rfl (q_len Try.underlying90 .ro) rfl ?_ | refine aqs rfl (q_lenO Try.underlying90 rfl (by repeat (first | exact .here | assumption | (apply HAt.left; assumption) | apply HAt.there | apply HAt.right)) (by first | omega | (simp; done) | (simp; omega) | fail) (by first | exact Nat.sub_zero _ | rfl)) rfl ?_ | refine aqs rfl (q_len Try.underlying90 .nil) rfl ?_ | refine aqs rfl (q_len Try.underlying90 .cro) rfl ?_
    refine aqs rfl (q_lss rfl rfl) rfl ?_
    refine alist_nil ?_
    show AWP _ _ _ _
    refine awp_cond rfl (fun hc0 => ?_) (fun hc0 => ?_)
    · simp only [decide_eq_true_eq] at hc0
      obtain ⟨c, hc, hcm⟩ := get_lt (l := out) (i := i) (by omega)
      have hc2 := get_map (f := Call.cells) hc
      refine awp_skip ?_
      show AWP _ _ _ _
      refine awp_seq ?_
      refine awp_block ?_
      refine awp_mid [(26, .lit (.bool (decide (c.who = w) && decide (c.to < 0)))), (5, .lit (.int .i64 i)), (0, .sl u 0 out.length), (1, .lit (.int .i64 w))] ?_ ?_
      · skip
        refine awp_region ?_
        all_goals (refine aqs rfl (q_mv (by constructor)) rfl ?_)
        all_goals (refine aqs rfl (q_mv (by constructor)) rfl ?_)
        all_goals (first | refine aqs rfl (q_iaN Try.underlying90 sz103 (.inl rfl) rfl (by omega) (by first | rfl | assumption | (simp [*]; done) | fail) (by first | rfl | assumption | (simp [*]; done) | fail) (by decide) (by first | ((repeat constructor); done) | exact .same _)) rfl ?_ | refine aqs rfl (q_iaS Try.underlying90 sz103 rfl (by repeat (first | exact .here | assumption | (apply HAt.left; assumption) | apply HAt.there | apply HAt.right)) rfl (by omega) (by omega) (by first | exact Nat.zero_add _ | rfl)) rfl ?_ | refine aqs rfl (q_iaN Try.underlying90 sz103 (.inr rfl) rfl (by omega) (by first | rfl | assumption | (simp [*]; done) | fail) (by first | rfl | assumption | (simp [*]; done) | fail) (by decide) (by first | ((repeat constructor); done) | exact .same _)) rfl ?_)
        all_goals (first | refine aqs rfl (q_fapP fl103_1 (by decide) rfl rfl) rfl ?_ | refine aqs rfl (q_faP fl103_1 (by decide) rfl (by first | ((repeat constructor); done) | exact .same _)) rfl ?_)
        all_goals (first | refine aqs rfl (q_ldpN ag3 rfl (by repeat (first | exact .here | assumption | (apply HAt.left; assumption) | apply HAt.there | apply HAt.right)) (by first | rfl | assumption | (simp [*]; done) | fail) (by first | rfl | assumption | (simp [*]; done) | fail) (by constructor)) rfl ?_ | refine aqs rfl (q_ld1N ag3 rfl (by constructor)) rfl ?_)
        all_goals (refine aqs rfl (q_mv (by constructor)) rfl ?_)
        all_goals (refine aqs rfl (q_eql rfl rfl) rfl ?_)
        all_goals (refine aqs rfl (q_mv (by constructor)) rfl ?_)
        all_goals try (refine acase (fun hb7 => ?_) (fun hb7 => ?_))
        all_goals first | (exfalso; cases hb7; done) | skip
        all_goals (first | refine ans rfl rfl ?_ | refine aqs rfl (q_mv (by constructor)) rfl ?_)
        all_goals (first | refine ans rfl rfl ?_ | refine aqs rfl (q_mv (by constructor)) rfl ?_)
        all_goals (first | refine ans rfl rfl ?_ | refine aqs rfl (q_iaN Try.underlying90 sz103 (.inl rfl) rfl (by omega) (by first | rfl | assumption | (simp [*]; done) | fail) (by first | rfl | assumption | (simp [*]; done) | fail) (by decide) (by first | ((repeat constructor); done) | exact .same _)) rfl ?_ | refine aqs rfl (q_iaS Try.underlying90 sz103 rfl (by repeat (first | exact .here | assumption | (apply HAt.left; assumption) | apply HAt.there | apply HAt.right)) rfl (by omega) (by omega) (by first | exact Nat.zero_add _ | rfl)) rfl ?_ | refine aqs rfl (q_iaN Try.underlying90 sz103 (.inr rfl) rfl (by omega) (by first | rfl | assumption | (simp [*]; done) | fail) (by first | rfl | assumption | (simp [*]; done) | fail) (by decide) (by first | ((repeat constructor); done) | exact .same _)) rfl ?_)
        all_goals (first | refine ans rfl rfl ?_ | refine aqs rfl (q_fapP fl103_6 (by decide) rfl rfl) rfl ?_ | refine aqs rfl (q_faP fl103_6 (by decide) rfl (by first | ((repeat constructor); done) | exact .same _)) rfl ?_)
        all_goals (first | refine ans rfl rfl ?_ | refine aqs rfl (q_ldpN ag3 rfl (by repeat (first | exact .here | assumption | (apply HAt.left; assumption) | apply HAt.there | apply HAt.right)) (by first | rfl | assumption | (simp [*]; done) | fail) (by first | rfl | assumption | (simp [*]; done) | fail) (by constructor)) rfl ?_ | refine aqs rfl (q_ld1N ag3 rfl (by constructor)) rfl ?_)
        all_goals (first | refine ans rfl rfl ?_ | refine aqs rfl (q_lss rfl rfl) rfl ?_)
        all_goals (first | refine aqs rfl (q_pickT rfl (by constructor)) rfl ?_ | refine aqs rfl (q_pickF rfl (by constructor)) rfl ?_)
        all_goals (refine alist_nil ?_)
        all_goals (exact ⟨rfl, .mk' (by repeat (first | exact trivial | refine ⟨rfl, ?_⟩ | (refine ⟨?_, ?_⟩; (· first | (rw [hb7]; rfl) | fail)))) (by repeat (first | exact .refl _ | exact List.nil_sublist _ | exact List.sublist_append_left _ _ | apply List.Sublist.cons))⟩)
      refine awp_cond rfl (fun hc1 => ?_) (fun hc1 => ?_)
      · have e : underI out w = i := by rw [underI, under_next hc hall hc1]
        rw [e]
        refine awp_seq ?_
        refine awp_region ?_
        refine aqs rfl (q_mv (by constructor)) rfl ?_
        refine aqs rfl (q_as (by constructor)) rfl ?_
        refine alist_nil ?_
        show AWP _ _ _ _
        refine awp_ret ?_
        repeat first | with_reducible refine then_ret ?_ | with_reducible refine blk_ret ?_
        apply retq (.inr rfl) (.cons (rok_t rfl) .nil)
        rotate_left
        · exact ⟨rfl, rfl⟩
        repeat (first | exact List.Sublist.refl _ | exact List.nil_sublist _ | exact List.sublist_append_left _ _ | apply List.Sublist.cons)
      · have hno : isUnder w c = false := hc1
        refine awp_skip ?_
        show AWP _ _ _ _
        refine awp_region ?_
        refine aqs rfl (q_mv (by constructor)) rfl ?_
        first | refine aqs rfl (q_add64 rfl rfl (by omega) (by omega)) rfl ?_ | refine aqs rfl (q_add rfl rfl) rfl ?_
        refine aqs rfl (q_as (by constructor)) rfl ?_
        refine alist_nil ?_
        show ∃ y, _ ∧ _ ∧ _
        refine ⟨i + 1, ⟨by omega, fun j d hj hd => ?_⟩, by omega, .mk' ⟨by rfl, rfl, rfl, trivial⟩ (.refl _)⟩
        by_cases hji : j = i
        · subst hji
          rw [hc] at hd
          injection hd with hd
          subst hd
          exact hno
        · exact hall j d (by omega) hd
    · simp only [decide_eq_false_iff_not] at hc0
      have e : underI out w = -1 := by rw [underI, under_no fun j d hd => hall j d (by have := (List.getElem?_eq_some_iff.1 hd).1; omega) hd]
      rw [e]
      refine awp_exit ?_
      show AWP _ _ _ _
      refine awp_seq ?_
      refine awp_region ?_
      refine aqs rfl (q_as (by constructor)) rfl ?_
      refine alist_nil ?_
      show AWP _ _ _ _
      refine awp_ret ?_
      repeat first | with_reducible refine then_ret ?_ | with_reducible refine blk_ret ?_
      apply retq (.inr rfl) (.cons (rok_t rfl) .nil)
      rotate_left
      · exact ⟨rfl, rfl⟩
      repeat (first | exact List.Sublist.refl _ | exact List.nil_sublist _ | exact List.sublist_append_left _ _ | apply List.Sublist.cons)
theorem callsGo_next {out : List Call} {i : Nat} {l : List Event} {x : Event} (hx : l[i]? = some x) {out2 : List Call} (h : callStep out i x = (out2, 0)) : callsGo out i (l.drop i) = callsGo out2 (i + 1) (l.drop (i + 1)) := by
  rw [drop_at hx, callsGo, h]; rfl
theorem callsGo_stop {out : List Call} {i : Nat} {l : List Event} {x : Event} (hx : l[i]? = some x) {e : Int} (he : ¬ e = 0) (h : callStep out i x = ([], e)) : callsGo out i (l.drop i) = ([], e) := by
  rw [drop_at hx, callsGo, h, if_neg he]
def callsA (g : List Call × Int) : AV := .tup [.ro (g.1.map Call.cells), .lit (.int .i64 g.2)]
theorem under_i {out : List Call} {w : Int} : (underI out w < 0 ↔ underS out w = none) ∧ (0 ≤ underI out w → ∃ a : Nat, underS out w = some a ∧ underI out w = a) := by
  unfold underI
  cases underS out w with
  | none => exact ⟨by simp, fun h => by simp at h⟩
  | some a => exact ⟨by simp, fun _ => ⟨a, rfl, rfl⟩⟩
theorem step_new {out : List Call} {i : Nat} {x : Event} (hb : badEv x = false) (hc : isCall x = true) (hu : underS out x.who = none) : callStep out i x = (out ++ [newCall i x], 0) := by
  unfold callStep
  rw [if_neg (by rw [hb]; simp), if_pos hc, hu]
theorem step_twice {out : List Call} {i a : Nat} {x : Event} (hb : badEv x = false) (hc : isCall x = true) (hu : underS out x.who = some a) : callStep out i x = ([], 4) := by
  unfold callStep
  rw [if_neg (by rw [hb]; simp), if_pos hc, hu]
theorem step_none {out : List Call} {i : Nat} {x : Event} (hb : badEv x = false) (hc : isCall x = false) (hu : underS out x.who = none) : callStep out i x = ([], 10) := by
  unfold callStep
  rw [if_neg (by rw [hb]; simp), if_neg (by rw [hc]; simp), hu]
theorem step_unlike {out : List Call} {i a : Nat} {x : Event} (hb : badEv x = false) (hc : isCall x = false) (hu : underS out x.who = some a) (hp : ¬ (nth out a).put = decide (x.kind = 4)) : callStep out i x = ([], 10) := by
  unfold callStep
  rw [if_neg (by rw [hb]; simp), if_neg (by rw [hc]; simp), hu]
  simp only [if_neg hp]
theorem step_told {out : List Call} {i a : Nat} {x : Event} (hb : badEv x = false) (hc : isCall x = false) (hu : underS out x.who = some a) (hp : (nth out a).put = decide (x.kind = 4)) : callStep out i x = (out.set a (tellCall (nth out a) i x), 0) := by
  unfold callStep
  rw [if_neg (by rw [hb]; simp), if_neg (by rw [hc]; simp), hu]
  simp only [if_pos hp]
theorem step_bad {out : List Call} {i : Nat} {x : Event} (hb : badEv x = true) : callStep out i x = ([], 1) := by
  unfold callStep
  rw [if_pos hb]
theorem callsS_short {l : List Event} (h : ¬ 400 < l.length) : callsS l = callsGo [] 0 (l.drop 0) := by rw [callsS, if_neg h]; rfl
theorem new_cells {i : Nat} {x : Event} : (newCall i x).cells = [.lit (.bool (decide (x.kind = 3))), .lit (.int .i64 x.who), .lit (.int .i64 x.key), .lit (.int .i64 (if x.kind = 3 then x.val else 0)), .lit (.bool false), .lit (.int .i64 i), .lit (.int .i64 (-1))] := rfl
theorem tell_cells {c : Call} {i : Nat} {x : Event} : (tellCall c i x).cells = [.lit (.bool c.put), .lit (.int .i64 c.who), .lit (.int .i64 c.key), .lit (.int .i64 (if x.kind = 2 ∧ x.has = true then x.val else c.val)), .lit (.bool (if x.kind = 2 ∧ x.has = true then true else c.has)), .lit (.int .i64 c.frm), .lit (.int .i64 i)] := by
  unfold tellCall
  split <;> rfl
set_option maxHeartbeats 8000000 in
theorem calls81_c (l : List Event) (hl : l.length ≤ 1000000) (H : Heap) : QCall Try.prog 81 [.ro (l.map Event.cells)] H (callsA (callsS l)) := by
  refine QCall.any H ?_
  refine acall_intro (n := 108) (rvs := [.tmp 2, .tmp 3]) Try.func81 rfl rfl rfl (Nat.le_of_ble_eq_true rfl) ?_
  refine awp_seq ?_
  refine awp_region ?_
  refine aqs rfl (q_as (by constructor)) rfl ?_
  refine aqs rfl (q_as (by constructor)) rfl ?_
  refine alist_nil ?_
  show AWP _ _ _ _
  refine awp_seq ?_
  refine awp_seq ?_
  refine awp_region ?_
  refine aqs rfl (q_mv (by constructor)) rfl ?_
  first | refine aqs rfl (q_len Try.underlying88 .ro) rfl ?_ | refine aqs rfl (q_lenO Try.underlying88 rfl (by repeat (first | exact .here | assumption | (apply HAt.left; assumption) | apply HAt.there | apply HAt.right)) (by first | omega | (simp; done) | (simp; omega) | fail) (by first | exact Nat.sub_zero _ | rfl)) rfl ?_ | refine aqs rfl (q_len Try.underlying88 .nil) rfl ?_ | refine aqs rfl (q_len Try.underlying88 .cro) rfl ?_
  refine aqs rfl (q_gtr rfl rfl) rfl ?_
  refine alist_nil ?_
  show AWP _ _ _ _
  refine awp_cond rfl (fun hc0 => ?_) (fun hc0 => ?_)
  · have h4 : 400 < l.length := by simp at hc0; omega
    rw [show callsS l = ([], 8) by rw [callsS, if_pos h4]]
    refine awp_seq ?_
    refine awp_region ?_
    refine aqs rfl (q_as (by constructor)) rfl ?_
    refine aqs rfl (q_as (by constructor)) rfl ?_
    refine alist_nil ?_
    show AWP _ _ _ _
    refine awp_nilro 2 rfl ?_
    show AWP _ _ _ _
    refine awp_ret ?_
    repeat first | with_reducible refine then_ret ?_ | with_reducible refine blk_ret ?_
    apply retq (.inr rfl) (.cons (rok_t rfl) (.cons (rok_t rfl) .nil))
    rotate_left
    · exact ⟨rfl, rfl⟩
    repeat (first | exact List.Sublist.refl _ | exact List.nil_sublist _ | exact List.sublist_append_left _ _ | apply List.Sublist.cons)
  · have h4 : ¬ 400 < l.length := by simp at hc0; omega
    rw [callsS_short h4]
    refine awp_skip ?_
    show AWP _ _ _ _
    refine awp_seq ?_
    refine awp_region ?_
    refine aqs rfl (q_as (by constructor)) rfl ?_
    refine alist_nil ?_
    show AWP _ _ _ _
    refine awp_seq ?_
    refine awp_seq ?_
    refine awp_region ?_
    refine aqs rfl (q_as (by constructor)) rfl ?_
    refine alist_nil ?_
    show AWP _ _ _ _
    refine awp_adopt 4 103 7 rfl fun u0 => ?_
    show AWP _ _ _ _
    refine awp_block ?_
    refine awp_loop_inv (fun x : Nat × Nat × List Call => ⟨[(5, .lit (.int .i64 x.1)), (0, .ro (l.map Event.cells)), (4, .sl x.2.1 0 x.2.2.length)], 108, [(x.2.1, .arr 103 7 (x.2.2.map Call.cells))]⟩) (fun x => x.1 ≤ l.length ∧ x.2.2.length ≤ x.1 ∧ callsGo x.2.2 x.1 (l.drop x.1) = callsGo [] 0 (l.drop 0)) (fun x => l.length - x.1) (0, u0, []) ?_ ?_ ?_
    · exact ⟨Nat.zero_le _, Nat.zero_le _, rfl⟩
    · exact .mk' (by repeat (first | exact trivial | refine ⟨rfl, ?_⟩)) (by repeat (first | exact .refl _ | apply List.Sublist.cons_cons | apply List.Sublist.cons))
    · rintro ⟨i, u, out⟩ ⟨hi, hol, hgo⟩
      simp only at hi hol hgo ⊢
      rw [← hgo]
      have hlen := lenCall out
      have hone := oneCall out
      refine awp_seq ?_
      refine awp_seq ?_
      refine awp_region ?_
      refine aqs rfl (q_mv (by constructor)) rfl ?_
      refine aqs rfl (q_mv (by constructor)) rfl ?_
      first | refine aqs rfl (q_len Try.underlying88 .ro) rfl ?_ | refine aqs rfl (q_lenO Try.underlying88 rfl (by repeat (first | exact .here | assumption | (apply HAt.left; assumption) | apply HAt.there | apply HAt.right)) (by first | omega | (simp; done) | (simp; omega) | fail) (by first | exact Nat.sub_zero _ | rfl)) rfl ?_ | refine aqs rfl (q_len Try.underlying88 .nil) rfl ?_ | refine aqs rfl (q_len Try.underlying88 .cro) rfl ?_
      refine aqs rfl (q_lss rfl rfl) rfl ?_
      refine alist_nil ?_
      show AWP _ _ _ _
      refine awp_cond rfl (fun hc1 => ?_) (fun hc1 => ?_)
      · simp only [decide_eq_true_eq, List.length_map] at hc1
        obtain ⟨x, hx, hxm⟩ := get_lt (l := l) (i := i) (by omega)
        have hx2 := get_map (f := Event.cells) hx
        obtain ⟨hui1, hui2⟩ := under_i (out := out) (w := x.who)
        obtain ⟨a0, ha0⟩ : ∃ a0, a0 = underI out x.who := ⟨_, rfl⟩
        rw [← ha0] at hui1 hui2
        refine awp_skip ?_
        show AWP _ _ _ _
        refine awp_seq ?_
        refine awp_block ?_
        refine awp_seq ?_
        refine awp_region ?_
        refine aqs rfl (q_mv (by constructor)) rfl ?_
        refine aqs rfl (q_mv (by constructor)) rfl ?_
        first | refine aqs rfl (q_iaN Try.underlying88 sz108 (.inl rfl) rfl (by omega) (by first | rfl | assumption | (simp [*]; done) | fail) (by first | rfl | assumption | (simp [*]; done) | fail) (by decide) (by first | ((repeat constructor); done) | exact .same _)) rfl ?_ | refine aqs rfl (q_iaS Try.underlying88 sz108 rfl (by repeat (first | exact .here | assumption | (apply HAt.left; assumption) | apply HAt.there | apply HAt.right)) rfl (by omega) (by omega) (by first | exact Nat.zero_add _ | rfl)) rfl ?_ | refine aqs rfl (q_iaN Try.underlying88 sz108 (.inr rfl) rfl (by omega) (by first | rfl | assumption | (simp [*]; done) | fail) (by first | rfl | assumption | (simp [*]; done) | fail) (by decide) (by first | ((repeat constructor); done) | exact .same _)) rfl ?_
        first | refine aqs rfl (q_ldpW ag108 sz108 rfl (by repeat (first | exact .here | assumption | (apply HAt.left; assumption) | apply HAt.there | apply HAt.right)) (by first | rfl | assumption | (simp [*]; done) | fail) (by first | rfl | assumption | (simp [*]; done) | fail) (by decide)) rfl ?_ | refine aqs rfl (q_ldW ag108 sz108 rfl (by first | rfl | assumption | (simp [*]; done) | fail)) rfl ?_ | refine aqs rfl (q_ldpP ag108 sz108 rfl (by repeat (first | exact .here | assumption | (apply HAt.left; assumption) | apply HAt.there | apply HAt.right)) (by first | rfl | assumption | (simp [*]; done) | fail) (by first | decide | (simp; done) | omega | fail) (by decide) (by first | ((repeat constructor); done) | exact .same _)) rfl ?_ | refine aqs rfl (q_ldP ag108 sz108 rfl (by first | decide | (simp; done) | omega | fail) (by first | ((repeat constructor); done) | exact .same _)) rfl ?_
        (refine aes rfl (e_al (xs := [.lit (.int .i64 0), .lit (.int .i64 0), .lit (.int .i64 0), .lit (.int .i64 0), .lit (.bool false)]) (k := 5) zr108 (.same _) rfl) rfl ?_; rintro _ _ ⟨u6, rfl, rfl⟩)
        first | (refine aen rfl (e_stW sz108 rfl (by repeat (first | exact .here | assumption | (apply HAt.left; assumption) | apply HAt.there | apply HAt.right)) (by constructor) (by first | rfl | assumption | (simp [*]; done) | fail) rfl (by repeat (first | exact .here | apply HSet.there))) ?_; rintro _ _ ⟨rfl, rfl⟩) | (refine aen rfl (e_stP sz108 rfl (by repeat (first | exact .here | assumption | (apply HAt.left; assumption) | apply HAt.there | apply HAt.right)) (by first | rfl | assumption | (simp [*]; done) | fail) (by constructor) (by first | rfl | assumption | (simp [*]; done) | fail) rfl (by first | decide | omega) (by first | ((repeat constructor); done) | exact .same _) (by first | exact .one | exact .set) (by repeat (first | exact .here | apply HSet.there))) ?_; rintro _ _ ⟨rfl, rfl⟩)
        refine alist_nil ?_
        show AWP _ _ _ _
        refine awp_seq ?_
        refine awp_mid [(40, .lit (.bool (badEv x))), (5, .lit (.int .i64 i)), (0, .ro (l.map Event.cells)), (4, .sl u 0 out.length), (6, .ptr u6 0 0)] ?_ ?_
        · skip
          refine awp_region ?_
          all_goals (first | refine aqs rfl (q_fapP fl108_0 (by decide) rfl rfl) rfl ?_ | refine aqs rfl (q_faP fl108_0 (by decide) rfl (by first | ((repeat constructor); done) | exact .same _)) rfl ?_)
          all_goals (first | refine aqs rfl (q_ldpN ag3 rfl (by repeat (first | exact .here | assumption | (apply HAt.left; assumption) | apply HAt.there | apply HAt.right)) (by first | rfl | assumption | (simp [*]; done) | fail) (by first | rfl | assumption | (simp [*]; done) | fail) (by constructor)) rfl ?_ | refine aqs rfl (q_ld1N ag3 rfl (by constructor)) rfl ?_)
          all_goals (refine aqs rfl (q_lss rfl rfl) rfl ?_)
          all_goals (refine aqs rfl (q_mv (by constructor)) rfl ?_)
          all_goals try (refine acase (fun hb3 => ?_) (fun hb3 => ?_))
          all_goals first | (exfalso; cases hb3; done) | skip
          all_goals (first | refine ans rfl rfl ?_ | refine aqs rfl (q_fapP fl108_0 (by decide) rfl rfl) rfl ?_ | refine aqs rfl (q_faP fl108_0 (by decide) rfl (by first | ((repeat constructor); done) | exact .same _)) rfl ?_)
          all_goals (first | refine ans rfl rfl ?_ | refine aqs rfl (q_ldpN ag3 rfl (by repeat (first | exact .here | assumption | (apply HAt.left; assumption) | apply HAt.there | apply HAt.right)) (by first | rfl | assumption | (simp [*]; done) | fail) (by first | rfl | assumption | (simp [*]; done) | fail) (by constructor)) rfl ?_ | refine aqs rfl (q_ld1N ag3 rfl (by constructor)) rfl ?_)
          all_goals (first | refine ans rfl rfl ?_ | refine aqs rfl (q_gtr rfl rfl) rfl ?_)
          all_goals (first | refine aqs rfl (q_pickT rfl (by constructor)) rfl ?_ | refine aqs rfl (q_pickF rfl (by constructor)) rfl ?_)
          all_goals (refine aqs rfl (q_mv (by constructor)) rfl ?_)
          all_goals try (refine acase (fun hb8 => ?_) (fun hb8 => ?_))
          all_goals first | (exfalso; cases hb8; done) | skip
          all_goals (first | refine ans rfl rfl ?_ | refine aqs rfl (q_fapP fl108_1 (by decide) rfl rfl) rfl ?_ | refine aqs rfl (q_faP fl108_1 (by decide) rfl (by first | ((repeat constructor); done) | exact .same _)) rfl ?_)
          all_goals (first | refine ans rfl rfl ?_ | refine aqs rfl (q_ldpN ag3 rfl (by repeat (first | exact .here | assumption | (apply HAt.left; assumption) | apply HAt.there | apply HAt.right)) (by first | rfl | assumption | (simp [*]; done) | fail) (by first | rfl | assumption | (simp [*]; done) | fail) (by constructor)) rfl ?_ | refine aqs rfl (q_ld1N ag3 rfl (by constructor)) rfl ?_)
          all_goals (first | refine ans rfl rfl ?_ | refine aqs rfl (q_lss rfl rfl) rfl ?_)
          all_goals (first | refine aqs rfl (q_pickT rfl (by constructor)) rfl ?_ | refine aqs rfl (q_pickF rfl (by constructor)) rfl ?_)
          all_goals (refine aqs rfl (q_mv (by constructor)) rfl ?_)
          all_goals try (refine acase (fun hb13 => ?_) (fun hb13 => ?_))
          all_goals first | (exfalso; cases hb13; done) | skip
          all_goals (first | refine ans rfl rfl ?_ | refine aqs rfl (q_fapP fl108_1 (by decide) rfl rfl) rfl ?_ | refine aqs rfl (q_faP fl108_1 (by decide) rfl (by first | ((repeat constructor); done) | exact .same _)) rfl ?_)
          all_goals (first | refine ans rfl rfl ?_ | refine aqs rfl (q_ldpN ag3 rfl (by repeat (first | exact .here | assumption | (apply HAt.left; assumption) | apply HAt.there | apply HAt.right)) (by first | rfl | assumption | (simp [*]; done) | fail) (by first | rfl | assumption | (simp [*]; done) | fail) (by constructor)) rfl ?_ | refine aqs rfl (q_ld1N ag3 rfl (by constructor)) rfl ?_)
          all_goals (first | refine ans rfl rfl ?_ | refine aqs rfl (q_gtr rfl rfl) rfl ?_)
          all_goals (first | refine aqs rfl (q_pickT rfl (by constructor)) rfl ?_ | refine aqs rfl (q_pickF rfl (by constructor)) rfl ?_)
          all_goals (refine alist_nil ?_)
          all_goals (exact ⟨rfl, .mk' (by repeat (first | exact trivial | refine ⟨rfl, ?_⟩ | (refine ⟨?_, ?_⟩; (· show AV.lit (.bool _) = AV.lit (.bool (badEv x)); unfold badEv; first | (rw [hb3, hb8, hb13]; rfl) | (rw [hb3, hb8]; rfl) | (rw [hb3]; rfl) | fail)))) (by repeat (first | exact .refl _ | exact List.nil_sublist _ | exact List.sublist_append_left _ _ | apply List.Sublist.cons))⟩)
        refine awp_cond rfl (fun hc2 => ?_) (fun hc2 => ?_)
        · rw [callsGo_stop hx (by decide) (step_bad hc2)]
          refine awp_seq ?_
          refine awp_region ?_
          refine aqs rfl (q_as (by constructor)) rfl ?_
          refine aqs rfl (q_as (by constructor)) rfl ?_
          refine alist_nil ?_
          show AWP _ _ _ _
          refine awp_nilro 2 rfl ?_
          show AWP _ _ _ _
          refine awp_ret ?_
          repeat first | with_reducible refine then_ret ?_ | with_reducible refine blk_ret ?_
          apply retq (.inr rfl) (.cons (rok_t rfl) (.cons (rok_t rfl) .nil))
          rotate_left
          · exact ⟨rfl, rfl⟩
          repeat (first | exact List.Sublist.refl _ | exact List.nil_sublist _ | exact List.sublist_append_left _ _ | apply List.Sublist.cons)
        · skip
          refine awp_skip ?_
          show AWP _ _ _ _
          refine awp_seq ?_
          refine awp_region ?_
          refine aqs rfl (q_mv (by constructor)) rfl ?_
          first | refine aqs rfl (q_fapP fl108_1 (by decide) rfl rfl) rfl ?_ | refine aqs rfl (q_faP fl108_1 (by decide) rfl (by first | ((repeat constructor); done) | exact .same _)) rfl ?_
          first | refine aqs rfl (q_ldpN ag3 rfl (by repeat (first | exact .here | assumption | (apply HAt.left; assumption) | apply HAt.there | apply HAt.right)) (by first | rfl | assumption | (simp [*]; done) | fail) (by first | rfl | assumption | (simp [*]; done) | fail) (by constructor)) rfl ?_ | refine aqs rfl (q_ld1N ag3 rfl (by constructor)) rfl ?_
          first | refine aqs rfl (e_callN cb136 (ha0 ▸ under136_c out x.who u _ (by omega) (by repeat (first | exact .here | assumption | (apply HAt.left; assumption) | apply HAt.there | apply HAt.right))) rfl rfl) rfl ?_ | refine aqs rfl (e_callN cb136 (ACall.arg (ha0 ▸ under136_c out x.who u _ (by omega) (by repeat (first | exact .here | assumption | (apply HAt.left; assumption) | apply HAt.there | apply HAt.right))) (by repeat (first | exact ArgL.nil | (apply ArgL.cons; (· first | exact .same | exact .cro | exact .nil))))) rfl rfl) rfl ?_
          refine aqs rfl (q_as (by constructor)) rfl ?_
          refine alist_nil ?_
          show AWP _ _ _ _
          refine awp_seq ?_
          refine awp_mid [(52, .lit (.bool (isCall x))), (5, .lit (.int .i64 i)), (0, .ro (l.map Event.cells)), (4, .sl u 0 out.length), (6, .ptr u6 0 0), (7, .lit (.int .i64 a0))] ?_ ?_
          · skip
            refine awp_region ?_
            all_goals (first | refine aqs rfl (q_fapP fl108_0 (by decide) rfl rfl) rfl ?_ | refine aqs rfl (q_faP fl108_0 (by decide) rfl (by first | ((repeat constructor); done) | exact .same _)) rfl ?_)
            all_goals (first | refine aqs rfl (q_ldpN ag3 rfl (by repeat (first | exact .here | assumption | (apply HAt.left; assumption) | apply HAt.there | apply HAt.right)) (by first | rfl | assumption | (simp [*]; done) | fail) (by first | rfl | assumption | (simp [*]; done) | fail) (by constructor)) rfl ?_ | refine aqs rfl (q_ld1N ag3 rfl (by constructor)) rfl ?_)
            all_goals (refine aqs rfl (q_eql rfl rfl) rfl ?_)
            all_goals (refine aqs rfl (q_mv (by constructor)) rfl ?_)
            all_goals try (refine acase (fun hb3 => ?_) (fun hb3 => ?_))
            all_goals first | (exfalso; cases hb3; done) | skip
            all_goals (first | refine ans rfl rfl ?_ | refine aqs rfl (q_fapP fl108_0 (by decide) rfl rfl) rfl ?_ | refine aqs rfl (q_faP fl108_0 (by decide) rfl (by first | ((repeat constructor); done) | exact .same _)) rfl ?_)
            all_goals (first | refine ans rfl rfl ?_ | refine aqs rfl (q_ldpN ag3 rfl (by repeat (first | exact .here | assumption | (apply HAt.left; assumption) | apply HAt.there | apply HAt.right)) (by first | rfl | assumption | (simp [*]; done) | fail) (by first | rfl | assumption | (simp [*]; done) | fail) (by constructor)) rfl ?_ | refine aqs rfl (q_ld1N ag3 rfl (by constructor)) rfl ?_)
            all_goals (first | refine ans rfl rfl ?_ | refine aqs rfl (q_eql rfl rfl) rfl ?_)
            all_goals (first | refine aqs rfl (q_pickT rfl (by constructor)) rfl ?_ | refine aqs rfl (q_pickF rfl (by constructor)) rfl ?_)
            all_goals (refine alist_nil ?_)
            all_goals (exact ⟨rfl, .mk' (by repeat (first | exact trivial | refine ⟨rfl, ?_⟩ | (refine ⟨?_, ?_⟩; (· show AV.lit (.bool _) = AV.lit (.bool (isCall x)); unfold isCall; first | (rw [hb3]; rfl) | fail)))) (by repeat (first | exact .refl _ | exact List.nil_sublist _ | exact List.sublist_append_left _ _ | apply List.Sublist.cons))⟩)
          refine awp_cond rfl (fun hc3 => ?_) (fun hc3 => ?_)
          · skip
            refine awp_seq ?_
            refine awp_seq ?_
            refine awp_region ?_
            refine aqs rfl (q_mv (by constructor)) rfl ?_
            refine aqs rfl (q_geq rfl rfl) rfl ?_
            refine alist_nil ?_
            show AWP _ _ _ _
            refine awp_cond rfl (fun hc4 => ?_) (fun hc4 => ?_)
            · have hu : ∃ a : Nat, underS out x.who = some a := by
                obtain ⟨a, h1, _⟩ := hui2 (by simpa using hc4)
                exact ⟨a, h1⟩
              obtain ⟨a, hu⟩ := hu
              rw [callsGo_stop hx (by decide) (step_twice hc2 hc3 hu)]
              refine awp_seq ?_
              refine awp_region ?_
              refine aqs rfl (q_as (by constructor)) rfl ?_
              refine aqs rfl (q_as (by constructor)) rfl ?_
              refine alist_nil ?_
              show AWP _ _ _ _
              refine awp_nilro 2 rfl ?_
              show AWP _ _ _ _
              refine awp_ret ?_
              repeat first | with_reducible refine then_ret ?_ | with_reducible refine blk_ret ?_
              apply retq (.inr rfl) (.cons (rok_t rfl) (.cons (rok_t rfl) .nil))
              rotate_left
              · exact ⟨rfl, rfl⟩
              repeat (first | exact List.Sublist.refl _ | exact List.nil_sublist _ | exact List.sublist_append_left _ _ | apply List.Sublist.cons)
            · have hu : underS out x.who = none := hui1.1 (by simpa using hc4)
              have hst := step_new (i := i) hc2 hc3 hu
              have hes : (out.map Call.cells).take out.length ++ [(newCall i x).cells] = (out ++ [newCall i x]).map Call.cells := by rw [List.take_of_length_le (by simp)]; simp
              have hml : out.length - 0 + 1 = (out ++ [newCall i x]).length := by simp
              refine awp_skip ?_
              show AWP _ _ _ _
              refine awp_seq ?_
              refine awp_region ?_
              first | refine aqs rfl (q_fapP fl108_0 (by decide) rfl rfl) rfl ?_ | refine aqs rfl (q_faP fl108_0 (by decide) rfl (by first | ((repeat constructor); done) | exact .same _)) rfl ?_
              first | refine aqs rfl (q_ldpN ag3 rfl (by repeat (first | exact .here | assumption | (apply HAt.left; assumption) | apply HAt.there | apply HAt.right)) (by first | rfl | assumption | (simp [*]; done) | fail) (by first | rfl | assumption | (simp [*]; done) | fail) (by constructor)) rfl ?_ | refine aqs rfl (q_ld1N ag3 rfl (by constructor)) rfl ?_
              refine aqs rfl (q_eql rfl rfl) rfl ?_
              first | refine aqs rfl (q_fapP fl108_1 (by decide) rfl rfl) rfl ?_ | refine aqs rfl (q_faP fl108_1 (by decide) rfl (by first | ((repeat constructor); done) | exact .same _)) rfl ?_
              first | refine aqs rfl (q_ldpN ag3 rfl (by repeat (first | exact .here | assumption | (apply HAt.left; assumption) | apply HAt.there | apply HAt.right)) (by first | rfl | assumption | (simp [*]; done) | fail) (by first | rfl | assumption | (simp [*]; done) | fail) (by constructor)) rfl ?_ | refine aqs rfl (q_ld1N ag3 rfl (by constructor)) rfl ?_
              first | refine aqs rfl (q_fapP fl108_2 (by decide) rfl rfl) rfl ?_ | refine aqs rfl (q_faP fl108_2 (by decide) rfl (by first | ((repeat constructor); done) | exact .same _)) rfl ?_
              first | refine aqs rfl (q_ldpN ag3 rfl (by repeat (first | exact .here | assumption | (apply HAt.left; assumption) | apply HAt.there | apply HAt.right)) (by first | rfl | assumption | (simp [*]; done) | fail) (by first | rfl | assumption | (simp [*]; done) | fail) (by constructor)) rfl ?_ | refine aqs rfl (q_ld1N ag3 rfl (by constructor)) rfl ?_
              refine aqs rfl (q_mv (by constructor)) rfl ?_
              refine aqs rfl (q_bd st103 zr103 (by first | ((repeat constructor); done) | exact .same _) (by repeat (first | exact BD.nil | (apply BD.cons; (· rfl); (· constructor); (· rfl); (· rfl); (· exact Nat.le_of_ble_eq_true (by rfl)); (· exact (by first | ((repeat constructor); done) | exact .same _)))))) rfl ?_
              (refine aes rfl (e_al (xs := [.lit (.bool false), .lit (.int .i64 0), .lit (.int .i64 0), .lit (.int .i64 0), .lit (.bool false), .lit (.int .i64 0), .lit (.int .i64 0)]) (k := 7) zr103 (.same _) rfl) rfl ?_; rintro _ _ ⟨u8, rfl, rfl⟩)
              first | (refine aen rfl (e_stW sz103 rfl (by repeat (first | exact .here | assumption | (apply HAt.left; assumption) | apply HAt.there | apply HAt.right)) (by constructor) (by first | rfl | assumption | (simp [*]; done) | fail) rfl (by repeat (first | exact .here | apply HSet.there))) ?_; rintro _ _ ⟨rfl, rfl⟩) | (refine aen rfl (e_stP sz103 rfl (by repeat (first | exact .here | assumption | (apply HAt.left; assumption) | apply HAt.there | apply HAt.right)) (by first | rfl | assumption | (simp [*]; done) | fail) (by constructor) (by first | rfl | assumption | (simp [*]; done) | fail) rfl (by first | decide | omega) (by first | ((repeat constructor); done) | exact .same _) (by first | exact .one | exact .set) (by repeat (first | exact .here | apply HSet.there))) ?_; rintro _ _ ⟨rfl, rfl⟩)
              refine alist_nil ?_
              show AWP _ _ _ _
              refine awp_join (fun _ : Unit => ⟨[(5, .lit (.int .i64 i)), (0, .ro (l.map Event.cells)), (4, .sl u 0 out.length), (8, .ptr u8 0 0)], 108, [(u8, .arr 103 7 [(newCall i x).cells]), (u, .arr 103 7 (out.map Call.cells))]⟩) (fun _ => True) ?_ ?_
              · skip
                refine awp_seq ?_
                refine awp_region ?_
                first | refine aqs rfl (q_fapP fl103_0 (by decide) rfl rfl) rfl ?_ | refine aqs rfl (q_faP fl103_0 (by decide) rfl (by first | ((repeat constructor); done) | exact .same _)) rfl ?_
                first | refine aqs rfl (q_ldpN ag4 rfl (by repeat (first | exact .here | assumption | (apply HAt.left; assumption) | apply HAt.there | apply HAt.right)) (by first | rfl | assumption | (simp [*]; done) | fail) (by first | rfl | assumption | (simp [*]; done) | fail) (by constructor)) rfl ?_ | refine aqs rfl (q_ld1N ag4 rfl (by constructor)) rfl ?_
                refine alist_nil ?_
                show AWP _ _ _ _
                refine awp_cond rfl (fun hc5 => ?_) (fun hc5 => ?_)
                · have h3 : x.kind = 3 := by simpa using hc5
                  have hnc : (newCall i x).cells = [.lit (.bool (decide (x.kind = 3))), .lit (.int .i64 x.who), .lit (.int .i64 x.key), .lit (.int .i64 x.val), .lit (.bool false), .lit (.int .i64 i), .lit (.int .i64 (-1))] := by rw [new_cells, if_pos h3]
                  refine awp_region ?_
                  first | refine aqs rfl (q_fapP fl108_3 (by decide) rfl rfl) rfl ?_ | refine aqs rfl (q_faP fl108_3 (by decide) rfl (by first | ((repeat constructor); done) | exact .same _)) rfl ?_
                  first | refine aqs rfl (q_ldpN ag3 rfl (by repeat (first | exact .here | assumption | (apply HAt.left; assumption) | apply HAt.there | apply HAt.right)) (by first | rfl | assumption | (simp [*]; done) | fail) (by first | rfl | assumption | (simp [*]; done) | fail) (by constructor)) rfl ?_ | refine aqs rfl (q_ld1N ag3 rfl (by constructor)) rfl ?_
                  first | refine aqs rfl (q_fapP fl103_3 (by decide) rfl rfl) rfl ?_ | refine aqs rfl (q_faP fl103_3 (by decide) rfl (by first | ((repeat constructor); done) | exact .same _)) rfl ?_
                  first | (refine aen rfl (e_stW sz3 rfl (by repeat (first | exact .here | assumption | (apply HAt.left; assumption) | apply HAt.there | apply HAt.right)) (by constructor) (by first | rfl | assumption | (simp [*]; done) | fail) rfl (by repeat (first | exact .here | apply HSet.there))) ?_; rintro _ _ ⟨rfl, rfl⟩) | (refine aen rfl (e_stP sz3 rfl (by repeat (first | exact .here | assumption | (apply HAt.left; assumption) | apply HAt.there | apply HAt.right)) (by first | rfl | assumption | (simp [*]; done) | fail) (by constructor) (by first | rfl | assumption | (simp [*]; done) | fail) rfl (by first | decide | omega) (by first | ((repeat constructor); done) | exact .same _) (by first | exact .one | exact .set) (by repeat (first | exact .here | apply HSet.there))) ?_; rintro _ _ ⟨rfl, rfl⟩)
                  refine alist_nil ?_
                  show ∃ y, _ ∧ _
                  exact ⟨(), trivial, by rw [hnc]; exact .mk' ⟨by rfl, rfl, rfl, rfl, trivial⟩ (by repeat (first | exact List.Sublist.refl _ | exact List.nil_sublist _ | exact List.sublist_append_left _ _ | (apply List.Sublist.cons_cons) | (apply List.Sublist.cons)))⟩
                · have h3 : ¬ x.kind = 3 := by simpa using hc5
                  have hnc : (newCall i x).cells = [.lit (.bool (decide (x.kind = 3))), .lit (.int .i64 x.who), .lit (.int .i64 x.key), .lit (.int .i64 0), .lit (.bool false), .lit (.int .i64 i), .lit (.int .i64 (-1))] := by rw [new_cells, if_neg h3]
                  refine awp_skip ?_
                  show ∃ y, _ ∧ _
                  exact ⟨(), trivial, by rw [hnc]; exact .mk' ⟨by rfl, rfl, rfl, rfl, trivial⟩ (by repeat (first | exact List.Sublist.refl _ | exact List.nil_sublist _ | exact List.sublist_append_left _ _ | (apply List.Sublist.cons_cons) | (apply List.Sublist.cons)))⟩
              intro _ _
              show AWP _ _ _ ⟨_, _, _⟩
              refine awp_seq ?_
              refine awp_region ?_
              refine aqs rfl (q_mv (by constructor)) rfl ?_
              first | refine aqs rfl (q_ldpW ag103 sz103 rfl (by repeat (first | exact .here | assumption | (apply HAt.left; assumption) | apply HAt.there | apply HAt.right)) (by first | rfl | assumption | (simp [*]; done) | fail) (by first | rfl | assumption | (simp [*]; done) | fail) (by decide)) rfl ?_ | refine aqs rfl (q_ldW ag103 sz103 rfl (by first | rfl | assumption | (simp [*]; done) | fail)) rfl ?_ | refine aqs rfl (q_ldpP ag103 sz103 rfl (by repeat (first | exact .here | assumption | (apply HAt.left; assumption) | apply HAt.there | apply HAt.right)) (by first | rfl | assumption | (simp [*]; done) | fail) (by first | decide | (simp; done) | omega | fail) (by decide) (by first | ((repeat constructor); done) | exact .same _)) rfl ?_ | refine aqs rfl (q_ldP ag103 sz103 rfl (by first | decide | (simp; done) | omega | fail) (by first | ((repeat constructor); done) | exact .same _)) rfl ?_
              first | refine aqs rfl (q_bs Try.underlying90 sz103 zr103 rfl (by first | ((repeat constructor); done) | exact .same _) rfl (by decide) (by repeat (first | exact BS.nil | (apply BS.cons; (· constructor); (· rfl); (· rfl); (· rfl); (· exact (by first | ((repeat constructor); done) | exact .same _)))))) rfl ?_ | (refine aes rfl (e_bs Try.underlying90 sz103 zr103 rfl (by first | ((repeat constructor); done) | exact .same _) rfl (by decide) (by repeat (first | exact BS.nil | (apply BS.cons; (· constructor); (· rfl); (· rfl); (· rfl); (· exact (by first | ((repeat constructor); done) | exact .same _)))))) rfl ?_; rintro _ _ ⟨u71, rfl, rfl⟩)
              first | refine aqs rfl (q_apC Try.underlying90 sz103 by103 zr103 (.inl rfl) (by first | exact .ro | exact .cro | exact .nil | exact SV.slA (by repeat (first | exact .here | assumption | (apply HAt.left; assumption) | apply HAt.there | apply HAt.right)) (by first | rfl | (simp; done) | (simp; omega) | (simp [*]; done) | fail)) (by first | assumption | (intro c hc; simp at hc; subst hc; rfl) | (simp; done) | fail) (by first | assumption | (intro c hc; simp at hc; subst hc; rfl) | (simp; done) | fail) (by first | omega | decide | (simp; omega) | assumption | fail) (by decide) (by decide) rfl (by first | rfl | (simp; done) | fail)) rfl ?_ | refine aqs rfl (q_apC Try.underlying90 sz103 by103 zr103 (.inr ⟨rfl, rfl⟩) (by first | exact .ro | exact .cro | exact .nil | exact SV.slA (by repeat (first | exact .here | assumption | (apply HAt.left; assumption) | apply HAt.there | apply HAt.right)) (by first | rfl | (simp; done) | (simp; omega) | (simp [*]; done) | fail)) (by first | assumption | (intro c hc; simp at hc; subst hc; rfl) | (simp; done) | fail) (by first | assumption | (intro c hc; simp at hc; subst hc; rfl) | (simp; done) | fail) (by first | omega | decide | (simp; omega) | assumption | fail) (by decide) (by decide) rfl (by first | rfl | (simp; done) | fail)) rfl ?_ | (refine aes rfl (e_apO Try.underlying90 sz103 by103 zr103 rfl (by repeat (first | exact .here | assumption | (apply HAt.left; assumption) | apply HAt.there | apply HAt.right)) (by rw [List.length_map]; exact Nat.le_refl _) (by first | exact .ro | exact .cro | exact .nil | exact SV.slA (by repeat (first | exact .here | assumption | (apply HAt.left; assumption) | apply HAt.there | apply HAt.right)) (by first | rfl | (simp; done) | (simp; omega) | (simp [*]; done) | fail)) (by first | assumption | (intro c hc; simp at hc; subst hc; rfl) | (simp; done) | fail) (by first | assumption | (intro c hc; simp at hc; subst hc; rfl) | (simp; done) | fail) (by first | assumption | (intro c hc; simp at hc; subst hc; rfl) | (simp; done) | fail) (by first | (simp; done) | (simp; omega) | omega | fail) (by decide) (by decide) rfl (by exact hml) hes (fun v => (by repeat (first | exact .here | apply HSet.there)))) rfl ?_; rintro _ _ ⟨u72, rfl, rfl⟩) | (refine aes rfl (e_apN Try.underlying90 sz103 by103 zr103 rfl (by first | exact .ro | exact .cro | exact .nil | exact SV.slA (by repeat (first | exact .here | assumption | (apply HAt.left; assumption) | apply HAt.there | apply HAt.right)) (by first | rfl | (simp; done) | (simp; omega) | (simp [*]; done) | fail)) (by first | assumption | (intro c hc; simp at hc; subst hc; rfl) | (simp; done) | fail) (by first | assumption | (intro c hc; simp at hc; subst hc; rfl) | (simp; done) | fail) (by first | (simp; done) | (simp; omega) | omega | fail) (by decide) (by decide) rfl rfl) rfl ?_; rintro _ _ ⟨u72, rfl, rfl⟩)
              refine aqs rfl (q_as (by constructor)) rfl ?_
              refine alist_nil ?_
              show AWP _ _ _ _
              refine awp_exit ?_
              show AWP _ _ _ _
              refine awp_region ?_
              refine aqs rfl (q_mv (by constructor)) rfl ?_
              first | refine aqs rfl (q_add64 rfl rfl (by omega) (by omega)) rfl ?_ | refine aqs rfl (q_add rfl rfl) rfl ?_
              refine aqs rfl (q_as (by constructor)) rfl ?_
              refine alist_nil ?_
              show ∃ y, _ ∧ _ ∧ _
              first
                | exact ⟨(i + 1, _, out ++ [newCall i x]), ⟨by show i + 1 ≤ l.length; omega, by simp; omega, (callsGo_next hx hst).symm⟩, by show l.length - (i + 1) < l.length - i; omega, .mk' ⟨by rfl, rfl, rfl, trivial⟩ (by repeat (first | exact List.Sublist.refl _ | exact List.nil_sublist _ | exact List.sublist_append_left _ _ | (apply List.Sublist.cons_cons) | (apply List.Sublist.cons)))⟩
                | exact ⟨(i + 1, u, out.set a (tellCall (nth out a) i x)), ⟨by show i + 1 ≤ l.length; omega, by simp only [List.length_set]; omega, (callsGo_next hx hst).symm⟩, by show l.length - (i + 1) < l.length - i; omega, by simp only [hset, List.length_set]; exact .mk' ⟨by rfl, rfl, rfl, trivial⟩ (by repeat (first | exact List.Sublist.refl _ | exact List.nil_sublist _ | exact List.sublist_append_left _ _ | (apply List.Sublist.cons_cons) | (apply List.Sublist.cons)))⟩
          · skip
            refine awp_skip ?_
            show AWP _ _ _ _
            refine awp_seq ?_
            refine awp_mid [(85, .lit (.bool (decide (a0 < 0) || !((nth out a0.toNat).put == decide (x.kind = 4))))), (5, .lit (.int .i64 i)), (0, .ro (l.map Event.cells)), (4, .sl u 0 out.length), (6, .ptr u6 0 0), (7, .lit (.int .i64 a0))] ?_ ?_
            · skip
              refine awp_draw 13 [(0, false), (1, false), (2, false), (3, false), (4, false), (5, false), (6, false), (7, false), (8, false), (9, false), (10, false), (11, false), (12, false)] _ ([]) mixed (by kernel_rfl) (perm0 _) ?_
              all_goals (refine glq rfl (.inl ⟨rfl, q_mv (by constructor)⟩) rfl ?_)
              all_goals (refine glq rfl (.inl ⟨rfl, q_lss rfl rfl⟩) rfl ?_)
              all_goals (refine glq rfl (.inl ⟨rfl, q_mv (by constructor)⟩) rfl ?_)
              all_goals try (refine gcase (fun hb2 => ?_) (fun hb2 => ?_))
              all_goals first | (exfalso; cases hb2; done) | skip
              all_goals try (have hn2 : 0 ≤ a0 := (by simpa using hb2); obtain ⟨a, hu, hae⟩ := hui2 hn2; have hal := (under_some hu).1; have hg := get_map (f := Call.cells) (nth_get hal); have hat : a0.toNat = a := (by omega); rw [← hat] at hg hal)
              all_goals (first | refine glq rfl (.inl ⟨rfl, q_mv (by constructor)⟩) rfl ?_ | refine glq rfl (.inr ⟨rfl, rfl⟩) rfl ?_)
              all_goals (first | refine glq rfl (.inl ⟨rfl, q_mv (by constructor)⟩) rfl ?_ | refine glq rfl (.inr ⟨rfl, rfl⟩) rfl ?_)
              all_goals (first | refine glq rfl (.inl ⟨rfl, q_iaN Try.underlying90 sz103 (.inl rfl) rfl (by omega) (by first | rfl | assumption | (simp [*]; done) | fail) (by first | rfl | assumption | (simp [*]; done) | fail) (by decide) (by first | ((repeat constructor); done) | exact .same _)⟩) rfl ?_ | refine glq rfl (.inl ⟨rfl, q_iaS Try.underlying90 sz103 rfl (by repeat (first | exact .here | assumption | (apply HAt.left; assumption) | apply HAt.there | apply HAt.right)) rfl (by omega) (by omega) (by first | exact Nat.zero_add _ | rfl)⟩) rfl ?_ | refine glq rfl (.inl ⟨rfl, q_iaN Try.underlying90 sz103 (.inr rfl) rfl (by omega) (by first | rfl | assumption | (simp [*]; done) | fail) (by first | rfl | assumption | (simp [*]; done) | fail) (by decide) (by first | ((repeat constructor); done) | exact .same _)⟩) rfl ?_ | refine glq rfl (.inr ⟨rfl, rfl⟩) rfl ?_)
              all_goals (first | refine glq rfl (.inl ⟨rfl, q_fapP fl103_0 (by decide) rfl rfl⟩) rfl ?_ | refine glq rfl (.inl ⟨rfl, q_faP fl103_0 (by decide) rfl (by first | ((repeat constructor); done) | exact .same _)⟩) rfl ?_ | refine glq rfl (.inr ⟨rfl, rfl⟩) rfl ?_)
              all_goals (first | refine glq rfl (.inl ⟨rfl, q_ldpN ag4 rfl (by repeat (first | exact .here | assumption | (apply HAt.left; assumption) | apply HAt.there | apply HAt.right)) (by first | rfl | assumption | (simp [*]; done) | fail) (by first | rfl | assumption | (simp [*]; done) | fail) (by constructor)⟩) rfl ?_ | refine glq rfl (.inl ⟨rfl, q_ld1N ag4 rfl (by constructor)⟩) rfl ?_ | refine glq rfl (.inr ⟨rfl, rfl⟩) rfl ?_)
              all_goals (first | refine glq rfl (.inl ⟨rfl, q_fapP fl108_0 (by decide) rfl rfl⟩) rfl ?_ | refine glq rfl (.inl ⟨rfl, q_faP fl108_0 (by decide) rfl (by first | ((repeat constructor); done) | exact .same _)⟩) rfl ?_ | refine glq rfl (.inr ⟨rfl, rfl⟩) rfl ?_)
              all_goals (first | refine glq rfl (.inl ⟨rfl, q_ldpN ag3 rfl (by repeat (first | exact .here | assumption | (apply HAt.left; assumption) | apply HAt.there | apply HAt.right)) (by first | rfl | assumption | (simp [*]; done) | fail) (by first | rfl | assumption | (simp [*]; done) | fail) (by constructor)⟩) rfl ?_ | refine glq rfl (.inl ⟨rfl, q_ld1N ag3 rfl (by constructor)⟩) rfl ?_ | refine glq rfl (.inr ⟨rfl, rfl⟩) rfl ?_)
              all_goals (first | refine glq rfl (.inl ⟨rfl, q_eql rfl rfl⟩) rfl ?_ | refine glq rfl (.inr ⟨rfl, rfl⟩) rfl ?_)
              all_goals (first | refine glq rfl (.inl ⟨rfl, q_bneq rfl rfl Try.underlying4⟩) rfl ?_ | refine glq rfl (.inr ⟨rfl, rfl⟩) rfl ?_)
              all_goals (first | refine glq rfl (.inl ⟨rfl, q_pickT rfl (by constructor)⟩) rfl ?_ | refine glq rfl (.inl ⟨rfl, q_pickF rfl (by constructor)⟩) rfl ?_)
              all_goals (first | refine gld0 ?_ | refine gldA ?_)
              all_goals (refine alist_nil ?_)
              all_goals (exact ⟨rfl, .mk' (by repeat (first | exact trivial | refine ⟨rfl, ?_⟩ | (refine ⟨?_, ?_⟩; (· first | (rw [hb2]; rfl) | fail)))) (by repeat (first | exact .refl _ | exact List.nil_sublist _ | exact List.sublist_append_left _ _ | apply List.Sublist.cons))⟩)
            refine awp_cond rfl (fun hc6 => ?_) (fun hc6 => ?_)
            · have hst : callStep out i x = ([], 10) := by
                by_cases hn : a0 < 0
                · exact step_none hc2 hc3 (hui1.1 hn)
                · obtain ⟨a, hu, hae⟩ := hui2 (by omega)
                  have hat : a0.toNat = a := by omega
                  refine step_unlike hc2 hc3 hu fun hp => ?_
                  rw [hat, hp] at hc6
                  simp [hn] at hc6
              rw [callsGo_stop hx (by decide) hst]
              refine awp_seq ?_
              refine awp_region ?_
              refine aqs rfl (q_as (by constructor)) rfl ?_
              refine aqs rfl (q_as (by constructor)) rfl ?_
              refine alist_nil ?_
              show AWP _ _ _ _
              refine awp_nilro 2 rfl ?_
              show AWP _ _ _ _
              refine awp_ret ?_
              repeat first | with_reducible refine then_ret ?_ | with_reducible refine blk_ret ?_
              apply retq (.inr rfl) (.cons (rok_t rfl) (.cons (rok_t rfl) .nil))
              rotate_left
              · exact ⟨rfl, rfl⟩
              repeat (first | exact List.Sublist.refl _ | exact List.nil_sublist _ | exact List.sublist_append_left _ _ | apply List.Sublist.cons)
            · simp only [Bool.or_eq_false_iff, decide_eq_false_iff_not, Bool.not_eq_false', beq_iff_eq] at hc6
              obtain ⟨a, hu, hae⟩ := hui2 (by omega)
              have hat : a0.toNat = a := by omega
              have hal := (under_some hu).1
              have hg := get_map (f := Call.cells) (nth_get hal)
              rw [hat] at hc6
              have hst := step_told (i := i) hc2 hc3 hu hc6.2
              rw [← hat] at hg hal
              have hset : (out.map Call.cells).set a0.toNat (tellCall (nth out a0.toNat) i x).cells = (out.set a (tellCall (nth out a) i x)).map Call.cells := by rw [hat, List.map_set]
              refine awp_skip ?_
              show AWP _ _ _ _
              refine awp_seq ?_
              refine awp_region ?_
              refine aqs rfl (q_mv (by constructor)) rfl ?_
              refine aqs rfl (q_mv (by constructor)) rfl ?_
              first | refine aqs rfl (q_iaN Try.underlying90 sz103 (.inl rfl) rfl (by omega) (by first | rfl | assumption | (simp [*]; done) | fail) (by first | rfl | assumption | (simp [*]; done) | fail) (by decide) (by first | ((repeat constructor); done) | exact .same _)) rfl ?_ | refine aqs rfl (q_iaS Try.underlying90 sz103 rfl (by repeat (first | exact .here | assumption | (apply HAt.left; assumption) | apply HAt.there | apply HAt.right)) rfl (by omega) (by omega) (by first | exact Nat.zero_add _ | rfl)) rfl ?_ | refine aqs rfl (q_iaN Try.underlying90 sz103 (.inr rfl) rfl (by omega) (by first | rfl | assumption | (simp [*]; done) | fail) (by first | rfl | assumption | (simp [*]; done) | fail) (by decide) (by first | ((repeat constructor); done) | exact .same _)) rfl ?_
              first | refine aqs rfl (q_ldpW ag103 sz103 rfl (by repeat (first | exact .here | assumption | (apply HAt.left; assumption) | apply HAt.there | apply HAt.right)) (by first | rfl | assumption | (simp [*]; done) | fail) (by first | rfl | assumption | (simp [*]; done) | fail) (by decide)) rfl ?_ | refine aqs rfl (q_ldW ag103 sz103 rfl (by first | rfl | assumption | (simp [*]; done) | fail)) rfl ?_ | refine aqs rfl (q_ldpP ag103 sz103 rfl (by repeat (first | exact .here | assumption | (apply HAt.left; assumption) | apply HAt.there | apply HAt.right)) (by first | rfl | assumption | (simp [*]; done) | fail) (by first | decide | (simp; done) | omega | fail) (by decide) (by first | ((repeat constructor); done) | exact .same _)) rfl ?_ | refine aqs rfl (q_ldP ag103 sz103 rfl (by first | decide | (simp; done) | omega | fail) (by first | ((repeat constructor); done) | exact .same _)) rfl ?_
              (refine aes rfl (e_al (xs := [.lit (.bool false), .lit (.int .i64 0), .lit (.int .i64 0), .lit (.int .i64 0), .lit (.bool false), .lit (.int .i64 0), .lit (.int .i64 0)]) (k := 7) zr103 (.same _) rfl) rfl ?_; rintro _ _ ⟨u9, rfl, rfl⟩)
              first | (refine aen rfl (e_stW sz103 rfl (by repeat (first | exact .here | assumption | (apply HAt.left; assumption) | apply HAt.there | apply HAt.right)) (by constructor) (by first | rfl | assumption | (simp [*]; done) | fail) rfl (by repeat (first | exact .here | apply HSet.there))) ?_; rintro _ _ ⟨rfl, rfl⟩) | (refine aen rfl (e_stP sz103 rfl (by repeat (first | exact .here | assumption | (apply HAt.left; assumption) | apply HAt.there | apply HAt.right)) (by first | rfl | assumption | (simp [*]; done) | fail) (by constructor) (by first | rfl | assumption | (simp [*]; done) | fail) rfl (by first | decide | omega) (by first | ((repeat constructor); done) | exact .same _) (by first | exact .one | exact .set) (by repeat (first | exact .here | apply HSet.there))) ?_; rintro _ _ ⟨rfl, rfl⟩)
              refine alist_nil ?_
              show AWP _ _ _ _
              refine awp_seq ?_
              refine awp_region ?_
              refine aqs rfl (q_mv (by constructor)) rfl ?_
              first | refine aqs rfl (q_fapP fl103_6 (by decide) rfl rfl) rfl ?_ | refine aqs rfl (q_faP fl103_6 (by decide) rfl (by first | ((repeat constructor); done) | exact .same _)) rfl ?_
              first | (refine aen rfl (e_stW sz3 rfl (by repeat (first | exact .here | assumption | (apply HAt.left; assumption) | apply HAt.there | apply HAt.right)) (by constructor) (by first | rfl | assumption | (simp [*]; done) | fail) rfl (by repeat (first | exact .here | apply HSet.there))) ?_; rintro _ _ ⟨rfl, rfl⟩) | (refine aen rfl (e_stP sz3 rfl (by repeat (first | exact .here | assumption | (apply HAt.left; assumption) | apply HAt.there | apply HAt.right)) (by first | rfl | assumption | (simp [*]; done) | fail) (by constructor) (by first | rfl | assumption | (simp [*]; done) | fail) rfl (by first | decide | omega) (by first | ((repeat constructor); done) | exact .same _) (by first | exact .one | exact .set) (by repeat (first | exact .here | apply HSet.there))) ?_; rintro _ _ ⟨rfl, rfl⟩)
              refine alist_nil ?_
              show AWP _ _ _ _
              refine awp_join (fun _ : Unit => ⟨[(5, .lit (.int .i64 i)), (0, .ro (l.map Event.cells)), (4, .sl u 0 out.length), (7, .lit (.int .i64 a0)), (9, .ptr u9 0 0)], 108, [(u9, .arr 103 7 [(tellCall (nth out a0.toNat) i x).cells]), (u, .arr 103 7 (out.map Call.cells))]⟩) (fun _ => True) ?_ ?_
              · skip
                refine awp_mid [(98, .lit (.bool (decide (x.kind = 2) && x.has))), (5, .lit (.int .i64 i)), (0, .ro (l.map Event.cells)), (4, .sl u 0 out.length), (6, .ptr u6 0 0), (7, .lit (.int .i64 a0)), (9, .ptr u9 0 0)] ?_ ?_
                · skip
                  refine awp_region ?_
                  all_goals (first | refine aqs rfl (q_fapP fl108_0 (by decide) rfl rfl) rfl ?_ | refine aqs rfl (q_faP fl108_0 (by decide) rfl (by first | ((repeat constructor); done) | exact .same _)) rfl ?_)
                  all_goals (first | refine aqs rfl (q_ldpN ag3 rfl (by repeat (first | exact .here | assumption | (apply HAt.left; assumption) | apply HAt.there | apply HAt.right)) (by first | rfl | assumption | (simp [*]; done) | fail) (by first | rfl | assumption | (simp [*]; done) | fail) (by constructor)) rfl ?_ | refine aqs rfl (q_ld1N ag3 rfl (by constructor)) rfl ?_)
                  all_goals (refine aqs rfl (q_eql rfl rfl) rfl ?_)
                  all_goals (refine aqs rfl (q_mv (by constructor)) rfl ?_)
                  all_goals try (refine acase (fun hb3 => ?_) (fun hb3 => ?_))
                  all_goals first | (exfalso; cases hb3; done) | skip
                  all_goals (first | refine ans rfl rfl ?_ | refine aqs rfl (q_fapP fl108_4 (by decide) rfl rfl) rfl ?_ | refine aqs rfl (q_faP fl108_4 (by decide) rfl (by first | ((repeat constructor); done) | exact .same _)) rfl ?_)
                  all_goals (first | refine ans rfl rfl ?_ | refine aqs rfl (q_ldpN ag4 rfl (by repeat (first | exact .here | assumption | (apply HAt.left; assumption) | apply HAt.there | apply HAt.right)) (by first | rfl | assumption | (simp [*]; done) | fail) (by first | rfl | assumption | (simp [*]; done) | fail) (by constructor)) rfl ?_ | refine aqs rfl (q_ld1N ag4 rfl (by constructor)) rfl ?_)
                  all_goals (first | refine aqs rfl (q_pickT rfl (by constructor)) rfl ?_ | refine aqs rfl (q_pickF rfl (by constructor)) rfl ?_)
                  all_goals (refine alist_nil ?_)
                  all_goals (exact ⟨rfl, .mk' (by repeat (first | exact trivial | refine ⟨rfl, ?_⟩ | (refine ⟨?_, ?_⟩; (· first | (rw [hb3]; rfl) | fail)))) (by repeat (first | exact .refl _ | exact List.nil_sublist _ | exact List.sublist_append_left _ _ | apply List.Sublist.cons))⟩)
                refine awp_cond rfl (fun hc7 => ?_) (fun hc7 => ?_)
                · have h2 : x.kind = 2 ∧ x.has = true := by simpa using hc7
                  have htc : (tellCall (nth out a0.toNat) i x).cells = [.lit (.bool (nth out a0.toNat).put), .lit (.int .i64 (nth out a0.toNat).who), .lit (.int .i64 (nth out a0.toNat).key), .lit (.int .i64 x.val), .lit (.bool true), .lit (.int .i64 (nth out a0.toNat).frm), .lit (.int .i64 i)] := by rw [tell_cells, if_pos h2, if_pos h2]
                  refine awp_seq ?_
                  refine awp_region ?_
                  first | refine aqs rfl (q_fapP fl103_4 (by decide) rfl rfl) rfl ?_ | refine aqs rfl (q_faP fl103_4 (by decide) rfl (by first | ((repeat constructor); done) | exact .same _)) rfl ?_
                  first | (refine aen rfl (e_stW sz4 rfl (by repeat (first | exact .here | assumption | (apply HAt.left; assumption) | apply HAt.there | apply HAt.right)) (by constructor) (by first | rfl | assumption | (simp [*]; done) | fail) rfl (by repeat (first | exact .here | apply HSet.there))) ?_; rintro _ _ ⟨rfl, rfl⟩) | (refine aen rfl (e_stP sz4 rfl (by repeat (first | exact .here | assumption | (apply HAt.left; assumption) | apply HAt.there | apply HAt.right)) (by first | rfl | assumption | (simp [*]; done) | fail) (by constructor) (by first | rfl | assumption | (simp [*]; done) | fail) rfl (by first | decide | omega) (by first | ((repeat constructor); done) | exact .same _) (by first | exact .one | exact .set) (by repeat (first | exact .here | apply HSet.there))) ?_; rintro _ _ ⟨rfl, rfl⟩)
                  refine alist_nil ?_
                  show AWP _ _ _ _
                  refine awp_region ?_
                  first | refine aqs rfl (q_fapP fl108_3 (by decide) rfl rfl) rfl ?_ | refine aqs rfl (q_faP fl108_3 (by decide) rfl (by first | ((repeat constructor); done) | exact .same _)) rfl ?_
                  first | refine aqs rfl (q_ldpN ag3 rfl (by repeat (first | exact .here | assumption | (apply HAt.left; assumption) | apply HAt.there | apply HAt.right)) (by first | rfl | assumption | (simp [*]; done) | fail) (by first | rfl | assumption | (simp [*]; done) | fail) (by constructor)) rfl ?_ | refine aqs rfl (q_ld1N ag3 rfl (by constructor)) rfl ?_
                  first | refine aqs rfl (q_fapP fl103_3 (by decide) rfl rfl) rfl ?_ | refine aqs rfl (q_faP fl103_3 (by decide) rfl (by first | ((repeat constructor); done) | exact .same _)) rfl ?_
                  first | (refine aen rfl (e_stW sz3 rfl (by repeat (first | exact .here | assumption | (apply HAt.left; assumption) | apply HAt.there | apply HAt.right)) (by constructor) (by first | rfl | assumption | (simp [*]; done) | fail) rfl (by repeat (first | exact .here | apply HSet.there))) ?_; rintro _ _ ⟨rfl, rfl⟩) | (refine aen rfl (e_stP sz3 rfl (by repeat (first | exact .here | assumption | (apply HAt.left; assumption) | apply HAt.there | apply HAt.right)) (by first | rfl | assumption | (simp [*]; done) | fail) (by constructor) (by first | rfl | assumption | (simp [*]; done) | fail) rfl (by first | decide | omega) (by first | ((repeat constructor); done) | exact .same _) (by first | exact .one | exact .set) (by repeat (first | exact .here | apply HSet.there))) ?_; rintro _ _ ⟨rfl, rfl⟩)
                  refine alist_nil ?_
                  show ∃ y, _ ∧ _
                  exact ⟨(), trivial, by rw [htc]; exact .mk' ⟨by rfl, rfl, rfl, rfl, rfl, trivial⟩ (by repeat (first | exact List.Sublist.refl _ | exact List.nil_sublist _ | exact List.sublist_append_left _ _ | (apply List.Sublist.cons_cons) | (apply List.Sublist.cons)))⟩
                · have h2 : ¬ (x.kind = 2 ∧ x.has = true) := fun h => by simp [h.1, h.2] at hc7
                  have htc : (tellCall (nth out a0.toNat) i x).cells = [.lit (.bool (nth out a0.toNat).put), .lit (.int .i64 (nth out a0.toNat).who), .lit (.int .i64 (nth out a0.toNat).key), .lit (.int .i64 (nth out a0.toNat).val), .lit (.bool (nth out a0.toNat).has), .lit (.int .i64 (nth out a0.toNat).frm), .lit (.int .i64 i)] := by rw [tell_cells, if_neg h2, if_neg h2]
                  refine awp_skip ?_
                  show ∃ y, _ ∧ _
                  exact ⟨(), trivial, by rw [htc]; exact .mk' ⟨by rfl, rfl, rfl, rfl, rfl, trivial⟩ (by repeat (first | exact List.Sublist.refl _ | exact List.nil_sublist _ | exact List.sublist_append_left _ _ | (apply List.Sublist.cons_cons) | (apply List.Sublist.cons)))⟩
              intro _ _
              show AWP _ _ _ ⟨_, _, _⟩
              refine awp_region ?_
              refine aqs rfl (q_mv (by constructor)) rfl ?_
              refine aqs rfl (q_mv (by constructor)) rfl ?_
              first | refine aqs rfl (q_ldpW ag103 sz103 rfl (by repeat (first | exact .here | assumption | (apply HAt.left; assumption) | apply HAt.there | apply HAt.right)) (by first | rfl | assumption | (simp [*]; done) | fail) (by first | rfl | assumption | (simp [*]; done) | fail) (by decide)) rfl ?_ | refine aqs rfl (q_ldW ag103 sz103 rfl (by first | rfl | assumption | (simp [*]; done) | fail)) rfl ?_ | refine aqs rfl (q_ldpP ag103 sz103 rfl (by repeat (first | exact .here | assumption | (apply HAt.left; assumption) | apply HAt.there | apply HAt.right)) (by first | rfl | assumption | (simp [*]; done) | fail) (by first | decide | (simp; done) | omega | fail) (by decide) (by first | ((repeat constructor); done) | exact .same _)) rfl ?_ | refine aqs rfl (q_ldP ag103 sz103 rfl (by first | decide | (simp; done) | omega | fail) (by first | ((repeat constructor); done) | exact .same _)) rfl ?_
              first | refine aqs rfl (q_iaN Try.underlying90 sz103 (.inl rfl) rfl (by omega) (by first | rfl | assumption | (simp [*]; done) | fail) (by first | rfl | assumption | (simp [*]; done) | fail) (by decide) (by first | ((repeat constructor); done) | exact .same _)) rfl ?_ | refine aqs rfl (q_iaS Try.underlying90 sz103 rfl (by repeat (first | exact .here | assumption | (apply HAt.left; assumption) | apply HAt.there | apply HAt.right)) rfl (by omega) (by omega) (by first | exact Nat.zero_add _ | rfl)) rfl ?_ | refine aqs rfl (q_iaN Try.underlying90 sz103 (.inr rfl) rfl (by omega) (by first | rfl | assumption | (simp [*]; done) | fail) (by first | rfl | assumption | (simp [*]; done) | fail) (by decide) (by first | ((repeat constructor); done) | exact .same _)) rfl ?_
              first | (refine aen rfl (e_stW sz103 rfl (by repeat (first | exact .here | assumption | (apply HAt.left; assumption) | apply HAt.there | apply HAt.right)) (by constructor) (by first | rfl | assumption | (simp [*]; done) | fail) rfl (by repeat (first | exact .here | apply HSet.there))) ?_; rintro _ _ ⟨rfl, rfl⟩) | (refine aen rfl (e_stP sz103 rfl (by repeat (first | exact .here | assumption | (apply HAt.left; assumption) | apply HAt.there | apply HAt.right)) (by first | rfl | assumption | (simp [*]; done) | fail) (by constructor) (by first | rfl | assumption | (simp [*]; done) | fail) rfl (by first | decide | omega) (by first | ((repeat constructor); done) | exact .same _) (by first | exact .one | exact .set) (by repeat (first | exact .here | apply HSet.there))) ?_; rintro _ _ ⟨rfl, rfl⟩)
              refine alist_nil ?_
              show AWP _ _ _ _
              refine awp_region ?_
              refine aqs rfl (q_mv (by constructor)) rfl ?_
              first | refine aqs rfl (q_add64 rfl rfl (by omega) (by omega)) rfl ?_ | refine aqs rfl (q_add rfl rfl) rfl ?_
              refine aqs rfl (q_as (by constructor)) rfl ?_
              refine alist_nil ?_
              show ∃ y, _ ∧ _ ∧ _
              first
                | exact ⟨(i + 1, _, out ++ [newCall i x]), ⟨by show i + 1 ≤ l.length; omega, by simp; omega, (callsGo_next hx hst).symm⟩, by show l.length - (i + 1) < l.length - i; omega, .mk' ⟨by rfl, rfl, rfl, trivial⟩ (by repeat (first | exact List.Sublist.refl _ | exact List.nil_sublist _ | exact List.sublist_append_left _ _ | (apply List.Sublist.cons_cons) | (apply List.Sublist.cons)))⟩
                | exact ⟨(i + 1, u, out.set a (tellCall (nth out a) i x)), ⟨by show i + 1 ≤ l.length; omega, by simp only [List.length_set]; omega, (callsGo_next hx hst).symm⟩, by show l.length - (i + 1) < l.length - i; omega, by simp only [hset, List.length_set]; exact .mk' ⟨by rfl, rfl, rfl, trivial⟩ (by repeat (first | exact List.Sublist.refl _ | exact List.nil_sublist _ | exact List.sublist_append_left _ _ | (apply List.Sublist.cons_cons) | (apply List.Sublist.cons)))⟩
      · simp only [decide_eq_false_iff_not, List.length_map] at hc1
        have hil : i = l.length := by omega
        subst hil
        rw [List.drop_length]
        rw [show callsGo out l.length [] = (out, 0) by rw [callsGo]]
        refine awp_exit ?_
        show AWP _ _ _ _
        refine awp_seq ?_
        refine awp_region ?_
        refine aqs rfl (q_mv (by constructor)) rfl ?_
        refine aqs rfl (q_as (by constructor)) rfl ?_
        refine aqs rfl (q_as (by constructor)) rfl ?_
        refine alist_nil ?_
        show AWP _ _ _ _
        refine awp_pub (u := u) (by repeat (first | exact .here | assumption | (apply HAt.left; assumption) | apply HAt.there | apply HAt.right)) (by repeat (first | exact PubT.nil | (apply PubT.cons; (· first | exact .one (pub_all (by first | rfl | (simp; done) | (simp; omega) | (simp [*]; done) | fail)) | exact .one .same)) | exact PubT.same)) (by repeat (first | exact PubH.drop .same | (apply PubH.cons; (· exact .same)))) ?_
        show AWP _ _ _ _
        refine awp_ret ?_
        repeat first | with_reducible refine then_ret ?_ | with_reducible refine blk_ret ?_
        apply retq (.inr rfl) (.cons (rok_t rfl) (.cons (rok_t rfl) .nil))
        rotate_left
        · exact ⟨rfl, rfl⟩
        repeat (first | exact List.Sublist.refl _ | exact List.nil_sublist _ | exact List.sublist_append_left _ _ | apply List.Sublist.cons)
end Go.Proofs.YtdlinfekifnmkaaAm
