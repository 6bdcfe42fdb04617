/- The walk of HistNever. Conditions: none. -/
import Derived.Test.YtdlinfekifnmkaaAmHistK
set_option linter.unusedVariables false
set_option linter.unusedSimpArgs false
set_option maxRecDepth 20000
namespace Go.Proofs.YtdlinfekifnmkaaAm
open Go.Proofs
theorem any_take {c : List Call} {i : Nat} (h : i < c.length) : (c.take (i + 1)).any isHas = ((c.take i).any isHas || isHas (nth c i)) := by
  rw [take_next (nth_get h), List.any_append]; simp
theorem may_app {c : List Call} {g : Call} (h : ∀ x ∈ c, mayC x = true) (hg : mayC g = true) : ∀ x ∈ c ++ [g], mayC x = true := by
  intro x hx
  rcases List.mem_append.1 hx with h1 | h1
  · exact h x h1
  · rw [List.mem_singleton.1 h1]; exact hg
set_option maxHeartbeats 8000000 in
theorem walkHistNever (raw : List Quad) (room key : Int) (wraw : (∀ y ∈ raw, y.Wf) ∧ raw.length ≤ 9223372036854775807) (wroom : -9223372036854775808 ≤ room ∧ room ≤ 9223372036854775807) (wkey : -9223372036854775808 ≤ key ∧ key ≤ 9223372036854775807) :
    QCall Try.prog 19 [.ro (raw.map Quad.cells), .lit (.int .i64 room), .lit (.int .i64 key)] [] (.lit (.bool true)) := by
  obtain ⟨c, hc⟩ : ∃ c, c = listOf raw 7 := ⟨_, rfl⟩
  have hcf : ∀ x ∈ c, Fine x := hc ▸ listOf_fine wraw.1 7
  have hcl : c.length ≤ 7 := hc ▸ listOf_len raw 7
  obtain ⟨r, hr⟩ : ∃ r, r = pick room 9 := ⟨_, rfl⟩
  obtain ⟨k, hk⟩ : ∃ k, k = pick key 3 := ⟨_, rfl⟩
  have hlen := lenCall c
  have hone := oneCall c
  have hcm := fun x hx => (hcf x hx).may
  obtain ⟨g, hg⟩ : ∃ g : Call, g = ⟨false, 0, k, 99, true, 20, 21⟩ := ⟨_, rfl⟩
  obtain ⟨g2, hg2⟩ : ∃ g : Call, g = ⟨false, 0, 7, 1, true, 20, 21⟩ := ⟨_, rfl⟩
  obtain ⟨p, hp⟩ : ∃ g : Call, g = ⟨true, 0, 7, 1, false, 22, 23⟩ := ⟨_, rfl⟩
  have hes1 := app_cells c g
  have hes2 := app_cells c g2
  have hml : (c.map Call.cells).length - 0 + 1 = c.length + 1 := by simp
  have hes3 : (((c ++ [g2]).map Call.cells).take (c.length + 1)).drop 0 ++ [p.cells] = (c ++ [g2] ++ [p]).map Call.cells := by
    rw [← app_cells (c ++ [g2]) p]; simp
  have hlen2 := lenCall (c ++ [g2])
  have hone2 := oneCall (c ++ [g2])
  have e1 : linearS (c ++ [g]) r = (false, 0) := by
    rw [linS_all (may_app hcm (by subst hg; rfl)) (by simp; omega)]
    rw [never_put (g := g) (by subst hg; rfl) (by subst hg; show (0 : Int) ≤ 21; decide) (by intro x hx h; have := (hcf x hx).val; have h3 := h.2.2; subst hg; simp only at h3; omega)]
  have e2 : c.length < 7 → linearS (c ++ [g2] ++ [p]) r = (false, 0) := by
    intro hl
    rw [linS_all (may_app (may_app hcm (by subst hg2; rfl)) (by subst hp; rfl)) (by simp; omega)]
    rw [later_put (g := g2) (by subst hg2; rfl) (by subst hg2; show (0 : Int) ≤ 21; decide) (by subst hg2; subst hp; rfl) (by intro x hx h; have := (hcf x hx).key; have h3 := h.2.1; subst hg2; simp only at h3; omega)]
  have e3 : linearS c 0 = (!c.any isHas, 0) := by
    rw [linS_all hcm (by omega), linear_zero (fun x hx => (hcf x hx).has) (fun x hx h => by have := (hcf x hx).to; omega)]
  have hgc : g.cells = [.lit (.bool false), .lit (.int .i64 0), .lit (.int .i64 k), .lit (.int .i64 99), .lit (.bool true), .lit (.int .i64 20), .lit (.int .i64 21)] := by subst hg; rfl
  have hgc2 : g2.cells = [.lit (.bool false), .lit (.int .i64 0), .lit (.int .i64 7), .lit (.int .i64 1), .lit (.bool true), .lit (.int .i64 20), .lit (.int .i64 21)] := by subst hg2; rfl
  have hpc : p.cells = [.lit (.bool true), .lit (.int .i64 0), .lit (.int .i64 7), .lit (.int .i64 1), .lit (.bool false), .lit (.int .i64 22), .lit (.int .i64 23)] := by subst hp; rfl
  rw [hgc] at hes1
  rw [hgc2] at hes2
  rw [hpc] at hes3
  refine acall_intro (n := 107) (rvs := [.tmp 6]) Try.func19 rfl rfl rfl (Nat.le_of_ble_eq_true rfl) ?_
  refine awp_seq ?_
  refine awp_region ?_
  refine aqs rfl (q_as (by constructor)) rfl ?_
  refine alist_nil ?_
  show AWP _ _ _ _
  refine awp_seq ?_
  refine awp_region ?_
  first | refine aqs rfl (e_callN cb78 (QCall.any _ awake78_c) rfl rfl) rfl ?_ | refine aqs rfl (e_callN cb78 (ACall.arg (QCall.any _ awake78_c) (by repeat (first | exact ArgL.nil | (apply ArgL.cons; (· first | exact .same | exact .cro | exact .nil))))) rfl rfl) rfl ?_
  refine aqs rfl (q_as (by constructor)) rfl ?_
  refine alist_nil ?_
  show AWP _ _ _ _
  refine awp_seq ?_
  refine awp_region ?_
  refine aqs rfl (q_mv (by constructor)) rfl ?_
  first | refine aqs rfl (e_callN cb83 (hc ▸ list83_c raw wraw.1 7 (by omega) _) rfl rfl) rfl ?_ | refine aqs rfl (e_callN cb83 (ACall.arg (hc ▸ list83_c raw wraw.1 7 (by omega) _) (by repeat (first | exact ArgL.nil | (apply ArgL.cons; (· first | exact .same | exact .cro | exact .nil))))) rfl rfl) rfl ?_
  refine aqs rfl (q_as (by constructor)) rfl ?_
  refine alist_nil ?_
  show AWP _ _ _ _
  refine awp_seq ?_
  refine awp_region ?_
  refine aqs rfl (q_mv (by constructor)) rfl ?_
  first | refine aqs rfl (e_callN cb84 (hr ▸ pick84_c _ _ wroom.1 wroom.2 (by omega) _) rfl rfl) rfl ?_ | refine aqs rfl (e_callN cb84 (ACall.arg (hr ▸ pick84_c _ _ wroom.1 wroom.2 (by omega) _) (by repeat (first | exact ArgL.nil | (apply ArgL.cons; (· first | exact .same | exact .cro | exact .nil))))) rfl rfl) rfl ?_
  refine aqs rfl (q_as (by constructor)) rfl ?_
  refine alist_nil ?_
  show AWP _ _ _ _
  refine awp_seq ?_
  refine awp_region ?_
  refine aqs rfl (q_as (by constructor)) rfl ?_
  refine alist_nil ?_
  show AWP _ _ _ _
  refine awp_seq ?_
  refine awp_seq ?_
  refine awp_region ?_
  refine aqs rfl (q_as (by constructor)) rfl ?_
  refine alist_nil ?_
  show AWP _ _ _ _
  refine awp_block ?_
  refine awp_loop_inv (fun i : Nat => ⟨[(11, .lit (.int .i64 i)), (10, .lit (.bool ((c.take i).any isHas))), (9, .lit (.int .i64 r)), (8, .ro (c.map Call.cells)), (7, .lit (.bool true)), (2, .lit (.int .i64 key))], 107, []⟩) (fun i => i ≤ c.length) (fun i => c.length - i) 0 ?_ ?_ ?_
  · exact Nat.zero_le _
  · exact .mk' (by repeat (first | exact trivial | refine ⟨rfl, ?_⟩)) (by repeat (first | exact .refl _ | apply List.Sublist.cons_cons | apply List.Sublist.cons))
  · intro i hi
    refine awp_seq ?_
    refine awp_seq ?_
    refine awp_region ?_
    refine aqs rfl (q_mv (by constructor)) rfl ?_
    refine aqs rfl (q_mv (by constructor)) rfl ?_
    first | refine aqs rfl (q_len Try.underlying90 .ro) rfl ?_ | refine aqs rfl (q_lenO Try.underlying90 rfl (by repeat (first | exact .here | assumption | (apply HAt.left; assumption) | apply HAt.there | apply HAt.right)) (by first | omega | (simp; done) | (simp; omega) | fail) (by first | exact Nat.sub_zero _ | rfl)) rfl ?_ | refine aqs rfl (q_len Try.underlying90 .nil) rfl ?_ | refine aqs rfl (q_len Try.underlying90 .cro) rfl ?_
    refine aqs rfl (q_lss rfl rfl) rfl ?_
    refine alist_nil ?_
    show AWP _ _ _ _
    refine awp_cond rfl (fun hc0 => ?_) (fun hc0 => ?_)
    · simp only [decide_eq_true_eq, List.length_map] at hc0
      have hil : i < c.length := by omega
      have hs2 := get_map (f := Call.cells) (nth_get hil)
      have hat := any_take hil
      refine awp_skip ?_
      show AWP _ _ _ _
      refine awp_seq ?_
      refine awp_block ?_
      refine awp_mid1 [(10, .lit (.bool ((c.take i).any isHas || isHas (nth c i)))), (11, .lit (.int .i64 i)), (9, .lit (.int .i64 r)), (8, .ro (c.map Call.cells)), (7, .lit (.bool true)), (2, .lit (.int .i64 key))] ?_ ?_
      · skip
        refine awp_region ?_
        all_goals (refine aqs rfl (q_mv (by constructor)) rfl ?_)
        all_goals (refine aqs rfl (q_mv (by constructor)) rfl ?_)
        all_goals try (refine acase (fun hb1 => ?_) (fun hb1 => ?_))
        all_goals first | (exfalso; cases hb1; done) | skip
        all_goals (first | refine ans rfl rfl ?_ | refine aqs rfl (q_mv (by constructor)) rfl ?_)
        all_goals (first | refine ans rfl rfl ?_ | refine aqs rfl (q_mv (by constructor)) rfl ?_)
        all_goals (first | refine ans rfl rfl ?_ | refine aqs rfl (q_iaN Try.underlying90 sz103 (.inl rfl) rfl (by omega) (by first | rfl | assumption | (simp [*]; done) | fail) (by first | rfl | assumption | (simp [*]; done) | fail) (by decide) (by first | ((repeat constructor); done) | exact .same _)) rfl ?_ | refine aqs rfl (q_iaS Try.underlying90 sz103 rfl (by repeat (first | exact .here | assumption | (apply HAt.left; assumption) | apply HAt.there | apply HAt.right)) rfl (by omega) (by omega) (by first | exact Nat.zero_add _ | rfl)) rfl ?_ | refine aqs rfl (q_iaN Try.underlying90 sz103 (.inr rfl) rfl (by omega) (by first | rfl | assumption | (simp [*]; done) | fail) (by first | rfl | assumption | (simp [*]; done) | fail) (by decide) (by first | ((repeat constructor); done) | exact .same _)) rfl ?_)
        all_goals (first | refine ans rfl rfl ?_ | refine aqs rfl (q_fapP fl103_0 (by decide) rfl rfl) rfl ?_ | refine aqs rfl (q_faP fl103_0 (by decide) rfl (by first | ((repeat constructor); done) | exact .same _)) rfl ?_)
        all_goals (first | refine ans rfl rfl ?_ | refine aqs rfl (q_ldpN ag4 rfl (by repeat (first | exact .here | assumption | (apply HAt.left; assumption) | apply HAt.there | apply HAt.right)) (by first | rfl | assumption | (simp [*]; done) | fail) (by first | rfl | assumption | (simp [*]; done) | fail) (by constructor)) rfl ?_ | refine aqs rfl (q_ld1N ag4 rfl (by constructor)) rfl ?_)
        all_goals (first | refine ans rfl rfl ?_ | refine aqs rfl (q_not rfl) rfl ?_)
        all_goals (first | refine ans rfl rfl ?_ | refine aqs rfl (q_mv (by constructor)) rfl ?_)
        all_goals try (refine acase (fun hb8 => ?_) (fun hb8 => ?_))
        all_goals first | (exfalso; cases hb8; done) | skip
        all_goals (first | refine ans rfl rfl ?_ | refine aqs rfl (q_mv (by constructor)) rfl ?_)
        all_goals (first | refine ans rfl rfl ?_ | refine aqs rfl (q_mv (by constructor)) rfl ?_)
        all_goals (first | refine ans rfl rfl ?_ | refine aqs rfl (q_iaN Try.underlying90 sz103 (.inl rfl) rfl (by omega) (by first | rfl | assumption | (simp [*]; done) | fail) (by first | rfl | assumption | (simp [*]; done) | fail) (by decide) (by first | ((repeat constructor); done) | exact .same _)) rfl ?_ | refine aqs rfl (q_iaS Try.underlying90 sz103 rfl (by repeat (first | exact .here | assumption | (apply HAt.left; assumption) | apply HAt.there | apply HAt.right)) rfl (by omega) (by omega) (by first | exact Nat.zero_add _ | rfl)) rfl ?_ | refine aqs rfl (q_iaN Try.underlying90 sz103 (.inr rfl) rfl (by omega) (by first | rfl | assumption | (simp [*]; done) | fail) (by first | rfl | assumption | (simp [*]; done) | fail) (by decide) (by first | ((repeat constructor); done) | exact .same _)) rfl ?_)
        all_goals (first | refine ans rfl rfl ?_ | refine aqs rfl (q_fapP fl103_4 (by decide) rfl rfl) rfl ?_ | refine aqs rfl (q_faP fl103_4 (by decide) rfl (by first | ((repeat constructor); done) | exact .same _)) rfl ?_)
        all_goals (first | refine ans rfl rfl ?_ | refine aqs rfl (q_ldpN ag4 rfl (by repeat (first | exact .here | assumption | (apply HAt.left; assumption) | apply HAt.there | apply HAt.right)) (by first | rfl | assumption | (simp [*]; done) | fail) (by first | rfl | assumption | (simp [*]; done) | fail) (by constructor)) rfl ?_ | refine aqs rfl (q_ld1N ag4 rfl (by constructor)) rfl ?_)
        all_goals (first | refine ans rfl rfl ?_ | refine aqs rfl (q_pickT rfl (by constructor)) rfl ?_ | refine aqs rfl (q_pickF rfl (by constructor)) rfl ?_)
        all_goals (first | refine aqs rfl (q_pickT rfl (by constructor)) rfl ?_ | refine aqs rfl (q_pickF rfl (by constructor)) rfl ?_)
        all_goals (refine aqs rfl (q_as (by constructor)) rfl ?_)
        all_goals (refine alist_nil ?_)
        all_goals (exact ⟨rfl, .mk' (by repeat (first | exact trivial | refine ⟨rfl, ?_⟩ | (refine ⟨?_, ?_⟩; (· show AV.lit (.bool _) = AV.lit (.bool (_ || isHas (nth c i))); rw [show isHas (nth c i) = (!(nth c i).put && (nth c i).has) from rfl]; first | (rw [hb1, hb8]; rfl) | (rw [hb1]; rfl) | fail)))) (by repeat (first | exact .refl _ | exact List.nil_sublist _ | exact List.sublist_append_left _ _ | apply List.Sublist.cons))⟩)
      show AWP _ _ _ _
      refine awp_region ?_
      refine aqs rfl (q_mv (by constructor)) rfl ?_
      first | refine aqs rfl (q_add64 rfl rfl (by omega) (by omega)) rfl ?_ | refine aqs rfl (q_add rfl rfl) rfl ?_
      refine aqs rfl (q_as (by constructor)) rfl ?_
      refine alist_nil ?_
      show ∃ y, _ ∧ _ ∧ _
      exact ⟨i + 1, by omega, by omega, by rw [hat]; exact .mk' ⟨by rfl, rfl, rfl, rfl, rfl, rfl, trivial⟩ (by repeat (first | exact List.Sublist.refl _ | exact List.nil_sublist _ | exact List.sublist_append_left _ _ | (apply List.Sublist.cons_cons) | (apply List.Sublist.cons)))⟩
    · simp only [decide_eq_false_iff_not, List.length_map] at hc0
      have hci : c.take i = c := List.take_of_length_le (by omega)
      rw [hci]
      refine awp_exit ?_
      show AWP _ _ _ _
      refine awp_seq ?_
      refine awp_region ?_
      refine aqs rfl (q_mv (by constructor)) rfl ?_
      (refine aes rfl (e_apN Try.underlying90 sz103 by103 zr103 rfl (by first | exact .ro | exact .cro | exact .nil | exact SV.slA (by repeat (first | exact .here | assumption | (apply HAt.left; assumption) | apply HAt.there | apply HAt.right)) (by first | rfl | (simp; done) | (simp; omega) | (simp [*]; done) | fail)) (by first | assumption | (intro c hc; simp at hc; subst hc; rfl) | (simp; done) | fail) (by first | assumption | (intro c hc; simp at hc; subst hc; rfl) | (simp; done) | fail) (by first | (simp; done) | (simp; omega) | omega | fail) (by decide) (by decide) rfl rfl) rfl ?_; rintro _ _ ⟨u48, rfl, rfl⟩)
      refine aqs rfl (q_mv (by constructor)) rfl ?_
      first | refine aqs rfl (e_callN cb84 (hk ▸ pick84_c _ _ wkey.1 wkey.2 (by omega) _) rfl rfl) rfl ?_ | refine aqs rfl (e_callN cb84 (ACall.arg (hk ▸ pick84_c _ _ wkey.1 wkey.2 (by omega) _) (by repeat (first | exact ArgL.nil | (apply ArgL.cons; (· first | exact .same | exact .cro | exact .nil))))) rfl rfl) rfl ?_
      refine aqs rfl (q_bd st103 zr103 (by first | ((repeat constructor); done) | exact .same _) (by repeat (first | exact BD.nil | (apply BD.cons; (· rfl); (· constructor); (· rfl); (· rfl); (· exact Nat.le_of_ble_eq_true (by rfl)); (· exact (by first | ((repeat constructor); done) | exact .same _)))))) rfl ?_
      first | refine aqs rfl (q_bs Try.underlying90 sz103 zr103 rfl (by first | ((repeat constructor); done) | exact .same _) rfl (by decide) (by repeat (first | exact BS.nil | (apply BS.cons; (· constructor); (· rfl); (· rfl); (· rfl); (· exact (by first | ((repeat constructor); done) | exact .same _)))))) rfl ?_ | (refine aes rfl (e_bs Try.underlying90 sz103 zr103 rfl (by first | ((repeat constructor); done) | exact .same _) rfl (by decide) (by repeat (first | exact BS.nil | (apply BS.cons; (· constructor); (· rfl); (· rfl); (· rfl); (· exact (by first | ((repeat constructor); done) | exact .same _)))))) rfl ?_; rintro _ _ ⟨u52, rfl, rfl⟩)
      first | refine aqs rfl (q_apC Try.underlying90 sz103 by103 zr103 (.inl rfl) (by first | exact .ro | exact .cro | exact .nil | exact SV.slA (by repeat (first | exact .here | assumption | (apply HAt.left; assumption) | apply HAt.there | apply HAt.right)) (by first | rfl | (simp; done) | (simp; omega) | (simp [*]; done) | fail)) (by first | assumption | (intro c hc; simp at hc; subst hc; rfl) | (simp; done) | fail) (by first | assumption | (intro c hc; simp at hc; subst hc; rfl) | (simp; done) | fail) (by first | omega | decide | (simp; omega) | assumption | fail) (by decide) (by decide) rfl (by first | rfl | (simp; done) | fail)) rfl ?_ | refine aqs rfl (q_apC Try.underlying90 sz103 by103 zr103 (.inr ⟨rfl, rfl⟩) (by first | exact .ro | exact .cro | exact .nil | exact SV.slA (by repeat (first | exact .here | assumption | (apply HAt.left; assumption) | apply HAt.there | apply HAt.right)) (by first | rfl | (simp; done) | (simp; omega) | (simp [*]; done) | fail)) (by first | assumption | (intro c hc; simp at hc; subst hc; rfl) | (simp; done) | fail) (by first | assumption | (intro c hc; simp at hc; subst hc; rfl) | (simp; done) | fail) (by first | omega | decide | (simp; omega) | assumption | fail) (by decide) (by decide) rfl (by first | rfl | (simp; done) | fail)) rfl ?_ | (refine aes rfl (e_apO Try.underlying90 sz103 by103 zr103 rfl (by repeat (first | exact .here | assumption | (apply HAt.left; assumption) | apply HAt.there | apply HAt.right)) (by first | exact Nat.le_refl _ | (simp; done) | fail) (by first | exact .ro | exact .cro | exact .nil | exact SV.slA (by repeat (first | exact .here | assumption | (apply HAt.left; assumption) | apply HAt.there | apply HAt.right)) (by first | rfl | (simp; done) | (simp; omega) | (simp [*]; done) | fail)) (by first | assumption | (intro c hc; simp at hc; subst hc; rfl) | (simp; done) | fail) (by first | assumption | (intro c hc; simp at hc; subst hc; rfl) | (simp; done) | fail) (by first | assumption | (intro c hc; simp at hc; subst hc; rfl) | (simp; done) | fail) (by first | (simp; done) | (simp; omega) | omega | fail) (by decide) (by decide) rfl (by first | exact hml | rfl | fail) (by first | exact hes1 | exact hes2 | exact hes3) (fun v => (by repeat (first | exact .here | apply HSet.there)))) rfl ?_; rintro _ _ ⟨u53, rfl, rfl⟩) | (refine aes rfl (e_apN Try.underlying90 sz103 by103 zr103 rfl (by first | exact .ro | exact .cro | exact .nil | exact SV.slA (by repeat (first | exact .here | assumption | (apply HAt.left; assumption) | apply HAt.there | apply HAt.right)) (by first | rfl | (simp; done) | (simp; omega) | (simp [*]; done) | fail)) (by first | assumption | (intro c hc; simp at hc; subst hc; rfl) | (simp; done) | fail) (by first | assumption | (intro c hc; simp at hc; subst hc; rfl) | (simp; done) | fail) (by first | (simp; done) | (simp; omega) | omega | fail) (by decide) (by decide) rfl rfl) rfl ?_; rintro _ _ ⟨u53, rfl, rfl⟩)
      refine alist_pub (u := u53) (by repeat (first | exact .here | assumption | (apply HAt.left; assumption) | apply HAt.there | apply HAt.right)) (by repeat (first | exact PubT.nil | (apply PubT.cons; (· first | exact .one (pub_all (by first | rfl | (simp; done) | (simp; omega) | (simp [*]; done) | fail)) | exact .one .same)) | exact PubT.same)) (by repeat (first | exact PubH.drop .same | (apply PubH.cons; (· exact .same)))) ?_
      refine aqs rfl (q_mv (by constructor)) rfl ?_
      first | refine aqs rfl (e_callN cb85 (e1 ▸ linear85_c (c ++ [g]) r (by simp; omega) _) rfl rfl) rfl ?_ | refine aqs rfl (e_callN cb85 (ACall.arg (e1 ▸ linear85_c (c ++ [g]) r (by simp; omega) _) (by repeat (first | exact ArgL.nil | (apply ArgL.cons; (· first | exact .same | exact .cro | exact .nil))))) rfl rfl) rfl ?_
      refine aqs rfl (q_mv (by constructor)) rfl ?_
      refine aqs rfl (q_ex rfl rfl (by constructor)) rfl ?_
      refine aqs rfl (q_ex rfl rfl (by constructor)) rfl ?_
      refine aqs rfl (q_as (by constructor)) rfl ?_
      refine aqs rfl (q_as (by constructor)) rfl ?_
      refine alist_nil ?_
      show AWP _ _ _ _
      refine awp_seq ?_
      refine awp_region ?_
      refine aqs rfl (q_mv (by constructor)) rfl ?_
      (refine aes rfl (e_apN Try.underlying90 sz103 by103 zr103 rfl (by first | exact .ro | exact .cro | exact .nil | exact SV.slA (by repeat (first | exact .here | assumption | (apply HAt.left; assumption) | apply HAt.there | apply HAt.right)) (by first | rfl | (simp; done) | (simp; omega) | (simp [*]; done) | fail)) (by first | assumption | (intro c hc; simp at hc; subst hc; rfl) | (simp; done) | fail) (by first | assumption | (intro c hc; simp at hc; subst hc; rfl) | (simp; done) | fail) (by first | (simp; done) | (simp; omega) | omega | fail) (by decide) (by decide) rfl rfl) rfl ?_; rintro _ _ ⟨u59, rfl, rfl⟩)
      refine aqs rfl (q_bd st103 zr103 (by first | ((repeat constructor); done) | exact .same _) (by repeat (first | exact BD.nil | (apply BD.cons; (· rfl); (· constructor); (· rfl); (· rfl); (· exact Nat.le_of_ble_eq_true (by rfl)); (· exact (by first | ((repeat constructor); done) | exact .same _)))))) rfl ?_
      first | refine aqs rfl (q_bs Try.underlying90 sz103 zr103 rfl (by first | ((repeat constructor); done) | exact .same _) rfl (by decide) (by repeat (first | exact BS.nil | (apply BS.cons; (· constructor); (· rfl); (· rfl); (· rfl); (· exact (by first | ((repeat constructor); done) | exact .same _)))))) rfl ?_ | (refine aes rfl (e_bs Try.underlying90 sz103 zr103 rfl (by first | ((repeat constructor); done) | exact .same _) rfl (by decide) (by repeat (first | exact BS.nil | (apply BS.cons; (· constructor); (· rfl); (· rfl); (· rfl); (· exact (by first | ((repeat constructor); done) | exact .same _)))))) rfl ?_; rintro _ _ ⟨u61, rfl, rfl⟩)
      first | refine aqs rfl (q_apC Try.underlying90 sz103 by103 zr103 (.inl rfl) (by first | exact .ro | exact .cro | exact .nil | exact SV.slA (by repeat (first | exact .here | assumption | (apply HAt.left; assumption) | apply HAt.there | apply HAt.right)) (by first | rfl | (simp; done) | (simp; omega) | (simp [*]; done) | fail)) (by first | assumption | (intro c hc; simp at hc; subst hc; rfl) | (simp; done) | fail) (by first | assumption | (intro c hc; simp at hc; subst hc; rfl) | (simp; done) | fail) (by first | omega | decide | (simp; omega) | assumption | fail) (by decide) (by decide) rfl (by first | rfl | (simp; done) | fail)) rfl ?_ | refine aqs rfl (q_apC Try.underlying90 sz103 by103 zr103 (.inr ⟨rfl, rfl⟩) (by first | exact .ro | exact .cro | exact .nil | exact SV.slA (by repeat (first | exact .here | assumption | (apply HAt.left; assumption) | apply HAt.there | apply HAt.right)) (by first | rfl | (simp; done) | (simp; omega) | (simp [*]; done) | fail)) (by first | assumption | (intro c hc; simp at hc; subst hc; rfl) | (simp; done) | fail) (by first | assumption | (intro c hc; simp at hc; subst hc; rfl) | (simp; done) | fail) (by first | omega | decide | (simp; omega) | assumption | fail) (by decide) (by decide) rfl (by first | rfl | (simp; done) | fail)) rfl ?_ | (refine aes rfl (e_apO Try.underlying90 sz103 by103 zr103 rfl (by repeat (first | exact .here | assumption | (apply HAt.left; assumption) | apply HAt.there | apply HAt.right)) (by first | exact Nat.le_refl _ | (simp; done) | fail) (by first | exact .ro | exact .cro | exact .nil | exact SV.slA (by repeat (first | exact .here | assumption | (apply HAt.left; assumption) | apply HAt.there | apply HAt.right)) (by first | rfl | (simp; done) | (simp; omega) | (simp [*]; done) | fail)) (by first | assumption | (intro c hc; simp at hc; subst hc; rfl) | (simp; done) | fail) (by first | assumption | (intro c hc; simp at hc; subst hc; rfl) | (simp; done) | fail) (by first | assumption | (intro c hc; simp at hc; subst hc; rfl) | (simp; done) | fail) (by first | (simp; done) | (simp; omega) | omega | fail) (by decide) (by decide) rfl (by first | exact hml | rfl | fail) (by first | exact hes1 | exact hes2 | exact hes3) (fun v => (by repeat (first | exact .here | apply HSet.there)))) rfl ?_; rintro _ _ ⟨u62, rfl, rfl⟩) | (refine aes rfl (e_apN Try.underlying90 sz103 by103 zr103 rfl (by first | exact .ro | exact .cro | exact .nil | exact SV.slA (by repeat (first | exact .here | assumption | (apply HAt.left; assumption) | apply HAt.there | apply HAt.right)) (by first | rfl | (simp; done) | (simp; omega) | (simp [*]; done) | fail)) (by first | assumption | (intro c hc; simp at hc; subst hc; rfl) | (simp; done) | fail) (by first | assumption | (intro c hc; simp at hc; subst hc; rfl) | (simp; done) | fail) (by first | (simp; done) | (simp; omega) | omega | fail) (by decide) (by decide) rfl rfl) rfl ?_; rintro _ _ ⟨u62, rfl, rfl⟩)
      refine aqs rfl (q_as (by constructor)) rfl ?_
      refine alist_nil ?_
      show AWP _ _ _ _
      refine awp_seq ?_
      refine awp_region ?_
      refine aqs rfl (q_as (by constructor)) rfl ?_
      refine alist_nil ?_
      show AWP _ _ _ _
      refine awp_seq ?_
      refine awp_region ?_
      refine aqs rfl (q_as (by constructor)) rfl ?_
      refine alist_nil ?_
      show AWP _ _ _ _
      refine awp_join (fun _ : Unit => ⟨[(16, .lit (.int .i64 0)), (15, .lit (.bool false)), (13, .lit (.int .i64 0)), (12, .lit (.bool false)), (10, .lit (.bool (c.any isHas))), (8, .ro (c.map Call.cells)), (7, .lit (.bool true))], 107, []⟩) (fun _ => True) ?_ ?_
      · skip
        refine awp_seq ?_
        refine awp_region ?_
        refine aqs rfl (q_mv (by constructor)) rfl ?_
        first | refine aqs rfl (q_len Try.underlying90 .ro) rfl ?_ | refine aqs rfl (q_lenO Try.underlying90 rfl (by repeat (first | exact .here | assumption | (apply HAt.left; assumption) | apply HAt.there | apply HAt.right)) (by first | omega | (simp; done) | (simp; omega) | fail) (by first | exact Nat.sub_zero _ | rfl)) rfl ?_ | refine aqs rfl (q_len Try.underlying90 .nil) rfl ?_ | refine aqs rfl (q_len Try.underlying90 .cro) rfl ?_
        refine aqs rfl (q_lss rfl rfl) rfl ?_
        refine alist_nil ?_
        show AWP _ _ _ _
        refine awp_cond rfl (fun hc1 => ?_) (fun hc1 => ?_)
        · have hl7 : c.length < 7 := by simp at hc1; omega
          refine awp_region ?_
          refine aqs rfl (q_mv (by constructor)) rfl ?_
          refine aqs rfl (q_bd st103 zr103 (by first | ((repeat constructor); done) | exact .same _) (by repeat (first | exact BD.nil | (apply BD.cons; (· rfl); (· constructor); (· rfl); (· rfl); (· exact Nat.le_of_ble_eq_true (by rfl)); (· exact (by first | ((repeat constructor); done) | exact .same _)))))) rfl ?_
          first | refine aqs rfl (q_bs Try.underlying90 sz103 zr103 rfl (by first | ((repeat constructor); done) | exact .same _) rfl (by decide) (by repeat (first | exact BS.nil | (apply BS.cons; (· constructor); (· rfl); (· rfl); (· rfl); (· exact (by first | ((repeat constructor); done) | exact .same _)))))) rfl ?_ | (refine aes rfl (e_bs Try.underlying90 sz103 zr103 rfl (by first | ((repeat constructor); done) | exact .same _) rfl (by decide) (by repeat (first | exact BS.nil | (apply BS.cons; (· constructor); (· rfl); (· rfl); (· rfl); (· exact (by first | ((repeat constructor); done) | exact .same _)))))) rfl ?_; rintro _ _ ⟨u69, rfl, rfl⟩)
          first | refine aqs rfl (q_apC Try.underlying90 sz103 by103 zr103 (.inl rfl) (by first | exact .ro | exact .cro | exact .nil | exact SV.slA (by repeat (first | exact .here | assumption | (apply HAt.left; assumption) | apply HAt.there | apply HAt.right)) (by first | rfl | (simp; done) | (simp; omega) | (simp [*]; done) | fail)) (by first | assumption | (intro c hc; simp at hc; subst hc; rfl) | (simp; done) | fail) (by first | assumption | (intro c hc; simp at hc; subst hc; rfl) | (simp; done) | fail) (by first | omega | decide | (simp; omega) | assumption | fail) (by decide) (by decide) rfl (by first | rfl | (simp; done) | fail)) rfl ?_ | refine aqs rfl (q_apC Try.underlying90 sz103 by103 zr103 (.inr ⟨rfl, rfl⟩) (by first | exact .ro | exact .cro | exact .nil | exact SV.slA (by repeat (first | exact .here | assumption | (apply HAt.left; assumption) | apply HAt.there | apply HAt.right)) (by first | rfl | (simp; done) | (simp; omega) | (simp [*]; done) | fail)) (by first | assumption | (intro c hc; simp at hc; subst hc; rfl) | (simp; done) | fail) (by first | assumption | (intro c hc; simp at hc; subst hc; rfl) | (simp; done) | fail) (by first | omega | decide | (simp; omega) | assumption | fail) (by decide) (by decide) rfl (by first | rfl | (simp; done) | fail)) rfl ?_ | (refine aes rfl (e_apO Try.underlying90 sz103 by103 zr103 rfl (by repeat (first | exact .here | assumption | (apply HAt.left; assumption) | apply HAt.there | apply HAt.right)) (by first | exact Nat.le_refl _ | (simp; done) | fail) (by first | exact .ro | exact .cro | exact .nil | exact SV.slA (by repeat (first | exact .here | assumption | (apply HAt.left; assumption) | apply HAt.there | apply HAt.right)) (by first | rfl | (simp; done) | (simp; omega) | (simp [*]; done) | fail)) (by first | assumption | (intro c hc; simp at hc; subst hc; rfl) | (simp; done) | fail) (by first | assumption | (intro c hc; simp at hc; subst hc; rfl) | (simp; done) | fail) (by first | assumption | (intro c hc; simp at hc; subst hc; rfl) | (simp; done) | fail) (by first | (simp; done) | (simp; omega) | omega | fail) (by decide) (by decide) rfl (by first | exact hml | rfl | fail) (by first | exact hes1 | exact hes2 | exact hes3) (fun v => (by repeat (first | exact .here | apply HSet.there)))) rfl ?_; rintro _ _ ⟨u70, rfl, rfl⟩) | (refine aes rfl (e_apN Try.underlying90 sz103 by103 zr103 rfl (by first | exact .ro | exact .cro | exact .nil | exact SV.slA (by repeat (first | exact .here | assumption | (apply HAt.left; assumption) | apply HAt.there | apply HAt.right)) (by first | rfl | (simp; done) | (simp; omega) | (simp [*]; done) | fail)) (by first | assumption | (intro c hc; simp at hc; subst hc; rfl) | (simp; done) | fail) (by first | assumption | (intro c hc; simp at hc; subst hc; rfl) | (simp; done) | fail) (by first | (simp; done) | (simp; omega) | omega | fail) (by decide) (by decide) rfl rfl) rfl ?_; rintro _ _ ⟨u70, rfl, rfl⟩)
          refine alist_pub (u := u70) (by repeat (first | exact .here | assumption | (apply HAt.left; assumption) | apply HAt.there | apply HAt.right)) (by repeat (first | exact PubT.nil | (apply PubT.cons; (· first | exact .one (pub_all (by first | rfl | (simp; done) | (simp; omega) | (simp [*]; done) | fail)) | exact .one .same)) | exact PubT.same)) (by repeat (first | exact PubH.drop .same | (apply PubH.cons; (· exact .same)))) ?_
          refine aqs rfl (q_mv (by constructor)) rfl ?_
          first | refine aqs rfl (e_callN cb85 (e2 hl7 ▸ linear85_c (c ++ [g2] ++ [p]) r (by simp; omega) _) rfl rfl) rfl ?_ | refine aqs rfl (e_callN cb85 (ACall.arg (e2 hl7 ▸ linear85_c (c ++ [g2] ++ [p]) r (by simp; omega) _) (by repeat (first | exact ArgL.nil | (apply ArgL.cons; (· first | exact .same | exact .cro | exact .nil))))) rfl rfl) rfl ?_
          refine aqs rfl (q_mv (by constructor)) rfl ?_
          refine aqs rfl (q_ex rfl rfl (by constructor)) rfl ?_
          refine aqs rfl (q_ex rfl rfl (by constructor)) rfl ?_
          refine aqs rfl (q_as (by constructor)) rfl ?_
          refine aqs rfl (q_as (by constructor)) rfl ?_
          refine alist_nil ?_
          show ∃ y, _ ∧ _
          exact ⟨(), trivial, .mk' ⟨by rfl, rfl, rfl, rfl, rfl, rfl, rfl, trivial⟩ (by repeat (first | exact List.Sublist.refl _ | exact List.nil_sublist _ | exact List.sublist_append_left _ _ | (apply List.Sublist.cons_cons) | (apply List.Sublist.cons)))⟩
        · try simp only [decide_eq_true_eq, decide_eq_false_iff_not, Bool.not_eq_true', Bool.not_eq_false', Bool.not_eq_eq_eq_not, Bool.not_true, Bool.not_false, beq_iff_eq, beq_eq_false_iff_ne, Int.not_lt, Int.not_le] at hc1
          refine awp_skip ?_
          show ∃ y, _ ∧ _
          exact ⟨(), trivial, .mk' ⟨by rfl, rfl, rfl, rfl, rfl, rfl, rfl, trivial⟩ (by repeat (first | exact List.Sublist.refl _ | exact List.nil_sublist _ | exact List.sublist_append_left _ _ | (apply List.Sublist.cons_cons) | (apply List.Sublist.cons)))⟩
      intro _ _
      show AWP _ _ _ ⟨_, _, _⟩
      refine awp_seq ?_
      refine awp_region ?_
      refine aqs rfl (q_mv (by constructor)) rfl ?_
      first | refine aqs rfl (e_callN cb85 (e3 ▸ linear85_c c 0 (by omega) _) rfl rfl) rfl ?_ | refine aqs rfl (e_callN cb85 (ACall.arg (e3 ▸ linear85_c c 0 (by omega) _) (by repeat (first | exact ArgL.nil | (apply ArgL.cons; (· first | exact .same | exact .cro | exact .nil))))) rfl rfl) rfl ?_
      refine aqs rfl (q_mv (by constructor)) rfl ?_
      refine aqs rfl (q_ex rfl rfl (by constructor)) rfl ?_
      refine aqs rfl (q_ex rfl rfl (by constructor)) rfl ?_
      refine aqs rfl (q_as (by constructor)) rfl ?_
      refine aqs rfl (q_as (by constructor)) rfl ?_
      refine alist_nil ?_
      show AWP _ _ _ _
      refine awp_seq ?_
      refine awp_region ?_
      refine aqs rfl (q_mv (by constructor)) rfl ?_
      refine aqs rfl (q_mv (by constructor)) rfl ?_
      first | refine ans rfl rfl ?_ | refine aqs rfl (q_mv (by constructor)) rfl ?_
      refine aqs rfl (castT (q_eql rfl rfl) (by rfl)) rfl ?_
      first | refine aqs rfl (q_pickT rfl (by constructor)) rfl ?_ | refine aqs rfl (q_pickF rfl (by constructor)) rfl ?_
      refine aqs rfl (q_mv (by constructor)) rfl ?_
      first | refine ans rfl rfl ?_ | refine aqs rfl (q_mv (by constructor)) rfl ?_
      refine aqs rfl (castT (q_not rfl) (by rfl)) rfl ?_
      first | refine aqs rfl (q_pickT rfl (by constructor)) rfl ?_ | refine aqs rfl (q_pickF rfl (by constructor)) rfl ?_
      refine aqs rfl (q_mv (by constructor)) rfl ?_
      first | refine ans rfl rfl ?_ | refine aqs rfl (q_mv (by constructor)) rfl ?_
      refine aqs rfl (castT (q_eql rfl rfl) (by rfl)) rfl ?_
      first | refine aqs rfl (q_pickT rfl (by constructor)) rfl ?_ | refine aqs rfl (q_pickF rfl (by constructor)) rfl ?_
      refine aqs rfl (q_mv (by constructor)) rfl ?_
      first | refine ans rfl rfl ?_ | refine aqs rfl (q_mv (by constructor)) rfl ?_
      refine aqs rfl (castT (q_not rfl) (by rfl)) rfl ?_
      first | refine aqs rfl (q_pickT rfl (by constructor)) rfl ?_ | refine aqs rfl (q_pickF rfl (by constructor)) rfl ?_
      refine aqs rfl (q_mv (by constructor)) rfl ?_
      first | refine ans rfl rfl ?_ | refine aqs rfl (q_mv (by constructor)) rfl ?_
      refine aqs rfl (castT (q_eql rfl rfl) (by rfl)) rfl ?_
      first | refine aqs rfl (q_pickT rfl (by constructor)) rfl ?_ | refine aqs rfl (q_pickF rfl (by constructor)) rfl ?_
      refine aqs rfl (q_mv (by constructor)) rfl ?_
      first | refine ans rfl rfl ?_ | refine aqs rfl (q_mv (by constructor)) rfl ?_
      first | refine ans rfl rfl ?_ | refine aqs rfl (q_mv (by constructor)) rfl ?_
      first | refine ans rfl rfl ?_ | refine aqs rfl (q_not rfl) rfl ?_
      refine aqs rfl (castT (q_beql rfl rfl Try.underlying4) (by simp)) rfl ?_
      first | refine aqs rfl (q_pickT rfl (by constructor)) rfl ?_ | refine aqs rfl (q_pickF rfl (by constructor)) rfl ?_
      refine aqs rfl (q_as (by constructor)) rfl ?_
      refine alist_nil ?_
      show AWP _ _ _ _
      refine awp_ret ?_
      repeat first | with_reducible refine then_ret ?_ | with_reducible refine blk_ret ?_
      apply retq (.inr rfl) (.cons (rok_t rfl) .nil)
      rotate_left
      · exact ⟨rfl, rfl⟩
      repeat (first | exact List.Sublist.refl _ | exact List.nil_sublist _ | exact List.sublist_append_left _ _ | apply List.Sublist.cons)
end Go.Proofs.YtdlinfekifnmkaaAm
