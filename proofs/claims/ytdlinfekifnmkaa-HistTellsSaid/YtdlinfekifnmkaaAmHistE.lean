/- Contracts of the layer 'hist', fifth part: the reference's orders. Conditions: the lengths. -/
import Derived.Test.YtdlinfekifnmkaaAmHistD
set_option linter.unusedVariables false
set_option linter.unusedSimpArgs false
set_option maxRecDepth 20000
namespace Go.Proofs.YtdlinfekifnmkaaAm
open Go.Proofs
theorem alist_pub {P : Program} {ops : Array Oper} {l : List Oper} {Q : Exit → St → Prop} {t t2 : List (Nat × AV)} {n : Nat} {H H2 : Heap} {u size : Nat} {e : TypeId} {es : List (List AV)} (hq : HAt H u (.arr e size es)) (hT : PubT u es t t2) (hH : PubH u es H H2) (h : AList P ops Q l ⟨t2, n, H2⟩) : AList P ops Q l ⟨t, n, H⟩ := by
  intro C a hr
  obtain ⟨q, hq⟩ := hq.at
  have ho : ObRel C u (.arr e size es) := hr.h.at hq
  obtain ⟨m1, m2, m3, m4⟩ := pubH_mem hH
  have hu : u ∉ H2.map (·.1) := m3 hr.h.nodup
  have hr2 : Rel (C.free u) ⟨t2, n, H2⟩ a :=
    ⟨free_ok hr.ok u, ⟨m1.nodup hr.h.nodup, fun v q hvq => by
      obtain ⟨p, hp, hpq⟩ := m4 v q hvq
      exact pubO_rel hr.ok ho (fun hv => hu (List.mem_map.2 ⟨(v, q), hvq, hv⟩)) hpq (hr.h.ob v p hp)⟩, hr.n, fun i => pubV_rv hr.ok ho (pubT_look hT i) (hr.t i), hr.d⟩
  have h3 := h (C.free u) a hr2
  refine wpList_mono ?_ _ _ _ h3
  intro e a w hp
  refine hp.trans hr.ok ((free_le C u).mono fun w hw => by subst hw; exact m2) (fun w hw => .inl ?_)
  exact m1.subset hw
def cN (i : Nat) : List AV := [.lit (.int .i64 i)]
set_option maxHeartbeats 400000 in
theorem before89_c (a b : Call) (H : Heap) : QCall Try.prog 89 [.agg a.cells, .agg b.cells] H (.lit (.bool (before a b))) := by
  refine acall_intro (n := 15) (rvs := [.tmp 4]) Try.func89 rfl rfl rfl (Nat.le_of_ble_eq_true rfl) ?_
  refine awp_seq ?_
  refine awp_region ?_
  (refine aes rfl (e_bx (by constructor) rfl rfl) rfl ?_; rintro _ _ ⟨u2, rfl, rfl⟩)
  (refine aes rfl (e_bx (by constructor) rfl rfl) rfl ?_; rintro _ _ ⟨u3, rfl, rfl⟩)
  refine aqs rfl (q_as (by constructor)) rfl ?_
  refine alist_nil ?_
  show AWP _ _ _ _
  refine awp_mid [(4, .lit (.bool (decide ((0 : Int) ≤ a.to) && decide (a.to < b.frm))))] ?_ ?_
  · skip
    refine awp_region ?_
    all_goals (first | refine aqs rfl (q_fapP fl103_6 (by decide) rfl rfl) rfl ?_ | refine aqs rfl (q_faP fl103_6 (by decide) rfl (by first | ((repeat constructor); done) | exact .same _)) rfl ?_)
    all_goals (first | refine aqs rfl (q_ldpN ag3 rfl (by repeat (first | exact .here | assumption | (apply HAt.left; assumption) | apply HAt.there | apply HAt.right)) (by first | rfl | assumption | (simp [*]; done) | fail) (by first | rfl | assumption | (simp [*]; done) | fail) (by constructor)) rfl ?_ | refine aqs rfl (q_ld1N ag3 rfl (by constructor)) rfl ?_)
    all_goals (refine aqs rfl (q_geq rfl rfl) rfl ?_)
    all_goals (refine aqs rfl (q_mv (by constructor)) rfl ?_)
    all_goals try (refine acase (fun hb3 => ?_) (fun hb3 => ?_))
    all_goals first | (exfalso; cases hb3; done) | skip
    all_goals (first | refine ans rfl rfl ?_ | refine aqs rfl (q_fapP fl103_6 (by decide) rfl rfl) rfl ?_ | refine aqs rfl (q_faP fl103_6 (by decide) rfl (by first | ((repeat constructor); done) | exact .same _)) rfl ?_)
    all_goals (first | refine ans rfl rfl ?_ | refine aqs rfl (q_ldpN ag3 rfl (by repeat (first | exact .here | assumption | (apply HAt.left; assumption) | apply HAt.there | apply HAt.right)) (by first | rfl | assumption | (simp [*]; done) | fail) (by first | rfl | assumption | (simp [*]; done) | fail) (by constructor)) rfl ?_ | refine aqs rfl (q_ld1N ag3 rfl (by constructor)) rfl ?_)
    all_goals (first | refine ans rfl rfl ?_ | refine aqs rfl (q_fapP fl103_5 (by decide) rfl rfl) rfl ?_ | refine aqs rfl (q_faP fl103_5 (by decide) rfl (by first | ((repeat constructor); done) | exact .same _)) rfl ?_)
    all_goals (first | refine ans rfl rfl ?_ | refine aqs rfl (q_ldpN ag3 rfl (by repeat (first | exact .here | assumption | (apply HAt.left; assumption) | apply HAt.there | apply HAt.right)) (by first | rfl | assumption | (simp [*]; done) | fail) (by first | rfl | assumption | (simp [*]; done) | fail) (by constructor)) rfl ?_ | refine aqs rfl (q_ld1N ag3 rfl (by constructor)) rfl ?_)
    all_goals (first | refine ans rfl rfl ?_ | refine aqs rfl (q_lss rfl rfl) rfl ?_)
    all_goals (first | refine aqs rfl (q_pickT rfl (by constructor)) rfl ?_ | refine aqs rfl (q_pickF rfl (by constructor)) rfl ?_)
    all_goals (refine aqs rfl (q_as (by constructor)) rfl ?_)
    all_goals (refine alist_nil ?_)
    all_goals (exact ⟨rfl, .mk' (by repeat (first | exact trivial | refine ⟨rfl, ?_⟩ | (refine ⟨?_, ?_⟩; (· first | (rw [hb3]; rfl) | fail)))) (by repeat (first | exact .refl _ | exact List.nil_sublist _ | exact List.sublist_append_left _ _ | apply List.Sublist.cons))⟩)
  refine awp_ret ?_
  repeat first | with_reducible refine then_ret ?_ | with_reducible refine blk_ret ?_
  apply retq (.inr rfl) (.cons (rok_t rfl) .nil)
  rotate_left
  · exact ⟨rfl, rfl⟩
  repeat (first | exact List.Sublist.refl _ | exact List.nil_sublist _ | exact List.sublist_append_left _ _ | apply List.Sublist.cons)
set_option maxHeartbeats 400000 in
theorem before90_c (a b : Call) (H : Heap) : QCall Try.prog 90 [.agg a.cells, .agg b.cells] H (.lit (.bool (before a b))) := by
  refine acall_intro (n := 15) (rvs := [.tmp 4]) Try.func90 rfl rfl rfl (Nat.le_of_ble_eq_true rfl) ?_
  refine awp_seq ?_
  refine awp_region ?_
  (refine aes rfl (e_bx (by constructor) rfl rfl) rfl ?_; rintro _ _ ⟨u2, rfl, rfl⟩)
  (refine aes rfl (e_bx (by constructor) rfl rfl) rfl ?_; rintro _ _ ⟨u3, rfl, rfl⟩)
  refine aqs rfl (q_as (by constructor)) rfl ?_
  refine alist_nil ?_
  show AWP _ _ _ _
  refine awp_mid [(4, .lit (.bool (decide ((0 : Int) ≤ a.to) && decide (a.to < b.frm))))] ?_ ?_
  · skip
    refine awp_region ?_
    all_goals (first | refine aqs rfl (q_fapP fl103_6 (by decide) rfl rfl) rfl ?_ | refine aqs rfl (q_faP fl103_6 (by decide) rfl (by first | ((repeat constructor); done) | exact .same _)) rfl ?_)
    all_goals (first | refine aqs rfl (q_ldpN ag3 rfl (by repeat (first | exact .here | assumption | (apply HAt.left; assumption) | apply HAt.there | apply HAt.right)) (by first | rfl | assumption | (simp [*]; done) | fail) (by first | rfl | assumption | (simp [*]; done) | fail) (by constructor)) rfl ?_ | refine aqs rfl (q_ld1N ag3 rfl (by constructor)) rfl ?_)
    all_goals (refine aqs rfl (q_geq rfl rfl) rfl ?_)
    all_goals (refine aqs rfl (q_mv (by constructor)) rfl ?_)
    all_goals try (refine acase (fun hb3 => ?_) (fun hb3 => ?_))
    all_goals first | (exfalso; cases hb3; done) | skip
    all_goals (first | refine ans rfl rfl ?_ | refine aqs rfl (q_fapP fl103_6 (by decide) rfl rfl) rfl ?_ | refine aqs rfl (q_faP fl103_6 (by decide) rfl (by first | ((repeat constructor); done) | exact .same _)) rfl ?_)
    all_goals (first | refine ans rfl rfl ?_ | refine aqs rfl (q_ldpN ag3 rfl (by repeat (first | exact .here | assumption | (apply HAt.left; assumption) | apply HAt.there | apply HAt.right)) (by first | rfl | assumption | (simp [*]; done) | fail) (by first | rfl | assumption | (simp [*]; done) | fail) (by constructor)) rfl ?_ | refine aqs rfl (q_ld1N ag3 rfl (by constructor)) rfl ?_)
    all_goals (first | refine ans rfl rfl ?_ | refine aqs rfl (q_fapP fl103_5 (by decide) rfl rfl) rfl ?_ | refine aqs rfl (q_faP fl103_5 (by decide) rfl (by first | ((repeat constructor); done) | exact .same _)) rfl ?_)
    all_goals (first | refine ans rfl rfl ?_ | refine aqs rfl (q_ldpN ag3 rfl (by repeat (first | exact .here | assumption | (apply HAt.left; assumption) | apply HAt.there | apply HAt.right)) (by first | rfl | assumption | (simp [*]; done) | fail) (by first | rfl | assumption | (simp [*]; done) | fail) (by constructor)) rfl ?_ | refine aqs rfl (q_ld1N ag3 rfl (by constructor)) rfl ?_)
    all_goals (first | refine ans rfl rfl ?_ | refine aqs rfl (q_lss rfl rfl) rfl ?_)
    all_goals (first | refine aqs rfl (q_pickT rfl (by constructor)) rfl ?_ | refine aqs rfl (q_pickF rfl (by constructor)) rfl ?_)
    all_goals (refine aqs rfl (q_as (by constructor)) rfl ?_)
    all_goals (refine alist_nil ?_)
    all_goals (exact ⟨rfl, .mk' (by repeat (first | exact trivial | refine ⟨rfl, ?_⟩ | (refine ⟨?_, ?_⟩; (· first | (rw [hb3]; rfl) | fail)))) (by repeat (first | exact .refl _ | exact List.nil_sublist _ | exact List.sublist_append_left _ _ | apply List.Sublist.cons))⟩)
  refine awp_ret ?_
  repeat first | with_reducible refine then_ret ?_ | with_reducible refine blk_ret ?_
  apply retq (.inr rfl) (.cons (rok_t rfl) .nil)
  rotate_left
  · exact ⟨rfl, rfl⟩
  repeat (first | exact List.Sublist.refl _ | exact List.nil_sublist _ | exact List.sublist_append_left _ _ | apply List.Sublist.cons)
def mayC (x : Call) : Bool := (decide (0 ≤ x.frm) && decide (-1 ≤ x.to)) && (decide (x.to = -1) || decide (x.frm < x.to))
set_option maxHeartbeats 1000000 in
theorem may138_c (x : Call) (H : Heap) : QCall Try.prog 138 [.agg x.cells] H (.lit (.bool (mayC x))) := by
  refine acall_intro (n := 23) (rvs := [.tmp 2]) Try.func138 rfl rfl rfl (Nat.le_of_ble_eq_true rfl) ?_
  refine awp_seq ?_
  refine awp_region ?_
  (refine aes rfl (e_bx (by constructor) rfl rfl) rfl ?_; rintro _ _ ⟨u1, rfl, rfl⟩)
  refine aqs rfl (q_as (by constructor)) rfl ?_
  refine alist_nil ?_
  show AWP _ _ _ _
  refine awp_mid [(2, .lit (.bool ((decide ((0 : Int) ≤ x.frm) && decide ((-1 : Int) ≤ x.to)) && (decide (x.to = -1) || decide (x.frm < x.to)))))] ?_ ?_
  · skip
    refine awp_region ?_
    all_goals (first | refine aqs rfl (q_fapP fl103_5 (by decide) rfl rfl) rfl ?_ | refine aqs rfl (q_faP fl103_5 (by decide) rfl (by first | ((repeat constructor); done) | exact .same _)) rfl ?_)
    all_goals (first | refine aqs rfl (q_ldpN ag3 rfl (by repeat (first | exact .here | assumption | (apply HAt.left; assumption) | apply HAt.there | apply HAt.right)) (by first | rfl | assumption | (simp [*]; done) | fail) (by first | rfl | assumption | (simp [*]; done) | fail) (by constructor)) rfl ?_ | refine aqs rfl (q_ld1N ag3 rfl (by constructor)) rfl ?_)
    all_goals (refine aqs rfl (q_geq rfl rfl) rfl ?_)
    all_goals (refine aqs rfl (q_mv (by constructor)) rfl ?_)
    all_goals try (refine acase (fun hb3 => ?_) (fun hb3 => ?_))
    all_goals first | (exfalso; cases hb3; done) | skip
    all_goals (first | refine ans rfl rfl ?_ | refine aqs rfl (q_fapP fl103_6 (by decide) rfl rfl) rfl ?_ | refine aqs rfl (q_faP fl103_6 (by decide) rfl (by first | ((repeat constructor); done) | exact .same _)) rfl ?_)
    all_goals (first | refine ans rfl rfl ?_ | refine aqs rfl (q_ldpN ag3 rfl (by repeat (first | exact .here | assumption | (apply HAt.left; assumption) | apply HAt.there | apply HAt.right)) (by first | rfl | assumption | (simp [*]; done) | fail) (by first | rfl | assumption | (simp [*]; done) | fail) (by constructor)) rfl ?_ | refine aqs rfl (q_ld1N ag3 rfl (by constructor)) rfl ?_)
    all_goals (first | refine ans rfl rfl ?_ | refine aqs rfl (q_geq rfl rfl) rfl ?_)
    all_goals (first | refine aqs rfl (q_pickT rfl (by constructor)) rfl ?_ | refine aqs rfl (q_pickF rfl (by constructor)) rfl ?_)
    all_goals (refine aqs rfl (q_mv (by constructor)) rfl ?_)
    all_goals try (refine acase (fun hb8 => ?_) (fun hb8 => ?_))
    all_goals first | (exfalso; cases hb8; done) | skip
    all_goals (first | refine ans rfl rfl ?_ | refine aqs rfl (q_fapP fl103_6 (by decide) rfl rfl) rfl ?_ | refine aqs rfl (q_faP fl103_6 (by decide) rfl (by first | ((repeat constructor); done) | exact .same _)) rfl ?_)
    all_goals (first | refine ans rfl rfl ?_ | refine aqs rfl (q_ldpN ag3 rfl (by repeat (first | exact .here | assumption | (apply HAt.left; assumption) | apply HAt.there | apply HAt.right)) (by first | rfl | assumption | (simp [*]; done) | fail) (by first | rfl | assumption | (simp [*]; done) | fail) (by constructor)) rfl ?_ | refine aqs rfl (q_ld1N ag3 rfl (by constructor)) rfl ?_)
    all_goals (first | refine ans rfl rfl ?_ | refine aqs rfl (q_eql rfl rfl) rfl ?_)
    all_goals (first | refine ans rfl rfl ?_ | refine aqs rfl (q_mv (by constructor)) rfl ?_)
    all_goals try (refine acase (fun hb12 => ?_) (fun hb12 => ?_))
    all_goals first | (exfalso; cases hb12; done) | skip
    all_goals (first | refine ans rfl rfl ?_ | refine aqs rfl (q_fapP fl103_6 (by decide) rfl rfl) rfl ?_ | refine aqs rfl (q_faP fl103_6 (by decide) rfl (by first | ((repeat constructor); done) | exact .same _)) rfl ?_)
    all_goals (first | refine ans rfl rfl ?_ | refine aqs rfl (q_ldpN ag3 rfl (by repeat (first | exact .here | assumption | (apply HAt.left; assumption) | apply HAt.there | apply HAt.right)) (by first | rfl | assumption | (simp [*]; done) | fail) (by first | rfl | assumption | (simp [*]; done) | fail) (by constructor)) rfl ?_ | refine aqs rfl (q_ld1N ag3 rfl (by constructor)) rfl ?_)
    all_goals (first | refine ans rfl rfl ?_ | refine aqs rfl (q_fapP fl103_5 (by decide) rfl rfl) rfl ?_ | refine aqs rfl (q_faP fl103_5 (by decide) rfl (by first | ((repeat constructor); done) | exact .same _)) rfl ?_)
    all_goals (first | refine ans rfl rfl ?_ | refine aqs rfl (q_ldpN ag3 rfl (by repeat (first | exact .here | assumption | (apply HAt.left; assumption) | apply HAt.there | apply HAt.right)) (by first | rfl | assumption | (simp [*]; done) | fail) (by first | rfl | assumption | (simp [*]; done) | fail) (by constructor)) rfl ?_ | refine aqs rfl (q_ld1N ag3 rfl (by constructor)) rfl ?_)
    all_goals (first | refine ans rfl rfl ?_ | refine aqs rfl (q_gtr rfl rfl) rfl ?_)
    all_goals (first | refine ans rfl rfl ?_ | refine aqs rfl (q_pickT rfl (by constructor)) rfl ?_ | refine aqs rfl (q_pickF rfl (by constructor)) rfl ?_)
    all_goals (first | refine aqs rfl (q_pickT rfl (by constructor)) rfl ?_ | refine aqs rfl (q_pickF rfl (by constructor)) rfl ?_)
    all_goals (refine aqs rfl (q_as (by constructor)) rfl ?_)
    all_goals (refine alist_nil ?_)
    all_goals (exact ⟨rfl, .mk' (by repeat (first | exact trivial | refine ⟨rfl, ?_⟩ | (refine ⟨?_, ?_⟩; (· first | (rw [hb3, hb8, hb12]; rfl) | (rw [hb3, hb8]; rfl) | (rw [hb3]; rfl) | fail)))) (by repeat (first | exact .refl _ | exact List.nil_sublist _ | exact List.sublist_append_left _ _ | apply List.Sublist.cons))⟩)
  refine awp_ret ?_
  repeat first | with_reducible refine then_ret ?_ | with_reducible refine blk_ret ?_
  apply retq (.inr rfl) (.cons (rok_t rfl) .nil)
  rotate_left
  · exact ⟨rfl, rfl⟩
  repeat (first | exact List.Sublist.refl _ | exact List.nil_sublist _ | exact List.sublist_append_left _ _ | apply List.Sublist.cons)
set_option maxHeartbeats 1000000 in
theorem same82_c (a b : List Call) (ha : a.length ≤ 1000000) (hb : b.length ≤ 1000000) (H : Heap) : QCall Try.prog 82 [.ro (a.map Call.cells), .ro (b.map Call.cells)] H (.lit (.bool (decide (a = b)))) := by
  refine acall_intro (n := 26) (rvs := [.tmp 4]) Try.func82 rfl rfl rfl (Nat.le_of_ble_eq_true rfl) ?_
  refine awp_seq ?_
  refine awp_region ?_
  refine aqs rfl (q_as (by constructor)) rfl ?_
  refine alist_nil ?_
  show AWP _ _ _ _
  refine awp_seq ?_
  refine awp_seq ?_
  refine awp_region ?_
  refine aqs rfl (q_mv (by constructor)) rfl ?_
  first | refine aqs rfl (q_len Try.underlying90 .ro) rfl ?_ | refine aqs rfl (q_lenO Try.underlying90 rfl (by repeat (first | exact .here | assumption | (apply HAt.left; assumption) | apply HAt.there | apply HAt.right)) (by first | omega | (simp; done) | (simp; omega) | fail) (by first | exact Nat.sub_zero _ | rfl)) rfl ?_ | refine aqs rfl (q_len Try.underlying90 .nil) rfl ?_ | refine aqs rfl (q_len Try.underlying90 .cro) rfl ?_
  refine aqs rfl (q_mv (by constructor)) rfl ?_
  first | refine aqs rfl (q_len Try.underlying90 .ro) rfl ?_ | refine aqs rfl (q_lenO Try.underlying90 rfl (by repeat (first | exact .here | assumption | (apply HAt.left; assumption) | apply HAt.there | apply HAt.right)) (by first | omega | (simp; done) | (simp; omega) | fail) (by first | exact Nat.sub_zero _ | rfl)) rfl ?_ | refine aqs rfl (q_len Try.underlying90 .nil) rfl ?_ | refine aqs rfl (q_len Try.underlying90 .cro) rfl ?_
  refine aqs rfl (q_neq rfl rfl) rfl ?_
  refine alist_nil ?_
  show AWP _ _ _ _
  refine awp_cond rfl (fun hc0 => ?_) (fun hc0 => ?_)
  · simp only [List.length_map, decide_eq_true_eq, decide_not, Bool.not_eq_true', decide_eq_false_iff_not] at hc0
    have e : decide (a = b) = false := decide_eq_false fun e => hc0 (by rw [e])
    rw [e]
    refine awp_seq ?_
    refine awp_region ?_
    refine aqs rfl (q_as (by constructor)) rfl ?_
    refine alist_nil ?_
    show AWP _ _ _ _
    refine awp_ret ?_
    repeat first | with_reducible refine then_ret ?_ | with_reducible refine blk_ret ?_
    apply retq (.inr rfl) (.cons (rok_t rfl) .nil)
    rotate_left
    · exact ⟨rfl, rfl⟩
    repeat (first | exact List.Sublist.refl _ | exact List.nil_sublist _ | exact List.sublist_append_left _ _ | apply List.Sublist.cons)
  · have hl : a.length = b.length := by
      have : (a.length : Int) = b.length := by simpa using hc0
      omega
    refine awp_skip ?_
    show AWP _ _ _ _
    refine awp_seq ?_
    refine awp_seq ?_
    refine awp_region ?_
    refine aqs rfl (q_as (by constructor)) rfl ?_
    refine alist_nil ?_
    show AWP _ _ _ _
    refine awp_block ?_
    refine awp_loop_inv (fun i : Nat => ⟨[(5, .lit (.int .i64 i)), (0, .ro (a.map Call.cells)), (1, .ro (b.map Call.cells))], 26, H⟩) (fun i => i ≤ a.length ∧ ∀ (j : Nat), j < i → a[j]? = b[j]?) (fun i => a.length - i) 0 ?_ ?_ ?_
    · exact ⟨Nat.zero_le _, fun j h => absurd h (Nat.not_lt_zero _)⟩
    · exact .mk' (by repeat (first | exact trivial | refine ⟨rfl, ?_⟩)) (by repeat (first | exact .refl _ | apply List.Sublist.cons_cons | apply List.Sublist.cons))
    · intro i hi
      obtain ⟨hi, hall⟩ := hi
      refine awp_seq ?_
      refine awp_seq ?_
      refine awp_region ?_
      refine aqs rfl (q_mv (by constructor)) rfl ?_
      refine aqs rfl (q_mv (by constructor)) rfl ?_
      first | refine aqs rfl (q_len Try.underlying90 .ro) rfl ?_ | refine aqs rfl (q_lenO Try.underlying90 rfl (by repeat (first | exact .here | assumption | (apply HAt.left; assumption) | apply HAt.there | apply HAt.right)) (by first | omega | (simp; done) | (simp; omega) | fail) (by first | exact Nat.sub_zero _ | rfl)) rfl ?_ | refine aqs rfl (q_len Try.underlying90 .nil) rfl ?_ | refine aqs rfl (q_len Try.underlying90 .cro) rfl ?_
      refine aqs rfl (q_lss rfl rfl) rfl ?_
      refine alist_nil ?_
      show AWP _ _ _ _
      refine awp_cond rfl (fun hc1 => ?_) (fun hc1 => ?_)
      · simp only [decide_eq_true_eq, List.length_map] at hc1
        obtain ⟨s, hs, hsm⟩ := get_lt (l := a) (i := i) (by omega)
        have hs2 := get_map (f := Call.cells) hs
        obtain ⟨t, ht, htm⟩ := get_lt (l := b) (i := i) (by omega)
        have ht2 := get_map (f := Call.cells) ht
        refine awp_skip ?_
        show AWP _ _ _ _
        refine awp_seq ?_
        refine awp_block ?_
        refine awp_seq ?_
        refine awp_draw 9 [(0, false), (1, false), (2, false), (3, false), (4, false), (5, false), (6, false), (7, false), (8, false)] _ ([]) mixed (by kernel_rfl) (perm0 _) ?_
        refine glq rfl (.inl ⟨rfl, q_mv (by constructor)⟩) rfl ?_
        refine glq rfl (.inl ⟨rfl, q_mv (by constructor)⟩) rfl ?_
        first | refine glq rfl (.inl ⟨rfl, q_iaN Try.underlying90 sz103 (.inl rfl) rfl (by omega) (by first | rfl | assumption | (simp [*]; done) | fail) (by first | rfl | assumption | (simp [*]; done) | fail) (by decide) (by first | ((repeat constructor); done) | exact .same _)⟩) rfl ?_ | refine glq rfl (.inl ⟨rfl, q_iaS Try.underlying90 sz103 rfl (by repeat (first | exact .here | assumption | (apply HAt.left; assumption) | apply HAt.there | apply HAt.right)) rfl (by omega) (by omega) (by first | exact Nat.zero_add _ | rfl)⟩) rfl ?_ | refine glq rfl (.inl ⟨rfl, q_iaN Try.underlying90 sz103 (.inr rfl) rfl (by omega) (by first | rfl | assumption | (simp [*]; done) | fail) (by first | rfl | assumption | (simp [*]; done) | fail) (by decide) (by first | ((repeat constructor); done) | exact .same _)⟩) rfl ?_
        first | refine glq rfl (.inl ⟨rfl, q_ldpW ag103 sz103 rfl (by repeat (first | exact .here | assumption | (apply HAt.left; assumption) | apply HAt.there | apply HAt.right)) (by first | rfl | assumption | (simp [*]; done) | fail) (by first | rfl | assumption | (simp [*]; done) | fail) (by decide)⟩) rfl ?_ | refine glq rfl (.inl ⟨rfl, q_ldW ag103 sz103 rfl (by first | rfl | assumption | (simp [*]; done) | fail)⟩) rfl ?_ | refine glq rfl (.inl ⟨rfl, q_ldpP ag103 sz103 rfl (by repeat (first | exact .here | assumption | (apply HAt.left; assumption) | apply HAt.there | apply HAt.right)) (by first | rfl | assumption | (simp [*]; done) | fail) (by first | decide | (simp; done) | omega | fail) (by decide) (by first | ((repeat constructor); done) | exact .same _)⟩) rfl ?_ | refine glq rfl (.inl ⟨rfl, q_ldP ag103 sz103 rfl (by first | decide | (simp; done) | omega | fail) (by first | ((repeat constructor); done) | exact .same _)⟩) rfl ?_
        refine glq rfl (.inl ⟨rfl, q_mv (by constructor)⟩) rfl ?_
        refine glq rfl (.inl ⟨rfl, q_mv (by constructor)⟩) rfl ?_
        first | refine glq rfl (.inl ⟨rfl, q_iaN Try.underlying90 sz103 (.inl rfl) rfl (by omega) (by first | rfl | assumption | (simp [*]; done) | fail) (by first | rfl | assumption | (simp [*]; done) | fail) (by decide) (by first | ((repeat constructor); done) | exact .same _)⟩) rfl ?_ | refine glq rfl (.inl ⟨rfl, q_iaS Try.underlying90 sz103 rfl (by repeat (first | exact .here | assumption | (apply HAt.left; assumption) | apply HAt.there | apply HAt.right)) rfl (by omega) (by omega) (by first | exact Nat.zero_add _ | rfl)⟩) rfl ?_ | refine glq rfl (.inl ⟨rfl, q_iaN Try.underlying90 sz103 (.inr rfl) rfl (by omega) (by first | rfl | assumption | (simp [*]; done) | fail) (by first | rfl | assumption | (simp [*]; done) | fail) (by decide) (by first | ((repeat constructor); done) | exact .same _)⟩) rfl ?_
        first | refine glq rfl (.inl ⟨rfl, q_ldpW ag103 sz103 rfl (by repeat (first | exact .here | assumption | (apply HAt.left; assumption) | apply HAt.there | apply HAt.right)) (by first | rfl | assumption | (simp [*]; done) | fail) (by first | rfl | assumption | (simp [*]; done) | fail) (by decide)⟩) rfl ?_ | refine glq rfl (.inl ⟨rfl, q_ldW ag103 sz103 rfl (by first | rfl | assumption | (simp [*]; done) | fail)⟩) rfl ?_ | refine glq rfl (.inl ⟨rfl, q_ldpP ag103 sz103 rfl (by repeat (first | exact .here | assumption | (apply HAt.left; assumption) | apply HAt.there | apply HAt.right)) (by first | rfl | assumption | (simp [*]; done) | fail) (by first | decide | (simp; done) | omega | fail) (by decide) (by first | ((repeat constructor); done) | exact .same _)⟩) rfl ?_ | refine glq rfl (.inl ⟨rfl, q_ldP ag103 sz103 rfl (by first | decide | (simp; done) | omega | fail) (by first | ((repeat constructor); done) | exact .same _)⟩) rfl ?_
        refine glq rfl (.inl ⟨rfl, q_neqA gd103 rfl rfl (by repeat constructor) (by repeat constructor) (fun w => eq103 w)⟩) rfl ?_
        (first | refine gld0 ?_ | refine gldA ?_)
        refine alist_nil ?_
        show AWP _ _ _ _
        refine awp_cond rfl (fun hc2 => ?_) (fun hc2 => ?_)
        · have hst : ¬ s = t := by
            have := hc2
            rw [ceq] at this
            simpa using this
          have e : decide (a = b) = false := decide_eq_false fun e => hst (by rw [e, ht] at hs; injection hs with hs; exact hs.symm)
          rw [e]
          refine awp_seq ?_
          refine awp_region ?_
          refine aqs rfl (q_as (by constructor)) rfl ?_
          refine alist_nil ?_
          show AWP _ _ _ _
          refine awp_ret ?_
          repeat first | with_reducible refine then_ret ?_ | with_reducible refine blk_ret ?_
          apply retq (.inr rfl) (.cons (rok_t rfl) .nil)
          rotate_left
          · exact ⟨rfl, rfl⟩
          repeat (first | exact List.Sublist.refl _ | exact List.nil_sublist _ | exact List.sublist_append_left _ _ | apply List.Sublist.cons)
        · have hst : s = t := by
            have := hc2
            rw [ceq] at this
            simpa using this
          refine awp_skip ?_
          show AWP _ _ _ _
          refine awp_region ?_
          refine aqs rfl (q_mv (by constructor)) rfl ?_
          first | refine aqs rfl (q_add64 rfl rfl (by omega) (by omega)) rfl ?_ | refine aqs rfl (q_add rfl rfl) rfl ?_
          refine aqs rfl (q_as (by constructor)) rfl ?_
          refine alist_nil ?_
          show ∃ y, _ ∧ _ ∧ _
          refine ⟨i + 1, ⟨by omega, fun j hj => ?_⟩, by omega, .mk' ⟨by rfl, rfl, rfl, trivial⟩ (.refl _)⟩
          by_cases hji : j = i
          · subst hji
            rw [hs, ht, hst]
          · exact hall j (by omega)
      · simp only [decide_eq_false_iff_not, List.length_map] at hc1
        have e : decide (a = b) = true := decide_eq_true (List.ext_getElem? fun j => by
          by_cases hj : j < i
          · exact hall j hj
          · rw [List.getElem?_eq_none (by omega), List.getElem?_eq_none (by omega)])
        rw [e]
        refine awp_exit ?_
        show AWP _ _ _ _
        refine awp_seq ?_
        refine awp_region ?_
        refine aqs rfl (q_as (by constructor)) rfl ?_
        refine alist_nil ?_
        show AWP _ _ _ _
        refine awp_ret ?_
        repeat first | with_reducible refine then_ret ?_ | with_reducible refine blk_ret ?_
        apply retq (.inr rfl) (.cons (rok_t rfl) .nil)
        rotate_left
        · exact ⟨rfl, rfl⟩
        repeat (first | exact List.Sublist.refl _ | exact List.nil_sublist _ | exact List.sublist_append_left _ _ | apply List.Sublist.cons)
set_option maxHeartbeats 1000000 in
theorem in179_c (o : List Nat) (n : Nat) (ho : o.length ≤ 1000000) (H : Heap) : QCall Try.prog 179 [.ro (o.map cN), .lit (.int .i64 n)] H (.lit (.bool (decide (n ∈ o)))) := by
  refine acall_intro (n := 18) (rvs := [.tmp 4]) Try.func179 rfl rfl rfl (Nat.le_of_ble_eq_true rfl) ?_
  refine awp_seq ?_
  refine awp_region ?_
  refine aqs rfl (q_as (by constructor)) rfl ?_
  refine alist_nil ?_
  show AWP _ _ _ _
  refine awp_seq ?_
  refine awp_seq ?_
  refine awp_region ?_
  refine aqs rfl (q_as (by constructor)) rfl ?_
  refine alist_nil ?_
  show AWP _ _ _ _
  refine awp_block ?_
  refine awp_loop_inv (fun i : Nat => ⟨[(5, .lit (.int .i64 i)), (0, .ro (o.map cN)), (1, .lit (.int .i64 n))], 18, H⟩) (fun i => i ≤ o.length ∧ n ∉ o.take i) (fun i => o.length - i) 0 ?_ ?_ ?_
  · exact ⟨Nat.zero_le _, by simp⟩
  · exact .mk' (by repeat (first | exact trivial | refine ⟨rfl, ?_⟩)) (by repeat (first | exact .refl _ | apply List.Sublist.cons_cons | apply List.Sublist.cons))
  · rintro i ⟨hi, hall⟩
    refine awp_seq ?_
    refine awp_seq ?_
    refine awp_region ?_
    refine aqs rfl (q_mv (by constructor)) rfl ?_
    refine aqs rfl (q_mv (by constructor)) rfl ?_
    first | refine aqs rfl (q_len Try.underlying25 .ro) rfl ?_ | refine aqs rfl (q_lenO Try.underlying25 rfl (by repeat (first | exact .here | assumption | (apply HAt.left; assumption) | apply HAt.there | apply HAt.right)) (by first | omega | (simp; done) | (simp; omega) | fail) (by first | exact Nat.sub_zero _ | rfl)) rfl ?_ | refine aqs rfl (q_len Try.underlying25 .nil) rfl ?_ | refine aqs rfl (q_len Try.underlying25 .cro) rfl ?_
    refine aqs rfl (q_lss rfl rfl) rfl ?_
    refine alist_nil ?_
    show AWP _ _ _ _
    refine awp_cond rfl (fun hc0 => ?_) (fun hc0 => ?_)
    · simp only [decide_eq_true_eq, List.length_map] at hc0
      obtain ⟨s, hs, hsm⟩ := get_lt (l := o) (i := i) (by omega)
      have hs2 : (o.map cN)[i]? = some [.lit (.int .i64 (s : Nat))] := get_map (f := cN) hs
      refine awp_skip ?_
      show AWP _ _ _ _
      refine awp_seq ?_
      refine awp_block ?_
      refine awp_seq ?_
      refine awp_region ?_
      refine aqs rfl (q_mv (by constructor)) rfl ?_
      refine aqs rfl (q_mv (by constructor)) rfl ?_
      first | refine aqs rfl (q_iaN Try.underlying25 sz3 (.inl rfl) rfl (by omega) (by first | rfl | assumption | (simp [*]; done) | fail) (by first | rfl | assumption | (simp [*]; done) | fail) (by decide) (by first | ((repeat constructor); done) | exact .same _)) rfl ?_ | refine aqs rfl (q_iaS Try.underlying25 sz3 rfl (by repeat (first | exact .here | assumption | (apply HAt.left; assumption) | apply HAt.there | apply HAt.right)) rfl (by omega) (by omega) (by first | exact Nat.zero_add _ | rfl)) rfl ?_ | refine aqs rfl (q_iaN Try.underlying25 sz3 (.inr rfl) rfl (by omega) (by first | rfl | assumption | (simp [*]; done) | fail) (by first | rfl | assumption | (simp [*]; done) | fail) (by decide) (by first | ((repeat constructor); done) | exact .same _)) rfl ?_
      first | refine aqs rfl (q_ldpN ag3 rfl (by repeat (first | exact .here | assumption | (apply HAt.left; assumption) | apply HAt.there | apply HAt.right)) (by first | rfl | assumption | (simp [*]; done) | fail) (by first | rfl | assumption | (simp [*]; done) | fail) (by constructor)) rfl ?_ | refine aqs rfl (q_ld1N ag3 rfl (by constructor)) rfl ?_
      refine aqs rfl (q_mv (by constructor)) rfl ?_
      refine aqs rfl (q_eql rfl rfl) rfl ?_
      refine alist_nil ?_
      show AWP _ _ _ _
      refine awp_cond rfl (fun hc1 => ?_) (fun hc1 => ?_)
      · have hsn : s = n := by
          have : (s : Int) = n := by simpa using hc1
          omega
        have e : decide (n ∈ o) = true := decide_eq_true (hsn ▸ hsm)
        rw [e]
        refine awp_seq ?_
        refine awp_region ?_
        refine aqs rfl (q_as (by constructor)) rfl ?_
        refine alist_nil ?_
        show AWP _ _ _ _
        refine awp_ret ?_
        repeat first | with_reducible refine then_ret ?_ | with_reducible refine blk_ret ?_
        apply retq (.inr rfl) (.cons (rok_t rfl) .nil)
        rotate_left
        · exact ⟨rfl, rfl⟩
        repeat (first | exact List.Sublist.refl _ | exact List.nil_sublist _ | exact List.sublist_append_left _ _ | apply List.Sublist.cons)
      · have hsn : ¬ s = n := fun e => by subst e; simp at hc1
        refine awp_skip ?_
        show AWP _ _ _ _
        refine awp_region ?_
        refine aqs rfl (q_mv (by constructor)) rfl ?_
        first | refine aqs rfl (q_add64 rfl rfl (by omega) (by omega)) rfl ?_ | refine aqs rfl (q_add rfl rfl) rfl ?_
        refine aqs rfl (q_as (by constructor)) rfl ?_
        refine alist_nil ?_
        show ∃ y, _ ∧ _ ∧ _
        refine ⟨i + 1, ⟨by omega, ?_⟩, by omega, .mk' ⟨by rfl, rfl, rfl, trivial⟩ (.refl _)⟩
        rw [take_next hs, List.mem_append]
        rintro (h | h)
        · exact hall h
        · simp at h; exact hsn h.symm
    · simp only [decide_eq_false_iff_not, List.length_map] at hc0
      have hin : i = o.length := by omega
      subst hin
      rw [List.take_length] at hall
      have e : decide (n ∈ o) = false := decide_eq_false hall
      rw [e]
      refine awp_exit ?_
      show AWP _ _ _ _
      refine awp_seq ?_
      refine awp_region ?_
      refine aqs rfl (q_as (by constructor)) rfl ?_
      refine alist_nil ?_
      show AWP _ _ _ _
      refine awp_ret ?_
      repeat first | with_reducible refine then_ret ?_ | with_reducible refine blk_ret ?_
      apply retq (.inr rfl) (.cons (rok_t rfl) .nil)
      rotate_left
      · exact ⟨rfl, rfl⟩
      repeat (first | exact List.Sublist.refl _ | exact List.nil_sublist _ | exact List.sublist_append_left _ _ | apply List.Sublist.cons)
theorem all_no {n : Nat} {f : Nat → Bool} {i : Nat} (hi : i < n) (h : f i = false) : (List.range n).all f = false := by
  rw [Bool.eq_false_iff]
  intro ha
  have := List.all_eq_true.1 ha i (List.mem_range.2 hi)
  rw [h] at this; cases this
theorem all_yes {n : Nat} {f : Nat → Bool} (h : ∀ j, j < n → f j = true) : (List.range n).all f = true := List.all_eq_true.2 fun j hj => h j (List.mem_range.1 hj)
theorem upto {p : Nat → Prop} {i : Nat} (h : ∀ j, j < i → p j) (hi : p i) : ∀ j, j < i + 1 → p j := fun j hj => by
  by_cases e : j = i
  · subst e; exact hi
  · exact h j (by omega)
set_option maxHeartbeats 1000000 in
theorem whole172_c (c : List Call) (o : List Nat) (hc : c.length ≤ 1000000) (ho : o.length ≤ 1000000) (H : Heap) : QCall Try.prog 172 [.ro (c.map Call.cells), .ro (o.map cN)] H (.lit (.bool (wholeB c o))) := by
  refine acall_intro (n := 24) (rvs := [.tmp 4]) Try.func172 rfl rfl rfl (Nat.le_of_ble_eq_true rfl) ?_
  refine awp_seq ?_
  refine awp_region ?_
  refine aqs rfl (q_as (by constructor)) rfl ?_
  refine alist_nil ?_
  show AWP _ _ _ _
  refine awp_seq ?_
  refine awp_seq ?_
  refine awp_region ?_
  refine aqs rfl (q_as (by constructor)) rfl ?_
  refine alist_nil ?_
  show AWP _ _ _ _
  refine awp_block ?_
  refine awp_loop_inv (fun i : Nat => ⟨[(5, .lit (.int .i64 i)), (0, .ro (c.map Call.cells)), (1, .ro (o.map cN))], 24, H⟩) (fun i => i ≤ c.length ∧ ∀ j, j < i → (decide ((nth c j).to < 0) || decide (j ∈ o)) = true) (fun i => c.length - i) 0 ?_ ?_ ?_
  · exact ⟨Nat.zero_le _, fun j h => absurd h (Nat.not_lt_zero _)⟩
  · exact .mk' (by repeat (first | exact trivial | refine ⟨rfl, ?_⟩)) (by repeat (first | exact .refl _ | apply List.Sublist.cons_cons | apply List.Sublist.cons))
  · rintro i ⟨hi, hall⟩
    refine awp_seq ?_
    refine awp_seq ?_
    refine awp_region ?_
    refine aqs rfl (q_mv (by constructor)) rfl ?_
    refine aqs rfl (q_mv (by constructor)) rfl ?_
    first | refine aqs rfl (q_len Try.underlying90 .ro) rfl ?_ | refine aqs rfl (q_lenO Try.underlying90 rfl (by repeat (first | exact .here | assumption | (apply HAt.left; assumption) | apply HAt.there | apply HAt.right)) (by first | omega | (simp; done) | (simp; omega) | fail) (by first | exact Nat.sub_zero _ | rfl)) rfl ?_ | refine aqs rfl (q_len Try.underlying90 .nil) rfl ?_ | refine aqs rfl (q_len Try.underlying90 .cro) rfl ?_
    refine aqs rfl (q_lss rfl rfl) rfl ?_
    refine alist_nil ?_
    show AWP _ _ _ _
    refine awp_cond rfl (fun hc0 => ?_) (fun hc0 => ?_)
    · simp only [decide_eq_true_eq, List.length_map] at hc0
      have hs2 := get_map (f := Call.cells) (nth_get (c := c) (i := i) (by omega))
      refine awp_skip ?_
      show AWP _ _ _ _
      refine awp_seq ?_
      refine awp_block ?_
      refine awp_mid [(23, .lit (.bool (decide ((0 : Int) ≤ (nth c i).to) && !decide (i ∈ o)))), (5, .lit (.int .i64 i)), (0, .ro (c.map Call.cells)), (1, .ro (o.map cN))] ?_ ?_
      · skip
        refine awp_region ?_
        all_goals (refine aqs rfl (q_mv (by constructor)) rfl ?_)
        all_goals (refine aqs rfl (q_mv (by constructor)) rfl ?_)
        all_goals (first | refine aqs rfl (q_iaN Try.underlying90 sz103 (.inl rfl) rfl (by omega) (by first | rfl | assumption | (simp [*]; done) | fail) (by first | rfl | assumption | (simp [*]; done) | fail) (by decide) (by first | ((repeat constructor); done) | exact .same _)) rfl ?_ | refine aqs rfl (q_iaS Try.underlying90 sz103 rfl (by repeat (first | exact .here | assumption | (apply HAt.left; assumption) | apply HAt.there | apply HAt.right)) rfl (by omega) (by omega) (by first | exact Nat.zero_add _ | rfl)) rfl ?_ | refine aqs rfl (q_iaN Try.underlying90 sz103 (.inr rfl) rfl (by omega) (by first | rfl | assumption | (simp [*]; done) | fail) (by first | rfl | assumption | (simp [*]; done) | fail) (by decide) (by first | ((repeat constructor); done) | exact .same _)) rfl ?_)
        all_goals (first | refine aqs rfl (q_fapP fl103_6 (by decide) rfl rfl) rfl ?_ | refine aqs rfl (q_faP fl103_6 (by decide) rfl (by first | ((repeat constructor); done) | exact .same _)) rfl ?_)
        all_goals (first | refine aqs rfl (q_ldpN ag3 rfl (by repeat (first | exact .here | assumption | (apply HAt.left; assumption) | apply HAt.there | apply HAt.right)) (by first | rfl | assumption | (simp [*]; done) | fail) (by first | rfl | assumption | (simp [*]; done) | fail) (by constructor)) rfl ?_ | refine aqs rfl (q_ld1N ag3 rfl (by constructor)) rfl ?_)
        all_goals (refine aqs rfl (q_geq rfl rfl) rfl ?_)
        all_goals (refine aqs rfl (q_mv (by constructor)) rfl ?_)
        all_goals try (refine acase (fun hb6 => ?_) (fun hb6 => ?_))
        all_goals first | (exfalso; cases hb6; done) | skip
        all_goals (first | refine ans rfl rfl ?_ | refine aqs rfl (q_mv (by constructor)) rfl ?_)
        all_goals (first | refine ans rfl rfl ?_ | refine aqs rfl (q_mv (by constructor)) rfl ?_)
        all_goals (first | refine ans rfl rfl ?_ | refine aqs rfl (e_callN cb179 (in179_c o i ho _) rfl rfl) rfl ?_ | refine aqs rfl (e_callN cb179 (ACall.arg (in179_c o i ho _) (by repeat (first | exact ArgL.nil | (apply ArgL.cons; (· first | exact .same | exact .cro | exact .nil))))) rfl rfl) rfl ?_)
        all_goals (first | refine ans rfl rfl ?_ | refine aqs rfl (q_not rfl) rfl ?_)
        all_goals (first | refine aqs rfl (q_pickT rfl (by constructor)) rfl ?_ | refine aqs rfl (q_pickF rfl (by constructor)) rfl ?_)
        all_goals (refine alist_nil ?_)
        all_goals (exact ⟨rfl, .mk' (by repeat (first | exact trivial | refine ⟨rfl, ?_⟩ | (refine ⟨?_, ?_⟩; (· first | (rw [hb6]; rfl) | fail)))) (by repeat (first | exact .refl _ | exact List.nil_sublist _ | exact List.sublist_append_left _ _ | apply List.Sublist.cons))⟩)
      refine awp_cond rfl (fun hc1 => ?_) (fun hc1 => ?_)
      · have e : wholeB c o = false := all_no (i := i) (by omega) (by
          simp only [Bool.and_eq_true, decide_eq_true_eq, Bool.not_eq_true', decide_eq_false_iff_not] at hc1
          simp [hc1.2]; omega)
        rw [e]
        refine awp_seq ?_
        refine awp_region ?_
        refine aqs rfl (q_as (by constructor)) rfl ?_
        refine alist_nil ?_
        show AWP _ _ _ _
        refine awp_ret ?_
        repeat first | with_reducible refine then_ret ?_ | with_reducible refine blk_ret ?_
        apply retq (.inr rfl) (.cons (rok_t rfl) .nil)
        rotate_left
        · exact ⟨rfl, rfl⟩
        repeat (first | exact List.Sublist.refl _ | exact List.nil_sublist _ | exact List.sublist_append_left _ _ | apply List.Sublist.cons)
      · have hok : (decide ((nth c i).to < 0) || decide (i ∈ o)) = true := by
          simp only [Bool.and_eq_false_iff, decide_eq_false_iff_not, Bool.not_eq_false', decide_eq_true_eq] at hc1
          simp only [Bool.or_eq_true, decide_eq_true_eq]
          rcases hc1 with h | h
          · exact .inl (by omega)
          · exact .inr h
        refine awp_skip ?_
        show AWP _ _ _ _
        refine awp_region ?_
        refine aqs rfl (q_mv (by constructor)) rfl ?_
        first | refine aqs rfl (q_add64 rfl rfl (by omega) (by omega)) rfl ?_ | refine aqs rfl (q_add rfl rfl) rfl ?_
        refine aqs rfl (q_as (by constructor)) rfl ?_
        refine alist_nil ?_
        show ∃ y, _ ∧ _ ∧ _
        exact ⟨i + 1, ⟨by omega, upto hall hok⟩, by omega, .mk' ⟨by rfl, rfl, rfl, trivial⟩ (.refl _)⟩
    · simp only [decide_eq_false_iff_not, List.length_map] at hc0
      have e : wholeB c o = true := all_yes fun j hj => hall j (by omega)
      rw [e]
      refine awp_exit ?_
      show AWP _ _ _ _
      refine awp_seq ?_
      refine awp_region ?_
      refine aqs rfl (q_as (by constructor)) rfl ?_
      refine alist_nil ?_
      show AWP _ _ _ _
      refine awp_ret ?_
      repeat first | with_reducible refine then_ret ?_ | with_reducible refine blk_ret ?_
      apply retq (.inr rfl) (.cons (rok_t rfl) .nil)
      rotate_left
      · exact ⟨rfl, rfl⟩
      repeat (first | exact List.Sublist.refl _ | exact List.nil_sublist _ | exact List.sublist_append_left _ _ | apply List.Sublist.cons)
set_option maxHeartbeats 2000000 in
theorem may173_c (c : List Call) (o : List Nat) (i : Nat) (hi : i < c.length) (hc : c.length ≤ 1000000) (ho : o.length ≤ 1000000) (H : Heap) : QCall Try.prog 173 [.ro (c.map Call.cells), .ro (o.map cN), .lit (.int .i64 i)] H (.lit (.bool (mayB c o i))) := by
  have hs2 := get_map (f := Call.cells) (nth_get hi)
  refine acall_intro (n := 48) (rvs := [.tmp 6]) Try.func173 rfl rfl rfl (Nat.le_of_ble_eq_true rfl) ?_
  refine awp_seq ?_
  refine awp_region ?_
  refine aqs rfl (q_as (by constructor)) rfl ?_
  refine alist_nil ?_
  show AWP _ _ _ _
  refine awp_seq ?_
  refine awp_mid [(26, .lit (.bool (decide (i ∈ o) || (decide ((nth c i).to < 0) && !(nth c i).put)))), (0, .ro (c.map Call.cells)), (1, .ro (o.map cN)), (2, .lit (.int .i64 i))] ?_ ?_
  · skip
    refine awp_region ?_
    all_goals (refine aqs rfl (q_mv (by constructor)) rfl ?_)
    all_goals (refine aqs rfl (q_mv (by constructor)) rfl ?_)
    all_goals (first | refine aqs rfl (e_callN cb179 (in179_c o i ho _) rfl rfl) rfl ?_ | refine aqs rfl (e_callN cb179 (ACall.arg (in179_c o i ho _) (by repeat (first | exact ArgL.nil | (apply ArgL.cons; (· first | exact .same | exact .cro | exact .nil))))) rfl rfl) rfl ?_)
    all_goals (refine aqs rfl (q_mv (by constructor)) rfl ?_)
    all_goals try (refine acase (fun hb3 => ?_) (fun hb3 => ?_))
    all_goals first | (exfalso; cases hb3; done) | skip
    all_goals (first | refine ans rfl rfl ?_ | refine aqs rfl (q_mv (by constructor)) rfl ?_)
    all_goals (first | refine ans rfl rfl ?_ | refine aqs rfl (q_mv (by constructor)) rfl ?_)
    all_goals (first | refine ans rfl rfl ?_ | refine aqs rfl (q_iaN Try.underlying90 sz103 (.inl rfl) rfl (by omega) (by first | rfl | assumption | (simp [*]; done) | fail) (by first | rfl | assumption | (simp [*]; done) | fail) (by decide) (by first | ((repeat constructor); done) | exact .same _)) rfl ?_ | refine aqs rfl (q_iaS Try.underlying90 sz103 rfl (by repeat (first | exact .here | assumption | (apply HAt.left; assumption) | apply HAt.there | apply HAt.right)) rfl (by omega) (by omega) (by first | exact Nat.zero_add _ | rfl)) rfl ?_ | refine aqs rfl (q_iaN Try.underlying90 sz103 (.inr rfl) rfl (by omega) (by first | rfl | assumption | (simp [*]; done) | fail) (by first | rfl | assumption | (simp [*]; done) | fail) (by decide) (by first | ((repeat constructor); done) | exact .same _)) rfl ?_)
    all_goals (first | refine ans rfl rfl ?_ | refine aqs rfl (q_fapP fl103_6 (by decide) rfl rfl) rfl ?_ | refine aqs rfl (q_faP fl103_6 (by decide) rfl (by first | ((repeat constructor); done) | exact .same _)) rfl ?_)
    all_goals (first | refine ans rfl rfl ?_ | refine aqs rfl (q_ldpN ag3 rfl (by repeat (first | exact .here | assumption | (apply HAt.left; assumption) | apply HAt.there | apply HAt.right)) (by first | rfl | assumption | (simp [*]; done) | fail) (by first | rfl | assumption | (simp [*]; done) | fail) (by constructor)) rfl ?_ | refine aqs rfl (q_ld1N ag3 rfl (by constructor)) rfl ?_)
    all_goals (first | refine ans rfl rfl ?_ | refine aqs rfl (q_lss rfl rfl) rfl ?_)
    all_goals (first | refine ans rfl rfl ?_ | refine aqs rfl (q_mv (by constructor)) rfl ?_)
    all_goals try (refine acase (fun hb10 => ?_) (fun hb10 => ?_))
    all_goals first | (exfalso; cases hb10; done) | skip
    all_goals (first | refine ans rfl rfl ?_ | refine aqs rfl (q_mv (by constructor)) rfl ?_)
    all_goals (first | refine ans rfl rfl ?_ | refine aqs rfl (q_mv (by constructor)) rfl ?_)
    all_goals (first | refine ans rfl rfl ?_ | refine aqs rfl (q_iaN Try.underlying90 sz103 (.inl rfl) rfl (by omega) (by first | rfl | assumption | (simp [*]; done) | fail) (by first | rfl | assumption | (simp [*]; done) | fail) (by decide) (by first | ((repeat constructor); done) | exact .same _)) rfl ?_ | refine aqs rfl (q_iaS Try.underlying90 sz103 rfl (by repeat (first | exact .here | assumption | (apply HAt.left; assumption) | apply HAt.there | apply HAt.right)) rfl (by omega) (by omega) (by first | exact Nat.zero_add _ | rfl)) rfl ?_ | refine aqs rfl (q_iaN Try.underlying90 sz103 (.inr rfl) rfl (by omega) (by first | rfl | assumption | (simp [*]; done) | fail) (by first | rfl | assumption | (simp [*]; done) | fail) (by decide) (by first | ((repeat constructor); done) | exact .same _)) rfl ?_)
    all_goals (first | refine ans rfl rfl ?_ | refine aqs rfl (q_fapP fl103_0 (by decide) rfl rfl) rfl ?_ | refine aqs rfl (q_faP fl103_0 (by decide) rfl (by first | ((repeat constructor); done) | exact .same _)) rfl ?_)
    all_goals (first | refine ans rfl rfl ?_ | refine aqs rfl (q_ldpN ag4 rfl (by repeat (first | exact .here | assumption | (apply HAt.left; assumption) | apply HAt.there | apply HAt.right)) (by first | rfl | assumption | (simp [*]; done) | fail) (by first | rfl | assumption | (simp [*]; done) | fail) (by constructor)) rfl ?_ | refine aqs rfl (q_ld1N ag4 rfl (by constructor)) rfl ?_)
    all_goals (first | refine ans rfl rfl ?_ | refine aqs rfl (q_not rfl) rfl ?_)
    all_goals (first | refine ans rfl rfl ?_ | refine aqs rfl (q_pickT rfl (by constructor)) rfl ?_ | refine aqs rfl (q_pickF rfl (by constructor)) rfl ?_)
    all_goals (first | refine aqs rfl (q_pickT rfl (by constructor)) rfl ?_ | refine aqs rfl (q_pickF rfl (by constructor)) rfl ?_)
    all_goals (refine alist_nil ?_)
    all_goals (exact ⟨rfl, .mk' (by repeat (first | exact trivial | refine ⟨rfl, ?_⟩ | (refine ⟨?_, ?_⟩; (· first | (rw [hb3, hb10]; rfl) | (rw [hb3]; rfl) | fail)))) (by repeat (first | exact .refl _ | exact List.nil_sublist _ | exact List.sublist_append_left _ _ | apply List.Sublist.cons))⟩)
  refine awp_cond rfl (fun hc0 => ?_) (fun hc0 => ?_)
  · have e : mayB c o i = false := by
      unfold mayB
      cases h1 : decide (i ∈ o) with
      | true => rfl
      | false =>
        rw [h1, Bool.false_or] at hc0
        rw [hc0]; rfl
    rw [e]
    refine awp_seq ?_
    refine awp_region ?_
    refine aqs rfl (q_as (by constructor)) rfl ?_
    refine alist_nil ?_
    show AWP _ _ _ _
    refine awp_ret ?_
    repeat first | with_reducible refine then_ret ?_ | with_reducible refine blk_ret ?_
    apply retq (.inr rfl) (.cons (rok_t rfl) .nil)
    rotate_left
    · exact ⟨rfl, rfl⟩
    repeat (first | exact List.Sublist.refl _ | exact List.nil_sublist _ | exact List.sublist_append_left _ _ | apply List.Sublist.cons)
  · have e : mayB c o i = freeB c o i := by
      unfold mayB
      rw [Bool.or_eq_false_iff] at hc0
      rw [hc0.1, hc0.2]; rfl
    rw [e]
    refine awp_skip ?_
    show AWP _ _ _ _
    refine awp_seq ?_
    refine awp_seq ?_
    refine awp_region ?_
    refine aqs rfl (q_as (by constructor)) rfl ?_
    refine alist_nil ?_
    show AWP _ _ _ _
    refine awp_block ?_
    refine awp_loop_inv (fun k : Nat => ⟨[(7, .lit (.int .i64 k)), (0, .ro (c.map Call.cells)), (1, .ro (o.map cN)), (2, .lit (.int .i64 i))], 48, H⟩) (fun k => k ≤ c.length ∧ ∀ j, j < k → (decide (j ∈ o) || !before (nth c j) (nth c i)) = true) (fun k => c.length - k) 0 ?_ ?_ ?_
    · exact ⟨Nat.zero_le _, fun j h => absurd h (Nat.not_lt_zero _)⟩
    · exact .mk' (by repeat (first | exact trivial | refine ⟨rfl, ?_⟩)) (by repeat (first | exact .refl _ | apply List.Sublist.cons_cons | apply List.Sublist.cons))
    · rintro k ⟨hk, hall⟩
      refine awp_seq ?_
      refine awp_seq ?_
      refine awp_region ?_
      refine aqs rfl (q_mv (by constructor)) rfl ?_
      refine aqs rfl (q_mv (by constructor)) rfl ?_
      first | refine aqs rfl (q_len Try.underlying90 .ro) rfl ?_ | refine aqs rfl (q_lenO Try.underlying90 rfl (by repeat (first | exact .here | assumption | (apply HAt.left; assumption) | apply HAt.there | apply HAt.right)) (by first | omega | (simp; done) | (simp; omega) | fail) (by first | exact Nat.sub_zero _ | rfl)) rfl ?_ | refine aqs rfl (q_len Try.underlying90 .nil) rfl ?_ | refine aqs rfl (q_len Try.underlying90 .cro) rfl ?_
      refine aqs rfl (q_lss rfl rfl) rfl ?_
      refine alist_nil ?_
      show AWP _ _ _ _
      refine awp_cond rfl (fun hc1 => ?_) (fun hc1 => ?_)
      · simp only [decide_eq_true_eq, List.length_map] at hc1
        have hk2 := get_map (f := Call.cells) (nth_get (c := c) (i := k) (by omega))
        refine awp_skip ?_
        show AWP _ _ _ _
        refine awp_seq ?_
        refine awp_block ?_
        refine awp_mid [(47, .lit (.bool (!decide (k ∈ o) && before (nth c k) (nth c i)))), (7, .lit (.int .i64 k)), (0, .ro (c.map Call.cells)), (1, .ro (o.map cN)), (2, .lit (.int .i64 i))] ?_ ?_
        · skip
          refine awp_draw 15 [(0, false), (1, false), (2, false), (3, false), (4, false), (5, false), (6, false), (7, false), (8, false), (9, false), (10, false), (11, false), (12, false), (13, false), (14, false)] _ ([]) mixed (by kernel_rfl) (perm0 _) ?_
          all_goals (refine glq rfl (.inl ⟨rfl, q_mv (by constructor)⟩) rfl ?_)
          all_goals (refine glq rfl (.inl ⟨rfl, q_mv (by constructor)⟩) rfl ?_)
          all_goals (first | refine glq rfl (.inl ⟨rfl, e_callN cb179 (in179_c o k ho _) rfl rfl⟩) rfl ?_ | refine glq rfl (.inl ⟨rfl, e_callN cb179 (ACall.arg (in179_c o k ho _) (by repeat (first | exact ArgL.nil | (apply ArgL.cons; (· first | exact .same | exact .cro | exact .nil))))) rfl rfl⟩) rfl ?_)
          all_goals (refine glq rfl (.inl ⟨rfl, q_not rfl⟩) rfl ?_)
          all_goals (refine glq rfl (.inl ⟨rfl, q_mv (by constructor)⟩) rfl ?_)
          all_goals try (refine gcase (fun hb4 => ?_) (fun hb4 => ?_))
          all_goals first | (exfalso; cases hb4; done) | skip
          all_goals (first | refine glq rfl (.inl ⟨rfl, q_mv (by constructor)⟩) rfl ?_ | refine glq rfl (.inr ⟨rfl, rfl⟩) rfl ?_)
          all_goals (first | refine glq rfl (.inl ⟨rfl, q_mv (by constructor)⟩) rfl ?_ | refine glq rfl (.inr ⟨rfl, rfl⟩) rfl ?_)
          all_goals (first | refine glq rfl (.inl ⟨rfl, q_iaN Try.underlying90 sz103 (.inl rfl) rfl (by omega) (by first | rfl | assumption | (simp [*]; done) | fail) (by first | rfl | assumption | (simp [*]; done) | fail) (by decide) (by first | ((repeat constructor); done) | exact .same _)⟩) rfl ?_ | refine glq rfl (.inl ⟨rfl, q_iaS Try.underlying90 sz103 rfl (by repeat (first | exact .here | assumption | (apply HAt.left; assumption) | apply HAt.there | apply HAt.right)) rfl (by omega) (by omega) (by first | exact Nat.zero_add _ | rfl)⟩) rfl ?_ | refine glq rfl (.inl ⟨rfl, q_iaN Try.underlying90 sz103 (.inr rfl) rfl (by omega) (by first | rfl | assumption | (simp [*]; done) | fail) (by first | rfl | assumption | (simp [*]; done) | fail) (by decide) (by first | ((repeat constructor); done) | exact .same _)⟩) rfl ?_ | refine glq rfl (.inr ⟨rfl, rfl⟩) rfl ?_)
          all_goals (first | refine glq rfl (.inl ⟨rfl, q_ldpW ag103 sz103 rfl (by repeat (first | exact .here | assumption | (apply HAt.left; assumption) | apply HAt.there | apply HAt.right)) (by first | rfl | assumption | (simp [*]; done) | fail) (by first | rfl | assumption | (simp [*]; done) | fail) (by decide)⟩) rfl ?_ | refine glq rfl (.inl ⟨rfl, q_ldW ag103 sz103 rfl (by first | rfl | assumption | (simp [*]; done) | fail)⟩) rfl ?_ | refine glq rfl (.inl ⟨rfl, q_ldpP ag103 sz103 rfl (by repeat (first | exact .here | assumption | (apply HAt.left; assumption) | apply HAt.there | apply HAt.right)) (by first | rfl | assumption | (simp [*]; done) | fail) (by first | decide | (simp; done) | omega | fail) (by decide) (by first | ((repeat constructor); done) | exact .same _)⟩) rfl ?_ | refine glq rfl (.inl ⟨rfl, q_ldP ag103 sz103 rfl (by first | decide | (simp; done) | omega | fail) (by first | ((repeat constructor); done) | exact .same _)⟩) rfl ?_ | refine glq rfl (.inr ⟨rfl, rfl⟩) rfl ?_)
          all_goals (first | refine glq rfl (.inl ⟨rfl, q_mv (by constructor)⟩) rfl ?_ | refine glq rfl (.inr ⟨rfl, rfl⟩) rfl ?_)
          all_goals (first | refine glq rfl (.inl ⟨rfl, q_mv (by constructor)⟩) rfl ?_ | refine glq rfl (.inr ⟨rfl, rfl⟩) rfl ?_)
          all_goals (first | refine glq rfl (.inl ⟨rfl, q_iaN Try.underlying90 sz103 (.inl rfl) rfl (by omega) (by first | rfl | assumption | (simp [*]; done) | fail) (by first | rfl | assumption | (simp [*]; done) | fail) (by decide) (by first | ((repeat constructor); done) | exact .same _)⟩) rfl ?_ | refine glq rfl (.inl ⟨rfl, q_iaS Try.underlying90 sz103 rfl (by repeat (first | exact .here | assumption | (apply HAt.left; assumption) | apply HAt.there | apply HAt.right)) rfl (by omega) (by omega) (by first | exact Nat.zero_add _ | rfl)⟩) rfl ?_ | refine glq rfl (.inl ⟨rfl, q_iaN Try.underlying90 sz103 (.inr rfl) rfl (by omega) (by first | rfl | assumption | (simp [*]; done) | fail) (by first | rfl | assumption | (simp [*]; done) | fail) (by decide) (by first | ((repeat constructor); done) | exact .same _)⟩) rfl ?_ | refine glq rfl (.inr ⟨rfl, rfl⟩) rfl ?_)
          all_goals (first | refine glq rfl (.inl ⟨rfl, q_ldpW ag103 sz103 rfl (by repeat (first | exact .here | assumption | (apply HAt.left; assumption) | apply HAt.there | apply HAt.right)) (by first | rfl | assumption | (simp [*]; done) | fail) (by first | rfl | assumption | (simp [*]; done) | fail) (by decide)⟩) rfl ?_ | refine glq rfl (.inl ⟨rfl, q_ldW ag103 sz103 rfl (by first | rfl | assumption | (simp [*]; done) | fail)⟩) rfl ?_ | refine glq rfl (.inl ⟨rfl, q_ldpP ag103 sz103 rfl (by repeat (first | exact .here | assumption | (apply HAt.left; assumption) | apply HAt.there | apply HAt.right)) (by first | rfl | assumption | (simp [*]; done) | fail) (by first | decide | (simp; done) | omega | fail) (by decide) (by first | ((repeat constructor); done) | exact .same _)⟩) rfl ?_ | refine glq rfl (.inl ⟨rfl, q_ldP ag103 sz103 rfl (by first | decide | (simp; done) | omega | fail) (by first | ((repeat constructor); done) | exact .same _)⟩) rfl ?_ | refine glq rfl (.inr ⟨rfl, rfl⟩) rfl ?_)
          all_goals (first | refine glq rfl (.inl ⟨rfl, e_callN cb90 (before90_c (nth c k) (nth c i) _) rfl rfl⟩) rfl ?_ | refine glq rfl (.inl ⟨rfl, e_callN cb90 (ACall.arg (before90_c (nth c k) (nth c i) _) (by repeat (first | exact ArgL.nil | (apply ArgL.cons; (· first | exact .same | exact .cro | exact .nil))))) rfl rfl⟩) rfl ?_ | refine glq rfl (.inr ⟨rfl, rfl⟩) rfl ?_)
          all_goals (first | refine glq rfl (.inl ⟨rfl, q_pickT rfl (by constructor)⟩) rfl ?_ | refine glq rfl (.inl ⟨rfl, q_pickF rfl (by constructor)⟩) rfl ?_)
          all_goals (first | refine gld0 ?_ | refine gldA ?_)
          all_goals (refine alist_nil ?_)
          all_goals (exact ⟨rfl, .mk' (by repeat (first | exact trivial | refine ⟨rfl, ?_⟩ | (refine ⟨?_, ?_⟩; (· first | (rw [hb4]; rfl) | fail)))) (by repeat (first | exact .refl _ | exact List.nil_sublist _ | exact List.sublist_append_left _ _ | apply List.Sublist.cons))⟩)
        refine awp_cond rfl (fun hc2 => ?_) (fun hc2 => ?_)
        · have e : freeB c o i = false := all_no (i := k) (by omega) (by
            simp only [Bool.and_eq_true, Bool.not_eq_true'] at hc2
            rw [hc2.1, hc2.2]; rfl)
          rw [e]
          refine awp_seq ?_
          refine awp_region ?_
          refine aqs rfl (q_as (by constructor)) rfl ?_
          refine alist_nil ?_
          show AWP _ _ _ _
          refine awp_ret ?_
          repeat first | with_reducible refine then_ret ?_ | with_reducible refine blk_ret ?_
          apply retq (.inr rfl) (.cons (rok_t rfl) .nil)
          rotate_left
          · exact ⟨rfl, rfl⟩
          repeat (first | exact List.Sublist.refl _ | exact List.nil_sublist _ | exact List.sublist_append_left _ _ | apply List.Sublist.cons)
        · have hok : (decide (k ∈ o) || !before (nth c k) (nth c i)) = true := by
            cases h1 : decide (k ∈ o) with
            | true => rfl
            | false => rw [h1] at hc2; simpa using hc2
          refine awp_skip ?_
          show AWP _ _ _ _
          refine awp_region ?_
          refine aqs rfl (q_mv (by constructor)) rfl ?_
          first | refine aqs rfl (q_add64 rfl rfl (by omega) (by omega)) rfl ?_ | refine aqs rfl (q_add rfl rfl) rfl ?_
          refine aqs rfl (q_as (by constructor)) rfl ?_
          refine alist_nil ?_
          show ∃ y, _ ∧ _ ∧ _
          exact ⟨k + 1, ⟨by omega, upto hall hok⟩, by omega, .mk' ⟨by rfl, rfl, rfl, rfl, trivial⟩ (.refl _)⟩
      · simp only [decide_eq_false_iff_not, List.length_map] at hc1
        have e : freeB c o i = true := all_yes fun j hj => hall j (by omega)
        rw [e]
        refine awp_exit ?_
        show AWP _ _ _ _
        refine awp_seq ?_
        refine awp_region ?_
        refine aqs rfl (q_as (by constructor)) rfl ?_
        refine alist_nil ?_
        show AWP _ _ _ _
        refine awp_ret ?_
        repeat first | with_reducible refine then_ret ?_ | with_reducible refine blk_ret ?_
        apply retq (.inr rfl) (.cons (rok_t rfl) .nil)
        rotate_left
        · exact ⟨rfl, rfl⟩
        repeat (first | exact List.Sublist.refl _ | exact List.nil_sublist _ | exact List.sublist_append_left _ _ | apply List.Sublist.cons)
set_option maxHeartbeats 2000000 in
theorem listed171_c (c : List Call) (o : List Nat) (hc : ∀ i ∈ o, i < c.length) (ho : o.length ≤ 100000) (H : Heap) : QCall Try.prog 171 [.ro (c.map Call.cells), .ro (o.map cN)] H (.ro ((listed c o).map Call.cells)) := by
  refine QCall.any H ?_
  refine acall_intro (n := 24) (rvs := [.tmp 4]) Try.func171 rfl rfl rfl (Nat.le_of_ble_eq_true rfl) ?_
  refine awp_seq ?_
  refine awp_region ?_
  refine aqs rfl (q_as (by constructor)) rfl ?_
  refine alist_nil ?_
  show AWP _ _ _ _
  refine awp_seq ?_
  refine awp_region ?_
  refine aqs rfl (q_as (by constructor)) rfl ?_
  refine alist_nil ?_
  show AWP _ _ _ _
  refine awp_adopt 5 103 7 rfl fun u0 => ?_
  show AWP _ _ _ _
  refine awp_seq ?_
  refine awp_seq ?_
  refine awp_region ?_
  refine aqs rfl (q_as (by constructor)) rfl ?_
  refine alist_nil ?_
  show AWP _ _ _ _
  refine awp_block ?_
  refine awp_loop_inv (fun x : Nat × Nat => ⟨[(6, .lit (.int .i64 x.1)), (0, .ro (c.map Call.cells)), (1, .ro (o.map cN)), (5, .sl x.2 0 x.1)], 24, [(x.2, .arr 103 7 ((listed c (o.take x.1)).map Call.cells))]⟩) (fun x => x.1 ≤ o.length) (fun x => o.length - x.1) (0, u0) ?_ ?_ ?_
  · exact Nat.zero_le _
  · exact .mk' (by repeat (first | exact trivial | refine ⟨rfl, ?_⟩)) (by repeat (first | exact .refl _ | apply List.Sublist.cons_cons | apply List.Sublist.cons))
  · rintro ⟨i, u⟩ hi
    simp only at hi ⊢
    have hlen := lenCall (listed c (o.take i))
    have hone := oneCall (listed c (o.take i))
    have hlt : (listed c (o.take i)).length = i := by rw [listed, List.length_map, List.length_take]; omega
    refine awp_seq ?_
    refine awp_seq ?_
    refine awp_region ?_
    refine aqs rfl (q_mv (by constructor)) rfl ?_
    refine aqs rfl (q_mv (by constructor)) rfl ?_
    first | refine aqs rfl (q_len Try.underlying25 .ro) rfl ?_ | refine aqs rfl (q_lenO Try.underlying25 rfl (by repeat (first | exact .here | assumption | (apply HAt.left; assumption) | apply HAt.there | apply HAt.right)) (by first | omega | (simp; done) | (simp; omega) | fail) (by first | exact Nat.sub_zero _ | rfl)) rfl ?_ | refine aqs rfl (q_len Try.underlying25 .nil) rfl ?_ | refine aqs rfl (q_len Try.underlying25 .cro) rfl ?_
    refine aqs rfl (q_lss rfl rfl) rfl ?_
    refine alist_nil ?_
    show AWP _ _ _ _
    refine awp_cond rfl (fun hc0 => ?_) (fun hc0 => ?_)
    · simp only [decide_eq_true_eq, List.length_map] at hc0
      obtain ⟨s, hs, hsm⟩ := get_lt (l := o) (i := i) (by omega)
      have hs2 : (o.map cN)[i]? = some [.lit (.int .i64 (s : Nat))] := get_map (f := cN) hs
      have hsl := hc s hsm
      have hs3 := get_map (f := Call.cells) (nth_get hsl)
      have hes : ((listed c (o.take i)).map Call.cells).take i ++ [(nth c s).cells] = (listed c (o.take (i + 1))).map Call.cells := by
        rw [List.take_of_length_le (by rw [List.length_map, hlt]; exact Nat.le_refl _), take_next hs]; simp [listed]
      refine awp_skip ?_
      show AWP _ _ _ _
      refine awp_seq ?_
      refine awp_block ?_
      refine awp_region ?_
      refine aqs rfl (q_mv (by constructor)) rfl ?_
      refine aqs rfl (q_mv (by constructor)) rfl ?_
      refine aqs rfl (q_mv (by constructor)) rfl ?_
      refine aqs rfl (q_mv (by constructor)) rfl ?_
      first | refine aqs rfl (q_iaN Try.underlying25 sz3 (.inl rfl) rfl (by omega) (by first | rfl | assumption | (simp [*]; done) | fail) (by first | rfl | assumption | (simp [*]; done) | fail) (by decide) (by first | ((repeat constructor); done) | exact .same _)) rfl ?_ | refine aqs rfl (q_iaS Try.underlying25 sz3 rfl (by repeat (first | exact .here | assumption | (apply HAt.left; assumption) | apply HAt.there | apply HAt.right)) rfl (by omega) (by omega) (by first | exact Nat.zero_add _ | rfl)) rfl ?_ | refine aqs rfl (q_iaN Try.underlying25 sz3 (.inr rfl) rfl (by omega) (by first | rfl | assumption | (simp [*]; done) | fail) (by first | rfl | assumption | (simp [*]; done) | fail) (by decide) (by first | ((repeat constructor); done) | exact .same _)) rfl ?_
      first | refine aqs rfl (q_ldpN ag3 rfl (by repeat (first | exact .here | assumption | (apply HAt.left; assumption) | apply HAt.there | apply HAt.right)) (by first | rfl | assumption | (simp [*]; done) | fail) (by first | rfl | assumption | (simp [*]; done) | fail) (by constructor)) rfl ?_ | refine aqs rfl (q_ld1N ag3 rfl (by constructor)) rfl ?_
      first | refine aqs rfl (q_iaN Try.underlying90 sz103 (.inl rfl) rfl (by omega) (by first | rfl | assumption | (simp [*]; done) | fail) (by first | rfl | assumption | (simp [*]; done) | fail) (by decide) (by first | ((repeat constructor); done) | exact .same _)) rfl ?_ | refine aqs rfl (q_iaS Try.underlying90 sz103 rfl (by repeat (first | exact .here | assumption | (apply HAt.left; assumption) | apply HAt.there | apply HAt.right)) rfl (by omega) (by omega) (by first | exact Nat.zero_add _ | rfl)) rfl ?_ | refine aqs rfl (q_iaN Try.underlying90 sz103 (.inr rfl) rfl (by omega) (by first | rfl | assumption | (simp [*]; done) | fail) (by first | rfl | assumption | (simp [*]; done) | fail) (by decide) (by first | ((repeat constructor); done) | exact .same _)) rfl ?_
      first | refine aqs rfl (q_ldpW ag103 sz103 rfl (by repeat (first | exact .here | assumption | (apply HAt.left; assumption) | apply HAt.there | apply HAt.right)) (by first | rfl | assumption | (simp [*]; done) | fail) (by first | rfl | assumption | (simp [*]; done) | fail) (by decide)) rfl ?_ | refine aqs rfl (q_ldW ag103 sz103 rfl (by first | rfl | assumption | (simp [*]; done) | fail)) rfl ?_ | refine aqs rfl (q_ldpP ag103 sz103 rfl (by repeat (first | exact .here | assumption | (apply HAt.left; assumption) | apply HAt.there | apply HAt.right)) (by first | rfl | assumption | (simp [*]; done) | fail) (by first | decide | (simp; done) | omega | fail) (by decide) (by first | ((repeat constructor); done) | exact .same _)) rfl ?_ | refine aqs rfl (q_ldP ag103 sz103 rfl (by first | decide | (simp; done) | omega | fail) (by first | ((repeat constructor); done) | exact .same _)) rfl ?_
      first | refine aqs rfl (q_bs Try.underlying90 sz103 zr103 rfl (by first | ((repeat constructor); done) | exact .same _) rfl (by decide) (by repeat (first | exact BS.nil | (apply BS.cons; (· constructor); (· rfl); (· rfl); (· rfl); (· exact (by first | ((repeat constructor); done) | exact .same _)))))) rfl ?_ | (refine aes rfl (e_bs Try.underlying90 sz103 zr103 rfl (by first | ((repeat constructor); done) | exact .same _) rfl (by decide) (by repeat (first | exact BS.nil | (apply BS.cons; (· constructor); (· rfl); (· rfl); (· rfl); (· exact (by first | ((repeat constructor); done) | exact .same _)))))) rfl ?_; rintro _ _ ⟨u21, rfl, rfl⟩)
      first | refine aqs rfl (q_apC Try.underlying90 sz103 by103 zr103 (.inl rfl) (by first | exact .ro | exact .cro | exact .nil | exact SV.slA (by repeat (first | exact .here | assumption | (apply HAt.left; assumption) | apply HAt.there | apply HAt.right)) (by first | rfl | (simp; done) | (simp; omega) | (simp [*]; done) | fail)) (by first | assumption | (intro c hc; simp at hc; subst hc; rfl) | (simp; done) | fail) (by first | assumption | (intro c hc; simp at hc; subst hc; rfl) | (simp; done) | fail) (by first | omega | decide | (simp; omega) | assumption | fail) (by decide) (by decide) rfl (by first | rfl | (simp; done) | fail)) rfl ?_ | refine aqs rfl (q_apC Try.underlying90 sz103 by103 zr103 (.inr ⟨rfl, rfl⟩) (by first | exact .ro | exact .cro | exact .nil | exact SV.slA (by repeat (first | exact .here | assumption | (apply HAt.left; assumption) | apply HAt.there | apply HAt.right)) (by first | rfl | (simp; done) | (simp; omega) | (simp [*]; done) | fail)) (by first | assumption | (intro c hc; simp at hc; subst hc; rfl) | (simp; done) | fail) (by first | assumption | (intro c hc; simp at hc; subst hc; rfl) | (simp; done) | fail) (by first | omega | decide | (simp; omega) | assumption | fail) (by decide) (by decide) rfl (by first | rfl | (simp; done) | fail)) rfl ?_ | (refine aes rfl (e_apO Try.underlying90 sz103 by103 zr103 rfl (by repeat (first | exact .here | assumption | (apply HAt.left; assumption) | apply HAt.there | apply HAt.right)) (by rw [List.length_map, hlt]; exact Nat.le_refl _) (by first | exact .ro | exact .cro | exact .nil | exact SV.slA (by repeat (first | exact .here | assumption | (apply HAt.left; assumption) | apply HAt.there | apply HAt.right)) (by first | rfl | (simp; done) | (simp; omega) | (simp [*]; done) | fail)) (by first | assumption | (intro c hc; simp at hc; subst hc; rfl) | (simp; done) | fail) (by first | assumption | (intro c hc; simp at hc; subst hc; rfl) | (simp; done) | fail) (by first | assumption | (intro c hc; simp at hc; subst hc; rfl) | (simp; done) | fail) (by first | (simp; done) | (simp; omega) | omega | fail) (by decide) (by decide) rfl (by rfl) hes (fun v => (by repeat (first | exact .here | apply HSet.there)))) rfl ?_; rintro _ _ ⟨u22, rfl, rfl⟩) | (refine aes rfl (e_apN Try.underlying90 sz103 by103 zr103 rfl (by first | exact .ro | exact .cro | exact .nil | exact SV.slA (by repeat (first | exact .here | assumption | (apply HAt.left; assumption) | apply HAt.there | apply HAt.right)) (by first | rfl | (simp; done) | (simp; omega) | (simp [*]; done) | fail)) (by first | assumption | (intro c hc; simp at hc; subst hc; rfl) | (simp; done) | fail) (by first | assumption | (intro c hc; simp at hc; subst hc; rfl) | (simp; done) | fail) (by first | (simp; done) | (simp; omega) | omega | fail) (by decide) (by decide) rfl rfl) rfl ?_; rintro _ _ ⟨u22, rfl, rfl⟩)
      refine aqs rfl (q_as (by constructor)) rfl ?_
      refine alist_nil ?_
      show AWP _ _ _ _
      refine awp_region ?_
      refine aqs rfl (q_mv (by constructor)) rfl ?_
      first | refine aqs rfl (q_add64 rfl rfl (by omega) (by omega)) rfl ?_ | refine aqs rfl (q_add rfl rfl) rfl ?_
      refine aqs rfl (q_as (by constructor)) rfl ?_
      refine alist_nil ?_
      show ∃ y, _ ∧ _ ∧ _
      exact ⟨(i + 1, _), by show i + 1 ≤ o.length; omega, by show o.length - (i + 1) < o.length - i; omega, .mk' ⟨by rfl, rfl, rfl, rfl, trivial⟩ (by repeat (first | exact List.Sublist.refl _ | exact List.nil_sublist _ | exact List.sublist_append_left _ _ | (apply List.Sublist.cons_cons) | (apply List.Sublist.cons)))⟩
    · simp only [decide_eq_false_iff_not, List.length_map] at hc0
      have hil : i = o.length := by omega
      subst hil
      rw [List.take_length] at hlt ⊢
      refine awp_exit ?_
      show AWP _ _ _ _
      refine awp_seq ?_
      refine awp_region ?_
      refine aqs rfl (q_mv (by constructor)) rfl ?_
      refine aqs rfl (q_as (by constructor)) rfl ?_
      refine alist_nil ?_
      show AWP _ _ _ _
      refine awp_pub (u := u) (by repeat (first | exact .here | assumption | (apply HAt.left; assumption) | apply HAt.there | apply HAt.right)) (by repeat (first | exact PubT.nil | (apply PubT.cons; (· first | exact .one (pub_all (by first | rfl | (simp; done) | (simp; omega) | (simp [*]; done) | fail)) | exact .one .same)) | exact PubT.same)) (by repeat (first | exact PubH.drop .same | (apply PubH.cons; (· exact .same)))) ?_
      show AWP _ _ _ _
      refine awp_ret ?_
      repeat first | with_reducible refine then_ret ?_ | with_reducible refine blk_ret ?_
      apply retq (.inr rfl) (.cons (rok_t rfl) .nil)
      rotate_left
      · exact ⟨rfl, rfl⟩
      repeat (first | exact List.Sublist.refl _ | exact List.nil_sublist _ | exact List.sublist_append_left _ _ | apply List.Sublist.cons)
set_option maxHeartbeats 2000000 in
theorem last142_c (c : List Call) (n : Nat) (key : Int) (hn : n ≤ c.length) (hc : c.length ≤ 1000000) (H : Heap) : QCall Try.prog 142 [.ro (c.map Call.cells), .lit (.int .i64 n), .lit (.int .i64 key)] H (.lit (.int .i64 (lastI c n key))) := by
  refine acall_intro (n := 37) (rvs := [.tmp 6]) Try.func142 rfl rfl rfl (Nat.le_of_ble_eq_true rfl) ?_
  refine awp_seq ?_
  refine awp_region ?_
  refine aqs rfl (q_as (by constructor)) rfl ?_
  refine alist_nil ?_
  show AWP _ _ _ _
  refine awp_seq ?_
  refine awp_seq ?_
  refine awp_region ?_
  refine aqs rfl (q_mv (by constructor)) rfl ?_
  first | refine aqs rfl (q_sub64 rfl rfl (by omega) (by omega)) rfl ?_ | refine aqs rfl (q_sub rfl rfl) rfl ?_
  refine aqs rfl (q_as (by constructor)) rfl ?_
  refine alist_nil ?_
  show AWP _ _ _ _
  refine awp_block ?_
  refine awp_loop_inv (fun m : Nat => ⟨[(7, .lit (.int .i64 ((m : Int) - 1))), (0, .ro (c.map Call.cells)), (2, .lit (.int .i64 key))], 37, H⟩) (fun m => m ≤ n ∧ lastS c m key = lastS c n key) (fun m => m) n ?_ ?_ ?_
  · exact ⟨Nat.le_refl _, rfl⟩
  · exact .mk' (by repeat (first | exact trivial | refine ⟨rfl, ?_⟩)) (by repeat (first | exact .refl _ | apply List.Sublist.cons_cons | apply List.Sublist.cons))
  · rintro m ⟨hm, hls⟩
    refine awp_seq ?_
    refine awp_seq ?_
    refine awp_region ?_
    refine aqs rfl (q_mv (by constructor)) rfl ?_
    refine aqs rfl (q_geq rfl rfl) rfl ?_
    refine alist_nil ?_
    show AWP _ _ _ _
    refine awp_cond rfl (fun hc0 => ?_) (fun hc0 => ?_)
    · simp only [decide_eq_true_eq] at hc0
      obtain ⟨k, rfl⟩ : ∃ k, m = k + 1 := ⟨m - 1, by omega⟩
      have ek : ((k + 1 : Nat) : Int) - 1 = (k : Int) := by omega
      rw [ek]
      have hs2 := get_map (f := Call.cells) (nth_get (c := c) (i := k) (by omega))
      refine awp_skip ?_
      show AWP _ _ _ _
      refine awp_seq ?_
      refine awp_block ?_
      refine awp_mid [(35, .lit (.bool (decide ((nth c k).key = key) && ((nth c k).put || !(nth c k).has)))), (7, .lit (.int .i64 (k : Nat))), (0, .ro (c.map Call.cells)), (2, .lit (.int .i64 key))] ?_ ?_
      · skip
        refine awp_region ?_
        all_goals (refine aqs rfl (q_mv (by constructor)) rfl ?_)
        all_goals (refine aqs rfl (q_mv (by constructor)) rfl ?_)
        all_goals (first | refine aqs rfl (q_iaN Try.underlying90 sz103 (.inl rfl) rfl (by omega) (by first | rfl | assumption | (simp [*]; done) | fail) (by first | rfl | assumption | (simp [*]; done) | fail) (by decide) (by first | ((repeat constructor); done) | exact .same _)) rfl ?_ | refine aqs rfl (q_iaS Try.underlying90 sz103 rfl (by repeat (first | exact .here | assumption | (apply HAt.left; assumption) | apply HAt.there | apply HAt.right)) rfl (by omega) (by omega) (by first | exact Nat.zero_add _ | rfl)) rfl ?_ | refine aqs rfl (q_iaN Try.underlying90 sz103 (.inr rfl) rfl (by omega) (by first | rfl | assumption | (simp [*]; done) | fail) (by first | rfl | assumption | (simp [*]; done) | fail) (by decide) (by first | ((repeat constructor); done) | exact .same _)) rfl ?_)
        all_goals (first | refine aqs rfl (q_fapP fl103_2 (by decide) rfl rfl) rfl ?_ | refine aqs rfl (q_faP fl103_2 (by decide) rfl (by first | ((repeat constructor); done) | exact .same _)) rfl ?_)
        all_goals (first | refine aqs rfl (q_ldpN ag3 rfl (by repeat (first | exact .here | assumption | (apply HAt.left; assumption) | apply HAt.there | apply HAt.right)) (by first | rfl | assumption | (simp [*]; done) | fail) (by first | rfl | assumption | (simp [*]; done) | fail) (by constructor)) rfl ?_ | refine aqs rfl (q_ld1N ag3 rfl (by constructor)) rfl ?_)
        all_goals (refine aqs rfl (q_mv (by constructor)) rfl ?_)
        all_goals (refine aqs rfl (q_eql rfl rfl) rfl ?_)
        all_goals (refine aqs rfl (q_mv (by constructor)) rfl ?_)
        all_goals try (refine acase (fun hb7 => ?_) (fun hb7 => ?_))
        all_goals first | (exfalso; cases hb7; done) | skip
        all_goals (first | refine ans rfl rfl ?_ | refine aqs rfl (q_mv (by constructor)) rfl ?_)
        all_goals (first | refine ans rfl rfl ?_ | refine aqs rfl (q_mv (by constructor)) rfl ?_)
        all_goals (first | refine ans rfl rfl ?_ | refine aqs rfl (q_iaN Try.underlying90 sz103 (.inl rfl) rfl (by omega) (by first | rfl | assumption | (simp [*]; done) | fail) (by first | rfl | assumption | (simp [*]; done) | fail) (by decide) (by first | ((repeat constructor); done) | exact .same _)) rfl ?_ | refine aqs rfl (q_iaS Try.underlying90 sz103 rfl (by repeat (first | exact .here | assumption | (apply HAt.left; assumption) | apply HAt.there | apply HAt.right)) rfl (by omega) (by omega) (by first | exact Nat.zero_add _ | rfl)) rfl ?_ | refine aqs rfl (q_iaN Try.underlying90 sz103 (.inr rfl) rfl (by omega) (by first | rfl | assumption | (simp [*]; done) | fail) (by first | rfl | assumption | (simp [*]; done) | fail) (by decide) (by first | ((repeat constructor); done) | exact .same _)) rfl ?_)
        all_goals (first | refine ans rfl rfl ?_ | refine aqs rfl (q_fapP fl103_0 (by decide) rfl rfl) rfl ?_ | refine aqs rfl (q_faP fl103_0 (by decide) rfl (by first | ((repeat constructor); done) | exact .same _)) rfl ?_)
        all_goals (first | refine ans rfl rfl ?_ | refine aqs rfl (q_ldpN ag4 rfl (by repeat (first | exact .here | assumption | (apply HAt.left; assumption) | apply HAt.there | apply HAt.right)) (by first | rfl | assumption | (simp [*]; done) | fail) (by first | rfl | assumption | (simp [*]; done) | fail) (by constructor)) rfl ?_ | refine aqs rfl (q_ld1N ag4 rfl (by constructor)) rfl ?_)
        all_goals (first | refine ans rfl rfl ?_ | refine aqs rfl (q_mv (by constructor)) rfl ?_)
        all_goals try (refine acase (fun hb13 => ?_) (fun hb13 => ?_))
        all_goals first | (exfalso; cases hb13; done) | skip
        all_goals (first | refine ans rfl rfl ?_ | refine aqs rfl (q_mv (by constructor)) rfl ?_)
        all_goals (first | refine ans rfl rfl ?_ | refine aqs rfl (q_mv (by constructor)) rfl ?_)
        all_goals (first | refine ans rfl rfl ?_ | refine aqs rfl (q_iaN Try.underlying90 sz103 (.inl rfl) rfl (by omega) (by first | rfl | assumption | (simp [*]; done) | fail) (by first | rfl | assumption | (simp [*]; done) | fail) (by decide) (by first | ((repeat constructor); done) | exact .same _)) rfl ?_ | refine aqs rfl (q_iaS Try.underlying90 sz103 rfl (by repeat (first | exact .here | assumption | (apply HAt.left; assumption) | apply HAt.there | apply HAt.right)) rfl (by omega) (by omega) (by first | exact Nat.zero_add _ | rfl)) rfl ?_ | refine aqs rfl (q_iaN Try.underlying90 sz103 (.inr rfl) rfl (by omega) (by first | rfl | assumption | (simp [*]; done) | fail) (by first | rfl | assumption | (simp [*]; done) | fail) (by decide) (by first | ((repeat constructor); done) | exact .same _)) rfl ?_)
        all_goals (first | refine ans rfl rfl ?_ | refine aqs rfl (q_fapP fl103_4 (by decide) rfl rfl) rfl ?_ | refine aqs rfl (q_faP fl103_4 (by decide) rfl (by first | ((repeat constructor); done) | exact .same _)) rfl ?_)
        all_goals (first | refine ans rfl rfl ?_ | refine aqs rfl (q_ldpN ag4 rfl (by repeat (first | exact .here | assumption | (apply HAt.left; assumption) | apply HAt.there | apply HAt.right)) (by first | rfl | assumption | (simp [*]; done) | fail) (by first | rfl | assumption | (simp [*]; done) | fail) (by constructor)) rfl ?_ | refine aqs rfl (q_ld1N ag4 rfl (by constructor)) rfl ?_)
        all_goals (first | refine ans rfl rfl ?_ | refine aqs rfl (q_not rfl) rfl ?_)
        all_goals (first | refine ans rfl rfl ?_ | refine aqs rfl (q_pickT rfl (by constructor)) rfl ?_ | refine aqs rfl (q_pickF rfl (by constructor)) rfl ?_)
        all_goals (first | refine aqs rfl (q_pickT rfl (by constructor)) rfl ?_ | refine aqs rfl (q_pickF rfl (by constructor)) rfl ?_)
        all_goals (refine alist_nil ?_)
        all_goals (exact ⟨rfl, .mk' (by repeat (first | exact trivial | refine ⟨rfl, ?_⟩ | (refine ⟨?_, ?_⟩; (· first | (rw [hb7, hb13]; rfl) | (rw [hb7]; rfl) | fail)))) (by repeat (first | exact .refl _ | exact List.nil_sublist _ | exact List.sublist_append_left _ _ | apply List.Sublist.cons))⟩)
      refine awp_cond rfl (fun hc1 => ?_) (fun hc1 => ?_)
      · have e : lastI c n key = k := by
          have hc2 : (decide ((nth c k).key = key) && isPM (nth c k)) = true := hc1
          rw [lastI, ← hls, lastS, if_pos hc2]
        rw [e]
        refine awp_seq ?_
        refine awp_region ?_
        refine aqs rfl (q_mv (by constructor)) rfl ?_
        refine aqs rfl (q_as (by constructor)) rfl ?_
        refine alist_nil ?_
        show AWP _ _ _ _
        refine awp_ret ?_
        repeat first | with_reducible refine then_ret ?_ | with_reducible refine blk_ret ?_
        apply retq (.inr rfl) (.cons (rok_t rfl) .nil)
        rotate_left
        · exact ⟨rfl, rfl⟩
        repeat (first | exact List.Sublist.refl _ | exact List.nil_sublist _ | exact List.sublist_append_left _ _ | apply List.Sublist.cons)
      · have e : lastS c (k + 1) key = lastS c k key := by rw [lastS, if_neg (by rw [isPM, hc1]; simp)]
        refine awp_skip ?_
        show AWP _ _ _ _
        refine awp_region ?_
        refine aqs rfl (q_mv (by constructor)) rfl ?_
        first | refine aqs rfl (q_sub64 rfl rfl (by omega) (by omega)) rfl ?_ | refine aqs rfl (q_sub rfl rfl) rfl ?_
        refine aqs rfl (q_as (by constructor)) rfl ?_
        refine alist_nil ?_
        show ∃ y, _ ∧ _ ∧ _
        exact ⟨k, ⟨by omega, e.symm.trans hls⟩, by omega, .mk' ⟨by rfl, rfl, rfl, trivial⟩ (.refl _)⟩
    · simp only [decide_eq_false_iff_not] at hc0
      obtain rfl : m = 0 := by omega
      have e : lastI c n key = -1 := by rw [lastI, ← hls]; rfl
      rw [e]
      refine awp_exit ?_
      show AWP _ _ _ _
      refine awp_seq ?_
      refine awp_region ?_
      refine aqs rfl (q_as (by constructor)) rfl ?_
      refine alist_nil ?_
      show AWP _ _ _ _
      refine awp_ret ?_
      repeat first | with_reducible refine then_ret ?_ | with_reducible refine blk_ret ?_
      apply retq (.inr rfl) (.cons (rok_t rfl) .nil)
      rotate_left
      · exact ⟨rfl, rfl⟩
      repeat (first | exact List.Sublist.refl _ | exact List.nil_sublist _ | exact List.sublist_append_left _ _ | apply List.Sublist.cons)
theorem rhand_next (c : List Call) (at_ i : Nat) : rhand c at_ (i + 1) = rhand c at_ i + if ((nth c i).put && hasGet c at_ i) = true then 1 else 0 := by
  unfold rhand
  rw [List.range_succ, List.countP_append]
  simp [List.countP_cons]
theorem rhand_le (c : List Call) (at_ n : Nat) : rhand c at_ n ≤ n := by
  have := List.countP_le_length (p := fun i => (nth c i).put && hasGet c at_ i) (l := List.range n)
  rwa [List.length_range] at this
set_option maxHeartbeats 4000000 in
theorem hand143_c (c : List Call) (n : Nat) (hn : n < c.length) (hc : c.length ≤ 1000000) (H : Heap) : QCall Try.prog 143 [.ro (c.map Call.cells), .lit (.int .i64 n)] H (.lit (.int .i64 (rhand c n (n + 1) : Nat))) := by
  refine acall_intro (n := 68) (rvs := [.tmp 4]) Try.func143 rfl rfl rfl (Nat.le_of_ble_eq_true rfl) ?_
  refine awp_seq ?_
  refine awp_region ?_
  refine aqs rfl (q_as (by constructor)) rfl ?_
  refine alist_nil ?_
  show AWP _ _ _ _
  refine awp_seq ?_
  refine awp_region ?_
  refine aqs rfl (q_as (by constructor)) rfl ?_
  refine alist_nil ?_
  show AWP _ _ _ _
  refine awp_seq ?_
  refine awp_seq ?_
  refine awp_region ?_
  refine aqs rfl (q_as (by constructor)) rfl ?_
  refine alist_nil ?_
  show AWP _ _ _ _
  refine awp_block ?_
  refine awp_loop_inv (fun i : Nat => ⟨[(6, .lit (.int .i64 i)), (5, .lit (.int .i64 (rhand c n i : Nat))), (0, .ro (c.map Call.cells)), (1, .lit (.int .i64 n))], 68, H⟩) (fun i => i ≤ n + 1) (fun i => n + 1 - i) 0 ?_ ?_ ?_
  · exact Nat.zero_le _
  · exact .mk' (by repeat (first | exact trivial | refine ⟨rfl, ?_⟩)) (by repeat (first | exact .refl _ | apply List.Sublist.cons_cons | apply List.Sublist.cons))
  · intro i hi
    have hrn := rhand_next c n i
    have hrl := rhand_le c n i
    refine awp_seq ?_
    refine awp_seq ?_
    refine awp_region ?_
    refine aqs rfl (q_mv (by constructor)) rfl ?_
    refine aqs rfl (q_mv (by constructor)) rfl ?_
    refine aqs rfl (q_leq rfl rfl) rfl ?_
    refine alist_nil ?_
    show AWP _ _ _ _
    refine awp_cond rfl (fun hc0 => ?_) (fun hc0 => ?_)
    · simp only [decide_eq_true_eq] at hc0
      have hs2 := get_map (f := Call.cells) (nth_get (c := c) (i := i) (by omega))
      refine awp_skip ?_
      show AWP _ _ _ _
      refine awp_seq ?_
      refine awp_block ?_
      refine awp_seq ?_
      refine awp_seq ?_
      refine awp_region ?_
      refine aqs rfl (q_mv (by constructor)) rfl ?_
      refine aqs rfl (q_mv (by constructor)) rfl ?_
      first | refine aqs rfl (q_iaN Try.underlying90 sz103 (.inl rfl) rfl (by omega) (by first | rfl | assumption | (simp [*]; done) | fail) (by first | rfl | assumption | (simp [*]; done) | fail) (by decide) (by first | ((repeat constructor); done) | exact .same _)) rfl ?_ | refine aqs rfl (q_iaS Try.underlying90 sz103 rfl (by repeat (first | exact .here | assumption | (apply HAt.left; assumption) | apply HAt.there | apply HAt.right)) rfl (by omega) (by omega) (by first | exact Nat.zero_add _ | rfl)) rfl ?_ | refine aqs rfl (q_iaN Try.underlying90 sz103 (.inr rfl) rfl (by omega) (by first | rfl | assumption | (simp [*]; done) | fail) (by first | rfl | assumption | (simp [*]; done) | fail) (by decide) (by first | ((repeat constructor); done) | exact .same _)) rfl ?_
      first | refine aqs rfl (q_fapP fl103_0 (by decide) rfl rfl) rfl ?_ | refine aqs rfl (q_faP fl103_0 (by decide) rfl (by first | ((repeat constructor); done) | exact .same _)) rfl ?_
      first | refine aqs rfl (q_ldpN ag4 rfl (by repeat (first | exact .here | assumption | (apply HAt.left; assumption) | apply HAt.there | apply HAt.right)) (by first | rfl | assumption | (simp [*]; done) | fail) (by first | rfl | assumption | (simp [*]; done) | fail) (by constructor)) rfl ?_ | refine aqs rfl (q_ld1N ag4 rfl (by constructor)) rfl ?_
      refine aqs rfl (q_not rfl) rfl ?_
      refine alist_nil ?_
      show AWP _ _ _ _
      refine awp_cond rfl (fun hc1 => ?_) (fun hc1 => ?_)
      · have hnx : rhand c n (i + 1) = rhand c n i := by
          rw [hrn, show (nth c i).put = false by simpa using hc1]; rfl
        refine awp_exit ?_
        show AWP _ _ _ _
        refine awp_region ?_
        refine aqs rfl (q_mv (by constructor)) rfl ?_
        first | refine aqs rfl (q_add64 rfl rfl (by omega) (by omega)) rfl ?_ | refine aqs rfl (q_add rfl rfl) rfl ?_
        refine aqs rfl (q_as (by constructor)) rfl ?_
        refine alist_nil ?_
        show ∃ y, _ ∧ _ ∧ _
        first
          | exact ⟨i + 1, by omega, by omega, .mk' ⟨by rfl, (by show AV.lit (.int .i64 _) = AV.lit (.int .i64 _); rw [hnx]; rfl), rfl, rfl, trivial⟩ (.refl _)⟩
          | exact ⟨i + 1, by omega, by omega, .mk' ⟨by rfl, (by show AV.lit (.int .i64 _) = AV.lit (.int .i64 _); rw [hnx]), rfl, rfl, trivial⟩ (.refl _)⟩
      · have hp : (nth c i).put = true := by simpa using hc1
        refine awp_skip ?_
        show AWP _ _ _ _
        refine awp_seq ?_
        refine awp_region ?_
        refine aqs rfl (q_mv (by constructor)) rfl ?_
        first | refine aqs rfl (q_add64 rfl rfl (by omega) (by omega)) rfl ?_ | refine aqs rfl (q_add rfl rfl) rfl ?_
        refine aqs rfl (q_as (by constructor)) rfl ?_
        refine alist_nil ?_
        show AWP _ _ _ _
        refine awp_block ?_
        refine awp_loop_inv (fun k : Nat => ⟨[(7, .lit (.int .i64 k)), (6, .lit (.int .i64 i)), (5, .lit (.int .i64 (rhand c n i : Nat))), (0, .ro (c.map Call.cells)), (1, .lit (.int .i64 n))], 68, H⟩) (fun k => n < k ∧ k ≤ c.length ∧ ∀ m, m < k → gotB c n i m = false) (fun k => c.length - k) (n + 1) ?_ ?_ ?_
        · exact ⟨by omega, by omega, fun m hm => by unfold gotB; rw [decide_eq_false (show ¬ n < m by omega)]; rfl⟩
        · exact .mk' (by repeat (first | exact trivial | refine ⟨rfl, ?_⟩)) (by repeat (first | exact .refl _ | apply List.Sublist.cons_cons | apply List.Sublist.cons))
        · rintro k ⟨hnk, hkl, hall⟩
          refine awp_seq ?_
          refine awp_seq ?_
          refine awp_region ?_
          refine aqs rfl (q_mv (by constructor)) rfl ?_
          refine aqs rfl (q_mv (by constructor)) rfl ?_
          first | refine aqs rfl (q_len Try.underlying90 .ro) rfl ?_ | refine aqs rfl (q_lenO Try.underlying90 rfl (by repeat (first | exact .here | assumption | (apply HAt.left; assumption) | apply HAt.there | apply HAt.right)) (by first | omega | (simp; done) | (simp; omega) | fail) (by first | exact Nat.sub_zero _ | rfl)) rfl ?_ | refine aqs rfl (q_len Try.underlying90 .nil) rfl ?_ | refine aqs rfl (q_len Try.underlying90 .cro) rfl ?_
          refine aqs rfl (q_lss rfl rfl) rfl ?_
          refine alist_nil ?_
          show AWP _ _ _ _
          refine awp_cond rfl (fun hc2 => ?_) (fun hc2 => ?_)
          · simp only [decide_eq_true_eq, List.length_map] at hc2
            have hk2 := get_map (f := Call.cells) (nth_get (c := c) (i := k) (by omega))
            refine awp_skip ?_
            show AWP _ _ _ _
            refine awp_seq ?_
            refine awp_block ?_
            refine awp_mid [(64, .lit (.bool (((decide ((nth c k).key = (nth c i).key) && !(nth c k).put) && (nth c k).has) && decide (lastI c k (nth c i).key = i)))), (7, .lit (.int .i64 k)), (6, .lit (.int .i64 i)), (5, .lit (.int .i64 (rhand c n i : Nat))), (0, .ro (c.map Call.cells)), (1, .lit (.int .i64 n))] ?_ ?_
            · skip
              refine awp_draw 38 [(0, false), (1, false), (2, false), (3, false), (4, false), (5, false), (6, false), (7, false), (8, false), (9, false), (10, false), (11, false), (12, false), (13, false), (14, false), (15, false), (16, false), (17, false), (18, false), (19, false), (20, false), (21, false), (22, false), (23, false), (24, false), (25, false), (26, false), (27, false), (28, false), (29, false), (30, false), (31, false), (32, false), (33, false), (34, false), (35, false), (36, false), (37, false)] _ ([]) mixed (by kernel_rfl) (perm0 _) ?_
              all_goals (refine glq rfl (.inl ⟨rfl, q_mv (by constructor)⟩) rfl ?_)
              all_goals (refine glq rfl (.inl ⟨rfl, q_mv (by constructor)⟩) rfl ?_)
              all_goals (first | refine glq rfl (.inl ⟨rfl, q_iaN Try.underlying90 sz103 (.inl rfl) rfl (by omega) (by first | rfl | assumption | (simp [*]; done) | fail) (by first | rfl | assumption | (simp [*]; done) | fail) (by decide) (by first | ((repeat constructor); done) | exact .same _)⟩) rfl ?_ | refine glq rfl (.inl ⟨rfl, q_iaS Try.underlying90 sz103 rfl (by repeat (first | exact .here | assumption | (apply HAt.left; assumption) | apply HAt.there | apply HAt.right)) rfl (by omega) (by omega) (by first | exact Nat.zero_add _ | rfl)⟩) rfl ?_ | refine glq rfl (.inl ⟨rfl, q_iaN Try.underlying90 sz103 (.inr rfl) rfl (by omega) (by first | rfl | assumption | (simp [*]; done) | fail) (by first | rfl | assumption | (simp [*]; done) | fail) (by decide) (by first | ((repeat constructor); done) | exact .same _)⟩) rfl ?_)
              all_goals (first | refine glq rfl (.inl ⟨rfl, q_fapP fl103_2 (by decide) rfl rfl⟩) rfl ?_ | refine glq rfl (.inl ⟨rfl, q_faP fl103_2 (by decide) rfl (by first | ((repeat constructor); done) | exact .same _)⟩) rfl ?_)
              all_goals (first | refine glq rfl (.inl ⟨rfl, q_ldpN ag3 rfl (by repeat (first | exact .here | assumption | (apply HAt.left; assumption) | apply HAt.there | apply HAt.right)) (by first | rfl | assumption | (simp [*]; done) | fail) (by first | rfl | assumption | (simp [*]; done) | fail) (by constructor)⟩) rfl ?_ | refine glq rfl (.inl ⟨rfl, q_ld1N ag3 rfl (by constructor)⟩) rfl ?_)
              all_goals (refine glq rfl (.inl ⟨rfl, q_mv (by constructor)⟩) rfl ?_)
              all_goals (refine glq rfl (.inl ⟨rfl, q_mv (by constructor)⟩) rfl ?_)
              all_goals (first | refine glq rfl (.inl ⟨rfl, q_iaN Try.underlying90 sz103 (.inl rfl) rfl (by omega) (by first | rfl | assumption | (simp [*]; done) | fail) (by first | rfl | assumption | (simp [*]; done) | fail) (by decide) (by first | ((repeat constructor); done) | exact .same _)⟩) rfl ?_ | refine glq rfl (.inl ⟨rfl, q_iaS Try.underlying90 sz103 rfl (by repeat (first | exact .here | assumption | (apply HAt.left; assumption) | apply HAt.there | apply HAt.right)) rfl (by omega) (by omega) (by first | exact Nat.zero_add _ | rfl)⟩) rfl ?_ | refine glq rfl (.inl ⟨rfl, q_iaN Try.underlying90 sz103 (.inr rfl) rfl (by omega) (by first | rfl | assumption | (simp [*]; done) | fail) (by first | rfl | assumption | (simp [*]; done) | fail) (by decide) (by first | ((repeat constructor); done) | exact .same _)⟩) rfl ?_)
              all_goals (first | refine glq rfl (.inl ⟨rfl, q_fapP fl103_2 (by decide) rfl rfl⟩) rfl ?_ | refine glq rfl (.inl ⟨rfl, q_faP fl103_2 (by decide) rfl (by first | ((repeat constructor); done) | exact .same _)⟩) rfl ?_)
              all_goals (first | refine glq rfl (.inl ⟨rfl, q_ldpN ag3 rfl (by repeat (first | exact .here | assumption | (apply HAt.left; assumption) | apply HAt.there | apply HAt.right)) (by first | rfl | assumption | (simp [*]; done) | fail) (by first | rfl | assumption | (simp [*]; done) | fail) (by constructor)⟩) rfl ?_ | refine glq rfl (.inl ⟨rfl, q_ld1N ag3 rfl (by constructor)⟩) rfl ?_)
              all_goals (refine glq rfl (.inl ⟨rfl, q_eql rfl rfl⟩) rfl ?_)
              all_goals (refine glq rfl (.inl ⟨rfl, q_mv (by constructor)⟩) rfl ?_)
              all_goals try (refine gcase (fun hb11 => ?_) (fun hb11 => ?_))
              all_goals first | (exfalso; cases hb11; done) | skip
              all_goals (first | refine glq rfl (.inl ⟨rfl, q_mv (by constructor)⟩) rfl ?_ | refine glq rfl (.inr ⟨rfl, rfl⟩) rfl ?_)
              all_goals (first | refine glq rfl (.inl ⟨rfl, q_mv (by constructor)⟩) rfl ?_ | refine glq rfl (.inr ⟨rfl, rfl⟩) rfl ?_)
              all_goals (first | refine glq rfl (.inl ⟨rfl, q_iaN Try.underlying90 sz103 (.inl rfl) rfl (by omega) (by first | rfl | assumption | (simp [*]; done) | fail) (by first | rfl | assumption | (simp [*]; done) | fail) (by decide) (by first | ((repeat constructor); done) | exact .same _)⟩) rfl ?_ | refine glq rfl (.inl ⟨rfl, q_iaS Try.underlying90 sz103 rfl (by repeat (first | exact .here | assumption | (apply HAt.left; assumption) | apply HAt.there | apply HAt.right)) rfl (by omega) (by omega) (by first | exact Nat.zero_add _ | rfl)⟩) rfl ?_ | refine glq rfl (.inl ⟨rfl, q_iaN Try.underlying90 sz103 (.inr rfl) rfl (by omega) (by first | rfl | assumption | (simp [*]; done) | fail) (by first | rfl | assumption | (simp [*]; done) | fail) (by decide) (by first | ((repeat constructor); done) | exact .same _)⟩) rfl ?_ | refine glq rfl (.inr ⟨rfl, rfl⟩) rfl ?_)
              all_goals (first | refine glq rfl (.inl ⟨rfl, q_fapP fl103_0 (by decide) rfl rfl⟩) rfl ?_ | refine glq rfl (.inl ⟨rfl, q_faP fl103_0 (by decide) rfl (by first | ((repeat constructor); done) | exact .same _)⟩) rfl ?_ | refine glq rfl (.inr ⟨rfl, rfl⟩) rfl ?_)
              all_goals (first | refine glq rfl (.inl ⟨rfl, q_ldpN ag4 rfl (by repeat (first | exact .here | assumption | (apply HAt.left; assumption) | apply HAt.there | apply HAt.right)) (by first | rfl | assumption | (simp [*]; done) | fail) (by first | rfl | assumption | (simp [*]; done) | fail) (by constructor)⟩) rfl ?_ | refine glq rfl (.inl ⟨rfl, q_ld1N ag4 rfl (by constructor)⟩) rfl ?_ | refine glq rfl (.inr ⟨rfl, rfl⟩) rfl ?_)
              all_goals (first | refine glq rfl (.inl ⟨rfl, q_not rfl⟩) rfl ?_ | refine glq rfl (.inr ⟨rfl, rfl⟩) rfl ?_)
              all_goals (first | refine glq rfl (.inl ⟨rfl, q_pickT rfl (by constructor)⟩) rfl ?_ | refine glq rfl (.inl ⟨rfl, q_pickF rfl (by constructor)⟩) rfl ?_)
              all_goals (refine glq rfl (.inl ⟨rfl, q_mv (by constructor)⟩) rfl ?_)
              all_goals try (refine gcase (fun hb19 => ?_) (fun hb19 => ?_))
              all_goals first | (exfalso; cases hb19; done) | skip
              all_goals (first | refine glq rfl (.inl ⟨rfl, q_mv (by constructor)⟩) rfl ?_ | refine glq rfl (.inr ⟨rfl, rfl⟩) rfl ?_)
              all_goals (first | refine glq rfl (.inl ⟨rfl, q_mv (by constructor)⟩) rfl ?_ | refine glq rfl (.inr ⟨rfl, rfl⟩) rfl ?_)
              all_goals (first | refine glq rfl (.inl ⟨rfl, q_iaN Try.underlying90 sz103 (.inl rfl) rfl (by omega) (by first | rfl | assumption | (simp [*]; done) | fail) (by first | rfl | assumption | (simp [*]; done) | fail) (by decide) (by first | ((repeat constructor); done) | exact .same _)⟩) rfl ?_ | refine glq rfl (.inl ⟨rfl, q_iaS Try.underlying90 sz103 rfl (by repeat (first | exact .here | assumption | (apply HAt.left; assumption) | apply HAt.there | apply HAt.right)) rfl (by omega) (by omega) (by first | exact Nat.zero_add _ | rfl)⟩) rfl ?_ | refine glq rfl (.inl ⟨rfl, q_iaN Try.underlying90 sz103 (.inr rfl) rfl (by omega) (by first | rfl | assumption | (simp [*]; done) | fail) (by first | rfl | assumption | (simp [*]; done) | fail) (by decide) (by first | ((repeat constructor); done) | exact .same _)⟩) rfl ?_ | refine glq rfl (.inr ⟨rfl, rfl⟩) rfl ?_)
              all_goals (first | refine glq rfl (.inl ⟨rfl, q_fapP fl103_4 (by decide) rfl rfl⟩) rfl ?_ | refine glq rfl (.inl ⟨rfl, q_faP fl103_4 (by decide) rfl (by first | ((repeat constructor); done) | exact .same _)⟩) rfl ?_ | refine glq rfl (.inr ⟨rfl, rfl⟩) rfl ?_)
              all_goals (first | refine glq rfl (.inl ⟨rfl, q_ldpN ag4 rfl (by repeat (first | exact .here | assumption | (apply HAt.left; assumption) | apply HAt.there | apply HAt.right)) (by first | rfl | assumption | (simp [*]; done) | fail) (by first | rfl | assumption | (simp [*]; done) | fail) (by constructor)⟩) rfl ?_ | refine glq rfl (.inl ⟨rfl, q_ld1N ag4 rfl (by constructor)⟩) rfl ?_ | refine glq rfl (.inr ⟨rfl, rfl⟩) rfl ?_)
              all_goals (first | refine glq rfl (.inl ⟨rfl, q_pickT rfl (by constructor)⟩) rfl ?_ | refine glq rfl (.inl ⟨rfl, q_pickF rfl (by constructor)⟩) rfl ?_)
              all_goals (refine glq rfl (.inl ⟨rfl, q_mv (by constructor)⟩) rfl ?_)
              all_goals try (refine gcase (fun hb26 => ?_) (fun hb26 => ?_))
              all_goals first | (exfalso; cases hb26; done) | skip
              all_goals (first | refine glq rfl (.inl ⟨rfl, q_mv (by constructor)⟩) rfl ?_ | refine glq rfl (.inr ⟨rfl, rfl⟩) rfl ?_)
              all_goals (first | refine glq rfl (.inl ⟨rfl, q_mv (by constructor)⟩) rfl ?_ | refine glq rfl (.inr ⟨rfl, rfl⟩) rfl ?_)
              all_goals (first | refine glq rfl (.inl ⟨rfl, q_mv (by constructor)⟩) rfl ?_ | refine glq rfl (.inr ⟨rfl, rfl⟩) rfl ?_)
              all_goals (first | refine glq rfl (.inl ⟨rfl, q_mv (by constructor)⟩) rfl ?_ | refine glq rfl (.inr ⟨rfl, rfl⟩) rfl ?_)
              all_goals (first | refine glq rfl (.inl ⟨rfl, q_iaN Try.underlying90 sz103 (.inl rfl) rfl (by omega) (by first | rfl | assumption | (simp [*]; done) | fail) (by first | rfl | assumption | (simp [*]; done) | fail) (by decide) (by first | ((repeat constructor); done) | exact .same _)⟩) rfl ?_ | refine glq rfl (.inl ⟨rfl, q_iaS Try.underlying90 sz103 rfl (by repeat (first | exact .here | assumption | (apply HAt.left; assumption) | apply HAt.there | apply HAt.right)) rfl (by omega) (by omega) (by first | exact Nat.zero_add _ | rfl)⟩) rfl ?_ | refine glq rfl (.inl ⟨rfl, q_iaN Try.underlying90 sz103 (.inr rfl) rfl (by omega) (by first | rfl | assumption | (simp [*]; done) | fail) (by first | rfl | assumption | (simp [*]; done) | fail) (by decide) (by first | ((repeat constructor); done) | exact .same _)⟩) rfl ?_ | refine glq rfl (.inr ⟨rfl, rfl⟩) rfl ?_)
              all_goals (first | refine glq rfl (.inl ⟨rfl, q_fapP fl103_2 (by decide) rfl rfl⟩) rfl ?_ | refine glq rfl (.inl ⟨rfl, q_faP fl103_2 (by decide) rfl (by first | ((repeat constructor); done) | exact .same _)⟩) rfl ?_ | refine glq rfl (.inr ⟨rfl, rfl⟩) rfl ?_)
              all_goals (first | refine glq rfl (.inl ⟨rfl, q_ldpN ag3 rfl (by repeat (first | exact .here | assumption | (apply HAt.left; assumption) | apply HAt.there | apply HAt.right)) (by first | rfl | assumption | (simp [*]; done) | fail) (by first | rfl | assumption | (simp [*]; done) | fail) (by constructor)⟩) rfl ?_ | refine glq rfl (.inl ⟨rfl, q_ld1N ag3 rfl (by constructor)⟩) rfl ?_ | refine glq rfl (.inr ⟨rfl, rfl⟩) rfl ?_)
              all_goals (first | refine glq rfl (.inl ⟨rfl, e_callN cb142 (last142_c c k _ (by omega) hc _) rfl rfl⟩) rfl ?_ | refine glq rfl (.inl ⟨rfl, e_callN cb142 (ACall.arg (last142_c c k _ (by omega) hc _) (by repeat (first | exact ArgL.nil | (apply ArgL.cons; (· first | exact .same | exact .cro | exact .nil))))) rfl rfl⟩) rfl ?_ | refine glq rfl (.inr ⟨rfl, rfl⟩) rfl ?_)
              all_goals (first | refine glq rfl (.inl ⟨rfl, q_mv (by constructor)⟩) rfl ?_ | refine glq rfl (.inr ⟨rfl, rfl⟩) rfl ?_)
              all_goals (first | refine glq rfl (.inl ⟨rfl, q_eql rfl rfl⟩) rfl ?_ | refine glq rfl (.inr ⟨rfl, rfl⟩) rfl ?_)
              all_goals (first | refine glq rfl (.inl ⟨rfl, q_pickT rfl (by constructor)⟩) rfl ?_ | refine glq rfl (.inl ⟨rfl, q_pickF rfl (by constructor)⟩) rfl ?_)
              all_goals (first | refine gld0 ?_ | refine gldA ?_)
              all_goals (refine alist_nil ?_)
              all_goals (exact ⟨rfl, .mk' (by repeat (first | exact trivial | refine ⟨rfl, ?_⟩ | (refine ⟨?_, ?_⟩; (· first | (rw [hb11, hb19, hb26]; rfl) | (rw [hb11, hb19]; rfl) | (rw [hb11]; rfl) | fail)))) (by repeat (first | exact .refl _ | exact List.nil_sublist _ | exact List.sublist_append_left _ _ | apply List.Sublist.cons))⟩)
            refine awp_cond rfl (fun hc3 => ?_) (fun hc3 => ?_)
            · have hg : hasGet c n i = true := List.any_eq_true.2 ⟨k, List.mem_range.2 (by omega), by unfold gotB; rw [hc3, decide_eq_true hnk]; rfl⟩
              have hnx : rhand c n (i + 1) = rhand c n i + 1 := by rw [hrn, hp, hg]; rfl
              refine awp_seq ?_
              refine awp_region ?_
              refine aqs rfl (q_mv (by constructor)) rfl ?_
              first | refine aqs rfl (q_add64 rfl rfl (by omega) (by omega)) rfl ?_ | refine aqs rfl (q_add rfl rfl) rfl ?_
              refine aqs rfl (q_as (by constructor)) rfl ?_
              refine alist_nil ?_
              show AWP _ _ _ _
              refine awp_exit ?_
              show AWP _ _ _ _
              refine awp_region ?_
              refine aqs rfl (q_mv (by constructor)) rfl ?_
              first | refine aqs rfl (q_add64 rfl rfl (by omega) (by omega)) rfl ?_ | refine aqs rfl (q_add rfl rfl) rfl ?_
              refine aqs rfl (q_as (by constructor)) rfl ?_
              refine alist_nil ?_
              show ∃ y, _ ∧ _ ∧ _
              first
                | exact ⟨i + 1, by omega, by omega, .mk' ⟨by rfl, (by show AV.lit (.int .i64 _) = AV.lit (.int .i64 _); rw [hnx]; rfl), rfl, rfl, trivial⟩ (.refl _)⟩
                | exact ⟨i + 1, by omega, by omega, .mk' ⟨by rfl, (by show AV.lit (.int .i64 _) = AV.lit (.int .i64 _); rw [hnx]), rfl, rfl, trivial⟩ (.refl _)⟩
            · have hno : gotB c n i k = false := by unfold gotB; rw [hc3]; simp
              refine awp_skip ?_
              show AWP _ _ _ _
              refine awp_region ?_
              refine aqs rfl (q_mv (by constructor)) rfl ?_
              first | refine aqs rfl (q_add64 rfl rfl (by omega) (by omega)) rfl ?_ | refine aqs rfl (q_add rfl rfl) rfl ?_
              refine aqs rfl (q_as (by constructor)) rfl ?_
              refine alist_nil ?_
              show ∃ y, _ ∧ _ ∧ _
              exact ⟨k + 1, ⟨by omega, by omega, upto hall hno⟩, by omega, .mk' ⟨by rfl, rfl, rfl, rfl, rfl, trivial⟩ (.refl _)⟩
          · simp only [decide_eq_false_iff_not, List.length_map] at hc2
            have hg : hasGet c n i = false := by
              unfold hasGet
              rw [List.any_eq_false]
              intro m hm
              rw [hall m (by have := List.mem_range.1 hm; omega)]; simp
            have hnx : rhand c n (i + 1) = rhand c n i := by rw [hrn, hg]; simp
            refine awp_exit ?_
            show AWP _ _ _ _
            refine awp_region ?_
            refine aqs rfl (q_mv (by constructor)) rfl ?_
            first | refine aqs rfl (q_add64 rfl rfl (by omega) (by omega)) rfl ?_ | refine aqs rfl (q_add rfl rfl) rfl ?_
            refine aqs rfl (q_as (by constructor)) rfl ?_
            refine alist_nil ?_
            show ∃ y, _ ∧ _ ∧ _
            first
              | exact ⟨i + 1, by omega, by omega, .mk' ⟨by rfl, (by show AV.lit (.int .i64 _) = AV.lit (.int .i64 _); rw [hnx]; rfl), rfl, rfl, trivial⟩ (.refl _)⟩
              | exact ⟨i + 1, by omega, by omega, .mk' ⟨by rfl, (by show AV.lit (.int .i64 _) = AV.lit (.int .i64 _); rw [hnx]), rfl, rfl, trivial⟩ (.refl _)⟩
    · simp only [decide_eq_false_iff_not] at hc0
      obtain rfl : i = n + 1 := by omega
      refine awp_exit ?_
      show AWP _ _ _ _
      refine awp_seq ?_
      refine awp_region ?_
      refine aqs rfl (q_mv (by constructor)) rfl ?_
      refine aqs rfl (q_as (by constructor)) rfl ?_
      refine alist_nil ?_
      show AWP _ _ _ _
      refine awp_ret ?_
      repeat first | with_reducible refine then_ret ?_ | with_reducible refine blk_ret ?_
      apply retq (.inr rfl) (.cons (rok_t rfl) .nil)
      rotate_left
      · exact ⟨rfl, rfl⟩
      repeat (first | exact List.Sublist.refl _ | exact List.nil_sublist _ | exact List.sublist_append_left _ _ | apply List.Sublist.cons)
set_option maxHeartbeats 4000000 in
theorem legal88_c (c : List Call) (r : Int) (hc : c.length ≤ 100000) (H : Heap) : QCall Try.prog 88 [.ro (c.map Call.cells), .lit (.int .i64 r)] H (.lit (.bool (legal c r))) := by
  refine acall_intro (n := 62) (rvs := [.tmp 4]) Try.func88 rfl rfl rfl (Nat.le_of_ble_eq_true rfl) ?_
  refine awp_seq ?_
  refine awp_region ?_
  refine aqs rfl (q_as (by constructor)) rfl ?_
  refine alist_nil ?_
  show AWP _ _ _ _
  refine awp_seq ?_
  refine awp_seq ?_
  refine awp_region ?_
  refine aqs rfl (q_as (by constructor)) rfl ?_
  refine alist_nil ?_
  show AWP _ _ _ _
  refine awp_block ?_
  refine awp_loop_inv (fun i : Nat => ⟨[(5, .lit (.int .i64 i)), (0, .ro (c.map Call.cells)), (1, .lit (.int .i64 r))], 62, H⟩) (fun i => i ≤ c.length ∧ ∀ j, j < i → valOk c j = true ∧ (rhand c j (j + 1) : Int) ≤ r) (fun i => c.length - i) 0 ?_ ?_ ?_
  · exact ⟨Nat.zero_le _, fun j h => absurd h (Nat.not_lt_zero _)⟩
  · exact .mk' (by repeat (first | exact trivial | refine ⟨rfl, ?_⟩)) (by repeat (first | exact .refl _ | apply List.Sublist.cons_cons | apply List.Sublist.cons))
  · rintro i ⟨hi, hall⟩
    refine awp_seq ?_
    refine awp_seq ?_
    refine awp_region ?_
    refine aqs rfl (q_mv (by constructor)) rfl ?_
    refine aqs rfl (q_mv (by constructor)) rfl ?_
    first | refine aqs rfl (q_len Try.underlying90 .ro) rfl ?_ | refine aqs rfl (q_lenO Try.underlying90 rfl (by repeat (first | exact .here | assumption | (apply HAt.left; assumption) | apply HAt.there | apply HAt.right)) (by first | omega | (simp; done) | (simp; omega) | fail) (by first | exact Nat.sub_zero _ | rfl)) rfl ?_ | refine aqs rfl (q_len Try.underlying90 .nil) rfl ?_ | refine aqs rfl (q_len Try.underlying90 .cro) rfl ?_
    refine aqs rfl (q_lss rfl rfl) rfl ?_
    refine alist_nil ?_
    show AWP _ _ _ _
    refine awp_cond rfl (fun hc0 => ?_) (fun hc0 => ?_)
    · simp only [decide_eq_true_eq, List.length_map] at hc0
      have hs2 := get_map (f := Call.cells) (nth_get (c := c) (i := i) (by omega))
      have hvl := valOk_last (c := c) (k := i) (by omega)
      obtain ⟨L, hL⟩ : ∃ L, L = lastI c i (nth c i).key := ⟨_, rfl⟩
      have hLn : L < 0 ↔ lastS c i (nth c i).key = none := by
        rw [hL, lastI]
        cases lastS c i (nth c i).key with
        | none => simp
        | some p => simp
      have hLs : 0 ≤ L → lastS c i (nth c i).key = some L.toNat ∧ L.toNat < c.length := fun h0 => by
        rw [hL, lastI] at h0 ⊢
        cases hls : lastS c i (nth c i).key with
        | none => rw [hls] at h0; simp at h0
        | some p => have := (last_some hls).1; exact ⟨by simp, by simp; omega⟩
      refine awp_skip ?_
      show AWP _ _ _ _
      refine awp_seq ?_
      refine awp_block ?_
      refine awp_join (fun _ : Unit => ⟨[(5, .lit (.int .i64 i)), (0, .ro (c.map Call.cells)), (1, .lit (.int .i64 r))], 62, H⟩) (fun _ => valOk c i = true) ?_ ?_
      · skip
        refine awp_mid [(25, .lit (.bool (isHas (nth c i)))), (5, .lit (.int .i64 i)), (0, .ro (c.map Call.cells)), (1, .lit (.int .i64 r))] ?_ ?_
        · skip
          refine awp_region ?_
          all_goals (refine aqs rfl (q_mv (by constructor)) rfl ?_)
          all_goals (refine aqs rfl (q_mv (by constructor)) rfl ?_)
          all_goals (first | refine aqs rfl (q_iaN Try.underlying90 sz103 (.inl rfl) rfl (by omega) (by first | rfl | assumption | (simp [*]; done) | fail) (by first | rfl | assumption | (simp [*]; done) | fail) (by decide) (by first | ((repeat constructor); done) | exact .same _)) rfl ?_ | refine aqs rfl (q_iaS Try.underlying90 sz103 rfl (by repeat (first | exact .here | assumption | (apply HAt.left; assumption) | apply HAt.there | apply HAt.right)) rfl (by omega) (by omega) (by first | exact Nat.zero_add _ | rfl)) rfl ?_ | refine aqs rfl (q_iaN Try.underlying90 sz103 (.inr rfl) rfl (by omega) (by first | rfl | assumption | (simp [*]; done) | fail) (by first | rfl | assumption | (simp [*]; done) | fail) (by decide) (by first | ((repeat constructor); done) | exact .same _)) rfl ?_)
          all_goals (first | refine aqs rfl (q_fapP fl103_0 (by decide) rfl rfl) rfl ?_ | refine aqs rfl (q_faP fl103_0 (by decide) rfl (by first | ((repeat constructor); done) | exact .same _)) rfl ?_)
          all_goals (first | refine aqs rfl (q_ldpN ag4 rfl (by repeat (first | exact .here | assumption | (apply HAt.left; assumption) | apply HAt.there | apply HAt.right)) (by first | rfl | assumption | (simp [*]; done) | fail) (by first | rfl | assumption | (simp [*]; done) | fail) (by constructor)) rfl ?_ | refine aqs rfl (q_ld1N ag4 rfl (by constructor)) rfl ?_)
          all_goals (refine aqs rfl (q_not rfl) rfl ?_)
          all_goals (refine aqs rfl (q_mv (by constructor)) rfl ?_)
          all_goals try (refine acase (fun hb6 => ?_) (fun hb6 => ?_))
          all_goals first | (exfalso; cases hb6; done) | skip
          all_goals (first | refine ans rfl rfl ?_ | refine aqs rfl (q_mv (by constructor)) rfl ?_)
          all_goals (first | refine ans rfl rfl ?_ | refine aqs rfl (q_mv (by constructor)) rfl ?_)
          all_goals (first | refine ans rfl rfl ?_ | refine aqs rfl (q_iaN Try.underlying90 sz103 (.inl rfl) rfl (by omega) (by first | rfl | assumption | (simp [*]; done) | fail) (by first | rfl | assumption | (simp [*]; done) | fail) (by decide) (by first | ((repeat constructor); done) | exact .same _)) rfl ?_ | refine aqs rfl (q_iaS Try.underlying90 sz103 rfl (by repeat (first | exact .here | assumption | (apply HAt.left; assumption) | apply HAt.there | apply HAt.right)) rfl (by omega) (by omega) (by first | exact Nat.zero_add _ | rfl)) rfl ?_ | refine aqs rfl (q_iaN Try.underlying90 sz103 (.inr rfl) rfl (by omega) (by first | rfl | assumption | (simp [*]; done) | fail) (by first | rfl | assumption | (simp [*]; done) | fail) (by decide) (by first | ((repeat constructor); done) | exact .same _)) rfl ?_)
          all_goals (first | refine ans rfl rfl ?_ | refine aqs rfl (q_fapP fl103_4 (by decide) rfl rfl) rfl ?_ | refine aqs rfl (q_faP fl103_4 (by decide) rfl (by first | ((repeat constructor); done) | exact .same _)) rfl ?_)
          all_goals (first | refine ans rfl rfl ?_ | refine aqs rfl (q_ldpN ag4 rfl (by repeat (first | exact .here | assumption | (apply HAt.left; assumption) | apply HAt.there | apply HAt.right)) (by first | rfl | assumption | (simp [*]; done) | fail) (by first | rfl | assumption | (simp [*]; done) | fail) (by constructor)) rfl ?_ | refine aqs rfl (q_ld1N ag4 rfl (by constructor)) rfl ?_)
          all_goals (first | refine aqs rfl (q_pickT rfl (by constructor)) rfl ?_ | refine aqs rfl (q_pickF rfl (by constructor)) rfl ?_)
          all_goals (refine alist_nil ?_)
          all_goals (exact ⟨rfl, .mk' (by repeat (first | exact trivial | refine ⟨rfl, ?_⟩ | (refine ⟨?_, ?_⟩; (· show AV.lit (.bool _) = AV.lit (.bool (isHas (nth c i))); unfold isHas; first | (rw [hb6]; rfl) | fail)))) (by repeat (first | exact .refl _ | exact List.nil_sublist _ | exact List.sublist_append_left _ _ | apply List.Sublist.cons))⟩)
        refine awp_cond rfl (fun hc1 => ?_) (fun hc1 => ?_)
        · skip
          refine awp_seq ?_
          refine awp_region ?_
          refine aqs rfl (q_mv (by constructor)) rfl ?_
          refine aqs rfl (q_mv (by constructor)) rfl ?_
          refine aqs rfl (q_mv (by constructor)) rfl ?_
          refine aqs rfl (q_mv (by constructor)) rfl ?_
          first | refine aqs rfl (q_iaN Try.underlying90 sz103 (.inl rfl) rfl (by omega) (by first | rfl | assumption | (simp [*]; done) | fail) (by first | rfl | assumption | (simp [*]; done) | fail) (by decide) (by first | ((repeat constructor); done) | exact .same _)) rfl ?_ | refine aqs rfl (q_iaS Try.underlying90 sz103 rfl (by repeat (first | exact .here | assumption | (apply HAt.left; assumption) | apply HAt.there | apply HAt.right)) rfl (by omega) (by omega) (by first | exact Nat.zero_add _ | rfl)) rfl ?_ | refine aqs rfl (q_iaN Try.underlying90 sz103 (.inr rfl) rfl (by omega) (by first | rfl | assumption | (simp [*]; done) | fail) (by first | rfl | assumption | (simp [*]; done) | fail) (by decide) (by first | ((repeat constructor); done) | exact .same _)) rfl ?_
          first | refine aqs rfl (q_fapP fl103_2 (by decide) rfl rfl) rfl ?_ | refine aqs rfl (q_faP fl103_2 (by decide) rfl (by first | ((repeat constructor); done) | exact .same _)) rfl ?_
          first | refine aqs rfl (q_ldpN ag3 rfl (by repeat (first | exact .here | assumption | (apply HAt.left; assumption) | apply HAt.there | apply HAt.right)) (by first | rfl | assumption | (simp [*]; done) | fail) (by first | rfl | assumption | (simp [*]; done) | fail) (by constructor)) rfl ?_ | refine aqs rfl (q_ld1N ag3 rfl (by constructor)) rfl ?_
          first | refine aqs rfl (e_callN cb142 (hL ▸ last142_c c i _ (by omega) (by omega) _) rfl rfl) rfl ?_ | refine aqs rfl (e_callN cb142 (ACall.arg (hL ▸ last142_c c i _ (by omega) (by omega) _) (by repeat (first | exact ArgL.nil | (apply ArgL.cons; (· first | exact .same | exact .cro | exact .nil))))) rfl rfl) rfl ?_
          refine aqs rfl (q_as (by constructor)) rfl ?_
          refine alist_nil ?_
          show AWP _ _ _ _
          refine awp_mid [(56, .lit (.bool ((decide (L < 0) || !(nth c L.toNat).put) || !decide ((nth c L.toNat).val = (nth c i).val)))), (5, .lit (.int .i64 i)), (0, .ro (c.map Call.cells)), (1, .lit (.int .i64 r))] ?_ ?_
          · skip
            refine awp_draw 23 [(0, false), (1, false), (2, false), (3, false), (4, false), (5, false), (6, false), (7, false), (8, false), (9, false), (10, false), (11, false), (12, false), (13, false), (14, false), (15, false), (16, false), (17, false), (18, false), (19, false), (20, false), (21, false), (22, false)] _ ([]) mixed (by kernel_rfl) (perm0 _) ?_
            all_goals (refine glq rfl (.inl ⟨rfl, q_mv (by constructor)⟩) rfl ?_)
            all_goals (refine glq rfl (.inl ⟨rfl, q_lss rfl rfl⟩) rfl ?_)
            all_goals (refine glq rfl (.inl ⟨rfl, q_mv (by constructor)⟩) rfl ?_)
            all_goals try (refine gcase (fun hb2 => ?_) (fun hb2 => ?_))
            all_goals first | (exfalso; cases hb2; done) | skip
            all_goals try (have hL0 : 0 ≤ L := (by simpa using hb2); have hLg := get_map (f := Call.cells) (nth_get (hLs hL0).2); have hLl := (hLs hL0).2)
            all_goals (first | refine glq rfl (.inl ⟨rfl, q_mv (by constructor)⟩) rfl ?_ | refine glq rfl (.inr ⟨rfl, rfl⟩) rfl ?_)
            all_goals (first | refine glq rfl (.inl ⟨rfl, q_mv (by constructor)⟩) rfl ?_ | refine glq rfl (.inr ⟨rfl, rfl⟩) rfl ?_)
            all_goals (first | refine glq rfl (.inl ⟨rfl, q_iaN Try.underlying90 sz103 (.inl rfl) rfl (by omega) (by first | rfl | assumption | (simp [*]; done) | fail) (by first | rfl | assumption | (simp [*]; done) | fail) (by decide) (by first | ((repeat constructor); done) | exact .same _)⟩) rfl ?_ | refine glq rfl (.inl ⟨rfl, q_iaS Try.underlying90 sz103 rfl (by repeat (first | exact .here | assumption | (apply HAt.left; assumption) | apply HAt.there | apply HAt.right)) rfl (by omega) (by omega) (by first | exact Nat.zero_add _ | rfl)⟩) rfl ?_ | refine glq rfl (.inl ⟨rfl, q_iaN Try.underlying90 sz103 (.inr rfl) rfl (by omega) (by first | rfl | assumption | (simp [*]; done) | fail) (by first | rfl | assumption | (simp [*]; done) | fail) (by decide) (by first | ((repeat constructor); done) | exact .same _)⟩) rfl ?_ | refine glq rfl (.inr ⟨rfl, rfl⟩) rfl ?_)
            all_goals (first | refine glq rfl (.inl ⟨rfl, q_fapP fl103_0 (by decide) rfl rfl⟩) rfl ?_ | refine glq rfl (.inl ⟨rfl, q_faP fl103_0 (by decide) rfl (by first | ((repeat constructor); done) | exact .same _)⟩) rfl ?_ | refine glq rfl (.inr ⟨rfl, rfl⟩) rfl ?_)
            all_goals (first | refine glq rfl (.inl ⟨rfl, q_ldpN ag4 rfl (by repeat (first | exact .here | assumption | (apply HAt.left; assumption) | apply HAt.there | apply HAt.right)) (by first | rfl | assumption | (simp [*]; done) | fail) (by first | rfl | assumption | (simp [*]; done) | fail) (by constructor)⟩) rfl ?_ | refine glq rfl (.inl ⟨rfl, q_ld1N ag4 rfl (by constructor)⟩) rfl ?_ | refine glq rfl (.inr ⟨rfl, rfl⟩) rfl ?_)
            all_goals (first | refine glq rfl (.inl ⟨rfl, q_not rfl⟩) rfl ?_ | refine glq rfl (.inr ⟨rfl, rfl⟩) rfl ?_)
            all_goals (first | refine glq rfl (.inl ⟨rfl, q_pickT rfl (by constructor)⟩) rfl ?_ | refine glq rfl (.inl ⟨rfl, q_pickF rfl (by constructor)⟩) rfl ?_)
            all_goals (refine glq rfl (.inl ⟨rfl, q_mv (by constructor)⟩) rfl ?_)
            all_goals try (refine gcase (fun hb10 => ?_) (fun hb10 => ?_))
            all_goals first | (exfalso; cases hb10; done) | skip
            all_goals (first | refine glq rfl (.inl ⟨rfl, q_mv (by constructor)⟩) rfl ?_ | refine glq rfl (.inr ⟨rfl, rfl⟩) rfl ?_)
            all_goals (first | refine glq rfl (.inl ⟨rfl, q_mv (by constructor)⟩) rfl ?_ | refine glq rfl (.inr ⟨rfl, rfl⟩) rfl ?_)
            all_goals (first | refine glq rfl (.inl ⟨rfl, q_iaN Try.underlying90 sz103 (.inl rfl) rfl (by omega) (by first | rfl | assumption | (simp [*]; done) | fail) (by first | rfl | assumption | (simp [*]; done) | fail) (by decide) (by first | ((repeat constructor); done) | exact .same _)⟩) rfl ?_ | refine glq rfl (.inl ⟨rfl, q_iaS Try.underlying90 sz103 rfl (by repeat (first | exact .here | assumption | (apply HAt.left; assumption) | apply HAt.there | apply HAt.right)) rfl (by omega) (by omega) (by first | exact Nat.zero_add _ | rfl)⟩) rfl ?_ | refine glq rfl (.inl ⟨rfl, q_iaN Try.underlying90 sz103 (.inr rfl) rfl (by omega) (by first | rfl | assumption | (simp [*]; done) | fail) (by first | rfl | assumption | (simp [*]; done) | fail) (by decide) (by first | ((repeat constructor); done) | exact .same _)⟩) rfl ?_ | refine glq rfl (.inr ⟨rfl, rfl⟩) rfl ?_)
            all_goals (first | refine glq rfl (.inl ⟨rfl, q_fapP fl103_3 (by decide) rfl rfl⟩) rfl ?_ | refine glq rfl (.inl ⟨rfl, q_faP fl103_3 (by decide) rfl (by first | ((repeat constructor); done) | exact .same _)⟩) rfl ?_ | refine glq rfl (.inr ⟨rfl, rfl⟩) rfl ?_)
            all_goals (first | refine glq rfl (.inl ⟨rfl, q_ldpN ag3 rfl (by repeat (first | exact .here | assumption | (apply HAt.left; assumption) | apply HAt.there | apply HAt.right)) (by first | rfl | assumption | (simp [*]; done) | fail) (by first | rfl | assumption | (simp [*]; done) | fail) (by constructor)⟩) rfl ?_ | refine glq rfl (.inl ⟨rfl, q_ld1N ag3 rfl (by constructor)⟩) rfl ?_ | refine glq rfl (.inr ⟨rfl, rfl⟩) rfl ?_)
            all_goals (first | refine glq rfl (.inl ⟨rfl, q_mv (by constructor)⟩) rfl ?_ | refine glq rfl (.inr ⟨rfl, rfl⟩) rfl ?_)
            all_goals (first | refine glq rfl (.inl ⟨rfl, q_mv (by constructor)⟩) rfl ?_ | refine glq rfl (.inr ⟨rfl, rfl⟩) rfl ?_)
            all_goals (first | refine glq rfl (.inl ⟨rfl, q_iaN Try.underlying90 sz103 (.inl rfl) rfl (by omega) (by first | rfl | assumption | (simp [*]; done) | fail) (by first | rfl | assumption | (simp [*]; done) | fail) (by decide) (by first | ((repeat constructor); done) | exact .same _)⟩) rfl ?_ | refine glq rfl (.inl ⟨rfl, q_iaS Try.underlying90 sz103 rfl (by repeat (first | exact .here | assumption | (apply HAt.left; assumption) | apply HAt.there | apply HAt.right)) rfl (by omega) (by omega) (by first | exact Nat.zero_add _ | rfl)⟩) rfl ?_ | refine glq rfl (.inl ⟨rfl, q_iaN Try.underlying90 sz103 (.inr rfl) rfl (by omega) (by first | rfl | assumption | (simp [*]; done) | fail) (by first | rfl | assumption | (simp [*]; done) | fail) (by decide) (by first | ((repeat constructor); done) | exact .same _)⟩) rfl ?_ | refine glq rfl (.inr ⟨rfl, rfl⟩) rfl ?_)
            all_goals (first | refine glq rfl (.inl ⟨rfl, q_fapP fl103_3 (by decide) rfl rfl⟩) rfl ?_ | refine glq rfl (.inl ⟨rfl, q_faP fl103_3 (by decide) rfl (by first | ((repeat constructor); done) | exact .same _)⟩) rfl ?_ | refine glq rfl (.inr ⟨rfl, rfl⟩) rfl ?_)
            all_goals (first | refine glq rfl (.inl ⟨rfl, q_ldpN ag3 rfl (by repeat (first | exact .here | assumption | (apply HAt.left; assumption) | apply HAt.there | apply HAt.right)) (by first | rfl | assumption | (simp [*]; done) | fail) (by first | rfl | assumption | (simp [*]; done) | fail) (by constructor)⟩) rfl ?_ | refine glq rfl (.inl ⟨rfl, q_ld1N ag3 rfl (by constructor)⟩) rfl ?_ | refine glq rfl (.inr ⟨rfl, rfl⟩) rfl ?_)
            all_goals (first | refine glq rfl (.inl ⟨rfl, q_neq rfl rfl⟩) rfl ?_ | refine glq rfl (.inr ⟨rfl, rfl⟩) rfl ?_)
            all_goals (first | refine glq rfl (.inl ⟨rfl, q_pickT rfl (by constructor)⟩) rfl ?_ | refine glq rfl (.inl ⟨rfl, q_pickF rfl (by constructor)⟩) rfl ?_)
            all_goals (first | refine gld0 ?_ | refine gldA ?_)
            all_goals (refine alist_nil ?_)
            all_goals (exact ⟨rfl, .mk' (by repeat (first | exact trivial | refine ⟨rfl, ?_⟩ | (refine ⟨?_, ?_⟩; (· first | (rw [hb2, hb10]; rfl) | (rw [hb2]; rfl) | fail)))) (by repeat (first | exact .refl _ | exact List.nil_sublist _ | exact List.sublist_append_left _ _ | apply List.Sublist.cons))⟩)
          refine awp_cond rfl (fun hc2 => ?_) (fun hc2 => ?_)
          · have hbad : valOk c i = false := by
              rw [Bool.eq_false_iff]
              intro hv
              obtain ⟨p, p1, p2, p3⟩ := hvl.1 hv hc1
              have h0 : ¬ L < 0 := fun h => by rw [hLn.1 h] at p1; cases p1
              have h1 := (hLs (by omega)).1
              rw [p1] at h1
              injection h1 with h1
              rw [← h1, p2, p3] at hc2
              simp [h0] at hc2
            have e : legal c r = false := by
              rw [Bool.eq_false_iff]
              intro hl
              rw [(legal_iff.1 hl).1 i (by omega)] at hbad
              cases hbad
            rw [e]
            refine awp_seq ?_
            refine awp_region ?_
            refine aqs rfl (q_as (by constructor)) rfl ?_
            refine alist_nil ?_
            show AWP _ _ _ _
            refine awp_ret ?_
            repeat first | with_reducible refine then_ret ?_ | with_reducible refine blk_ret ?_
            apply retq (.inr rfl) (.cons (rok_t rfl) .nil)
            rotate_left
            · exact ⟨rfl, rfl⟩
            repeat (first | exact List.Sublist.refl _ | exact List.nil_sublist _ | exact List.sublist_append_left _ _ | apply List.Sublist.cons)
          · have hok : valOk c i = true := hvl.2 fun _ => by
              simp only [Bool.or_eq_false_iff, decide_eq_false_iff_not, Bool.not_eq_false', decide_eq_true_eq] at hc2
              exact ⟨L.toNat, (hLs (by omega)).1, hc2.1.2, hc2.2⟩
            refine awp_skip ?_
            show ∃ y, _ ∧ _
            exact ⟨(), hok, .mk' ⟨by rfl, rfl, rfl, trivial⟩ (.refl _)⟩
        · have hok : valOk c i = true := hvl.2 fun h => by rw [hc1] at h; cases h
          refine awp_skip ?_
          show ∃ y, _ ∧ _
          exact ⟨(), hok, .mk' ⟨by rfl, rfl, rfl, trivial⟩ (.refl _)⟩
      intro _ hok
      show AWP _ _ _ ⟨_, _, _⟩
      refine awp_seq ?_
      refine awp_region ?_
      refine aqs rfl (q_mv (by constructor)) rfl ?_
      refine aqs rfl (q_mv (by constructor)) rfl ?_
      first | refine aqs rfl (e_callN cb143 (hand143_c c i (by omega) (by omega) _) rfl rfl) rfl ?_ | refine aqs rfl (e_callN cb143 (ACall.arg (hand143_c c i (by omega) (by omega) _) (by repeat (first | exact ArgL.nil | (apply ArgL.cons; (· first | exact .same | exact .cro | exact .nil))))) rfl rfl) rfl ?_
      refine aqs rfl (q_mv (by constructor)) rfl ?_
      refine aqs rfl (q_gtr rfl rfl) rfl ?_
      refine alist_nil ?_
      show AWP _ _ _ _
      refine awp_cond rfl (fun hc3 => ?_) (fun hc3 => ?_)
      · have hgt : r < (rhand c i (i + 1) : Int) := by simpa using hc3
        have e : legal c r = false := by
          rw [Bool.eq_false_iff]
          intro hl
          have h1 := legal_iff.1 hl
          have h2 := h1.2 i (by omega)
          rw [← rhand_eq h1.1 (by omega)] at h2
          omega
        rw [e]
        refine awp_seq ?_
        refine awp_region ?_
        refine aqs rfl (q_as (by constructor)) rfl ?_
        refine alist_nil ?_
        show AWP _ _ _ _
        refine awp_ret ?_
        repeat first | with_reducible refine then_ret ?_ | with_reducible refine blk_ret ?_
        apply retq (.inr rfl) (.cons (rok_t rfl) .nil)
        rotate_left
        · exact ⟨rfl, rfl⟩
        repeat (first | exact List.Sublist.refl _ | exact List.nil_sublist _ | exact List.sublist_append_left _ _ | apply List.Sublist.cons)
      · have hle : (rhand c i (i + 1) : Int) ≤ r := by
          have : ¬ r < (rhand c i (i + 1) : Int) := by simpa using hc3
          omega
        refine awp_skip ?_
        show AWP _ _ _ _
        refine awp_region ?_
        refine aqs rfl (q_mv (by constructor)) rfl ?_
        first | refine aqs rfl (q_add64 rfl rfl (by omega) (by omega)) rfl ?_ | refine aqs rfl (q_add rfl rfl) rfl ?_
        refine aqs rfl (q_as (by constructor)) rfl ?_
        refine alist_nil ?_
        show ∃ y, _ ∧ _ ∧ _
        exact ⟨i + 1, ⟨by omega, upto (p := fun j => valOk c j = true ∧ (rhand c j (j + 1) : Int) ≤ r) hall ⟨hok, hle⟩⟩, by omega, .mk' ⟨by rfl, rfl, rfl, trivial⟩ (.refl _)⟩
    · simp only [decide_eq_false_iff_not, List.length_map] at hc0
      have e : legal c r = true := legal_iff.2 ⟨fun k hk => (hall k (by omega)).1, fun j hj => by
        rw [← rhand_eq (fun k hk => (hall k (by omega)).1) hj]
        exact (hall j (by omega)).2⟩
      rw [e]
      refine awp_exit ?_
      show AWP _ _ _ _
      refine awp_seq ?_
      refine awp_region ?_
      refine aqs rfl (q_as (by constructor)) rfl ?_
      refine alist_nil ?_
      show AWP _ _ _ _
      refine awp_ret ?_
      repeat first | with_reducible refine then_ret ?_ | with_reducible refine blk_ret ?_
      apply retq (.inr rfl) (.cons (rok_t rfl) .nil)
      rotate_left
      · exact ⟨rfl, rfl⟩
      repeat (first | exact List.Sublist.refl _ | exact List.nil_sublist _ | exact List.sublist_append_left _ _ | apply List.Sublist.cons)
theorem any_no {n : Nat} {f : Nat → Bool} (h : ∀ j, j < n → f j = false) : (List.range n).any f = false := by
  rw [List.any_eq_false]
  intro m hm
  rw [h m (List.mem_range.1 hm)]; simp
theorem any_yes {n i : Nat} {f : Nat → Bool} (hi : i < n) (h : f i = true) : (List.range n).any f = true := List.any_eq_true.2 ⟨i, List.mem_range.2 hi, h⟩
structure Ord (c : List Call) (o : List Nat) : Prop where
  nodup : o.Nodup
  lt : ∀ i ∈ o, i < c.length
theorem Ord.len {c : List Call} {o : List Nat} (h : Ord c o) : o.length ≤ c.length := by
  have := len_sub (m := List.range c.length) h.nodup (fun x hx => List.mem_range.2 (h.lt x hx))
  rwa [List.length_range] at this
theorem Ord.next {c : List Call} {o : List Nat} (h : Ord c o) {i : Nat} (hi : i < c.length) (hn : i ∉ o) : Ord c (o ++ [i]) :=
  ⟨by rw [List.nodup_append]; exact ⟨h.nodup, by simp, fun a ha b hb e => by simp at hb; subst hb; subst e; exact hn ha⟩, fun j hj => by
    rcases List.mem_append.1 hj with hj | hj
    · exact h.lt j hj
    · simp at hj; subst hj; exact hi⟩
end Go.Proofs.YtdlinfekifnmkaaAm
