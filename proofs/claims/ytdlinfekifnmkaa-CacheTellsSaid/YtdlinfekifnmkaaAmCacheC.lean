/- Contracts of the layer 'cache', third part: what is the same, memory of one's own, counts, New. Conditions: the lengths. -/
import Derived.Test.YtdlinfekifnmkaaAmCacheB
set_option linter.unusedVariables false
set_option linter.unusedSimpArgs false
set_option maxRecDepth 20000
namespace Go.Proofs.YtdlinfekifnmkaaAm
open Go.Proofs
section
variable {P : Program} {d : Option Tmp} {ty : TypeId} {pos : String} {af : Array Edge} {g : Option (Nat × Bool)} {ev : Operand → AV} {H : Heap}
theorem q_nc {x : Operand} {u i off : Nat} {r : AV} (hx : ev x = .ptr u i off) (hr : NV (ev x) r) : QOp P ⟨d, .nilCheck x, ty, pos, af, g⟩ ev H r :=
  qop_of fun C a ok hh he => by
    have h1 := he x (by simp [Op.operands])
    refine ⟨C, a.eval x, ?_, ok, Le.refl _ _, by rw [← hr.eq]; exact h1⟩
    rw [hx] at h1
    obtain ⟨ad, e⟩ : ∃ ad, a.eval x = .pointer (some ad) := by
      generalize a.eval x = v at h1
      cases h1 with
      | ptr hu ha => exact ⟨_, rfl⟩
    simp [execOp, e]
end
theorem cach_eq {a b : Cach} (h : a.width = b.width ∧ a.room = b.room ∧ a.hits = b.hits ∧ a.misses = b.misses ∧ a.clashes = b.clashes ∧ a.evicted = b.evicted) (hp : a.parts = b.parts) : a = b := by
  cases a; cases b
  simp at h hp ⊢
  exact ⟨h.1, h.2.1, hp, h.2.2⟩
set_option maxHeartbeats 4000000 in
theorem same109_c (a b : Cach) (ha : CLen a) (hb : CLen b) (H : Heap) : QCall Try.prog 109 [.agg a.cells, .agg b.cells] H (.lit (.bool (decide (a = b)))) := by
  refine QCall.any H ?_
  have han := ha.n
  have hbn := hb.n
  have hal : (a.parts.map partCells).length = a.parts.length := List.length_map ..
  have hbl : (b.parts.map partCells).length = b.parts.length := List.length_map ..
  refine acall_intro (n := 76) (rvs := [.tmp 4]) Try.func109 rfl rfl rfl (Nat.le_of_ble_eq_true rfl) ?_
  refine awp_seq ?_
  refine awp_region ?_
  (refine aes rfl (e_bx (by constructor) rfl rfl) rfl ?_; rintro _ _ ⟨u2, rfl, rfl⟩)
  (refine aes rfl (e_bx (by constructor) rfl rfl) rfl ?_; rintro _ _ ⟨u3, rfl, rfl⟩)
  refine aqs rfl (q_as (by constructor)) rfl ?_
  refine alist_nil ?_
  show AWP _ _ _ _
  refine awp_seq ?_
  refine awp_mid [(55, .lit (.bool ((((((!decide (a.width = b.width) || !decide (a.room = b.room)) || !decide (a.hits = b.hits)) || !decide (a.misses = b.misses)) || !decide (a.clashes = b.clashes)) || !decide (a.evicted = b.evicted)) || !decide ((a.parts.length : Int) = (b.parts.length : Int))))), (2, .ptr u2 0 0), (3, .ptr u3 0 0)] ?_ ?_
  ·skip
   refine awp_region ?_
   all_goals (first | refine aqs rfl (q_fapP fl136_0 (by decide) rfl rfl) rfl ?_ | refine aqs rfl (q_faP fl136_0 (by decide) rfl (by first | ((repeat constructor); done) | exact .same _)) rfl ?_)
   all_goals (first | refine aqs rfl (q_ldpN ag3 rfl (by repeat (first | exact .here | assumption | (apply HAt.left; assumption) | apply HAt.there | apply HAt.right)) (by first | rfl | assumption | (simp [*]; done) | fail) (by first | rfl | assumption | (simp [*]; done) | fail) (by constructor)) rfl ?_ | refine aqs rfl (q_ld1N ag3 rfl (by constructor)) rfl ?_)
   all_goals (first | refine aqs rfl (q_fapP fl136_0 (by decide) rfl rfl) rfl ?_ | refine aqs rfl (q_faP fl136_0 (by decide) rfl (by first | ((repeat constructor); done) | exact .same _)) rfl ?_)
   all_goals (first | refine aqs rfl (q_ldpN ag3 rfl (by repeat (first | exact .here | assumption | (apply HAt.left; assumption) | apply HAt.there | apply HAt.right)) (by first | rfl | assumption | (simp [*]; done) | fail) (by first | rfl | assumption | (simp [*]; done) | fail) (by constructor)) rfl ?_ | refine aqs rfl (q_ld1N ag3 rfl (by constructor)) rfl ?_)
   all_goals (refine aqs rfl (q_neq rfl rfl) rfl ?_)
   all_goals (refine aqs rfl (q_mv (by constructor)) rfl ?_)
   all_goals try (refine acase (fun hb5 => ?_) (fun hb5 => ?_))
   all_goals first | (exfalso; cases hb5; done) | skip
   all_goals (first | refine ans rfl rfl ?_ | refine aqs rfl (q_fapP fl136_1 (by decide) rfl rfl) rfl ?_ | refine aqs rfl (q_faP fl136_1 (by decide) rfl (by first | ((repeat constructor); done) | exact .same _)) rfl ?_)
   all_goals (first | refine ans rfl rfl ?_ | refine aqs rfl (q_ldpN ag3 rfl (by repeat (first | exact .here | assumption | (apply HAt.left; assumption) | apply HAt.there | apply HAt.right)) (by first | rfl | assumption | (simp [*]; done) | fail) (by first | rfl | assumption | (simp [*]; done) | fail) (by constructor)) rfl ?_ | refine aqs rfl (q_ld1N ag3 rfl (by constructor)) rfl ?_)
   all_goals (first | refine ans rfl rfl ?_ | refine aqs rfl (q_fapP fl136_1 (by decide) rfl rfl) rfl ?_ | refine aqs rfl (q_faP fl136_1 (by decide) rfl (by first | ((repeat constructor); done) | exact .same _)) rfl ?_)
   all_goals (first | refine ans rfl rfl ?_ | refine aqs rfl (q_ldpN ag3 rfl (by repeat (first | exact .here | assumption | (apply HAt.left; assumption) | apply HAt.there | apply HAt.right)) (by first | rfl | assumption | (simp [*]; done) | fail) (by first | rfl | assumption | (simp [*]; done) | fail) (by constructor)) rfl ?_ | refine aqs rfl (q_ld1N ag3 rfl (by constructor)) rfl ?_)
   all_goals (first | refine ans rfl rfl ?_ | refine aqs rfl (q_neq rfl rfl) rfl ?_)
   all_goals (first | refine aqs rfl (q_pickT rfl (by constructor)) rfl ?_ | refine aqs rfl (q_pickF rfl (by constructor)) rfl ?_)
   all_goals (refine aqs rfl (q_mv (by constructor)) rfl ?_)
   all_goals try (refine acase (fun hb12 => ?_) (fun hb12 => ?_))
   all_goals first | (exfalso; cases hb12; done) | skip
   all_goals (first | refine ans rfl rfl ?_ | refine aqs rfl (q_fapP fl136_3 (by decide) rfl rfl) rfl ?_ | refine aqs rfl (q_faP fl136_3 (by decide) rfl (by first | ((repeat constructor); done) | exact .same _)) rfl ?_)
   all_goals (first | refine ans rfl rfl ?_ | refine aqs rfl (q_ldpN ag3 rfl (by repeat (first | exact .here | assumption | (apply HAt.left; assumption) | apply HAt.there | apply HAt.right)) (by first | rfl | assumption | (simp [*]; done) | fail) (by first | rfl | assumption | (simp [*]; done) | fail) (by constructor)) rfl ?_ | refine aqs rfl (q_ld1N ag3 rfl (by constructor)) rfl ?_)
   all_goals (first | refine ans rfl rfl ?_ | refine aqs rfl (q_fapP fl136_3 (by decide) rfl rfl) rfl ?_ | refine aqs rfl (q_faP fl136_3 (by decide) rfl (by first | ((repeat constructor); done) | exact .same _)) rfl ?_)
   all_goals (first | refine ans rfl rfl ?_ | refine aqs rfl (q_ldpN ag3 rfl (by repeat (first | exact .here | assumption | (apply HAt.left; assumption) | apply HAt.there | apply HAt.right)) (by first | rfl | assumption | (simp [*]; done) | fail) (by first | rfl | assumption | (simp [*]; done) | fail) (by constructor)) rfl ?_ | refine aqs rfl (q_ld1N ag3 rfl (by constructor)) rfl ?_)
   all_goals (first | refine ans rfl rfl ?_ | refine aqs rfl (q_neq rfl rfl) rfl ?_)
   all_goals (first | refine aqs rfl (q_pickT rfl (by constructor)) rfl ?_ | refine aqs rfl (q_pickF rfl (by constructor)) rfl ?_)
   all_goals (refine aqs rfl (q_mv (by constructor)) rfl ?_)
   all_goals try (refine acase (fun hb19 => ?_) (fun hb19 => ?_))
   all_goals first | (exfalso; cases hb19; done) | skip
   all_goals (first | refine ans rfl rfl ?_ | refine aqs rfl (q_fapP fl136_4 (by decide) rfl rfl) rfl ?_ | refine aqs rfl (q_faP fl136_4 (by decide) rfl (by first | ((repeat constructor); done) | exact .same _)) rfl ?_)
   all_goals (first | refine ans rfl rfl ?_ | refine aqs rfl (q_ldpN ag3 rfl (by repeat (first | exact .here | assumption | (apply HAt.left; assumption) | apply HAt.there | apply HAt.right)) (by first | rfl | assumption | (simp [*]; done) | fail) (by first | rfl | assumption | (simp [*]; done) | fail) (by constructor)) rfl ?_ | refine aqs rfl (q_ld1N ag3 rfl (by constructor)) rfl ?_)
   all_goals (first | refine ans rfl rfl ?_ | refine aqs rfl (q_fapP fl136_4 (by decide) rfl rfl) rfl ?_ | refine aqs rfl (q_faP fl136_4 (by decide) rfl (by first | ((repeat constructor); done) | exact .same _)) rfl ?_)
   all_goals (first | refine ans rfl rfl ?_ | refine aqs rfl (q_ldpN ag3 rfl (by repeat (first | exact .here | assumption | (apply HAt.left; assumption) | apply HAt.there | apply HAt.right)) (by first | rfl | assumption | (simp [*]; done) | fail) (by first | rfl | assumption | (simp [*]; done) | fail) (by constructor)) rfl ?_ | refine aqs rfl (q_ld1N ag3 rfl (by constructor)) rfl ?_)
   all_goals (first | refine ans rfl rfl ?_ | refine aqs rfl (q_neq rfl rfl) rfl ?_)
   all_goals (first | refine aqs rfl (q_pickT rfl (by constructor)) rfl ?_ | refine aqs rfl (q_pickF rfl (by constructor)) rfl ?_)
   all_goals (refine aqs rfl (q_mv (by constructor)) rfl ?_)
   all_goals try (refine acase (fun hb26 => ?_) (fun hb26 => ?_))
   all_goals first | (exfalso; cases hb26; done) | skip
   all_goals (first | refine ans rfl rfl ?_ | refine aqs rfl (q_fapP fl136_5 (by decide) rfl rfl) rfl ?_ | refine aqs rfl (q_faP fl136_5 (by decide) rfl (by first | ((repeat constructor); done) | exact .same _)) rfl ?_)
   all_goals (first | refine ans rfl rfl ?_ | refine aqs rfl (q_ldpN ag3 rfl (by repeat (first | exact .here | assumption | (apply HAt.left; assumption) | apply HAt.there | apply HAt.right)) (by first | rfl | assumption | (simp [*]; done) | fail) (by first | rfl | assumption | (simp [*]; done) | fail) (by constructor)) rfl ?_ | refine aqs rfl (q_ld1N ag3 rfl (by constructor)) rfl ?_)
   all_goals (first | refine ans rfl rfl ?_ | refine aqs rfl (q_fapP fl136_5 (by decide) rfl rfl) rfl ?_ | refine aqs rfl (q_faP fl136_5 (by decide) rfl (by first | ((repeat constructor); done) | exact .same _)) rfl ?_)
   all_goals (first | refine ans rfl rfl ?_ | refine aqs rfl (q_ldpN ag3 rfl (by repeat (first | exact .here | assumption | (apply HAt.left; assumption) | apply HAt.there | apply HAt.right)) (by first | rfl | assumption | (simp [*]; done) | fail) (by first | rfl | assumption | (simp [*]; done) | fail) (by constructor)) rfl ?_ | refine aqs rfl (q_ld1N ag3 rfl (by constructor)) rfl ?_)
   all_goals (first | refine ans rfl rfl ?_ | refine aqs rfl (q_neq rfl rfl) rfl ?_)
   all_goals (first | refine aqs rfl (q_pickT rfl (by constructor)) rfl ?_ | refine aqs rfl (q_pickF rfl (by constructor)) rfl ?_)
   all_goals (refine aqs rfl (q_mv (by constructor)) rfl ?_)
   all_goals try (refine acase (fun hb33 => ?_) (fun hb33 => ?_))
   all_goals first | (exfalso; cases hb33; done) | skip
   all_goals (first | refine ans rfl rfl ?_ | refine aqs rfl (q_fapP fl136_6 (by decide) rfl rfl) rfl ?_ | refine aqs rfl (q_faP fl136_6 (by decide) rfl (by first | ((repeat constructor); done) | exact .same _)) rfl ?_)
   all_goals (first | refine ans rfl rfl ?_ | refine aqs rfl (q_ldpN ag3 rfl (by repeat (first | exact .here | assumption | (apply HAt.left; assumption) | apply HAt.there | apply HAt.right)) (by first | rfl | assumption | (simp [*]; done) | fail) (by first | rfl | assumption | (simp [*]; done) | fail) (by constructor)) rfl ?_ | refine aqs rfl (q_ld1N ag3 rfl (by constructor)) rfl ?_)
   all_goals (first | refine ans rfl rfl ?_ | refine aqs rfl (q_fapP fl136_6 (by decide) rfl rfl) rfl ?_ | refine aqs rfl (q_faP fl136_6 (by decide) rfl (by first | ((repeat constructor); done) | exact .same _)) rfl ?_)
   all_goals (first | refine ans rfl rfl ?_ | refine aqs rfl (q_ldpN ag3 rfl (by repeat (first | exact .here | assumption | (apply HAt.left; assumption) | apply HAt.there | apply HAt.right)) (by first | rfl | assumption | (simp [*]; done) | fail) (by first | rfl | assumption | (simp [*]; done) | fail) (by constructor)) rfl ?_ | refine aqs rfl (q_ld1N ag3 rfl (by constructor)) rfl ?_)
   all_goals (first | refine ans rfl rfl ?_ | refine aqs rfl (q_neq rfl rfl) rfl ?_)
   all_goals (first | refine aqs rfl (q_pickT rfl (by constructor)) rfl ?_ | refine aqs rfl (q_pickF rfl (by constructor)) rfl ?_)
   all_goals (refine aqs rfl (q_mv (by constructor)) rfl ?_)
   all_goals try (refine acase (fun hb40 => ?_) (fun hb40 => ?_))
   all_goals first | (exfalso; cases hb40; done) | skip
   all_goals (first | refine ans rfl rfl ?_ | refine aqs rfl (q_fapP fl136_2 (by decide) rfl rfl) rfl ?_ | refine aqs rfl (q_faP fl136_2 (by decide) rfl (by first | ((repeat constructor); done) | exact .same _)) rfl ?_)
   all_goals (first | refine ans rfl rfl ?_ | refine aqs rfl (q_ldpN ag42 rfl (by repeat (first | exact .here | assumption | (apply HAt.left; assumption) | apply HAt.there | apply HAt.right)) (by first | rfl | assumption | (simp [*]; done) | fail) (by first | rfl | assumption | (simp [*]; done) | fail) (by constructor)) rfl ?_ | refine aqs rfl (q_ld1N ag42 rfl (by constructor)) rfl ?_)
   all_goals (first | refine ans rfl rfl ?_ | refine aqs rfl (castQ (r2 := .lit (.int .i64 (a.parts.length : Nat))) (q_len Try.underlying42 .ro) (by rw [hal])) rfl ?_ | refine aqs rfl (castQ (r2 := .lit (.int .i64 (a.parts.length : Nat))) (q_lenO Try.underlying42 rfl (by repeat (first | exact .here | assumption | (apply HAt.left; assumption) | apply HAt.there | apply HAt.right)) (by first | omega | (simp; done) | (simp; omega) | fail) (by first | exact Nat.sub_zero _ | rfl)) (by rw [hal])) rfl ?_ | refine aqs rfl (castQ (r2 := .lit (.int .i64 (a.parts.length : Nat))) (q_len Try.underlying42 .nil) (by rw [hal])) rfl ?_ | refine aqs rfl (castQ (r2 := .lit (.int .i64 (a.parts.length : Nat))) (q_len Try.underlying42 .cro) (by rw [hal])) rfl ?_)
   all_goals (first | refine ans rfl rfl ?_ | refine aqs rfl (q_fapP fl136_2 (by decide) rfl rfl) rfl ?_ | refine aqs rfl (q_faP fl136_2 (by decide) rfl (by first | ((repeat constructor); done) | exact .same _)) rfl ?_)
   all_goals (first | refine ans rfl rfl ?_ | refine aqs rfl (q_ldpN ag42 rfl (by repeat (first | exact .here | assumption | (apply HAt.left; assumption) | apply HAt.there | apply HAt.right)) (by first | rfl | assumption | (simp [*]; done) | fail) (by first | rfl | assumption | (simp [*]; done) | fail) (by constructor)) rfl ?_ | refine aqs rfl (q_ld1N ag42 rfl (by constructor)) rfl ?_)
   all_goals (first | refine ans rfl rfl ?_ | refine aqs rfl (castQ (r2 := .lit (.int .i64 (b.parts.length : Nat))) (q_len Try.underlying42 .ro) (by rw [hbl])) rfl ?_ | refine aqs rfl (castQ (r2 := .lit (.int .i64 (b.parts.length : Nat))) (q_lenO Try.underlying42 rfl (by repeat (first | exact .here | assumption | (apply HAt.left; assumption) | apply HAt.there | apply HAt.right)) (by first | omega | (simp; done) | (simp; omega) | fail) (by first | exact Nat.sub_zero _ | rfl)) (by rw [hbl])) rfl ?_ | refine aqs rfl (castQ (r2 := .lit (.int .i64 (b.parts.length : Nat))) (q_len Try.underlying42 .nil) (by rw [hbl])) rfl ?_ | refine aqs rfl (castQ (r2 := .lit (.int .i64 (b.parts.length : Nat))) (q_len Try.underlying42 .cro) (by rw [hbl])) rfl ?_)
   all_goals (first | refine ans rfl rfl ?_ | refine aqs rfl (q_neq rfl rfl) rfl ?_)
   all_goals (first | refine aqs rfl (q_pickT rfl (by constructor)) rfl ?_ | refine aqs rfl (q_pickF rfl (by constructor)) rfl ?_)
   all_goals (refine alist_nil ?_)
   all_goals (exact ⟨rfl, .mk' (by repeat (first | exact trivial | refine ⟨rfl, ?_⟩ | (refine ⟨?_, ?_⟩; (· first | (rw [hb5, hb12, hb19, hb26, hb33, hb40]; rfl) | (rw [hb5, hb12, hb19, hb26, hb33]; rfl) | (rw [hb5, hb12, hb19, hb26]; rfl) | (rw [hb5, hb12, hb19]; rfl) | (rw [hb5, hb12]; rfl) | (rw [hb5]; rfl) | fail)))) (by repeat (first | exact .refl _ | exact List.nil_sublist _ | exact List.sublist_append_left _ _ | apply List.Sublist.cons))⟩)
  refine awp_cond rfl (fun hc0 => ?_) (fun hc0 => ?_)
  ·have hc0 : ((((((!decide (a.width = b.width) || !decide (a.room = b.room)) || !decide (a.hits = b.hits)) || !decide (a.misses = b.misses)) || !decide (a.clashes = b.clashes)) || !decide (a.evicted = b.evicted)) || !decide ((a.parts.length : Int) = (b.parts.length : Int))) = true := hc0
   have e : decide (a = b) = false := decide_eq_false fun e => by rw [e] at hc0; simp at hc0
   rw [e]
   refine awp_seq ?_
   refine awp_region ?_
   refine aqs rfl (q_as (by constructor)) rfl ?_
   refine alist_nil ?_
   show AWP _ _ _ _
   refine awp_ret ?_
   repeat first | with_reducible refine then_ret ?_ | with_reducible refine blk_ret ?_ | with_reducible refine nogo_ret ?_
   apply retq (.inr rfl) (.cons (rok_t rfl) .nil)
   rotate_left
   ·exact ⟨rfl, rfl⟩
   repeat (first | exact List.Sublist.refl _ | exact List.nil_sublist _ | exact List.sublist_append_left _ _ | apply List.Sublist.cons)
  ·have hc0 : ((((((!decide (a.width = b.width) || !decide (a.room = b.room)) || !decide (a.hits = b.hits)) || !decide (a.misses = b.misses)) || !decide (a.clashes = b.clashes)) || !decide (a.evicted = b.evicted)) || !decide ((a.parts.length : Int) = (b.parts.length : Int))) = false := hc0
   simp only [Bool.or_eq_false_iff, Bool.not_eq_false', decide_eq_true_eq] at hc0
   obtain ⟨⟨⟨⟨⟨⟨q1, q2⟩, q3⟩, q4⟩, q5⟩, q6⟩, q7⟩ := hc0
   refine awp_skip ?_
   show AWP _ _ _ _
   refine awp_seq ?_
   refine awp_seq ?_
   refine awp_region ?_
   refine aqs rfl (q_as (by constructor)) rfl ?_
   refine alist_nil ?_
   show AWP _ _ _ _
   refine awp_block ?_
   refine awp_loop_inv (fun i : Nat => ⟨[(5, .lit (.int .i64 i)), (2, .ptr u2 0 0), (3, .ptr u3 0 0)], 76, [(u3, .arr 136 7 [b.cells]), (u2, .arr 136 7 [a.cells])]⟩) (fun i => i ≤ a.parts.length ∧ ∀ (j : Nat), j < i → a.parts[j]? = b.parts[j]?) (fun i => a.parts.length - i) 0 ?_ ?_ ?_
   ·exact ⟨Nat.zero_le _, fun j h => absurd h (Nat.not_lt_zero _)⟩
   ·exact .mk' (by repeat (first | exact trivial | refine ⟨rfl, ?_⟩)) (by repeat (first | exact .refl _ | apply List.Sublist.cons_cons | apply List.Sublist.cons))
   ·rintro i ⟨hi, hall⟩
    refine awp_seq ?_
    refine awp_seq ?_
    refine awp_region ?_
    refine aqs rfl (q_mv (by constructor)) rfl ?_
    first | refine aqs rfl (q_fapP fl136_2 (by decide) rfl rfl) rfl ?_ | refine aqs rfl (q_faP fl136_2 (by decide) rfl (by first | ((repeat constructor); done) | exact .same _)) rfl ?_
    first | refine aqs rfl (q_ldpN ag42 rfl (by repeat (first | exact .here | assumption | (apply HAt.left; assumption) | apply HAt.there | apply HAt.right)) (by first | rfl | assumption | (simp [*]; done) | fail) (by first | rfl | assumption | (simp [*]; done) | fail) (by constructor)) rfl ?_ | refine aqs rfl (q_ld1N ag42 rfl (by constructor)) rfl ?_
    first | refine aqs rfl (q_len Try.underlying42 .ro) rfl ?_ | refine aqs rfl (q_lenO Try.underlying42 rfl (by repeat (first | exact .here | assumption | (apply HAt.left; assumption) | apply HAt.there | apply HAt.right)) (by first | omega | (simp; done) | (simp; omega) | fail) (by first | exact Nat.sub_zero _ | rfl)) rfl ?_ | refine aqs rfl (q_len Try.underlying42 .nil) rfl ?_ | refine aqs rfl (q_len Try.underlying42 .cro) rfl ?_
    refine aqs rfl (q_lss rfl rfl) rfl ?_
    refine alist_nil ?_
    show AWP _ _ _ _
    refine awp_cond rfl (fun hc1 => ?_) (fun hc1 => ?_)
    ·simp only [decide_eq_true_eq] at hc1
     have hia : i < a.parts.length := by omega
     have hib : i < b.parts.length := by omega
     have hs2 := pt_row hia
     have ht2 := pt_row hib
     have hpa := ha.l i
     have hpb := hb.l i
     refine awp_skip ?_
     show AWP _ _ _ _
     refine awp_seq ?_
     refine awp_block ?_
     refine awp_seq ?_
     refine awp_draw 12 [(0, false), (1, false), (2, false), (3, false), (4, false), (5, false), (6, false), (7, false), (8, false), (9, false), (10, false), (11, false)] _ ([]) mixed (by kernel_rfl) (perm0 _) ?_
     first | refine glq rfl (.inl ⟨rfl, q_fapP fl136_2 (by decide) rfl rfl⟩) rfl ?_ | refine glq rfl (.inl ⟨rfl, q_faP fl136_2 (by decide) rfl (by first | ((repeat constructor); done) | exact .same _)⟩) rfl ?_
     first | refine glq rfl (.inl ⟨rfl, q_ldpN ag42 rfl (by repeat (first | exact .here | assumption | (apply HAt.left; assumption) | apply HAt.there | apply HAt.right)) (by first | rfl | assumption | (simp [*]; done) | fail) (by first | rfl | assumption | (simp [*]; done) | fail) (by constructor)⟩) rfl ?_ | refine glq rfl (.inl ⟨rfl, q_ld1N ag42 rfl (by constructor)⟩) rfl ?_
     refine glq rfl (.inl ⟨rfl, q_mv (by constructor)⟩) rfl ?_
     first | refine glq rfl (.inl ⟨rfl, q_iaN Try.underlying42 sz38 (.inl rfl) rfl (by omega) (by first | rfl | assumption | (simp [*]; done) | fail) (by first | rfl | assumption | (simp [*]; done) | fail) (by decide) (by first | ((repeat constructor); done) | exact .same _)⟩) rfl ?_ | refine glq rfl (.inl ⟨rfl, q_iaS Try.underlying42 sz38 rfl (by repeat (first | exact .here | assumption | (apply HAt.left; assumption) | apply HAt.there | apply HAt.right)) rfl (by omega) (by omega) (by first | exact Nat.zero_add _ | rfl)⟩) rfl ?_ | refine glq rfl (.inl ⟨rfl, q_iaN Try.underlying42 sz38 (.inr rfl) rfl (by omega) (by first | rfl | assumption | (simp [*]; done) | fail) (by first | rfl | assumption | (simp [*]; done) | fail) (by decide) (by first | ((repeat constructor); done) | exact .same _)⟩) rfl ?_
     first | refine glq rfl (.inl ⟨rfl, q_ldpN ag38 rfl (by repeat (first | exact .here | assumption | (apply HAt.left; assumption) | apply HAt.there | apply HAt.right)) (by first | rfl | assumption | (simp [*]; done) | fail) (by first | rfl | assumption | (simp [*]; done) | fail) (by constructor)⟩) rfl ?_ | refine glq rfl (.inl ⟨rfl, q_ld1N ag38 rfl (by constructor)⟩) rfl ?_
     first | refine glq rfl (.inl ⟨rfl, q_fapP fl136_2 (by decide) rfl rfl⟩) rfl ?_ | refine glq rfl (.inl ⟨rfl, q_faP fl136_2 (by decide) rfl (by first | ((repeat constructor); done) | exact .same _)⟩) rfl ?_
     first | refine glq rfl (.inl ⟨rfl, q_ldpN ag42 rfl (by repeat (first | exact .here | assumption | (apply HAt.left; assumption) | apply HAt.there | apply HAt.right)) (by first | rfl | assumption | (simp [*]; done) | fail) (by first | rfl | assumption | (simp [*]; done) | fail) (by constructor)⟩) rfl ?_ | refine glq rfl (.inl ⟨rfl, q_ld1N ag42 rfl (by constructor)⟩) rfl ?_
     refine glq rfl (.inl ⟨rfl, q_mv (by constructor)⟩) rfl ?_
     first | refine glq rfl (.inl ⟨rfl, q_iaN Try.underlying42 sz38 (.inl rfl) rfl (by omega) (by first | rfl | assumption | (simp [*]; done) | fail) (by first | rfl | assumption | (simp [*]; done) | fail) (by decide) (by first | ((repeat constructor); done) | exact .same _)⟩) rfl ?_ | refine glq rfl (.inl ⟨rfl, q_iaS Try.underlying42 sz38 rfl (by repeat (first | exact .here | assumption | (apply HAt.left; assumption) | apply HAt.there | apply HAt.right)) rfl (by omega) (by omega) (by first | exact Nat.zero_add _ | rfl)⟩) rfl ?_ | refine glq rfl (.inl ⟨rfl, q_iaN Try.underlying42 sz38 (.inr rfl) rfl (by omega) (by first | rfl | assumption | (simp [*]; done) | fail) (by first | rfl | assumption | (simp [*]; done) | fail) (by decide) (by first | ((repeat constructor); done) | exact .same _)⟩) rfl ?_
     first | refine glq rfl (.inl ⟨rfl, q_ldpN ag38 rfl (by repeat (first | exact .here | assumption | (apply HAt.left; assumption) | apply HAt.there | apply HAt.right)) (by first | rfl | assumption | (simp [*]; done) | fail) (by first | rfl | assumption | (simp [*]; done) | fail) (by constructor)⟩) rfl ?_ | refine glq rfl (.inl ⟨rfl, q_ld1N ag38 rfl (by constructor)⟩) rfl ?_
     first | refine glq rfl (.inl ⟨rfl, e_callN cb56 (same56_c (pt a i) (pt b i) (by omega) (by omega) _) rfl rfl⟩) rfl ?_ | refine glq rfl (.inl ⟨rfl, e_callN cb56 (ACall.arg (same56_c (pt a i) (pt b i) (by omega) (by omega) _) (by repeat (first | exact ArgL.nil | (apply ArgL.cons; (· first | exact .same | exact .cro | exact .nil))))) rfl rfl⟩) rfl ?_
     refine glq rfl (.inl ⟨rfl, q_as (by constructor)⟩) rfl ?_
     (first | refine gld0 ?_ | refine gldA ?_)
     refine alist_nil ?_
     show AWP _ _ _ _
     refine awp_seq ?_
     refine awp_region ?_
     refine aqs rfl (q_mv (by constructor)) rfl ?_
     refine aqs rfl (q_not rfl) rfl ?_
     refine alist_nil ?_
     show AWP _ _ _ _
     refine awp_cond rfl (fun hc2 => ?_) (fun hc2 => ?_)
     ·have hne : ¬ pt a i = pt b i := by simpa using hc2
      have e : decide (a = b) = false := decide_eq_false fun e => hne (by rw [e])
      rw [e]
      refine awp_seq ?_
      refine awp_region ?_
      refine aqs rfl (q_as (by constructor)) rfl ?_
      refine alist_nil ?_
      show AWP _ _ _ _
      refine awp_ret ?_
      repeat first | with_reducible refine then_ret ?_ | with_reducible refine blk_ret ?_ | with_reducible refine nogo_ret ?_
      apply retq (.inr rfl) (.cons (rok_t rfl) .nil)
      rotate_left
      ·exact ⟨rfl, rfl⟩
      repeat (first | exact List.Sublist.refl _ | exact List.nil_sublist _ | exact List.sublist_append_left _ _ | apply List.Sublist.cons)
     ·have heq : pt a i = pt b i := by simpa using hc2
      refine awp_skip ?_
      show AWP _ _ _ _
      refine awp_region ?_
      refine aqs rfl (q_mv (by constructor)) rfl ?_
      first | refine aqs rfl (q_add64 rfl rfl (by omega) (by omega)) rfl ?_ | refine aqs rfl (q_add rfl rfl) rfl ?_
      refine aqs rfl (q_as (by constructor)) rfl ?_
      refine alist_nil ?_
      show ∃ y, _ ∧ _ ∧ _
      refine ⟨i + 1, ⟨by omega, fun j hj => ?_⟩, by omega, .mk' ⟨by rfl, rfl, rfl, trivial⟩ (by repeat (first | exact List.Sublist.refl _ | exact List.nil_sublist _ | exact List.sublist_append_left _ _ | (apply List.Sublist.cons_cons) | (apply List.Sublist.cons)))⟩
      by_cases hji : j = i
      ·rw [hji, pt_get hia, pt_get hib, heq]
      ·exact hall j (by omega)
    ·simp only [decide_eq_false_iff_not] at hc1
     have e : decide (a = b) = true := decide_eq_true (cach_eq ⟨q1, q2, q3, q4, q5, q6⟩ (List.ext_getElem? fun j => by
      by_cases hj : j < i
      ·exact hall j hj
      ·rw [List.getElem?_eq_none (by omega), List.getElem?_eq_none (by omega)]))
     rw [e]
     refine awp_exit ?_
     show AWP _ _ _ _
     refine awp_seq ?_
     refine awp_region ?_
     refine aqs rfl (q_as (by constructor)) rfl ?_
     refine alist_nil ?_
     show AWP _ _ _ _
     refine awp_ret ?_
     repeat first | with_reducible refine then_ret ?_ | with_reducible refine blk_ret ?_ | with_reducible refine nogo_ret ?_
     apply retq (.inr rfl) (.cons (rok_t rfl) .nil)
     rotate_left
     ·exact ⟨rfl, rfl⟩
     repeat (first | exact List.Sublist.refl _ | exact List.nil_sublist _ | exact List.sublist_append_left _ _ | apply List.Sublist.cons)
/-! ### A count -/
set_option maxHeartbeats 1000000 in
theorem up167_c (u off : Nat) (cs cs2 : List AV) (n : Int) (H H2 : Heap) (hq : HAt H u (.arr 136 7 [cs])) (ho : off < 7) (hc : cs[off]? = some (.lit (.int .i64 n))) (hn : 0 ≤ n ∧ n ≤ maxCount)
    (hcs : cs.take off ++ [.lit (.int .i64 (countUp n))] ++ cs.drop (off + [AV.lit (.int .i64 (countUp n))].length) = cs2) (hs : HSet H u (u, .arr 136 7 [cs2]) H2) : ACall Try.prog 167 [.agg [.ptr u 0 off]] H (fun r H' => H' = H2) := by
  have hn2 : 0 ≤ n ∧ n ≤ 1099511627776 := hn
  subst hcs
  refine acall_intro (n := 11) (rvs := []) Try.func167 rfl rfl rfl (Nat.le_of_ble_eq_true rfl) ?_
  refine awp_seq ?_
  refine awp_region ?_
  (refine aes rfl (e_bx (by constructor) rfl rfl) rfl ?_; rintro _ _ ⟨u1, rfl, rfl⟩)
  refine alist_nil ?_
  show AWP _ _ _ _
  refine awp_draw 9 [(0, false), (1, false), (2, false), (3, false), (4, false), (5, false), (6, false), (7, false), (8, false)] _ ([]) mixed (by kernel_rfl) (perm0 _) ?_
  first | refine glq rfl (.inl ⟨rfl, q_fapP fl201_0 (by decide) rfl rfl⟩) rfl ?_ | refine glq rfl (.inl ⟨rfl, q_faP fl201_0 (by decide) rfl (by first | ((repeat constructor); done) | exact .same _)⟩) rfl ?_
  first | refine glq rfl (.inl ⟨rfl, q_ldpN ag199 rfl (by repeat (first | exact .here | assumption | (apply HAt.left; assumption) | apply HAt.there | apply HAt.right)) (by first | rfl | assumption | (simp [*]; done) | fail) (by first | rfl | assumption | (simp [*]; done) | fail) (by constructor)⟩) rfl ?_ | refine glq rfl (.inl ⟨rfl, q_ld1N ag199 rfl (by constructor)⟩) rfl ?_
  first | refine glq rfl (.inl ⟨rfl, q_fapP fl201_0 (by decide) rfl rfl⟩) rfl ?_ | refine glq rfl (.inl ⟨rfl, q_faP fl201_0 (by decide) rfl (by first | ((repeat constructor); done) | exact .same _)⟩) rfl ?_
  first | refine glq rfl (.inl ⟨rfl, q_ldpN ag199 rfl (by repeat (first | exact .here | assumption | (apply HAt.left; assumption) | apply HAt.there | apply HAt.right)) (by first | rfl | assumption | (simp [*]; done) | fail) (by first | rfl | assumption | (simp [*]; done) | fail) (by constructor)⟩) rfl ?_ | refine glq rfl (.inl ⟨rfl, q_ld1N ag199 rfl (by constructor)⟩) rfl ?_
  refine glq rfl (.inl ⟨rfl, q_nc rfl (by constructor)⟩) rfl ?_
  first | refine glq rfl (.inl ⟨rfl, q_ldpN ag3 rfl (by repeat (first | exact .here | assumption | (apply HAt.left; assumption) | apply HAt.there | apply HAt.right)) (by first | rfl | assumption | (simp [*]; done) | fail) (by first | rfl | assumption | (simp [*]; done) | fail) (by constructor)⟩) rfl ?_ | refine glq rfl (.inl ⟨rfl, q_ld1N ag3 rfl (by constructor)⟩) rfl ?_
  first | refine glq rfl (.inl ⟨rfl, q_add64 rfl rfl (by omega) (by omega)⟩) rfl ?_ | refine glq rfl (.inl ⟨rfl, q_add rfl rfl⟩) rfl ?_
  refine glq rfl (.inl ⟨rfl, castQ (r2 := .lit (.int .i64 (countUp n))) (q_min rfl rfl) (by rfl)⟩) rfl ?_
  refine glq rfl (.inl ⟨rfl, q_nc rfl (by constructor)⟩) rfl ?_
  (first | refine gld0 ?_ | refine gldA ?_)
  first | (refine aen rfl (e_stP sz3 rfl (.there hq) rfl (by constructor) rfl rfl (by omega) (.same _) .one (.there hs)) ?_; rintro _ _ ⟨rfl, rfl⟩) | (refine aen rfl (e_stW sz3 rfl (by repeat (first | exact .here | assumption | (apply HAt.left; assumption) | apply HAt.there | apply HAt.right)) (by constructor) (by first | rfl | assumption | (simp [*]; done) | fail) rfl (by repeat (first | exact .here | apply HSet.there))) ?_; rintro _ _ ⟨rfl, rfl⟩) | (refine aen rfl (e_stP sz3 rfl (by repeat (first | exact .here | assumption | (apply HAt.left; assumption) | apply HAt.there | apply HAt.right)) (by first | rfl | assumption | (simp [*]; done) | fail) (by constructor) (by first | rfl | assumption | (simp [*]; done) | fail) rfl (by first | decide | omega) (by first | ((repeat constructor); done) | exact .same _) (by first | exact .one | exact .set) (by repeat (first | exact .here | apply HSet.there))) ?_; rintro _ _ ⟨rfl, rfl⟩)
  refine alist_nil ?_
  apply retq (.inl rfl) (.nil)
  rotate_left
  ·rfl
  repeat (first | exact List.Sublist.refl _ | exact List.nil_sublist _ | exact List.sublist_append_left _ _ | apply List.Sublist.cons)
/-! ### Memory of one's own -/
def nilRow : List AV := [.lit (.slice none 0 0)]
def rowsN (c : Cach) (i : Nat) : List (List AV) := (c.parts.take i).map partCells ++ List.replicate (c.parts.length - i) nilRow
theorem rowsN_len {c : Cach} {i : Nat} (h : i ≤ c.parts.length) : (rowsN c i).length = c.parts.length := by simp [rowsN]; omega
theorem rowsN_at {c : Cach} {i : Nat} (h : i < c.parts.length) : (rowsN c i)[i]? = some nilRow := by
  have hl : ((c.parts.take i).map partCells).length = i := by simp; omega
  rw [rowsN, List.getElem?_append_right (by omega), hl, Nat.sub_self, List.getElem?_replicate, if_pos (by omega)]
theorem rowsN_next {c : Cach} {i : Nat} (h : i < c.parts.length) : (rowsN c i).set i [.ro ((pt c i).map Slot.cells)] = rowsN c (i + 1) := by
  have hl : ((c.parts.take i).map partCells).length = i := by simp; omega
  obtain ⟨k, hk⟩ : ∃ k, c.parts.length - i = k + 1 := ⟨c.parts.length - i - 1, by omega⟩
  rw [rowsN, rowsN, hk, List.replicate_succ, take_next (pt_get h), show c.parts.length - (i + 1) = k by omega]
  conv => lhs; arg 2; rw [← hl]
  rw [set_split, List.map_append, List.append_assoc]; rfl
theorem rowsN_end (c : Cach) : rowsN c c.parts.length = c.parts.map partCells := by simp [rowsN]
abbrev zeroCells : List AV := [.lit (.int .i64 0), .lit (.int .i64 0), .lit (.slice none 0 0), .lit (.int .i64 0), .lit (.int .i64 0), .lit (.int .i64 0), .lit (.int .i64 0)]
abbrev ownCells (c : Cach) (u : Nat) : List AV := [.lit (.int .i64 c.width), .lit (.int .i64 c.room), .sl u 0 c.parts.length, .lit (.int .i64 c.hits), .lit (.int .i64 c.misses), .lit (.int .i64 c.clashes), .lit (.int .i64 c.evicted)]
set_option maxHeartbeats 4000000 in
theorem owned166_c (c : Cach) (hl : CLen c) : ACall Try.prog 166 [.agg c.cells] [] (fun r H' => ∃ u, r = .agg (ownCells c u) ∧ H' = [(u, .arr 38 1 (c.parts.map partCells))]) := by
  have hn := hl.n
  have hcl : (c.parts.map partCells).length = c.parts.length := List.length_map ..
  refine acall_intro (n := 27) (rvs := [.cell 2 136]) Try.func166 rfl rfl rfl (Nat.le_of_ble_eq_true rfl) ?_
  refine awp_seq ?_
  refine awp_region ?_
  (refine aes rfl (e_bx (by constructor) rfl rfl) rfl ?_; rintro _ _ ⟨u1, rfl, rfl⟩)
  (refine aes rfl (e_al (xs := [.lit (.int .i64 0), .lit (.int .i64 0), .lit (.slice none 0 0), .lit (.int .i64 0), .lit (.int .i64 0), .lit (.int .i64 0), .lit (.int .i64 0)]) (k := 7) zr136 (.same _) rfl) rfl ?_; rintro _ _ ⟨u2, rfl, rfl⟩)
  refine alist_nil ?_
  show AWP _ _ _ _
  refine awp_seq ?_
  refine awp_region ?_
  first | refine aqs rfl (q_fapP fl136_2 (by decide) rfl rfl) rfl ?_ | refine aqs rfl (q_faP fl136_2 (by decide) rfl (by first | ((repeat constructor); done) | exact .same _)) rfl ?_
  first | refine aqs rfl (q_ldpN ag42 rfl (by repeat (first | exact .here | assumption | (apply HAt.left; assumption) | apply HAt.there | apply HAt.right)) (by first | rfl | assumption | (simp [*]; done) | fail) (by first | rfl | assumption | (simp [*]; done) | fail) (by constructor)) rfl ?_ | refine aqs rfl (q_ld1N ag42 rfl (by constructor)) rfl ?_
  first | refine aqs rfl (castQ (r2 := .lit (.int .i64 (c.parts.length : Nat))) (q_len Try.underlying42 .ro) (by rw [hcl])) rfl ?_ | refine aqs rfl (castQ (r2 := .lit (.int .i64 (c.parts.length : Nat))) (q_lenO Try.underlying42 rfl (by repeat (first | exact .here | assumption | (apply HAt.left; assumption) | apply HAt.there | apply HAt.right)) (by first | omega | (simp; done) | (simp; omega) | fail) (by first | exact Nat.sub_zero _ | rfl)) (by rw [hcl])) rfl ?_ | refine aqs rfl (castQ (r2 := .lit (.int .i64 (c.parts.length : Nat))) (q_len Try.underlying42 .nil) (by rw [hcl])) rfl ?_ | refine aqs rfl (castQ (r2 := .lit (.int .i64 (c.parts.length : Nat))) (q_len Try.underlying42 .cro) (by rw [hcl])) rfl ?_
  (refine aes rfl (e_ms Try.underlying42 sz38 zr38 by38 rfl rfl rfl (by first | ((repeat constructor); done) | exact .same _) rfl (by omega) (by omega) (by omega)) rfl ?_; rintro _ _ ⟨u9, rfl, rfl⟩)
  refine aqs rfl (q_as (by constructor)) rfl ?_
  refine alist_nil ?_
  show AWP _ _ _ _
  refine awp_seq ?_
  refine awp_seq ?_
  refine awp_region ?_
  first | refine aqs rfl (q_fapP fl136_2 (by decide) rfl rfl) rfl ?_ | refine aqs rfl (q_faP fl136_2 (by decide) rfl (by first | ((repeat constructor); done) | exact .same _)) rfl ?_
  first | refine aqs rfl (q_ldpN ag42 rfl (by repeat (first | exact .here | assumption | (apply HAt.left; assumption) | apply HAt.there | apply HAt.right)) (by first | rfl | assumption | (simp [*]; done) | fail) (by first | rfl | assumption | (simp [*]; done) | fail) (by constructor)) rfl ?_ | refine aqs rfl (q_ld1N ag42 rfl (by constructor)) rfl ?_
  first | refine aqs rfl (castQ (r2 := .lit (.int .i64 (c.parts.length : Nat))) (q_len Try.underlying42 .ro) (by rw [hcl])) rfl ?_ | refine aqs rfl (castQ (r2 := .lit (.int .i64 (c.parts.length : Nat))) (q_lenO Try.underlying42 rfl (by repeat (first | exact .here | assumption | (apply HAt.left; assumption) | apply HAt.there | apply HAt.right)) (by first | omega | (simp; done) | (simp; omega) | fail) (by first | exact Nat.sub_zero _ | rfl)) (by rw [hcl])) rfl ?_ | refine aqs rfl (castQ (r2 := .lit (.int .i64 (c.parts.length : Nat))) (q_len Try.underlying42 .nil) (by rw [hcl])) rfl ?_ | refine aqs rfl (castQ (r2 := .lit (.int .i64 (c.parts.length : Nat))) (q_len Try.underlying42 .cro) (by rw [hcl])) rfl ?_
  refine aqs rfl (q_mv (by constructor)) rfl ?_
  refine alist_nil ?_
  show AWP _ _ _ _
  refine awp_block ?_
  refine awp_loop_inv (fun i : Nat => ⟨[(13, .lit (.int .i64 i)), (12, .lit (.int .i64 c.parts.length)), (11, .ro (c.parts.map partCells)), (3, .sl u9 0 c.parts.length), (1, .ptr u1 0 0), (2, .ptr u2 0 0)], 27, [(u9, .arr 38 1 (rowsN c i)), (u2, .arr 136 7 [zeroCells]), (u1, .arr 136 7 [c.cells])]⟩) (fun i => i ≤ c.parts.length) (fun i => c.parts.length - i) 0 ?_ ?_ ?_
  ·exact Nat.zero_le _
  ·exact .mk' (by repeat (first | exact trivial | refine ⟨rfl, ?_⟩)) (by repeat (first | exact .refl _ | apply List.Sublist.cons_cons | apply List.Sublist.cons))
  ·intro i hi
   refine awp_seq ?_
   refine awp_region ?_
   refine aqs rfl (q_lss rfl rfl) rfl ?_
   refine alist_nil ?_
   show AWP _ _ _ _
   refine awp_seq ?_
   refine awp_cond rfl (fun hc0 => ?_) (fun hc0 => ?_)
   ·simp only [decide_eq_true_eq] at hc0
    have hil : i < c.parts.length := by omega
    have hs2 := pt_row hil
    have hpl := hl.l i
    have hrow := rowsN_at hil
    have hrl := rowsN_len hi
    have hnx := rowsN_next hil
    have hpub : ∀ v : Nat, PubE v ((pt c i).map Slot.cells) ((rowsN c i).set i [.sl v 0 (pt c i).length]) (rowsN c (i + 1)) := fun v => by
     rw [← hnx]
     exact pubE_set (.cons (pub_all (by simp)) .nil) _ _
    refine awp_skip ?_
    show AWP _ _ _ _
    refine awp_seq ?_
    refine awp_block ?_
    refine awp_seq ?_
    refine awp_region ?_
    refine aqs rfl (q_mv (by constructor)) rfl ?_
    first | refine aqs rfl (q_iaN Try.underlying42 sz38 (.inl rfl) rfl (by omega) (by first | rfl | assumption | (simp [*]; done) | fail) (by first | rfl | assumption | (simp [*]; done) | fail) (by decide) (by first | ((repeat constructor); done) | exact .same _)) rfl ?_ | refine aqs rfl (q_iaS Try.underlying42 sz38 rfl (by repeat (first | exact .here | assumption | (apply HAt.left; assumption) | apply HAt.there | apply HAt.right)) rfl (by omega) (by omega) (by first | exact Nat.zero_add _ | rfl)) rfl ?_ | refine aqs rfl (q_iaN Try.underlying42 sz38 (.inr rfl) rfl (by omega) (by first | rfl | assumption | (simp [*]; done) | fail) (by first | rfl | assumption | (simp [*]; done) | fail) (by decide) (by first | ((repeat constructor); done) | exact .same _)) rfl ?_
    first | refine aqs rfl (q_ldpN ag38 rfl (by repeat (first | exact .here | assumption | (apply HAt.left; assumption) | apply HAt.there | apply HAt.right)) (by first | rfl | assumption | (simp [*]; done) | fail) (by first | rfl | assumption | (simp [*]; done) | fail) (by constructor)) rfl ?_ | refine aqs rfl (q_ld1N ag38 rfl (by constructor)) rfl ?_
    refine aqs rfl (q_as (by constructor)) rfl ?_
    refine aqs rfl (q_as (by constructor)) rfl ?_
    refine alist_nil ?_
    show AWP _ _ _ _
    refine awp_region ?_
    refine aqs rfl (q_mv (by constructor)) rfl ?_
    refine aqs rfl (q_mv (by constructor)) rfl ?_
    refine aqs rfl (q_mv (by constructor)) rfl ?_
    first | (refine aes rfl (e_callN cb129 (clone129_c (pt c i) (by omega) _) rfl rfl) rfl ?_; rintro _ _ ⟨v, rfl, rfl⟩) | (refine aes rfl (e_callN cb129 (ACall.arg (clone129_c (pt c i) (by omega) _) (by repeat (first | exact ArgL.nil | (apply ArgL.cons; (· first | exact .same | exact .cro | exact .nil))))) rfl rfl) rfl ?_; rintro _ _ ⟨v, rfl, rfl⟩)
    first | refine aqs rfl (q_iaN Try.underlying42 sz38 (.inl rfl) rfl (by omega) (by first | rfl | assumption | (simp [*]; done) | fail) (by first | rfl | assumption | (simp [*]; done) | fail) (by decide) (by first | ((repeat constructor); done) | exact .same _)) rfl ?_ | refine aqs rfl (q_iaS Try.underlying42 sz38 rfl (by repeat (first | exact .here | assumption | (apply HAt.left; assumption) | apply HAt.there | apply HAt.right)) rfl (by omega) (by omega) (by first | exact Nat.zero_add _ | rfl)) rfl ?_ | refine aqs rfl (q_iaN Try.underlying42 sz38 (.inr rfl) rfl (by omega) (by first | rfl | assumption | (simp [*]; done) | fail) (by first | rfl | assumption | (simp [*]; done) | fail) (by decide) (by first | ((repeat constructor); done) | exact .same _)) rfl ?_
    first | (refine aen rfl (e_stW sz38 rfl (by repeat (first | exact .here | assumption | (apply HAt.left; assumption) | apply HAt.there | apply HAt.right)) (by constructor) (by first | rfl | assumption | (simp [*]; done) | fail) rfl (by repeat (first | exact .here | apply HSet.there))) ?_; rintro _ _ ⟨rfl, rfl⟩) | (refine aen rfl (e_stP sz38 rfl (by repeat (first | exact .here | assumption | (apply HAt.left; assumption) | apply HAt.there | apply HAt.right)) (by first | rfl | assumption | (simp [*]; done) | fail) (by constructor) (by first | rfl | assumption | (simp [*]; done) | fail) rfl (by first | decide | omega) (by first | ((repeat constructor); done) | exact .same _) (by first | exact .one | exact .set) (by repeat (first | exact .here | apply HSet.there))) ?_; rintro _ _ ⟨rfl, rfl⟩)
    refine alist_nil ?_
    show AWP _ _ _ _
    refine awp_weak ⟨[(13, .lit (.int .i64 i)), (12, .lit (.int .i64 c.parts.length)), (11, .ro (c.parts.map partCells)), (3, .sl u9 0 c.parts.length), (1, .ptr u1 0 0), (2, .ptr u2 0 0)], 27, [(v, .arr 40 5 ((pt c i).map Slot.cells)), (u9, .arr 38 1 ((rowsN c i).set i [.sl v 0 (pt c i).length])), (u2, .arr 136 7 [zeroCells]), (u1, .arr 136 7 [c.cells])]⟩ (.mk' ⟨by rfl, rfl, rfl, rfl, rfl, rfl, trivial⟩ (List.Sublist.refl _)) ?_
    refine awp_pub (u := v) (H2 := [(u9, .arr 38 1 (rowsN c (i + 1))), (u2, .arr 136 7 [zeroCells]), (u1, .arr 136 7 [c.cells])]) .here PubT.same (.drop (.cons (.arr (hpub v)) .same)) ?_
    show AWP _ _ _ _
    refine awp_region ?_
    first | refine aqs rfl (q_add64 rfl rfl (by omega) (by omega)) rfl ?_ | refine aqs rfl (q_add rfl rfl) rfl ?_
    refine aqs rfl (q_mv (by constructor)) rfl ?_
    refine alist_nil ?_
    show ∃ y, _ ∧ _ ∧ _
    exact ⟨i + 1, by omega, by omega, .mk' ⟨by rfl, rfl, rfl, rfl, rfl, rfl, trivial⟩ (by repeat (first | exact List.Sublist.refl _ | exact List.nil_sublist _ | exact List.sublist_append_left _ _ | (apply List.Sublist.cons_cons) | (apply List.Sublist.cons)))⟩
   ·simp only [decide_eq_false_iff_not] at hc0
    obtain rfl : i = c.parts.length := by omega
    rw [rowsN_end]
    refine awp_exit ?_
    show AWP _ _ _ _
    refine awp_seq ?_
    refine awp_region ?_
    refine aqs rfl (q_mv (by constructor)) rfl ?_
    first | refine aqs rfl (q_fapP fl136_2 (by decide) rfl rfl) rfl ?_ | refine aqs rfl (q_faP fl136_2 (by decide) rfl (by first | ((repeat constructor); done) | exact .same _)) rfl ?_
    first | (refine aen rfl (e_stW sz42 rfl (by repeat (first | exact .here | assumption | (apply HAt.left; assumption) | apply HAt.there | apply HAt.right)) (by constructor) (by first | rfl | assumption | (simp [*]; done) | fail) rfl (by repeat (first | exact .here | apply HSet.there))) ?_; rintro _ _ ⟨rfl, rfl⟩) | (refine aen rfl (e_stP sz42 rfl (by repeat (first | exact .here | assumption | (apply HAt.left; assumption) | apply HAt.there | apply HAt.right)) (by first | rfl | assumption | (simp [*]; done) | fail) (by constructor) (by first | rfl | assumption | (simp [*]; done) | fail) rfl (by first | decide | omega) (by first | ((repeat constructor); done) | exact .same _) (by first | exact .one | exact .set) (by repeat (first | exact .here | apply HSet.there))) ?_; rintro _ _ ⟨rfl, rfl⟩)
    refine alist_nil ?_
    show AWP _ _ _ _
    refine awp_seq ?_
    refine awp_region ?_
    first | refine aqs rfl (q_ldpW ag136 sz136 rfl (by repeat (first | exact .here | assumption | (apply HAt.left; assumption) | apply HAt.there | apply HAt.right)) (by first | rfl | assumption | (simp [*]; done) | fail) (by first | rfl | assumption | (simp [*]; done) | fail) (by decide)) rfl ?_ | refine aqs rfl (q_ldW ag136 sz136 rfl (by first | rfl | assumption | (simp [*]; done) | fail)) rfl ?_ | refine aqs rfl (q_ldpP ag136 sz136 rfl (by repeat (first | exact .here | assumption | (apply HAt.left; assumption) | apply HAt.there | apply HAt.right)) (by first | rfl | assumption | (simp [*]; done) | fail) (by first | decide | (simp; done) | omega | fail) (by decide) (by first | ((repeat constructor); done) | exact .same _)) rfl ?_ | refine aqs rfl (q_ldP ag136 sz136 rfl (by first | decide | (simp; done) | omega | fail) (by first | ((repeat constructor); done) | exact .same _)) rfl ?_
    first | (refine aen rfl (e_stW sz136 rfl (by repeat (first | exact .here | assumption | (apply HAt.left; assumption) | apply HAt.there | apply HAt.right)) (by constructor) (by first | rfl | assumption | (simp [*]; done) | fail) rfl (by repeat (first | exact .here | apply HSet.there))) ?_; rintro _ _ ⟨rfl, rfl⟩) | (refine aen rfl (e_stP sz136 rfl (by repeat (first | exact .here | assumption | (apply HAt.left; assumption) | apply HAt.there | apply HAt.right)) (by first | rfl | assumption | (simp [*]; done) | fail) (by constructor) (by first | rfl | assumption | (simp [*]; done) | fail) rfl (by first | decide | omega) (by first | ((repeat constructor); done) | exact .same _) (by first | exact .one | exact .set) (by repeat (first | exact .here | apply HSet.there))) ?_; rintro _ _ ⟨rfl, rfl⟩)
    refine alist_nil ?_
    show AWP _ _ _ _
    refine awp_ret ?_
    repeat first | with_reducible refine then_ret ?_ | with_reducible refine blk_ret ?_ | with_reducible refine nogo_ret ?_
    apply retq (.inr rfl) (.cons (rok_A ag136 sz136 rfl (by repeat (first | exact .here | assumption | (apply HAt.left; assumption) | apply HAt.there | apply HAt.right)) (by rfl)) .nil)
    rotate_left
    ·exact ⟨u9, rfl, rfl⟩
    repeat (first | exact List.Sublist.refl _ | exact List.nil_sublist _ | exact List.sublist_append_left _ _ | apply List.Sublist.cons)
/-! ### New -/
theorem nil_rep : ∀ n : Nat, NilE (List.replicate n nilRow) ((List.replicate n ([] : List Slot)).map partCells)
  | 0 => .nil
  | n + 1 => .cons (.cons .nil .nil) (nil_rep n)
def newA (g : Cach × Int) : AV := .tup [.agg g.1.cells, .lit (.int .i64 g.2)]
set_option maxHeartbeats 2000000 in
theorem new107_c (p r w : Int) (H : Heap) : QCall Try.prog 107 [.lit (.int .i64 p), .lit (.int .i64 r), .lit (.int .i64 w)] H (newA (newC p r w)) := by
  refine QCall.any H ?_
  refine acall_intro (n := 19) (rvs := [.cell 6 136, .tmp 7]) Try.func107 rfl rfl rfl (Nat.le_of_ble_eq_true rfl) ?_
  refine awp_seq ?_
  refine awp_region ?_
  (refine aes rfl (e_al (xs := [.lit (.int .i64 0), .lit (.int .i64 0), .lit (.slice none 0 0), .lit (.int .i64 0), .lit (.int .i64 0), .lit (.int .i64 0), .lit (.int .i64 0)]) (k := 7) zr136 (.same _) rfl) rfl ?_; rintro _ _ ⟨u6, rfl, rfl⟩)
  refine aqs rfl (q_as (by constructor)) rfl ?_
  refine alist_nil ?_
  show AWP _ _ _ _
  refine awp_seq ?_
  refine awp_seq ?_
  refine awp_region ?_
  refine aqs rfl (q_mv (by constructor)) rfl ?_
  refine aqs rfl (q_mv (by constructor)) rfl ?_
  refine aqs rfl (q_mv (by constructor)) rfl ?_
  first | refine aqs rfl (e_callN cb158 (fits158_c p r w _) rfl rfl) rfl ?_ | refine aqs rfl (e_callN cb158 (ACall.arg (fits158_c p r w _) (by repeat (first | exact ArgL.nil | (apply ArgL.cons; (· first | exact .same | exact .cro | exact .nil))))) rfl rfl) rfl ?_
  refine aqs rfl (q_not rfl) rfl ?_
  refine alist_nil ?_
  show AWP _ _ _ _
  refine awp_cond rfl (fun hc0 => ?_) (fun hc0 => ?_)
  ·have hf : cFits p r w = false := by simpa using hc0
   have e : newC p r w = (zeroC, 1) := by unfold newC; rw [if_pos hf]
   rw [e]
   refine awp_seq ?_
   refine awp_region ?_
   refine aqs rfl (q_bd st136 zr136 (by first | ((repeat constructor); done) | exact .same _) (by repeat (first | exact BD.nil | (apply BD.cons; (· rfl); (· constructor); (· rfl); (· rfl); (· exact Nat.le_of_ble_eq_true (by rfl)); (· exact (by first | ((repeat constructor); done) | exact .same _)))))) rfl ?_
   first | (refine aen rfl (e_stW sz136 rfl (by repeat (first | exact .here | assumption | (apply HAt.left; assumption) | apply HAt.there | apply HAt.right)) (by constructor) (by first | rfl | assumption | (simp [*]; done) | fail) rfl (by repeat (first | exact .here | apply HSet.there))) ?_; rintro _ _ ⟨rfl, rfl⟩) | (refine aen rfl (e_stP sz136 rfl (by repeat (first | exact .here | assumption | (apply HAt.left; assumption) | apply HAt.there | apply HAt.right)) (by first | rfl | assumption | (simp [*]; done) | fail) (by constructor) (by first | rfl | assumption | (simp [*]; done) | fail) rfl (by first | decide | omega) (by first | ((repeat constructor); done) | exact .same _) (by first | exact .one | exact .set) (by repeat (first | exact .here | apply HSet.there))) ?_; rintro _ _ ⟨rfl, rfl⟩)
   refine aqs rfl (q_as (by constructor)) rfl ?_
   refine alist_nil ?_
   show AWP _ _ _ _
   refine awp_nil (by repeat (first | exact NilT.nil | (apply NilT.cons; (· first | exact .one .nil | exact .agg (by repeat (first | exact NilL.nil | (apply NilL.cons; (· first | exact .nil | exact .same)) | exact NilL.same)) | exact .one .same)) | exact NilT.same)) (by repeat (first | exact NilH.nil | (apply NilH.cons; (· first | exact .arr (by repeat (first | exact NilE.nil | (apply NilE.cons; (· exact (by repeat (first | exact NilL.nil | (apply NilL.cons; (· first | exact .nil | exact .same)) | exact NilL.same)))) | exact NilE.same)) | exact .same)) | exact NilH.same)) ?_
   show AWP _ _ _ _
   refine awp_ret ?_
   repeat first | with_reducible refine then_ret ?_ | with_reducible refine blk_ret ?_ | with_reducible refine nogo_ret ?_
   apply retq (.inr rfl) (.cons (rok_A ag136 sz136 rfl (by repeat (first | exact .here | assumption | (apply HAt.left; assumption) | apply HAt.there | apply HAt.right)) (by rfl)) (.cons (rok_t rfl) .nil))
   rotate_left
   ·exact ⟨rfl, rfl⟩
   repeat (first | exact List.Sublist.refl _ | exact List.nil_sublist _ | exact List.sublist_append_left _ _ | apply List.Sublist.cons)
  ·have hf : cFits p r w = true := by simpa using hc0
   obtain ⟨hf1, hf2, hf3⟩ := fits_prop hf
   rw [new_ok hf]
   refine awp_skip ?_
   show AWP _ _ _ _
   refine awp_seq ?_
   refine awp_region ?_
   refine aqs rfl (q_mv (by constructor)) rfl ?_
   refine aqs rfl (q_mv (by constructor)) rfl ?_
   refine aqs rfl (q_mv (by constructor)) rfl ?_
   (refine aes rfl (e_ms Try.underlying42 sz38 zr38 by38 rfl rfl rfl (by first | ((repeat constructor); done) | exact .same _) rfl (by omega) (by omega) (by omega)) rfl ?_; rintro _ _ ⟨u17, rfl, rfl⟩)
   refine aqs rfl (q_bd st136 zr136 (by first | ((repeat constructor); done) | exact .same _) (by repeat (first | exact BD.nil | (apply BD.cons; (· rfl); (· constructor); (· rfl); (· rfl); (· exact Nat.le_of_ble_eq_true (by rfl)); (· exact (by first | ((repeat constructor); done) | exact .same _)))))) rfl ?_
   first | (refine aen rfl (e_stW sz136 rfl (by repeat (first | exact .here | assumption | (apply HAt.left; assumption) | apply HAt.there | apply HAt.right)) (by constructor) (by first | rfl | assumption | (simp [*]; done) | fail) rfl (by repeat (first | exact .here | apply HSet.there))) ?_; rintro _ _ ⟨rfl, rfl⟩) | (refine aen rfl (e_stP sz136 rfl (by repeat (first | exact .here | assumption | (apply HAt.left; assumption) | apply HAt.there | apply HAt.right)) (by first | rfl | assumption | (simp [*]; done) | fail) (by constructor) (by first | rfl | assumption | (simp [*]; done) | fail) rfl (by first | decide | omega) (by first | ((repeat constructor); done) | exact .same _) (by first | exact .one | exact .set) (by repeat (first | exact .here | apply HSet.there))) ?_; rintro _ _ ⟨rfl, rfl⟩)
   refine aqs rfl (q_as (by constructor)) rfl ?_
   refine alist_nil ?_
   show AWP _ _ _ _
   refine awp_weak ⟨[(6, .ptr u6 0 0), (7, .lit (.int .i64 0))], 19, [(u17, .arr 38 1 (List.replicate p.toNat nilRow)), (u6, .arr 136 7 [[.lit (.int .i64 w), .lit (.int .i64 r), .sl u17 0 p.toNat, .lit (.int .i64 0), .lit (.int .i64 0), .lit (.int .i64 0), .lit (.int .i64 0)]])]⟩ (.mk' ⟨by rfl, rfl, trivial⟩ (List.Sublist.refl _)) ?_
   refine awp_nil (H2 := [(u17, .arr 38 1 ((List.replicate p.toNat ([] : List Slot)).map partCells)), (u6, _)]) .same (.cons (.arr (nil_rep _)) .same) ?_
   refine awp_pub (u := u17) (H2 := [(u6, .arr 136 7 [(⟨w, r, List.replicate p.toNat [], 0, 0, 0, 0⟩ : Cach).cells])]) .here PubT.same (.drop (.cons (.arr (.cons (.cons .same (.cons .same (.cons (pub_all (by simp)) .same))) .nil)) .same)) ?_
   show AWP _ _ _ _
   refine awp_ret ?_
   repeat first | with_reducible refine then_ret ?_ | with_reducible refine blk_ret ?_ | with_reducible refine nogo_ret ?_
   apply retq (.inr rfl) (.cons (rok_A ag136 sz136 rfl (by repeat (first | exact .here | assumption | (apply HAt.left; assumption) | apply HAt.there | apply HAt.right)) (by rfl)) (.cons (rok_t rfl) .nil))
   rotate_left
   ·exact ⟨rfl, rfl⟩
   repeat (first | exact List.Sublist.refl _ | exact List.nil_sublist _ | exact List.sublist_append_left _ _ | apply List.Sublist.cons)
set_option maxHeartbeats 2000000 in
theorem new108_c (p r w : Int) (H : Heap) : QCall Try.prog 108 [.lit (.int .i64 p), .lit (.int .i64 r), .lit (.int .i64 w)] H (newA (newC p r w)) := by
  refine QCall.any H ?_
  refine acall_intro (n := 21) (rvs := [.cell 6 136, .tmp 7]) Try.func108 rfl rfl rfl (Nat.le_of_ble_eq_true rfl) ?_
  refine awp_seq ?_
  refine awp_region ?_
  (refine aes rfl (e_al (xs := [.lit (.int .i64 0), .lit (.int .i64 0), .lit (.slice none 0 0), .lit (.int .i64 0), .lit (.int .i64 0), .lit (.int .i64 0), .lit (.int .i64 0)]) (k := 7) zr136 (.same _) rfl) rfl ?_; rintro _ _ ⟨u6, rfl, rfl⟩)
  refine aqs rfl (q_as (by constructor)) rfl ?_
  refine alist_nil ?_
  show AWP _ _ _ _
  refine awp_seq ?_
  refine awp_region ?_
  refine aqs rfl (q_mv (by constructor)) rfl ?_
  refine aqs rfl (q_mv (by constructor)) rfl ?_
  refine aqs rfl (q_mv (by constructor)) rfl ?_
  first | refine aqs rfl (e_callN cb159 (fits159_c p r w _) rfl rfl) rfl ?_ | refine aqs rfl (e_callN cb159 (ACall.arg (fits159_c p r w _) (by repeat (first | exact ArgL.nil | (apply ArgL.cons; (· first | exact .same | exact .cro | exact .nil))))) rfl rfl) rfl ?_
  refine aqs rfl (q_as (by constructor)) rfl ?_
  refine alist_nil ?_
  show AWP _ _ _ _
  refine awp_seq ?_
  refine awp_seq ?_
  refine awp_region ?_
  refine aqs rfl (q_mv (by constructor)) rfl ?_
  refine aqs rfl (q_not rfl) rfl ?_
  refine alist_nil ?_
  show AWP _ _ _ _
  refine awp_cond rfl (fun hc0 => ?_) (fun hc0 => ?_)
  ·have hf : cFits p r w = false := by simpa using hc0
   have e : newC p r w = (zeroC, 1) := by unfold newC; rw [if_pos hf]
   rw [e]
   refine awp_seq ?_
   refine awp_region ?_
   refine aqs rfl (q_bd st136 zr136 (by first | ((repeat constructor); done) | exact .same _) (by repeat (first | exact BD.nil | (apply BD.cons; (· rfl); (· constructor); (· rfl); (· rfl); (· exact Nat.le_of_ble_eq_true (by rfl)); (· exact (by first | ((repeat constructor); done) | exact .same _)))))) rfl ?_
   first | (refine aen rfl (e_stW sz136 rfl (by repeat (first | exact .here | assumption | (apply HAt.left; assumption) | apply HAt.there | apply HAt.right)) (by constructor) (by first | rfl | assumption | (simp [*]; done) | fail) rfl (by repeat (first | exact .here | apply HSet.there))) ?_; rintro _ _ ⟨rfl, rfl⟩) | (refine aen rfl (e_stP sz136 rfl (by repeat (first | exact .here | assumption | (apply HAt.left; assumption) | apply HAt.there | apply HAt.right)) (by first | rfl | assumption | (simp [*]; done) | fail) (by constructor) (by first | rfl | assumption | (simp [*]; done) | fail) rfl (by first | decide | omega) (by first | ((repeat constructor); done) | exact .same _) (by first | exact .one | exact .set) (by repeat (first | exact .here | apply HSet.there))) ?_; rintro _ _ ⟨rfl, rfl⟩)
   refine aqs rfl (q_as (by constructor)) rfl ?_
   refine alist_nil ?_
   show AWP _ _ _ _
   refine awp_nil (by repeat (first | exact NilT.nil | (apply NilT.cons; (· first | exact .one .nil | exact .agg (by repeat (first | exact NilL.nil | (apply NilL.cons; (· first | exact .nil | exact .same)) | exact NilL.same)) | exact .one .same)) | exact NilT.same)) (by repeat (first | exact NilH.nil | (apply NilH.cons; (· first | exact .arr (by repeat (first | exact NilE.nil | (apply NilE.cons; (· exact (by repeat (first | exact NilL.nil | (apply NilL.cons; (· first | exact .nil | exact .same)) | exact NilL.same)))) | exact NilE.same)) | exact .same)) | exact NilH.same)) ?_
   show AWP _ _ _ _
   refine awp_ret ?_
   repeat first | with_reducible refine then_ret ?_ | with_reducible refine blk_ret ?_ | with_reducible refine nogo_ret ?_
   apply retq (.inr rfl) (.cons (rok_A ag136 sz136 rfl (by repeat (first | exact .here | assumption | (apply HAt.left; assumption) | apply HAt.there | apply HAt.right)) (by rfl)) (.cons (rok_t rfl) .nil))
   rotate_left
   ·exact ⟨rfl, rfl⟩
   repeat (first | exact List.Sublist.refl _ | exact List.nil_sublist _ | exact List.sublist_append_left _ _ | apply List.Sublist.cons)
  ·have hf : cFits p r w = true := by simpa using hc0
   obtain ⟨hf1, hf2, hf3⟩ := fits_prop hf
   rw [new_ok hf]
   refine awp_skip ?_
   show AWP _ _ _ _
   refine awp_seq ?_
   refine awp_region ?_
   refine aqs rfl (q_mv (by constructor)) rfl ?_
   refine aqs rfl (q_mv (by constructor)) rfl ?_
   refine aqs rfl (q_mv (by constructor)) rfl ?_
   (refine aes rfl (e_ms Try.underlying42 sz38 zr38 by38 rfl rfl rfl (by first | ((repeat constructor); done) | exact .same _) rfl (by omega) (by omega) (by omega)) rfl ?_; rintro _ _ ⟨u19, rfl, rfl⟩)
   refine aqs rfl (q_bd st136 zr136 (by first | ((repeat constructor); done) | exact .same _) (by repeat (first | exact BD.nil | (apply BD.cons; (· rfl); (· constructor); (· rfl); (· rfl); (· exact Nat.le_of_ble_eq_true (by rfl)); (· exact (by first | ((repeat constructor); done) | exact .same _)))))) rfl ?_
   first | (refine aen rfl (e_stW sz136 rfl (by repeat (first | exact .here | assumption | (apply HAt.left; assumption) | apply HAt.there | apply HAt.right)) (by constructor) (by first | rfl | assumption | (simp [*]; done) | fail) rfl (by repeat (first | exact .here | apply HSet.there))) ?_; rintro _ _ ⟨rfl, rfl⟩) | (refine aen rfl (e_stP sz136 rfl (by repeat (first | exact .here | assumption | (apply HAt.left; assumption) | apply HAt.there | apply HAt.right)) (by first | rfl | assumption | (simp [*]; done) | fail) (by constructor) (by first | rfl | assumption | (simp [*]; done) | fail) rfl (by first | decide | omega) (by first | ((repeat constructor); done) | exact .same _) (by first | exact .one | exact .set) (by repeat (first | exact .here | apply HSet.there))) ?_; rintro _ _ ⟨rfl, rfl⟩)
   refine aqs rfl (q_as (by constructor)) rfl ?_
   refine alist_nil ?_
   show AWP _ _ _ _
   refine awp_weak ⟨[(6, .ptr u6 0 0), (7, .lit (.int .i64 0))], 21, [(u19, .arr 38 1 (List.replicate p.toNat nilRow)), (u6, .arr 136 7 [[.lit (.int .i64 w), .lit (.int .i64 r), .sl u19 0 p.toNat, .lit (.int .i64 0), .lit (.int .i64 0), .lit (.int .i64 0), .lit (.int .i64 0)]])]⟩ (.mk' ⟨by rfl, rfl, trivial⟩ (List.Sublist.refl _)) ?_
   refine awp_nil (H2 := [(u19, .arr 38 1 ((List.replicate p.toNat ([] : List Slot)).map partCells)), (u6, _)]) .same (.cons (.arr (nil_rep _)) .same) ?_
   refine awp_pub (u := u19) (H2 := [(u6, .arr 136 7 [(⟨w, r, List.replicate p.toNat [], 0, 0, 0, 0⟩ : Cach).cells])]) .here PubT.same (.drop (.cons (.arr (.cons (.cons .same (.cons .same (.cons (pub_all (by simp)) .same))) .nil)) .same)) ?_
   show AWP _ _ _ _
   refine awp_ret ?_
   repeat first | with_reducible refine then_ret ?_ | with_reducible refine blk_ret ?_ | with_reducible refine nogo_ret ?_
   apply retq (.inr rfl) (.cons (rok_A ag136 sz136 rfl (by repeat (first | exact .here | assumption | (apply HAt.left; assumption) | apply HAt.there | apply HAt.right)) (by rfl)) (.cons (rok_t rfl) .nil))
   rotate_left
   ·exact ⟨rfl, rfl⟩
   repeat (first | exact List.Sublist.refl _ | exact List.nil_sublist _ | exact List.sublist_append_left _ _ | apply List.Sublist.cons)
end Go.Proofs.YtdlinfekifnmkaaAm
