/- Contracts of the layer 'queue'. Conditions: the lengths. -/
import Derived.Test.YtdlinfekifnmkaaAmSlicesTask
set_option linter.unusedVariables false
set_option linter.unusedSimpArgs false
set_option maxRecDepth 20000
namespace Go.Proofs.YtdlinfekifnmkaaAm
open Go.Proofs

theorem teq (a b : Task) : ((a.req == b.req) && ((a.slot == b.slot) && ((a.left.toList == b.left.toList) && (a.right.toList == b.right.toList)))) = decide (a = b) := by
  rcases a with ⟨a1, a2, a3, a4⟩
  rcases b with ⟨b1, b2, b3, b4⟩
  rw [str_eq, str_eq, Bool.eq_iff_iff]
  simp
def zeroQ : Queue := ⟨0, false, []⟩
def zeroT : Task := ⟨0, 0, ⟨#[]⟩, ⟨#[]⟩⟩
def qRight (q : Queue) : Bool := decide (0 ≤ q.room) && decide (q.room ≤ 4096) && decide ((q.tasks.length : Int) ≤ q.room)
theorem qRight_f {q : Queue} : qRight q = true ↔ 0 ≤ q.room ∧ q.room ≤ 4096 ∧ (q.tasks.length : Int) ≤ q.room := by
  simp [qRight, and_assoc]
set_option maxHeartbeats 1000000 in
theorem right72_c (q : Queue) (H : Heap) : QCall Try.prog 72 [.agg q.cells] H (.lit (.bool (qRight q))) := by
  have e : qRight q = (decide ((0 : Int) ≤ q.room) && decide (q.room ≤ 4096) && decide (((q.tasks.map Task.cells).length : Int) ≤ q.room)) := by simp [qRight]
  rw [e]
  refine acall_intro (n := 19) (rvs := [.tmp 2]) Try.func72 rfl rfl rfl (Nat.le_of_ble_eq_true rfl) ?_
  refine awp_seq ?_
  refine awp_region ?_
  (refine aes rfl (e_bx (by constructor) rfl rfl) rfl ?_; rintro _ _ ⟨u1, rfl, rfl⟩)
  refine aqs rfl (q_as (by constructor)) rfl ?_
  refine alist_nil ?_
  show AWP _ _ _ _
  refine awp_mid [(2, .lit (.bool (decide ((0 : Int) ≤ q.room) && decide (q.room ≤ 4096) && decide (((q.tasks.map Task.cells).length : Int) ≤ q.room))))] ?_ ?_
  · skip
    refine awp_region ?_
    all_goals (first | refine aqs rfl (q_fapP fl63_0 (by decide) rfl rfl) rfl ?_ | refine aqs rfl (q_faP fl63_0 (by decide) rfl (by first | ((repeat constructor); done) | exact .same _)) rfl ?_)
    all_goals (first | refine aqs rfl (q_ldpN ag3 rfl (by repeat (first | exact .here | assumption | (apply HAt.left; assumption) | apply HAt.there | apply HAt.right)) (by first | rfl | assumption | (simp [*]; done) | fail) (by first | rfl | assumption | (simp [*]; done) | fail) (by constructor)) rfl ?_ | refine aqs rfl (q_ld1N ag3 rfl (by constructor)) rfl ?_)
    all_goals (refine aqs rfl (q_geq rfl rfl) rfl ?_)
    all_goals (refine aqs rfl (q_mv (by constructor)) rfl ?_)
    all_goals try (refine acase (fun hb3 => ?_) (fun hb3 => ?_))
    all_goals first | (exfalso; cases hb3; done) | skip
    all_goals (first | refine ans rfl rfl ?_ | refine aqs rfl (q_fapP fl63_0 (by decide) rfl rfl) rfl ?_ | refine aqs rfl (q_faP fl63_0 (by decide) rfl (by first | ((repeat constructor); done) | exact .same _)) rfl ?_)
    all_goals (first | refine ans rfl rfl ?_ | refine aqs rfl (q_ldpN ag3 rfl (by repeat (first | exact .here | assumption | (apply HAt.left; assumption) | apply HAt.there | apply HAt.right)) (by first | rfl | assumption | (simp [*]; done) | fail) (by first | rfl | assumption | (simp [*]; done) | fail) (by constructor)) rfl ?_ | refine aqs rfl (q_ld1N ag3 rfl (by constructor)) rfl ?_)
    all_goals (first | refine ans rfl rfl ?_ | refine aqs rfl (q_leq rfl rfl) rfl ?_)
    all_goals (first | refine aqs rfl (q_pickT rfl (by constructor)) rfl ?_ | refine aqs rfl (q_pickF rfl (by constructor)) rfl ?_)
    all_goals (refine aqs rfl (q_mv (by constructor)) rfl ?_)
    all_goals try (refine acase (fun hb8 => ?_) (fun hb8 => ?_))
    all_goals first | (exfalso; cases hb8; done) | skip
    all_goals (first | refine ans rfl rfl ?_ | refine aqs rfl (q_fapP fl63_2 (by decide) rfl rfl) rfl ?_ | refine aqs rfl (q_faP fl63_2 (by decide) rfl (by first | ((repeat constructor); done) | exact .same _)) rfl ?_)
    all_goals (first | refine ans rfl rfl ?_ | refine aqs rfl (q_ldpN ag61 rfl (by repeat (first | exact .here | assumption | (apply HAt.left; assumption) | apply HAt.there | apply HAt.right)) (by first | rfl | assumption | (simp [*]; done) | fail) (by first | rfl | assumption | (simp [*]; done) | fail) (by constructor)) rfl ?_ | refine aqs rfl (q_ld1N ag61 rfl (by constructor)) rfl ?_)
    all_goals (first | refine ans rfl rfl ?_ | refine aqs rfl (q_len Try.underlying61 .ro) rfl ?_ | refine aqs rfl (q_lenO Try.underlying61 rfl (by repeat (first | exact .here | assumption | (apply HAt.left; assumption) | apply HAt.there | apply HAt.right)) (by first | omega | (simp; done) | (simp; omega) | fail) (by first | exact Nat.sub_zero _ | rfl)) rfl ?_ | refine aqs rfl (q_len Try.underlying61 .nil) rfl ?_ | refine aqs rfl (q_len Try.underlying61 .cro) rfl ?_)
    all_goals (first | refine ans rfl rfl ?_ | refine aqs rfl (q_fapP fl63_0 (by decide) rfl rfl) rfl ?_ | refine aqs rfl (q_faP fl63_0 (by decide) rfl (by first | ((repeat constructor); done) | exact .same _)) rfl ?_)
    all_goals (first | refine ans rfl rfl ?_ | refine aqs rfl (q_ldpN ag3 rfl (by repeat (first | exact .here | assumption | (apply HAt.left; assumption) | apply HAt.there | apply HAt.right)) (by first | rfl | assumption | (simp [*]; done) | fail) (by first | rfl | assumption | (simp [*]; done) | fail) (by constructor)) rfl ?_ | refine aqs rfl (q_ld1N ag3 rfl (by constructor)) rfl ?_)
    all_goals (first | refine ans rfl rfl ?_ | refine aqs rfl (q_leq rfl rfl) rfl ?_)
    all_goals (first | refine aqs rfl (q_pickT rfl (by constructor)) rfl ?_ | refine aqs rfl (q_pickF rfl (by constructor)) rfl ?_)
    all_goals (refine aqs rfl (q_as (by constructor)) rfl ?_)
    all_goals (refine alist_nil ?_)
    all_goals (exact ⟨rfl, .mk' (by repeat (first | exact trivial | refine ⟨rfl, ?_⟩ | (refine ⟨?_, ?_⟩; (· first | (rw [hb3, hb8]; rfl) | (rw [hb3]; rfl) | fail)))) (.refl _)⟩)
  refine awp_ret ?_
  repeat first | with_reducible refine then_ret ?_ | with_reducible refine blk_ret ?_
  apply retq (.inr rfl) (.cons (rok_t rfl) .nil)
  rotate_left
  · exact ⟨rfl, rfl⟩
  repeat (first | exact List.Sublist.refl _ | exact List.nil_sublist _ | exact List.sublist_append_left _ _ | apply List.Sublist.cons)
set_option maxHeartbeats 1000000 in
theorem right73_c (q : Queue) (H : Heap) : QCall Try.prog 73 [.agg q.cells] H (.lit (.bool (qRight q))) := by
  have e : qRight q = (decide ((0 : Int) ≤ q.room) && decide (q.room ≤ 4096) && decide (((q.tasks.map Task.cells).length : Int) ≤ q.room)) := by simp [qRight]
  rw [e]
  refine acall_intro (n := 19) (rvs := [.tmp 2]) Try.func73 rfl rfl rfl (Nat.le_of_ble_eq_true rfl) ?_
  refine awp_seq ?_
  refine awp_region ?_
  (refine aes rfl (e_bx (by constructor) rfl rfl) rfl ?_; rintro _ _ ⟨u1, rfl, rfl⟩)
  refine aqs rfl (q_as (by constructor)) rfl ?_
  refine alist_nil ?_
  show AWP _ _ _ _
  refine awp_mid [(2, .lit (.bool (decide ((0 : Int) ≤ q.room) && decide (q.room ≤ 4096) && decide (((q.tasks.map Task.cells).length : Int) ≤ q.room))))] ?_ ?_
  · skip
    refine awp_region ?_
    all_goals (first | refine aqs rfl (q_fapP fl63_0 (by decide) rfl rfl) rfl ?_ | refine aqs rfl (q_faP fl63_0 (by decide) rfl (by first | ((repeat constructor); done) | exact .same _)) rfl ?_)
    all_goals (first | refine aqs rfl (q_ldpN ag3 rfl (by repeat (first | exact .here | assumption | (apply HAt.left; assumption) | apply HAt.there | apply HAt.right)) (by first | rfl | assumption | (simp [*]; done) | fail) (by first | rfl | assumption | (simp [*]; done) | fail) (by constructor)) rfl ?_ | refine aqs rfl (q_ld1N ag3 rfl (by constructor)) rfl ?_)
    all_goals (refine aqs rfl (q_geq rfl rfl) rfl ?_)
    all_goals (refine aqs rfl (q_mv (by constructor)) rfl ?_)
    all_goals try (refine acase (fun hb3 => ?_) (fun hb3 => ?_))
    all_goals first | (exfalso; cases hb3; done) | skip
    all_goals (first | refine ans rfl rfl ?_ | refine aqs rfl (q_fapP fl63_0 (by decide) rfl rfl) rfl ?_ | refine aqs rfl (q_faP fl63_0 (by decide) rfl (by first | ((repeat constructor); done) | exact .same _)) rfl ?_)
    all_goals (first | refine ans rfl rfl ?_ | refine aqs rfl (q_ldpN ag3 rfl (by repeat (first | exact .here | assumption | (apply HAt.left; assumption) | apply HAt.there | apply HAt.right)) (by first | rfl | assumption | (simp [*]; done) | fail) (by first | rfl | assumption | (simp [*]; done) | fail) (by constructor)) rfl ?_ | refine aqs rfl (q_ld1N ag3 rfl (by constructor)) rfl ?_)
    all_goals (first | refine ans rfl rfl ?_ | refine aqs rfl (q_leq rfl rfl) rfl ?_)
    all_goals (first | refine aqs rfl (q_pickT rfl (by constructor)) rfl ?_ | refine aqs rfl (q_pickF rfl (by constructor)) rfl ?_)
    all_goals (refine aqs rfl (q_mv (by constructor)) rfl ?_)
    all_goals try (refine acase (fun hb8 => ?_) (fun hb8 => ?_))
    all_goals first | (exfalso; cases hb8; done) | skip
    all_goals (first | refine ans rfl rfl ?_ | refine aqs rfl (q_fapP fl63_2 (by decide) rfl rfl) rfl ?_ | refine aqs rfl (q_faP fl63_2 (by decide) rfl (by first | ((repeat constructor); done) | exact .same _)) rfl ?_)
    all_goals (first | refine ans rfl rfl ?_ | refine aqs rfl (q_ldpN ag61 rfl (by repeat (first | exact .here | assumption | (apply HAt.left; assumption) | apply HAt.there | apply HAt.right)) (by first | rfl | assumption | (simp [*]; done) | fail) (by first | rfl | assumption | (simp [*]; done) | fail) (by constructor)) rfl ?_ | refine aqs rfl (q_ld1N ag61 rfl (by constructor)) rfl ?_)
    all_goals (first | refine ans rfl rfl ?_ | refine aqs rfl (q_len Try.underlying61 .ro) rfl ?_ | refine aqs rfl (q_lenO Try.underlying61 rfl (by repeat (first | exact .here | assumption | (apply HAt.left; assumption) | apply HAt.there | apply HAt.right)) (by first | omega | (simp; done) | (simp; omega) | fail) (by first | exact Nat.sub_zero _ | rfl)) rfl ?_ | refine aqs rfl (q_len Try.underlying61 .nil) rfl ?_ | refine aqs rfl (q_len Try.underlying61 .cro) rfl ?_)
    all_goals (first | refine ans rfl rfl ?_ | refine aqs rfl (q_fapP fl63_0 (by decide) rfl rfl) rfl ?_ | refine aqs rfl (q_faP fl63_0 (by decide) rfl (by first | ((repeat constructor); done) | exact .same _)) rfl ?_)
    all_goals (first | refine ans rfl rfl ?_ | refine aqs rfl (q_ldpN ag3 rfl (by repeat (first | exact .here | assumption | (apply HAt.left; assumption) | apply HAt.there | apply HAt.right)) (by first | rfl | assumption | (simp [*]; done) | fail) (by first | rfl | assumption | (simp [*]; done) | fail) (by constructor)) rfl ?_ | refine aqs rfl (q_ld1N ag3 rfl (by constructor)) rfl ?_)
    all_goals (first | refine ans rfl rfl ?_ | refine aqs rfl (q_leq rfl rfl) rfl ?_)
    all_goals (first | refine aqs rfl (q_pickT rfl (by constructor)) rfl ?_ | refine aqs rfl (q_pickF rfl (by constructor)) rfl ?_)
    all_goals (refine aqs rfl (q_as (by constructor)) rfl ?_)
    all_goals (refine alist_nil ?_)
    all_goals (exact ⟨rfl, .mk' (by repeat (first | exact trivial | refine ⟨rfl, ?_⟩ | (refine ⟨?_, ?_⟩; (· first | (rw [hb3, hb8]; rfl) | (rw [hb3]; rfl) | fail)))) (.refl _)⟩)
  refine awp_ret ?_
  repeat first | with_reducible refine then_ret ?_ | with_reducible refine blk_ret ?_
  apply retq (.inr rfl) (.cons (rok_t rfl) .nil)
  rotate_left
  · exact ⟨rfl, rfl⟩
  repeat (first | exact List.Sublist.refl _ | exact List.nil_sublist _ | exact List.sublist_append_left _ _ | apply List.Sublist.cons)
def newS (n : Int) : Queue × Int := if qRight ⟨n, false, []⟩ = true then (⟨n, false, []⟩, 0) else (zeroQ, 1)
def newA (g : Queue × Int) : AV := .tup [.agg g.1.cells, .lit (.int .i64 g.2)]
set_option maxHeartbeats 1000000 in
theorem new61_c (n : Int) (H : Heap) : QCall Try.prog 61 [.lit (.int .i64 n)] H (newA (newS n)) := by
  refine acall_intro (n := 12) (rvs := [.cell 2 63, .tmp 3]) Try.func61 rfl rfl rfl (Nat.le_of_ble_eq_true rfl) ?_
  refine awp_seq ?_
  refine awp_region ?_
  (refine aes rfl (e_al (xs := [.lit (.int .i64 0), .lit (.bool false), .lit (.slice none 0 0)]) (k := 3) zr63 (.same _) rfl) rfl ?_; rintro _ _ ⟨u2, rfl, rfl⟩)
  refine aqs rfl (q_as (by constructor)) rfl ?_
  refine alist_nil ?_
  show AWP _ _ _ _
  refine awp_seq ?_
  refine awp_region ?_
  refine aqs rfl (q_mv (by constructor)) rfl ?_
  refine aqs rfl (q_bd st63 zr63 (by first | ((repeat constructor); done) | exact .same _) (by repeat (first | exact BD.nil | (apply BD.cons; (· rfl); (· constructor); (· rfl); (· rfl); (· exact Nat.le_of_ble_eq_true (by rfl)); (· exact (by first | ((repeat constructor); done) | exact .same _)))))) rfl ?_
  (refine aes rfl (e_al (xs := [.lit (.int .i64 0), .lit (.bool false), .lit (.slice none 0 0)]) (k := 3) zr63 (.same _) rfl) rfl ?_; rintro _ _ ⟨u4, rfl, rfl⟩)
  first | (refine aen rfl (e_stW sz63 rfl (by repeat (first | exact .here | assumption | (apply HAt.left; assumption) | apply HAt.there | apply HAt.right)) (by constructor) (by first | rfl | assumption | (simp [*]; done) | fail) rfl (by repeat (first | exact .here | apply HSet.there))) ?_; rintro _ _ ⟨rfl, rfl⟩) | (refine aen rfl (e_stP sz63 rfl (by repeat (first | exact .here | assumption | (apply HAt.left; assumption) | apply HAt.there | apply HAt.right)) (by first | rfl | assumption | (simp [*]; done) | fail) (by constructor) (by first | rfl | assumption | (simp [*]; done) | fail) rfl (by first | decide | omega) (by first | ((repeat constructor); done) | exact .same _) (by first | exact .one | exact .set) (by repeat (first | exact .here | apply HSet.there))) ?_; rintro _ _ ⟨rfl, rfl⟩)
  refine alist_nil ?_
  show AWP _ _ _ _
  refine awp_nil (by repeat (first | exact NilT.nil | (apply NilT.cons; (· first | exact .one .nil | exact .agg (by repeat (first | exact NilL.nil | (apply NilL.cons; (· first | exact .nil | exact .same)) | exact NilL.same)) | exact .one .same)) | exact NilT.same)) (by repeat (first | exact NilH.nil | (apply NilH.cons; (· first | exact .arr (by repeat (first | exact NilE.nil | (apply NilE.cons; (· exact (by repeat (first | exact NilL.nil | (apply NilL.cons; (· first | exact .nil | exact .same)) | exact NilL.same)))) | exact NilE.same)) | exact .same)) | exact NilH.same)) ?_
  show AWP _ _ _ _
  refine awp_seq ?_
  refine awp_seq ?_
  refine awp_region ?_
  first | refine aqs rfl (q_ldpW ag63 sz63 rfl (by repeat (first | exact .here | assumption | (apply HAt.left; assumption) | apply HAt.there | apply HAt.right)) (by first | rfl | assumption | (simp [*]; done) | fail) (by first | rfl | assumption | (simp [*]; done) | fail) (by decide)) rfl ?_ | refine aqs rfl (q_ldW ag63 sz63 rfl (by first | rfl | assumption | (simp [*]; done) | fail)) rfl ?_ | refine aqs rfl (q_ldpP ag63 sz63 rfl (by repeat (first | exact .here | assumption | (apply HAt.left; assumption) | apply HAt.there | apply HAt.right)) (by first | rfl | assumption | (simp [*]; done) | fail) (by first | decide | (simp; done) | omega | fail) (by decide) (by first | ((repeat constructor); done) | exact .same _)) rfl ?_ | refine aqs rfl (q_ldP ag63 sz63 rfl (by first | decide | (simp; done) | omega | fail) (by first | ((repeat constructor); done) | exact .same _)) rfl ?_
  first | refine aqs rfl (e_callN cb72 (right72_c ⟨n, false, []⟩ _) rfl rfl) rfl ?_ | refine aqs rfl (e_callN cb72 (ACall.arg (right72_c ⟨n, false, []⟩ _) (by repeat (first | exact ArgL.nil | (apply ArgL.cons; (· first | exact .same | exact .cro | exact .nil))))) rfl rfl) rfl ?_
  refine aqs rfl (q_not rfl) rfl ?_
  refine alist_nil ?_
  show AWP _ _ _ _
  refine awp_cond rfl (fun hc0 => ?_) (fun hc0 => ?_)
  · have hb : ¬ qRight ⟨n, false, []⟩ = true := by simpa using hc0
    rw [show newS n = (zeroQ, 1) by rw [newS, if_neg hb]]
    refine awp_seq ?_
    refine awp_region ?_
    refine aqs rfl (q_bd st63 zr63 (by first | ((repeat constructor); done) | exact .same _) (by repeat (first | exact BD.nil | (apply BD.cons; (· rfl); (· constructor); (· rfl); (· rfl); (· exact Nat.le_of_ble_eq_true (by rfl)); (· exact (by first | ((repeat constructor); done) | exact .same _)))))) rfl ?_
    first | (refine aen rfl (e_stW sz63 rfl (by repeat (first | exact .here | assumption | (apply HAt.left; assumption) | apply HAt.there | apply HAt.right)) (by constructor) (by first | rfl | assumption | (simp [*]; done) | fail) rfl (by repeat (first | exact .here | apply HSet.there))) ?_; rintro _ _ ⟨rfl, rfl⟩) | (refine aen rfl (e_stP sz63 rfl (by repeat (first | exact .here | assumption | (apply HAt.left; assumption) | apply HAt.there | apply HAt.right)) (by first | rfl | assumption | (simp [*]; done) | fail) (by constructor) (by first | rfl | assumption | (simp [*]; done) | fail) rfl (by first | decide | omega) (by first | ((repeat constructor); done) | exact .same _) (by first | exact .one | exact .set) (by repeat (first | exact .here | apply HSet.there))) ?_; rintro _ _ ⟨rfl, rfl⟩)
    refine aqs rfl (q_as (by constructor)) rfl ?_
    refine alist_nil ?_
    show AWP _ _ _ _
    refine awp_nil (by repeat (first | exact NilT.nil | (apply NilT.cons; (· first | exact .one .nil | exact .agg (by repeat (first | exact NilL.nil | (apply NilL.cons; (· first | exact .nil | exact .same)) | exact NilL.same)) | exact .one .same)) | exact NilT.same)) (by repeat (first | exact NilH.nil | (apply NilH.cons; (· first | exact .arr (by repeat (first | exact NilE.nil | (apply NilE.cons; (· exact (by repeat (first | exact NilL.nil | (apply NilL.cons; (· first | exact .nil | exact .same)) | exact NilL.same)))) | exact NilE.same)) | exact .same)) | exact NilH.same)) ?_
    show AWP _ _ _ _
    refine awp_ret ?_
    repeat first | with_reducible refine then_ret ?_ | with_reducible refine blk_ret ?_
    apply retq (.inr rfl) (.cons (rok_A ag63 sz63 rfl (by repeat (first | exact .here | assumption | (apply HAt.left; assumption) | apply HAt.there | apply HAt.right)) (by rfl)) (.cons (rok_t rfl) .nil))
    rotate_left
    · exact ⟨rfl, rfl⟩
    repeat (first | exact List.Sublist.refl _ | exact List.nil_sublist _ | exact List.sublist_append_left _ _ | apply List.Sublist.cons)
  · have hb : qRight ⟨n, false, []⟩ = true := by simpa using hc0
    rw [show newS n = (⟨n, false, []⟩, 0) by rw [newS, if_pos hb]]
    refine awp_skip ?_
    show AWP _ _ _ _
    refine awp_seq ?_
    refine awp_region ?_
    first | refine aqs rfl (q_ldpW ag63 sz63 rfl (by repeat (first | exact .here | assumption | (apply HAt.left; assumption) | apply HAt.there | apply HAt.right)) (by first | rfl | assumption | (simp [*]; done) | fail) (by first | rfl | assumption | (simp [*]; done) | fail) (by decide)) rfl ?_ | refine aqs rfl (q_ldW ag63 sz63 rfl (by first | rfl | assumption | (simp [*]; done) | fail)) rfl ?_ | refine aqs rfl (q_ldpP ag63 sz63 rfl (by repeat (first | exact .here | assumption | (apply HAt.left; assumption) | apply HAt.there | apply HAt.right)) (by first | rfl | assumption | (simp [*]; done) | fail) (by first | decide | (simp; done) | omega | fail) (by decide) (by first | ((repeat constructor); done) | exact .same _)) rfl ?_ | refine aqs rfl (q_ldP ag63 sz63 rfl (by first | decide | (simp; done) | omega | fail) (by first | ((repeat constructor); done) | exact .same _)) rfl ?_
    first | (refine aen rfl (e_stW sz63 rfl (by repeat (first | exact .here | assumption | (apply HAt.left; assumption) | apply HAt.there | apply HAt.right)) (by constructor) (by first | rfl | assumption | (simp [*]; done) | fail) rfl (by repeat (first | exact .here | apply HSet.there))) ?_; rintro _ _ ⟨rfl, rfl⟩) | (refine aen rfl (e_stP sz63 rfl (by repeat (first | exact .here | assumption | (apply HAt.left; assumption) | apply HAt.there | apply HAt.right)) (by first | rfl | assumption | (simp [*]; done) | fail) (by constructor) (by first | rfl | assumption | (simp [*]; done) | fail) rfl (by first | decide | omega) (by first | ((repeat constructor); done) | exact .same _) (by first | exact .one | exact .set) (by repeat (first | exact .here | apply HSet.there))) ?_; rintro _ _ ⟨rfl, rfl⟩)
    refine aqs rfl (q_as (by constructor)) rfl ?_
    refine alist_nil ?_
    show AWP _ _ _ _
    refine awp_ret ?_
    repeat first | with_reducible refine then_ret ?_ | with_reducible refine blk_ret ?_
    apply retq (.inr rfl) (.cons (rok_A ag63 sz63 rfl (by repeat (first | exact .here | assumption | (apply HAt.left; assumption) | apply HAt.there | apply HAt.right)) (by rfl)) (.cons (rok_t rfl) .nil))
    rotate_left
    · exact ⟨rfl, rfl⟩
    repeat (first | exact List.Sublist.refl _ | exact List.nil_sublist _ | exact List.sublist_append_left _ _ | apply List.Sublist.cons)
set_option maxHeartbeats 1000000 in
theorem new62_c (n : Int) (H : Heap) : QCall Try.prog 62 [.lit (.int .i64 n)] H (newA (newS n)) := by
  have e : qRight ⟨n, false, []⟩ = !(decide (n < 0) || decide ((4096 : Int) < n)) := by
    rw [Bool.eq_iff_iff, qRight_f]
    simp
    omega
  refine acall_intro (n := 13) (rvs := [.cell 2 63, .tmp 3]) Try.func62 rfl rfl rfl (Nat.le_of_ble_eq_true rfl) ?_
  refine awp_seq ?_
  refine awp_region ?_
  (refine aes rfl (e_al (xs := [.lit (.int .i64 0), .lit (.bool false), .lit (.slice none 0 0)]) (k := 3) zr63 (.same _) rfl) rfl ?_; rintro _ _ ⟨u2, rfl, rfl⟩)
  refine aqs rfl (q_as (by constructor)) rfl ?_
  refine alist_nil ?_
  show AWP _ _ _ _
  refine awp_seq ?_
  refine awp_mid [(9, .lit (.bool (decide (n < 0) || decide ((4096 : Int) < n)))), (0, .lit (.int .i64 n)), (2, .ptr u2 0 0), (3, .lit (.int .i64 0))] ?_ ?_
  · skip
    refine awp_region ?_
    all_goals (refine aqs rfl (q_mv (by constructor)) rfl ?_)
    all_goals (refine aqs rfl (q_lss rfl rfl) rfl ?_)
    all_goals (refine aqs rfl (q_mv (by constructor)) rfl ?_)
    all_goals try (refine acase (fun hb2 => ?_) (fun hb2 => ?_))
    all_goals first | (exfalso; cases hb2; done) | skip
    all_goals (first | refine ans rfl rfl ?_ | refine aqs rfl (q_mv (by constructor)) rfl ?_)
    all_goals (first | refine ans rfl rfl ?_ | refine aqs rfl (q_gtr rfl rfl) rfl ?_)
    all_goals (first | refine aqs rfl (q_pickT rfl (by constructor)) rfl ?_ | refine aqs rfl (q_pickF rfl (by constructor)) rfl ?_)
    all_goals (refine alist_nil ?_)
    all_goals (exact ⟨rfl, .mk' (by repeat (first | exact trivial | refine ⟨rfl, ?_⟩ | (refine ⟨?_, ?_⟩; (· first | (rw [hb2]; rfl) | fail)))) (.refl _)⟩)
  refine awp_cond rfl (fun hc0 => ?_) (fun hc0 => ?_)
  · have hb : ¬ qRight ⟨n, false, []⟩ = true := by rw [e, hc0]; simp
    rw [show newS n = (zeroQ, 1) by rw [newS, if_neg hb]]
    refine awp_seq ?_
    refine awp_region ?_
    refine aqs rfl (q_bd st63 zr63 (by first | ((repeat constructor); done) | exact .same _) (by repeat (first | exact BD.nil | (apply BD.cons; (· rfl); (· constructor); (· rfl); (· rfl); (· exact Nat.le_of_ble_eq_true (by rfl)); (· exact (by first | ((repeat constructor); done) | exact .same _)))))) rfl ?_
    first | (refine aen rfl (e_stW sz63 rfl (by repeat (first | exact .here | assumption | (apply HAt.left; assumption) | apply HAt.there | apply HAt.right)) (by constructor) (by first | rfl | assumption | (simp [*]; done) | fail) rfl (by repeat (first | exact .here | apply HSet.there))) ?_; rintro _ _ ⟨rfl, rfl⟩) | (refine aen rfl (e_stP sz63 rfl (by repeat (first | exact .here | assumption | (apply HAt.left; assumption) | apply HAt.there | apply HAt.right)) (by first | rfl | assumption | (simp [*]; done) | fail) (by constructor) (by first | rfl | assumption | (simp [*]; done) | fail) rfl (by first | decide | omega) (by first | ((repeat constructor); done) | exact .same _) (by first | exact .one | exact .set) (by repeat (first | exact .here | apply HSet.there))) ?_; rintro _ _ ⟨rfl, rfl⟩)
    refine aqs rfl (q_as (by constructor)) rfl ?_
    refine alist_nil ?_
    show AWP _ _ _ _
    refine awp_nil (by repeat (first | exact NilT.nil | (apply NilT.cons; (· first | exact .one .nil | exact .agg (by repeat (first | exact NilL.nil | (apply NilL.cons; (· first | exact .nil | exact .same)) | exact NilL.same)) | exact .one .same)) | exact NilT.same)) (by repeat (first | exact NilH.nil | (apply NilH.cons; (· first | exact .arr (by repeat (first | exact NilE.nil | (apply NilE.cons; (· exact (by repeat (first | exact NilL.nil | (apply NilL.cons; (· first | exact .nil | exact .same)) | exact NilL.same)))) | exact NilE.same)) | exact .same)) | exact NilH.same)) ?_
    show AWP _ _ _ _
    refine awp_ret ?_
    repeat first | with_reducible refine then_ret ?_ | with_reducible refine blk_ret ?_
    apply retq (.inr rfl) (.cons (rok_A ag63 sz63 rfl (by repeat (first | exact .here | assumption | (apply HAt.left; assumption) | apply HAt.there | apply HAt.right)) (by rfl)) (.cons (rok_t rfl) .nil))
    rotate_left
    · exact ⟨rfl, rfl⟩
    repeat (first | exact List.Sublist.refl _ | exact List.nil_sublist _ | exact List.sublist_append_left _ _ | apply List.Sublist.cons)
  · have hb : qRight ⟨n, false, []⟩ = true := by rw [e, hc0]; simp
    rw [show newS n = (⟨n, false, []⟩, 0) by rw [newS, if_pos hb]]
    refine awp_skip ?_
    show AWP _ _ _ _
    refine awp_seq ?_
    refine awp_region ?_
    refine aqs rfl (q_mv (by constructor)) rfl ?_
    refine aqs rfl (q_bd st63 zr63 (by first | ((repeat constructor); done) | exact .same _) (by repeat (first | exact BD.nil | (apply BD.cons; (· rfl); (· constructor); (· rfl); (· rfl); (· exact Nat.le_of_ble_eq_true (by rfl)); (· exact (by first | ((repeat constructor); done) | exact .same _)))))) rfl ?_
    first | (refine aen rfl (e_stW sz63 rfl (by repeat (first | exact .here | assumption | (apply HAt.left; assumption) | apply HAt.there | apply HAt.right)) (by constructor) (by first | rfl | assumption | (simp [*]; done) | fail) rfl (by repeat (first | exact .here | apply HSet.there))) ?_; rintro _ _ ⟨rfl, rfl⟩) | (refine aen rfl (e_stP sz63 rfl (by repeat (first | exact .here | assumption | (apply HAt.left; assumption) | apply HAt.there | apply HAt.right)) (by first | rfl | assumption | (simp [*]; done) | fail) (by constructor) (by first | rfl | assumption | (simp [*]; done) | fail) rfl (by first | decide | omega) (by first | ((repeat constructor); done) | exact .same _) (by first | exact .one | exact .set) (by repeat (first | exact .here | apply HSet.there))) ?_; rintro _ _ ⟨rfl, rfl⟩)
    refine aqs rfl (q_as (by constructor)) rfl ?_
    refine alist_nil ?_
    show AWP _ _ _ _
    refine awp_nil (by repeat (first | exact NilT.nil | (apply NilT.cons; (· first | exact .one .nil | exact .agg (by repeat (first | exact NilL.nil | (apply NilL.cons; (· first | exact .nil | exact .same)) | exact NilL.same)) | exact .one .same)) | exact NilT.same)) (by repeat (first | exact NilH.nil | (apply NilH.cons; (· first | exact .arr (by repeat (first | exact NilE.nil | (apply NilE.cons; (· exact (by repeat (first | exact NilL.nil | (apply NilL.cons; (· first | exact .nil | exact .same)) | exact NilL.same)))) | exact NilE.same)) | exact .same)) | exact NilH.same)) ?_
    show AWP _ _ _ _
    refine awp_ret ?_
    repeat first | with_reducible refine then_ret ?_ | with_reducible refine blk_ret ?_
    apply retq (.inr rfl) (.cons (rok_A ag63 sz63 rfl (by repeat (first | exact .here | assumption | (apply HAt.left; assumption) | apply HAt.there | apply HAt.right)) (by rfl)) (.cons (rok_t rfl) .nil))
    rotate_left
    · exact ⟨rfl, rfl⟩
    repeat (first | exact List.Sublist.refl _ | exact List.nil_sublist _ | exact List.sublist_append_left _ _ | apply List.Sublist.cons)
set_option maxHeartbeats 400000 in
theorem pick64_c (c n : Int) (h1 : -9223372036854775808 ≤ c) (h2 : c ≤ 9223372036854775807) (h3 : 1 ≤ n) (H : Heap) : QCall Try.prog 64 [.lit (.int .i64 c), .lit (.int .i64 n)] H (.lit (.int .i64 (pick c n))) := by
  refine acall_intro (n := 13) (rvs := [.tmp 4]) Try.func64 rfl rfl rfl (Nat.le_of_ble_eq_true rfl) ?_
  refine awp_seq ?_
  refine awp_region ?_
  refine aqs rfl (q_as (by constructor)) rfl ?_
  refine alist_nil ?_
  show AWP _ _ _ _
  refine awp_seq ?_
  refine awp_seq ?_
  refine awp_region ?_
  refine aqs rfl (q_mv (by constructor)) rfl ?_
  refine aqs rfl (q_lss rfl rfl) rfl ?_
  refine alist_nil ?_
  show AWP _ _ _ _
  refine awp_cond rfl (fun hc0 => ?_) (fun hc0 => ?_)
  · simp only [decide_eq_true_eq] at hc0
    have e : pick c n = -(c + 1) % n := by simp [pick, hc0]
    rw [e]
    refine awp_region ?_
    refine aqs rfl (q_mv (by constructor)) rfl ?_
    first | refine aqs rfl (q_add64 rfl rfl (by omega) (by omega)) rfl ?_ | refine aqs rfl (q_add rfl rfl) rfl ?_
    first | refine aqs rfl (q_neg64 rfl (by omega) (by omega)) rfl ?_ | refine aqs rfl (q_neg rfl) rfl ?_
    refine aqs rfl (q_as (by constructor)) rfl ?_
    refine alist_nil ?_
    show AWP _ _ _ _
    refine awp_seq ?_
    refine awp_region ?_
    refine aqs rfl (q_mv (by constructor)) rfl ?_
    refine aqs rfl (q_mv (by constructor)) rfl ?_
    first | refine aqs rfl (q_rem64 rfl rfl (by omega) (by omega)) rfl ?_ | refine aqs rfl (q_rem rfl rfl (by first | decide | omega)) rfl ?_
    refine aqs rfl (q_as (by constructor)) rfl ?_
    refine alist_nil ?_
    show AWP _ _ _ _
    refine awp_ret ?_
    repeat first | with_reducible refine then_ret ?_ | with_reducible refine blk_ret ?_
    apply retq (.inr rfl) (.cons (rok_t rfl) .nil)
    rotate_left
    · exact ⟨rfl, rfl⟩
    repeat (first | exact List.Sublist.refl _ | exact List.nil_sublist _ | exact List.sublist_append_left _ _ | apply List.Sublist.cons)
  · simp only [decide_eq_false_iff_not] at hc0
    have e : pick c n = c % n := by simp [pick, hc0]
    rw [e]
    refine awp_skip ?_
    show AWP _ _ _ _
    refine awp_seq ?_
    refine awp_region ?_
    refine aqs rfl (q_mv (by constructor)) rfl ?_
    refine aqs rfl (q_mv (by constructor)) rfl ?_
    first | refine aqs rfl (q_rem64 rfl rfl (by omega) (by omega)) rfl ?_ | refine aqs rfl (q_rem rfl rfl (by first | decide | omega)) rfl ?_
    refine aqs rfl (q_as (by constructor)) rfl ?_
    refine alist_nil ?_
    show AWP _ _ _ _
    refine awp_ret ?_
    repeat first | with_reducible refine then_ret ?_ | with_reducible refine blk_ret ?_
    apply retq (.inr rfl) (.cons (rok_t rfl) .nil)
    rotate_left
    · exact ⟨rfl, rfl⟩
    repeat (first | exact List.Sublist.refl _ | exact List.nil_sublist _ | exact List.sublist_append_left _ _ | apply List.Sublist.cons)
set_option maxHeartbeats 400000 in
theorem pick106_c (c n : Int) (h1 : -9223372036854775808 ≤ c) (h2 : c ≤ 9223372036854775807) (h3 : 1 ≤ n) (H : Heap) : QCall Try.prog 106 [.lit (.int .i64 c), .lit (.int .i64 n)] H (.lit (.int .i64 (pick c n))) := by
  refine acall_intro (n := 13) (rvs := [.tmp 4]) Try.func106 rfl rfl rfl (Nat.le_of_ble_eq_true rfl) ?_
  refine awp_seq ?_
  refine awp_region ?_
  refine aqs rfl (q_as (by constructor)) rfl ?_
  refine alist_nil ?_
  show AWP _ _ _ _
  refine awp_seq ?_
  refine awp_seq ?_
  refine awp_region ?_
  refine aqs rfl (q_mv (by constructor)) rfl ?_
  refine aqs rfl (q_lss rfl rfl) rfl ?_
  refine alist_nil ?_
  show AWP _ _ _ _
  refine awp_cond rfl (fun hc0 => ?_) (fun hc0 => ?_)
  · simp only [decide_eq_true_eq] at hc0
    have e : pick c n = -(c + 1) % n := by simp [pick, hc0]
    rw [e]
    refine awp_region ?_
    refine aqs rfl (q_mv (by constructor)) rfl ?_
    first | refine aqs rfl (q_add64 rfl rfl (by omega) (by omega)) rfl ?_ | refine aqs rfl (q_add rfl rfl) rfl ?_
    first | refine aqs rfl (q_neg64 rfl (by omega) (by omega)) rfl ?_ | refine aqs rfl (q_neg rfl) rfl ?_
    refine aqs rfl (q_as (by constructor)) rfl ?_
    refine alist_nil ?_
    show AWP _ _ _ _
    refine awp_seq ?_
    refine awp_region ?_
    refine aqs rfl (q_mv (by constructor)) rfl ?_
    refine aqs rfl (q_mv (by constructor)) rfl ?_
    first | refine aqs rfl (q_rem64 rfl rfl (by omega) (by omega)) rfl ?_ | refine aqs rfl (q_rem rfl rfl (by first | decide | omega)) rfl ?_
    refine aqs rfl (q_as (by constructor)) rfl ?_
    refine alist_nil ?_
    show AWP _ _ _ _
    refine awp_ret ?_
    repeat first | with_reducible refine then_ret ?_ | with_reducible refine blk_ret ?_
    apply retq (.inr rfl) (.cons (rok_t rfl) .nil)
    rotate_left
    · exact ⟨rfl, rfl⟩
    repeat (first | exact List.Sublist.refl _ | exact List.nil_sublist _ | exact List.sublist_append_left _ _ | apply List.Sublist.cons)
  · simp only [decide_eq_false_iff_not] at hc0
    have e : pick c n = c % n := by simp [pick, hc0]
    rw [e]
    refine awp_skip ?_
    show AWP _ _ _ _
    refine awp_seq ?_
    refine awp_region ?_
    refine aqs rfl (q_mv (by constructor)) rfl ?_
    refine aqs rfl (q_mv (by constructor)) rfl ?_
    first | refine aqs rfl (q_rem64 rfl rfl (by omega) (by omega)) rfl ?_ | refine aqs rfl (q_rem rfl rfl (by first | decide | omega)) rfl ?_
    refine aqs rfl (q_as (by constructor)) rfl ?_
    refine alist_nil ?_
    show AWP _ _ _ _
    refine awp_ret ?_
    repeat first | with_reducible refine then_ret ?_ | with_reducible refine blk_ret ?_
    apply retq (.inr rfl) (.cons (rok_t rfl) .nil)
    rotate_left
    · exact ⟨rfl, rfl⟩
    repeat (first | exact List.Sublist.refl _ | exact List.nil_sublist _ | exact List.sublist_append_left _ _ | apply List.Sublist.cons)
def textS : Nat → ByteArray
  | 0 => ⟨#[]⟩
  | 1 => ⟨#[97]⟩
  | 2 => ⟨#[98]⟩
  | 3 => ⟨#[97, 98]⟩
  | 4 => ⟨#[98, 97]⟩
  | _ => ⟨#[99, 10]⟩
def textP (k : Int) : ByteArray := textS (pick k 6).toNat
theorem text_at {j : Nat} (h : j < 6) : [[AV.lit (.string ⟨#[]⟩)], [.lit (.string ⟨#[97]⟩)], [.lit (.string ⟨#[98]⟩)], [.lit (.string ⟨#[97, 98]⟩)], [.lit (.string ⟨#[98, 97]⟩)], [.lit (.string ⟨#[99, 10]⟩)]][j]? = some [.lit (.string (textS j))] := by
  match j, h with
  | 0, _ => rfl
  | 1, _ => rfl
  | 2, _ => rfl
  | 3, _ => rfl
  | 4, _ => rfl
  | 5, _ => rfl
set_option maxHeartbeats 400000 in
theorem text96_c (k : Int) (h1 : -9223372036854775808 ≤ k) (h2 : k ≤ 9223372036854775807) (H : Heap) : QCall Try.prog 96 [.lit (.int .i64 k)] H (.lit (.string (textP k))) := by
  have p0 := pick_nonneg k 6 (by omega)
  have p1 := pick_lt k 6 (by omega)
  have ht := text_at (j := (pick k 6).toNat) (by omega)
  refine acall_intro (n := 8) (rvs := [.tmp 2]) Try.func96 rfl rfl rfl (Nat.le_of_ble_eq_true rfl) ?_
  refine awp_seq ?_
  refine awp_region ?_
  refine aqs rfl (q_as (by constructor)) rfl ?_
  refine alist_nil ?_
  show AWP _ _ _ _
  refine awp_seq ?_
  refine awp_region ?_
  first | refine aqs rfl (q_bs Try.underlying57 sz9 zr9 rfl (by first | ((repeat constructor); done) | exact .same _) rfl (by decide) (by repeat (first | exact BS.nil | (apply BS.cons; (· constructor); (· rfl); (· rfl); (· rfl); (· exact (by first | ((repeat constructor); done) | exact .same _)))))) rfl ?_ | (refine aes rfl (e_bs Try.underlying57 sz9 zr9 rfl (by first | ((repeat constructor); done) | exact .same _) rfl (by decide) (by repeat (first | exact BS.nil | (apply BS.cons; (· constructor); (· rfl); (· rfl); (· rfl); (· exact (by first | ((repeat constructor); done) | exact .same _)))))) rfl ?_; rintro _ _ ⟨u3, rfl, rfl⟩)
  refine aqs rfl (q_mv (by constructor)) rfl ?_
  first | refine aqs rfl (e_callN cb106 (pick106_c _ _ h1 h2 (by omega) _) rfl rfl) rfl ?_ | refine aqs rfl (e_callN cb106 (ACall.arg (pick106_c _ _ h1 h2 (by omega) _) (by repeat (first | exact ArgL.nil | (apply ArgL.cons; (· first | exact .same | exact .cro | exact .nil))))) rfl rfl) rfl ?_
  first | refine aqs rfl (q_iaN Try.underlying57 sz9 (.inl rfl) rfl (by omega) (by first | rfl | assumption | (simp [*]; done) | fail) (by first | rfl | assumption | (simp [*]; done) | fail) (by decide) (by first | ((repeat constructor); done) | exact .same _)) rfl ?_ | refine aqs rfl (q_iaS Try.underlying57 sz9 rfl (by repeat (first | exact .here | assumption | (apply HAt.left; assumption) | apply HAt.there | apply HAt.right)) rfl (by omega) (by omega) (by first | exact Nat.zero_add _ | rfl)) rfl ?_ | refine aqs rfl (q_iaN Try.underlying57 sz9 (.inr rfl) rfl (by omega) (by first | rfl | assumption | (simp [*]; done) | fail) (by first | rfl | assumption | (simp [*]; done) | fail) (by decide) (by first | ((repeat constructor); done) | exact .same _)) rfl ?_
  first | refine aqs rfl (q_ldpN ag9 rfl (by repeat (first | exact .here | assumption | (apply HAt.left; assumption) | apply HAt.there | apply HAt.right)) (by first | rfl | assumption | (simp [*]; done) | fail) (by first | rfl | assumption | (simp [*]; done) | fail) (by constructor)) rfl ?_ | refine aqs rfl (q_ld1N ag9 rfl (by constructor)) rfl ?_
  refine aqs rfl (q_as (by constructor)) rfl ?_
  refine alist_nil ?_
  show AWP _ _ _ _
  refine awp_ret ?_
  repeat first | with_reducible refine then_ret ?_ | with_reducible refine blk_ret ?_
  apply retq (.inr rfl) (.cons (rok_t rfl) .nil)
  rotate_left
  · exact ⟨rfl, rfl⟩
  repeat (first | exact List.Sublist.refl _ | exact List.nil_sublist _ | exact List.sublist_append_left _ _ | apply List.Sublist.cons)
def taskOf (x : Tri) : Task := ⟨pick x.a 4, pick x.b 5, textP x.c, textP (x.c.tdiv 6)⟩
set_option maxHeartbeats 1000000 in
theorem task76_c (x : Tri) (hx : x.Wf) (H : Heap) : QCall Try.prog 76 [.agg x.cells] H (.agg (taskOf x).cells) := by
  obtain ⟨ha, hb, hc⟩ := hx
  have hd := tdiv_range x.c 6 hc.1 hc.2 (by omega)
  refine acall_intro (n := 17) (rvs := [.cell 2 75]) Try.func76 rfl rfl rfl (Nat.le_of_ble_eq_true rfl) ?_
  refine awp_seq ?_
  refine awp_region ?_
  (refine aes rfl (e_bx (by constructor) rfl rfl) rfl ?_; rintro _ _ ⟨u1, rfl, rfl⟩)
  (refine aes rfl (e_al (xs := [.lit (.int .i64 0), .lit (.int .i64 0), .lit (.string ⟨#[]⟩), .lit (.string ⟨#[]⟩)]) (k := 4) zr75 (.same _) rfl) rfl ?_; rintro _ _ ⟨u2, rfl, rfl⟩)
  refine alist_nil ?_
  show AWP _ _ _ _
  refine awp_seq ?_
  refine awp_draw 14 [(0, false), (1, false), (2, false), (3, false), (4, false), (5, false), (6, false), (7, false), (8, false), (9, false), (10, false), (11, false), (12, false), (13, false)] _ ([]) mixed (by kernel_rfl) (perm0 _) ?_
  refine glq rfl (.inl ⟨rfl, q_iaA Try.underlying83 sz3 rfl rfl (by omega) (by omega) rfl⟩) rfl ?_
  first | refine glq rfl (.inl ⟨rfl, q_ldpN ag3 rfl (by repeat (first | exact .here | assumption | (apply HAt.left; assumption) | apply HAt.there | apply HAt.right)) (by first | rfl | assumption | (simp [*]; done) | fail) (by first | rfl | assumption | (simp [*]; done) | fail) (by constructor)⟩) rfl ?_ | refine glq rfl (.inl ⟨rfl, q_ld1N ag3 rfl (by constructor)⟩) rfl ?_
  first | refine glq rfl (.inl ⟨rfl, e_callN cb64 (pick64_c _ _ ha.1 ha.2 (by omega) _) rfl rfl⟩) rfl ?_ | refine glq rfl (.inl ⟨rfl, e_callN cb64 (ACall.arg (pick64_c _ _ ha.1 ha.2 (by omega) _) (by repeat (first | exact ArgL.nil | (apply ArgL.cons; (· first | exact .same | exact .cro | exact .nil))))) rfl rfl⟩) rfl ?_
  refine glq rfl (.inl ⟨rfl, q_iaA Try.underlying83 sz3 rfl rfl (by omega) (by omega) rfl⟩) rfl ?_
  first | refine glq rfl (.inl ⟨rfl, q_ldpN ag3 rfl (by repeat (first | exact .here | assumption | (apply HAt.left; assumption) | apply HAt.there | apply HAt.right)) (by first | rfl | assumption | (simp [*]; done) | fail) (by first | rfl | assumption | (simp [*]; done) | fail) (by constructor)⟩) rfl ?_ | refine glq rfl (.inl ⟨rfl, q_ld1N ag3 rfl (by constructor)⟩) rfl ?_
  first | refine glq rfl (.inl ⟨rfl, e_callN cb64 (pick64_c _ _ hb.1 hb.2 (by omega) _) rfl rfl⟩) rfl ?_ | refine glq rfl (.inl ⟨rfl, e_callN cb64 (ACall.arg (pick64_c _ _ hb.1 hb.2 (by omega) _) (by repeat (first | exact ArgL.nil | (apply ArgL.cons; (· first | exact .same | exact .cro | exact .nil))))) rfl rfl⟩) rfl ?_
  refine glq rfl (.inl ⟨rfl, q_iaA Try.underlying83 sz3 rfl rfl (by omega) (by omega) rfl⟩) rfl ?_
  first | refine glq rfl (.inl ⟨rfl, q_ldpN ag3 rfl (by repeat (first | exact .here | assumption | (apply HAt.left; assumption) | apply HAt.there | apply HAt.right)) (by first | rfl | assumption | (simp [*]; done) | fail) (by first | rfl | assumption | (simp [*]; done) | fail) (by constructor)⟩) rfl ?_ | refine glq rfl (.inl ⟨rfl, q_ld1N ag3 rfl (by constructor)⟩) rfl ?_
  first | refine glq rfl (.inl ⟨rfl, e_callN cb96 (text96_c _ hc.1 hc.2 _) rfl rfl⟩) rfl ?_ | refine glq rfl (.inl ⟨rfl, e_callN cb96 (ACall.arg (text96_c _ hc.1 hc.2 _) (by repeat (first | exact ArgL.nil | (apply ArgL.cons; (· first | exact .same | exact .cro | exact .nil))))) rfl rfl⟩) rfl ?_
  refine glq rfl (.inl ⟨rfl, q_iaA Try.underlying83 sz3 rfl rfl (by omega) (by omega) rfl⟩) rfl ?_
  first | refine glq rfl (.inl ⟨rfl, q_ldpN ag3 rfl (by repeat (first | exact .here | assumption | (apply HAt.left; assumption) | apply HAt.there | apply HAt.right)) (by first | rfl | assumption | (simp [*]; done) | fail) (by first | rfl | assumption | (simp [*]; done) | fail) (by constructor)⟩) rfl ?_ | refine glq rfl (.inl ⟨rfl, q_ld1N ag3 rfl (by constructor)⟩) rfl ?_
  first | refine glq rfl (.inl ⟨rfl, castQ (r2 := .lit (.int .i64 (x.c.tdiv 6))) (q_quo64 rfl rfl (by omega) (by omega) (by omega)) (by rw [wrap_i64 hd.1 hd.2])⟩) rfl ?_ | refine glq rfl (.inl ⟨rfl, castQ (r2 := .lit (.int .i64 (x.c.tdiv 6))) (q_quo rfl rfl (by first | decide | omega)) (by rw [wrap_i64 hd.1 hd.2])⟩) rfl ?_
  first | refine glq rfl (.inl ⟨rfl, e_callN cb96 (text96_c _ hd.1 hd.2 _) rfl rfl⟩) rfl ?_ | refine glq rfl (.inl ⟨rfl, e_callN cb96 (ACall.arg (text96_c _ hd.1 hd.2 _) (by repeat (first | exact ArgL.nil | (apply ArgL.cons; (· first | exact .same | exact .cro | exact .nil))))) rfl rfl⟩) rfl ?_
  refine glq rfl (.inl ⟨rfl, q_bd st75 zr75 (by first | ((repeat constructor); done) | exact .same _) (by repeat (first | exact BD.nil | (apply BD.cons; (· rfl); (· constructor); (· rfl); (· rfl); (· exact Nat.le_of_ble_eq_true (by rfl)); (· exact (by first | ((repeat constructor); done) | exact .same _)))))⟩) rfl ?_
  (first | refine gld0 ?_ | refine gldA ?_)
  first | (refine aen rfl (e_stW sz75 rfl (by repeat (first | exact .here | assumption | (apply HAt.left; assumption) | apply HAt.there | apply HAt.right)) (by constructor) (by first | rfl | assumption | (simp [*]; done) | fail) rfl (by repeat (first | exact .here | apply HSet.there))) ?_; rintro _ _ ⟨rfl, rfl⟩) | (refine aen rfl (e_stP sz75 rfl (by repeat (first | exact .here | assumption | (apply HAt.left; assumption) | apply HAt.there | apply HAt.right)) (by first | rfl | assumption | (simp [*]; done) | fail) (by constructor) (by first | rfl | assumption | (simp [*]; done) | fail) rfl (by first | decide | omega) (by first | ((repeat constructor); done) | exact .same _) (by first | exact .one | exact .set) (by repeat (first | exact .here | apply HSet.there))) ?_; rintro _ _ ⟨rfl, rfl⟩)
  refine alist_nil ?_
  show AWP _ _ _ _
  refine awp_ret ?_
  repeat first | with_reducible refine then_ret ?_ | with_reducible refine blk_ret ?_
  apply retq (.inr rfl) (.cons (rok_A ag75 sz75 rfl (by repeat (first | exact .here | assumption | (apply HAt.left; assumption) | apply HAt.there | apply HAt.right)) (by rfl)) .nil)
  rotate_left
  · exact ⟨rfl, rfl⟩
  repeat (first | exact List.Sublist.refl _ | exact List.nil_sublist _ | exact List.sublist_append_left _ _ | apply List.Sublist.cons)
def tasksOf (raw : List Tri) : List Task := (raw.take 20).map taskOf
theorem tasks_len (raw : List Tri) : (tasksOf raw).length ≤ 20 := by rw [tasksOf, List.length_map, List.length_take]; omega
set_option maxHeartbeats 2000000 in
theorem tasks65_c (raw : List Tri) (hw : ∀ y ∈ raw, y.Wf) (H : Heap) : QCall Try.prog 65 [.ro (raw.map Tri.cells)] H (.ro ((tasksOf raw).map Task.cells)) := by
  refine acall_intro (n := 24) (rvs := [.tmp 2]) Try.func65 rfl rfl rfl (Nat.le_of_ble_eq_true rfl) ?_
  refine awp_seq ?_
  refine awp_region ?_
  refine aqs rfl (q_as (by constructor)) rfl ?_
  refine alist_nil ?_
  show AWP _ _ _ _
  refine awp_seq ?_
  refine awp_region ?_
  refine aqs rfl (q_as (by constructor)) rfl ?_
  refine alist_nil ?_
  show AWP _ _ _ _
  refine awp_adopt 3 75 4 rfl fun u0 => ?_
  show AWP _ _ _ _
  refine awp_seq ?_
  refine awp_seq ?_
  refine awp_region ?_
  refine aqs rfl (q_as (by constructor)) rfl ?_
  refine alist_nil ?_
  show AWP _ _ _ _
  refine awp_block ?_
  refine awp_loop_inv (fun x : Nat × Nat => ⟨[(4, .lit (.int .i64 x.1)), (0, .ro (raw.map Tri.cells)), (3, .sl x.2 0 x.1)], 24, (x.2, .arr 75 4 (((raw.take x.1).map taskOf).map Task.cells)) :: H⟩) (fun x => x.1 ≤ raw.length ∧ x.1 ≤ 20) (fun x => 20 - x.1) (0, u0) ?_ ?_ ?_
  · exact ⟨Nat.zero_le _, Nat.zero_le _⟩
  · exact .mk' (by repeat (first | exact trivial | refine ⟨rfl, ?_⟩)) (by repeat (first | exact .refl _ | apply List.Sublist.cons_cons | apply List.Sublist.cons))
  · rintro ⟨i, u⟩ ⟨hi, hi20⟩
    simp only at hi hi20 ⊢
    have hlen := lenTask ((raw.take i).map taskOf)
    have hone := oneTask ((raw.take i).map taskOf)
    have hlt : ((raw.take i).map taskOf).length = i := by rw [List.length_map, List.length_take]; omega
    refine awp_seq ?_
    refine awp_mid [(12, .lit (.bool (decide ((i : Int) < (raw.map Tri.cells).length) && decide ((i : Int) < 20)))), (4, .lit (.int .i64 i)), (0, .ro (raw.map Tri.cells)), (3, .sl u 0 i)] ?_ ?_
    · skip
      refine awp_region ?_
      all_goals (refine aqs rfl (q_mv (by constructor)) rfl ?_)
      all_goals (refine aqs rfl (q_mv (by constructor)) rfl ?_)
      all_goals (first | refine aqs rfl (q_len Try.underlying64 .ro) rfl ?_ | refine aqs rfl (q_lenO Try.underlying64 rfl (by repeat (first | exact .here | assumption | (apply HAt.left; assumption) | apply HAt.there | apply HAt.right)) (by first | omega | (simp; done) | (simp; omega) | fail) (by first | exact Nat.sub_zero _ | rfl)) rfl ?_ | refine aqs rfl (q_len Try.underlying64 .nil) rfl ?_ | refine aqs rfl (q_len Try.underlying64 .cro) rfl ?_)
      all_goals (refine aqs rfl (q_lss rfl rfl) rfl ?_)
      all_goals (refine aqs rfl (q_mv (by constructor)) rfl ?_)
      all_goals try (refine acase (fun hb4 => ?_) (fun hb4 => ?_))
      all_goals first | (exfalso; cases hb4; done) | skip
      all_goals (first | refine ans rfl rfl ?_ | refine aqs rfl (q_mv (by constructor)) rfl ?_)
      all_goals (first | refine ans rfl rfl ?_ | refine aqs rfl (q_lss rfl rfl) rfl ?_)
      all_goals (first | refine aqs rfl (q_pickT rfl (by constructor)) rfl ?_ | refine aqs rfl (q_pickF rfl (by constructor)) rfl ?_)
      all_goals (refine alist_nil ?_)
      all_goals (exact ⟨rfl, .mk' (by repeat (first | exact trivial | refine ⟨rfl, ?_⟩ | (refine ⟨?_, ?_⟩; (· first | (rw [hb4]; rfl) | fail)))) (.refl _)⟩)
    refine awp_cond rfl (fun hc0 => ?_) (fun hc0 => ?_)
    · simp only [Bool.and_eq_true, decide_eq_true_eq, List.length_map] at hc0
      obtain ⟨s, hs, hsm⟩ := get_lt (l := raw) (i := i) (by omega)
      have hs2 := get_map (f := Tri.cells) hs
      have hes : (((raw.take i).map taskOf).map Task.cells).take i ++ [(taskOf s).cells] = ((raw.take (i + 1)).map taskOf).map Task.cells := by
        rw [List.take_of_length_le (by rw [List.length_map, hlt]; exact Nat.le_refl _), take_next hs]; simp
      refine awp_skip ?_
      show AWP _ _ _ _
      refine awp_seq ?_
      refine awp_block ?_
      refine awp_region ?_
      refine aqs rfl (q_mv (by constructor)) rfl ?_
      refine aqs rfl (q_mv (by constructor)) rfl ?_
      refine aqs rfl (q_mv (by constructor)) rfl ?_
      first | refine aqs rfl (q_iaN Try.underlying64 sz83 (.inl rfl) rfl (by omega) (by first | rfl | assumption | (simp [*]; done) | fail) (by first | rfl | assumption | (simp [*]; done) | fail) (by decide) (by first | ((repeat constructor); done) | exact .same _)) rfl ?_ | refine aqs rfl (q_iaS Try.underlying64 sz83 rfl (by repeat (first | exact .here | assumption | (apply HAt.left; assumption) | apply HAt.there | apply HAt.right)) rfl (by omega) (by omega) (by first | exact Nat.zero_add _ | rfl)) rfl ?_ | refine aqs rfl (q_iaN Try.underlying64 sz83 (.inr rfl) rfl (by omega) (by first | rfl | assumption | (simp [*]; done) | fail) (by first | rfl | assumption | (simp [*]; done) | fail) (by decide) (by first | ((repeat constructor); done) | exact .same _)) rfl ?_
      first | refine aqs rfl (q_ldpW ag83 sz83 rfl (by repeat (first | exact .here | assumption | (apply HAt.left; assumption) | apply HAt.there | apply HAt.right)) (by first | rfl | assumption | (simp [*]; done) | fail) (by first | rfl | assumption | (simp [*]; done) | fail) (by decide)) rfl ?_ | refine aqs rfl (q_ldW ag83 sz83 rfl (by first | rfl | assumption | (simp [*]; done) | fail)) rfl ?_ | refine aqs rfl (q_ldpP ag83 sz83 rfl (by repeat (first | exact .here | assumption | (apply HAt.left; assumption) | apply HAt.there | apply HAt.right)) (by first | rfl | assumption | (simp [*]; done) | fail) (by first | decide | (simp; done) | omega | fail) (by decide) (by first | ((repeat constructor); done) | exact .same _)) rfl ?_ | refine aqs rfl (q_ldP ag83 sz83 rfl (by first | decide | (simp; done) | omega | fail) (by first | ((repeat constructor); done) | exact .same _)) rfl ?_
      first | refine aqs rfl (e_callN cb76 (task76_c s (hw s hsm) _) rfl rfl) rfl ?_ | refine aqs rfl (e_callN cb76 (ACall.arg (task76_c s (hw s hsm) _) (by repeat (first | exact ArgL.nil | (apply ArgL.cons; (· first | exact .same | exact .cro | exact .nil))))) rfl rfl) rfl ?_
      first | refine aqs rfl (q_bs Try.underlying61 sz75 zr75 rfl (by first | ((repeat constructor); done) | exact .same _) rfl (by decide) (by repeat (first | exact BS.nil | (apply BS.cons; (· constructor); (· rfl); (· rfl); (· rfl); (· exact (by first | ((repeat constructor); done) | exact .same _)))))) rfl ?_ | (refine aes rfl (e_bs Try.underlying61 sz75 zr75 rfl (by first | ((repeat constructor); done) | exact .same _) rfl (by decide) (by repeat (first | exact BS.nil | (apply BS.cons; (· constructor); (· rfl); (· rfl); (· rfl); (· exact (by first | ((repeat constructor); done) | exact .same _)))))) rfl ?_; rintro _ _ ⟨u21, rfl, rfl⟩)
      first | refine aqs rfl (q_apC Try.underlying61 sz75 by75 zr75 (.inl rfl) (by first | exact .ro | exact .cro | exact .nil | exact SV.slA (by repeat (first | exact .here | assumption | (apply HAt.left; assumption) | apply HAt.there | apply HAt.right)) (by first | rfl | (simp; done) | (simp; omega) | (simp [*]; done) | fail)) (by first | assumption | (intro c hc; simp at hc; subst hc; rfl) | (simp; done) | fail) (by first | assumption | (intro c hc; simp at hc; subst hc; rfl) | (simp; done) | fail) (by first | omega | decide | (simp; omega) | assumption | fail) (by decide) (by decide) rfl (by first | rfl | (simp; done) | fail)) rfl ?_ | refine aqs rfl (q_apC Try.underlying61 sz75 by75 zr75 (.inr ⟨rfl, rfl⟩) (by first | exact .ro | exact .cro | exact .nil | exact SV.slA (by repeat (first | exact .here | assumption | (apply HAt.left; assumption) | apply HAt.there | apply HAt.right)) (by first | rfl | (simp; done) | (simp; omega) | (simp [*]; done) | fail)) (by first | assumption | (intro c hc; simp at hc; subst hc; rfl) | (simp; done) | fail) (by first | assumption | (intro c hc; simp at hc; subst hc; rfl) | (simp; done) | fail) (by first | omega | decide | (simp; omega) | assumption | fail) (by decide) (by decide) rfl (by first | rfl | (simp; done) | fail)) rfl ?_ | (refine aes rfl (e_apO Try.underlying61 sz75 by75 zr75 rfl (by repeat (first | exact .here | assumption | (apply HAt.left; assumption) | apply HAt.there | apply HAt.right)) (by rw [List.length_map, hlt]; exact Nat.le_refl _) (by first | exact .ro | exact .cro | exact .nil | exact SV.slA (by repeat (first | exact .here | assumption | (apply HAt.left; assumption) | apply HAt.there | apply HAt.right)) (by first | rfl | (simp; done) | (simp; omega) | (simp [*]; done) | fail)) (by first | assumption | (intro c hc; simp at hc; subst hc; rfl) | (simp; done) | fail) (by first | assumption | (intro c hc; simp at hc; subst hc; rfl) | (simp; done) | fail) (by first | assumption | (intro c hc; simp at hc; subst hc; rfl) | (simp; done) | fail) (by first | (simp; done) | (simp; omega) | omega | fail) (by decide) (by decide) rfl (by rfl) hes (fun v => (by repeat (first | exact .here | apply HSet.there)))) rfl ?_; rintro _ _ ⟨u22, rfl, rfl⟩) | (refine aes rfl (e_apN Try.underlying61 sz75 by75 zr75 rfl (by first | exact .ro | exact .cro | exact .nil | exact SV.slA (by repeat (first | exact .here | assumption | (apply HAt.left; assumption) | apply HAt.there | apply HAt.right)) (by first | rfl | (simp; done) | (simp; omega) | (simp [*]; done) | fail)) (by first | assumption | (intro c hc; simp at hc; subst hc; rfl) | (simp; done) | fail) (by first | assumption | (intro c hc; simp at hc; subst hc; rfl) | (simp; done) | fail) (by first | (simp; done) | (simp; omega) | omega | fail) (by decide) (by decide) rfl rfl) rfl ?_; rintro _ _ ⟨u22, rfl, rfl⟩)
      refine aqs rfl (q_as (by constructor)) rfl ?_
      refine alist_nil ?_
      show AWP _ _ _ _
      refine awp_region ?_
      refine aqs rfl (q_mv (by constructor)) rfl ?_
      first | refine aqs rfl (q_add64 rfl rfl (by omega) (by omega)) rfl ?_ | refine aqs rfl (q_add rfl rfl) rfl ?_
      refine aqs rfl (q_as (by constructor)) rfl ?_
      refine alist_nil ?_
      show ∃ y, _ ∧ _ ∧ _
      exact ⟨(i + 1, _), ⟨by show i + 1 ≤ raw.length; omega, by show i + 1 ≤ 20; omega⟩, by show 20 - (i + 1) < 20 - i; omega, .mk' ⟨by rfl, rfl, rfl, trivial⟩ (by repeat (first | exact List.Sublist.refl _ | exact List.nil_sublist _ | exact List.sublist_append_left _ _ | (apply List.Sublist.cons_cons) | (apply List.Sublist.cons)))⟩
    · simp only [Bool.and_eq_false_iff, decide_eq_false_iff_not, List.length_map] at hc0
      have e : (raw.take i).map taskOf = tasksOf raw := by
        rw [tasksOf]
        rcases hc0 with h | h
        · rw [List.take_of_length_le (show raw.length ≤ i by omega), List.take_of_length_le (by omega)]
        · rw [show i = 20 by omega]
      rw [e] at hlt ⊢
      refine awp_exit ?_
      show AWP _ _ _ _
      refine awp_seq ?_
      refine awp_region ?_
      refine aqs rfl (q_mv (by constructor)) rfl ?_
      refine aqs rfl (q_as (by constructor)) rfl ?_
      refine alist_nil ?_
      show AWP _ _ _ _
      refine awp_pub (u := u) (by repeat (first | exact .here | assumption | (apply HAt.left; assumption) | apply HAt.there | apply HAt.right)) (by repeat (first | exact PubT.nil | (apply PubT.cons; (· first | exact .one (pub_all (by first | rfl | (simp; done) | (simp; omega) | (simp [*]; done) | fail)) | exact .one .same)) | exact PubT.same)) (by repeat (first | exact PubH.drop .same | (apply PubH.cons; (· exact .same)))) ?_
      show AWP _ _ _ _
      refine awp_ret ?_
      repeat first | with_reducible refine then_ret ?_ | with_reducible refine blk_ret ?_
      apply retq (.inr rfl) (.cons (rok_t rfl) .nil)
      rotate_left
      · exact ⟨rfl, rfl⟩
      repeat (first | exact List.Sublist.refl _ | exact List.nil_sublist _ | exact List.sublist_append_left _ _ | apply List.Sublist.cons)
def withT (q : Queue) (ts : List Task) : Queue := ⟨q.room, q.closed, ts⟩
set_option maxHeartbeats 1000000 in
theorem with130_c (q : Queue) (ts : List Task) (hl : ts.length ≤ 1000000) (H : Heap) : QCall Try.prog 130 [.agg q.cells, .ro (ts.map Task.cells)] H (.agg (withT q ts).cells) := by
  have hlen := lenTask ts
  have hqc : q.cells.length = 3 := rfl
  refine acall_intro (n := 9) (rvs := [.cell 4 63]) Try.func130 rfl rfl rfl (Nat.le_of_ble_eq_true rfl) ?_
  refine awp_seq ?_
  refine awp_region ?_
  (refine aes rfl (e_bx (by constructor) rfl rfl) rfl ?_; rintro _ _ ⟨u2, rfl, rfl⟩)
  (refine aes rfl (e_al (xs := [.lit (.int .i64 0), .lit (.bool false), .lit (.slice none 0 0)]) (k := 3) zr63 (.same _) rfl) rfl ?_; rintro _ _ ⟨u4, rfl, rfl⟩)
  refine alist_nil ?_
  show AWP _ _ _ _
  refine awp_seq ?_
  refine awp_region ?_
  refine aqs rfl (q_mv (by constructor)) rfl ?_
  first | (refine aes rfl (e_callN cb132 (clone132_c ts hl _) rfl rfl) rfl ?_; rintro _ _ ⟨u, rfl, rfl⟩) | (refine aes rfl (e_callN cb132 (ACall.arg (clone132_c ts hl _) (by repeat (first | exact ArgL.nil | (apply ArgL.cons; (· first | exact .same | exact .cro | exact .nil))))) rfl rfl) rfl ?_; rintro _ _ ⟨u, rfl, rfl⟩)
  first | refine aqs rfl (q_fapP fl63_2 (by decide) rfl rfl) rfl ?_ | refine aqs rfl (q_faP fl63_2 (by decide) rfl (by first | ((repeat constructor); done) | exact .same _)) rfl ?_
  first | (refine aen rfl (e_stW sz61 rfl (by repeat (first | exact .here | assumption | (apply HAt.left; assumption) | apply HAt.there | apply HAt.right)) (by constructor) (by first | rfl | assumption | (simp [*]; done) | fail) rfl (by repeat (first | exact .here | apply HSet.there))) ?_; rintro _ _ ⟨rfl, rfl⟩) | (refine aen rfl (e_stP sz61 rfl (by repeat (first | exact .here | assumption | (apply HAt.left; assumption) | apply HAt.there | apply HAt.right)) (by first | rfl | assumption | (simp [*]; done) | fail) (by constructor) (by first | rfl | assumption | (simp [*]; done) | fail) rfl (by first | decide | omega) (by first | ((repeat constructor); done) | exact .same _) (by first | exact .one | exact .set) (by repeat (first | exact .here | apply HSet.there))) ?_; rintro _ _ ⟨rfl, rfl⟩)
  refine alist_nil ?_
  show AWP _ _ _ _
  refine awp_pub (u := u) (by repeat (first | exact .here | assumption | (apply HAt.left; assumption) | apply HAt.there | apply HAt.right)) (by repeat (first | exact PubT.nil | (apply PubT.cons; (· first | exact .one (pub_all (by first | rfl | (simp; done) | (simp; omega) | (simp [*]; done) | fail)) | exact .agg (by repeat (first | exact PubL.nil | (apply PubL.cons; (· first | exact pub_all (by first | rfl | (simp; done) | (simp; omega) | (simp [*]; done) | fail) | exact .same)) | exact PubL.same)) | exact .one .same)) | exact PubT.same)) (by repeat (first | exact PubH.drop (by repeat (first | (apply PubR.cons; (· first | exact .arr (by repeat (first | exact PubE.nil | (apply PubE.cons; (· exact (by repeat (first | exact PubL.nil | (apply PubL.cons; (· first | exact pub_all (by first | rfl | (simp; done) | (simp; omega) | (simp [*]; done) | fail) | exact .same)) | exact PubL.same)))) | exact PubE.same)) | exact .same)) | exact PubR.same)) | (apply PubH.cons; (· first | exact .arr (by repeat (first | exact PubE.nil | (apply PubE.cons; (· exact (by repeat (first | exact PubL.nil | (apply PubL.cons; (· first | exact pub_all (by first | rfl | (simp; done) | (simp; omega) | (simp [*]; done) | fail) | exact .same)) | exact PubL.same)))) | exact PubE.same)) | exact .same)))) ?_
  show AWP _ _ _ _
  refine awp_seq ?_
  refine awp_region ?_
  first | refine aqs rfl (q_ldpW ag63 sz63 rfl (by repeat (first | exact .here | assumption | (apply HAt.left; assumption) | apply HAt.there | apply HAt.right)) (by first | rfl | assumption | (simp [*]; done) | fail) (by first | rfl | assumption | (simp [*]; done) | fail) (by decide)) rfl ?_ | refine aqs rfl (q_ldW ag63 sz63 rfl (by first | rfl | assumption | (simp [*]; done) | fail)) rfl ?_ | refine aqs rfl (q_ldpP ag63 sz63 rfl (by repeat (first | exact .here | assumption | (apply HAt.left; assumption) | apply HAt.there | apply HAt.right)) (by first | rfl | assumption | (simp [*]; done) | fail) (by first | decide | (simp; done) | omega | fail) (by decide) (by first | ((repeat constructor); done) | exact .same _)) rfl ?_ | refine aqs rfl (q_ldP ag63 sz63 rfl (by first | decide | (simp; done) | omega | fail) (by first | ((repeat constructor); done) | exact .same _)) rfl ?_
  first | (refine aen rfl (e_stW sz63 rfl (by repeat (first | exact .here | assumption | (apply HAt.left; assumption) | apply HAt.there | apply HAt.right)) (by constructor) (by first | rfl | assumption | (simp [*]; done) | fail) rfl (by repeat (first | exact .here | apply HSet.there))) ?_; rintro _ _ ⟨rfl, rfl⟩) | (refine aen rfl (e_stP sz63 rfl (by repeat (first | exact .here | assumption | (apply HAt.left; assumption) | apply HAt.there | apply HAt.right)) (by first | rfl | assumption | (simp [*]; done) | fail) (by constructor) (by first | rfl | assumption | (simp [*]; done) | fail) rfl (by first | decide | omega) (by first | ((repeat constructor); done) | exact .same _) (by first | exact .one | exact .set) (by repeat (first | exact .here | apply HSet.there))) ?_; rintro _ _ ⟨rfl, rfl⟩)
  refine alist_nil ?_
  show AWP _ _ _ _
  refine awp_ret ?_
  repeat first | with_reducible refine then_ret ?_ | with_reducible refine blk_ret ?_
  apply retq (.inr rfl) (.cons (rok_A ag63 sz63 rfl (by repeat (first | exact .here | assumption | (apply HAt.left; assumption) | apply HAt.there | apply HAt.right)) (by rfl)) .nil)
  rotate_left
  · exact ⟨rfl, rfl⟩
  repeat (first | exact List.Sublist.refl _ | exact List.nil_sublist _ | exact List.sublist_append_left _ _ | apply List.Sublist.cons)
theorem clo133_c (t : Task) (r : Int) (u : Nat) (H : Heap) (hq : HAt H u (.arr 3 1 [[.lit (.int .i64 r)]])) : QCall Try.prog 133 [.agg t.cells, .ptr u 0 0] H (.lit (.bool (decide (t.req = r)))) := by
  refine acall_intro (n := 8) (rvs := [.tmp 3]) Try.func133 rfl rfl rfl (Nat.le_of_ble_eq_true rfl) ?_
  refine awp_seq ?_
  refine awp_region ?_
  (refine aes rfl (e_bx (by constructor) rfl rfl) rfl ?_; rintro _ _ ⟨u2, rfl, rfl⟩)
  refine aqs rfl (q_as (by constructor)) rfl ?_
  refine alist_nil ?_
  show AWP _ _ _ _
  refine awp_seq ?_
  refine awp_region ?_
  first | refine aqs rfl (q_fapP fl75_0 (by decide) rfl rfl) rfl ?_ | refine aqs rfl (q_faP fl75_0 (by decide) rfl (by first | ((repeat constructor); done) | exact .same _)) rfl ?_
  first | refine aqs rfl (q_ldpN ag3 rfl (by repeat (first | exact .here | assumption | (apply HAt.left; assumption) | apply HAt.there | apply HAt.right)) (by first | rfl | assumption | (simp [*]; done) | fail) (by first | rfl | assumption | (simp [*]; done) | fail) (by constructor)) rfl ?_ | refine aqs rfl (q_ld1N ag3 rfl (by constructor)) rfl ?_
  first | refine aqs rfl (q_ldpN ag3 rfl (by repeat (first | exact .here | assumption | (apply HAt.left; assumption) | apply HAt.there | apply HAt.right)) (by first | rfl | assumption | (simp [*]; done) | fail) (by first | rfl | assumption | (simp [*]; done) | fail) (by constructor)) rfl ?_ | refine aqs rfl (q_ld1N ag3 rfl (by constructor)) rfl ?_
  refine aqs rfl (q_eql rfl rfl) rfl ?_
  refine aqs rfl (q_as (by constructor)) rfl ?_
  refine alist_nil ?_
  show AWP _ _ _ _
  refine awp_ret ?_
  repeat first | with_reducible refine then_ret ?_ | with_reducible refine blk_ret ?_
  apply retq (.inr rfl) (.cons (rok_t rfl) .nil)
  rotate_left
  · exact ⟨rfl, rfl⟩
  repeat (first | exact List.Sublist.refl _ | exact List.nil_sublist _ | exact List.sublist_append_left _ _ | apply List.Sublist.cons)

/-! ### Put -/
def qPutN (q : Queue) (l : List Task) : Int := min (l.length : Int) (q.room - q.tasks.length)
def qPutS (q : Queue) (l : List Task) : Int × Queue × Int :=
  if qRight q = false then (0, zeroQ, 1) else if q.closed = true then (0, zeroQ, 13) else (qPutN q l, ⟨q.room, q.closed, q.tasks ++ l.take (qPutN q l).toNat⟩, 0)
def qPutA (g : Int × Queue × Int) : AV := .tup [.lit (.int .i64 g.1), .agg g.2.1.cells, .lit (.int .i64 g.2.2)]
set_option maxHeartbeats 2000000 in
theorem put66_c (q : Queue) (l : List Task) (hl : l.length ≤ 100000) (H : Heap) : QCall Try.prog 66 [.agg q.cells, .ro (l.map Task.cells)] H (qPutA (qPutS q l)) := by
  have hlen := lenTask q.tasks
  have hlenl := lenTask l
  refine acall_intro (n := 42) (rvs := [.tmp 4, .cell 5 63, .tmp 6]) Try.func66 rfl rfl rfl (Nat.le_of_ble_eq_true rfl) ?_
  refine awp_seq ?_
  refine awp_region ?_
  (refine aes rfl (e_bx (by constructor) rfl rfl) rfl ?_; rintro _ _ ⟨u2, rfl, rfl⟩)
  refine aqs rfl (q_as (by constructor)) rfl ?_
  (refine aes rfl (e_al (xs := [.lit (.int .i64 0), .lit (.bool false), .lit (.slice none 0 0)]) (k := 3) zr63 (.same _) rfl) rfl ?_; rintro _ _ ⟨u5, rfl, rfl⟩)
  refine aqs rfl (q_as (by constructor)) rfl ?_
  refine alist_nil ?_
  show AWP _ _ _ _
  refine awp_seq ?_
  refine awp_block ?_
  refine awp_seq ?_
  refine awp_region ?_
  first | refine aqs rfl (q_ldpW ag63 sz63 rfl (by repeat (first | exact .here | assumption | (apply HAt.left; assumption) | apply HAt.there | apply HAt.right)) (by first | rfl | assumption | (simp [*]; done) | fail) (by first | rfl | assumption | (simp [*]; done) | fail) (by decide)) rfl ?_ | refine aqs rfl (q_ldW ag63 sz63 rfl (by first | rfl | assumption | (simp [*]; done) | fail)) rfl ?_ | refine aqs rfl (q_ldpP ag63 sz63 rfl (by repeat (first | exact .here | assumption | (apply HAt.left; assumption) | apply HAt.there | apply HAt.right)) (by first | rfl | assumption | (simp [*]; done) | fail) (by first | decide | (simp; done) | omega | fail) (by decide) (by first | ((repeat constructor); done) | exact .same _)) rfl ?_ | refine aqs rfl (q_ldP ag63 sz63 rfl (by first | decide | (simp; done) | omega | fail) (by first | ((repeat constructor); done) | exact .same _)) rfl ?_
  first | refine aqs rfl (e_callN cb72 (right72_c q _) rfl rfl) rfl ?_ | refine aqs rfl (e_callN cb72 (ACall.arg (right72_c q _) (by repeat (first | exact ArgL.nil | (apply ArgL.cons; (· first | exact .same | exact .cro | exact .nil))))) rfl rfl) rfl ?_
  refine aqs rfl (q_not rfl) rfl ?_
  refine aqs rfl (q_as (by constructor)) rfl ?_
  refine alist_nil ?_
  show AWP _ _ _ _
  refine awp_cond rfl (fun hc0 => ?_) (fun hc0 => ?_)
  · have hb : qRight q = false := by simpa using hc0
    rw [show qPutS q l = (0, zeroQ, 1) by rw [qPutS, if_pos hb]]
    refine awp_seq ?_
    refine awp_region ?_
    refine aqs rfl (q_bd st63 zr63 (by first | ((repeat constructor); done) | exact .same _) (by repeat (first | exact BD.nil | (apply BD.cons; (· rfl); (· constructor); (· rfl); (· rfl); (· exact Nat.le_of_ble_eq_true (by rfl)); (· exact (by first | ((repeat constructor); done) | exact .same _)))))) rfl ?_
    refine aqs rfl (q_as (by constructor)) rfl ?_
    first | (refine aen rfl (e_stW sz63 rfl (by repeat (first | exact .here | assumption | (apply HAt.left; assumption) | apply HAt.there | apply HAt.right)) (by constructor) (by first | rfl | assumption | (simp [*]; done) | fail) rfl (by repeat (first | exact .here | apply HSet.there))) ?_; rintro _ _ ⟨rfl, rfl⟩) | (refine aen rfl (e_stP sz63 rfl (by repeat (first | exact .here | assumption | (apply HAt.left; assumption) | apply HAt.there | apply HAt.right)) (by first | rfl | assumption | (simp [*]; done) | fail) (by constructor) (by first | rfl | assumption | (simp [*]; done) | fail) rfl (by first | decide | omega) (by first | ((repeat constructor); done) | exact .same _) (by first | exact .one | exact .set) (by repeat (first | exact .here | apply HSet.there))) ?_; rintro _ _ ⟨rfl, rfl⟩)
    refine aqs rfl (q_as (by constructor)) rfl ?_
    refine alist_nil ?_
    show AWP _ _ _ _
    refine awp_nil (by repeat (first | exact NilT.nil | (apply NilT.cons; (· first | exact .one .nil | exact .agg (by repeat (first | exact NilL.nil | (apply NilL.cons; (· first | exact .nil | exact .same)) | exact NilL.same)) | exact .one .same)) | exact NilT.same)) (by repeat (first | exact NilH.nil | (apply NilH.cons; (· first | exact .arr (by repeat (first | exact NilE.nil | (apply NilE.cons; (· exact (by repeat (first | exact NilL.nil | (apply NilL.cons; (· first | exact .nil | exact .same)) | exact NilL.same)))) | exact NilE.same)) | exact .same)) | exact NilH.same)) ?_
    show AWP _ _ _ _
    refine awp_ret ?_
    repeat first | with_reducible refine then_ret ?_ | with_reducible refine blk_ret ?_
    apply retq (.inr rfl) (.cons (rok_t rfl) (.cons (rok_A ag63 sz63 rfl (by repeat (first | exact .here | assumption | (apply HAt.left; assumption) | apply HAt.there | apply HAt.right)) (by rfl)) (.cons (rok_t rfl) .nil)))
    rotate_left
    · exact ⟨rfl, rfl⟩
    repeat (first | exact List.Sublist.refl _ | exact List.nil_sublist _ | exact List.sublist_append_left _ _ | apply List.Sublist.cons)
  · have hb : ¬ qRight q = false := by simpa using hc0
    refine awp_seq ?_
    refine awp_region ?_
    first | refine aqs rfl (q_fapP fl63_1 (by decide) rfl rfl) rfl ?_ | refine aqs rfl (q_faP fl63_1 (by decide) rfl (by first | ((repeat constructor); done) | exact .same _)) rfl ?_
    first | refine aqs rfl (q_ldpN ag4 rfl (by repeat (first | exact .here | assumption | (apply HAt.left; assumption) | apply HAt.there | apply HAt.right)) (by first | rfl | assumption | (simp [*]; done) | fail) (by first | rfl | assumption | (simp [*]; done) | fail) (by constructor)) rfl ?_ | refine aqs rfl (q_ld1N ag4 rfl (by constructor)) rfl ?_
    refine aqs rfl (q_as (by constructor)) rfl ?_
    refine alist_nil ?_
    show AWP _ _ _ _
    refine awp_cond rfl (fun hc1 => ?_) (fun hc1 => ?_)
    · rw [show qPutS q l = (0, zeroQ, 13) by rw [qPutS, if_neg hb, if_pos hc1]]
      refine awp_seq ?_
      refine awp_region ?_
      refine aqs rfl (q_bd st63 zr63 (by first | ((repeat constructor); done) | exact .same _) (by repeat (first | exact BD.nil | (apply BD.cons; (· rfl); (· constructor); (· rfl); (· rfl); (· exact Nat.le_of_ble_eq_true (by rfl)); (· exact (by first | ((repeat constructor); done) | exact .same _)))))) rfl ?_
      refine aqs rfl (q_as (by constructor)) rfl ?_
      first | (refine aen rfl (e_stW sz63 rfl (by repeat (first | exact .here | assumption | (apply HAt.left; assumption) | apply HAt.there | apply HAt.right)) (by constructor) (by first | rfl | assumption | (simp [*]; done) | fail) rfl (by repeat (first | exact .here | apply HSet.there))) ?_; rintro _ _ ⟨rfl, rfl⟩) | (refine aen rfl (e_stP sz63 rfl (by repeat (first | exact .here | assumption | (apply HAt.left; assumption) | apply HAt.there | apply HAt.right)) (by first | rfl | assumption | (simp [*]; done) | fail) (by constructor) (by first | rfl | assumption | (simp [*]; done) | fail) rfl (by first | decide | omega) (by first | ((repeat constructor); done) | exact .same _) (by first | exact .one | exact .set) (by repeat (first | exact .here | apply HSet.there))) ?_; rintro _ _ ⟨rfl, rfl⟩)
      refine aqs rfl (q_as (by constructor)) rfl ?_
      refine alist_nil ?_
      show AWP _ _ _ _
      refine awp_nil (by repeat (first | exact NilT.nil | (apply NilT.cons; (· first | exact .one .nil | exact .agg (by repeat (first | exact NilL.nil | (apply NilL.cons; (· first | exact .nil | exact .same)) | exact NilL.same)) | exact .one .same)) | exact NilT.same)) (by repeat (first | exact NilH.nil | (apply NilH.cons; (· first | exact .arr (by repeat (first | exact NilE.nil | (apply NilE.cons; (· exact (by repeat (first | exact NilL.nil | (apply NilL.cons; (· first | exact .nil | exact .same)) | exact NilL.same)))) | exact NilE.same)) | exact .same)) | exact NilH.same)) ?_
      show AWP _ _ _ _
      refine awp_ret ?_
      repeat first | with_reducible refine then_ret ?_ | with_reducible refine blk_ret ?_
      apply retq (.inr rfl) (.cons (rok_t rfl) (.cons (rok_A ag63 sz63 rfl (by repeat (first | exact .here | assumption | (apply HAt.left; assumption) | apply HAt.there | apply HAt.right)) (by rfl)) (.cons (rok_t rfl) .nil)))
      rotate_left
      · exact ⟨rfl, rfl⟩
      repeat (first | exact List.Sublist.refl _ | exact List.nil_sublist _ | exact List.sublist_append_left _ _ | apply List.Sublist.cons)
    · have hb2 : ¬ q.closed = true := by simpa using hc1
      rw [show qPutS q l = (qPutN q l, ⟨q.room, q.closed, q.tasks ++ l.take (qPutN q l).toNat⟩, 0) by rw [qPutS, if_neg hb, if_neg hb2]]
      obtain ⟨r1, r2, r3⟩ := qRight_f.1 (by simpa using hb)
      obtain ⟨n, hn⟩ : ∃ n, n = qPutN q l := ⟨_, rfl⟩
      have hn2 : n = min (l.length : Int) (q.room - q.tasks.length) := hn
      rw [← hn]
      have hlm : (q.tasks.map Task.cells).length = q.tasks.length := by simp
      have hlm2 : (l.map Task.cells).length = l.length := by simp
      have hlen2 := lenTask (l.take n.toNat)
      refine awp_skip ?_
      show AWP _ _ _ _
      refine awp_seq ?_
      refine awp_region ?_
      refine aqs rfl (q_mv (by constructor)) rfl ?_
      first | refine aqs rfl (q_len Try.underlying61 .ro) rfl ?_ | refine aqs rfl (q_lenO Try.underlying61 rfl (by repeat (first | exact .here | assumption | (apply HAt.left; assumption) | apply HAt.there | apply HAt.right)) (by first | omega | (simp; done) | (simp; omega) | fail) (by first | exact Nat.sub_zero _ | rfl)) rfl ?_ | refine aqs rfl (q_len Try.underlying61 .nil) rfl ?_ | refine aqs rfl (q_len Try.underlying61 .cro) rfl ?_
      first | refine aqs rfl (q_fapP fl63_0 (by decide) rfl rfl) rfl ?_ | refine aqs rfl (q_faP fl63_0 (by decide) rfl (by first | ((repeat constructor); done) | exact .same _)) rfl ?_
      first | refine aqs rfl (q_ldpN ag3 rfl (by repeat (first | exact .here | assumption | (apply HAt.left; assumption) | apply HAt.there | apply HAt.right)) (by first | rfl | assumption | (simp [*]; done) | fail) (by first | rfl | assumption | (simp [*]; done) | fail) (by constructor)) rfl ?_ | refine aqs rfl (q_ld1N ag3 rfl (by constructor)) rfl ?_
      first | refine aqs rfl (q_fapP fl63_2 (by decide) rfl rfl) rfl ?_ | refine aqs rfl (q_faP fl63_2 (by decide) rfl (by first | ((repeat constructor); done) | exact .same _)) rfl ?_
      first | refine aqs rfl (q_ldpN ag61 rfl (by repeat (first | exact .here | assumption | (apply HAt.left; assumption) | apply HAt.there | apply HAt.right)) (by first | rfl | assumption | (simp [*]; done) | fail) (by first | rfl | assumption | (simp [*]; done) | fail) (by constructor)) rfl ?_ | refine aqs rfl (q_ld1N ag61 rfl (by constructor)) rfl ?_
      first | refine aqs rfl (q_len Try.underlying61 .ro) rfl ?_ | refine aqs rfl (q_lenO Try.underlying61 rfl (by repeat (first | exact .here | assumption | (apply HAt.left; assumption) | apply HAt.there | apply HAt.right)) (by first | omega | (simp; done) | (simp; omega) | fail) (by first | exact Nat.sub_zero _ | rfl)) rfl ?_ | refine aqs rfl (q_len Try.underlying61 .nil) rfl ?_ | refine aqs rfl (q_len Try.underlying61 .cro) rfl ?_
      first | refine aqs rfl (q_sub64 rfl rfl (by omega) (by omega)) rfl ?_ | refine aqs rfl (q_sub rfl rfl) rfl ?_
      refine aqs rfl (castQ (r2 := .lit (.int .i64 n)) (q_min rfl rfl) (by rw [hn2, hlm, hlm2])) rfl ?_
      refine aqs rfl (q_as (by constructor)) rfl ?_
      refine alist_nil ?_
      show AWP _ _ _ _
      refine awp_seq ?_
      refine awp_draw 17 [(0, false), (1, false), (2, false), (3, false), (4, false), (5, false), (6, false), (7, false), (8, false), (9, false), (10, false), (11, false), (12, false), (13, false), (14, false), (15, false), (16, false)] _ ([]) mixed (by kernel_rfl) (perm0 _) ?_
      refine glq rfl (.inl ⟨rfl, q_mv (by constructor)⟩) rfl ?_
      first | refine glq rfl (.inl ⟨rfl, q_ldpW ag63 sz63 rfl (by repeat (first | exact .here | assumption | (apply HAt.left; assumption) | apply HAt.there | apply HAt.right)) (by first | rfl | assumption | (simp [*]; done) | fail) (by first | rfl | assumption | (simp [*]; done) | fail) (by decide)⟩) rfl ?_ | refine glq rfl (.inl ⟨rfl, q_ldW ag63 sz63 rfl (by first | rfl | assumption | (simp [*]; done) | fail)⟩) rfl ?_ | refine glq rfl (.inl ⟨rfl, q_ldpP ag63 sz63 rfl (by repeat (first | exact .here | assumption | (apply HAt.left; assumption) | apply HAt.there | apply HAt.right)) (by first | rfl | assumption | (simp [*]; done) | fail) (by first | decide | (simp; done) | omega | fail) (by decide) (by first | ((repeat constructor); done) | exact .same _)⟩) rfl ?_ | refine glq rfl (.inl ⟨rfl, q_ldP ag63 sz63 rfl (by first | decide | (simp; done) | omega | fail) (by first | ((repeat constructor); done) | exact .same _)⟩) rfl ?_
      first | refine glq rfl (.inl ⟨rfl, q_fapP fl63_2 (by decide) rfl rfl⟩) rfl ?_ | refine glq rfl (.inl ⟨rfl, q_faP fl63_2 (by decide) rfl (by first | ((repeat constructor); done) | exact .same _)⟩) rfl ?_
      first | refine glq rfl (.inl ⟨rfl, q_ldpN ag61 rfl (by repeat (first | exact .here | assumption | (apply HAt.left; assumption) | apply HAt.there | apply HAt.right)) (by first | rfl | assumption | (simp [*]; done) | fail) (by first | rfl | assumption | (simp [*]; done) | fail) (by constructor)⟩) rfl ?_ | refine glq rfl (.inl ⟨rfl, q_ld1N ag61 rfl (by constructor)⟩) rfl ?_
      first | refine glq rfl (.inl ⟨rfl, q_fapP fl63_2 (by decide) rfl rfl⟩) rfl ?_ | refine glq rfl (.inl ⟨rfl, q_faP fl63_2 (by decide) rfl (by first | ((repeat constructor); done) | exact .same _)⟩) rfl ?_
      first | refine glq rfl (.inl ⟨rfl, q_ldpN ag61 rfl (by repeat (first | exact .here | assumption | (apply HAt.left; assumption) | apply HAt.there | apply HAt.right)) (by first | rfl | assumption | (simp [*]; done) | fail) (by first | rfl | assumption | (simp [*]; done) | fail) (by constructor)⟩) rfl ?_ | refine glq rfl (.inl ⟨rfl, q_ld1N ag61 rfl (by constructor)⟩) rfl ?_
      first | refine glq rfl (.inl ⟨rfl, q_len Try.underlying61 .ro⟩) rfl ?_ | refine glq rfl (.inl ⟨rfl, q_lenO Try.underlying61 rfl (by repeat (first | exact .here | assumption | (apply HAt.left; assumption) | apply HAt.there | apply HAt.right)) (by first | omega | (simp; done) | (simp; omega) | fail) (by first | exact Nat.sub_zero _ | rfl)⟩) rfl ?_ | refine glq rfl (.inl ⟨rfl, q_len Try.underlying61 .nil⟩) rfl ?_ | refine glq rfl (.inl ⟨rfl, q_len Try.underlying61 .cro⟩) rfl ?_
      first | refine glq rfl (.inl ⟨rfl, q_fapP fl63_2 (by decide) rfl rfl⟩) rfl ?_ | refine glq rfl (.inl ⟨rfl, q_faP fl63_2 (by decide) rfl (by first | ((repeat constructor); done) | exact .same _)⟩) rfl ?_
      first | refine glq rfl (.inl ⟨rfl, q_ldpN ag61 rfl (by repeat (first | exact .here | assumption | (apply HAt.left; assumption) | apply HAt.there | apply HAt.right)) (by first | rfl | assumption | (simp [*]; done) | fail) (by first | rfl | assumption | (simp [*]; done) | fail) (by constructor)⟩) rfl ?_ | refine glq rfl (.inl ⟨rfl, q_ld1N ag61 rfl (by constructor)⟩) rfl ?_
      first | refine glq rfl (.inl ⟨rfl, q_len Try.underlying61 .ro⟩) rfl ?_ | refine glq rfl (.inl ⟨rfl, q_lenO Try.underlying61 rfl (by repeat (first | exact .here | assumption | (apply HAt.left; assumption) | apply HAt.there | apply HAt.right)) (by first | omega | (simp; done) | (simp; omega) | fail) (by first | exact Nat.sub_zero _ | rfl)⟩) rfl ?_ | refine glq rfl (.inl ⟨rfl, q_len Try.underlying61 .nil⟩) rfl ?_ | refine glq rfl (.inl ⟨rfl, q_len Try.underlying61 .cro⟩) rfl ?_
      refine glq rfl (.inl ⟨rfl, q_slC Try.underlying61 sz75 (.inl rfl) (by first | (refine ⟨_, _, rfl, ?_⟩; with_reducible rfl) | (refine ⟨_, _, rfl, ?_⟩; simp; done) | fail) (by first | (refine ⟨_, _, rfl, ?_⟩; with_reducible rfl) | (refine ⟨_, _, rfl, ?_⟩; simp; done) | fail) (by first | rfl | assumption | (simp [*]; done) | fail)⟩) rfl ?_
      refine glq rfl (.inl ⟨rfl, q_mv (by constructor)⟩) rfl ?_
      refine glq rfl (.inl ⟨rfl, q_mv (by constructor)⟩) rfl ?_
      first | refine glq rfl (.inl ⟨rfl, castQ (r2 := .ro ((l.take n.toNat).map Task.cells)) (q_slR Try.underlying61 sz75 (.inl rfl) rfl (by first | (refine ⟨_, _, rfl, ?_⟩; with_reducible rfl) | exact bnd_int rfl (by omega)) (by first | omega | (simp; done) | (simp; omega) | fail) (by first | omega | (simp; done) | (simp; omega) | fail) (by first | rfl | assumption | (simp [*]; done) | fail)) (by simp)⟩) rfl ?_ | refine glq rfl (.inl ⟨rfl, castQ (r2 := .ro ((l.take n.toNat).map Task.cells)) (q_slO Try.underlying61 sz75 rfl (by repeat (first | exact .here | assumption | (apply HAt.left; assumption) | apply HAt.there | apply HAt.right)) rfl (by first | (refine ⟨_, _, rfl, ?_⟩; with_reducible rfl) | exact bnd_int rfl (by omega)) (by first | omega | (simp; done) | (simp; omega) | fail) (by first | omega | (simp; done) | (simp; omega) | fail) (by first | exact Nat.zero_add _ | rfl) (by first | exact Nat.zero_add _ | rfl)) (by simp)⟩) rfl ?_
      first | refine glq rfl (.inl ⟨rfl, castQ (r2 := .ro ((q.tasks ++ l.take n.toNat).map Task.cells)) (q_apC Try.underlying61 sz75 by75 zr75 (.inl rfl) (by first | exact .ro | exact .cro | exact .nil | exact SV.slA (by repeat (first | exact .here | assumption | (apply HAt.left; assumption) | apply HAt.there | apply HAt.right)) (by first | rfl | (simp; done) | (simp; omega) | (simp [*]; done) | fail)) (by first | assumption | (intro c hc; simp at hc; subst hc; rfl) | (simp; done) | fail) (by first | assumption | (intro c hc; simp at hc; subst hc; rfl) | (simp; done) | fail) (by first | omega | decide | (simp; omega) | assumption | fail) (by decide) (by decide) rfl (by first | rfl | (simp; done) | fail)) (by simp)⟩) rfl ?_ | refine glq rfl (.inl ⟨rfl, castQ (r2 := .ro ((q.tasks ++ l.take n.toNat).map Task.cells)) (q_apC Try.underlying61 sz75 by75 zr75 (.inr ⟨rfl, rfl⟩) (by first | exact .ro | exact .cro | exact .nil | exact SV.slA (by repeat (first | exact .here | assumption | (apply HAt.left; assumption) | apply HAt.there | apply HAt.right)) (by first | rfl | (simp; done) | (simp; omega) | (simp [*]; done) | fail)) (by first | assumption | (intro c hc; simp at hc; subst hc; rfl) | (simp; done) | fail) (by first | assumption | (intro c hc; simp at hc; subst hc; rfl) | (simp; done) | fail) (by first | omega | decide | (simp; omega) | assumption | fail) (by decide) (by decide) rfl (by first | rfl | (simp; done) | fail)) (by simp)⟩) rfl ?_
      first | refine glq rfl (.inl ⟨rfl, e_callN cb130 (with130_c q (q.tasks ++ l.take n.toNat) (by simp; omega) _) rfl rfl⟩) rfl ?_ | refine glq rfl (.inl ⟨rfl, e_callN cb130 (ACall.arg (with130_c q (q.tasks ++ l.take n.toNat) (by simp; omega) _) (by repeat (first | exact ArgL.nil | (apply ArgL.cons; (· first | exact .same | exact .cro | exact .nil))))) rfl rfl⟩) rfl ?_
      refine glq rfl (.inl ⟨rfl, q_as (by constructor)⟩) rfl ?_
      (first | refine gld0 ?_ | refine gldA ?_)
      first | (refine aen rfl (e_stW sz63 rfl (by repeat (first | exact .here | assumption | (apply HAt.left; assumption) | apply HAt.there | apply HAt.right)) (by constructor) (by first | rfl | assumption | (simp [*]; done) | fail) rfl (by repeat (first | exact .here | apply HSet.there))) ?_; rintro _ _ ⟨rfl, rfl⟩) | (refine aen rfl (e_stP sz63 rfl (by repeat (first | exact .here | assumption | (apply HAt.left; assumption) | apply HAt.there | apply HAt.right)) (by first | rfl | assumption | (simp [*]; done) | fail) (by constructor) (by first | rfl | assumption | (simp [*]; done) | fail) rfl (by first | decide | omega) (by first | ((repeat constructor); done) | exact .same _) (by first | exact .one | exact .set) (by repeat (first | exact .here | apply HSet.there))) ?_; rintro _ _ ⟨rfl, rfl⟩)
      refine aqs rfl (q_as (by constructor)) rfl ?_
      refine alist_nil ?_
      show AWP _ _ _ _
      refine awp_ret ?_
      repeat first | with_reducible refine then_ret ?_ | with_reducible refine blk_ret ?_
      apply retq (.inr rfl) (.cons (rok_t rfl) (.cons (rok_A ag63 sz63 rfl (by repeat (first | exact .here | assumption | (apply HAt.left; assumption) | apply HAt.there | apply HAt.right)) (by rfl)) (.cons (rok_t rfl) .nil)))
      rotate_left
      · exact ⟨rfl, rfl⟩
      repeat (first | exact List.Sublist.refl _ | exact List.nil_sublist _ | exact List.sublist_append_left _ _ | apply List.Sublist.cons)
set_option maxHeartbeats 2000000 in
theorem put67_c (q : Queue) (l : List Task) (hl : l.length ≤ 100000) (H : Heap) : QCall Try.prog 67 [.agg q.cells, .ro (l.map Task.cells)] H (qPutA (qPutS q l)) := by
  have hlen0 := lenTask q.tasks
  have hone0 := oneTask q.tasks
  have hlenl := lenTask l
  refine acall_intro (n := 46) (rvs := [.tmp 4, .cell 5 63, .tmp 6]) Try.func67 rfl rfl rfl (Nat.le_of_ble_eq_true rfl) ?_
  refine awp_seq ?_
  refine awp_region ?_
  (refine aes rfl (e_bx (by constructor) rfl rfl) rfl ?_; rintro _ _ ⟨u2, rfl, rfl⟩)
  refine aqs rfl (q_as (by constructor)) rfl ?_
  (refine aes rfl (e_al (xs := [.lit (.int .i64 0), .lit (.bool false), .lit (.slice none 0 0)]) (k := 3) zr63 (.same _) rfl) rfl ?_; rintro _ _ ⟨u5, rfl, rfl⟩)
  refine aqs rfl (q_as (by constructor)) rfl ?_
  refine alist_nil ?_
  show AWP _ _ _ _
  refine awp_seq ?_
  refine awp_region ?_
  first | refine aqs rfl (q_ldpW ag63 sz63 rfl (by repeat (first | exact .here | assumption | (apply HAt.left; assumption) | apply HAt.there | apply HAt.right)) (by first | rfl | assumption | (simp [*]; done) | fail) (by first | rfl | assumption | (simp [*]; done) | fail) (by decide)) rfl ?_ | refine aqs rfl (q_ldW ag63 sz63 rfl (by first | rfl | assumption | (simp [*]; done) | fail)) rfl ?_ | refine aqs rfl (q_ldpP ag63 sz63 rfl (by repeat (first | exact .here | assumption | (apply HAt.left; assumption) | apply HAt.there | apply HAt.right)) (by first | rfl | assumption | (simp [*]; done) | fail) (by first | decide | (simp; done) | omega | fail) (by decide) (by first | ((repeat constructor); done) | exact .same _)) rfl ?_ | refine aqs rfl (q_ldP ag63 sz63 rfl (by first | decide | (simp; done) | omega | fail) (by first | ((repeat constructor); done) | exact .same _)) rfl ?_
  first | refine aqs rfl (e_callN cb73 (right73_c q _) rfl rfl) rfl ?_ | refine aqs rfl (e_callN cb73 (ACall.arg (right73_c q _) (by repeat (first | exact ArgL.nil | (apply ArgL.cons; (· first | exact .same | exact .cro | exact .nil))))) rfl rfl) rfl ?_
  refine aqs rfl (q_as (by constructor)) rfl ?_
  refine alist_nil ?_
  show AWP _ _ _ _
  refine awp_seq ?_
  refine awp_seq ?_
  refine awp_region ?_
  refine aqs rfl (q_mv (by constructor)) rfl ?_
  refine aqs rfl (q_not rfl) rfl ?_
  refine alist_nil ?_
  show AWP _ _ _ _
  refine awp_cond rfl (fun hc0 => ?_) (fun hc0 => ?_)
  · have hb : qRight q = false := by simpa using hc0
    rw [show qPutS q l = (0, zeroQ, 1) by rw [qPutS, if_pos hb]]
    refine awp_seq ?_
    refine awp_region ?_
    refine aqs rfl (q_bd st63 zr63 (by first | ((repeat constructor); done) | exact .same _) (by repeat (first | exact BD.nil | (apply BD.cons; (· rfl); (· constructor); (· rfl); (· rfl); (· exact Nat.le_of_ble_eq_true (by rfl)); (· exact (by first | ((repeat constructor); done) | exact .same _)))))) rfl ?_
    refine aqs rfl (q_as (by constructor)) rfl ?_
    first | (refine aen rfl (e_stW sz63 rfl (by repeat (first | exact .here | assumption | (apply HAt.left; assumption) | apply HAt.there | apply HAt.right)) (by constructor) (by first | rfl | assumption | (simp [*]; done) | fail) rfl (by repeat (first | exact .here | apply HSet.there))) ?_; rintro _ _ ⟨rfl, rfl⟩) | (refine aen rfl (e_stP sz63 rfl (by repeat (first | exact .here | assumption | (apply HAt.left; assumption) | apply HAt.there | apply HAt.right)) (by first | rfl | assumption | (simp [*]; done) | fail) (by constructor) (by first | rfl | assumption | (simp [*]; done) | fail) rfl (by first | decide | omega) (by first | ((repeat constructor); done) | exact .same _) (by first | exact .one | exact .set) (by repeat (first | exact .here | apply HSet.there))) ?_; rintro _ _ ⟨rfl, rfl⟩)
    refine aqs rfl (q_as (by constructor)) rfl ?_
    refine alist_nil ?_
    show AWP _ _ _ _
    refine awp_nil (by repeat (first | exact NilT.nil | (apply NilT.cons; (· first | exact .one .nil | exact .agg (by repeat (first | exact NilL.nil | (apply NilL.cons; (· first | exact .nil | exact .same)) | exact NilL.same)) | exact .one .same)) | exact NilT.same)) (by repeat (first | exact NilH.nil | (apply NilH.cons; (· first | exact .arr (by repeat (first | exact NilE.nil | (apply NilE.cons; (· exact (by repeat (first | exact NilL.nil | (apply NilL.cons; (· first | exact .nil | exact .same)) | exact NilL.same)))) | exact NilE.same)) | exact .same)) | exact NilH.same)) ?_
    show AWP _ _ _ _
    refine awp_ret ?_
    repeat first | with_reducible refine then_ret ?_ | with_reducible refine blk_ret ?_
    apply retq (.inr rfl) (.cons (rok_t rfl) (.cons (rok_A ag63 sz63 rfl (by repeat (first | exact .here | assumption | (apply HAt.left; assumption) | apply HAt.there | apply HAt.right)) (by rfl)) (.cons (rok_t rfl) .nil)))
    rotate_left
    · exact ⟨rfl, rfl⟩
    repeat (first | exact List.Sublist.refl _ | exact List.nil_sublist _ | exact List.sublist_append_left _ _ | apply List.Sublist.cons)
  · have hb : ¬ qRight q = false := by simpa using hc0
    refine awp_skip ?_
    show AWP _ _ _ _
    refine awp_seq ?_
    refine awp_seq ?_
    refine awp_region ?_
    first | refine aqs rfl (q_fapP fl63_1 (by decide) rfl rfl) rfl ?_ | refine aqs rfl (q_faP fl63_1 (by decide) rfl (by first | ((repeat constructor); done) | exact .same _)) rfl ?_
    first | refine aqs rfl (q_ldpN ag4 rfl (by repeat (first | exact .here | assumption | (apply HAt.left; assumption) | apply HAt.there | apply HAt.right)) (by first | rfl | assumption | (simp [*]; done) | fail) (by first | rfl | assumption | (simp [*]; done) | fail) (by constructor)) rfl ?_ | refine aqs rfl (q_ld1N ag4 rfl (by constructor)) rfl ?_
    refine alist_nil ?_
    show AWP _ _ _ _
    refine awp_cond rfl (fun hc1 => ?_) (fun hc1 => ?_)
    · rw [show qPutS q l = (0, zeroQ, 13) by rw [qPutS, if_neg hb, if_pos hc1]]
      refine awp_seq ?_
      refine awp_region ?_
      refine aqs rfl (q_bd st63 zr63 (by first | ((repeat constructor); done) | exact .same _) (by repeat (first | exact BD.nil | (apply BD.cons; (· rfl); (· constructor); (· rfl); (· rfl); (· exact Nat.le_of_ble_eq_true (by rfl)); (· exact (by first | ((repeat constructor); done) | exact .same _)))))) rfl ?_
      refine aqs rfl (q_as (by constructor)) rfl ?_
      first | (refine aen rfl (e_stW sz63 rfl (by repeat (first | exact .here | assumption | (apply HAt.left; assumption) | apply HAt.there | apply HAt.right)) (by constructor) (by first | rfl | assumption | (simp [*]; done) | fail) rfl (by repeat (first | exact .here | apply HSet.there))) ?_; rintro _ _ ⟨rfl, rfl⟩) | (refine aen rfl (e_stP sz63 rfl (by repeat (first | exact .here | assumption | (apply HAt.left; assumption) | apply HAt.there | apply HAt.right)) (by first | rfl | assumption | (simp [*]; done) | fail) (by constructor) (by first | rfl | assumption | (simp [*]; done) | fail) rfl (by first | decide | omega) (by first | ((repeat constructor); done) | exact .same _) (by first | exact .one | exact .set) (by repeat (first | exact .here | apply HSet.there))) ?_; rintro _ _ ⟨rfl, rfl⟩)
      refine aqs rfl (q_as (by constructor)) rfl ?_
      refine alist_nil ?_
      show AWP _ _ _ _
      refine awp_nil (by repeat (first | exact NilT.nil | (apply NilT.cons; (· first | exact .one .nil | exact .agg (by repeat (first | exact NilL.nil | (apply NilL.cons; (· first | exact .nil | exact .same)) | exact NilL.same)) | exact .one .same)) | exact NilT.same)) (by repeat (first | exact NilH.nil | (apply NilH.cons; (· first | exact .arr (by repeat (first | exact NilE.nil | (apply NilE.cons; (· exact (by repeat (first | exact NilL.nil | (apply NilL.cons; (· first | exact .nil | exact .same)) | exact NilL.same)))) | exact NilE.same)) | exact .same)) | exact NilH.same)) ?_
      show AWP _ _ _ _
      refine awp_ret ?_
      repeat first | with_reducible refine then_ret ?_ | with_reducible refine blk_ret ?_
      apply retq (.inr rfl) (.cons (rok_t rfl) (.cons (rok_A ag63 sz63 rfl (by repeat (first | exact .here | assumption | (apply HAt.left; assumption) | apply HAt.there | apply HAt.right)) (by rfl)) (.cons (rok_t rfl) .nil)))
      rotate_left
      · exact ⟨rfl, rfl⟩
      repeat (first | exact List.Sublist.refl _ | exact List.nil_sublist _ | exact List.sublist_append_left _ _ | apply List.Sublist.cons)
    · have hb2 : ¬ q.closed = true := by simpa using hc1
      have hb3 : q.closed = false := by simpa using hc1
      rw [show qPutS q l = (qPutN q l, ⟨q.room, q.closed, q.tasks ++ l.take (qPutN q l).toNat⟩, 0) by rw [qPutS, if_neg hb, if_neg hb2]]
      rw [hb3]
      obtain ⟨r1, r2, r3⟩ := qRight_f.1 (by simpa using hb)
      have hlm : (q.tasks.map Task.cells).length = q.tasks.length := by simp
      have hlm2 : (l.map Task.cells).length = l.length := by simp
      refine awp_skip ?_
      show AWP _ _ _ _
      refine awp_seq ?_
      refine awp_region ?_
      first | refine aqs rfl (q_fapP fl63_2 (by decide) rfl rfl) rfl ?_ | refine aqs rfl (q_faP fl63_2 (by decide) rfl (by first | ((repeat constructor); done) | exact .same _)) rfl ?_
      first | refine aqs rfl (q_ldpN ag61 rfl (by repeat (first | exact .here | assumption | (apply HAt.left; assumption) | apply HAt.there | apply HAt.right)) (by first | rfl | assumption | (simp [*]; done) | fail) (by first | rfl | assumption | (simp [*]; done) | fail) (by constructor)) rfl ?_ | refine aqs rfl (q_ld1N ag61 rfl (by constructor)) rfl ?_
      first | (refine aes rfl (e_apO Try.underlying61 sz75 by75 zr75 rfl (by repeat (first | exact .here | assumption | (apply HAt.left; assumption) | apply HAt.there | apply HAt.right)) (by rw [List.length_map, hlt]; exact Nat.le_refl _) (by first | exact .ro | exact .cro | exact .nil | exact SV.slA (by repeat (first | exact .here | assumption | (apply HAt.left; assumption) | apply HAt.there | apply HAt.right)) (by first | rfl | (simp; done) | (simp; omega) | (simp [*]; done) | fail)) (by first | assumption | (intro c hc; simp at hc; subst hc; rfl) | (simp; done) | fail) (by first | assumption | (intro c hc; simp at hc; subst hc; rfl) | (simp; done) | fail) (by first | assumption | (intro c hc; simp at hc; subst hc; rfl) | (simp; done) | fail) (by first | (simp; done) | (simp; omega) | omega | fail) (by decide) (by decide) rfl (by first | rfl | (simp; rfl)) (by first | exact hes | (simp; rfl)) (fun v => (by repeat (first | exact .here | apply HSet.there)))) rfl ?_; rintro _ _ ⟨u20, rfl, rfl⟩) | (refine aes rfl (e_apN Try.underlying61 sz75 by75 zr75 rfl (by first | exact .ro | exact .cro | exact .nil | exact SV.slA (by repeat (first | exact .here | assumption | (apply HAt.left; assumption) | apply HAt.there | apply HAt.right)) (by first | rfl | (simp; done) | (simp; omega) | (simp [*]; done) | fail)) (by first | assumption | (intro c hc; simp at hc; subst hc; rfl) | (simp; done) | fail) (by first | assumption | (intro c hc; simp at hc; subst hc; rfl) | (simp; done) | fail) (by first | (simp; done) | (simp; omega) | omega | fail) (by decide) (by decide) rfl rfl) rfl ?_; rintro _ _ ⟨u20, rfl, rfl⟩)
      refine aqs rfl (q_as (by constructor)) rfl ?_
      refine alist_nil ?_
      show AWP _ _ _ _
      refine awp_seq ?_
      refine awp_region ?_
      refine aqs rfl (q_as (by constructor)) rfl ?_
      refine alist_nil ?_
      show AWP _ _ _ _
      refine awp_seq ?_
      refine awp_block ?_
      rw [show q.tasks.map Task.cells = (q.tasks ++ l.take 0).map Task.cells by simp]
      refine awp_loop_inv (fun x : Nat × Nat => ⟨[(9, .lit (.int .i64 x.1)), (1, .ro (l.map Task.cells)), (2, .ptr u2 0 0), (5, .ptr u5 0 0), (8, .sl x.2 0 (q.tasks.length + x.1))], 46, (x.2, .arr 75 4 ((q.tasks ++ l.take x.1).map Task.cells)) :: (u5, .arr 63 3 [[.lit (.int .i64 0), .lit (.bool false), .lit (.slice none 0 0)]]) :: (u2, .arr 63 3 [q.cells]) :: H⟩) (fun x => x.1 ≤ l.length ∧ (q.tasks.length : Int) + x.1 ≤ q.room) (fun x => l.length - x.1) (0, u20) ?_ ?_ ?_
      · exact ⟨Nat.zero_le _, by show (q.tasks.length : Int) + ((0 : Nat) : Int) ≤ q.room; omega⟩
      · exact .mk' (by refine ⟨rfl, rfl, rfl, rfl, ?_, trivial⟩; show AV.sl _ 0 _ = AV.sl _ 0 _; simp) (by repeat (first | exact .refl _ | apply List.Sublist.cons_cons | apply List.Sublist.cons))
      · rintro ⟨i, u⟩ ⟨hi, hir⟩
        simp only at hi hir ⊢
        have hlen := lenTask (q.tasks ++ l.take i)
        have hone := oneTask (q.tasks ++ l.take i)
        have hlt : (q.tasks ++ l.take i).length = q.tasks.length + i := by rw [List.length_append, List.length_take]; omega
        refine awp_seq ?_
        refine awp_mid [(31, .lit (.bool (decide ((i : Int) < (l.map Task.cells).length) && decide (((q.tasks.length + i : Nat) : Int) < q.room)))), (9, .lit (.int .i64 i)), (1, .ro (l.map Task.cells)), (2, .ptr u2 0 0), (5, .ptr u5 0 0), (8, .sl u 0 (q.tasks.length + i))] ?_ ?_
        · skip
          refine awp_region ?_
          all_goals (refine aqs rfl (q_mv (by constructor)) rfl ?_)
          all_goals (refine aqs rfl (q_mv (by constructor)) rfl ?_)
          all_goals (first | refine aqs rfl (q_len Try.underlying61 .ro) rfl ?_ | refine aqs rfl (q_lenO Try.underlying61 rfl (by repeat (first | exact .here | assumption | (apply HAt.left; assumption) | apply HAt.there | apply HAt.right)) (by first | omega | (simp; done) | (simp; omega) | fail) (by first | exact Nat.sub_zero _ | rfl)) rfl ?_ | refine aqs rfl (q_len Try.underlying61 .nil) rfl ?_ | refine aqs rfl (q_len Try.underlying61 .cro) rfl ?_)
          all_goals (refine aqs rfl (q_lss rfl rfl) rfl ?_)
          all_goals (refine aqs rfl (q_mv (by constructor)) rfl ?_)
          all_goals try (refine acase (fun hb4 => ?_) (fun hb4 => ?_))
          all_goals first | (exfalso; cases hb4; done) | skip
          all_goals (first | refine ans rfl rfl ?_ | refine aqs rfl (q_mv (by constructor)) rfl ?_)
          all_goals (first | refine ans rfl rfl ?_ | refine aqs rfl (q_len Try.underlying61 .ro) rfl ?_ | refine aqs rfl (q_lenO Try.underlying61 rfl (by repeat (first | exact .here | assumption | (apply HAt.left; assumption) | apply HAt.there | apply HAt.right)) (by first | omega | (simp; done) | (simp; omega) | fail) (by first | exact Nat.sub_zero _ | rfl)) rfl ?_ | refine aqs rfl (q_len Try.underlying61 .nil) rfl ?_ | refine aqs rfl (q_len Try.underlying61 .cro) rfl ?_)
          all_goals (first | refine ans rfl rfl ?_ | refine aqs rfl (q_fapP fl63_0 (by decide) rfl rfl) rfl ?_ | refine aqs rfl (q_faP fl63_0 (by decide) rfl (by first | ((repeat constructor); done) | exact .same _)) rfl ?_)
          all_goals (first | refine ans rfl rfl ?_ | refine aqs rfl (q_ldpN ag3 rfl (by repeat (first | exact .here | assumption | (apply HAt.left; assumption) | apply HAt.there | apply HAt.right)) (by first | rfl | assumption | (simp [*]; done) | fail) (by first | rfl | assumption | (simp [*]; done) | fail) (by constructor)) rfl ?_ | refine aqs rfl (q_ld1N ag3 rfl (by constructor)) rfl ?_)
          all_goals (first | refine ans rfl rfl ?_ | refine aqs rfl (q_lss rfl rfl) rfl ?_)
          all_goals (first | refine aqs rfl (q_pickT rfl (by constructor)) rfl ?_ | refine aqs rfl (q_pickF rfl (by constructor)) rfl ?_)
          all_goals (refine alist_nil ?_)
          all_goals (exact ⟨rfl, .mk' (by repeat (first | exact trivial | refine ⟨rfl, ?_⟩ | (refine ⟨?_, ?_⟩; (· first | (rw [hb4]; rfl) | fail)))) (.refl _)⟩)
        refine awp_cond rfl (fun hc2 => ?_) (fun hc2 => ?_)
        · simp only [Bool.and_eq_true, decide_eq_true_eq, List.length_map] at hc2
          obtain ⟨s, hs, hsm⟩ := get_lt (l := l) (i := i) (by omega)
          have hs2 := get_map (f := Task.cells) hs
          have hes : ((q.tasks ++ l.take i).map Task.cells).take (q.tasks.length + i) ++ [s.cells] = (q.tasks ++ l.take (i + 1)).map Task.cells := by
            rw [List.take_of_length_le (by rw [List.length_map, hlt]; exact Nat.le_refl _), take_next hs]; simp
          refine awp_skip ?_
          show AWP _ _ _ _
          refine awp_block ?_
          refine awp_seq ?_
          refine awp_region ?_
          refine aqs rfl (q_mv (by constructor)) rfl ?_
          refine aqs rfl (q_mv (by constructor)) rfl ?_
          refine aqs rfl (q_mv (by constructor)) rfl ?_
          first | refine aqs rfl (q_iaN Try.underlying61 sz75 (.inl rfl) rfl (by omega) (by first | rfl | assumption | (simp [*]; done) | fail) (by first | rfl | assumption | (simp [*]; done) | fail) (by decide) (by first | ((repeat constructor); done) | exact .same _)) rfl ?_ | refine aqs rfl (q_iaS Try.underlying61 sz75 rfl (by repeat (first | exact .here | assumption | (apply HAt.left; assumption) | apply HAt.there | apply HAt.right)) rfl (by omega) (by omega) (by first | exact Nat.zero_add _ | rfl)) rfl ?_ | refine aqs rfl (q_iaN Try.underlying61 sz75 (.inr rfl) rfl (by omega) (by first | rfl | assumption | (simp [*]; done) | fail) (by first | rfl | assumption | (simp [*]; done) | fail) (by decide) (by first | ((repeat constructor); done) | exact .same _)) rfl ?_
          first | refine aqs rfl (q_ldpW ag75 sz75 rfl (by repeat (first | exact .here | assumption | (apply HAt.left; assumption) | apply HAt.there | apply HAt.right)) (by first | rfl | assumption | (simp [*]; done) | fail) (by first | rfl | assumption | (simp [*]; done) | fail) (by decide)) rfl ?_ | refine aqs rfl (q_ldW ag75 sz75 rfl (by first | rfl | assumption | (simp [*]; done) | fail)) rfl ?_ | refine aqs rfl (q_ldpP ag75 sz75 rfl (by repeat (first | exact .here | assumption | (apply HAt.left; assumption) | apply HAt.there | apply HAt.right)) (by first | rfl | assumption | (simp [*]; done) | fail) (by first | decide | (simp; done) | omega | fail) (by decide) (by first | ((repeat constructor); done) | exact .same _)) rfl ?_ | refine aqs rfl (q_ldP ag75 sz75 rfl (by first | decide | (simp; done) | omega | fail) (by first | ((repeat constructor); done) | exact .same _)) rfl ?_
          first | refine aqs rfl (q_bs Try.underlying61 sz75 zr75 rfl (by first | ((repeat constructor); done) | exact .same _) rfl (by decide) (by repeat (first | exact BS.nil | (apply BS.cons; (· constructor); (· rfl); (· rfl); (· rfl); (· exact (by first | ((repeat constructor); done) | exact .same _)))))) rfl ?_ | (refine aes rfl (e_bs Try.underlying61 sz75 zr75 rfl (by first | ((repeat constructor); done) | exact .same _) rfl (by decide) (by repeat (first | exact BS.nil | (apply BS.cons; (· constructor); (· rfl); (· rfl); (· rfl); (· exact (by first | ((repeat constructor); done) | exact .same _)))))) rfl ?_; rintro _ _ ⟨u37, rfl, rfl⟩)
          first | refine aqs rfl (q_apC Try.underlying61 sz75 by75 zr75 (.inl rfl) (by first | exact .ro | exact .cro | exact .nil | exact SV.slA (by repeat (first | exact .here | assumption | (apply HAt.left; assumption) | apply HAt.there | apply HAt.right)) (by first | rfl | (simp; done) | (simp; omega) | (simp [*]; done) | fail)) (by first | assumption | (intro c hc; simp at hc; subst hc; rfl) | (simp; done) | fail) (by first | assumption | (intro c hc; simp at hc; subst hc; rfl) | (simp; done) | fail) (by first | omega | decide | (simp; omega) | assumption | fail) (by decide) (by decide) rfl (by first | rfl | (simp; done) | fail)) rfl ?_ | refine aqs rfl (q_apC Try.underlying61 sz75 by75 zr75 (.inr ⟨rfl, rfl⟩) (by first | exact .ro | exact .cro | exact .nil | exact SV.slA (by repeat (first | exact .here | assumption | (apply HAt.left; assumption) | apply HAt.there | apply HAt.right)) (by first | rfl | (simp; done) | (simp; omega) | (simp [*]; done) | fail)) (by first | assumption | (intro c hc; simp at hc; subst hc; rfl) | (simp; done) | fail) (by first | assumption | (intro c hc; simp at hc; subst hc; rfl) | (simp; done) | fail) (by first | omega | decide | (simp; omega) | assumption | fail) (by decide) (by decide) rfl (by first | rfl | (simp; done) | fail)) rfl ?_ | (refine aes rfl (e_apO Try.underlying61 sz75 by75 zr75 rfl (by repeat (first | exact .here | assumption | (apply HAt.left; assumption) | apply HAt.there | apply HAt.right)) (by rw [List.length_map, hlt]; exact Nat.le_refl _) (by first | exact .ro | exact .cro | exact .nil | exact SV.slA (by repeat (first | exact .here | assumption | (apply HAt.left; assumption) | apply HAt.there | apply HAt.right)) (by first | rfl | (simp; done) | (simp; omega) | (simp [*]; done) | fail)) (by first | assumption | (intro c hc; simp at hc; subst hc; rfl) | (simp; done) | fail) (by first | assumption | (intro c hc; simp at hc; subst hc; rfl) | (simp; done) | fail) (by first | assumption | (intro c hc; simp at hc; subst hc; rfl) | (simp; done) | fail) (by first | (simp; done) | (simp; omega) | omega | fail) (by decide) (by decide) rfl (by first | rfl | (simp; rfl)) (by first | exact hes | (simp; rfl)) (fun v => (by repeat (first | exact .here | apply HSet.there)))) rfl ?_; rintro _ _ ⟨u38, rfl, rfl⟩) | (refine aes rfl (e_apN Try.underlying61 sz75 by75 zr75 rfl (by first | exact .ro | exact .cro | exact .nil | exact SV.slA (by repeat (first | exact .here | assumption | (apply HAt.left; assumption) | apply HAt.there | apply HAt.right)) (by first | rfl | (simp; done) | (simp; omega) | (simp [*]; done) | fail)) (by first | assumption | (intro c hc; simp at hc; subst hc; rfl) | (simp; done) | fail) (by first | assumption | (intro c hc; simp at hc; subst hc; rfl) | (simp; done) | fail) (by first | (simp; done) | (simp; omega) | omega | fail) (by decide) (by decide) rfl rfl) rfl ?_; rintro _ _ ⟨u38, rfl, rfl⟩)
          refine aqs rfl (q_as (by constructor)) rfl ?_
          refine alist_nil ?_
          show AWP _ _ _ _
          refine awp_region ?_
          refine aqs rfl (q_mv (by constructor)) rfl ?_
          first | refine aqs rfl (q_add64 rfl rfl (by omega) (by omega)) rfl ?_ | refine aqs rfl (q_add rfl rfl) rfl ?_
          refine aqs rfl (q_as (by constructor)) rfl ?_
          refine alist_nil ?_
          show ∃ y, _ ∧ _ ∧ _
          exact ⟨(i + 1, _), ⟨by show i + 1 ≤ l.length; omega, by show (q.tasks.length : Int) + ((i + 1 : Nat) : Int) ≤ q.room; omega⟩, by show l.length - (i + 1) < l.length - i; omega, .mk' ⟨by rfl, rfl, rfl, rfl, rfl, trivial⟩ (by repeat (first | exact List.Sublist.refl _ | exact List.nil_sublist _ | exact List.sublist_append_left _ _ | (apply List.Sublist.cons_cons) | (apply List.Sublist.cons)))⟩
        · simp only [Bool.and_eq_false_iff, decide_eq_false_iff_not, List.length_map] at hc2
          have hn : qPutN q l = i := by unfold qPutN; omega
          rw [hn, Int.toNat_natCast]
          have hle2 : q.tasks.length + i = ((q.tasks ++ l.take i).map Task.cells).length := by rw [List.length_map, hlt]
          refine awp_exit ?_
          show AWP _ _ _ _
          refine awp_seq ?_
          refine awp_draw 6 [(0, false), (1, false), (2, false), (3, false), (4, false), (5, false)] _ ([]) mixed (by kernel_rfl) (perm0 _) ?_
          refine glq rfl (.inl ⟨rfl, q_mv (by constructor)⟩) rfl ?_
          first | refine glq rfl (.inl ⟨rfl, q_fapP fl63_0 (by decide) rfl rfl⟩) rfl ?_ | refine glq rfl (.inl ⟨rfl, q_faP fl63_0 (by decide) rfl (by first | ((repeat constructor); done) | exact .same _)⟩) rfl ?_
          first | refine glq rfl (.inl ⟨rfl, q_ldpN ag3 rfl (by repeat (first | exact .here | assumption | (apply HAt.left; assumption) | apply HAt.there | apply HAt.right)) (by first | rfl | assumption | (simp [*]; done) | fail) (by first | rfl | assumption | (simp [*]; done) | fail) (by constructor)⟩) rfl ?_ | refine glq rfl (.inl ⟨rfl, q_ld1N ag3 rfl (by constructor)⟩) rfl ?_
          refine glq rfl (.inl ⟨rfl, q_mv (by constructor)⟩) rfl ?_
          refine glq rfl (.inl ⟨rfl, q_bd st63 zr63 (by first | ((repeat constructor); done) | exact .same _) (by repeat (first | exact BD.nil | (apply BD.cons; (· rfl); (· constructor); (· rfl); (· rfl); (· exact Nat.le_of_ble_eq_true (by rfl)); (· exact (by first | ((repeat constructor); done) | exact .same _)))))⟩) rfl ?_
          refine glq rfl (.inl ⟨rfl, q_as (by constructor)⟩) rfl ?_
          (first | refine gld0 ?_ | refine gldA ?_)
          first | (refine aen rfl (e_stW sz63 rfl (by repeat (first | exact .here | assumption | (apply HAt.left; assumption) | apply HAt.there | apply HAt.right)) (by constructor) (by first | rfl | assumption | (simp [*]; done) | fail) rfl (by repeat (first | exact .here | apply HSet.there))) ?_; rintro _ _ ⟨rfl, rfl⟩) | (refine aen rfl (e_stP sz63 rfl (by repeat (first | exact .here | assumption | (apply HAt.left; assumption) | apply HAt.there | apply HAt.right)) (by first | rfl | assumption | (simp [*]; done) | fail) (by constructor) (by first | rfl | assumption | (simp [*]; done) | fail) rfl (by first | decide | omega) (by first | ((repeat constructor); done) | exact .same _) (by first | exact .one | exact .set) (by repeat (first | exact .here | apply HSet.there))) ?_; rintro _ _ ⟨rfl, rfl⟩)
          refine aqs rfl (q_as (by constructor)) rfl ?_
          refine alist_nil ?_
          show AWP _ _ _ _
          refine awp_pub (u := u) (by repeat (first | exact .here | assumption | (apply HAt.left; assumption) | apply HAt.there | apply HAt.right)) (by repeat (first | exact PubT.nil | (apply PubT.cons; (· first | exact .one (pub_all (by first | rfl | (simp; done) | (simp; omega) | (simp [*]; done) | fail)) | exact .agg (by repeat (first | exact PubL.nil | (apply PubL.cons; (· first | exact pub_all (by first | rfl | (simp; done) | (simp; omega) | (simp [*]; done) | fail) | exact .same)) | exact PubL.same)) | exact .one .same)) | exact PubT.same)) (by repeat (first | exact PubH.drop (by repeat (first | (apply PubR.cons; (· first | exact .arr (by repeat (first | exact PubE.nil | (apply PubE.cons; (· exact (by repeat (first | exact PubL.nil | (apply PubL.cons; (· first | exact pub_all (by first | rfl | (simp; done) | (simp; omega) | (simp [*]; done) | fail) | exact .same)) | exact PubL.same)))) | exact PubE.same)) | exact .same)) | exact PubR.same)) | (apply PubH.cons; (· first | exact .arr (by repeat (first | exact PubE.nil | (apply PubE.cons; (· exact (by repeat (first | exact PubL.nil | (apply PubL.cons; (· first | exact pub_all (by first | rfl | (simp; done) | (simp; omega) | (simp [*]; done) | fail) | exact .same)) | exact PubL.same)))) | exact PubE.same)) | exact .same)))) ?_
          show AWP _ _ _ _
          refine awp_ret ?_
          repeat first | with_reducible refine then_ret ?_ | with_reducible refine blk_ret ?_
          apply retq (.inr rfl) (.cons (rok_t rfl) (.cons (rok_A ag63 sz63 rfl (by repeat (first | exact .here | assumption | (apply HAt.left; assumption) | apply HAt.there | apply HAt.right)) (by rfl)) (.cons (rok_t rfl) .nil)))
          rotate_left
          · exact ⟨rfl, rfl⟩
          repeat (first | exact List.Sublist.refl _ | exact List.nil_sublist _ | exact List.sublist_append_left _ _ | apply List.Sublist.cons)

/-! ### Take -/
def qTakeS (q : Queue) : Task × Queue × Int :=
  if qRight q = false then (zeroT, zeroQ, 1) else match q.tasks with
    | [] => (zeroT, zeroQ, 10)
    | t :: ts => (t, ⟨q.room, q.closed, ts⟩, 0)
def qTakeA (g : Task × Queue × Int) : AV := .tup [.agg g.1.cells, .agg g.2.1.cells, .lit (.int .i64 g.2.2)]
set_option maxHeartbeats 2000000 in
theorem take68_c (q : Queue) (H : Heap) : QCall Try.prog 68 [.agg q.cells] H (qTakeA (qTakeS q)) := by
  rcases q with ⟨room, closed, tasks⟩
  cases tasks with
  | nil =>
    refine acall_intro (n := 27) (rvs := [.cell 2 75, .cell 3 63, .tmp 4]) Try.func68 rfl rfl rfl (Nat.le_of_ble_eq_true rfl) ?_
    refine awp_seq ?_
    refine awp_region ?_
    (refine aes rfl (e_bx (by constructor) rfl rfl) rfl ?_; rintro _ _ ⟨u1, rfl, rfl⟩)
    (refine aes rfl (e_al (xs := [.lit (.int .i64 0), .lit (.int .i64 0), .lit (.string ⟨#[]⟩), .lit (.string ⟨#[]⟩)]) (k := 4) zr75 (.same _) rfl) rfl ?_; rintro _ _ ⟨u2, rfl, rfl⟩)
    (refine aes rfl (e_al (xs := [.lit (.int .i64 0), .lit (.bool false), .lit (.slice none 0 0)]) (k := 3) zr63 (.same _) rfl) rfl ?_; rintro _ _ ⟨u3, rfl, rfl⟩)
    refine aqs rfl (q_as (by constructor)) rfl ?_
    refine alist_nil ?_
    show AWP _ _ _ _
    refine awp_seq ?_
    refine awp_block ?_
    refine awp_seq ?_
    refine awp_region ?_
    first | refine aqs rfl (q_ldpW ag63 sz63 rfl (by repeat (first | exact .here | assumption | (apply HAt.left; assumption) | apply HAt.there | apply HAt.right)) (by first | rfl | assumption | (simp [*]; done) | fail) (by first | rfl | assumption | (simp [*]; done) | fail) (by decide)) rfl ?_ | refine aqs rfl (q_ldW ag63 sz63 rfl (by first | rfl | assumption | (simp [*]; done) | fail)) rfl ?_ | refine aqs rfl (q_ldpP ag63 sz63 rfl (by repeat (first | exact .here | assumption | (apply HAt.left; assumption) | apply HAt.there | apply HAt.right)) (by first | rfl | assumption | (simp [*]; done) | fail) (by first | decide | (simp; done) | omega | fail) (by decide) (by first | ((repeat constructor); done) | exact .same _)) rfl ?_ | refine aqs rfl (q_ldP ag63 sz63 rfl (by first | decide | (simp; done) | omega | fail) (by first | ((repeat constructor); done) | exact .same _)) rfl ?_
    first | refine aqs rfl (e_callN cb72 (right72_c ⟨room, closed, []⟩ _) rfl rfl) rfl ?_ | refine aqs rfl (e_callN cb72 (ACall.arg (right72_c ⟨room, closed, []⟩ _) (by repeat (first | exact ArgL.nil | (apply ArgL.cons; (· first | exact .same | exact .cro | exact .nil))))) rfl rfl) rfl ?_
    refine aqs rfl (q_not rfl) rfl ?_
    refine aqs rfl (q_as (by constructor)) rfl ?_
    refine alist_nil ?_
    show AWP _ _ _ _
    refine awp_cond rfl (fun hc0 => ?_) (fun hc0 => ?_)
    · have hb : qRight ⟨room, closed, []⟩ = false := by simpa using hc0
      rw [show qTakeS ⟨room, closed, []⟩ = (zeroT, zeroQ, 1) by rw [qTakeS, if_pos hb]]
      refine awp_seq ?_
      refine awp_region ?_
      refine aqs rfl (q_bd st75 zr75 (by first | ((repeat constructor); done) | exact .same _) (by repeat (first | exact BD.nil | (apply BD.cons; (· rfl); (· constructor); (· rfl); (· rfl); (· exact Nat.le_of_ble_eq_true (by rfl)); (· exact (by first | ((repeat constructor); done) | exact .same _)))))) rfl ?_
      refine aqs rfl (q_bd st63 zr63 (by first | ((repeat constructor); done) | exact .same _) (by repeat (first | exact BD.nil | (apply BD.cons; (· rfl); (· constructor); (· rfl); (· rfl); (· exact Nat.le_of_ble_eq_true (by rfl)); (· exact (by first | ((repeat constructor); done) | exact .same _)))))) rfl ?_
      first | (refine aen rfl (e_stW sz75 rfl (by repeat (first | exact .here | assumption | (apply HAt.left; assumption) | apply HAt.there | apply HAt.right)) (by constructor) (by first | rfl | assumption | (simp [*]; done) | fail) rfl (by repeat (first | exact .here | apply HSet.there))) ?_; rintro _ _ ⟨rfl, rfl⟩) | (refine aen rfl (e_stP sz75 rfl (by repeat (first | exact .here | assumption | (apply HAt.left; assumption) | apply HAt.there | apply HAt.right)) (by first | rfl | assumption | (simp [*]; done) | fail) (by constructor) (by first | rfl | assumption | (simp [*]; done) | fail) rfl (by first | decide | omega) (by first | ((repeat constructor); done) | exact .same _) (by first | exact .one | exact .set) (by repeat (first | exact .here | apply HSet.there))) ?_; rintro _ _ ⟨rfl, rfl⟩)
      first | (refine aen rfl (e_stW sz63 rfl (by repeat (first | exact .here | assumption | (apply HAt.left; assumption) | apply HAt.there | apply HAt.right)) (by constructor) (by first | rfl | assumption | (simp [*]; done) | fail) rfl (by repeat (first | exact .here | apply HSet.there))) ?_; rintro _ _ ⟨rfl, rfl⟩) | (refine aen rfl (e_stP sz63 rfl (by repeat (first | exact .here | assumption | (apply HAt.left; assumption) | apply HAt.there | apply HAt.right)) (by first | rfl | assumption | (simp [*]; done) | fail) (by constructor) (by first | rfl | assumption | (simp [*]; done) | fail) rfl (by first | decide | omega) (by first | ((repeat constructor); done) | exact .same _) (by first | exact .one | exact .set) (by repeat (first | exact .here | apply HSet.there))) ?_; rintro _ _ ⟨rfl, rfl⟩)
      refine aqs rfl (q_as (by constructor)) rfl ?_
      refine alist_nil ?_
      show AWP _ _ _ _
      refine awp_nil (by repeat (first | exact NilT.nil | (apply NilT.cons; (· first | exact .one .nil | exact .agg (by repeat (first | exact NilL.nil | (apply NilL.cons; (· first | exact .nil | exact .same)) | exact NilL.same)) | exact .one .same)) | exact NilT.same)) (by repeat (first | exact NilH.nil | (apply NilH.cons; (· first | exact .arr (by repeat (first | exact NilE.nil | (apply NilE.cons; (· exact (by repeat (first | exact NilL.nil | (apply NilL.cons; (· first | exact .nil | exact .same)) | exact NilL.same)))) | exact NilE.same)) | exact .same)) | exact NilH.same)) ?_
      show AWP _ _ _ _
      refine awp_ret ?_
      repeat first | with_reducible refine then_ret ?_ | with_reducible refine blk_ret ?_
      apply retq (.inr rfl) (.cons (rok_A ag75 sz75 rfl (by repeat (first | exact .here | assumption | (apply HAt.left; assumption) | apply HAt.there | apply HAt.right)) (by rfl)) (.cons (rok_A ag63 sz63 rfl (by repeat (first | exact .here | assumption | (apply HAt.left; assumption) | apply HAt.there | apply HAt.right)) (by rfl)) (.cons (rok_t rfl) .nil)))
      rotate_left
      · exact ⟨rfl, rfl⟩
      repeat (first | exact List.Sublist.refl _ | exact List.nil_sublist _ | exact List.sublist_append_left _ _ | apply List.Sublist.cons)
    · have hb : ¬ qRight ⟨room, closed, []⟩ = false := by simpa using hc0
      rw [show qTakeS ⟨room, closed, []⟩ = (zeroT, zeroQ, 10) by rw [qTakeS, if_neg hb]]
      refine awp_seq ?_
      refine awp_region ?_
      first | refine aqs rfl (q_fapP fl63_2 (by decide) rfl rfl) rfl ?_ | refine aqs rfl (q_faP fl63_2 (by decide) rfl (by first | ((repeat constructor); done) | exact .same _)) rfl ?_
      first | refine aqs rfl (q_ldpN ag61 rfl (by repeat (first | exact .here | assumption | (apply HAt.left; assumption) | apply HAt.there | apply HAt.right)) (by first | rfl | assumption | (simp [*]; done) | fail) (by first | rfl | assumption | (simp [*]; done) | fail) (by constructor)) rfl ?_ | refine aqs rfl (q_ld1N ag61 rfl (by constructor)) rfl ?_
      first | refine aqs rfl (q_len Try.underlying61 .ro) rfl ?_ | refine aqs rfl (q_lenO Try.underlying61 rfl (by repeat (first | exact .here | assumption | (apply HAt.left; assumption) | apply HAt.there | apply HAt.right)) (by first | omega | (simp; done) | (simp; omega) | fail) (by first | exact Nat.sub_zero _ | rfl)) rfl ?_ | refine aqs rfl (q_len Try.underlying61 .nil) rfl ?_ | refine aqs rfl (q_len Try.underlying61 .cro) rfl ?_
      refine aqs rfl (q_eql rfl rfl) rfl ?_
      refine aqs rfl (q_as (by constructor)) rfl ?_
      refine alist_nil ?_
      show AWP _ _ _ _
      refine awp_cond rfl (fun hc1 => ?_) (fun hc1 => ?_)
      · try simp only [decide_eq_true_eq, decide_eq_false_iff_not, Bool.not_eq_true', Bool.not_eq_false', Bool.not_eq_eq_eq_not, Bool.not_true, Bool.not_false, beq_iff_eq, beq_eq_false_iff_ne, Int.not_lt, Int.not_le] at hc1
        refine awp_seq ?_
        refine awp_region ?_
        refine aqs rfl (q_bd st75 zr75 (by first | ((repeat constructor); done) | exact .same _) (by repeat (first | exact BD.nil | (apply BD.cons; (· rfl); (· constructor); (· rfl); (· rfl); (· exact Nat.le_of_ble_eq_true (by rfl)); (· exact (by first | ((repeat constructor); done) | exact .same _)))))) rfl ?_
        refine aqs rfl (q_bd st63 zr63 (by first | ((repeat constructor); done) | exact .same _) (by repeat (first | exact BD.nil | (apply BD.cons; (· rfl); (· constructor); (· rfl); (· rfl); (· exact Nat.le_of_ble_eq_true (by rfl)); (· exact (by first | ((repeat constructor); done) | exact .same _)))))) rfl ?_
        first | (refine aen rfl (e_stW sz75 rfl (by repeat (first | exact .here | assumption | (apply HAt.left; assumption) | apply HAt.there | apply HAt.right)) (by constructor) (by first | rfl | assumption | (simp [*]; done) | fail) rfl (by repeat (first | exact .here | apply HSet.there))) ?_; rintro _ _ ⟨rfl, rfl⟩) | (refine aen rfl (e_stP sz75 rfl (by repeat (first | exact .here | assumption | (apply HAt.left; assumption) | apply HAt.there | apply HAt.right)) (by first | rfl | assumption | (simp [*]; done) | fail) (by constructor) (by first | rfl | assumption | (simp [*]; done) | fail) rfl (by first | decide | omega) (by first | ((repeat constructor); done) | exact .same _) (by first | exact .one | exact .set) (by repeat (first | exact .here | apply HSet.there))) ?_; rintro _ _ ⟨rfl, rfl⟩)
        first | (refine aen rfl (e_stW sz63 rfl (by repeat (first | exact .here | assumption | (apply HAt.left; assumption) | apply HAt.there | apply HAt.right)) (by constructor) (by first | rfl | assumption | (simp [*]; done) | fail) rfl (by repeat (first | exact .here | apply HSet.there))) ?_; rintro _ _ ⟨rfl, rfl⟩) | (refine aen rfl (e_stP sz63 rfl (by repeat (first | exact .here | assumption | (apply HAt.left; assumption) | apply HAt.there | apply HAt.right)) (by first | rfl | assumption | (simp [*]; done) | fail) (by constructor) (by first | rfl | assumption | (simp [*]; done) | fail) rfl (by first | decide | omega) (by first | ((repeat constructor); done) | exact .same _) (by first | exact .one | exact .set) (by repeat (first | exact .here | apply HSet.there))) ?_; rintro _ _ ⟨rfl, rfl⟩)
        refine aqs rfl (q_as (by constructor)) rfl ?_
        refine alist_nil ?_
        show AWP _ _ _ _
        refine awp_nil (by repeat (first | exact NilT.nil | (apply NilT.cons; (· first | exact .one .nil | exact .agg (by repeat (first | exact NilL.nil | (apply NilL.cons; (· first | exact .nil | exact .same)) | exact NilL.same)) | exact .one .same)) | exact NilT.same)) (by repeat (first | exact NilH.nil | (apply NilH.cons; (· first | exact .arr (by repeat (first | exact NilE.nil | (apply NilE.cons; (· exact (by repeat (first | exact NilL.nil | (apply NilL.cons; (· first | exact .nil | exact .same)) | exact NilL.same)))) | exact NilE.same)) | exact .same)) | exact NilH.same)) ?_
        show AWP _ _ _ _
        refine awp_ret ?_
        repeat first | with_reducible refine then_ret ?_ | with_reducible refine blk_ret ?_
        apply retq (.inr rfl) (.cons (rok_A ag75 sz75 rfl (by repeat (first | exact .here | assumption | (apply HAt.left; assumption) | apply HAt.there | apply HAt.right)) (by rfl)) (.cons (rok_A ag63 sz63 rfl (by repeat (first | exact .here | assumption | (apply HAt.left; assumption) | apply HAt.there | apply HAt.right)) (by rfl)) (.cons (rok_t rfl) .nil)))
        rotate_left
        · exact ⟨rfl, rfl⟩
        repeat (first | exact List.Sublist.refl _ | exact List.nil_sublist _ | exact List.sublist_append_left _ _ | apply List.Sublist.cons)
      · exfalso; first | (simp at hc1; done) | (simp at hc1; omega) | contradiction
  | cons t ts =>
    have hlen := lenTask (t :: ts)
    refine acall_intro (n := 27) (rvs := [.cell 2 75, .cell 3 63, .tmp 4]) Try.func68 rfl rfl rfl (Nat.le_of_ble_eq_true rfl) ?_
    refine awp_seq ?_
    refine awp_region ?_
    (refine aes rfl (e_bx (by constructor) rfl rfl) rfl ?_; rintro _ _ ⟨u1, rfl, rfl⟩)
    (refine aes rfl (e_al (xs := [.lit (.int .i64 0), .lit (.int .i64 0), .lit (.string ⟨#[]⟩), .lit (.string ⟨#[]⟩)]) (k := 4) zr75 (.same _) rfl) rfl ?_; rintro _ _ ⟨u2, rfl, rfl⟩)
    (refine aes rfl (e_al (xs := [.lit (.int .i64 0), .lit (.bool false), .lit (.slice none 0 0)]) (k := 3) zr63 (.same _) rfl) rfl ?_; rintro _ _ ⟨u3, rfl, rfl⟩)
    refine aqs rfl (q_as (by constructor)) rfl ?_
    refine alist_nil ?_
    show AWP _ _ _ _
    refine awp_seq ?_
    refine awp_block ?_
    refine awp_seq ?_
    refine awp_region ?_
    first | refine aqs rfl (q_ldpW ag63 sz63 rfl (by repeat (first | exact .here | assumption | (apply HAt.left; assumption) | apply HAt.there | apply HAt.right)) (by first | rfl | assumption | (simp [*]; done) | fail) (by first | rfl | assumption | (simp [*]; done) | fail) (by decide)) rfl ?_ | refine aqs rfl (q_ldW ag63 sz63 rfl (by first | rfl | assumption | (simp [*]; done) | fail)) rfl ?_ | refine aqs rfl (q_ldpP ag63 sz63 rfl (by repeat (first | exact .here | assumption | (apply HAt.left; assumption) | apply HAt.there | apply HAt.right)) (by first | rfl | assumption | (simp [*]; done) | fail) (by first | decide | (simp; done) | omega | fail) (by decide) (by first | ((repeat constructor); done) | exact .same _)) rfl ?_ | refine aqs rfl (q_ldP ag63 sz63 rfl (by first | decide | (simp; done) | omega | fail) (by first | ((repeat constructor); done) | exact .same _)) rfl ?_
    first | refine aqs rfl (e_callN cb72 (right72_c ⟨room, closed, t :: ts⟩ _) rfl rfl) rfl ?_ | refine aqs rfl (e_callN cb72 (ACall.arg (right72_c ⟨room, closed, t :: ts⟩ _) (by repeat (first | exact ArgL.nil | (apply ArgL.cons; (· first | exact .same | exact .cro | exact .nil))))) rfl rfl) rfl ?_
    refine aqs rfl (q_not rfl) rfl ?_
    refine aqs rfl (q_as (by constructor)) rfl ?_
    refine alist_nil ?_
    show AWP _ _ _ _
    refine awp_cond rfl (fun hc0 => ?_) (fun hc0 => ?_)
    · have hb : qRight ⟨room, closed, t :: ts⟩ = false := by simpa using hc0
      rw [show qTakeS ⟨room, closed, t :: ts⟩ = (zeroT, zeroQ, 1) by rw [qTakeS, if_pos hb]]
      refine awp_seq ?_
      refine awp_region ?_
      refine aqs rfl (q_bd st75 zr75 (by first | ((repeat constructor); done) | exact .same _) (by repeat (first | exact BD.nil | (apply BD.cons; (· rfl); (· constructor); (· rfl); (· rfl); (· exact Nat.le_of_ble_eq_true (by rfl)); (· exact (by first | ((repeat constructor); done) | exact .same _)))))) rfl ?_
      refine aqs rfl (q_bd st63 zr63 (by first | ((repeat constructor); done) | exact .same _) (by repeat (first | exact BD.nil | (apply BD.cons; (· rfl); (· constructor); (· rfl); (· rfl); (· exact Nat.le_of_ble_eq_true (by rfl)); (· exact (by first | ((repeat constructor); done) | exact .same _)))))) rfl ?_
      first | (refine aen rfl (e_stW sz75 rfl (by repeat (first | exact .here | assumption | (apply HAt.left; assumption) | apply HAt.there | apply HAt.right)) (by constructor) (by first | rfl | assumption | (simp [*]; done) | fail) rfl (by repeat (first | exact .here | apply HSet.there))) ?_; rintro _ _ ⟨rfl, rfl⟩) | (refine aen rfl (e_stP sz75 rfl (by repeat (first | exact .here | assumption | (apply HAt.left; assumption) | apply HAt.there | apply HAt.right)) (by first | rfl | assumption | (simp [*]; done) | fail) (by constructor) (by first | rfl | assumption | (simp [*]; done) | fail) rfl (by first | decide | omega) (by first | ((repeat constructor); done) | exact .same _) (by first | exact .one | exact .set) (by repeat (first | exact .here | apply HSet.there))) ?_; rintro _ _ ⟨rfl, rfl⟩)
      first | (refine aen rfl (e_stW sz63 rfl (by repeat (first | exact .here | assumption | (apply HAt.left; assumption) | apply HAt.there | apply HAt.right)) (by constructor) (by first | rfl | assumption | (simp [*]; done) | fail) rfl (by repeat (first | exact .here | apply HSet.there))) ?_; rintro _ _ ⟨rfl, rfl⟩) | (refine aen rfl (e_stP sz63 rfl (by repeat (first | exact .here | assumption | (apply HAt.left; assumption) | apply HAt.there | apply HAt.right)) (by first | rfl | assumption | (simp [*]; done) | fail) (by constructor) (by first | rfl | assumption | (simp [*]; done) | fail) rfl (by first | decide | omega) (by first | ((repeat constructor); done) | exact .same _) (by first | exact .one | exact .set) (by repeat (first | exact .here | apply HSet.there))) ?_; rintro _ _ ⟨rfl, rfl⟩)
      refine aqs rfl (q_as (by constructor)) rfl ?_
      refine alist_nil ?_
      show AWP _ _ _ _
      refine awp_nil (by repeat (first | exact NilT.nil | (apply NilT.cons; (· first | exact .one .nil | exact .agg (by repeat (first | exact NilL.nil | (apply NilL.cons; (· first | exact .nil | exact .same)) | exact NilL.same)) | exact .one .same)) | exact NilT.same)) (by repeat (first | exact NilH.nil | (apply NilH.cons; (· first | exact .arr (by repeat (first | exact NilE.nil | (apply NilE.cons; (· exact (by repeat (first | exact NilL.nil | (apply NilL.cons; (· first | exact .nil | exact .same)) | exact NilL.same)))) | exact NilE.same)) | exact .same)) | exact NilH.same)) ?_
      show AWP _ _ _ _
      refine awp_ret ?_
      repeat first | with_reducible refine then_ret ?_ | with_reducible refine blk_ret ?_
      apply retq (.inr rfl) (.cons (rok_A ag75 sz75 rfl (by repeat (first | exact .here | assumption | (apply HAt.left; assumption) | apply HAt.there | apply HAt.right)) (by rfl)) (.cons (rok_A ag63 sz63 rfl (by repeat (first | exact .here | assumption | (apply HAt.left; assumption) | apply HAt.there | apply HAt.right)) (by rfl)) (.cons (rok_t rfl) .nil)))
      rotate_left
      · exact ⟨rfl, rfl⟩
      repeat (first | exact List.Sublist.refl _ | exact List.nil_sublist _ | exact List.sublist_append_left _ _ | apply List.Sublist.cons)
    · have hb : ¬ qRight ⟨room, closed, t :: ts⟩ = false := by simpa using hc0
      rw [show qTakeS ⟨room, closed, t :: ts⟩ = (t, ⟨room, closed, ts⟩, 0) by rw [qTakeS, if_neg hb]]
      obtain ⟨r1, r2, r3⟩ := qRight_f.1 (by simpa using hb)
      simp only [List.length_cons] at r3
      have hn0 : ((t :: ts).map Task.cells)[0]? = some t.cells := rfl
      refine awp_seq ?_
      refine awp_region ?_
      first | refine aqs rfl (q_fapP fl63_2 (by decide) rfl rfl) rfl ?_ | refine aqs rfl (q_faP fl63_2 (by decide) rfl (by first | ((repeat constructor); done) | exact .same _)) rfl ?_
      first | refine aqs rfl (q_ldpN ag61 rfl (by repeat (first | exact .here | assumption | (apply HAt.left; assumption) | apply HAt.there | apply HAt.right)) (by first | rfl | assumption | (simp [*]; done) | fail) (by first | rfl | assumption | (simp [*]; done) | fail) (by constructor)) rfl ?_ | refine aqs rfl (q_ld1N ag61 rfl (by constructor)) rfl ?_
      first | refine aqs rfl (q_len Try.underlying61 .ro) rfl ?_ | refine aqs rfl (q_lenO Try.underlying61 rfl (by repeat (first | exact .here | assumption | (apply HAt.left; assumption) | apply HAt.there | apply HAt.right)) (by first | omega | (simp; done) | (simp; omega) | fail) (by first | exact Nat.sub_zero _ | rfl)) rfl ?_ | refine aqs rfl (q_len Try.underlying61 .nil) rfl ?_ | refine aqs rfl (q_len Try.underlying61 .cro) rfl ?_
      refine aqs rfl (castF (q_eql rfl rfl) (by exact decide_eq_false (by simp only [List.length_map, List.length_cons]; omega))) rfl ?_
      refine aqs rfl (q_as (by constructor)) rfl ?_
      refine alist_nil ?_
      show AWP _ _ _ _
      refine awp_cond rfl (fun hc1 => ?_) (fun hc1 => ?_)
      · exfalso; first | (simp at hc1; done) | (simp at hc1; omega) | contradiction
      · try simp only [decide_eq_true_eq, decide_eq_false_iff_not, Bool.not_eq_true', Bool.not_eq_false', Bool.not_eq_eq_eq_not, Bool.not_true, Bool.not_false, beq_iff_eq, beq_eq_false_iff_ne, Int.not_lt, Int.not_le] at hc1
        refine awp_skip ?_
        show AWP _ _ _ _
        refine awp_seq ?_
        refine awp_draw 9 [(0, false), (1, false), (2, false), (3, false), (4, false), (5, false), (6, false), (7, false), (8, false)] _ ([]) mixed (by kernel_rfl) (perm0 _) ?_
        first | refine glq rfl (.inl ⟨rfl, q_fapP fl63_2 (by decide) rfl rfl⟩) rfl ?_ | refine glq rfl (.inl ⟨rfl, q_faP fl63_2 (by decide) rfl (by first | ((repeat constructor); done) | exact .same _)⟩) rfl ?_
        first | refine glq rfl (.inl ⟨rfl, q_ldpN ag61 rfl (by repeat (first | exact .here | assumption | (apply HAt.left; assumption) | apply HAt.there | apply HAt.right)) (by first | rfl | assumption | (simp [*]; done) | fail) (by first | rfl | assumption | (simp [*]; done) | fail) (by constructor)⟩) rfl ?_ | refine glq rfl (.inl ⟨rfl, q_ld1N ag61 rfl (by constructor)⟩) rfl ?_
        first | refine glq rfl (.inl ⟨rfl, q_iaN Try.underlying61 sz75 (.inl rfl) rfl (by omega) (by first | rfl | assumption | (simp [*]; done) | fail) (by first | rfl | assumption | (simp [*]; done) | fail) (by decide) (by first | ((repeat constructor); done) | exact .same _)⟩) rfl ?_ | refine glq rfl (.inl ⟨rfl, q_iaS Try.underlying61 sz75 rfl (by repeat (first | exact .here | assumption | (apply HAt.left; assumption) | apply HAt.there | apply HAt.right)) rfl (by omega) (by omega) (by first | exact Nat.zero_add _ | rfl)⟩) rfl ?_ | refine glq rfl (.inl ⟨rfl, q_iaN Try.underlying61 sz75 (.inr rfl) rfl (by omega) (by first | rfl | assumption | (simp [*]; done) | fail) (by first | rfl | assumption | (simp [*]; done) | fail) (by decide) (by first | ((repeat constructor); done) | exact .same _)⟩) rfl ?_
        first | refine glq rfl (.inl ⟨rfl, q_ldpW ag75 sz75 rfl (by repeat (first | exact .here | assumption | (apply HAt.left; assumption) | apply HAt.there | apply HAt.right)) (by first | rfl | assumption | (simp [*]; done) | fail) (by first | rfl | assumption | (simp [*]; done) | fail) (by decide)⟩) rfl ?_ | refine glq rfl (.inl ⟨rfl, q_ldW ag75 sz75 rfl (by first | rfl | assumption | (simp [*]; done) | fail)⟩) rfl ?_ | refine glq rfl (.inl ⟨rfl, q_ldpP ag75 sz75 rfl (by repeat (first | exact .here | assumption | (apply HAt.left; assumption) | apply HAt.there | apply HAt.right)) (by first | rfl | assumption | (simp [*]; done) | fail) (by first | decide | (simp; done) | omega | fail) (by decide) (by first | ((repeat constructor); done) | exact .same _)⟩) rfl ?_ | refine glq rfl (.inl ⟨rfl, q_ldP ag75 sz75 rfl (by first | decide | (simp; done) | omega | fail) (by first | ((repeat constructor); done) | exact .same _)⟩) rfl ?_
        first | refine glq rfl (.inl ⟨rfl, q_ldpW ag63 sz63 rfl (by repeat (first | exact .here | assumption | (apply HAt.left; assumption) | apply HAt.there | apply HAt.right)) (by first | rfl | assumption | (simp [*]; done) | fail) (by first | rfl | assumption | (simp [*]; done) | fail) (by decide)⟩) rfl ?_ | refine glq rfl (.inl ⟨rfl, q_ldW ag63 sz63 rfl (by first | rfl | assumption | (simp [*]; done) | fail)⟩) rfl ?_ | refine glq rfl (.inl ⟨rfl, q_ldpP ag63 sz63 rfl (by repeat (first | exact .here | assumption | (apply HAt.left; assumption) | apply HAt.there | apply HAt.right)) (by first | rfl | assumption | (simp [*]; done) | fail) (by first | decide | (simp; done) | omega | fail) (by decide) (by first | ((repeat constructor); done) | exact .same _)⟩) rfl ?_ | refine glq rfl (.inl ⟨rfl, q_ldP ag63 sz63 rfl (by first | decide | (simp; done) | omega | fail) (by first | ((repeat constructor); done) | exact .same _)⟩) rfl ?_
        first | refine glq rfl (.inl ⟨rfl, q_fapP fl63_2 (by decide) rfl rfl⟩) rfl ?_ | refine glq rfl (.inl ⟨rfl, q_faP fl63_2 (by decide) rfl (by first | ((repeat constructor); done) | exact .same _)⟩) rfl ?_
        first | refine glq rfl (.inl ⟨rfl, q_ldpN ag61 rfl (by repeat (first | exact .here | assumption | (apply HAt.left; assumption) | apply HAt.there | apply HAt.right)) (by first | rfl | assumption | (simp [*]; done) | fail) (by first | rfl | assumption | (simp [*]; done) | fail) (by constructor)⟩) rfl ?_ | refine glq rfl (.inl ⟨rfl, q_ld1N ag61 rfl (by constructor)⟩) rfl ?_
        first | refine glq rfl (.inl ⟨rfl, castQ (r2 := .ro (ts.map Task.cells)) (q_slR Try.underlying61 sz75 (.inl rfl) (by first | (refine ⟨_, _, rfl, ?_⟩; with_reducible rfl) | exact bnd_int rfl (by omega)) rfl (by first | omega | (simp; done) | (simp; omega) | fail) (by first | omega | (simp; done) | (simp; omega) | fail) (by first | rfl | assumption | (simp [*]; done) | fail)) (by simp; exact List.take_of_length_le (by simp))⟩) rfl ?_ | refine glq rfl (.inl ⟨rfl, castQ (r2 := .ro (ts.map Task.cells)) (q_slO Try.underlying61 sz75 rfl (by repeat (first | exact .here | assumption | (apply HAt.left; assumption) | apply HAt.there | apply HAt.right)) (by first | (refine ⟨_, _, rfl, ?_⟩; with_reducible rfl) | exact bnd_int rfl (by omega)) rfl (by first | omega | (simp; done) | (simp; omega) | fail) (by first | omega | (simp; done) | (simp; omega) | fail) (by first | exact Nat.zero_add _ | rfl) (by first | exact Nat.zero_add _ | rfl)) (by simp; exact List.take_of_length_le (by simp))⟩) rfl ?_
        first | refine glq rfl (.inl ⟨rfl, e_callN cb130 (with130_c ⟨room, closed, t :: ts⟩ ts (by simp only at r1 r2 r3; omega) _) rfl rfl⟩) rfl ?_ | refine glq rfl (.inl ⟨rfl, e_callN cb130 (ACall.arg (with130_c ⟨room, closed, t :: ts⟩ ts (by simp only at r1 r2 r3; omega) _) (by repeat (first | exact ArgL.nil | (apply ArgL.cons; (· first | exact .same | exact .cro | exact .nil))))) rfl rfl⟩) rfl ?_
        (first | refine gld0 ?_ | refine gldA ?_)
        first | (refine aen rfl (e_stW sz75 rfl (by repeat (first | exact .here | assumption | (apply HAt.left; assumption) | apply HAt.there | apply HAt.right)) (by constructor) (by first | rfl | assumption | (simp [*]; done) | fail) rfl (by repeat (first | exact .here | apply HSet.there))) ?_; rintro _ _ ⟨rfl, rfl⟩) | (refine aen rfl (e_stP sz75 rfl (by repeat (first | exact .here | assumption | (apply HAt.left; assumption) | apply HAt.there | apply HAt.right)) (by first | rfl | assumption | (simp [*]; done) | fail) (by constructor) (by first | rfl | assumption | (simp [*]; done) | fail) rfl (by first | decide | omega) (by first | ((repeat constructor); done) | exact .same _) (by first | exact .one | exact .set) (by repeat (first | exact .here | apply HSet.there))) ?_; rintro _ _ ⟨rfl, rfl⟩)
        first | (refine aen rfl (e_stW sz63 rfl (by repeat (first | exact .here | assumption | (apply HAt.left; assumption) | apply HAt.there | apply HAt.right)) (by constructor) (by first | rfl | assumption | (simp [*]; done) | fail) rfl (by repeat (first | exact .here | apply HSet.there))) ?_; rintro _ _ ⟨rfl, rfl⟩) | (refine aen rfl (e_stP sz63 rfl (by repeat (first | exact .here | assumption | (apply HAt.left; assumption) | apply HAt.there | apply HAt.right)) (by first | rfl | assumption | (simp [*]; done) | fail) (by constructor) (by first | rfl | assumption | (simp [*]; done) | fail) rfl (by first | decide | omega) (by first | ((repeat constructor); done) | exact .same _) (by first | exact .one | exact .set) (by repeat (first | exact .here | apply HSet.there))) ?_; rintro _ _ ⟨rfl, rfl⟩)
        refine aqs rfl (q_as (by constructor)) rfl ?_
        refine alist_nil ?_
        show AWP _ _ _ _
        refine awp_ret ?_
        repeat first | with_reducible refine then_ret ?_ | with_reducible refine blk_ret ?_
        apply retq (.inr rfl) (.cons (rok_A ag75 sz75 rfl (by repeat (first | exact .here | assumption | (apply HAt.left; assumption) | apply HAt.there | apply HAt.right)) (by rfl)) (.cons (rok_A ag63 sz63 rfl (by repeat (first | exact .here | assumption | (apply HAt.left; assumption) | apply HAt.there | apply HAt.right)) (by rfl)) (.cons (rok_t rfl) .nil)))
        rotate_left
        · exact ⟨rfl, rfl⟩
        repeat (first | exact List.Sublist.refl _ | exact List.nil_sublist _ | exact List.sublist_append_left _ _ | apply List.Sublist.cons)
set_option maxHeartbeats 2000000 in
theorem take69_c (q : Queue) (H : Heap) : QCall Try.prog 69 [.agg q.cells] H (qTakeA (qTakeS q)) := by
  rcases q with ⟨room, closed, tasks⟩
  cases tasks with
  | nil =>
    refine acall_intro (n := 30) (rvs := [.cell 2 75, .cell 3 63, .tmp 4]) Try.func69 rfl rfl rfl (Nat.le_of_ble_eq_true rfl) ?_
    refine awp_seq ?_
    refine awp_region ?_
    (refine aes rfl (e_bx (by constructor) rfl rfl) rfl ?_; rintro _ _ ⟨u1, rfl, rfl⟩)
    (refine aes rfl (e_al (xs := [.lit (.int .i64 0), .lit (.int .i64 0), .lit (.string ⟨#[]⟩), .lit (.string ⟨#[]⟩)]) (k := 4) zr75 (.same _) rfl) rfl ?_; rintro _ _ ⟨u2, rfl, rfl⟩)
    (refine aes rfl (e_al (xs := [.lit (.int .i64 0), .lit (.bool false), .lit (.slice none 0 0)]) (k := 3) zr63 (.same _) rfl) rfl ?_; rintro _ _ ⟨u3, rfl, rfl⟩)
    refine aqs rfl (q_as (by constructor)) rfl ?_
    refine alist_nil ?_
    show AWP _ _ _ _
    refine awp_seq ?_
    refine awp_region ?_
    first | refine aqs rfl (q_ldpW ag63 sz63 rfl (by repeat (first | exact .here | assumption | (apply HAt.left; assumption) | apply HAt.there | apply HAt.right)) (by first | rfl | assumption | (simp [*]; done) | fail) (by first | rfl | assumption | (simp [*]; done) | fail) (by decide)) rfl ?_ | refine aqs rfl (q_ldW ag63 sz63 rfl (by first | rfl | assumption | (simp [*]; done) | fail)) rfl ?_ | refine aqs rfl (q_ldpP ag63 sz63 rfl (by repeat (first | exact .here | assumption | (apply HAt.left; assumption) | apply HAt.there | apply HAt.right)) (by first | rfl | assumption | (simp [*]; done) | fail) (by first | decide | (simp; done) | omega | fail) (by decide) (by first | ((repeat constructor); done) | exact .same _)) rfl ?_ | refine aqs rfl (q_ldP ag63 sz63 rfl (by first | decide | (simp; done) | omega | fail) (by first | ((repeat constructor); done) | exact .same _)) rfl ?_
    first | refine aqs rfl (e_callN cb73 (right73_c ⟨room, closed, []⟩ _) rfl rfl) rfl ?_ | refine aqs rfl (e_callN cb73 (ACall.arg (right73_c ⟨room, closed, []⟩ _) (by repeat (first | exact ArgL.nil | (apply ArgL.cons; (· first | exact .same | exact .cro | exact .nil))))) rfl rfl) rfl ?_
    refine aqs rfl (q_as (by constructor)) rfl ?_
    refine alist_nil ?_
    show AWP _ _ _ _
    refine awp_seq ?_
    refine awp_seq ?_
    refine awp_region ?_
    refine aqs rfl (q_mv (by constructor)) rfl ?_
    refine aqs rfl (q_not rfl) rfl ?_
    refine alist_nil ?_
    show AWP _ _ _ _
    refine awp_cond rfl (fun hc0 => ?_) (fun hc0 => ?_)
    · have hb : qRight ⟨room, closed, []⟩ = false := by simpa using hc0
      rw [show qTakeS ⟨room, closed, []⟩ = (zeroT, zeroQ, 1) by rw [qTakeS, if_pos hb]]
      refine awp_seq ?_
      refine awp_region ?_
      refine aqs rfl (q_bd st75 zr75 (by first | ((repeat constructor); done) | exact .same _) (by repeat (first | exact BD.nil | (apply BD.cons; (· rfl); (· constructor); (· rfl); (· rfl); (· exact Nat.le_of_ble_eq_true (by rfl)); (· exact (by first | ((repeat constructor); done) | exact .same _)))))) rfl ?_
      refine aqs rfl (q_bd st63 zr63 (by first | ((repeat constructor); done) | exact .same _) (by repeat (first | exact BD.nil | (apply BD.cons; (· rfl); (· constructor); (· rfl); (· rfl); (· exact Nat.le_of_ble_eq_true (by rfl)); (· exact (by first | ((repeat constructor); done) | exact .same _)))))) rfl ?_
      first | (refine aen rfl (e_stW sz75 rfl (by repeat (first | exact .here | assumption | (apply HAt.left; assumption) | apply HAt.there | apply HAt.right)) (by constructor) (by first | rfl | assumption | (simp [*]; done) | fail) rfl (by repeat (first | exact .here | apply HSet.there))) ?_; rintro _ _ ⟨rfl, rfl⟩) | (refine aen rfl (e_stP sz75 rfl (by repeat (first | exact .here | assumption | (apply HAt.left; assumption) | apply HAt.there | apply HAt.right)) (by first | rfl | assumption | (simp [*]; done) | fail) (by constructor) (by first | rfl | assumption | (simp [*]; done) | fail) rfl (by first | decide | omega) (by first | ((repeat constructor); done) | exact .same _) (by first | exact .one | exact .set) (by repeat (first | exact .here | apply HSet.there))) ?_; rintro _ _ ⟨rfl, rfl⟩)
      first | (refine aen rfl (e_stW sz63 rfl (by repeat (first | exact .here | assumption | (apply HAt.left; assumption) | apply HAt.there | apply HAt.right)) (by constructor) (by first | rfl | assumption | (simp [*]; done) | fail) rfl (by repeat (first | exact .here | apply HSet.there))) ?_; rintro _ _ ⟨rfl, rfl⟩) | (refine aen rfl (e_stP sz63 rfl (by repeat (first | exact .here | assumption | (apply HAt.left; assumption) | apply HAt.there | apply HAt.right)) (by first | rfl | assumption | (simp [*]; done) | fail) (by constructor) (by first | rfl | assumption | (simp [*]; done) | fail) rfl (by first | decide | omega) (by first | ((repeat constructor); done) | exact .same _) (by first | exact .one | exact .set) (by repeat (first | exact .here | apply HSet.there))) ?_; rintro _ _ ⟨rfl, rfl⟩)
      refine aqs rfl (q_as (by constructor)) rfl ?_
      refine alist_nil ?_
      show AWP _ _ _ _
      refine awp_nil (by repeat (first | exact NilT.nil | (apply NilT.cons; (· first | exact .one .nil | exact .agg (by repeat (first | exact NilL.nil | (apply NilL.cons; (· first | exact .nil | exact .same)) | exact NilL.same)) | exact .one .same)) | exact NilT.same)) (by repeat (first | exact NilH.nil | (apply NilH.cons; (· first | exact .arr (by repeat (first | exact NilE.nil | (apply NilE.cons; (· exact (by repeat (first | exact NilL.nil | (apply NilL.cons; (· first | exact .nil | exact .same)) | exact NilL.same)))) | exact NilE.same)) | exact .same)) | exact NilH.same)) ?_
      show AWP _ _ _ _
      refine awp_ret ?_
      repeat first | with_reducible refine then_ret ?_ | with_reducible refine blk_ret ?_
      apply retq (.inr rfl) (.cons (rok_A ag75 sz75 rfl (by repeat (first | exact .here | assumption | (apply HAt.left; assumption) | apply HAt.there | apply HAt.right)) (by rfl)) (.cons (rok_A ag63 sz63 rfl (by repeat (first | exact .here | assumption | (apply HAt.left; assumption) | apply HAt.there | apply HAt.right)) (by rfl)) (.cons (rok_t rfl) .nil)))
      rotate_left
      · exact ⟨rfl, rfl⟩
      repeat (first | exact List.Sublist.refl _ | exact List.nil_sublist _ | exact List.sublist_append_left _ _ | apply List.Sublist.cons)
    · have hb : ¬ qRight ⟨room, closed, []⟩ = false := by simpa using hc0
      rw [show qTakeS ⟨room, closed, []⟩ = (zeroT, zeroQ, 10) by rw [qTakeS, if_neg hb]]
      refine awp_skip ?_
      show AWP _ _ _ _
      refine awp_seq ?_
      refine awp_seq ?_
      refine awp_region ?_
      first | refine aqs rfl (q_fapP fl63_2 (by decide) rfl rfl) rfl ?_ | refine aqs rfl (q_faP fl63_2 (by decide) rfl (by first | ((repeat constructor); done) | exact .same _)) rfl ?_
      first | refine aqs rfl (q_ldpN ag61 rfl (by repeat (first | exact .here | assumption | (apply HAt.left; assumption) | apply HAt.there | apply HAt.right)) (by first | rfl | assumption | (simp [*]; done) | fail) (by first | rfl | assumption | (simp [*]; done) | fail) (by constructor)) rfl ?_ | refine aqs rfl (q_ld1N ag61 rfl (by constructor)) rfl ?_
      first | refine aqs rfl (q_len Try.underlying61 .ro) rfl ?_ | refine aqs rfl (q_lenO Try.underlying61 rfl (by repeat (first | exact .here | assumption | (apply HAt.left; assumption) | apply HAt.there | apply HAt.right)) (by first | omega | (simp; done) | (simp; omega) | fail) (by first | exact Nat.sub_zero _ | rfl)) rfl ?_ | refine aqs rfl (q_len Try.underlying61 .nil) rfl ?_ | refine aqs rfl (q_len Try.underlying61 .cro) rfl ?_
      refine aqs rfl (q_eql rfl rfl) rfl ?_
      refine alist_nil ?_
      show AWP _ _ _ _
      refine awp_cond rfl (fun hc1 => ?_) (fun hc1 => ?_)
      · try simp only [decide_eq_true_eq, decide_eq_false_iff_not, Bool.not_eq_true', Bool.not_eq_false', Bool.not_eq_eq_eq_not, Bool.not_true, Bool.not_false, beq_iff_eq, beq_eq_false_iff_ne, Int.not_lt, Int.not_le] at hc1
        refine awp_seq ?_
        refine awp_region ?_
        refine aqs rfl (q_bd st75 zr75 (by first | ((repeat constructor); done) | exact .same _) (by repeat (first | exact BD.nil | (apply BD.cons; (· rfl); (· constructor); (· rfl); (· rfl); (· exact Nat.le_of_ble_eq_true (by rfl)); (· exact (by first | ((repeat constructor); done) | exact .same _)))))) rfl ?_
        refine aqs rfl (q_bd st63 zr63 (by first | ((repeat constructor); done) | exact .same _) (by repeat (first | exact BD.nil | (apply BD.cons; (· rfl); (· constructor); (· rfl); (· rfl); (· exact Nat.le_of_ble_eq_true (by rfl)); (· exact (by first | ((repeat constructor); done) | exact .same _)))))) rfl ?_
        first | (refine aen rfl (e_stW sz75 rfl (by repeat (first | exact .here | assumption | (apply HAt.left; assumption) | apply HAt.there | apply HAt.right)) (by constructor) (by first | rfl | assumption | (simp [*]; done) | fail) rfl (by repeat (first | exact .here | apply HSet.there))) ?_; rintro _ _ ⟨rfl, rfl⟩) | (refine aen rfl (e_stP sz75 rfl (by repeat (first | exact .here | assumption | (apply HAt.left; assumption) | apply HAt.there | apply HAt.right)) (by first | rfl | assumption | (simp [*]; done) | fail) (by constructor) (by first | rfl | assumption | (simp [*]; done) | fail) rfl (by first | decide | omega) (by first | ((repeat constructor); done) | exact .same _) (by first | exact .one | exact .set) (by repeat (first | exact .here | apply HSet.there))) ?_; rintro _ _ ⟨rfl, rfl⟩)
        first | (refine aen rfl (e_stW sz63 rfl (by repeat (first | exact .here | assumption | (apply HAt.left; assumption) | apply HAt.there | apply HAt.right)) (by constructor) (by first | rfl | assumption | (simp [*]; done) | fail) rfl (by repeat (first | exact .here | apply HSet.there))) ?_; rintro _ _ ⟨rfl, rfl⟩) | (refine aen rfl (e_stP sz63 rfl (by repeat (first | exact .here | assumption | (apply HAt.left; assumption) | apply HAt.there | apply HAt.right)) (by first | rfl | assumption | (simp [*]; done) | fail) (by constructor) (by first | rfl | assumption | (simp [*]; done) | fail) rfl (by first | decide | omega) (by first | ((repeat constructor); done) | exact .same _) (by first | exact .one | exact .set) (by repeat (first | exact .here | apply HSet.there))) ?_; rintro _ _ ⟨rfl, rfl⟩)
        refine aqs rfl (q_as (by constructor)) rfl ?_
        refine alist_nil ?_
        show AWP _ _ _ _
        refine awp_nil (by repeat (first | exact NilT.nil | (apply NilT.cons; (· first | exact .one .nil | exact .agg (by repeat (first | exact NilL.nil | (apply NilL.cons; (· first | exact .nil | exact .same)) | exact NilL.same)) | exact .one .same)) | exact NilT.same)) (by repeat (first | exact NilH.nil | (apply NilH.cons; (· first | exact .arr (by repeat (first | exact NilE.nil | (apply NilE.cons; (· exact (by repeat (first | exact NilL.nil | (apply NilL.cons; (· first | exact .nil | exact .same)) | exact NilL.same)))) | exact NilE.same)) | exact .same)) | exact NilH.same)) ?_
        show AWP _ _ _ _
        refine awp_ret ?_
        repeat first | with_reducible refine then_ret ?_ | with_reducible refine blk_ret ?_
        apply retq (.inr rfl) (.cons (rok_A ag75 sz75 rfl (by repeat (first | exact .here | assumption | (apply HAt.left; assumption) | apply HAt.there | apply HAt.right)) (by rfl)) (.cons (rok_A ag63 sz63 rfl (by repeat (first | exact .here | assumption | (apply HAt.left; assumption) | apply HAt.there | apply HAt.right)) (by rfl)) (.cons (rok_t rfl) .nil)))
        rotate_left
        · exact ⟨rfl, rfl⟩
        repeat (first | exact List.Sublist.refl _ | exact List.nil_sublist _ | exact List.sublist_append_left _ _ | apply List.Sublist.cons)
      · exfalso; first | (simp at hc1; done) | (simp at hc1; omega) | contradiction
  | cons t ts =>
    have hlen := lenTask (t :: ts)
    refine acall_intro (n := 30) (rvs := [.cell 2 75, .cell 3 63, .tmp 4]) Try.func69 rfl rfl rfl (Nat.le_of_ble_eq_true rfl) ?_
    refine awp_seq ?_
    refine awp_region ?_
    (refine aes rfl (e_bx (by constructor) rfl rfl) rfl ?_; rintro _ _ ⟨u1, rfl, rfl⟩)
    (refine aes rfl (e_al (xs := [.lit (.int .i64 0), .lit (.int .i64 0), .lit (.string ⟨#[]⟩), .lit (.string ⟨#[]⟩)]) (k := 4) zr75 (.same _) rfl) rfl ?_; rintro _ _ ⟨u2, rfl, rfl⟩)
    (refine aes rfl (e_al (xs := [.lit (.int .i64 0), .lit (.bool false), .lit (.slice none 0 0)]) (k := 3) zr63 (.same _) rfl) rfl ?_; rintro _ _ ⟨u3, rfl, rfl⟩)
    refine aqs rfl (q_as (by constructor)) rfl ?_
    refine alist_nil ?_
    show AWP _ _ _ _
    refine awp_seq ?_
    refine awp_region ?_
    first | refine aqs rfl (q_ldpW ag63 sz63 rfl (by repeat (first | exact .here | assumption | (apply HAt.left; assumption) | apply HAt.there | apply HAt.right)) (by first | rfl | assumption | (simp [*]; done) | fail) (by first | rfl | assumption | (simp [*]; done) | fail) (by decide)) rfl ?_ | refine aqs rfl (q_ldW ag63 sz63 rfl (by first | rfl | assumption | (simp [*]; done) | fail)) rfl ?_ | refine aqs rfl (q_ldpP ag63 sz63 rfl (by repeat (first | exact .here | assumption | (apply HAt.left; assumption) | apply HAt.there | apply HAt.right)) (by first | rfl | assumption | (simp [*]; done) | fail) (by first | decide | (simp; done) | omega | fail) (by decide) (by first | ((repeat constructor); done) | exact .same _)) rfl ?_ | refine aqs rfl (q_ldP ag63 sz63 rfl (by first | decide | (simp; done) | omega | fail) (by first | ((repeat constructor); done) | exact .same _)) rfl ?_
    first | refine aqs rfl (e_callN cb73 (right73_c ⟨room, closed, t :: ts⟩ _) rfl rfl) rfl ?_ | refine aqs rfl (e_callN cb73 (ACall.arg (right73_c ⟨room, closed, t :: ts⟩ _) (by repeat (first | exact ArgL.nil | (apply ArgL.cons; (· first | exact .same | exact .cro | exact .nil))))) rfl rfl) rfl ?_
    refine aqs rfl (q_as (by constructor)) rfl ?_
    refine alist_nil ?_
    show AWP _ _ _ _
    refine awp_seq ?_
    refine awp_seq ?_
    refine awp_region ?_
    refine aqs rfl (q_mv (by constructor)) rfl ?_
    refine aqs rfl (q_not rfl) rfl ?_
    refine alist_nil ?_
    show AWP _ _ _ _
    refine awp_cond rfl (fun hc0 => ?_) (fun hc0 => ?_)
    · have hb : qRight ⟨room, closed, t :: ts⟩ = false := by simpa using hc0
      rw [show qTakeS ⟨room, closed, t :: ts⟩ = (zeroT, zeroQ, 1) by rw [qTakeS, if_pos hb]]
      refine awp_seq ?_
      refine awp_region ?_
      refine aqs rfl (q_bd st75 zr75 (by first | ((repeat constructor); done) | exact .same _) (by repeat (first | exact BD.nil | (apply BD.cons; (· rfl); (· constructor); (· rfl); (· rfl); (· exact Nat.le_of_ble_eq_true (by rfl)); (· exact (by first | ((repeat constructor); done) | exact .same _)))))) rfl ?_
      refine aqs rfl (q_bd st63 zr63 (by first | ((repeat constructor); done) | exact .same _) (by repeat (first | exact BD.nil | (apply BD.cons; (· rfl); (· constructor); (· rfl); (· rfl); (· exact Nat.le_of_ble_eq_true (by rfl)); (· exact (by first | ((repeat constructor); done) | exact .same _)))))) rfl ?_
      first | (refine aen rfl (e_stW sz75 rfl (by repeat (first | exact .here | assumption | (apply HAt.left; assumption) | apply HAt.there | apply HAt.right)) (by constructor) (by first | rfl | assumption | (simp [*]; done) | fail) rfl (by repeat (first | exact .here | apply HSet.there))) ?_; rintro _ _ ⟨rfl, rfl⟩) | (refine aen rfl (e_stP sz75 rfl (by repeat (first | exact .here | assumption | (apply HAt.left; assumption) | apply HAt.there | apply HAt.right)) (by first | rfl | assumption | (simp [*]; done) | fail) (by constructor) (by first | rfl | assumption | (simp [*]; done) | fail) rfl (by first | decide | omega) (by first | ((repeat constructor); done) | exact .same _) (by first | exact .one | exact .set) (by repeat (first | exact .here | apply HSet.there))) ?_; rintro _ _ ⟨rfl, rfl⟩)
      first | (refine aen rfl (e_stW sz63 rfl (by repeat (first | exact .here | assumption | (apply HAt.left; assumption) | apply HAt.there | apply HAt.right)) (by constructor) (by first | rfl | assumption | (simp [*]; done) | fail) rfl (by repeat (first | exact .here | apply HSet.there))) ?_; rintro _ _ ⟨rfl, rfl⟩) | (refine aen rfl (e_stP sz63 rfl (by repeat (first | exact .here | assumption | (apply HAt.left; assumption) | apply HAt.there | apply HAt.right)) (by first | rfl | assumption | (simp [*]; done) | fail) (by constructor) (by first | rfl | assumption | (simp [*]; done) | fail) rfl (by first | decide | omega) (by first | ((repeat constructor); done) | exact .same _) (by first | exact .one | exact .set) (by repeat (first | exact .here | apply HSet.there))) ?_; rintro _ _ ⟨rfl, rfl⟩)
      refine aqs rfl (q_as (by constructor)) rfl ?_
      refine alist_nil ?_
      show AWP _ _ _ _
      refine awp_nil (by repeat (first | exact NilT.nil | (apply NilT.cons; (· first | exact .one .nil | exact .agg (by repeat (first | exact NilL.nil | (apply NilL.cons; (· first | exact .nil | exact .same)) | exact NilL.same)) | exact .one .same)) | exact NilT.same)) (by repeat (first | exact NilH.nil | (apply NilH.cons; (· first | exact .arr (by repeat (first | exact NilE.nil | (apply NilE.cons; (· exact (by repeat (first | exact NilL.nil | (apply NilL.cons; (· first | exact .nil | exact .same)) | exact NilL.same)))) | exact NilE.same)) | exact .same)) | exact NilH.same)) ?_
      show AWP _ _ _ _
      refine awp_ret ?_
      repeat first | with_reducible refine then_ret ?_ | with_reducible refine blk_ret ?_
      apply retq (.inr rfl) (.cons (rok_A ag75 sz75 rfl (by repeat (first | exact .here | assumption | (apply HAt.left; assumption) | apply HAt.there | apply HAt.right)) (by rfl)) (.cons (rok_A ag63 sz63 rfl (by repeat (first | exact .here | assumption | (apply HAt.left; assumption) | apply HAt.there | apply HAt.right)) (by rfl)) (.cons (rok_t rfl) .nil)))
      rotate_left
      · exact ⟨rfl, rfl⟩
      repeat (first | exact List.Sublist.refl _ | exact List.nil_sublist _ | exact List.sublist_append_left _ _ | apply List.Sublist.cons)
    · have hb : ¬ qRight ⟨room, closed, t :: ts⟩ = false := by simpa using hc0
      rw [show qTakeS ⟨room, closed, t :: ts⟩ = (t, ⟨room, closed, ts⟩, 0) by rw [qTakeS, if_neg hb]]
      obtain ⟨r1, r2, r3⟩ := qRight_f.1 (by simpa using hb)
      simp only [List.length_cons] at r3
      have hn0 : ((t :: ts).map Task.cells)[0]? = some t.cells := rfl
      refine awp_skip ?_
      show AWP _ _ _ _
      refine awp_seq ?_
      refine awp_seq ?_
      refine awp_region ?_
      first | refine aqs rfl (q_fapP fl63_2 (by decide) rfl rfl) rfl ?_ | refine aqs rfl (q_faP fl63_2 (by decide) rfl (by first | ((repeat constructor); done) | exact .same _)) rfl ?_
      first | refine aqs rfl (q_ldpN ag61 rfl (by repeat (first | exact .here | assumption | (apply HAt.left; assumption) | apply HAt.there | apply HAt.right)) (by first | rfl | assumption | (simp [*]; done) | fail) (by first | rfl | assumption | (simp [*]; done) | fail) (by constructor)) rfl ?_ | refine aqs rfl (q_ld1N ag61 rfl (by constructor)) rfl ?_
      first | refine aqs rfl (q_len Try.underlying61 .ro) rfl ?_ | refine aqs rfl (q_lenO Try.underlying61 rfl (by repeat (first | exact .here | assumption | (apply HAt.left; assumption) | apply HAt.there | apply HAt.right)) (by first | omega | (simp; done) | (simp; omega) | fail) (by first | exact Nat.sub_zero _ | rfl)) rfl ?_ | refine aqs rfl (q_len Try.underlying61 .nil) rfl ?_ | refine aqs rfl (q_len Try.underlying61 .cro) rfl ?_
      refine aqs rfl (castF (q_eql rfl rfl) (by exact decide_eq_false (by simp only [List.length_map, List.length_cons]; omega))) rfl ?_
      refine alist_nil ?_
      show AWP _ _ _ _
      refine awp_cond rfl (fun hc1 => ?_) (fun hc1 => ?_)
      · exfalso; first | (simp at hc1; done) | (simp at hc1; omega) | contradiction
      · try simp only [decide_eq_true_eq, decide_eq_false_iff_not, Bool.not_eq_true', Bool.not_eq_false', Bool.not_eq_eq_eq_not, Bool.not_true, Bool.not_false, beq_iff_eq, beq_eq_false_iff_ne, Int.not_lt, Int.not_le] at hc1
        refine awp_skip ?_
        show AWP _ _ _ _
        refine awp_seq ?_
        refine awp_draw 13 [(0, false), (1, false), (2, false), (3, false), (4, false), (5, false), (6, false), (7, false), (8, false), (9, false), (10, false), (11, false), (12, true)] (_ :: _ :: H) ([_]) mixed (by kernel_rfl) (.cons _ (List.perm_append_singleton _ _).symm) ?_
        first | refine glq rfl (.inl ⟨rfl, q_fapP fl63_2 (by decide) rfl rfl⟩) rfl ?_ | refine glq rfl (.inl ⟨rfl, q_faP fl63_2 (by decide) rfl (by first | ((repeat constructor); done) | exact .same _)⟩) rfl ?_
        first | refine glq rfl (.inl ⟨rfl, q_ldpN ag61 rfl (by repeat (first | exact .here | assumption | (apply HAt.left; assumption) | apply HAt.there | apply HAt.right)) (by first | rfl | assumption | (simp [*]; done) | fail) (by first | rfl | assumption | (simp [*]; done) | fail) (by constructor)⟩) rfl ?_ | refine glq rfl (.inl ⟨rfl, q_ld1N ag61 rfl (by constructor)⟩) rfl ?_
        first | refine glq rfl (.inl ⟨rfl, q_iaN Try.underlying61 sz75 (.inl rfl) rfl (by omega) (by first | rfl | assumption | (simp [*]; done) | fail) (by first | rfl | assumption | (simp [*]; done) | fail) (by decide) (by first | ((repeat constructor); done) | exact .same _)⟩) rfl ?_ | refine glq rfl (.inl ⟨rfl, q_iaS Try.underlying61 sz75 rfl (by repeat (first | exact .here | assumption | (apply HAt.left; assumption) | apply HAt.there | apply HAt.right)) rfl (by omega) (by omega) (by first | exact Nat.zero_add _ | rfl)⟩) rfl ?_ | refine glq rfl (.inl ⟨rfl, q_iaN Try.underlying61 sz75 (.inr rfl) rfl (by omega) (by first | rfl | assumption | (simp [*]; done) | fail) (by first | rfl | assumption | (simp [*]; done) | fail) (by decide) (by first | ((repeat constructor); done) | exact .same _)⟩) rfl ?_
        first | refine glq rfl (.inl ⟨rfl, q_ldpW ag75 sz75 rfl (by repeat (first | exact .here | assumption | (apply HAt.left; assumption) | apply HAt.there | apply HAt.right)) (by first | rfl | assumption | (simp [*]; done) | fail) (by first | rfl | assumption | (simp [*]; done) | fail) (by decide)⟩) rfl ?_ | refine glq rfl (.inl ⟨rfl, q_ldW ag75 sz75 rfl (by first | rfl | assumption | (simp [*]; done) | fail)⟩) rfl ?_ | refine glq rfl (.inl ⟨rfl, q_ldpP ag75 sz75 rfl (by repeat (first | exact .here | assumption | (apply HAt.left; assumption) | apply HAt.there | apply HAt.right)) (by first | rfl | assumption | (simp [*]; done) | fail) (by first | decide | (simp; done) | omega | fail) (by decide) (by first | ((repeat constructor); done) | exact .same _)⟩) rfl ?_ | refine glq rfl (.inl ⟨rfl, q_ldP ag75 sz75 rfl (by first | decide | (simp; done) | omega | fail) (by first | ((repeat constructor); done) | exact .same _)⟩) rfl ?_
        first | refine glq rfl (.inl ⟨rfl, q_fapP fl63_0 (by decide) rfl rfl⟩) rfl ?_ | refine glq rfl (.inl ⟨rfl, q_faP fl63_0 (by decide) rfl (by first | ((repeat constructor); done) | exact .same _)⟩) rfl ?_
        first | refine glq rfl (.inl ⟨rfl, q_ldpN ag3 rfl (by repeat (first | exact .here | assumption | (apply HAt.left; assumption) | apply HAt.there | apply HAt.right)) (by first | rfl | assumption | (simp [*]; done) | fail) (by first | rfl | assumption | (simp [*]; done) | fail) (by constructor)⟩) rfl ?_ | refine glq rfl (.inl ⟨rfl, q_ld1N ag3 rfl (by constructor)⟩) rfl ?_
        first | refine glq rfl (.inl ⟨rfl, q_fapP fl63_1 (by decide) rfl rfl⟩) rfl ?_ | refine glq rfl (.inl ⟨rfl, q_faP fl63_1 (by decide) rfl (by first | ((repeat constructor); done) | exact .same _)⟩) rfl ?_
        first | refine glq rfl (.inl ⟨rfl, q_ldpN ag4 rfl (by repeat (first | exact .here | assumption | (apply HAt.left; assumption) | apply HAt.there | apply HAt.right)) (by first | rfl | assumption | (simp [*]; done) | fail) (by first | rfl | assumption | (simp [*]; done) | fail) (by constructor)⟩) rfl ?_ | refine glq rfl (.inl ⟨rfl, q_ld1N ag4 rfl (by constructor)⟩) rfl ?_
        first | refine glq rfl (.inl ⟨rfl, q_fapP fl63_2 (by decide) rfl rfl⟩) rfl ?_ | refine glq rfl (.inl ⟨rfl, q_faP fl63_2 (by decide) rfl (by first | ((repeat constructor); done) | exact .same _)⟩) rfl ?_
        first | refine glq rfl (.inl ⟨rfl, q_ldpN ag61 rfl (by repeat (first | exact .here | assumption | (apply HAt.left; assumption) | apply HAt.there | apply HAt.right)) (by first | rfl | assumption | (simp [*]; done) | fail) (by first | rfl | assumption | (simp [*]; done) | fail) (by constructor)⟩) rfl ?_ | refine glq rfl (.inl ⟨rfl, q_ld1N ag61 rfl (by constructor)⟩) rfl ?_
        first | refine glq rfl (.inl ⟨rfl, castQ (r2 := .ro (ts.map Task.cells)) (q_slR Try.underlying61 sz75 (.inl rfl) (by first | (refine ⟨_, _, rfl, ?_⟩; with_reducible rfl) | exact bnd_int rfl (by omega)) rfl (by first | omega | (simp; done) | (simp; omega) | fail) (by first | omega | (simp; done) | (simp; omega) | fail) (by first | rfl | assumption | (simp [*]; done) | fail)) (by simp; exact List.take_of_length_le (by simp))⟩) rfl ?_ | refine glq rfl (.inl ⟨rfl, castQ (r2 := .ro (ts.map Task.cells)) (q_slO Try.underlying61 sz75 rfl (by repeat (first | exact .here | assumption | (apply HAt.left; assumption) | apply HAt.there | apply HAt.right)) (by first | (refine ⟨_, _, rfl, ?_⟩; with_reducible rfl) | exact bnd_int rfl (by omega)) rfl (by first | omega | (simp; done) | (simp; omega) | fail) (by first | omega | (simp; done) | (simp; omega) | fail) (by first | exact Nat.zero_add _ | rfl) (by first | exact Nat.zero_add _ | rfl)) (by simp; exact List.take_of_length_le (by simp))⟩) rfl ?_
        refine glq rfl (.inl ⟨rfl, q_bd st63 zr63 (by first | ((repeat constructor); done) | exact .same _) (by repeat (first | exact BD.nil | (apply BD.cons; (· rfl); (· constructor); (· rfl); (· rfl); (· exact Nat.le_of_ble_eq_true (by rfl)); (· exact (by first | ((repeat constructor); done) | exact .same _)))))⟩) rfl ?_
        first | (refine gla rfl rfl (EOp.frame (e_stW sz75 rfl (by repeat (first | exact .here | assumption | (apply HAt.left; assumption) | apply HAt.there | apply HAt.right)) (by constructor) (by first | rfl | assumption | (simp [*]; done) | fail) rfl (by repeat (first | exact .here | apply HSet.there)))) rfl ?_; rintro _ _ ⟨rfl, rfl⟩) | (refine gla rfl rfl (EOp.frame (e_stP sz75 rfl (by repeat (first | exact .here | assumption | (apply HAt.left; assumption) | apply HAt.there | apply HAt.right)) (by first | rfl | assumption | (simp [*]; done) | fail) (by constructor) (by first | rfl | assumption | (simp [*]; done) | fail) rfl (by first | decide | omega) (by first | ((repeat constructor); done) | exact .same _) (by first | exact .one | exact .set) (by repeat (first | exact .here | apply HSet.there)))) rfl ?_; rintro _ _ ⟨rfl, rfl⟩)
        refine gldA ?_
        first | (refine aen rfl (e_stW sz63 rfl (by repeat (first | exact .here | assumption | (apply HAt.left; assumption) | apply HAt.there | apply HAt.right)) (by constructor) (by first | rfl | assumption | (simp [*]; done) | fail) rfl (by repeat (first | exact .here | apply HSet.there))) ?_; rintro _ _ ⟨rfl, rfl⟩) | (refine aen rfl (e_stP sz63 rfl (by repeat (first | exact .here | assumption | (apply HAt.left; assumption) | apply HAt.there | apply HAt.right)) (by first | rfl | assumption | (simp [*]; done) | fail) (by constructor) (by first | rfl | assumption | (simp [*]; done) | fail) rfl (by first | decide | omega) (by first | ((repeat constructor); done) | exact .same _) (by first | exact .one | exact .set) (by repeat (first | exact .here | apply HSet.there))) ?_; rintro _ _ ⟨rfl, rfl⟩)
        refine aqs rfl (q_as (by constructor)) rfl ?_
        refine alist_nil ?_
        show AWP _ _ _ _
        refine awp_ret ?_
        repeat first | with_reducible refine then_ret ?_ | with_reducible refine blk_ret ?_
        apply retq (.inr rfl) (.cons (rok_A ag75 sz75 rfl (by repeat (first | exact .here | assumption | (apply HAt.left; assumption) | apply HAt.there | apply HAt.right)) (by rfl)) (.cons (rok_A ag63 sz63 rfl (by repeat (first | exact .here | assumption | (apply HAt.left; assumption) | apply HAt.there | apply HAt.right)) (by rfl)) (.cons (rok_t rfl) .nil)))
        rotate_left
        · exact ⟨rfl, rfl⟩
        repeat (first | exact List.Sublist.refl _ | exact List.nil_sublist _ | exact List.sublist_append_left _ _ | apply List.Sublist.cons)

/-! ### Close -/
def qCloseS (q : Queue) : Queue × Int := if qRight q = false then (zeroQ, 1) else (⟨q.room, true, q.tasks⟩, 0)
set_option maxHeartbeats 2000000 in
theorem close70_c (q : Queue) (H : Heap) : QCall Try.prog 70 [.agg q.cells] H (newA (qCloseS q)) := by
  have hqc : q.cells.length = 3 := rfl
  refine acall_intro (n := 13) (rvs := [.cell 2 63, .tmp 3]) Try.func70 rfl rfl rfl (Nat.le_of_ble_eq_true rfl) ?_
  refine awp_seq ?_
  refine awp_region ?_
  (refine aes rfl (e_bx (by constructor) rfl rfl) rfl ?_; rintro _ _ ⟨u1, rfl, rfl⟩)
  (refine aes rfl (e_al (xs := [.lit (.int .i64 0), .lit (.bool false), .lit (.slice none 0 0)]) (k := 3) zr63 (.same _) rfl) rfl ?_; rintro _ _ ⟨u2, rfl, rfl⟩)
  refine aqs rfl (q_as (by constructor)) rfl ?_
  refine alist_nil ?_
  show AWP _ _ _ _
  refine awp_seq ?_
  refine awp_seq ?_
  refine awp_region ?_
  first | refine aqs rfl (q_ldpW ag63 sz63 rfl (by repeat (first | exact .here | assumption | (apply HAt.left; assumption) | apply HAt.there | apply HAt.right)) (by first | rfl | assumption | (simp [*]; done) | fail) (by first | rfl | assumption | (simp [*]; done) | fail) (by decide)) rfl ?_ | refine aqs rfl (q_ldW ag63 sz63 rfl (by first | rfl | assumption | (simp [*]; done) | fail)) rfl ?_ | refine aqs rfl (q_ldpP ag63 sz63 rfl (by repeat (first | exact .here | assumption | (apply HAt.left; assumption) | apply HAt.there | apply HAt.right)) (by first | rfl | assumption | (simp [*]; done) | fail) (by first | decide | (simp; done) | omega | fail) (by decide) (by first | ((repeat constructor); done) | exact .same _)) rfl ?_ | refine aqs rfl (q_ldP ag63 sz63 rfl (by first | decide | (simp; done) | omega | fail) (by first | ((repeat constructor); done) | exact .same _)) rfl ?_
  first | refine aqs rfl (e_callN cb72 (right72_c q _) rfl rfl) rfl ?_ | refine aqs rfl (e_callN cb72 (ACall.arg (right72_c q _) (by repeat (first | exact ArgL.nil | (apply ArgL.cons; (· first | exact .same | exact .cro | exact .nil))))) rfl rfl) rfl ?_
  refine aqs rfl (q_not rfl) rfl ?_
  refine alist_nil ?_
  show AWP _ _ _ _
  refine awp_cond rfl (fun hc0 => ?_) (fun hc0 => ?_)
  · have hb : qRight q = false := by simpa using hc0
    rw [show qCloseS q = (zeroQ, 1) by rw [qCloseS, if_pos hb]]
    refine awp_seq ?_
    refine awp_region ?_
    refine aqs rfl (q_bd st63 zr63 (by first | ((repeat constructor); done) | exact .same _) (by repeat (first | exact BD.nil | (apply BD.cons; (· rfl); (· constructor); (· rfl); (· rfl); (· exact Nat.le_of_ble_eq_true (by rfl)); (· exact (by first | ((repeat constructor); done) | exact .same _)))))) rfl ?_
    first | (refine aen rfl (e_stW sz63 rfl (by repeat (first | exact .here | assumption | (apply HAt.left; assumption) | apply HAt.there | apply HAt.right)) (by constructor) (by first | rfl | assumption | (simp [*]; done) | fail) rfl (by repeat (first | exact .here | apply HSet.there))) ?_; rintro _ _ ⟨rfl, rfl⟩) | (refine aen rfl (e_stP sz63 rfl (by repeat (first | exact .here | assumption | (apply HAt.left; assumption) | apply HAt.there | apply HAt.right)) (by first | rfl | assumption | (simp [*]; done) | fail) (by constructor) (by first | rfl | assumption | (simp [*]; done) | fail) rfl (by first | decide | omega) (by first | ((repeat constructor); done) | exact .same _) (by first | exact .one | exact .set) (by repeat (first | exact .here | apply HSet.there))) ?_; rintro _ _ ⟨rfl, rfl⟩)
    refine aqs rfl (q_as (by constructor)) rfl ?_
    refine alist_nil ?_
    show AWP _ _ _ _
    refine awp_nil (by repeat (first | exact NilT.nil | (apply NilT.cons; (· first | exact .one .nil | exact .agg (by repeat (first | exact NilL.nil | (apply NilL.cons; (· first | exact .nil | exact .same)) | exact NilL.same)) | exact .one .same)) | exact NilT.same)) (by repeat (first | exact NilH.nil | (apply NilH.cons; (· first | exact .arr (by repeat (first | exact NilE.nil | (apply NilE.cons; (· exact (by repeat (first | exact NilL.nil | (apply NilL.cons; (· first | exact .nil | exact .same)) | exact NilL.same)))) | exact NilE.same)) | exact .same)) | exact NilH.same)) ?_
    show AWP _ _ _ _
    refine awp_ret ?_
    repeat first | with_reducible refine then_ret ?_ | with_reducible refine blk_ret ?_
    apply retq (.inr rfl) (.cons (rok_A ag63 sz63 rfl (by repeat (first | exact .here | assumption | (apply HAt.left; assumption) | apply HAt.there | apply HAt.right)) (by rfl)) (.cons (rok_t rfl) .nil))
    rotate_left
    · exact ⟨rfl, rfl⟩
    repeat (first | exact List.Sublist.refl _ | exact List.nil_sublist _ | exact List.sublist_append_left _ _ | apply List.Sublist.cons)
  · have hb : ¬ qRight q = false := by simpa using hc0
    rw [show qCloseS q = (⟨q.room, true, q.tasks⟩, 0) by rw [qCloseS, if_neg hb]]
    obtain ⟨r1, r2, r3⟩ := qRight_f.1 (by simpa using hb)
    refine awp_skip ?_
    show AWP _ _ _ _
    refine awp_seq ?_
    refine awp_region ?_
    first | refine aqs rfl (q_fapP fl63_1 (by decide) rfl rfl) rfl ?_ | refine aqs rfl (q_faP fl63_1 (by decide) rfl (by first | ((repeat constructor); done) | exact .same _)) rfl ?_
    first | (refine aen rfl (e_stW sz4 rfl (by repeat (first | exact .here | assumption | (apply HAt.left; assumption) | apply HAt.there | apply HAt.right)) (by constructor) (by first | rfl | assumption | (simp [*]; done) | fail) rfl (by repeat (first | exact .here | apply HSet.there))) ?_; rintro _ _ ⟨rfl, rfl⟩) | (refine aen rfl (e_stP sz4 rfl (by repeat (first | exact .here | assumption | (apply HAt.left; assumption) | apply HAt.there | apply HAt.right)) (by first | rfl | assumption | (simp [*]; done) | fail) (by constructor) (by first | rfl | assumption | (simp [*]; done) | fail) rfl (by first | decide | omega) (by first | ((repeat constructor); done) | exact .same _) (by first | exact .one | exact .set) (by repeat (first | exact .here | apply HSet.there))) ?_; rintro _ _ ⟨rfl, rfl⟩)
    refine alist_nil ?_
    show AWP _ _ _ _
    refine awp_seq ?_
    refine awp_region ?_
    first | refine aqs rfl (q_ldpW ag63 sz63 rfl (by repeat (first | exact .here | assumption | (apply HAt.left; assumption) | apply HAt.there | apply HAt.right)) (by first | rfl | assumption | (simp [*]; done) | fail) (by first | rfl | assumption | (simp [*]; done) | fail) (by decide)) rfl ?_ | refine aqs rfl (q_ldW ag63 sz63 rfl (by first | rfl | assumption | (simp [*]; done) | fail)) rfl ?_ | refine aqs rfl (q_ldpP ag63 sz63 rfl (by repeat (first | exact .here | assumption | (apply HAt.left; assumption) | apply HAt.there | apply HAt.right)) (by first | rfl | assumption | (simp [*]; done) | fail) (by first | decide | (simp; done) | omega | fail) (by decide) (by first | ((repeat constructor); done) | exact .same _)) rfl ?_ | refine aqs rfl (q_ldP ag63 sz63 rfl (by first | decide | (simp; done) | omega | fail) (by first | ((repeat constructor); done) | exact .same _)) rfl ?_
    first | refine aqs rfl (q_fapP fl63_2 (by decide) rfl rfl) rfl ?_ | refine aqs rfl (q_faP fl63_2 (by decide) rfl (by first | ((repeat constructor); done) | exact .same _)) rfl ?_
    first | refine aqs rfl (q_ldpN ag61 rfl (by repeat (first | exact .here | assumption | (apply HAt.left; assumption) | apply HAt.there | apply HAt.right)) (by first | rfl | assumption | (simp [*]; done) | fail) (by first | rfl | assumption | (simp [*]; done) | fail) (by constructor)) rfl ?_ | refine aqs rfl (q_ld1N ag61 rfl (by constructor)) rfl ?_
    first | refine aqs rfl (e_callN cb130 (with130_c ⟨q.room, true, q.tasks⟩ q.tasks (by omega) _) rfl rfl) rfl ?_ | refine aqs rfl (e_callN cb130 (ACall.arg (with130_c ⟨q.room, true, q.tasks⟩ q.tasks (by omega) _) (by repeat (first | exact ArgL.nil | (apply ArgL.cons; (· first | exact .same | exact .cro | exact .nil))))) rfl rfl) rfl ?_
    first | (refine aen rfl (e_stW sz63 rfl (by repeat (first | exact .here | assumption | (apply HAt.left; assumption) | apply HAt.there | apply HAt.right)) (by constructor) (by first | rfl | assumption | (simp [*]; done) | fail) rfl (by repeat (first | exact .here | apply HSet.there))) ?_; rintro _ _ ⟨rfl, rfl⟩) | (refine aen rfl (e_stP sz63 rfl (by repeat (first | exact .here | assumption | (apply HAt.left; assumption) | apply HAt.there | apply HAt.right)) (by first | rfl | assumption | (simp [*]; done) | fail) (by constructor) (by first | rfl | assumption | (simp [*]; done) | fail) rfl (by first | decide | omega) (by first | ((repeat constructor); done) | exact .same _) (by first | exact .one | exact .set) (by repeat (first | exact .here | apply HSet.there))) ?_; rintro _ _ ⟨rfl, rfl⟩)
    refine aqs rfl (q_as (by constructor)) rfl ?_
    refine alist_nil ?_
    show AWP _ _ _ _
    refine awp_ret ?_
    repeat first | with_reducible refine then_ret ?_ | with_reducible refine blk_ret ?_
    apply retq (.inr rfl) (.cons (rok_A ag63 sz63 rfl (by repeat (first | exact .here | assumption | (apply HAt.left; assumption) | apply HAt.there | apply HAt.right)) (by rfl)) (.cons (rok_t rfl) .nil))
    rotate_left
    · exact ⟨rfl, rfl⟩
    repeat (first | exact List.Sublist.refl _ | exact List.nil_sublist _ | exact List.sublist_append_left _ _ | apply List.Sublist.cons)
set_option maxHeartbeats 2000000 in
theorem close71_c (q : Queue) (H : Heap) : QCall Try.prog 71 [.agg q.cells] H (newA (qCloseS q)) := by
  refine acall_intro (n := 15) (rvs := [.cell 2 63, .tmp 3]) Try.func71 rfl rfl rfl (Nat.le_of_ble_eq_true rfl) ?_
  refine awp_seq ?_
  refine awp_region ?_
  (refine aes rfl (e_bx (by constructor) rfl rfl) rfl ?_; rintro _ _ ⟨u1, rfl, rfl⟩)
  (refine aes rfl (e_al (xs := [.lit (.int .i64 0), .lit (.bool false), .lit (.slice none 0 0)]) (k := 3) zr63 (.same _) rfl) rfl ?_; rintro _ _ ⟨u2, rfl, rfl⟩)
  refine aqs rfl (q_as (by constructor)) rfl ?_
  refine alist_nil ?_
  show AWP _ _ _ _
  refine awp_seq ?_
  refine awp_region ?_
  first | refine aqs rfl (q_ldpW ag63 sz63 rfl (by repeat (first | exact .here | assumption | (apply HAt.left; assumption) | apply HAt.there | apply HAt.right)) (by first | rfl | assumption | (simp [*]; done) | fail) (by first | rfl | assumption | (simp [*]; done) | fail) (by decide)) rfl ?_ | refine aqs rfl (q_ldW ag63 sz63 rfl (by first | rfl | assumption | (simp [*]; done) | fail)) rfl ?_ | refine aqs rfl (q_ldpP ag63 sz63 rfl (by repeat (first | exact .here | assumption | (apply HAt.left; assumption) | apply HAt.there | apply HAt.right)) (by first | rfl | assumption | (simp [*]; done) | fail) (by first | decide | (simp; done) | omega | fail) (by decide) (by first | ((repeat constructor); done) | exact .same _)) rfl ?_ | refine aqs rfl (q_ldP ag63 sz63 rfl (by first | decide | (simp; done) | omega | fail) (by first | ((repeat constructor); done) | exact .same _)) rfl ?_
  first | refine aqs rfl (e_callN cb73 (right73_c q _) rfl rfl) rfl ?_ | refine aqs rfl (e_callN cb73 (ACall.arg (right73_c q _) (by repeat (first | exact ArgL.nil | (apply ArgL.cons; (· first | exact .same | exact .cro | exact .nil))))) rfl rfl) rfl ?_
  refine aqs rfl (q_as (by constructor)) rfl ?_
  refine alist_nil ?_
  show AWP _ _ _ _
  refine awp_seq ?_
  refine awp_seq ?_
  refine awp_region ?_
  refine aqs rfl (q_mv (by constructor)) rfl ?_
  refine aqs rfl (q_not rfl) rfl ?_
  refine alist_nil ?_
  show AWP _ _ _ _
  refine awp_cond rfl (fun hc0 => ?_) (fun hc0 => ?_)
  · have hb : qRight q = false := by simpa using hc0
    rw [show qCloseS q = (zeroQ, 1) by rw [qCloseS, if_pos hb]]
    refine awp_seq ?_
    refine awp_region ?_
    refine aqs rfl (q_bd st63 zr63 (by first | ((repeat constructor); done) | exact .same _) (by repeat (first | exact BD.nil | (apply BD.cons; (· rfl); (· constructor); (· rfl); (· rfl); (· exact Nat.le_of_ble_eq_true (by rfl)); (· exact (by first | ((repeat constructor); done) | exact .same _)))))) rfl ?_
    first | (refine aen rfl (e_stW sz63 rfl (by repeat (first | exact .here | assumption | (apply HAt.left; assumption) | apply HAt.there | apply HAt.right)) (by constructor) (by first | rfl | assumption | (simp [*]; done) | fail) rfl (by repeat (first | exact .here | apply HSet.there))) ?_; rintro _ _ ⟨rfl, rfl⟩) | (refine aen rfl (e_stP sz63 rfl (by repeat (first | exact .here | assumption | (apply HAt.left; assumption) | apply HAt.there | apply HAt.right)) (by first | rfl | assumption | (simp [*]; done) | fail) (by constructor) (by first | rfl | assumption | (simp [*]; done) | fail) rfl (by first | decide | omega) (by first | ((repeat constructor); done) | exact .same _) (by first | exact .one | exact .set) (by repeat (first | exact .here | apply HSet.there))) ?_; rintro _ _ ⟨rfl, rfl⟩)
    refine aqs rfl (q_as (by constructor)) rfl ?_
    refine alist_nil ?_
    show AWP _ _ _ _
    refine awp_nil (by repeat (first | exact NilT.nil | (apply NilT.cons; (· first | exact .one .nil | exact .agg (by repeat (first | exact NilL.nil | (apply NilL.cons; (· first | exact .nil | exact .same)) | exact NilL.same)) | exact .one .same)) | exact NilT.same)) (by repeat (first | exact NilH.nil | (apply NilH.cons; (· first | exact .arr (by repeat (first | exact NilE.nil | (apply NilE.cons; (· exact (by repeat (first | exact NilL.nil | (apply NilL.cons; (· first | exact .nil | exact .same)) | exact NilL.same)))) | exact NilE.same)) | exact .same)) | exact NilH.same)) ?_
    show AWP _ _ _ _
    refine awp_ret ?_
    repeat first | with_reducible refine then_ret ?_ | with_reducible refine blk_ret ?_
    apply retq (.inr rfl) (.cons (rok_A ag63 sz63 rfl (by repeat (first | exact .here | assumption | (apply HAt.left; assumption) | apply HAt.there | apply HAt.right)) (by rfl)) (.cons (rok_t rfl) .nil))
    rotate_left
    · exact ⟨rfl, rfl⟩
    repeat (first | exact List.Sublist.refl _ | exact List.nil_sublist _ | exact List.sublist_append_left _ _ | apply List.Sublist.cons)
  · have hb : ¬ qRight q = false := by simpa using hc0
    rw [show qCloseS q = (⟨q.room, true, q.tasks⟩, 0) by rw [qCloseS, if_neg hb]]
    refine awp_skip ?_
    show AWP _ _ _ _
    refine awp_seq ?_
    refine awp_region ?_
    first | refine aqs rfl (q_fapP fl63_0 (by decide) rfl rfl) rfl ?_ | refine aqs rfl (q_faP fl63_0 (by decide) rfl (by first | ((repeat constructor); done) | exact .same _)) rfl ?_
    first | refine aqs rfl (q_ldpN ag3 rfl (by repeat (first | exact .here | assumption | (apply HAt.left; assumption) | apply HAt.there | apply HAt.right)) (by first | rfl | assumption | (simp [*]; done) | fail) (by first | rfl | assumption | (simp [*]; done) | fail) (by constructor)) rfl ?_ | refine aqs rfl (q_ld1N ag3 rfl (by constructor)) rfl ?_
    first | refine aqs rfl (q_fapP fl63_2 (by decide) rfl rfl) rfl ?_ | refine aqs rfl (q_faP fl63_2 (by decide) rfl (by first | ((repeat constructor); done) | exact .same _)) rfl ?_
    first | refine aqs rfl (q_ldpN ag61 rfl (by repeat (first | exact .here | assumption | (apply HAt.left; assumption) | apply HAt.there | apply HAt.right)) (by first | rfl | assumption | (simp [*]; done) | fail) (by first | rfl | assumption | (simp [*]; done) | fail) (by constructor)) rfl ?_ | refine aqs rfl (q_ld1N ag61 rfl (by constructor)) rfl ?_
    refine aqs rfl (q_bd st63 zr63 (by first | ((repeat constructor); done) | exact .same _) (by repeat (first | exact BD.nil | (apply BD.cons; (· rfl); (· constructor); (· rfl); (· rfl); (· exact Nat.le_of_ble_eq_true (by rfl)); (· exact (by first | ((repeat constructor); done) | exact .same _)))))) rfl ?_
    first | (refine aen rfl (e_stW sz63 rfl (by repeat (first | exact .here | assumption | (apply HAt.left; assumption) | apply HAt.there | apply HAt.right)) (by constructor) (by first | rfl | assumption | (simp [*]; done) | fail) rfl (by repeat (first | exact .here | apply HSet.there))) ?_; rintro _ _ ⟨rfl, rfl⟩) | (refine aen rfl (e_stP sz63 rfl (by repeat (first | exact .here | assumption | (apply HAt.left; assumption) | apply HAt.there | apply HAt.right)) (by first | rfl | assumption | (simp [*]; done) | fail) (by constructor) (by first | rfl | assumption | (simp [*]; done) | fail) rfl (by first | decide | omega) (by first | ((repeat constructor); done) | exact .same _) (by first | exact .one | exact .set) (by repeat (first | exact .here | apply HSet.there))) ?_; rintro _ _ ⟨rfl, rfl⟩)
    refine aqs rfl (q_as (by constructor)) rfl ?_
    refine alist_nil ?_
    show AWP _ _ _ _
    refine awp_ret ?_
    repeat first | with_reducible refine then_ret ?_ | with_reducible refine blk_ret ?_
    apply retq (.inr rfl) (.cons (rok_A ag63 sz63 rfl (by repeat (first | exact .here | assumption | (apply HAt.left; assumption) | apply HAt.there | apply HAt.right)) (by rfl)) (.cons (rok_t rfl) .nil))
    rotate_left
    · exact ⟨rfl, rfl⟩
    repeat (first | exact List.Sublist.refl _ | exact List.nil_sublist _ | exact List.sublist_append_left _ _ | apply List.Sublist.cons)

/-! ### Drop -/
def restT (r : Int) (l : List Task) : List Task := keep (fun t => decide (t.req = r)) l
theorem rest_len (r : Int) (l : List Task) : (restT r l).length ≤ l.length := List.length_filter_le _ _
def qDropS (q : Queue) (r : Int) : Int × Queue × Int := if qRight q = false then (0, zeroQ, 1) else ((q.tasks.length : Int) - (restT r q.tasks).length, ⟨q.room, q.closed, restT r q.tasks⟩, 0)
set_option maxHeartbeats 2000000 in
theorem drop74_c (q : Queue) (r : Int) (H : Heap) : QCall Try.prog 74 [.agg q.cells, .lit (.int .i64 r)] H (qPutA (qDropS q r)) := by
  have hlr := rest_len r q.tasks
  have hlr2 : (keep (fun t => decide (t.req = r)) q.tasks).length ≤ q.tasks.length := hlr
  have hlm : (q.tasks.map Task.cells).length = q.tasks.length := by simp
  have hlk : (List.map Task.cells (keep (fun t => decide (t.req = r)) q.tasks)).length = (keep (fun t => decide (t.req = r)) q.tasks).length := by simp
  refine acall_intro (n := 26) (rvs := [.tmp 4, .cell 5 63, .tmp 6]) Try.func74 rfl rfl rfl (Nat.le_of_ble_eq_true rfl) ?_
  refine awp_seq ?_
  refine awp_region ?_
  (refine aes rfl (e_bx (by constructor) rfl rfl) rfl ?_; rintro _ _ ⟨u2, rfl, rfl⟩)
  (refine aes rfl (e_bx (by constructor) rfl rfl) rfl ?_; rintro _ _ ⟨u3, rfl, rfl⟩)
  refine aqs rfl (q_as (by constructor)) rfl ?_
  (refine aes rfl (e_al (xs := [.lit (.int .i64 0), .lit (.bool false), .lit (.slice none 0 0)]) (k := 3) zr63 (.same _) rfl) rfl ?_; rintro _ _ ⟨u5, rfl, rfl⟩)
  refine aqs rfl (q_as (by constructor)) rfl ?_
  refine alist_nil ?_
  show AWP _ _ _ _
  refine awp_seq ?_
  refine awp_seq ?_
  refine awp_region ?_
  first | refine aqs rfl (q_ldpW ag63 sz63 rfl (by repeat (first | exact .here | assumption | (apply HAt.left; assumption) | apply HAt.there | apply HAt.right)) (by first | rfl | assumption | (simp [*]; done) | fail) (by first | rfl | assumption | (simp [*]; done) | fail) (by decide)) rfl ?_ | refine aqs rfl (q_ldW ag63 sz63 rfl (by first | rfl | assumption | (simp [*]; done) | fail)) rfl ?_ | refine aqs rfl (q_ldpP ag63 sz63 rfl (by repeat (first | exact .here | assumption | (apply HAt.left; assumption) | apply HAt.there | apply HAt.right)) (by first | rfl | assumption | (simp [*]; done) | fail) (by first | decide | (simp; done) | omega | fail) (by decide) (by first | ((repeat constructor); done) | exact .same _)) rfl ?_ | refine aqs rfl (q_ldP ag63 sz63 rfl (by first | decide | (simp; done) | omega | fail) (by first | ((repeat constructor); done) | exact .same _)) rfl ?_
  first | refine aqs rfl (e_callN cb72 (right72_c q _) rfl rfl) rfl ?_ | refine aqs rfl (e_callN cb72 (ACall.arg (right72_c q _) (by repeat (first | exact ArgL.nil | (apply ArgL.cons; (· first | exact .same | exact .cro | exact .nil))))) rfl rfl) rfl ?_
  refine aqs rfl (q_not rfl) rfl ?_
  refine alist_nil ?_
  show AWP _ _ _ _
  refine awp_cond rfl (fun hc0 => ?_) (fun hc0 => ?_)
  · have hb : qRight q = false := by simpa using hc0
    rw [show qDropS q r = (0, zeroQ, 1) by rw [qDropS, if_pos hb]]
    refine awp_seq ?_
    refine awp_region ?_
    refine aqs rfl (q_bd st63 zr63 (by first | ((repeat constructor); done) | exact .same _) (by repeat (first | exact BD.nil | (apply BD.cons; (· rfl); (· constructor); (· rfl); (· rfl); (· exact Nat.le_of_ble_eq_true (by rfl)); (· exact (by first | ((repeat constructor); done) | exact .same _)))))) rfl ?_
    refine aqs rfl (q_as (by constructor)) rfl ?_
    first | (refine aen rfl (e_stW sz63 rfl (by repeat (first | exact .here | assumption | (apply HAt.left; assumption) | apply HAt.there | apply HAt.right)) (by constructor) (by first | rfl | assumption | (simp [*]; done) | fail) rfl (by repeat (first | exact .here | apply HSet.there))) ?_; rintro _ _ ⟨rfl, rfl⟩) | (refine aen rfl (e_stP sz63 rfl (by repeat (first | exact .here | assumption | (apply HAt.left; assumption) | apply HAt.there | apply HAt.right)) (by first | rfl | assumption | (simp [*]; done) | fail) (by constructor) (by first | rfl | assumption | (simp [*]; done) | fail) rfl (by first | decide | omega) (by first | ((repeat constructor); done) | exact .same _) (by first | exact .one | exact .set) (by repeat (first | exact .here | apply HSet.there))) ?_; rintro _ _ ⟨rfl, rfl⟩)
    refine aqs rfl (q_as (by constructor)) rfl ?_
    refine alist_nil ?_
    show AWP _ _ _ _
    refine awp_nil (by repeat (first | exact NilT.nil | (apply NilT.cons; (· first | exact .one .nil | exact .agg (by repeat (first | exact NilL.nil | (apply NilL.cons; (· first | exact .nil | exact .same)) | exact NilL.same)) | exact .one .same)) | exact NilT.same)) (by repeat (first | exact NilH.nil | (apply NilH.cons; (· first | exact .arr (by repeat (first | exact NilE.nil | (apply NilE.cons; (· exact (by repeat (first | exact NilL.nil | (apply NilL.cons; (· first | exact .nil | exact .same)) | exact NilL.same)))) | exact NilE.same)) | exact .same)) | exact NilH.same)) ?_
    show AWP _ _ _ _
    refine awp_ret ?_
    repeat first | with_reducible refine then_ret ?_ | with_reducible refine blk_ret ?_
    apply retq (.inr rfl) (.cons (rok_t rfl) (.cons (rok_A ag63 sz63 rfl (by repeat (first | exact .here | assumption | (apply HAt.left; assumption) | apply HAt.there | apply HAt.right)) (by rfl)) (.cons (rok_t rfl) .nil)))
    rotate_left
    · exact ⟨rfl, rfl⟩
    repeat (first | exact List.Sublist.refl _ | exact List.nil_sublist _ | exact List.sublist_append_left _ _ | apply List.Sublist.cons)
  · have hb : ¬ qRight q = false := by simpa using hc0
    rw [show qDropS q r = ((q.tasks.length : Int) - (restT r q.tasks).length, ⟨q.room, q.closed, restT r q.tasks⟩, 0) by rw [qDropS, if_neg hb]]
    obtain ⟨r1, r2, r3⟩ := qRight_f.1 (by simpa using hb)
    refine awp_skip ?_
    show AWP _ _ _ _
    refine awp_seq ?_
    refine awp_region ?_
    first | refine aqs rfl (q_fapP fl63_2 (by decide) rfl rfl) rfl ?_ | refine aqs rfl (q_faP fl63_2 (by decide) rfl (by first | ((repeat constructor); done) | exact .same _)) rfl ?_
    first | refine aqs rfl (q_ldpN ag61 rfl (by repeat (first | exact .here | assumption | (apply HAt.left; assumption) | apply HAt.there | apply HAt.right)) (by first | rfl | assumption | (simp [*]; done) | fail) (by first | rfl | assumption | (simp [*]; done) | fail) (by constructor)) rfl ?_ | refine aqs rfl (q_ld1N ag61 rfl (by constructor)) rfl ?_
    first | (refine aes rfl (e_callN cb132 (clone132_c q.tasks (by omega) _) rfl rfl) rfl ?_; rintro _ _ ⟨u14, rfl, rfl⟩) | (refine aes rfl (e_callN cb132 (ACall.arg (clone132_c q.tasks (by omega) _) (by repeat (first | exact ArgL.nil | (apply ArgL.cons; (· first | exact .same | exact .cro | exact .nil))))) rfl rfl) rfl ?_; rintro _ _ ⟨u14, rfl, rfl⟩)
    refine aqs rfl (q_fn (by first | ((repeat constructor); done) | exact .same _) (by first | ((repeat constructor); done) | exact .same _)) rfl ?_
    first | (refine aes rfl (e_callN cb131 (del131_c q.tasks (by omega) (fun t => decide (t.req = r)) cb133 [.ptr u3 0 0] u14 _ (fun t ht => clo133_c t r u3 _ (by repeat (first | exact .here | assumption | (apply HAt.left; assumption) | apply HAt.there | apply HAt.right)))) rfl rfl) rfl ?_; rintro _ _ ⟨rfl, rfl⟩) | (refine aes rfl (e_callN cb131 (ACall.arg (del131_c q.tasks (by omega) (fun t => decide (t.req = r)) cb133 [.ptr u3 0 0] u14 _ (fun t ht => clo133_c t r u3 _ (by repeat (first | exact .here | assumption | (apply HAt.left; assumption) | apply HAt.there | apply HAt.right)))) (by repeat (first | exact ArgL.nil | (apply ArgL.cons; (· first | exact .same | exact .cro | exact .nil))))) rfl rfl) rfl ?_; rintro _ _ ⟨rfl, rfl⟩)
    refine aqs rfl (q_as (by constructor)) rfl ?_
    refine alist_nil ?_
    show AWP _ _ _ _
    refine awp_pub (u := u14) (by repeat (first | exact .here | assumption | (apply HAt.left; assumption) | apply HAt.there | apply HAt.right)) (by repeat (first | exact PubT.nil | (apply PubT.cons; (· first | exact .one (pub_all (by first | rfl | (simp; done) | (simp; omega) | (simp [*]; done) | fail)) | exact .one .same)) | exact PubT.same)) (by repeat (first | exact PubH.drop .same | (apply PubH.cons; (· exact .same)))) ?_
    show AWP _ _ _ _
    refine awp_seq ?_
    refine awp_draw 10 [(0, false), (1, false), (2, false), (3, false), (4, false), (5, false), (6, false), (7, false), (8, false), (9, false)] _ ([]) mixed (by kernel_rfl) (perm0 _) ?_
    first | refine glq rfl (.inl ⟨rfl, q_fapP fl63_2 (by decide) rfl rfl⟩) rfl ?_ | refine glq rfl (.inl ⟨rfl, q_faP fl63_2 (by decide) rfl (by first | ((repeat constructor); done) | exact .same _)⟩) rfl ?_
    first | refine glq rfl (.inl ⟨rfl, q_ldpN ag61 rfl (by repeat (first | exact .here | assumption | (apply HAt.left; assumption) | apply HAt.there | apply HAt.right)) (by first | rfl | assumption | (simp [*]; done) | fail) (by first | rfl | assumption | (simp [*]; done) | fail) (by constructor)⟩) rfl ?_ | refine glq rfl (.inl ⟨rfl, q_ld1N ag61 rfl (by constructor)⟩) rfl ?_
    first | refine glq rfl (.inl ⟨rfl, q_len Try.underlying61 .ro⟩) rfl ?_ | refine glq rfl (.inl ⟨rfl, q_lenO Try.underlying61 rfl (by repeat (first | exact .here | assumption | (apply HAt.left; assumption) | apply HAt.there | apply HAt.right)) (by first | omega | (simp; done) | (simp; omega) | fail) (by first | exact Nat.sub_zero _ | rfl)⟩) rfl ?_ | refine glq rfl (.inl ⟨rfl, q_len Try.underlying61 .nil⟩) rfl ?_ | refine glq rfl (.inl ⟨rfl, q_len Try.underlying61 .cro⟩) rfl ?_
    refine glq rfl (.inl ⟨rfl, q_mv (by constructor)⟩) rfl ?_
    first | refine glq rfl (.inl ⟨rfl, q_len Try.underlying61 .ro⟩) rfl ?_ | refine glq rfl (.inl ⟨rfl, q_lenO Try.underlying61 rfl (by repeat (first | exact .here | assumption | (apply HAt.left; assumption) | apply HAt.there | apply HAt.right)) (by first | omega | (simp; done) | (simp; omega) | fail) (by first | exact Nat.sub_zero _ | rfl)⟩) rfl ?_ | refine glq rfl (.inl ⟨rfl, q_len Try.underlying61 .nil⟩) rfl ?_ | refine glq rfl (.inl ⟨rfl, q_len Try.underlying61 .cro⟩) rfl ?_
    first | refine glq rfl (.inl ⟨rfl, castQ (r2 := .lit (.int .i64 ((q.tasks.length : Int) - (restT r q.tasks).length))) (q_sub64 rfl rfl (by omega) (by omega)) (by simp [restT])⟩) rfl ?_ | refine glq rfl (.inl ⟨rfl, castQ (r2 := .lit (.int .i64 ((q.tasks.length : Int) - (restT r q.tasks).length))) (q_sub rfl rfl) (by simp [restT])⟩) rfl ?_
    first | refine glq rfl (.inl ⟨rfl, q_ldpW ag63 sz63 rfl (by repeat (first | exact .here | assumption | (apply HAt.left; assumption) | apply HAt.there | apply HAt.right)) (by first | rfl | assumption | (simp [*]; done) | fail) (by first | rfl | assumption | (simp [*]; done) | fail) (by decide)⟩) rfl ?_ | refine glq rfl (.inl ⟨rfl, q_ldW ag63 sz63 rfl (by first | rfl | assumption | (simp [*]; done) | fail)⟩) rfl ?_ | refine glq rfl (.inl ⟨rfl, q_ldpP ag63 sz63 rfl (by repeat (first | exact .here | assumption | (apply HAt.left; assumption) | apply HAt.there | apply HAt.right)) (by first | rfl | assumption | (simp [*]; done) | fail) (by first | decide | (simp; done) | omega | fail) (by decide) (by first | ((repeat constructor); done) | exact .same _)⟩) rfl ?_ | refine glq rfl (.inl ⟨rfl, q_ldP ag63 sz63 rfl (by first | decide | (simp; done) | omega | fail) (by first | ((repeat constructor); done) | exact .same _)⟩) rfl ?_
    refine glq rfl (.inl ⟨rfl, q_mv (by constructor)⟩) rfl ?_
    first | refine glq rfl (.inl ⟨rfl, e_callN cb130 (with130_c q (restT r q.tasks) (by omega) _) rfl rfl⟩) rfl ?_ | refine glq rfl (.inl ⟨rfl, e_callN cb130 (ACall.arg (with130_c q (restT r q.tasks) (by omega) _) (by repeat (first | exact ArgL.nil | (apply ArgL.cons; (· first | exact .same | exact .cro | exact .nil))))) rfl rfl⟩) rfl ?_
    refine glq rfl (.inl ⟨rfl, q_as (by constructor)⟩) rfl ?_
    (first | refine gld0 ?_ | refine gldA ?_)
    first | (refine aen rfl (e_stW sz63 rfl (by repeat (first | exact .here | assumption | (apply HAt.left; assumption) | apply HAt.there | apply HAt.right)) (by constructor) (by first | rfl | assumption | (simp [*]; done) | fail) rfl (by repeat (first | exact .here | apply HSet.there))) ?_; rintro _ _ ⟨rfl, rfl⟩) | (refine aen rfl (e_stP sz63 rfl (by repeat (first | exact .here | assumption | (apply HAt.left; assumption) | apply HAt.there | apply HAt.right)) (by first | rfl | assumption | (simp [*]; done) | fail) (by constructor) (by first | rfl | assumption | (simp [*]; done) | fail) rfl (by first | decide | omega) (by first | ((repeat constructor); done) | exact .same _) (by first | exact .one | exact .set) (by repeat (first | exact .here | apply HSet.there))) ?_; rintro _ _ ⟨rfl, rfl⟩)
    refine aqs rfl (q_as (by constructor)) rfl ?_
    refine alist_nil ?_
    show AWP _ _ _ _
    refine awp_ret ?_
    repeat first | with_reducible refine then_ret ?_ | with_reducible refine blk_ret ?_
    apply retq (.inr rfl) (.cons (rok_t rfl) (.cons (rok_A ag63 sz63 rfl (by repeat (first | exact .here | assumption | (apply HAt.left; assumption) | apply HAt.there | apply HAt.right)) (by rfl)) (.cons (rok_t rfl) .nil)))
    rotate_left
    · exact ⟨rfl, rfl⟩
    repeat (first | exact List.Sublist.refl _ | exact List.nil_sublist _ | exact List.sublist_append_left _ _ | apply List.Sublist.cons)
theorem rest_next {l : List Task} {i : Nat} {s : Task} (r : Int) (h : l[i]? = some s) : restT r (l.take (i + 1)) = if s.req = r then restT r (l.take i) else restT r (l.take i) ++ [s] := by
  rw [restT, keep_next h]
  by_cases hk : s.req = r <;> simp [hk, restT]
set_option maxHeartbeats 2000000 in
theorem drop75_c (q : Queue) (r : Int) (H : Heap) : QCall Try.prog 75 [.agg q.cells, .lit (.int .i64 r)] H (qPutA (qDropS q r)) := by
  have hlr := rest_len r q.tasks
  refine acall_intro (n := 53) (rvs := [.tmp 4, .cell 5 63, .tmp 6]) Try.func75 rfl rfl rfl (Nat.le_of_ble_eq_true rfl) ?_
  refine awp_seq ?_
  refine awp_region ?_
  (refine aes rfl (e_bx (by constructor) rfl rfl) rfl ?_; rintro _ _ ⟨u2, rfl, rfl⟩)
  refine aqs rfl (q_as (by constructor)) rfl ?_
  (refine aes rfl (e_al (xs := [.lit (.int .i64 0), .lit (.bool false), .lit (.slice none 0 0)]) (k := 3) zr63 (.same _) rfl) rfl ?_; rintro _ _ ⟨u5, rfl, rfl⟩)
  refine aqs rfl (q_as (by constructor)) rfl ?_
  refine alist_nil ?_
  show AWP _ _ _ _
  refine awp_seq ?_
  refine awp_region ?_
  first | refine aqs rfl (q_ldpW ag63 sz63 rfl (by repeat (first | exact .here | assumption | (apply HAt.left; assumption) | apply HAt.there | apply HAt.right)) (by first | rfl | assumption | (simp [*]; done) | fail) (by first | rfl | assumption | (simp [*]; done) | fail) (by decide)) rfl ?_ | refine aqs rfl (q_ldW ag63 sz63 rfl (by first | rfl | assumption | (simp [*]; done) | fail)) rfl ?_ | refine aqs rfl (q_ldpP ag63 sz63 rfl (by repeat (first | exact .here | assumption | (apply HAt.left; assumption) | apply HAt.there | apply HAt.right)) (by first | rfl | assumption | (simp [*]; done) | fail) (by first | decide | (simp; done) | omega | fail) (by decide) (by first | ((repeat constructor); done) | exact .same _)) rfl ?_ | refine aqs rfl (q_ldP ag63 sz63 rfl (by first | decide | (simp; done) | omega | fail) (by first | ((repeat constructor); done) | exact .same _)) rfl ?_
  first | refine aqs rfl (e_callN cb73 (right73_c q _) rfl rfl) rfl ?_ | refine aqs rfl (e_callN cb73 (ACall.arg (right73_c q _) (by repeat (first | exact ArgL.nil | (apply ArgL.cons; (· first | exact .same | exact .cro | exact .nil))))) rfl rfl) rfl ?_
  refine aqs rfl (q_as (by constructor)) rfl ?_
  refine alist_nil ?_
  show AWP _ _ _ _
  refine awp_seq ?_
  refine awp_seq ?_
  refine awp_region ?_
  refine aqs rfl (q_mv (by constructor)) rfl ?_
  refine aqs rfl (q_not rfl) rfl ?_
  refine alist_nil ?_
  show AWP _ _ _ _
  refine awp_cond rfl (fun hc0 => ?_) (fun hc0 => ?_)
  · have hb : qRight q = false := by simpa using hc0
    rw [show qDropS q r = (0, zeroQ, 1) by rw [qDropS, if_pos hb]]
    refine awp_seq ?_
    refine awp_region ?_
    refine aqs rfl (q_bd st63 zr63 (by first | ((repeat constructor); done) | exact .same _) (by repeat (first | exact BD.nil | (apply BD.cons; (· rfl); (· constructor); (· rfl); (· rfl); (· exact Nat.le_of_ble_eq_true (by rfl)); (· exact (by first | ((repeat constructor); done) | exact .same _)))))) rfl ?_
    refine aqs rfl (q_as (by constructor)) rfl ?_
    first | (refine aen rfl (e_stW sz63 rfl (by repeat (first | exact .here | assumption | (apply HAt.left; assumption) | apply HAt.there | apply HAt.right)) (by constructor) (by first | rfl | assumption | (simp [*]; done) | fail) rfl (by repeat (first | exact .here | apply HSet.there))) ?_; rintro _ _ ⟨rfl, rfl⟩) | (refine aen rfl (e_stP sz63 rfl (by repeat (first | exact .here | assumption | (apply HAt.left; assumption) | apply HAt.there | apply HAt.right)) (by first | rfl | assumption | (simp [*]; done) | fail) (by constructor) (by first | rfl | assumption | (simp [*]; done) | fail) rfl (by first | decide | omega) (by first | ((repeat constructor); done) | exact .same _) (by first | exact .one | exact .set) (by repeat (first | exact .here | apply HSet.there))) ?_; rintro _ _ ⟨rfl, rfl⟩)
    refine aqs rfl (q_as (by constructor)) rfl ?_
    refine alist_nil ?_
    show AWP _ _ _ _
    refine awp_nil (by repeat (first | exact NilT.nil | (apply NilT.cons; (· first | exact .one .nil | exact .agg (by repeat (first | exact NilL.nil | (apply NilL.cons; (· first | exact .nil | exact .same)) | exact NilL.same)) | exact .one .same)) | exact NilT.same)) (by repeat (first | exact NilH.nil | (apply NilH.cons; (· first | exact .arr (by repeat (first | exact NilE.nil | (apply NilE.cons; (· exact (by repeat (first | exact NilL.nil | (apply NilL.cons; (· first | exact .nil | exact .same)) | exact NilL.same)))) | exact NilE.same)) | exact .same)) | exact NilH.same)) ?_
    show AWP _ _ _ _
    refine awp_ret ?_
    repeat first | with_reducible refine then_ret ?_ | with_reducible refine blk_ret ?_
    apply retq (.inr rfl) (.cons (rok_t rfl) (.cons (rok_A ag63 sz63 rfl (by repeat (first | exact .here | assumption | (apply HAt.left; assumption) | apply HAt.there | apply HAt.right)) (by rfl)) (.cons (rok_t rfl) .nil)))
    rotate_left
    · exact ⟨rfl, rfl⟩
    repeat (first | exact List.Sublist.refl _ | exact List.nil_sublist _ | exact List.sublist_append_left _ _ | apply List.Sublist.cons)
  · have hb : ¬ qRight q = false := by simpa using hc0
    rw [show qDropS q r = ((q.tasks.length : Int) - (restT r q.tasks).length, ⟨q.room, q.closed, restT r q.tasks⟩, 0) by rw [qDropS, if_neg hb]]
    obtain ⟨r1, r2, r3⟩ := qRight_f.1 (by simpa using hb)
    refine awp_skip ?_
    show AWP _ _ _ _
    refine awp_seq ?_
    refine awp_region ?_
    first | refine aqs rfl (q_fapP fl63_0 (by decide) rfl rfl) rfl ?_ | refine aqs rfl (q_faP fl63_0 (by decide) rfl (by first | ((repeat constructor); done) | exact .same _)) rfl ?_
    first | refine aqs rfl (q_ldpN ag3 rfl (by repeat (first | exact .here | assumption | (apply HAt.left; assumption) | apply HAt.there | apply HAt.right)) (by first | rfl | assumption | (simp [*]; done) | fail) (by first | rfl | assumption | (simp [*]; done) | fail) (by constructor)) rfl ?_ | refine aqs rfl (q_ld1N ag3 rfl (by constructor)) rfl ?_
    first | refine aqs rfl (q_fapP fl63_1 (by decide) rfl rfl) rfl ?_ | refine aqs rfl (q_faP fl63_1 (by decide) rfl (by first | ((repeat constructor); done) | exact .same _)) rfl ?_
    first | refine aqs rfl (q_ldpN ag4 rfl (by repeat (first | exact .here | assumption | (apply HAt.left; assumption) | apply HAt.there | apply HAt.right)) (by first | rfl | assumption | (simp [*]; done) | fail) (by first | rfl | assumption | (simp [*]; done) | fail) (by constructor)) rfl ?_ | refine aqs rfl (q_ld1N ag4 rfl (by constructor)) rfl ?_
    refine aqs rfl (q_bd st63 zr63 (by first | ((repeat constructor); done) | exact .same _) (by repeat (first | exact BD.nil | (apply BD.cons; (· rfl); (· constructor); (· rfl); (· rfl); (· exact Nat.le_of_ble_eq_true (by rfl)); (· exact (by first | ((repeat constructor); done) | exact .same _)))))) rfl ?_
    (refine aes rfl (e_al (xs := [.lit (.int .i64 0), .lit (.bool false), .lit (.slice none 0 0)]) (k := 3) zr63 (.same _) rfl) rfl ?_; rintro _ _ ⟨u8, rfl, rfl⟩)
    first | (refine aen rfl (e_stW sz63 rfl (by repeat (first | exact .here | assumption | (apply HAt.left; assumption) | apply HAt.there | apply HAt.right)) (by constructor) (by first | rfl | assumption | (simp [*]; done) | fail) rfl (by repeat (first | exact .here | apply HSet.there))) ?_; rintro _ _ ⟨rfl, rfl⟩) | (refine aen rfl (e_stP sz63 rfl (by repeat (first | exact .here | assumption | (apply HAt.left; assumption) | apply HAt.there | apply HAt.right)) (by first | rfl | assumption | (simp [*]; done) | fail) (by constructor) (by first | rfl | assumption | (simp [*]; done) | fail) rfl (by first | decide | omega) (by first | ((repeat constructor); done) | exact .same _) (by first | exact .one | exact .set) (by repeat (first | exact .here | apply HSet.there))) ?_; rintro _ _ ⟨rfl, rfl⟩)
    refine alist_nil ?_
    show AWP _ _ _ _
    refine awp_seq ?_
    refine awp_seq ?_
    refine awp_region ?_
    refine aqs rfl (q_as (by constructor)) rfl ?_
    refine alist_nil ?_
    show AWP _ _ _ _
    refine awp_adopt_ob (u := u8) (j := 2) 75 4 (by repeat (first | exact .here | assumption | (apply HAt.left; assumption) | apply HAt.there | apply HAt.right)) rfl (fun u' => (by repeat (first | exact .here | apply HSet.there))) fun u0 => ?_
    show AWP _ _ _ _
    refine awp_block ?_
    refine awp_loop_inv (fun x : Nat × Nat => ⟨[(9, .lit (.int .i64 x.1)), (1, .lit (.int .i64 r)), (2, .ptr u2 0 0), (5, .ptr u5 0 0), (8, .ptr u8 0 0)], 53, (x.2, .arr 75 4 ((restT r (q.tasks.take x.1)).map Task.cells)) :: (u8, .arr 63 3 [[.lit (.int .i64 q.room), .lit (.bool q.closed), .sl x.2 0 (restT r (q.tasks.take x.1)).length]]) :: (u5, .arr 63 3 [[.lit (.int .i64 0), .lit (.bool false), .lit (.slice none 0 0)]]) :: (u2, .arr 63 3 [q.cells]) :: H⟩) (fun x => x.1 ≤ q.tasks.length) (fun x => q.tasks.length - x.1) (0, u0) ?_ ?_ ?_
    · exact Nat.zero_le _
    · exact .mk' (by repeat (first | exact trivial | refine ⟨rfl, ?_⟩)) (by repeat (first | exact .refl _ | apply List.Sublist.cons_cons | apply List.Sublist.cons))
    · rintro ⟨i, u⟩ hi
      simp only at hi ⊢
      have hlen := lenTask (restT r (q.tasks.take i))
      have hone := oneTask (restT r (q.tasks.take i))
      have hwl := rest_len r (q.tasks.take i)
      have htl : (q.tasks.take i).length = i := by rw [List.length_take]; omega
      refine awp_seq ?_
      refine awp_seq ?_
      refine awp_region ?_
      refine aqs rfl (q_mv (by constructor)) rfl ?_
      first | refine aqs rfl (q_fapP fl63_2 (by decide) rfl rfl) rfl ?_ | refine aqs rfl (q_faP fl63_2 (by decide) rfl (by first | ((repeat constructor); done) | exact .same _)) rfl ?_
      first | refine aqs rfl (q_ldpN ag61 rfl (by repeat (first | exact .here | assumption | (apply HAt.left; assumption) | apply HAt.there | apply HAt.right)) (by first | rfl | assumption | (simp [*]; done) | fail) (by first | rfl | assumption | (simp [*]; done) | fail) (by constructor)) rfl ?_ | refine aqs rfl (q_ld1N ag61 rfl (by constructor)) rfl ?_
      first | refine aqs rfl (q_len Try.underlying61 .ro) rfl ?_ | refine aqs rfl (q_lenO Try.underlying61 rfl (by repeat (first | exact .here | assumption | (apply HAt.left; assumption) | apply HAt.there | apply HAt.right)) (by first | omega | (simp; done) | (simp; omega) | fail) (by first | exact Nat.sub_zero _ | rfl)) rfl ?_ | refine aqs rfl (q_len Try.underlying61 .nil) rfl ?_ | refine aqs rfl (q_len Try.underlying61 .cro) rfl ?_
      refine aqs rfl (q_lss rfl rfl) rfl ?_
      refine alist_nil ?_
      show AWP _ _ _ _
      refine awp_cond rfl (fun hc1 => ?_) (fun hc1 => ?_)
      · simp only [decide_eq_true_eq, List.length_map] at hc1
        obtain ⟨s, hs, hsm⟩ := get_lt (l := q.tasks) (i := i) (by omega)
        have hs2 := get_map (f := Task.cells) hs
        have hnx := rest_next r hs
        refine awp_skip ?_
        show AWP _ _ _ _
        refine awp_seq ?_
        refine awp_block ?_
        refine awp_seq ?_
        refine awp_region ?_
        first | refine aqs rfl (q_fapP fl63_2 (by decide) rfl rfl) rfl ?_ | refine aqs rfl (q_faP fl63_2 (by decide) rfl (by first | ((repeat constructor); done) | exact .same _)) rfl ?_
        first | refine aqs rfl (q_ldpN ag61 rfl (by repeat (first | exact .here | assumption | (apply HAt.left; assumption) | apply HAt.there | apply HAt.right)) (by first | rfl | assumption | (simp [*]; done) | fail) (by first | rfl | assumption | (simp [*]; done) | fail) (by constructor)) rfl ?_ | refine aqs rfl (q_ld1N ag61 rfl (by constructor)) rfl ?_
        refine aqs rfl (q_mv (by constructor)) rfl ?_
        first | refine aqs rfl (q_iaN Try.underlying61 sz75 (.inl rfl) rfl (by omega) (by first | rfl | assumption | (simp [*]; done) | fail) (by first | rfl | assumption | (simp [*]; done) | fail) (by decide) (by first | ((repeat constructor); done) | exact .same _)) rfl ?_ | refine aqs rfl (q_iaS Try.underlying61 sz75 rfl (by repeat (first | exact .here | assumption | (apply HAt.left; assumption) | apply HAt.there | apply HAt.right)) rfl (by omega) (by omega) (by first | exact Nat.zero_add _ | rfl)) rfl ?_ | refine aqs rfl (q_iaN Try.underlying61 sz75 (.inr rfl) rfl (by omega) (by first | rfl | assumption | (simp [*]; done) | fail) (by first | rfl | assumption | (simp [*]; done) | fail) (by decide) (by first | ((repeat constructor); done) | exact .same _)) rfl ?_
        first | refine aqs rfl (q_fapP fl75_0 (by decide) rfl rfl) rfl ?_ | refine aqs rfl (q_faP fl75_0 (by decide) rfl (by first | ((repeat constructor); done) | exact .same _)) rfl ?_
        first | refine aqs rfl (q_ldpN ag3 rfl (by repeat (first | exact .here | assumption | (apply HAt.left; assumption) | apply HAt.there | apply HAt.right)) (by first | rfl | assumption | (simp [*]; done) | fail) (by first | rfl | assumption | (simp [*]; done) | fail) (by constructor)) rfl ?_ | refine aqs rfl (q_ld1N ag3 rfl (by constructor)) rfl ?_
        refine aqs rfl (q_mv (by constructor)) rfl ?_
        refine aqs rfl (q_neq rfl rfl) rfl ?_
        refine alist_nil ?_
        show AWP _ _ _ _
        refine awp_cond rfl (fun hc2 => ?_) (fun hc2 => ?_)
        · have hk : ¬ s.req = r := by simpa using hc2
          rw [if_neg hk] at hnx
          have hes : ((restT r (q.tasks.take i)).map Task.cells).take (restT r (q.tasks.take i)).length ++ [s.cells] = (restT r (q.tasks.take (i + 1))).map Task.cells := by
            rw [List.take_of_length_le (by simp), hnx]; simp
          have hml : (restT r (q.tasks.take i)).length - 0 + 1 = (restT r (q.tasks.take (i + 1))).length := by rw [hnx]; simp
          refine awp_draw 8 [(0, false), (1, false), (2, false), (3, false), (4, false), (5, false), (6, false), (7, false)] _ ([]) mixed (by kernel_rfl) (perm0 _) ?_
          first | refine glq rfl (.inl ⟨rfl, q_fapP fl63_2 (by decide) rfl rfl⟩) rfl ?_ | refine glq rfl (.inl ⟨rfl, q_faP fl63_2 (by decide) rfl (by first | ((repeat constructor); done) | exact .same _)⟩) rfl ?_
          first | refine glq rfl (.inl ⟨rfl, q_ldpN ag61 rfl (by repeat (first | exact .here | assumption | (apply HAt.left; assumption) | apply HAt.there | apply HAt.right)) (by first | rfl | assumption | (simp [*]; done) | fail) (by first | rfl | assumption | (simp [*]; done) | fail) (by constructor)⟩) rfl ?_ | refine glq rfl (.inl ⟨rfl, q_ld1N ag61 rfl (by constructor)⟩) rfl ?_
          first | refine glq rfl (.inl ⟨rfl, q_fapP fl63_2 (by decide) rfl rfl⟩) rfl ?_ | refine glq rfl (.inl ⟨rfl, q_faP fl63_2 (by decide) rfl (by first | ((repeat constructor); done) | exact .same _)⟩) rfl ?_
          first | refine glq rfl (.inl ⟨rfl, q_ldpN ag61 rfl (by repeat (first | exact .here | assumption | (apply HAt.left; assumption) | apply HAt.there | apply HAt.right)) (by first | rfl | assumption | (simp [*]; done) | fail) (by first | rfl | assumption | (simp [*]; done) | fail) (by constructor)⟩) rfl ?_ | refine glq rfl (.inl ⟨rfl, q_ld1N ag61 rfl (by constructor)⟩) rfl ?_
          refine glq rfl (.inl ⟨rfl, q_mv (by constructor)⟩) rfl ?_
          first | refine glq rfl (.inl ⟨rfl, q_iaN Try.underlying61 sz75 (.inl rfl) rfl (by omega) (by first | rfl | assumption | (simp [*]; done) | fail) (by first | rfl | assumption | (simp [*]; done) | fail) (by decide) (by first | ((repeat constructor); done) | exact .same _)⟩) rfl ?_ | refine glq rfl (.inl ⟨rfl, q_iaS Try.underlying61 sz75 rfl (by repeat (first | exact .here | assumption | (apply HAt.left; assumption) | apply HAt.there | apply HAt.right)) rfl (by omega) (by omega) (by first | exact Nat.zero_add _ | rfl)⟩) rfl ?_ | refine glq rfl (.inl ⟨rfl, q_iaN Try.underlying61 sz75 (.inr rfl) rfl (by omega) (by first | rfl | assumption | (simp [*]; done) | fail) (by first | rfl | assumption | (simp [*]; done) | fail) (by decide) (by first | ((repeat constructor); done) | exact .same _)⟩) rfl ?_
          first | refine glq rfl (.inl ⟨rfl, q_ldpW ag75 sz75 rfl (by repeat (first | exact .here | assumption | (apply HAt.left; assumption) | apply HAt.there | apply HAt.right)) (by first | rfl | assumption | (simp [*]; done) | fail) (by first | rfl | assumption | (simp [*]; done) | fail) (by decide)⟩) rfl ?_ | refine glq rfl (.inl ⟨rfl, q_ldW ag75 sz75 rfl (by first | rfl | assumption | (simp [*]; done) | fail)⟩) rfl ?_ | refine glq rfl (.inl ⟨rfl, q_ldpP ag75 sz75 rfl (by repeat (first | exact .here | assumption | (apply HAt.left; assumption) | apply HAt.there | apply HAt.right)) (by first | rfl | assumption | (simp [*]; done) | fail) (by first | decide | (simp; done) | omega | fail) (by decide) (by first | ((repeat constructor); done) | exact .same _)⟩) rfl ?_ | refine glq rfl (.inl ⟨rfl, q_ldP ag75 sz75 rfl (by first | decide | (simp; done) | omega | fail) (by first | ((repeat constructor); done) | exact .same _)⟩) rfl ?_
          refine glq rfl (.inl ⟨rfl, q_bs Try.underlying61 sz75 zr75 rfl (by first | ((repeat constructor); done) | exact .same _) rfl (by decide) (by repeat (first | exact BS.nil | (apply BS.cons; (· constructor); (· rfl); (· rfl); (· rfl); (· exact (by first | ((repeat constructor); done) | exact .same _)))))⟩) rfl ?_
          (first | refine gld0 ?_ | refine gldA ?_)
          first | refine aqs rfl (q_apC Try.underlying61 sz75 by75 zr75 (.inl rfl) (by first | exact .ro | exact .cro | exact .nil | exact SV.slA (by repeat (first | exact .here | assumption | (apply HAt.left; assumption) | apply HAt.there | apply HAt.right)) (by first | rfl | (simp; done) | (simp; omega) | (simp [*]; done) | fail)) (by first | assumption | (intro c hc; simp at hc; subst hc; rfl) | (simp; done) | fail) (by first | assumption | (intro c hc; simp at hc; subst hc; rfl) | (simp; done) | fail) (by first | omega | decide | (simp; omega) | assumption | fail) (by decide) (by decide) rfl (by first | rfl | (simp; done) | fail)) rfl ?_ | refine aqs rfl (q_apC Try.underlying61 sz75 by75 zr75 (.inr ⟨rfl, rfl⟩) (by first | exact .ro | exact .cro | exact .nil | exact SV.slA (by repeat (first | exact .here | assumption | (apply HAt.left; assumption) | apply HAt.there | apply HAt.right)) (by first | rfl | (simp; done) | (simp; omega) | (simp [*]; done) | fail)) (by first | assumption | (intro c hc; simp at hc; subst hc; rfl) | (simp; done) | fail) (by first | assumption | (intro c hc; simp at hc; subst hc; rfl) | (simp; done) | fail) (by first | omega | decide | (simp; omega) | assumption | fail) (by decide) (by decide) rfl (by first | rfl | (simp; done) | fail)) rfl ?_ | (refine aes rfl (e_apO Try.underlying61 sz75 by75 zr75 rfl (by repeat (first | exact .here | assumption | (apply HAt.left; assumption) | apply HAt.there | apply HAt.right)) (by rw [List.length_map]; exact Nat.le_refl _) (by first | exact .ro | exact .cro | exact .nil | exact SV.slA (by repeat (first | exact .here | assumption | (apply HAt.left; assumption) | apply HAt.there | apply HAt.right)) (by first | rfl | (simp; done) | (simp; omega) | (simp [*]; done) | fail)) (by first | assumption | (intro c hc; simp at hc; subst hc; rfl) | (simp; done) | fail) (by first | assumption | (intro c hc; simp at hc; subst hc; rfl) | (simp; done) | fail) (by first | assumption | (intro c hc; simp at hc; subst hc; rfl) | (simp; done) | fail) (by first | (simp; done) | (simp; omega) | omega | fail) (by decide) (by decide) rfl (by exact hml) hes (fun v => (by repeat (first | exact .here | apply HSet.there)))) rfl ?_; rintro _ _ ⟨u43, rfl, rfl⟩) | (refine aes rfl (e_apN Try.underlying61 sz75 by75 zr75 rfl (by first | exact .ro | exact .cro | exact .nil | exact SV.slA (by repeat (first | exact .here | assumption | (apply HAt.left; assumption) | apply HAt.there | apply HAt.right)) (by first | rfl | (simp; done) | (simp; omega) | (simp [*]; done) | fail)) (by first | assumption | (intro c hc; simp at hc; subst hc; rfl) | (simp; done) | fail) (by first | assumption | (intro c hc; simp at hc; subst hc; rfl) | (simp; done) | fail) (by first | (simp; done) | (simp; omega) | omega | fail) (by decide) (by decide) rfl rfl) rfl ?_; rintro _ _ ⟨u43, rfl, rfl⟩)
          first | refine aqs rfl (q_fapP fl63_2 (by decide) rfl rfl) rfl ?_ | refine aqs rfl (q_faP fl63_2 (by decide) rfl (by first | ((repeat constructor); done) | exact .same _)) rfl ?_
          first | (refine aen rfl (e_stW sz61 rfl (by repeat (first | exact .here | assumption | (apply HAt.left; assumption) | apply HAt.there | apply HAt.right)) (by constructor) (by first | rfl | assumption | (simp [*]; done) | fail) rfl (by repeat (first | exact .here | apply HSet.there))) ?_; rintro _ _ ⟨rfl, rfl⟩) | (refine aen rfl (e_stP sz61 rfl (by repeat (first | exact .here | assumption | (apply HAt.left; assumption) | apply HAt.there | apply HAt.right)) (by first | rfl | assumption | (simp [*]; done) | fail) (by constructor) (by first | rfl | assumption | (simp [*]; done) | fail) rfl (by first | decide | omega) (by first | ((repeat constructor); done) | exact .same _) (by first | exact .one | exact .set) (by repeat (first | exact .here | apply HSet.there))) ?_; rintro _ _ ⟨rfl, rfl⟩)
          refine alist_nil ?_
          show AWP _ _ _ _
          refine awp_region ?_
          refine aqs rfl (q_mv (by constructor)) rfl ?_
          first | refine aqs rfl (q_add64 rfl rfl (by omega) (by omega)) rfl ?_ | refine aqs rfl (q_add rfl rfl) rfl ?_
          refine aqs rfl (q_as (by constructor)) rfl ?_
          refine alist_nil ?_
          show ∃ y, _ ∧ _ ∧ _
          first
            | exact ⟨(i + 1, _), by show i + 1 ≤ q.tasks.length; omega, by show q.tasks.length - (i + 1) < q.tasks.length - i; omega, .mk' ⟨by rfl, rfl, rfl, rfl, rfl, trivial⟩ (by repeat (first | exact List.Sublist.refl _ | exact List.nil_sublist _ | exact List.sublist_append_left _ _ | (apply List.Sublist.cons_cons) | (apply List.Sublist.cons)))⟩
            | exact ⟨(i + 1, u), by show i + 1 ≤ q.tasks.length; omega, by show q.tasks.length - (i + 1) < q.tasks.length - i; omega, by simp only [hnx]; exact .mk' ⟨by rfl, rfl, rfl, rfl, rfl, trivial⟩ (by repeat (first | exact List.Sublist.refl _ | exact List.nil_sublist _ | exact List.sublist_append_left _ _ | (apply List.Sublist.cons_cons) | (apply List.Sublist.cons)))⟩
        · have hk : s.req = r := by simpa using hc2
          rw [if_pos hk] at hnx
          refine awp_skip ?_
          show AWP _ _ _ _
          refine awp_region ?_
          refine aqs rfl (q_mv (by constructor)) rfl ?_
          first | refine aqs rfl (q_add64 rfl rfl (by omega) (by omega)) rfl ?_ | refine aqs rfl (q_add rfl rfl) rfl ?_
          refine aqs rfl (q_as (by constructor)) rfl ?_
          refine alist_nil ?_
          show ∃ y, _ ∧ _ ∧ _
          first
            | exact ⟨(i + 1, _), by show i + 1 ≤ q.tasks.length; omega, by show q.tasks.length - (i + 1) < q.tasks.length - i; omega, .mk' ⟨by rfl, rfl, rfl, rfl, rfl, trivial⟩ (by repeat (first | exact List.Sublist.refl _ | exact List.nil_sublist _ | exact List.sublist_append_left _ _ | (apply List.Sublist.cons_cons) | (apply List.Sublist.cons)))⟩
            | exact ⟨(i + 1, u), by show i + 1 ≤ q.tasks.length; omega, by show q.tasks.length - (i + 1) < q.tasks.length - i; omega, by simp only [hnx]; exact .mk' ⟨by rfl, rfl, rfl, rfl, rfl, trivial⟩ (by repeat (first | exact List.Sublist.refl _ | exact List.nil_sublist _ | exact List.sublist_append_left _ _ | (apply List.Sublist.cons_cons) | (apply List.Sublist.cons)))⟩
      · simp only [decide_eq_false_iff_not, List.length_map] at hc1
        have hil : i = q.tasks.length := by omega
        subst hil
        rw [List.take_length] at *
        have hlm : (q.tasks.map Task.cells).length = q.tasks.length := by simp
        refine awp_exit ?_
        show AWP _ _ _ _
        refine awp_seq ?_
        refine awp_draw 9 [(0, false), (1, false), (2, false), (3, false), (4, false), (5, false), (6, false), (7, false), (8, false)] _ ([]) mixed (by kernel_rfl) (perm0 _) ?_
        first | refine glq rfl (.inl ⟨rfl, q_fapP fl63_2 (by decide) rfl rfl⟩) rfl ?_ | refine glq rfl (.inl ⟨rfl, q_faP fl63_2 (by decide) rfl (by first | ((repeat constructor); done) | exact .same _)⟩) rfl ?_
        first | refine glq rfl (.inl ⟨rfl, q_ldpN ag61 rfl (by repeat (first | exact .here | assumption | (apply HAt.left; assumption) | apply HAt.there | apply HAt.right)) (by first | rfl | assumption | (simp [*]; done) | fail) (by first | rfl | assumption | (simp [*]; done) | fail) (by constructor)⟩) rfl ?_ | refine glq rfl (.inl ⟨rfl, q_ld1N ag61 rfl (by constructor)⟩) rfl ?_
        first | refine glq rfl (.inl ⟨rfl, q_len Try.underlying61 .ro⟩) rfl ?_ | refine glq rfl (.inl ⟨rfl, q_lenO Try.underlying61 rfl (by repeat (first | exact .here | assumption | (apply HAt.left; assumption) | apply HAt.there | apply HAt.right)) (by first | omega | (simp; done) | (simp; omega) | fail) (by first | exact Nat.sub_zero _ | rfl)⟩) rfl ?_ | refine glq rfl (.inl ⟨rfl, q_len Try.underlying61 .nil⟩) rfl ?_ | refine glq rfl (.inl ⟨rfl, q_len Try.underlying61 .cro⟩) rfl ?_
        first | refine glq rfl (.inl ⟨rfl, q_fapP fl63_2 (by decide) rfl rfl⟩) rfl ?_ | refine glq rfl (.inl ⟨rfl, q_faP fl63_2 (by decide) rfl (by first | ((repeat constructor); done) | exact .same _)⟩) rfl ?_
        first | refine glq rfl (.inl ⟨rfl, q_ldpN ag61 rfl (by repeat (first | exact .here | assumption | (apply HAt.left; assumption) | apply HAt.there | apply HAt.right)) (by first | rfl | assumption | (simp [*]; done) | fail) (by first | rfl | assumption | (simp [*]; done) | fail) (by constructor)⟩) rfl ?_ | refine glq rfl (.inl ⟨rfl, q_ld1N ag61 rfl (by constructor)⟩) rfl ?_
        first | refine glq rfl (.inl ⟨rfl, q_len Try.underlying61 .ro⟩) rfl ?_ | refine glq rfl (.inl ⟨rfl, q_lenO Try.underlying61 rfl (by repeat (first | exact .here | assumption | (apply HAt.left; assumption) | apply HAt.there | apply HAt.right)) (by first | omega | (simp; done) | (simp; omega) | fail) (by first | exact Nat.sub_zero _ | rfl)⟩) rfl ?_ | refine glq rfl (.inl ⟨rfl, q_len Try.underlying61 .nil⟩) rfl ?_ | refine glq rfl (.inl ⟨rfl, q_len Try.underlying61 .cro⟩) rfl ?_
        first | refine glq rfl (.inl ⟨rfl, castQ (r2 := .lit (.int .i64 ((q.tasks.length : Int) - (restT r q.tasks).length))) (q_sub64 rfl rfl (by omega) (by omega)) (by simp)⟩) rfl ?_ | refine glq rfl (.inl ⟨rfl, castQ (r2 := .lit (.int .i64 ((q.tasks.length : Int) - (restT r q.tasks).length))) (q_sub rfl rfl) (by simp)⟩) rfl ?_
        first | refine glq rfl (.inl ⟨rfl, q_ldpW ag63 sz63 rfl (by repeat (first | exact .here | assumption | (apply HAt.left; assumption) | apply HAt.there | apply HAt.right)) (by first | rfl | assumption | (simp [*]; done) | fail) (by first | rfl | assumption | (simp [*]; done) | fail) (by decide)⟩) rfl ?_ | refine glq rfl (.inl ⟨rfl, q_ldW ag63 sz63 rfl (by first | rfl | assumption | (simp [*]; done) | fail)⟩) rfl ?_ | refine glq rfl (.inl ⟨rfl, q_ldpP ag63 sz63 rfl (by repeat (first | exact .here | assumption | (apply HAt.left; assumption) | apply HAt.there | apply HAt.right)) (by first | rfl | assumption | (simp [*]; done) | fail) (by first | decide | (simp; done) | omega | fail) (by decide) (by first | ((repeat constructor); done) | exact .same _)⟩) rfl ?_ | refine glq rfl (.inl ⟨rfl, q_ldP ag63 sz63 rfl (by first | decide | (simp; done) | omega | fail) (by first | ((repeat constructor); done) | exact .same _)⟩) rfl ?_
        refine glq rfl (.inl ⟨rfl, q_as (by constructor)⟩) rfl ?_
        (first | refine gld0 ?_ | refine gldA ?_)
        first | (refine aen rfl (e_stW sz63 rfl (by repeat (first | exact .here | assumption | (apply HAt.left; assumption) | apply HAt.there | apply HAt.right)) (by constructor) (by first | rfl | assumption | (simp [*]; done) | fail) rfl (by repeat (first | exact .here | apply HSet.there))) ?_; rintro _ _ ⟨rfl, rfl⟩) | (refine aen rfl (e_stP sz63 rfl (by repeat (first | exact .here | assumption | (apply HAt.left; assumption) | apply HAt.there | apply HAt.right)) (by first | rfl | assumption | (simp [*]; done) | fail) (by constructor) (by first | rfl | assumption | (simp [*]; done) | fail) rfl (by first | decide | omega) (by first | ((repeat constructor); done) | exact .same _) (by first | exact .one | exact .set) (by repeat (first | exact .here | apply HSet.there))) ?_; rintro _ _ ⟨rfl, rfl⟩)
        refine aqs rfl (q_as (by constructor)) rfl ?_
        refine alist_nil ?_
        show AWP _ _ _ _
        refine awp_pub (u := u) (by repeat (first | exact .here | assumption | (apply HAt.left; assumption) | apply HAt.there | apply HAt.right)) (by repeat (first | exact PubT.nil | (apply PubT.cons; (· first | exact .one (pub_all (by first | rfl | (simp; done) | (simp; omega) | (simp [*]; done) | fail)) | exact .agg (by repeat (first | exact PubL.nil | (apply PubL.cons; (· first | exact pub_all (by first | rfl | (simp; done) | (simp; omega) | (simp [*]; done) | fail) | exact .same)) | exact PubL.same)) | exact .one .same)) | exact PubT.same)) (by repeat (first | exact PubH.drop (by repeat (first | (apply PubR.cons; (· first | exact .arr (by repeat (first | exact PubE.nil | (apply PubE.cons; (· exact (by repeat (first | exact PubL.nil | (apply PubL.cons; (· first | exact pub_all (by first | rfl | (simp; done) | (simp; omega) | (simp [*]; done) | fail) | exact .same)) | exact PubL.same)))) | exact PubE.same)) | exact .same)) | exact PubR.same)) | (apply PubH.cons; (· first | exact .arr (by repeat (first | exact PubE.nil | (apply PubE.cons; (· exact (by repeat (first | exact PubL.nil | (apply PubL.cons; (· first | exact pub_all (by first | rfl | (simp; done) | (simp; omega) | (simp [*]; done) | fail) | exact .same)) | exact PubL.same)))) | exact PubE.same)) | exact .same)))) ?_
        show AWP _ _ _ _
        refine awp_ret ?_
        repeat first | with_reducible refine then_ret ?_ | with_reducible refine blk_ret ?_
        apply retq (.inr rfl) (.cons (rok_t rfl) (.cons (rok_A ag63 sz63 rfl (by repeat (first | exact .here | assumption | (apply HAt.left; assumption) | apply HAt.there | apply HAt.right)) (by rfl)) (.cons (rok_t rfl) .nil)))
        rotate_left
        · exact ⟨rfl, rfl⟩
        repeat (first | exact List.Sublist.refl _ | exact List.nil_sublist _ | exact List.sublist_append_left _ _ | apply List.Sublist.cons)

/-! ### The same -/
set_option maxHeartbeats 1000000 in
theorem tasks77_c (a b : List Task) (ha : a.length ≤ 1000000) (hb : b.length ≤ 1000000) (H : Heap) : QCall Try.prog 77 [.ro (a.map Task.cells), .ro (b.map Task.cells)] H (.lit (.bool (decide (a = b)))) := by
  refine acall_intro (n := 26) (rvs := [.tmp 4]) Try.func77 rfl rfl rfl (Nat.le_of_ble_eq_true rfl) ?_
  refine awp_seq ?_
  refine awp_region ?_
  refine aqs rfl (q_as (by constructor)) rfl ?_
  refine alist_nil ?_
  show AWP _ _ _ _
  refine awp_seq ?_
  refine awp_seq ?_
  refine awp_region ?_
  refine aqs rfl (q_mv (by constructor)) rfl ?_
  first | refine aqs rfl (q_len Try.underlying61 .ro) rfl ?_ | refine aqs rfl (q_lenO Try.underlying61 rfl (by repeat (first | exact .here | assumption | (apply HAt.left; assumption) | apply HAt.there | apply HAt.right)) (by first | omega | (simp; done) | (simp; omega) | fail) (by first | exact Nat.sub_zero _ | rfl)) rfl ?_ | refine aqs rfl (q_len Try.underlying61 .nil) rfl ?_ | refine aqs rfl (q_len Try.underlying61 .cro) rfl ?_
  refine aqs rfl (q_mv (by constructor)) rfl ?_
  first | refine aqs rfl (q_len Try.underlying61 .ro) rfl ?_ | refine aqs rfl (q_lenO Try.underlying61 rfl (by repeat (first | exact .here | assumption | (apply HAt.left; assumption) | apply HAt.there | apply HAt.right)) (by first | omega | (simp; done) | (simp; omega) | fail) (by first | exact Nat.sub_zero _ | rfl)) rfl ?_ | refine aqs rfl (q_len Try.underlying61 .nil) rfl ?_ | refine aqs rfl (q_len Try.underlying61 .cro) rfl ?_
  refine aqs rfl (q_neq rfl rfl) rfl ?_
  refine alist_nil ?_
  show AWP _ _ _ _
  refine awp_cond rfl (fun hc0 => ?_) (fun hc0 => ?_)
  · simp only [List.length_map, decide_eq_true_eq, decide_not, Bool.not_eq_true', decide_eq_false_iff_not] at hc0
    have e : decide (a = b) = false := decide_eq_false fun e => hc0 (by rw [e])
    rw [e]
    refine awp_seq ?_
    refine awp_region ?_
    refine aqs rfl (q_as (by constructor)) rfl ?_
    refine alist_nil ?_
    show AWP _ _ _ _
    refine awp_ret ?_
    repeat first | with_reducible refine then_ret ?_ | with_reducible refine blk_ret ?_
    apply retq (.inr rfl) (.cons (rok_t rfl) .nil)
    rotate_left
    · exact ⟨rfl, rfl⟩
    repeat (first | exact List.Sublist.refl _ | exact List.nil_sublist _ | exact List.sublist_append_left _ _ | apply List.Sublist.cons)
  · have hl : a.length = b.length := by
      have : (a.length : Int) = b.length := by simpa using hc0
      omega
    refine awp_skip ?_
    show AWP _ _ _ _
    refine awp_seq ?_
    refine awp_seq ?_
    refine awp_region ?_
    refine aqs rfl (q_as (by constructor)) rfl ?_
    refine alist_nil ?_
    show AWP _ _ _ _
    refine awp_block ?_
    refine awp_loop_inv (fun i : Nat => ⟨[(5, .lit (.int .i64 i)), (0, .ro (a.map Task.cells)), (1, .ro (b.map Task.cells))], 26, H⟩) (fun i => i ≤ a.length ∧ ∀ (j : Nat), j < i → a[j]? = b[j]?) (fun i => a.length - i) 0 ?_ ?_ ?_
    · exact ⟨Nat.zero_le _, fun j h => absurd h (Nat.not_lt_zero _)⟩
    · exact .mk' (by repeat (first | exact trivial | refine ⟨rfl, ?_⟩)) (by repeat (first | exact .refl _ | apply List.Sublist.cons_cons | apply List.Sublist.cons))
    · intro i hi
      obtain ⟨hi, hall⟩ := hi
      refine awp_seq ?_
      refine awp_seq ?_
      refine awp_region ?_
      refine aqs rfl (q_mv (by constructor)) rfl ?_
      refine aqs rfl (q_mv (by constructor)) rfl ?_
      first | refine aqs rfl (q_len Try.underlying61 .ro) rfl ?_ | refine aqs rfl (q_lenO Try.underlying61 rfl (by repeat (first | exact .here | assumption | (apply HAt.left; assumption) | apply HAt.there | apply HAt.right)) (by first | omega | (simp; done) | (simp; omega) | fail) (by first | exact Nat.sub_zero _ | rfl)) rfl ?_ | refine aqs rfl (q_len Try.underlying61 .nil) rfl ?_ | refine aqs rfl (q_len Try.underlying61 .cro) rfl ?_
      refine aqs rfl (q_lss rfl rfl) rfl ?_
      refine alist_nil ?_
      show AWP _ _ _ _
      refine awp_cond rfl (fun hc1 => ?_) (fun hc1 => ?_)
      · simp only [decide_eq_true_eq, List.length_map] at hc1
        obtain ⟨s, hs, hsm⟩ := get_lt (l := a) (i := i) (by omega)
        have hs2 := get_map (f := Task.cells) hs
        obtain ⟨t, ht, htm⟩ := get_lt (l := b) (i := i) (by omega)
        have ht2 := get_map (f := Task.cells) ht
        refine awp_skip ?_
        show AWP _ _ _ _
        refine awp_seq ?_
        refine awp_block ?_
        refine awp_seq ?_
        refine awp_draw 9 [(0, false), (1, false), (2, false), (3, false), (4, false), (5, false), (6, false), (7, false), (8, false)] _ ([]) mixed (by kernel_rfl) (perm0 _) ?_
        refine glq rfl (.inl ⟨rfl, q_mv (by constructor)⟩) rfl ?_
        refine glq rfl (.inl ⟨rfl, q_mv (by constructor)⟩) rfl ?_
        first | refine glq rfl (.inl ⟨rfl, q_iaN Try.underlying61 sz75 (.inl rfl) rfl (by omega) (by first | rfl | assumption | (simp [*]; done) | fail) (by first | rfl | assumption | (simp [*]; done) | fail) (by decide) (by first | ((repeat constructor); done) | exact .same _)⟩) rfl ?_ | refine glq rfl (.inl ⟨rfl, q_iaS Try.underlying61 sz75 rfl (by repeat (first | exact .here | assumption | (apply HAt.left; assumption) | apply HAt.there | apply HAt.right)) rfl (by omega) (by omega) (by first | exact Nat.zero_add _ | rfl)⟩) rfl ?_ | refine glq rfl (.inl ⟨rfl, q_iaN Try.underlying61 sz75 (.inr rfl) rfl (by omega) (by first | rfl | assumption | (simp [*]; done) | fail) (by first | rfl | assumption | (simp [*]; done) | fail) (by decide) (by first | ((repeat constructor); done) | exact .same _)⟩) rfl ?_
        first | refine glq rfl (.inl ⟨rfl, q_ldpW ag75 sz75 rfl (by repeat (first | exact .here | assumption | (apply HAt.left; assumption) | apply HAt.there | apply HAt.right)) (by first | rfl | assumption | (simp [*]; done) | fail) (by first | rfl | assumption | (simp [*]; done) | fail) (by decide)⟩) rfl ?_ | refine glq rfl (.inl ⟨rfl, q_ldW ag75 sz75 rfl (by first | rfl | assumption | (simp [*]; done) | fail)⟩) rfl ?_ | refine glq rfl (.inl ⟨rfl, q_ldpP ag75 sz75 rfl (by repeat (first | exact .here | assumption | (apply HAt.left; assumption) | apply HAt.there | apply HAt.right)) (by first | rfl | assumption | (simp [*]; done) | fail) (by first | decide | (simp; done) | omega | fail) (by decide) (by first | ((repeat constructor); done) | exact .same _)⟩) rfl ?_ | refine glq rfl (.inl ⟨rfl, q_ldP ag75 sz75 rfl (by first | decide | (simp; done) | omega | fail) (by first | ((repeat constructor); done) | exact .same _)⟩) rfl ?_
        refine glq rfl (.inl ⟨rfl, q_mv (by constructor)⟩) rfl ?_
        refine glq rfl (.inl ⟨rfl, q_mv (by constructor)⟩) rfl ?_
        first | refine glq rfl (.inl ⟨rfl, q_iaN Try.underlying61 sz75 (.inl rfl) rfl (by omega) (by first | rfl | assumption | (simp [*]; done) | fail) (by first | rfl | assumption | (simp [*]; done) | fail) (by decide) (by first | ((repeat constructor); done) | exact .same _)⟩) rfl ?_ | refine glq rfl (.inl ⟨rfl, q_iaS Try.underlying61 sz75 rfl (by repeat (first | exact .here | assumption | (apply HAt.left; assumption) | apply HAt.there | apply HAt.right)) rfl (by omega) (by omega) (by first | exact Nat.zero_add _ | rfl)⟩) rfl ?_ | refine glq rfl (.inl ⟨rfl, q_iaN Try.underlying61 sz75 (.inr rfl) rfl (by omega) (by first | rfl | assumption | (simp [*]; done) | fail) (by first | rfl | assumption | (simp [*]; done) | fail) (by decide) (by first | ((repeat constructor); done) | exact .same _)⟩) rfl ?_
        first | refine glq rfl (.inl ⟨rfl, q_ldpW ag75 sz75 rfl (by repeat (first | exact .here | assumption | (apply HAt.left; assumption) | apply HAt.there | apply HAt.right)) (by first | rfl | assumption | (simp [*]; done) | fail) (by first | rfl | assumption | (simp [*]; done) | fail) (by decide)⟩) rfl ?_ | refine glq rfl (.inl ⟨rfl, q_ldW ag75 sz75 rfl (by first | rfl | assumption | (simp [*]; done) | fail)⟩) rfl ?_ | refine glq rfl (.inl ⟨rfl, q_ldpP ag75 sz75 rfl (by repeat (first | exact .here | assumption | (apply HAt.left; assumption) | apply HAt.there | apply HAt.right)) (by first | rfl | assumption | (simp [*]; done) | fail) (by first | decide | (simp; done) | omega | fail) (by decide) (by first | ((repeat constructor); done) | exact .same _)⟩) rfl ?_ | refine glq rfl (.inl ⟨rfl, q_ldP ag75 sz75 rfl (by first | decide | (simp; done) | omega | fail) (by first | ((repeat constructor); done) | exact .same _)⟩) rfl ?_
        refine glq rfl (.inl ⟨rfl, q_neqA gd75 rfl rfl (by repeat constructor) (by repeat constructor) (fun w => eq75 w)⟩) rfl ?_
        (first | refine gld0 ?_ | refine gldA ?_)
        refine alist_nil ?_
        show AWP _ _ _ _
        refine awp_cond rfl (fun hc2 => ?_) (fun hc2 => ?_)
        · have hst : ¬ s = t := by
            have := hc2
            rw [teq] at this
            simpa using this
          have e : decide (a = b) = false := decide_eq_false fun e => hst (by rw [e, ht] at hs; injection hs with hs; exact hs.symm)
          rw [e]
          refine awp_seq ?_
          refine awp_region ?_
          refine aqs rfl (q_as (by constructor)) rfl ?_
          refine alist_nil ?_
          show AWP _ _ _ _
          refine awp_ret ?_
          repeat first | with_reducible refine then_ret ?_ | with_reducible refine blk_ret ?_
          apply retq (.inr rfl) (.cons (rok_t rfl) .nil)
          rotate_left
          · exact ⟨rfl, rfl⟩
          repeat (first | exact List.Sublist.refl _ | exact List.nil_sublist _ | exact List.sublist_append_left _ _ | apply List.Sublist.cons)
        · have hst : s = t := by
            have := hc2
            rw [teq] at this
            simpa using this
          refine awp_skip ?_
          show AWP _ _ _ _
          refine awp_region ?_
          refine aqs rfl (q_mv (by constructor)) rfl ?_
          first | refine aqs rfl (q_add64 rfl rfl (by omega) (by omega)) rfl ?_ | refine aqs rfl (q_add rfl rfl) rfl ?_
          refine aqs rfl (q_as (by constructor)) rfl ?_
          refine alist_nil ?_
          show ∃ y, _ ∧ _ ∧ _
          refine ⟨i + 1, ⟨by omega, fun j hj => ?_⟩, by omega, .mk' ⟨by rfl, rfl, rfl, trivial⟩ (.refl _)⟩
          by_cases hji : j = i
          · subst hji
            rw [hs, ht, hst]
          · exact hall j (by omega)
      · simp only [decide_eq_false_iff_not, List.length_map] at hc1
        have e : decide (a = b) = true := decide_eq_true (List.ext_getElem? fun j => by
          by_cases hj : j < i
          · exact hall j hj
          · rw [List.getElem?_eq_none (by omega), List.getElem?_eq_none (by omega)])
        rw [e]
        refine awp_exit ?_
        show AWP _ _ _ _
        refine awp_seq ?_
        refine awp_region ?_
        refine aqs rfl (q_as (by constructor)) rfl ?_
        refine alist_nil ?_
        show AWP _ _ _ _
        refine awp_ret ?_
        repeat first | with_reducible refine then_ret ?_ | with_reducible refine blk_ret ?_
        apply retq (.inr rfl) (.cons (rok_t rfl) .nil)
        rotate_left
        · exact ⟨rfl, rfl⟩
        repeat (first | exact List.Sublist.refl _ | exact List.nil_sublist _ | exact List.sublist_append_left _ _ | apply List.Sublist.cons)
set_option maxHeartbeats 1000000 in
theorem same63_c (a b : Queue) (ha : a.tasks.length ≤ 1000000) (hb : b.tasks.length ≤ 1000000) (H : Heap) : QCall Try.prog 63 [.agg a.cells, .agg b.cells] H (.lit (.bool (decide (a = b)))) := by
  have e : decide (a = b) = (decide (a.tasks = b.tasks) && decide (a.room = b.room) && (a.closed == b.closed)) := by
    rcases a with ⟨a1, a2, a3⟩
    rcases b with ⟨b1, b2, b3⟩
    rw [Bool.eq_iff_iff]
    simp [and_comm, and_left_comm]
  rw [e]
  refine acall_intro (n := 26) (rvs := [.tmp 4]) Try.func63 rfl rfl rfl (Nat.le_of_ble_eq_true rfl) ?_
  refine awp_seq ?_
  refine awp_region ?_
  (refine aes rfl (e_bx (by constructor) rfl rfl) rfl ?_; rintro _ _ ⟨u2, rfl, rfl⟩)
  (refine aes rfl (e_bx (by constructor) rfl rfl) rfl ?_; rintro _ _ ⟨u3, rfl, rfl⟩)
  refine aqs rfl (q_as (by constructor)) rfl ?_
  refine alist_nil ?_
  show AWP _ _ _ _
  refine awp_seq ?_
  refine awp_region ?_
  first | refine aqs rfl (q_fapP fl63_2 (by decide) rfl rfl) rfl ?_ | refine aqs rfl (q_faP fl63_2 (by decide) rfl (by first | ((repeat constructor); done) | exact .same _)) rfl ?_
  first | refine aqs rfl (q_ldpN ag61 rfl (by repeat (first | exact .here | assumption | (apply HAt.left; assumption) | apply HAt.there | apply HAt.right)) (by first | rfl | assumption | (simp [*]; done) | fail) (by first | rfl | assumption | (simp [*]; done) | fail) (by constructor)) rfl ?_ | refine aqs rfl (q_ld1N ag61 rfl (by constructor)) rfl ?_
  first | refine aqs rfl (q_fapP fl63_2 (by decide) rfl rfl) rfl ?_ | refine aqs rfl (q_faP fl63_2 (by decide) rfl (by first | ((repeat constructor); done) | exact .same _)) rfl ?_
  first | refine aqs rfl (q_ldpN ag61 rfl (by repeat (first | exact .here | assumption | (apply HAt.left; assumption) | apply HAt.there | apply HAt.right)) (by first | rfl | assumption | (simp [*]; done) | fail) (by first | rfl | assumption | (simp [*]; done) | fail) (by constructor)) rfl ?_ | refine aqs rfl (q_ld1N ag61 rfl (by constructor)) rfl ?_
  first | refine aqs rfl (e_callN cb77 (tasks77_c a.tasks b.tasks ha hb _) rfl rfl) rfl ?_ | refine aqs rfl (e_callN cb77 (ACall.arg (tasks77_c a.tasks b.tasks ha hb _) (by repeat (first | exact ArgL.nil | (apply ArgL.cons; (· first | exact .same | exact .cro | exact .nil))))) rfl rfl) rfl ?_
  refine aqs rfl (q_as (by constructor)) rfl ?_
  refine alist_nil ?_
  show AWP _ _ _ _
  refine awp_mid [(4, .lit (.bool (decide (a.tasks = b.tasks) && decide (a.room = b.room) && (a.closed == b.closed))))] ?_ ?_
  · skip
    refine awp_region ?_
    all_goals (refine aqs rfl (q_mv (by constructor)) rfl ?_)
    all_goals (refine aqs rfl (q_mv (by constructor)) rfl ?_)
    all_goals try (refine acase (fun hb1 => ?_) (fun hb1 => ?_))
    all_goals first | (exfalso; cases hb1; done) | skip
    all_goals (first | refine ans rfl rfl ?_ | refine aqs rfl (q_fapP fl63_0 (by decide) rfl rfl) rfl ?_ | refine aqs rfl (q_faP fl63_0 (by decide) rfl (by first | ((repeat constructor); done) | exact .same _)) rfl ?_)
    all_goals (first | refine ans rfl rfl ?_ | refine aqs rfl (q_ldpN ag3 rfl (by repeat (first | exact .here | assumption | (apply HAt.left; assumption) | apply HAt.there | apply HAt.right)) (by first | rfl | assumption | (simp [*]; done) | fail) (by first | rfl | assumption | (simp [*]; done) | fail) (by constructor)) rfl ?_ | refine aqs rfl (q_ld1N ag3 rfl (by constructor)) rfl ?_)
    all_goals (first | refine ans rfl rfl ?_ | refine aqs rfl (q_fapP fl63_0 (by decide) rfl rfl) rfl ?_ | refine aqs rfl (q_faP fl63_0 (by decide) rfl (by first | ((repeat constructor); done) | exact .same _)) rfl ?_)
    all_goals (first | refine ans rfl rfl ?_ | refine aqs rfl (q_ldpN ag3 rfl (by repeat (first | exact .here | assumption | (apply HAt.left; assumption) | apply HAt.there | apply HAt.right)) (by first | rfl | assumption | (simp [*]; done) | fail) (by first | rfl | assumption | (simp [*]; done) | fail) (by constructor)) rfl ?_ | refine aqs rfl (q_ld1N ag3 rfl (by constructor)) rfl ?_)
    all_goals (first | refine ans rfl rfl ?_ | refine aqs rfl (q_eql rfl rfl) rfl ?_)
    all_goals (first | refine aqs rfl (q_pickT rfl (by constructor)) rfl ?_ | refine aqs rfl (q_pickF rfl (by constructor)) rfl ?_)
    all_goals (refine aqs rfl (q_mv (by constructor)) rfl ?_)
    all_goals try (refine acase (fun hb8 => ?_) (fun hb8 => ?_))
    all_goals first | (exfalso; cases hb8; done) | skip
    all_goals (first | refine ans rfl rfl ?_ | refine aqs rfl (q_fapP fl63_1 (by decide) rfl rfl) rfl ?_ | refine aqs rfl (q_faP fl63_1 (by decide) rfl (by first | ((repeat constructor); done) | exact .same _)) rfl ?_)
    all_goals (first | refine ans rfl rfl ?_ | refine aqs rfl (q_ldpN ag4 rfl (by repeat (first | exact .here | assumption | (apply HAt.left; assumption) | apply HAt.there | apply HAt.right)) (by first | rfl | assumption | (simp [*]; done) | fail) (by first | rfl | assumption | (simp [*]; done) | fail) (by constructor)) rfl ?_ | refine aqs rfl (q_ld1N ag4 rfl (by constructor)) rfl ?_)
    all_goals (first | refine ans rfl rfl ?_ | refine aqs rfl (q_fapP fl63_1 (by decide) rfl rfl) rfl ?_ | refine aqs rfl (q_faP fl63_1 (by decide) rfl (by first | ((repeat constructor); done) | exact .same _)) rfl ?_)
    all_goals (first | refine ans rfl rfl ?_ | refine aqs rfl (q_ldpN ag4 rfl (by repeat (first | exact .here | assumption | (apply HAt.left; assumption) | apply HAt.there | apply HAt.right)) (by first | rfl | assumption | (simp [*]; done) | fail) (by first | rfl | assumption | (simp [*]; done) | fail) (by constructor)) rfl ?_ | refine aqs rfl (q_ld1N ag4 rfl (by constructor)) rfl ?_)
    all_goals (first | refine ans rfl rfl ?_ | refine aqs rfl (q_beql rfl rfl Try.underlying4) rfl ?_)
    all_goals (first | refine aqs rfl (q_pickT rfl (by constructor)) rfl ?_ | refine aqs rfl (q_pickF rfl (by constructor)) rfl ?_)
    all_goals (refine aqs rfl (q_as (by constructor)) rfl ?_)
    all_goals (refine alist_nil ?_)
    all_goals (exact ⟨rfl, .mk' (by repeat (first | exact trivial | refine ⟨rfl, ?_⟩ | (refine ⟨?_, ?_⟩; (· first | (rw [hb1, hb8]; rfl) | (rw [hb1]; rfl) | fail)))) (.refl _)⟩)
  refine awp_ret ?_
  repeat first | with_reducible refine then_ret ?_ | with_reducible refine blk_ret ?_
  apply retq (.inr rfl) (.cons (rok_t rfl) .nil)
  rotate_left
  · exact ⟨rfl, rfl⟩
  repeat (first | exact List.Sublist.refl _ | exact List.nil_sublist _ | exact List.sublist_append_left _ _ | apply List.Sublist.cons)
end Go.Proofs.YtdlinfekifnmkaaAm
