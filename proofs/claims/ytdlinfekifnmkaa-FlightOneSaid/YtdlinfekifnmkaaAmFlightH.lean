/- Contracts of the layer 'flight', eighth part: what raw deeds make, and what the layer asks of itself. Conditions: the lengths. -/
import Derived.Test.YtdlinfekifnmkaaAmFlightG
set_option linter.unusedVariables false
set_option linter.unusedSimpArgs false
set_option maxRecDepth 20000
namespace Go.Proofs.YtdlinfekifnmkaaAm
open Go.Proofs
theorem q_iaI {P : Program} {d : Option Tmp} {ty : TypeId} {pos : String} {af : Array Edge} {g : Option (Nat × Bool)} {ev : Operand → AV} {H : Heap} {tt e : TypeId} {x i : Operand} {len : Nat} {k : IntKind} {m : Int} {sz : Nat} {cs r : List AV} (ht : P.underlying tt = some (.array len e)) (hsz : szOf P e = some sz) (hx : ev x = .ip cs) (hi : ev i = .lit (.int k m)) (h0 : 0 ≤ m) (h1 : m < len)
    (hr : NL (cs.drop (m.toNat * sz)) r) : QOp P ⟨d, .indexAddr tt x i, ty, pos, af, g⟩ ev H (.ip r) :=
  hr.eq ▸ qop_same (s := fun ρ => Instr.indexAt tt (ρ x) (ρ i)) (fun ρ => rfl) fun C a ok hh hev => by
    have h2 := hev x (by simp [Op.operands])
    have h3 := hev i (by simp [Op.operands])
    rw [hi] at h3
    rw [hx] at h2
    generalize a.eval x = v at h2
    cases h2 with
    | ip vs hcell hrv =>
      rename_i a0
      rw [rv_lit h3]
      refine ⟨.pointer (some (a0.add (m.toNat * sz))), ?_, .ip (fun j => vs (m.toNat * sz + j)) (fun j y hy => ?_) (fun j y hy => ?_)⟩
      · unfold Instr.indexAt asIntOf
        simp [run_under ht, run_szOf hsz, Instr.sureAddr, h0, h1]
      · rw [List.getElem?_drop] at hy
        obtain ⟨a1, ha1, hu, hc⟩ := hcell (m.toNat * sz + j) y hy
        injection ha1 with ha1
        subst ha1
        exact ⟨_, rfl, by rw [add_block]; exact hu, by rw [add_add]; exact hc⟩
      · rw [List.getElem?_drop] at hy
        exact hrv _ y hy
set_option maxHeartbeats 400000 in
theorem pick95_c (c n : Int) (h1 : -9223372036854775808 ≤ c) (h2 : c ≤ 9223372036854775807) (h3 : 1 ≤ n) (H : Heap) : QCall Try.prog 95 [.lit (.int .i64 c), .lit (.int .i64 n)] H (.lit (.int .i64 (pick c n))) := by
  refine acall_intro (n := 13) (rvs := [.tmp 4]) Try.func95 rfl rfl rfl (Nat.le_of_ble_eq_true rfl) ?_
  refine awp_seq ?_
  refine awp_region ?_
  refine aqs rfl (q_as (by constructor)) rfl ?_
  refine alist_nil ?_
  show AWP _ _ _ _
  refine awp_seq ?_
  refine awp_seq ?_
  refine awp_region ?_
  refine aqs rfl (q_mv (by constructor)) rfl ?_
  refine aqs rfl (q_lss rfl rfl) rfl ?_
  refine alist_nil ?_
  show AWP _ _ _ _
  refine awp_cond rfl (fun hc0 => ?_) (fun hc0 => ?_)
  ·simp only [decide_eq_true_eq] at hc0
   have e : pick c n = -(c + 1) % n := by simp [pick, hc0]
   rw [e]
   refine awp_region ?_
   refine aqs rfl (q_mv (by constructor)) rfl ?_
   first | refine aqs rfl (q_add64 rfl rfl (by omega) (by omega)) rfl ?_ | refine aqs rfl (q_add rfl rfl) rfl ?_
   first | refine aqs rfl (q_neg64 rfl (by omega) (by omega)) rfl ?_ | refine aqs rfl (q_neg rfl) rfl ?_
   refine aqs rfl (q_as (by constructor)) rfl ?_
   refine alist_nil ?_
   show AWP _ _ _ _
   refine awp_seq ?_
   refine awp_region ?_
   refine aqs rfl (q_mv (by constructor)) rfl ?_
   refine aqs rfl (q_mv (by constructor)) rfl ?_
   first | refine aqs rfl (q_rem64 rfl rfl (by omega) (by omega)) rfl ?_ | refine aqs rfl (q_rem rfl rfl (by first | decide | omega)) rfl ?_
   refine aqs rfl (q_as (by constructor)) rfl ?_
   refine alist_nil ?_
   show AWP _ _ _ _
   refine awp_ret ?_
   repeat first | with_reducible refine then_ret ?_ | with_reducible refine blk_ret ?_
   apply retq (.inr rfl) (.cons (rok_t rfl) .nil)
   rotate_left
   ·exact ⟨rfl, rfl⟩
   repeat (first | exact List.Sublist.refl _ | exact List.nil_sublist _ | exact List.sublist_append_left _ _ | apply List.Sublist.cons)
  ·simp only [decide_eq_false_iff_not] at hc0
   have e : pick c n = c % n := by simp [pick, hc0]
   rw [e]
   refine awp_skip ?_
   show AWP _ _ _ _
   refine awp_seq ?_
   refine awp_region ?_
   refine aqs rfl (q_mv (by constructor)) rfl ?_
   refine aqs rfl (q_mv (by constructor)) rfl ?_
   first | refine aqs rfl (q_rem64 rfl rfl (by omega) (by omega)) rfl ?_ | refine aqs rfl (q_rem rfl rfl (by first | decide | omega)) rfl ?_
   refine aqs rfl (q_as (by constructor)) rfl ?_
   refine alist_nil ?_
   show AWP _ _ _ _
   refine awp_ret ?_
   repeat first | with_reducible refine then_ret ?_ | with_reducible refine blk_ret ?_
   apply retq (.inr rfl) (.cons (rok_t rfl) .nil)
   rotate_left
   ·exact ⟨rfl, rfl⟩
   repeat (first | exact List.Sublist.refl _ | exact List.nil_sublist _ | exact List.sublist_append_left _ _ | apply List.Sublist.cons)
set_option maxHeartbeats 400000 in
theorem pick106_c (c n : Int) (h1 : -9223372036854775808 ≤ c) (h2 : c ≤ 9223372036854775807) (h3 : 1 ≤ n) (H : Heap) : QCall Try.prog 106 [.lit (.int .i64 c), .lit (.int .i64 n)] H (.lit (.int .i64 (pick c n))) := by
  refine acall_intro (n := 13) (rvs := [.tmp 4]) Try.func106 rfl rfl rfl (Nat.le_of_ble_eq_true rfl) ?_
  refine awp_seq ?_
  refine awp_region ?_
  refine aqs rfl (q_as (by constructor)) rfl ?_
  refine alist_nil ?_
  show AWP _ _ _ _
  refine awp_seq ?_
  refine awp_seq ?_
  refine awp_region ?_
  refine aqs rfl (q_mv (by constructor)) rfl ?_
  refine aqs rfl (q_lss rfl rfl) rfl ?_
  refine alist_nil ?_
  show AWP _ _ _ _
  refine awp_cond rfl (fun hc0 => ?_) (fun hc0 => ?_)
  ·simp only [decide_eq_true_eq] at hc0
   have e : pick c n = -(c + 1) % n := by simp [pick, hc0]
   rw [e]
   refine awp_region ?_
   refine aqs rfl (q_mv (by constructor)) rfl ?_
   first | refine aqs rfl (q_add64 rfl rfl (by omega) (by omega)) rfl ?_ | refine aqs rfl (q_add rfl rfl) rfl ?_
   first | refine aqs rfl (q_neg64 rfl (by omega) (by omega)) rfl ?_ | refine aqs rfl (q_neg rfl) rfl ?_
   refine aqs rfl (q_as (by constructor)) rfl ?_
   refine alist_nil ?_
   show AWP _ _ _ _
   refine awp_seq ?_
   refine awp_region ?_
   refine aqs rfl (q_mv (by constructor)) rfl ?_
   refine aqs rfl (q_mv (by constructor)) rfl ?_
   first | refine aqs rfl (q_rem64 rfl rfl (by omega) (by omega)) rfl ?_ | refine aqs rfl (q_rem rfl rfl (by first | decide | omega)) rfl ?_
   refine aqs rfl (q_as (by constructor)) rfl ?_
   refine alist_nil ?_
   show AWP _ _ _ _
   refine awp_ret ?_
   repeat first | with_reducible refine then_ret ?_ | with_reducible refine blk_ret ?_
   apply retq (.inr rfl) (.cons (rok_t rfl) .nil)
   rotate_left
   ·exact ⟨rfl, rfl⟩
   repeat (first | exact List.Sublist.refl _ | exact List.nil_sublist _ | exact List.sublist_append_left _ _ | apply List.Sublist.cons)
  ·simp only [decide_eq_false_iff_not] at hc0
   have e : pick c n = c % n := by simp [pick, hc0]
   rw [e]
   refine awp_skip ?_
   show AWP _ _ _ _
   refine awp_seq ?_
   refine awp_region ?_
   refine aqs rfl (q_mv (by constructor)) rfl ?_
   refine aqs rfl (q_mv (by constructor)) rfl ?_
   first | refine aqs rfl (q_rem64 rfl rfl (by omega) (by omega)) rfl ?_ | refine aqs rfl (q_rem rfl rfl (by first | decide | omega)) rfl ?_
   refine aqs rfl (q_as (by constructor)) rfl ?_
   refine alist_nil ?_
   show AWP _ _ _ _
   refine awp_ret ?_
   repeat first | with_reducible refine then_ret ?_ | with_reducible refine blk_ret ?_
   apply retq (.inr rfl) (.cons (rok_t rfl) .nil)
   rotate_left
   ·exact ⟨rfl, rfl⟩
   repeat (first | exact List.Sublist.refl _ | exact List.nil_sublist _ | exact List.sublist_append_left _ _ | apply List.Sublist.cons)
theorem pool6 {i : Int} (h0 : 0 ≤ i) (h1 : i < 6) : [[AV.lit (.string ⟨#[]⟩)], [.lit (.string ⟨#[97]⟩)], [.lit (.string ⟨#[98]⟩)], [.lit (.string ⟨#[97, 98]⟩)], [.lit (.string ⟨#[98, 97]⟩)], [.lit (.string ⟨#[99, 10]⟩)]][i.toNat]? = some [.lit (.string (text6 i))] := by
  rcases six h0 h1 with rfl | rfl | rfl | rfl | rfl | rfl <;> rfl
set_option maxHeartbeats 1000000 in
theorem text96_c (k : Int) (hk : -9223372036854775808 ≤ k ∧ k ≤ 9223372036854775807) (H : Heap) : QCall Try.prog 96 [.lit (.int .i64 k)] H (.lit (.string (textS k))) := by
  have p0 := pick_nonneg k 6 (by omega)
  have p1 := pick_lt k 6 (by omega)
  have hp := pool6 p0 p1
  refine acall_intro (n := 8) (rvs := [.tmp 2]) Try.func96 rfl rfl rfl (Nat.le_of_ble_eq_true rfl) ?_
  refine awp_seq ?_
  refine awp_region ?_
  refine aqs rfl (q_as (by constructor)) rfl ?_
  refine alist_nil ?_
  show AWP _ _ _ _
  refine awp_seq ?_
  refine awp_region ?_
  first | refine aqs rfl (q_bs Try.underlying57 sz9 zr9 rfl (by first | ((repeat constructor); done) | exact .same _) rfl (by decide) (by repeat (first | exact BS.nil | (apply BS.cons; (· constructor); (· rfl); (· rfl); (· rfl); (· exact (by first | ((repeat constructor); done) | exact .same _)))))) rfl ?_ | (refine aes rfl (e_bs Try.underlying57 sz9 zr9 rfl (by first | ((repeat constructor); done) | exact .same _) rfl (by decide) (by repeat (first | exact BS.nil | (apply BS.cons; (· constructor); (· rfl); (· rfl); (· rfl); (· exact (by first | ((repeat constructor); done) | exact .same _)))))) rfl ?_; rintro _ _ ⟨u3, rfl, rfl⟩)
  refine aqs rfl (q_mv (by constructor)) rfl ?_
  first | refine aqs rfl (e_callN cb106 (pick106_c _ _ hk.1 hk.2 (by omega) _) rfl rfl) rfl ?_ | refine aqs rfl (e_callN cb106 (ACall.arg (pick106_c _ _ hk.1 hk.2 (by omega) _) (by repeat (first | exact ArgL.nil | (apply ArgL.cons; (· first | exact .same | exact .cro | exact .nil))))) rfl rfl) rfl ?_
  first | refine aqs rfl (q_iaN Try.underlying57 sz9 (.inl rfl) rfl (by omega) (by first | rfl | assumption | (simp [*]; done) | fail) (by first | rfl | assumption | (simp [*]; done) | fail) (by decide) (by first | ((repeat constructor); done) | exact .same _)) rfl ?_ | refine aqs rfl (q_iaS Try.underlying57 sz9 rfl (by repeat (first | exact .here | assumption | (apply HAt.left; assumption) | apply HAt.there | apply HAt.right)) rfl (by omega) (by omega) (by first | exact Nat.zero_add _ | rfl)) rfl ?_ | refine aqs rfl (q_iaN Try.underlying57 sz9 (.inr rfl) rfl (by omega) (by first | rfl | assumption | (simp [*]; done) | fail) (by first | rfl | assumption | (simp [*]; done) | fail) (by decide) (by first | ((repeat constructor); done) | exact .same _)) rfl ?_
  first | refine aqs rfl (q_ldpN ag9 rfl (by repeat (first | exact .here | assumption | (apply HAt.left; assumption) | apply HAt.there | apply HAt.right)) (by first | rfl | assumption | (simp [*]; done) | fail) (by first | rfl | assumption | (simp [*]; done) | fail) (by constructor)) rfl ?_ | refine aqs rfl (q_ld1N ag9 rfl (by constructor)) rfl ?_
  refine aqs rfl (q_as (by constructor)) rfl ?_
  refine alist_nil ?_
  show AWP _ _ _ _
  refine awp_ret ?_
  repeat first | with_reducible refine then_ret ?_ | with_reducible refine blk_ret ?_
  apply retq (.inr rfl) (.cons (rok_t rfl) .nil)
  rotate_left
  ·exact ⟨rfl, rfl⟩
  repeat (first | exact List.Sublist.refl _ | exact List.nil_sublist _ | exact List.sublist_append_left _ _ | apply List.Sublist.cons)
theorem flen_fills (ds : List Tri) : FLen (fillsS ds) := flen_fok (fok_fills ds)
set_option maxHeartbeats 4000000 in
theorem fills92_c (ds : List Tri) (hw : ∀ y ∈ ds, y.Wf) (H : Heap) : QCall Try.prog 92 [.ro (ds.map Tri.cells)] H (.ro ((fillsS (ds.take 20)).map Fill.cells)) := by
  refine QCall.any H ?_
  refine acall_intro (n := 83) (rvs := [.tmp 2]) Try.func92 rfl rfl rfl (Nat.le_of_ble_eq_true rfl) ?_
  refine awp_seq ?_
  refine awp_region ?_
  refine aqs rfl (q_as (by constructor)) rfl ?_
  refine alist_nil ?_
  show AWP _ _ _ _
  refine awp_seq ?_
  refine awp_region ?_
  refine aqs rfl (q_as (by constructor)) rfl ?_
  refine alist_nil ?_
  show AWP _ _ _ _
  refine awp_nilro 3 rfl ?_
  show AWP _ _ _ _
  refine awp_seq ?_
  refine awp_seq ?_
  refine awp_region ?_
  refine aqs rfl (q_as (by constructor)) rfl ?_
  refine alist_nil ?_
  show AWP _ _ _ _
  refine awp_block ?_
  refine awp_loop_inv (fun i : Nat => ⟨[(4, .lit (.int .i64 i)), (3, .ro ((fillsS (ds.take i)).map Fill.cells)), (0, .ro (ds.map Tri.cells))], 83, []⟩) (fun i => i ≤ ds.length ∧ i ≤ 20) (fun i => 20 - i) 0 ?_ ?_ ?_
  ·exact ⟨Nat.zero_le _, Nat.zero_le _⟩
  ·exact .mk' (by repeat (first | exact trivial | refine ⟨rfl, ?_⟩)) (by repeat (first | exact .refl _ | apply List.Sublist.cons_cons | apply List.Sublist.cons))
  ·rintro i ⟨hi, hi2⟩
   have hfl := flen_fills (ds.take i)
   obtain ⟨f, hf⟩ : ∃ f, f = fillsS (ds.take i) := ⟨_, rfl⟩
   rw [← hf] at hfl ⊢
   refine awp_seq ?_
   refine awp_mid [(21, .lit (.bool (decide ((i : Int) < (ds.map Tri.cells).length) && decide ((i : Int) < 20)))), (4, .lit (.int .i64 i)), (3, .ro (f.map Fill.cells)), (0, .ro (ds.map Tri.cells))] ?_ ?_
   ·skip
    refine awp_region ?_
    all_goals (refine aqs rfl (q_mv (by constructor)) rfl ?_)
    all_goals (refine aqs rfl (q_mv (by constructor)) rfl ?_)
    all_goals (first | refine aqs rfl (q_len Try.underlying64 .ro) rfl ?_ | refine aqs rfl (q_lenO Try.underlying64 rfl (by repeat (first | exact .here | assumption | (apply HAt.left; assumption) | apply HAt.there | apply HAt.right)) (by first | omega | (simp; done) | (simp; omega) | fail) (by first | exact Nat.sub_zero _ | rfl)) rfl ?_ | refine aqs rfl (q_len Try.underlying64 .nil) rfl ?_ | refine aqs rfl (q_len Try.underlying64 .cro) rfl ?_)
    all_goals (refine aqs rfl (q_lss rfl rfl) rfl ?_)
    all_goals (refine aqs rfl (q_mv (by constructor)) rfl ?_)
    all_goals try (refine acase (fun hb4 => ?_) (fun hb4 => ?_))
    all_goals first | (exfalso; cases hb4; done) | skip
    all_goals (first | refine ans rfl rfl ?_ | refine aqs rfl (q_mv (by constructor)) rfl ?_)
    all_goals (first | refine ans rfl rfl ?_ | refine aqs rfl (q_lss rfl rfl) rfl ?_)
    all_goals (first | refine aqs rfl (q_pickT rfl (by constructor)) rfl ?_ | refine aqs rfl (q_pickF rfl (by constructor)) rfl ?_)
    all_goals (refine alist_nil ?_)
    all_goals (exact ⟨rfl, .mk' (by repeat (first | exact trivial | refine ⟨rfl, ?_⟩ | (refine ⟨?_, ?_⟩; (· first | (rw [hb4]; rfl) | fail)))) (by repeat (first | exact .refl _ | exact List.nil_sublist _ | exact List.sublist_append_left _ _ | apply List.Sublist.cons))⟩)
   refine awp_cond rfl (fun hc0 => ?_) (fun hc0 => ?_)
   ·simp only [Bool.and_eq_true, decide_eq_true_eq, List.length_map] at hc0
    obtain ⟨x, hs, hsm⟩ := get_lt (l := ds) (i := i) (by omega)
    have hs2 := get_map (f := Tri.cells) hs
    have hwx := hw x hsm
    have hnx := fills_next hs
    rw [← hf] at hnx
    have hdv := tdiv_range x.c 6 hwx.2.2.1 hwx.2.2.2 (by omega)
    refine awp_skip ?_
    show AWP _ _ _ _
    refine awp_seq ?_
    refine awp_block ?_
    refine awp_seq ?_
    refine awp_region ?_
    refine aqs rfl (q_mv (by constructor)) rfl ?_
    refine aqs rfl (q_mv (by constructor)) rfl ?_
    first | refine aqs rfl (q_iaN Try.underlying64 sz83 (.inl rfl) rfl (by omega) (by first | rfl | assumption | (simp [*]; done) | fail) (by first | rfl | assumption | (simp [*]; done) | fail) (by decide) (by first | ((repeat constructor); done) | exact .same _)) rfl ?_ | refine aqs rfl (q_iaS Try.underlying64 sz83 rfl (by repeat (first | exact .here | assumption | (apply HAt.left; assumption) | apply HAt.there | apply HAt.right)) rfl (by omega) (by omega) (by first | exact Nat.zero_add _ | rfl)) rfl ?_ | refine aqs rfl (q_iaN Try.underlying64 sz83 (.inr rfl) rfl (by omega) (by first | rfl | assumption | (simp [*]; done) | fail) (by first | rfl | assumption | (simp [*]; done) | fail) (by decide) (by first | ((repeat constructor); done) | exact .same _)) rfl ?_
    first | refine aqs rfl (q_iaA Try.underlying83 sz3 rfl rfl (by omega) (by omega) rfl) rfl ?_ | refine aqs rfl (q_iaI Try.underlying83 sz3 rfl rfl (by omega) (by omega) (by first | ((repeat constructor); done) | exact .same _)) rfl ?_
    first | refine aqs rfl (q_ldpN ag3 rfl (by repeat (first | exact .here | assumption | (apply HAt.left; assumption) | apply HAt.there | apply HAt.right)) (by first | rfl | assumption | (simp [*]; done) | fail) (by first | rfl | assumption | (simp [*]; done) | fail) (by constructor)) rfl ?_ | refine aqs rfl (q_ld1N ag3 rfl (by constructor)) rfl ?_
    first | refine aqs rfl (e_callN cb95 (pick95_c x.b 8 hwx.2.1.1 hwx.2.1.2 (by omega) _) rfl rfl) rfl ?_ | refine aqs rfl (e_callN cb95 (ACall.arg (pick95_c x.b 8 hwx.2.1.1 hwx.2.1.2 (by omega) _) (by repeat (first | exact ArgL.nil | (apply ArgL.cons; (· first | exact .same | exact .cro | exact .nil))))) rfl rfl) rfl ?_
    refine aqs rfl (q_as (by constructor)) rfl ?_
    refine alist_nil ?_
    show AWP _ _ _ _
    refine awp_seq ?_
    refine awp_region ?_
    refine aqs rfl (q_mv (by constructor)) rfl ?_
    refine aqs rfl (q_mv (by constructor)) rfl ?_
    first | refine aqs rfl (q_iaN Try.underlying64 sz83 (.inl rfl) rfl (by omega) (by first | rfl | assumption | (simp [*]; done) | fail) (by first | rfl | assumption | (simp [*]; done) | fail) (by decide) (by first | ((repeat constructor); done) | exact .same _)) rfl ?_ | refine aqs rfl (q_iaS Try.underlying64 sz83 rfl (by repeat (first | exact .here | assumption | (apply HAt.left; assumption) | apply HAt.there | apply HAt.right)) rfl (by omega) (by omega) (by first | exact Nat.zero_add _ | rfl)) rfl ?_ | refine aqs rfl (q_iaN Try.underlying64 sz83 (.inr rfl) rfl (by omega) (by first | rfl | assumption | (simp [*]; done) | fail) (by first | rfl | assumption | (simp [*]; done) | fail) (by decide) (by first | ((repeat constructor); done) | exact .same _)) rfl ?_
    first | refine aqs rfl (q_iaA Try.underlying83 sz3 rfl rfl (by omega) (by omega) rfl) rfl ?_ | refine aqs rfl (q_iaI Try.underlying83 sz3 rfl rfl (by omega) (by omega) (by first | ((repeat constructor); done) | exact .same _)) rfl ?_
    first | refine aqs rfl (q_ldpN ag3 rfl (by repeat (first | exact .here | assumption | (apply HAt.left; assumption) | apply HAt.there | apply HAt.right)) (by first | rfl | assumption | (simp [*]; done) | fail) (by first | rfl | assumption | (simp [*]; done) | fail) (by constructor)) rfl ?_ | refine aqs rfl (q_ld1N ag3 rfl (by constructor)) rfl ?_
    first | refine aqs rfl (e_callN cb95 (pick95_c x.a 6 hwx.1.1 hwx.1.2 (by omega) _) rfl rfl) rfl ?_ | refine aqs rfl (e_callN cb95 (ACall.arg (pick95_c x.a 6 hwx.1.1 hwx.1.2 (by omega) _) (by repeat (first | exact ArgL.nil | (apply ArgL.cons; (· first | exact .same | exact .cro | exact .nil))))) rfl rfl) rfl ?_
    refine alist_nil ?_
    show AWP _ _ _ _
    refine awp_block ?_
    refine awp_seq ?_
    refine awp_region ?_
    refine aqs rfl (q_eql rfl rfl) rfl ?_
    refine aqs rfl (q_as (by constructor)) rfl ?_
    refine alist_nil ?_
    show AWP _ _ _ _
    refine awp_cond rfl (fun hc1 => ?_) (fun hc1 => ?_)
    ·have h4 : pick x.a 6 = 4 := by simpa using hc1
     rw [fillAdd, if_pos h4] at hnx
     obtain ⟨told, g, e, hd⟩ : ∃ told g e, doneS f (pick x.b 8) = (told, g, e) := ⟨_, _, _, rfl⟩
     rw [hd] at hnx
     refine awp_seq ?_
     refine awp_region ?_
     refine aqs rfl (q_mv (by constructor)) rfl ?_
     refine aqs rfl (q_mv (by constructor)) rfl ?_
     first | refine aqs rfl (e_callN cb101 (hd ▸ done101_c f hfl (pick x.b 8) _) rfl rfl) rfl ?_ | refine aqs rfl (e_callN cb101 (ACall.arg (hd ▸ done101_c f hfl (pick x.b 8) _) (by repeat (first | exact ArgL.nil | (apply ArgL.cons; (· first | exact .same | exact .cro | exact .nil))))) rfl rfl) rfl ?_
     refine aqs rfl (q_mv (by constructor)) rfl ?_
     refine aqs rfl (q_ex rfl rfl (by constructor)) rfl ?_
     refine aqs rfl (q_ex rfl rfl (by constructor)) rfl ?_
     refine aqs rfl (q_ex rfl rfl (by constructor)) rfl ?_
     refine aqs rfl (q_as (by constructor)) rfl ?_
     refine aqs rfl (q_as (by constructor)) rfl ?_
     refine aqs rfl (q_as (by constructor)) rfl ?_
     refine alist_nil ?_
     show AWP _ _ _ _
     refine awp_seq ?_
     refine awp_region ?_
     refine aqs rfl (q_mv (by constructor)) rfl ?_
     refine aqs rfl (q_eql rfl rfl) rfl ?_
     refine alist_nil ?_
     show AWP _ _ _ _
     refine awp_cond rfl (fun hc2 => ?_) (fun hc2 => ?_)
     ·have he : e = 0 := by simpa using hc2
      simp only [he, if_true] at hnx
      refine awp_region ?_
      refine aqs rfl (q_mv (by constructor)) rfl ?_
      refine aqs rfl (q_as (by constructor)) rfl ?_
      refine alist_nil ?_
      show AWP _ _ _ _
      refine awp_region ?_
      refine aqs rfl (q_mv (by constructor)) rfl ?_
      first | refine aqs rfl (q_add64 rfl rfl (by omega) (by omega)) rfl ?_ | refine aqs rfl (q_add rfl rfl) rfl ?_
      refine aqs rfl (q_as (by constructor)) rfl ?_
      refine alist_nil ?_
      show ∃ y, _ ∧ _ ∧ _
      exact ⟨i + 1, ⟨by omega, by omega⟩, by omega, by simp only [hnx]; exact .mk' ⟨by rfl, rfl, rfl, trivial⟩ (by repeat (first | exact List.Sublist.refl _ | exact List.nil_sublist _ | exact List.sublist_append_left _ _ | (apply List.Sublist.cons_cons) | (apply List.Sublist.cons)))⟩
     ·have he : ¬ e = 0 := by simpa using hc2
      simp only [if_neg he] at hnx
      refine awp_skip ?_
      show AWP _ _ _ _
      refine awp_region ?_
      refine aqs rfl (q_mv (by constructor)) rfl ?_
      first | refine aqs rfl (q_add64 rfl rfl (by omega) (by omega)) rfl ?_ | refine aqs rfl (q_add rfl rfl) rfl ?_
      refine aqs rfl (q_as (by constructor)) rfl ?_
      refine alist_nil ?_
      show ∃ y, _ ∧ _ ∧ _
      exact ⟨i + 1, ⟨by omega, by omega⟩, by omega, by simp only [hnx]; exact .mk' ⟨by rfl, rfl, rfl, trivial⟩ (by repeat (first | exact List.Sublist.refl _ | exact List.nil_sublist _ | exact List.sublist_append_left _ _ | (apply List.Sublist.cons_cons) | (apply List.Sublist.cons)))⟩
    ·have h4 : ¬ pick x.a 6 = 4 := by simpa using hc1
     rw [fillAdd, if_neg h4] at hnx
     refine awp_seq ?_
     refine awp_region ?_
     refine aqs rfl (q_eql rfl rfl) rfl ?_
     refine aqs rfl (q_as (by constructor)) rfl ?_
     refine alist_nil ?_
     show AWP _ _ _ _
     refine awp_cond rfl (fun hc3 => ?_) (fun hc3 => ?_)
     ·have h5 : pick x.a 6 = 5 := by simpa using hc3
      rw [if_pos h5] at hnx
      obtain ⟨g, e, hd⟩ : ∃ g e, leaveS f (pick x.b 8) = (g, e) := ⟨_, _, rfl⟩
      rw [hd] at hnx
      refine awp_seq ?_
      refine awp_region ?_
      refine aqs rfl (q_mv (by constructor)) rfl ?_
      refine aqs rfl (q_mv (by constructor)) rfl ?_
      first | refine aqs rfl (e_callN cb103 (hd ▸ leave103_c f hfl (pick x.b 8) _) rfl rfl) rfl ?_ | refine aqs rfl (e_callN cb103 (ACall.arg (hd ▸ leave103_c f hfl (pick x.b 8) _) (by repeat (first | exact ArgL.nil | (apply ArgL.cons; (· first | exact .same | exact .cro | exact .nil))))) rfl rfl) rfl ?_
      refine aqs rfl (q_mv (by constructor)) rfl ?_
      refine aqs rfl (q_ex rfl rfl (by constructor)) rfl ?_
      refine aqs rfl (q_ex rfl rfl (by constructor)) rfl ?_
      refine aqs rfl (q_as (by constructor)) rfl ?_
      refine aqs rfl (q_as (by constructor)) rfl ?_
      refine alist_nil ?_
      show AWP _ _ _ _
      refine awp_seq ?_
      refine awp_region ?_
      refine aqs rfl (q_mv (by constructor)) rfl ?_
      refine aqs rfl (q_eql rfl rfl) rfl ?_
      refine alist_nil ?_
      show AWP _ _ _ _
      refine awp_cond rfl (fun hc4 => ?_) (fun hc4 => ?_)
      ·have he : e = 0 := by simpa using hc4
       simp only [he, if_true] at hnx
       refine awp_region ?_
       refine aqs rfl (q_mv (by constructor)) rfl ?_
       refine aqs rfl (q_as (by constructor)) rfl ?_
       refine alist_nil ?_
       show AWP _ _ _ _
       refine awp_region ?_
       refine aqs rfl (q_mv (by constructor)) rfl ?_
       first | refine aqs rfl (q_add64 rfl rfl (by omega) (by omega)) rfl ?_ | refine aqs rfl (q_add rfl rfl) rfl ?_
       refine aqs rfl (q_as (by constructor)) rfl ?_
       refine alist_nil ?_
       show ∃ y, _ ∧ _ ∧ _
       exact ⟨i + 1, ⟨by omega, by omega⟩, by omega, by simp only [hnx]; exact .mk' ⟨by rfl, rfl, rfl, trivial⟩ (by repeat (first | exact List.Sublist.refl _ | exact List.nil_sublist _ | exact List.sublist_append_left _ _ | (apply List.Sublist.cons_cons) | (apply List.Sublist.cons)))⟩
      ·have he : ¬ e = 0 := by simpa using hc4
       simp only [if_neg he] at hnx
       refine awp_skip ?_
       show AWP _ _ _ _
       refine awp_region ?_
       refine aqs rfl (q_mv (by constructor)) rfl ?_
       first | refine aqs rfl (q_add64 rfl rfl (by omega) (by omega)) rfl ?_ | refine aqs rfl (q_add rfl rfl) rfl ?_
       refine aqs rfl (q_as (by constructor)) rfl ?_
       refine alist_nil ?_
       show ∃ y, _ ∧ _ ∧ _
       exact ⟨i + 1, ⟨by omega, by omega⟩, by omega, by simp only [hnx]; exact .mk' ⟨by rfl, rfl, rfl, trivial⟩ (by repeat (first | exact List.Sublist.refl _ | exact List.nil_sublist _ | exact List.sublist_append_left _ _ | (apply List.Sublist.cons_cons) | (apply List.Sublist.cons)))⟩
     ·have h5 : ¬ pick x.a 6 = 5 := by simpa using hc3
      rw [if_neg h5] at hnx
      obtain ⟨b, g, e, hd⟩ : ∃ b g e, beginS f (textS x.c) (textS (x.c.tdiv 6)) (pick x.b 8) = (b, g, e) := ⟨_, _, _, rfl⟩
      rw [hd] at hnx
      refine awp_seq ?_
      refine awp_draw 23 [(0, false), (1, false), (2, false), (3, false), (4, false), (5, false), (6, false), (7, false), (8, false), (9, false), (10, false), (11, false), (12, false), (13, false), (14, false), (15, false), (16, false), (17, false), (18, false), (19, false), (20, false), (21, false), (22, false)] _ ([]) mixed (by kernel_rfl) (perm0 _) ?_
      refine glq rfl (.inl ⟨rfl, q_mv (by constructor)⟩) rfl ?_
      refine glq rfl (.inl ⟨rfl, q_mv (by constructor)⟩) rfl ?_
      refine glq rfl (.inl ⟨rfl, q_mv (by constructor)⟩) rfl ?_
      first | refine glq rfl (.inl ⟨rfl, q_iaN Try.underlying64 sz83 (.inl rfl) rfl (by omega) (by first | rfl | assumption | (simp [*]; done) | fail) (by first | rfl | assumption | (simp [*]; done) | fail) (by decide) (by first | ((repeat constructor); done) | exact .same _)⟩) rfl ?_ | refine glq rfl (.inl ⟨rfl, q_iaS Try.underlying64 sz83 rfl (by repeat (first | exact .here | assumption | (apply HAt.left; assumption) | apply HAt.there | apply HAt.right)) rfl (by omega) (by omega) (by first | exact Nat.zero_add _ | rfl)⟩) rfl ?_ | refine glq rfl (.inl ⟨rfl, q_iaN Try.underlying64 sz83 (.inr rfl) rfl (by omega) (by first | rfl | assumption | (simp [*]; done) | fail) (by first | rfl | assumption | (simp [*]; done) | fail) (by decide) (by first | ((repeat constructor); done) | exact .same _)⟩) rfl ?_
      first | refine glq rfl (.inl ⟨rfl, q_iaA Try.underlying83 sz3 rfl rfl (by omega) (by omega) rfl⟩) rfl ?_ | refine glq rfl (.inl ⟨rfl, q_iaI Try.underlying83 sz3 rfl rfl (by omega) (by omega) (by first | ((repeat constructor); done) | exact .same _)⟩) rfl ?_
      first | refine glq rfl (.inl ⟨rfl, q_ldpN ag3 rfl (by repeat (first | exact .here | assumption | (apply HAt.left; assumption) | apply HAt.there | apply HAt.right)) (by first | rfl | assumption | (simp [*]; done) | fail) (by first | rfl | assumption | (simp [*]; done) | fail) (by constructor)⟩) rfl ?_ | refine glq rfl (.inl ⟨rfl, q_ld1N ag3 rfl (by constructor)⟩) rfl ?_
      first | refine glq rfl (.inl ⟨rfl, e_callN cb96 (text96_c x.c ⟨hwx.2.2.1, hwx.2.2.2⟩ _) rfl rfl⟩) rfl ?_ | refine glq rfl (.inl ⟨rfl, e_callN cb96 (ACall.arg (text96_c x.c ⟨hwx.2.2.1, hwx.2.2.2⟩ _) (by repeat (first | exact ArgL.nil | (apply ArgL.cons; (· first | exact .same | exact .cro | exact .nil))))) rfl rfl⟩) rfl ?_
      refine glq rfl (.inl ⟨rfl, q_mv (by constructor)⟩) rfl ?_
      refine glq rfl (.inl ⟨rfl, q_mv (by constructor)⟩) rfl ?_
      first | refine glq rfl (.inl ⟨rfl, q_iaN Try.underlying64 sz83 (.inl rfl) rfl (by omega) (by first | rfl | assumption | (simp [*]; done) | fail) (by first | rfl | assumption | (simp [*]; done) | fail) (by decide) (by first | ((repeat constructor); done) | exact .same _)⟩) rfl ?_ | refine glq rfl (.inl ⟨rfl, q_iaS Try.underlying64 sz83 rfl (by repeat (first | exact .here | assumption | (apply HAt.left; assumption) | apply HAt.there | apply HAt.right)) rfl (by omega) (by omega) (by first | exact Nat.zero_add _ | rfl)⟩) rfl ?_ | refine glq rfl (.inl ⟨rfl, q_iaN Try.underlying64 sz83 (.inr rfl) rfl (by omega) (by first | rfl | assumption | (simp [*]; done) | fail) (by first | rfl | assumption | (simp [*]; done) | fail) (by decide) (by first | ((repeat constructor); done) | exact .same _)⟩) rfl ?_
      first | refine glq rfl (.inl ⟨rfl, q_iaA Try.underlying83 sz3 rfl rfl (by omega) (by omega) rfl⟩) rfl ?_ | refine glq rfl (.inl ⟨rfl, q_iaI Try.underlying83 sz3 rfl rfl (by omega) (by omega) (by first | ((repeat constructor); done) | exact .same _)⟩) rfl ?_
      first | refine glq rfl (.inl ⟨rfl, q_ldpN ag3 rfl (by repeat (first | exact .here | assumption | (apply HAt.left; assumption) | apply HAt.there | apply HAt.right)) (by first | rfl | assumption | (simp [*]; done) | fail) (by first | rfl | assumption | (simp [*]; done) | fail) (by constructor)⟩) rfl ?_ | refine glq rfl (.inl ⟨rfl, q_ld1N ag3 rfl (by constructor)⟩) rfl ?_
      first | refine glq rfl (.inl ⟨rfl, castQ (r2 := .lit (.int .i64 (x.c.tdiv 6))) (q_quo64 rfl rfl (by omega) (by omega) (by omega)) (by rw [wrap_i64 hdv.1 hdv.2])⟩) rfl ?_ | refine glq rfl (.inl ⟨rfl, castQ (r2 := .lit (.int .i64 (x.c.tdiv 6))) (q_quo rfl rfl (by first | decide | omega)) (by rw [wrap_i64 hdv.1 hdv.2])⟩) rfl ?_
      first | refine glq rfl (.inl ⟨rfl, e_callN cb96 (text96_c (x.c.tdiv 6) hdv _) rfl rfl⟩) rfl ?_ | refine glq rfl (.inl ⟨rfl, e_callN cb96 (ACall.arg (text96_c (x.c.tdiv 6) hdv _) (by repeat (first | exact ArgL.nil | (apply ArgL.cons; (· first | exact .same | exact .cro | exact .nil))))) rfl rfl⟩) rfl ?_
      refine glq rfl (.inl ⟨rfl, q_mv (by constructor)⟩) rfl ?_
      first | refine glq rfl (.inl ⟨rfl, e_callN cb98 (hd ▸ begin98_c f hfl (textS x.c) (textS (x.c.tdiv 6)) (pick x.b 8) _) rfl rfl⟩) rfl ?_ | refine glq rfl (.inl ⟨rfl, e_callN cb98 (ACall.arg (hd ▸ begin98_c f hfl (textS x.c) (textS (x.c.tdiv 6)) (pick x.b 8) _) (by repeat (first | exact ArgL.nil | (apply ArgL.cons; (· first | exact .same | exact .cro | exact .nil))))) rfl rfl⟩) rfl ?_
      refine glq rfl (.inl ⟨rfl, q_mv (by constructor)⟩) rfl ?_
      refine glq rfl (.inl ⟨rfl, q_ex rfl rfl (by constructor)⟩) rfl ?_
      refine glq rfl (.inl ⟨rfl, q_ex rfl rfl (by constructor)⟩) rfl ?_
      refine glq rfl (.inl ⟨rfl, q_ex rfl rfl (by constructor)⟩) rfl ?_
      refine glq rfl (.inl ⟨rfl, q_as (by constructor)⟩) rfl ?_
      refine glq rfl (.inl ⟨rfl, q_as (by constructor)⟩) rfl ?_
      refine glq rfl (.inl ⟨rfl, q_as (by constructor)⟩) rfl ?_
      (first | refine gld0 ?_ | refine gldA ?_)
      refine alist_nil ?_
      show AWP _ _ _ _
      refine awp_seq ?_
      refine awp_region ?_
      refine aqs rfl (q_mv (by constructor)) rfl ?_
      refine aqs rfl (q_eql rfl rfl) rfl ?_
      refine alist_nil ?_
      show AWP _ _ _ _
      refine awp_cond rfl (fun hc5 => ?_) (fun hc5 => ?_)
      ·have he : e = 0 := by simpa using hc5
       simp only [he, if_true] at hnx
       refine awp_region ?_
       refine aqs rfl (q_mv (by constructor)) rfl ?_
       refine aqs rfl (q_as (by constructor)) rfl ?_
       refine alist_nil ?_
       show AWP _ _ _ _
       refine awp_region ?_
       refine aqs rfl (q_mv (by constructor)) rfl ?_
       first | refine aqs rfl (q_add64 rfl rfl (by omega) (by omega)) rfl ?_ | refine aqs rfl (q_add rfl rfl) rfl ?_
       refine aqs rfl (q_as (by constructor)) rfl ?_
       refine alist_nil ?_
       show ∃ y, _ ∧ _ ∧ _
       exact ⟨i + 1, ⟨by omega, by omega⟩, by omega, by simp only [hnx]; exact .mk' ⟨by rfl, rfl, rfl, trivial⟩ (by repeat (first | exact List.Sublist.refl _ | exact List.nil_sublist _ | exact List.sublist_append_left _ _ | (apply List.Sublist.cons_cons) | (apply List.Sublist.cons)))⟩
      ·have he : ¬ e = 0 := by simpa using hc5
       simp only [if_neg he] at hnx
       refine awp_skip ?_
       show AWP _ _ _ _
       refine awp_region ?_
       refine aqs rfl (q_mv (by constructor)) rfl ?_
       first | refine aqs rfl (q_add64 rfl rfl (by omega) (by omega)) rfl ?_ | refine aqs rfl (q_add rfl rfl) rfl ?_
       refine aqs rfl (q_as (by constructor)) rfl ?_
       refine alist_nil ?_
       show ∃ y, _ ∧ _ ∧ _
       exact ⟨i + 1, ⟨by omega, by omega⟩, by omega, by simp only [hnx]; exact .mk' ⟨by rfl, rfl, rfl, trivial⟩ (by repeat (first | exact List.Sublist.refl _ | exact List.nil_sublist _ | exact List.sublist_append_left _ _ | (apply List.Sublist.cons_cons) | (apply List.Sublist.cons)))⟩
   ·simp only [Bool.and_eq_false_iff, decide_eq_false_iff_not, List.length_map] at hc0
    have e : f = fillsS (ds.take 20) := by
     rw [hf]
     rcases hc0 with h | h
     ·rw [List.take_of_length_le (show ds.length ≤ i by omega), List.take_of_length_le (show ds.length ≤ 20 by omega)]
     ·rw [show i = 20 by omega]
    rw [← e]
    refine awp_exit ?_
    show AWP _ _ _ _
    refine awp_seq ?_
    refine awp_region ?_
    refine aqs rfl (q_mv (by constructor)) rfl ?_
    refine aqs rfl (q_as (by constructor)) rfl ?_
    refine alist_nil ?_
    show AWP _ _ _ _
    refine awp_ret ?_
    repeat first | with_reducible refine then_ret ?_ | with_reducible refine blk_ret ?_
    apply retq (.inr rfl) (.cons (rok_t rfl) .nil)
    rotate_left
    ·exact ⟨rfl, rfl⟩
    repeat (first | exact List.Sublist.refl _ | exact List.nil_sublist _ | exact List.sublist_append_left _ _ | apply List.Sublist.cons)
end Go.Proofs.YtdlinfekifnmkaaAm
