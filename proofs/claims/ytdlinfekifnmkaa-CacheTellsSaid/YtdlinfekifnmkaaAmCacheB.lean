/- Contracts of the layer 'cache', second part: which caches may be. Conditions: the lengths. -/
import Derived.Test.YtdlinfekifnmkaaAmCache
set_option linter.unusedVariables false
set_option linter.unusedSimpArgs false
set_option maxRecDepth 20000
namespace Go.Proofs.YtdlinfekifnmkaaAm
open Go.Proofs
def cntC (c : Cach) (k : Nat) : Int := if k = 0 then c.hits else if k = 1 then c.misses else if k = 2 then c.clashes else c.evicted
theorem cnt_at (c : Cach) {k : Nat} (h : k < 4) : [AV.lit (.int .i64 c.hits), .lit (.int .i64 c.misses), .lit (.int .i64 c.clashes), .lit (.int .i64 c.evicted)][(k : Int).toNat * 1]? = some (.lit (.int .i64 (cntC c k))) := by
  have : k = 0 ∨ k = 1 ∨ k = 2 ∨ k = 3 := by omega
  rcases this with rfl | rfl | rfl | rfl <;> rfl
def allOk (c : Cach) (i : Nat) : Bool := (List.range i).all (partOk c)
theorem allOk_next (c : Cach) (i : Nat) : allOk c (i + 1) = (allOk c i && partOk c i) := by
  unfold allOk
  rw [List.range_succ, List.all_append]; simp
theorem allOk_false {c : Cach} {i n : Nat} (h : allOk c i = false) (hi : i ≤ n) : allOk c n = false := by
  obtain ⟨x, hx, hp⟩ := List.all_eq_false.1 h
  exact List.all_eq_false.2 ⟨x, List.mem_range.2 (by have := List.mem_range.1 hx; omega), hp⟩
theorem right_nofits {c : Cach} (h : cFits c.parts.length c.room c.width = false) : cRight c = false := by rw [cRight, h]; rfl
theorem right_nocount {c : Cach} {k : Nat} (hk : k < 4) (h : cCount (cntC c k) = false) : cRight c = false := by
  have : k = 0 ∨ k = 1 ∨ k = 2 ∨ k = 3 := by omega
  rw [cRight]
  rcases this with rfl | rfl | rfl | rfl
  · rw [show cCount c.hits = false from h]; simp
  · rw [show cCount c.misses = false from h]; simp
  · rw [show cCount c.clashes = false from h]; simp
  · rw [show cCount c.evicted = false from h]; simp
theorem right_all {c : Cach} (hf : cFits c.parts.length c.room c.width = true) (h : ∀ k, k < 4 → cCount (cntC c k) = true) : cRight c = allOk c c.parts.length := by
  rw [cRight, hf, show cCount c.hits = true from h 0 (by omega), show cCount c.misses = true from h 1 (by omega), show cCount c.clashes = true from h 2 (by omega), show cCount c.evicted = true from h 3 (by omega)]
  rfl
theorem all_take {α : Type} {p : α → Bool} {l : List α} {k : Nat} {x : α} (h : l[k]? = some x) : (l.take (k + 1)).all p = ((l.take k).all p && p x) := by rw [take_next h, List.all_append]; simp
theorem key_eq {c : Cach} {s : Slot} {i : Nat} : ((s.key.sum == (bothS s.left s.right c.width).sum) && (s.key.len == (bothS s.left s.right c.width).len)) = decide (s.key = bothS s.left s.right c.width) := keq _ _
theorem fits_prop {p r w : Int} (h : cFits p r w = true) : (1 ≤ p ∧ p ≤ 16) ∧ (0 ≤ r ∧ r ≤ 4096) ∧ (0 ≤ w ∧ w ≤ 64) := by
  unfold cFits at h
  simp only [Bool.and_eq_true, decide_eq_true_eq] at h
  omega
set_option maxHeartbeats 4000000 in
theorem right112_c (c : Cach) (hl : CLen c) (H : Heap) : QCall Try.prog 112 [.agg c.cells] H (.lit (.bool (cRight c))) := by
  refine QCall.any H ?_
  have hn := hl.n
  have hcl : (c.parts.map partCells).length = c.parts.length := List.length_map ..
  refine acall_intro (n := 88) (rvs := [.tmp 2]) Try.func112 rfl rfl rfl (Nat.le_of_ble_eq_true rfl) ?_
  refine awp_seq ?_
  refine awp_region ?_
  (refine aes rfl (e_bx (by constructor) rfl rfl) rfl ?_; rintro _ _ ⟨u1, rfl, rfl⟩)
  refine aqs rfl (q_as (by constructor)) rfl ?_
  refine alist_nil ?_
  show AWP _ _ _ _
  refine awp_scope ?_
  refine awp_seq ?_
  refine awp_seq ?_
  refine awp_region ?_
  first | refine aqs rfl (q_fapP fl136_2 (by decide) rfl rfl) rfl ?_ | refine aqs rfl (q_faP fl136_2 (by decide) rfl (by first | ((repeat constructor); done) | exact .same _)) rfl ?_
  first | refine aqs rfl (q_ldpN ag42 rfl (by repeat (first | exact .here | assumption | (apply HAt.left; assumption) | apply HAt.there | apply HAt.right)) (by first | rfl | assumption | (simp [*]; done) | fail) (by first | rfl | assumption | (simp [*]; done) | fail) (by constructor)) rfl ?_ | refine aqs rfl (q_ld1N ag42 rfl (by constructor)) rfl ?_
  first | refine aqs rfl (castQ (r2 := .lit (.int .i64 (c.parts.length : Nat))) (q_len Try.underlying42 .ro) (by rw [hcl])) rfl ?_ | refine aqs rfl (castQ (r2 := .lit (.int .i64 (c.parts.length : Nat))) (q_lenO Try.underlying42 rfl (by repeat (first | exact .here | assumption | (apply HAt.left; assumption) | apply HAt.there | apply HAt.right)) (by first | omega | (simp; done) | (simp; omega) | fail) (by first | exact Nat.sub_zero _ | rfl)) (by rw [hcl])) rfl ?_ | refine aqs rfl (castQ (r2 := .lit (.int .i64 (c.parts.length : Nat))) (q_len Try.underlying42 .nil) (by rw [hcl])) rfl ?_ | refine aqs rfl (castQ (r2 := .lit (.int .i64 (c.parts.length : Nat))) (q_len Try.underlying42 .cro) (by rw [hcl])) rfl ?_
  first | refine aqs rfl (q_fapP fl136_1 (by decide) rfl rfl) rfl ?_ | refine aqs rfl (q_faP fl136_1 (by decide) rfl (by first | ((repeat constructor); done) | exact .same _)) rfl ?_
  first | refine aqs rfl (q_ldpN ag3 rfl (by repeat (first | exact .here | assumption | (apply HAt.left; assumption) | apply HAt.there | apply HAt.right)) (by first | rfl | assumption | (simp [*]; done) | fail) (by first | rfl | assumption | (simp [*]; done) | fail) (by constructor)) rfl ?_ | refine aqs rfl (q_ld1N ag3 rfl (by constructor)) rfl ?_
  first | refine aqs rfl (q_fapP fl136_0 (by decide) rfl rfl) rfl ?_ | refine aqs rfl (q_faP fl136_0 (by decide) rfl (by first | ((repeat constructor); done) | exact .same _)) rfl ?_
  first | refine aqs rfl (q_ldpN ag3 rfl (by repeat (first | exact .here | assumption | (apply HAt.left; assumption) | apply HAt.there | apply HAt.right)) (by first | rfl | assumption | (simp [*]; done) | fail) (by first | rfl | assumption | (simp [*]; done) | fail) (by constructor)) rfl ?_ | refine aqs rfl (q_ld1N ag3 rfl (by constructor)) rfl ?_
  first | refine aqs rfl (e_callN cb158 (fits158_c c.parts.length c.room c.width _) rfl rfl) rfl ?_ | refine aqs rfl (e_callN cb158 (ACall.arg (fits158_c c.parts.length c.room c.width _) (by repeat (first | exact ArgL.nil | (apply ArgL.cons; (· first | exact .same | exact .cro | exact .nil))))) rfl rfl) rfl ?_
  refine aqs rfl (q_not rfl) rfl ?_
  refine alist_nil ?_
  show AWP _ _ _ _
  refine awp_cond rfl (fun hc0 => ?_) (fun hc0 => ?_)
  ·have hf : cFits c.parts.length c.room c.width = false := by simpa using hc0
   rw [right_nofits hf]
   refine awp_seq ?_
   refine awp_region ?_
   refine aqs rfl (q_as (by constructor)) rfl ?_
   refine alist_nil ?_
   show AWP _ _ _ _
   refine awp_ret ?_
   repeat first | with_reducible refine then_ret ?_ | with_reducible refine blk_ret ?_ | with_reducible refine nogo_ret ?_
   apply retq (.inr rfl) (.cons (rok_t rfl) .nil)
   rotate_left
   ·exact ⟨rfl, rfl⟩
   repeat (first | exact List.Sublist.refl _ | exact List.nil_sublist _ | exact List.sublist_append_left _ _ | apply List.Sublist.cons)
  ·have hf : cFits c.parts.length c.room c.width = true := by simpa using hc0
   obtain ⟨hf1, hf2, hf3⟩ := fits_prop hf
   refine awp_skip ?_
   show AWP _ _ _ _
   refine awp_seq ?_
   refine awp_seq ?_
   refine awp_region ?_
   first | refine aqs rfl (q_fapP fl136_3 (by decide) rfl rfl) rfl ?_ | refine aqs rfl (q_faP fl136_3 (by decide) rfl (by first | ((repeat constructor); done) | exact .same _)) rfl ?_
   first | refine aqs rfl (q_ldpN ag3 rfl (by repeat (first | exact .here | assumption | (apply HAt.left; assumption) | apply HAt.there | apply HAt.right)) (by first | rfl | assumption | (simp [*]; done) | fail) (by first | rfl | assumption | (simp [*]; done) | fail) (by constructor)) rfl ?_ | refine aqs rfl (q_ld1N ag3 rfl (by constructor)) rfl ?_
   first | refine aqs rfl (q_fapP fl136_4 (by decide) rfl rfl) rfl ?_ | refine aqs rfl (q_faP fl136_4 (by decide) rfl (by first | ((repeat constructor); done) | exact .same _)) rfl ?_
   first | refine aqs rfl (q_ldpN ag3 rfl (by repeat (first | exact .here | assumption | (apply HAt.left; assumption) | apply HAt.there | apply HAt.right)) (by first | rfl | assumption | (simp [*]; done) | fail) (by first | rfl | assumption | (simp [*]; done) | fail) (by constructor)) rfl ?_ | refine aqs rfl (q_ld1N ag3 rfl (by constructor)) rfl ?_
   first | refine aqs rfl (q_fapP fl136_5 (by decide) rfl rfl) rfl ?_ | refine aqs rfl (q_faP fl136_5 (by decide) rfl (by first | ((repeat constructor); done) | exact .same _)) rfl ?_
   first | refine aqs rfl (q_ldpN ag3 rfl (by repeat (first | exact .here | assumption | (apply HAt.left; assumption) | apply HAt.there | apply HAt.right)) (by first | rfl | assumption | (simp [*]; done) | fail) (by first | rfl | assumption | (simp [*]; done) | fail) (by constructor)) rfl ?_ | refine aqs rfl (q_ld1N ag3 rfl (by constructor)) rfl ?_
   first | refine aqs rfl (q_fapP fl136_6 (by decide) rfl rfl) rfl ?_ | refine aqs rfl (q_faP fl136_6 (by decide) rfl (by first | ((repeat constructor); done) | exact .same _)) rfl ?_
   first | refine aqs rfl (q_ldpN ag3 rfl (by repeat (first | exact .here | assumption | (apply HAt.left; assumption) | apply HAt.there | apply HAt.right)) (by first | rfl | assumption | (simp [*]; done) | fail) (by first | rfl | assumption | (simp [*]; done) | fail) (by constructor)) rfl ?_ | refine aqs rfl (q_ld1N ag3 rfl (by constructor)) rfl ?_
   refine aqs rfl (q_bd st155 zr155 (by first | ((repeat constructor); done) | exact .same _) (by repeat (first | exact BD.nil | (apply BD.cons; (· rfl); (· constructor); (· rfl); (· rfl); (· exact Nat.le_of_ble_eq_true (by rfl)); (· exact (by first | ((repeat constructor); done) | exact .same _)))))) rfl ?_
   refine aqs rfl (q_mv (by constructor)) rfl ?_
   refine alist_nil ?_
   show AWP _ _ _ _
   refine awp_block ?_
   refine awp_loop_inv (fun k : Nat => ⟨[(28, .lit (.int .i64 k)), (27, .agg [.lit (.int .i64 c.hits), .lit (.int .i64 c.misses), .lit (.int .i64 c.clashes), .lit (.int .i64 c.evicted)]), (1, .ptr u1 0 0)], 88, [(u1, .arr 136 7 [c.cells])]⟩) (fun k => k ≤ 4 ∧ ∀ m, m < k → cCount (cntC c m) = true) (fun k => 4 - k) 0 ?_ ?_ ?_
   ·exact ⟨Nat.zero_le _, fun m h => absurd h (Nat.not_lt_zero _)⟩
   ·exact .mk' (by repeat (first | exact trivial | refine ⟨rfl, ?_⟩)) (by repeat (first | exact .refl _ | apply List.Sublist.cons_cons | apply List.Sublist.cons))
   ·rintro k ⟨hk, hall⟩
    refine awp_seq ?_
    refine awp_region ?_
    refine aqs rfl (q_lss rfl rfl) rfl ?_
    refine alist_nil ?_
    show AWP _ _ _ _
    refine awp_seq ?_
    refine awp_cond rfl (fun hc1 => ?_) (fun hc1 => ?_)
    ·simp only [decide_eq_true_eq] at hc1
     have hk4 := cnt_at c (k := k) (by omega)
     refine awp_skip ?_
     show AWP _ _ _ _
     refine awp_seq ?_
     refine awp_block ?_
     refine awp_seq ?_
     refine awp_region ?_
     first | refine aqs rfl (q_ixA (r := []) Try.underlying155 sz3 ag3 rfl rfl (by omega) (by omega) hk4) rfl ?_ | refine aqs rfl (q_ixA Try.underlying155 sz3 ag3 rfl rfl (by omega) (by first | omega | assumption) (by first | rfl | assumption | (simp [*]; done) | fail)) rfl ?_
     refine aqs rfl (q_as (by constructor)) rfl ?_
     refine alist_nil ?_
     show AWP _ _ _ _
     refine awp_seq ?_
     refine awp_region ?_
     refine aqs rfl (q_mv (by constructor)) rfl ?_
     first | refine aqs rfl (e_callN cb160 (within160_c (cntC c k) 0 1099511627776 _) rfl rfl) rfl ?_ | refine aqs rfl (e_callN cb160 (ACall.arg (within160_c (cntC c k) 0 1099511627776 _) (by repeat (first | exact ArgL.nil | (apply ArgL.cons; (· first | exact .same | exact .cro | exact .nil))))) rfl rfl) rfl ?_
     refine aqs rfl (q_not rfl) rfl ?_
     refine alist_nil ?_
     show AWP _ _ _ _
     refine awp_cond rfl (fun hc2 => ?_) (fun hc2 => ?_)
     ·have hcc : cCount (cntC c k) = false := by rw [Bool.not_eq_true'] at hc2; exact hc2
      rw [right_nocount (by omega) hcc]
      refine awp_seq ?_
      refine awp_region ?_
      refine aqs rfl (q_as (by constructor)) rfl ?_
      refine alist_nil ?_
      show AWP _ _ _ _
      refine awp_ret ?_
      repeat first | with_reducible refine then_ret ?_ | with_reducible refine blk_ret ?_ | with_reducible refine nogo_ret ?_
      apply retq (.inr rfl) (.cons (rok_t rfl) .nil)
      rotate_left
      ·exact ⟨rfl, rfl⟩
      repeat (first | exact List.Sublist.refl _ | exact List.nil_sublist _ | exact List.sublist_append_left _ _ | apply List.Sublist.cons)
     ·have hcc : cCount (cntC c k) = true := by rw [Bool.not_eq_false'] at hc2; exact hc2
      refine awp_skip ?_
      show AWP _ _ _ _
      refine awp_region ?_
      first | refine aqs rfl (q_add64 rfl rfl (by omega) (by omega)) rfl ?_ | refine aqs rfl (q_add rfl rfl) rfl ?_
      refine aqs rfl (q_mv (by constructor)) rfl ?_
      refine alist_nil ?_
      show ∃ y, _ ∧ _ ∧ _
      refine ⟨k + 1, ⟨by omega, fun m hm => ?_⟩, by omega, .mk' ⟨by rfl, rfl, rfl, trivial⟩ (by repeat (first | exact List.Sublist.refl _ | exact List.nil_sublist _ | exact List.sublist_append_left _ _ | (apply List.Sublist.cons_cons) | (apply List.Sublist.cons)))⟩
      by_cases h : m = k
      ·rw [h]; exact hcc
      ·exact hall m (by omega)
    ·simp only [decide_eq_false_iff_not] at hc1
     obtain rfl : k = 4 := by omega
     rw [right_all hf hall]
     refine awp_exit ?_
     show AWP _ _ _ _
     refine awp_seq ?_
     refine awp_region ?_
     refine aqs rfl (q_as (by constructor)) rfl ?_
     refine alist_nil ?_
     show AWP _ _ _ _
     refine awp_seq ?_
     refine awp_label ?_
     show AWP _ _ _ _
     refine awp_seq ?_
     refine awp_seq ?_
     refine awp_region ?_
     first | refine aqs rfl (q_fapP fl136_2 (by decide) rfl rfl) rfl ?_ | refine aqs rfl (q_faP fl136_2 (by decide) rfl (by first | ((repeat constructor); done) | exact .same _)) rfl ?_
     first | refine aqs rfl (q_ldpN ag42 rfl (by repeat (first | exact .here | assumption | (apply HAt.left; assumption) | apply HAt.there | apply HAt.right)) (by first | rfl | assumption | (simp [*]; done) | fail) (by first | rfl | assumption | (simp [*]; done) | fail) (by constructor)) rfl ?_ | refine aqs rfl (q_ld1N ag42 rfl (by constructor)) rfl ?_
     first | refine aqs rfl (q_len Try.underlying42 .ro) rfl ?_ | refine aqs rfl (q_lenO Try.underlying42 rfl (by repeat (first | exact .here | assumption | (apply HAt.left; assumption) | apply HAt.there | apply HAt.right)) (by first | omega | (simp; done) | (simp; omega) | fail) (by first | exact Nat.sub_zero _ | rfl)) rfl ?_ | refine aqs rfl (q_len Try.underlying42 .nil) rfl ?_ | refine aqs rfl (q_len Try.underlying42 .cro) rfl ?_
     refine aqs rfl (q_mv (by constructor)) rfl ?_
     refine alist_nil ?_
     show AWP _ _ _ _
     refine awp_block ?_
     rw [List.length_map]
     refine awp_loop_inv (fun i : Nat => ⟨[(38, .lit (.int .i64 i)), (37, .lit (.int .i64 c.parts.length)), (36, .ro (c.parts.map partCells)), (5, .lit (.bool (allOk c i))), (1, .ptr u1 0 0)], 88, [(u1, .arr 136 7 [c.cells])]⟩) (fun i => i ≤ c.parts.length) (fun i => c.parts.length - i) 0 ?_ ?_ ?_
     ·exact Nat.zero_le _
     ·exact .mk' (by repeat (first | exact trivial | refine ⟨rfl, ?_⟩)) (by repeat (first | exact .refl _ | apply List.Sublist.cons_cons | apply List.Sublist.cons))
     ·intro i hi
      refine awp_seq ?_
      refine awp_region ?_
      refine aqs rfl (q_lss rfl rfl) rfl ?_
      refine alist_nil ?_
      show AWP _ _ _ _
      refine awp_seq ?_
      refine awp_cond rfl (fun hc3 => ?_) (fun hc3 => ?_)
      ·simp only [decide_eq_true_eq] at hc3
       have hil : i < c.parts.length := by omega
       have hs2 := pt_row hil
       have hpl := hl.l i
       have hpt := hl.t i
       have hpk := hl.k i
       have hnx := allOk_next c i
       obtain ⟨l, hle⟩ : ∃ l, l = pt c i := ⟨_, rfl⟩
       rw [← hle] at hs2 hpl hpt hpk
       have hml : (l.map Slot.cells).length = l.length := List.length_map ..
       refine awp_skip ?_
       show AWP _ _ _ _
       refine awp_seq ?_
       refine awp_block ?_
       refine awp_seq ?_
       refine awp_region ?_
       refine aqs rfl (q_mv (by constructor)) rfl ?_
       first | refine aqs rfl (q_iaN Try.underlying42 sz38 (.inl rfl) rfl (by omega) (by first | rfl | assumption | (simp [*]; done) | fail) (by first | rfl | assumption | (simp [*]; done) | fail) (by decide) (by first | ((repeat constructor); done) | exact .same _)) rfl ?_ | refine aqs rfl (q_iaS Try.underlying42 sz38 rfl (by repeat (first | exact .here | assumption | (apply HAt.left; assumption) | apply HAt.there | apply HAt.right)) rfl (by omega) (by omega) (by first | exact Nat.zero_add _ | rfl)) rfl ?_ | refine aqs rfl (q_iaN Try.underlying42 sz38 (.inr rfl) rfl (by omega) (by first | rfl | assumption | (simp [*]; done) | fail) (by first | rfl | assumption | (simp [*]; done) | fail) (by decide) (by first | ((repeat constructor); done) | exact .same _)) rfl ?_
       first | refine aqs rfl (q_ldpN ag38 rfl (by repeat (first | exact .here | assumption | (apply HAt.left; assumption) | apply HAt.there | apply HAt.right)) (by first | rfl | assumption | (simp [*]; done) | fail) (by first | rfl | assumption | (simp [*]; done) | fail) (by constructor)) rfl ?_ | refine aqs rfl (q_ld1N ag38 rfl (by constructor)) rfl ?_
       refine aqs rfl (q_as (by constructor)) rfl ?_
       refine aqs rfl (q_as (by constructor)) rfl ?_
       refine alist_nil ?_
       show AWP _ _ _ _
       refine awp_mid [(5, .lit (.bool ((allOk c i && rightB l) && decide (((l.map Slot.cells).length : Int) ≤ roomOf c i)))), (7, .ro (l.map Slot.cells)), (6, .lit (.int .i64 i)), (38, .lit (.int .i64 i)), (37, .lit (.int .i64 c.parts.length)), (36, .ro (c.parts.map partCells)), (1, .ptr u1 0 0)] ?_ ?_
       ·skip
        refine awp_region ?_
        all_goals (refine aqs rfl (q_mv (by constructor)) rfl ?_)
        all_goals (refine aqs rfl (q_mv (by constructor)) rfl ?_)
        all_goals try (refine acase (fun hb1 => ?_) (fun hb1 => ?_))
        all_goals first | (exfalso; cases hb1; done) | skip
        all_goals (first | refine ans rfl rfl ?_ | refine aqs rfl (q_mv (by constructor)) rfl ?_)
        all_goals (first | refine ans rfl rfl ?_ | refine aqs rfl (e_callN cb51 (right51_c l (by omega) _) rfl rfl) rfl ?_ | refine aqs rfl (e_callN cb51 (ACall.arg (right51_c l (by omega) _) (by repeat (first | exact ArgL.nil | (apply ArgL.cons; (· first | exact .same | exact .cro | exact .nil))))) rfl rfl) rfl ?_)
        all_goals (first | refine aqs rfl (q_pickT rfl (by constructor)) rfl ?_ | refine aqs rfl (q_pickF rfl (by constructor)) rfl ?_)
        all_goals (refine aqs rfl (q_mv (by constructor)) rfl ?_)
        all_goals try (refine acase (fun hb5 => ?_) (fun hb5 => ?_))
        all_goals first | (exfalso; cases hb5; done) | skip
        all_goals (first | refine ans rfl rfl ?_ | refine aqs rfl (q_mv (by constructor)) rfl ?_)
        all_goals (first | refine ans rfl rfl ?_ | refine aqs rfl (q_len Try.underlying38 .ro) rfl ?_ | refine aqs rfl (q_lenO Try.underlying38 rfl (by repeat (first | exact .here | assumption | (apply HAt.left; assumption) | apply HAt.there | apply HAt.right)) (by first | omega | (simp; done) | (simp; omega) | fail) (by first | exact Nat.sub_zero _ | rfl)) rfl ?_ | refine aqs rfl (q_len Try.underlying38 .nil) rfl ?_ | refine aqs rfl (q_len Try.underlying38 .cro) rfl ?_)
        all_goals (first | refine ans rfl rfl ?_ | refine aqs rfl (q_ldpW ag136 sz136 rfl (by repeat (first | exact .here | assumption | (apply HAt.left; assumption) | apply HAt.there | apply HAt.right)) (by first | rfl | assumption | (simp [*]; done) | fail) (by first | rfl | assumption | (simp [*]; done) | fail) (by decide)) rfl ?_ | refine aqs rfl (q_ldW ag136 sz136 rfl (by first | rfl | assumption | (simp [*]; done) | fail)) rfl ?_ | refine aqs rfl (q_ldpP ag136 sz136 rfl (by repeat (first | exact .here | assumption | (apply HAt.left; assumption) | apply HAt.there | apply HAt.right)) (by first | rfl | assumption | (simp [*]; done) | fail) (by first | decide | (simp; done) | omega | fail) (by decide) (by first | ((repeat constructor); done) | exact .same _)) rfl ?_ | refine aqs rfl (q_ldP ag136 sz136 rfl (by first | decide | (simp; done) | omega | fail) (by first | ((repeat constructor); done) | exact .same _)) rfl ?_)
        all_goals (first | refine ans rfl rfl ?_ | refine aqs rfl (q_mv (by constructor)) rfl ?_)
        all_goals (first | refine ans rfl rfl ?_ | refine aqs rfl (e_callN cb161 (roomOf161_c c (by omega) hn hf2 i _) rfl rfl) rfl ?_ | refine aqs rfl (e_callN cb161 (ACall.arg (roomOf161_c c (by omega) hn hf2 i _) (by repeat (first | exact ArgL.nil | (apply ArgL.cons; (· first | exact .same | exact .cro | exact .nil))))) rfl rfl) rfl ?_)
        all_goals (first | refine ans rfl rfl ?_ | refine aqs rfl (q_leq rfl rfl) rfl ?_)
        all_goals (first | refine aqs rfl (q_pickT rfl (by constructor)) rfl ?_ | refine aqs rfl (q_pickF rfl (by constructor)) rfl ?_)
        all_goals (refine aqs rfl (q_as (by constructor)) rfl ?_)
        all_goals (refine alist_nil ?_)
        all_goals (exact ⟨rfl, .mk' (by repeat (first | exact trivial | refine ⟨rfl, ?_⟩ | (refine ⟨?_, ?_⟩; (· first | (rw [hb1, hb5]; rfl) | (rw [hb1]; rfl) | fail)))) (by repeat (first | exact .refl _ | exact List.nil_sublist _ | exact List.sublist_append_left _ _ | apply List.Sublist.cons))⟩)
       refine awp_seq ?_
       refine awp_region ?_
       refine aqs rfl (q_mv (by constructor)) rfl ?_
       first | refine aqs rfl (q_len Try.underlying38 .ro) rfl ?_ | refine aqs rfl (q_lenO Try.underlying38 rfl (by repeat (first | exact .here | assumption | (apply HAt.left; assumption) | apply HAt.there | apply HAt.right)) (by first | omega | (simp; done) | (simp; omega) | fail) (by first | exact Nat.sub_zero _ | rfl)) rfl ?_ | refine aqs rfl (q_len Try.underlying38 .nil) rfl ?_ | refine aqs rfl (q_len Try.underlying38 .cro) rfl ?_
       refine aqs rfl (q_mv (by constructor)) rfl ?_
       refine alist_nil ?_
       show AWP _ _ _ _
       refine awp_block ?_
       rw [hml]
       refine awp_loop_inv (fun k : Nat => ⟨[(58, .lit (.int .i64 k)), (57, .lit (.int .i64 l.length)), (56, .ro (l.map Slot.cells)), (5, .lit (.bool (((allOk c i && rightB l) && decide ((l.length : Int) ≤ roomOf c i)) && (l.take k).all (slotOk c i)))), (6, .lit (.int .i64 i)), (38, .lit (.int .i64 i)), (37, .lit (.int .i64 c.parts.length)), (36, .ro (c.parts.map partCells)), (1, .ptr u1 0 0)], 88, [(u1, .arr 136 7 [c.cells])]⟩) (fun k => k ≤ l.length) (fun k => l.length - k) 0 ?_ ?_ ?_
       ·exact Nat.zero_le _
       ·exact .mk' (by refine ⟨rfl, rfl, rfl, ?_, rfl, rfl, rfl, rfl, rfl, trivial⟩; show AV.lit (.bool _) = AV.lit (.bool (_ && true)); rw [Bool.and_true]) (by repeat (first | exact .refl _ | apply List.Sublist.cons_cons | apply List.Sublist.cons))
       ·intro k hk
        obtain ⟨b0, hb0⟩ : ∃ b0, b0 = (((allOk c i && rightB l) && decide ((l.length : Int) ≤ roomOf c i)) && (l.take k).all (slotOk c i)) := ⟨_, rfl⟩
        rw [← hb0]
        refine awp_seq ?_
        refine awp_region ?_
        refine aqs rfl (q_lss rfl rfl) rfl ?_
        refine alist_nil ?_
        show AWP _ _ _ _
        refine awp_seq ?_
        refine awp_cond rfl (fun hc4 => ?_) (fun hc4 => ?_)
        ·simp only [decide_eq_true_eq] at hc4
         obtain ⟨s, hs, hsm⟩ := get_lt (l := l) (i := k) (by omega)
         have hss := get_map (f := Slot.cells) hs
         have hst := hpt s hsm
         have hsk := hpk s hsm
         have hnx2 : (((allOk c i && rightB l) && decide ((l.length : Int) ≤ roomOf c i)) && (l.take (k + 1)).all (slotOk c i)) = (b0 && slotOk c i s) := by rw [all_take hs, hb0]; simp only [Bool.and_assoc]
         refine awp_skip ?_
         show AWP _ _ _ _
         refine awp_seq ?_
         refine awp_block ?_
         refine awp_seq ?_
         refine awp_region ?_
         first | refine aqs rfl (q_iaN Try.underlying38 sz40 (.inl rfl) rfl (by omega) (by first | rfl | assumption | (simp [*]; done) | fail) (by first | rfl | assumption | (simp [*]; done) | fail) (by decide) (by first | ((repeat constructor); done) | exact .same _)) rfl ?_ | refine aqs rfl (q_iaS Try.underlying38 sz40 rfl (by repeat (first | exact .here | assumption | (apply HAt.left; assumption) | apply HAt.there | apply HAt.right)) rfl (by omega) (by omega) (by first | exact Nat.zero_add _ | rfl)) rfl ?_ | refine aqs rfl (q_iaN Try.underlying38 sz40 (.inr rfl) rfl (by omega) (by first | rfl | assumption | (simp [*]; done) | fail) (by first | rfl | assumption | (simp [*]; done) | fail) (by decide) (by first | ((repeat constructor); done) | exact .same _)) rfl ?_
         first | refine aqs rfl (q_ldpW ag40 sz40 rfl (by repeat (first | exact .here | assumption | (apply HAt.left; assumption) | apply HAt.there | apply HAt.right)) (by first | rfl | assumption | (simp [*]; done) | fail) (by first | rfl | assumption | (simp [*]; done) | fail) (by decide)) rfl ?_ | refine aqs rfl (q_ldW ag40 sz40 rfl (by first | rfl | assumption | (simp [*]; done) | fail)) rfl ?_ | refine aqs rfl (q_ldpP ag40 sz40 rfl (by repeat (first | exact .here | assumption | (apply HAt.left; assumption) | apply HAt.there | apply HAt.right)) (by first | rfl | assumption | (simp [*]; done) | fail) (by first | decide | (simp; done) | omega | fail) (by decide) (by first | ((repeat constructor); done) | exact .same _)) rfl ?_ | refine aqs rfl (q_ldP ag40 sz40 rfl (by first | decide | (simp; done) | omega | fail) (by first | ((repeat constructor); done) | exact .same _)) rfl ?_
         (refine aes rfl (e_al (xs := [.lit (.int .u64 0), .lit (.int .i64 0), .lit (.string ⟨#[]⟩), .lit (.string ⟨#[]⟩), .lit (.string ⟨#[]⟩)]) (k := 5) zr40 (.same _) rfl) rfl ?_; rintro _ _ ⟨u9, rfl, rfl⟩)
         first | (refine aen rfl (e_stW sz40 rfl (by repeat (first | exact .here | assumption | (apply HAt.left; assumption) | apply HAt.there | apply HAt.right)) (by constructor) (by first | rfl | assumption | (simp [*]; done) | fail) rfl (by repeat (first | exact .here | apply HSet.there))) ?_; rintro _ _ ⟨rfl, rfl⟩) | (refine aen rfl (e_stP sz40 rfl (by repeat (first | exact .here | assumption | (apply HAt.left; assumption) | apply HAt.there | apply HAt.right)) (by first | rfl | assumption | (simp [*]; done) | fail) (by constructor) (by first | rfl | assumption | (simp [*]; done) | fail) rfl (by first | decide | omega) (by first | ((repeat constructor); done) | exact .same _) (by first | exact .one | exact .set) (by repeat (first | exact .here | apply HSet.there))) ?_; rintro _ _ ⟨rfl, rfl⟩)
         refine alist_nil ?_
         show AWP _ _ _ _
         refine awp_mid [(5, .lit (.bool ((b0 && ((s.key.sum == (bothS s.left s.right c.width).sum) && (s.key.len == (bothS s.left s.right c.width).len))) && decide (partOf c s.key = (i : Int))))), (58, .lit (.int .i64 k)), (57, .lit (.int .i64 l.length)), (56, .ro (l.map Slot.cells)), (6, .lit (.int .i64 i)), (38, .lit (.int .i64 i)), (37, .lit (.int .i64 c.parts.length)), (36, .ro (c.parts.map partCells)), (1, .ptr u1 0 0)] ?_ ?_
         ·skip
          refine awp_draw 22 [(0, false), (1, false), (2, false), (3, false), (4, false), (5, false), (6, false), (7, false), (8, false), (9, false), (10, false), (11, false), (12, false), (13, false), (14, false), (15, false), (16, false), (17, false), (18, false), (19, false), (20, false), (21, false)] _ ([]) mixed (by kernel_rfl) (perm0 _) ?_
          all_goals (refine glq rfl (.inl ⟨rfl, q_mv (by constructor)⟩) rfl ?_)
          all_goals (refine glq rfl (.inl ⟨rfl, q_mv (by constructor)⟩) rfl ?_)
          all_goals try (refine gcase (fun hb1 => ?_) (fun hb1 => ?_))
          all_goals first | (exfalso; cases hb1; done) | skip
          all_goals (first | refine glq rfl (.inl ⟨rfl, q_fapP fl40_0 (by decide) rfl rfl⟩) rfl ?_ | refine glq rfl (.inl ⟨rfl, q_faP fl40_0 (by decide) rfl (by first | ((repeat constructor); done) | exact .same _)⟩) rfl ?_ | refine glq rfl (.inr ⟨rfl, rfl⟩) rfl ?_)
          all_goals (first | refine glq rfl (.inl ⟨rfl, q_ldpW ag29 sz29 rfl (by repeat (first | exact .here | assumption | (apply HAt.left; assumption) | apply HAt.there | apply HAt.right)) (by first | rfl | assumption | (simp [*]; done) | fail) (by first | rfl | assumption | (simp [*]; done) | fail) (by decide)⟩) rfl ?_ | refine glq rfl (.inl ⟨rfl, q_ldW ag29 sz29 rfl (by first | rfl | assumption | (simp [*]; done) | fail)⟩) rfl ?_ | refine glq rfl (.inl ⟨rfl, q_ldpP ag29 sz29 rfl (by repeat (first | exact .here | assumption | (apply HAt.left; assumption) | apply HAt.there | apply HAt.right)) (by first | rfl | assumption | (simp [*]; done) | fail) (by first | decide | (simp; done) | omega | fail) (by decide) (by first | ((repeat constructor); done) | exact .same _)⟩) rfl ?_ | refine glq rfl (.inl ⟨rfl, q_ldP ag29 sz29 rfl (by first | decide | (simp; done) | omega | fail) (by first | ((repeat constructor); done) | exact .same _)⟩) rfl ?_ | refine glq rfl (.inr ⟨rfl, rfl⟩) rfl ?_)
          all_goals (first | refine glq rfl (.inl ⟨rfl, q_fapP fl40_1 (by decide) rfl rfl⟩) rfl ?_ | refine glq rfl (.inl ⟨rfl, q_faP fl40_1 (by decide) rfl (by first | ((repeat constructor); done) | exact .same _)⟩) rfl ?_ | refine glq rfl (.inr ⟨rfl, rfl⟩) rfl ?_)
          all_goals (first | refine glq rfl (.inl ⟨rfl, q_ldpN ag9 rfl (by repeat (first | exact .here | assumption | (apply HAt.left; assumption) | apply HAt.there | apply HAt.right)) (by first | rfl | assumption | (simp [*]; done) | fail) (by first | rfl | assumption | (simp [*]; done) | fail) (by constructor)⟩) rfl ?_ | refine glq rfl (.inl ⟨rfl, q_ld1N ag9 rfl (by constructor)⟩) rfl ?_ | refine glq rfl (.inr ⟨rfl, rfl⟩) rfl ?_)
          all_goals (first | refine glq rfl (.inl ⟨rfl, q_fapP fl40_2 (by decide) rfl rfl⟩) rfl ?_ | refine glq rfl (.inl ⟨rfl, q_faP fl40_2 (by decide) rfl (by first | ((repeat constructor); done) | exact .same _)⟩) rfl ?_ | refine glq rfl (.inr ⟨rfl, rfl⟩) rfl ?_)
          all_goals (first | refine glq rfl (.inl ⟨rfl, q_ldpN ag9 rfl (by repeat (first | exact .here | assumption | (apply HAt.left; assumption) | apply HAt.there | apply HAt.right)) (by first | rfl | assumption | (simp [*]; done) | fail) (by first | rfl | assumption | (simp [*]; done) | fail) (by constructor)⟩) rfl ?_ | refine glq rfl (.inl ⟨rfl, q_ld1N ag9 rfl (by constructor)⟩) rfl ?_ | refine glq rfl (.inr ⟨rfl, rfl⟩) rfl ?_)
          all_goals (first | refine glq rfl (.inl ⟨rfl, q_fapP fl136_0 (by decide) rfl rfl⟩) rfl ?_ | refine glq rfl (.inl ⟨rfl, q_faP fl136_0 (by decide) rfl (by first | ((repeat constructor); done) | exact .same _)⟩) rfl ?_ | refine glq rfl (.inr ⟨rfl, rfl⟩) rfl ?_)
          all_goals (first | refine glq rfl (.inl ⟨rfl, q_ldpN ag3 rfl (by repeat (first | exact .here | assumption | (apply HAt.left; assumption) | apply HAt.there | apply HAt.right)) (by first | rfl | assumption | (simp [*]; done) | fail) (by first | rfl | assumption | (simp [*]; done) | fail) (by constructor)⟩) rfl ?_ | refine glq rfl (.inl ⟨rfl, q_ld1N ag3 rfl (by constructor)⟩) rfl ?_ | refine glq rfl (.inr ⟨rfl, rfl⟩) rfl ?_)
          all_goals (first | refine glq rfl (.inl ⟨rfl, e_callN cb45 (both45_c c.width s.left s.right (by omega) _) rfl rfl⟩) rfl ?_ | refine glq rfl (.inl ⟨rfl, e_callN cb45 (ACall.arg (both45_c c.width s.left s.right (by omega) _) (by repeat (first | exact ArgL.nil | (apply ArgL.cons; (· first | exact .same | exact .cro | exact .nil))))) rfl rfl⟩) rfl ?_ | refine glq rfl (.inr ⟨rfl, rfl⟩) rfl ?_)
          all_goals (first | refine glq rfl (.inl ⟨rfl, q_eqlA gd29 rfl rfl (by repeat constructor) (by repeat constructor) (fun w => eq29 w)⟩) rfl ?_ | refine glq rfl (.inr ⟨rfl, rfl⟩) rfl ?_)
          all_goals (first | refine glq rfl (.inl ⟨rfl, q_pickT rfl (by constructor)⟩) rfl ?_ | refine glq rfl (.inl ⟨rfl, q_pickF rfl (by constructor)⟩) rfl ?_)
          all_goals (refine glq rfl (.inl ⟨rfl, q_mv (by constructor)⟩) rfl ?_)
          all_goals try (refine gcase (fun hb13 => ?_) (fun hb13 => ?_))
          all_goals first | (exfalso; cases hb13; done) | skip
          all_goals (first | refine glq rfl (.inl ⟨rfl, q_ldpW ag136 sz136 rfl (by repeat (first | exact .here | assumption | (apply HAt.left; assumption) | apply HAt.there | apply HAt.right)) (by first | rfl | assumption | (simp [*]; done) | fail) (by first | rfl | assumption | (simp [*]; done) | fail) (by decide)⟩) rfl ?_ | refine glq rfl (.inl ⟨rfl, q_ldW ag136 sz136 rfl (by first | rfl | assumption | (simp [*]; done) | fail)⟩) rfl ?_ | refine glq rfl (.inl ⟨rfl, q_ldpP ag136 sz136 rfl (by repeat (first | exact .here | assumption | (apply HAt.left; assumption) | apply HAt.there | apply HAt.right)) (by first | rfl | assumption | (simp [*]; done) | fail) (by first | decide | (simp; done) | omega | fail) (by decide) (by first | ((repeat constructor); done) | exact .same _)⟩) rfl ?_ | refine glq rfl (.inl ⟨rfl, q_ldP ag136 sz136 rfl (by first | decide | (simp; done) | omega | fail) (by first | ((repeat constructor); done) | exact .same _)⟩) rfl ?_ | refine glq rfl (.inr ⟨rfl, rfl⟩) rfl ?_)
          all_goals (first | refine glq rfl (.inl ⟨rfl, q_fapP fl40_0 (by decide) rfl rfl⟩) rfl ?_ | refine glq rfl (.inl ⟨rfl, q_faP fl40_0 (by decide) rfl (by first | ((repeat constructor); done) | exact .same _)⟩) rfl ?_ | refine glq rfl (.inr ⟨rfl, rfl⟩) rfl ?_)
          all_goals (first | refine glq rfl (.inl ⟨rfl, q_ldpW ag29 sz29 rfl (by repeat (first | exact .here | assumption | (apply HAt.left; assumption) | apply HAt.there | apply HAt.right)) (by first | rfl | assumption | (simp [*]; done) | fail) (by first | rfl | assumption | (simp [*]; done) | fail) (by decide)⟩) rfl ?_ | refine glq rfl (.inl ⟨rfl, q_ldW ag29 sz29 rfl (by first | rfl | assumption | (simp [*]; done) | fail)⟩) rfl ?_ | refine glq rfl (.inl ⟨rfl, q_ldpP ag29 sz29 rfl (by repeat (first | exact .here | assumption | (apply HAt.left; assumption) | apply HAt.there | apply HAt.right)) (by first | rfl | assumption | (simp [*]; done) | fail) (by first | decide | (simp; done) | omega | fail) (by decide) (by first | ((repeat constructor); done) | exact .same _)⟩) rfl ?_ | refine glq rfl (.inl ⟨rfl, q_ldP ag29 sz29 rfl (by first | decide | (simp; done) | omega | fail) (by first | ((repeat constructor); done) | exact .same _)⟩) rfl ?_ | refine glq rfl (.inr ⟨rfl, rfl⟩) rfl ?_)
          all_goals (first | refine glq rfl (.inl ⟨rfl, e_callN cb162 (partOf162_c c (by omega) hn s.key hsk _) rfl rfl⟩) rfl ?_ | refine glq rfl (.inl ⟨rfl, e_callN cb162 (ACall.arg (partOf162_c c (by omega) hn s.key hsk _) (by repeat (first | exact ArgL.nil | (apply ArgL.cons; (· first | exact .same | exact .cro | exact .nil))))) rfl rfl⟩) rfl ?_ | refine glq rfl (.inr ⟨rfl, rfl⟩) rfl ?_)
          all_goals (first | refine glq rfl (.inl ⟨rfl, q_mv (by constructor)⟩) rfl ?_ | refine glq rfl (.inr ⟨rfl, rfl⟩) rfl ?_)
          all_goals (first | refine glq rfl (.inl ⟨rfl, q_eql rfl rfl⟩) rfl ?_ | refine glq rfl (.inr ⟨rfl, rfl⟩) rfl ?_)
          all_goals (first | refine glq rfl (.inl ⟨rfl, q_pickT rfl (by constructor)⟩) rfl ?_ | refine glq rfl (.inl ⟨rfl, q_pickF rfl (by constructor)⟩) rfl ?_)
          all_goals (refine glq rfl (.inl ⟨rfl, q_as (by constructor)⟩) rfl ?_)
          all_goals (first | refine gld0 ?_ | refine gldA ?_)
          all_goals (refine alist_nil ?_)
          all_goals (exact ⟨rfl, .mk' (by repeat (first | exact trivial | refine ⟨rfl, ?_⟩ | (refine ⟨?_, ?_⟩; (· first | (rw [hb1, hb13]; rfl) | (rw [hb1]; rfl) | fail)))) (by repeat (first | exact .refl _ | exact List.nil_sublist _ | exact List.sublist_append_left _ _ | apply List.Sublist.cons))⟩)
         refine awp_seq ?_
         rw [show ((b0 && ((s.key.sum == (bothS s.left s.right c.width).sum) && (s.key.len == (bothS s.left s.right c.width).len))) && decide (partOf c s.key = (i : Int))) = (b0 && slotOk c i s) from by rw [keq, Bool.and_assoc]; rfl]
         refine awp_region ?_
         refine aqs rfl (q_mv (by constructor)) rfl ?_
         refine aqs rfl (q_not rfl) rfl ?_
         refine alist_nil ?_
         show AWP _ _ _ _
         refine awp_cond rfl (fun hc5 => ?_) (fun hc5 => ?_)
         ·have hb : (b0 && slotOk c i s) = false := by rw [Bool.not_eq_true'] at hc5; exact hc5
          have e : allOk c c.parts.length = false := by
           refine allOk_false (i := i + 1) ?_ (by omega)
           rw [← hnx2] at hb
           rw [hnx, partOk, ← hle]
           have hle2 : (l.take (k + 1)).all (slotOk c i) = false ∨ ((allOk c i && rightB l) && decide ((l.length : Int) ≤ roomOf c i)) = false := by
            rw [Bool.and_eq_false_iff] at hb
            exact hb.symm
           rcases hle2 with h | h
           ·have h2 : l.all (slotOk c i) = false := by
             obtain ⟨x, hx, hp⟩ := List.all_eq_false.1 h
             exact List.all_eq_false.2 ⟨x, List.mem_of_mem_take hx, hp⟩
            rw [h2]; simp
           ·rw [show (allOk c i && ((rightB l && decide ((l.length : Int) ≤ roomOf c i)) && l.all (slotOk c i))) = (((allOk c i && rightB l) && decide ((l.length : Int) ≤ roomOf c i)) && l.all (slotOk c i)) by simp only [Bool.and_assoc], h]; rfl
          rw [hb, e]
          refine awp_exit ?_
          show AWP _ _ _ _
          refine awp_seq ?_
          refine awp_region ?_
          refine aqs rfl (q_mv (by constructor)) rfl ?_
          refine aqs rfl (q_as (by constructor)) rfl ?_
          refine alist_nil ?_
          show AWP _ _ _ _
          refine awp_ret ?_
          repeat first | with_reducible refine then_ret ?_ | with_reducible refine blk_ret ?_ | with_reducible refine nogo_ret ?_
          apply retq (.inr rfl) (.cons (rok_t rfl) .nil)
          rotate_left
          ·exact ⟨rfl, rfl⟩
          repeat (first | exact List.Sublist.refl _ | exact List.nil_sublist _ | exact List.sublist_append_left _ _ | apply List.Sublist.cons)
         ·skip
          refine awp_skip ?_
          show AWP _ _ _ _
          refine awp_region ?_
          first | refine aqs rfl (q_add64 rfl rfl (by omega) (by omega)) rfl ?_ | refine aqs rfl (q_add rfl rfl) rfl ?_
          refine aqs rfl (q_mv (by constructor)) rfl ?_
          refine alist_nil ?_
          show ∃ y, _ ∧ _ ∧ _
          exact ⟨k + 1, by omega, by omega, by simp only [hnx2]; exact .mk' ⟨by rfl, rfl, rfl, rfl, rfl, rfl, rfl, rfl, rfl, trivial⟩ (by repeat (first | exact List.Sublist.refl _ | exact List.nil_sublist _ | exact List.sublist_append_left _ _ | (apply List.Sublist.cons_cons) | (apply List.Sublist.cons)))⟩
        ·simp only [decide_eq_false_iff_not] at hc4
         have hkl : l.take k = l := List.take_of_length_le (by omega)
         have hb1 : b0 = allOk c (i + 1) := by
          rw [hb0, hkl, hnx, partOk, ← hle]
          simp only [Bool.and_assoc]
         rw [hb1]
         refine awp_exit ?_
         show AWP _ _ _ _
         refine awp_region ?_
         first | refine aqs rfl (q_add64 rfl rfl (by omega) (by omega)) rfl ?_ | refine aqs rfl (q_add rfl rfl) rfl ?_
         refine aqs rfl (q_mv (by constructor)) rfl ?_
         refine alist_nil ?_
         show ∃ y, _ ∧ _ ∧ _
         exact ⟨i + 1, by omega, by omega, .mk' ⟨by rfl, rfl, rfl, rfl, rfl, trivial⟩ (by repeat (first | exact List.Sublist.refl _ | exact List.nil_sublist _ | exact List.sublist_append_left _ _ | (apply List.Sublist.cons_cons) | (apply List.Sublist.cons)))⟩
      ·simp only [decide_eq_false_iff_not] at hc3
       obtain rfl : i = c.parts.length := by omega
       refine awp_exit ?_
       show AWP _ _ _ _
       refine awp_seq ?_
       refine awp_region ?_
       refine aqs rfl (q_mv (by constructor)) rfl ?_
       refine aqs rfl (q_as (by constructor)) rfl ?_
       refine alist_nil ?_
       show AWP _ _ _ _
       refine awp_ret ?_
       repeat first | with_reducible refine then_ret ?_ | with_reducible refine blk_ret ?_ | with_reducible refine nogo_ret ?_
       apply retq (.inr rfl) (.cons (rok_t rfl) .nil)
       rotate_left
       ·exact ⟨rfl, rfl⟩
       repeat (first | exact List.Sublist.refl _ | exact List.nil_sublist _ | exact List.sublist_append_left _ _ | apply List.Sublist.cons)
set_option maxHeartbeats 4000000 in
theorem right113_c (c : Cach) (hl : CLen c) (H : Heap) : QCall Try.prog 113 [.agg c.cells] H (.lit (.bool (cRight c))) := by
  refine QCall.any H ?_
  have hn := hl.n
  have hcl : (c.parts.map partCells).length = c.parts.length := List.length_map ..
  refine acall_intro (n := 102) (rvs := [.tmp 2]) Try.func113 rfl rfl rfl (Nat.le_of_ble_eq_true rfl) ?_
  refine awp_seq ?_
  refine awp_region ?_
  (refine aes rfl (e_bx (by constructor) rfl rfl) rfl ?_; rintro _ _ ⟨u1, rfl, rfl⟩)
  refine aqs rfl (q_as (by constructor)) rfl ?_
  refine alist_nil ?_
  show AWP _ _ _ _
  refine awp_seq ?_
  refine awp_region ?_
  first | refine aqs rfl (q_fapP fl136_2 (by decide) rfl rfl) rfl ?_ | refine aqs rfl (q_faP fl136_2 (by decide) rfl (by first | ((repeat constructor); done) | exact .same _)) rfl ?_
  first | refine aqs rfl (q_ldpN ag42 rfl (by repeat (first | exact .here | assumption | (apply HAt.left; assumption) | apply HAt.there | apply HAt.right)) (by first | rfl | assumption | (simp [*]; done) | fail) (by first | rfl | assumption | (simp [*]; done) | fail) (by constructor)) rfl ?_ | refine aqs rfl (q_ld1N ag42 rfl (by constructor)) rfl ?_
  first | refine aqs rfl (castQ (r2 := .lit (.int .i64 (c.parts.length : Nat))) (q_len Try.underlying42 .ro) (by rw [hcl])) rfl ?_ | refine aqs rfl (castQ (r2 := .lit (.int .i64 (c.parts.length : Nat))) (q_lenO Try.underlying42 rfl (by repeat (first | exact .here | assumption | (apply HAt.left; assumption) | apply HAt.there | apply HAt.right)) (by first | omega | (simp; done) | (simp; omega) | fail) (by first | exact Nat.sub_zero _ | rfl)) (by rw [hcl])) rfl ?_ | refine aqs rfl (castQ (r2 := .lit (.int .i64 (c.parts.length : Nat))) (q_len Try.underlying42 .nil) (by rw [hcl])) rfl ?_ | refine aqs rfl (castQ (r2 := .lit (.int .i64 (c.parts.length : Nat))) (q_len Try.underlying42 .cro) (by rw [hcl])) rfl ?_
  first | refine aqs rfl (q_fapP fl136_1 (by decide) rfl rfl) rfl ?_ | refine aqs rfl (q_faP fl136_1 (by decide) rfl (by first | ((repeat constructor); done) | exact .same _)) rfl ?_
  first | refine aqs rfl (q_ldpN ag3 rfl (by repeat (first | exact .here | assumption | (apply HAt.left; assumption) | apply HAt.there | apply HAt.right)) (by first | rfl | assumption | (simp [*]; done) | fail) (by first | rfl | assumption | (simp [*]; done) | fail) (by constructor)) rfl ?_ | refine aqs rfl (q_ld1N ag3 rfl (by constructor)) rfl ?_
  first | refine aqs rfl (q_fapP fl136_0 (by decide) rfl rfl) rfl ?_ | refine aqs rfl (q_faP fl136_0 (by decide) rfl (by first | ((repeat constructor); done) | exact .same _)) rfl ?_
  first | refine aqs rfl (q_ldpN ag3 rfl (by repeat (first | exact .here | assumption | (apply HAt.left; assumption) | apply HAt.there | apply HAt.right)) (by first | rfl | assumption | (simp [*]; done) | fail) (by first | rfl | assumption | (simp [*]; done) | fail) (by constructor)) rfl ?_ | refine aqs rfl (q_ld1N ag3 rfl (by constructor)) rfl ?_
  first | refine aqs rfl (e_callN cb159 (fits159_c c.parts.length c.room c.width _) rfl rfl) rfl ?_ | refine aqs rfl (e_callN cb159 (ACall.arg (fits159_c c.parts.length c.room c.width _) (by repeat (first | exact ArgL.nil | (apply ArgL.cons; (· first | exact .same | exact .cro | exact .nil))))) rfl rfl) rfl ?_
  refine aqs rfl (q_as (by constructor)) rfl ?_
  refine alist_nil ?_
  show AWP _ _ _ _
  refine awp_seq ?_
  refine awp_mid [(41, .lit (.bool ((((!cFits c.parts.length c.room c.width || !cCount c.hits) || !cCount c.misses) || !cCount c.clashes) || !cCount c.evicted))), (1, .ptr u1 0 0)] ?_ ?_
  ·skip
   refine awp_region ?_
   all_goals (refine aqs rfl (q_mv (by constructor)) rfl ?_)
   all_goals (refine aqs rfl (q_not rfl) rfl ?_)
   all_goals (refine aqs rfl (q_mv (by constructor)) rfl ?_)
   all_goals try (refine acase (fun hb2 => ?_) (fun hb2 => ?_))
   all_goals first | (exfalso; cases hb2; done) | skip
   all_goals (first | refine ans rfl rfl ?_ | refine aqs rfl (q_fapP fl136_3 (by decide) rfl rfl) rfl ?_ | refine aqs rfl (q_faP fl136_3 (by decide) rfl (by first | ((repeat constructor); done) | exact .same _)) rfl ?_)
   all_goals (first | refine ans rfl rfl ?_ | refine aqs rfl (q_ldpN ag3 rfl (by repeat (first | exact .here | assumption | (apply HAt.left; assumption) | apply HAt.there | apply HAt.right)) (by first | rfl | assumption | (simp [*]; done) | fail) (by first | rfl | assumption | (simp [*]; done) | fail) (by constructor)) rfl ?_ | refine aqs rfl (q_ld1N ag3 rfl (by constructor)) rfl ?_)
   all_goals (first | refine ans rfl rfl ?_ | refine aqs rfl (e_callN cb163 (count163_c c.hits _) rfl rfl) rfl ?_ | refine aqs rfl (e_callN cb163 (ACall.arg (count163_c c.hits _) (by repeat (first | exact ArgL.nil | (apply ArgL.cons; (· first | exact .same | exact .cro | exact .nil))))) rfl rfl) rfl ?_)
   all_goals (first | refine ans rfl rfl ?_ | refine aqs rfl (q_not rfl) rfl ?_)
   all_goals (first | refine aqs rfl (q_pickT rfl (by constructor)) rfl ?_ | refine aqs rfl (q_pickF rfl (by constructor)) rfl ?_)
   all_goals (refine aqs rfl (q_mv (by constructor)) rfl ?_)
   all_goals try (refine acase (fun hb8 => ?_) (fun hb8 => ?_))
   all_goals first | (exfalso; cases hb8; done) | skip
   all_goals (first | refine ans rfl rfl ?_ | refine aqs rfl (q_fapP fl136_4 (by decide) rfl rfl) rfl ?_ | refine aqs rfl (q_faP fl136_4 (by decide) rfl (by first | ((repeat constructor); done) | exact .same _)) rfl ?_)
   all_goals (first | refine ans rfl rfl ?_ | refine aqs rfl (q_ldpN ag3 rfl (by repeat (first | exact .here | assumption | (apply HAt.left; assumption) | apply HAt.there | apply HAt.right)) (by first | rfl | assumption | (simp [*]; done) | fail) (by first | rfl | assumption | (simp [*]; done) | fail) (by constructor)) rfl ?_ | refine aqs rfl (q_ld1N ag3 rfl (by constructor)) rfl ?_)
   all_goals (first | refine ans rfl rfl ?_ | refine aqs rfl (e_callN cb163 (count163_c c.misses _) rfl rfl) rfl ?_ | refine aqs rfl (e_callN cb163 (ACall.arg (count163_c c.misses _) (by repeat (first | exact ArgL.nil | (apply ArgL.cons; (· first | exact .same | exact .cro | exact .nil))))) rfl rfl) rfl ?_)
   all_goals (first | refine ans rfl rfl ?_ | refine aqs rfl (q_not rfl) rfl ?_)
   all_goals (first | refine aqs rfl (q_pickT rfl (by constructor)) rfl ?_ | refine aqs rfl (q_pickF rfl (by constructor)) rfl ?_)
   all_goals (refine aqs rfl (q_mv (by constructor)) rfl ?_)
   all_goals try (refine acase (fun hb14 => ?_) (fun hb14 => ?_))
   all_goals first | (exfalso; cases hb14; done) | skip
   all_goals (first | refine ans rfl rfl ?_ | refine aqs rfl (q_fapP fl136_5 (by decide) rfl rfl) rfl ?_ | refine aqs rfl (q_faP fl136_5 (by decide) rfl (by first | ((repeat constructor); done) | exact .same _)) rfl ?_)
   all_goals (first | refine ans rfl rfl ?_ | refine aqs rfl (q_ldpN ag3 rfl (by repeat (first | exact .here | assumption | (apply HAt.left; assumption) | apply HAt.there | apply HAt.right)) (by first | rfl | assumption | (simp [*]; done) | fail) (by first | rfl | assumption | (simp [*]; done) | fail) (by constructor)) rfl ?_ | refine aqs rfl (q_ld1N ag3 rfl (by constructor)) rfl ?_)
   all_goals (first | refine ans rfl rfl ?_ | refine aqs rfl (e_callN cb163 (count163_c c.clashes _) rfl rfl) rfl ?_ | refine aqs rfl (e_callN cb163 (ACall.arg (count163_c c.clashes _) (by repeat (first | exact ArgL.nil | (apply ArgL.cons; (· first | exact .same | exact .cro | exact .nil))))) rfl rfl) rfl ?_)
   all_goals (first | refine ans rfl rfl ?_ | refine aqs rfl (q_not rfl) rfl ?_)
   all_goals (first | refine aqs rfl (q_pickT rfl (by constructor)) rfl ?_ | refine aqs rfl (q_pickF rfl (by constructor)) rfl ?_)
   all_goals (refine aqs rfl (q_mv (by constructor)) rfl ?_)
   all_goals try (refine acase (fun hb20 => ?_) (fun hb20 => ?_))
   all_goals first | (exfalso; cases hb20; done) | skip
   all_goals (first | refine ans rfl rfl ?_ | refine aqs rfl (q_fapP fl136_6 (by decide) rfl rfl) rfl ?_ | refine aqs rfl (q_faP fl136_6 (by decide) rfl (by first | ((repeat constructor); done) | exact .same _)) rfl ?_)
   all_goals (first | refine ans rfl rfl ?_ | refine aqs rfl (q_ldpN ag3 rfl (by repeat (first | exact .here | assumption | (apply HAt.left; assumption) | apply HAt.there | apply HAt.right)) (by first | rfl | assumption | (simp [*]; done) | fail) (by first | rfl | assumption | (simp [*]; done) | fail) (by constructor)) rfl ?_ | refine aqs rfl (q_ld1N ag3 rfl (by constructor)) rfl ?_)
   all_goals (first | refine ans rfl rfl ?_ | refine aqs rfl (e_callN cb163 (count163_c c.evicted _) rfl rfl) rfl ?_ | refine aqs rfl (e_callN cb163 (ACall.arg (count163_c c.evicted _) (by repeat (first | exact ArgL.nil | (apply ArgL.cons; (· first | exact .same | exact .cro | exact .nil))))) rfl rfl) rfl ?_)
   all_goals (first | refine ans rfl rfl ?_ | refine aqs rfl (q_not rfl) rfl ?_)
   all_goals (first | refine aqs rfl (q_pickT rfl (by constructor)) rfl ?_ | refine aqs rfl (q_pickF rfl (by constructor)) rfl ?_)
   all_goals (refine alist_nil ?_)
   all_goals (exact ⟨rfl, .mk' (by repeat (first | exact trivial | refine ⟨rfl, ?_⟩ | (refine ⟨?_, ?_⟩; (· first | (rw [hb2, hb8, hb14, hb20]; rfl) | (rw [hb2, hb8, hb14]; rfl) | (rw [hb2, hb8]; rfl) | (rw [hb2]; rfl) | fail)))) (by repeat (first | exact .refl _ | exact List.nil_sublist _ | exact List.sublist_append_left _ _ | apply List.Sublist.cons))⟩)
  refine awp_cond rfl (fun hc0 => ?_) (fun hc0 => ?_)
  ·have e : cRight c = false := by
    have hc0 : ((((!cFits c.parts.length c.room c.width || !cCount c.hits) || !cCount c.misses) || !cCount c.clashes) || !cCount c.evicted) = true := hc0
    unfold cRight
    revert hc0
    cases cFits c.parts.length c.room c.width <;> cases cCount c.hits <;> cases cCount c.misses <;> cases cCount c.clashes <;> cases cCount c.evicted <;> simp
   rw [e]
   refine awp_seq ?_
   refine awp_region ?_
   refine aqs rfl (q_as (by constructor)) rfl ?_
   refine alist_nil ?_
   show AWP _ _ _ _
   refine awp_ret ?_
   repeat first | with_reducible refine then_ret ?_ | with_reducible refine blk_ret ?_ | with_reducible refine nogo_ret ?_
   apply retq (.inr rfl) (.cons (rok_t rfl) .nil)
   rotate_left
   ·exact ⟨rfl, rfl⟩
   repeat (first | exact List.Sublist.refl _ | exact List.nil_sublist _ | exact List.sublist_append_left _ _ | apply List.Sublist.cons)
  ·have hc0 : ((((!cFits c.parts.length c.room c.width || !cCount c.hits) || !cCount c.misses) || !cCount c.clashes) || !cCount c.evicted) = false := hc0
   have hall5 : cFits c.parts.length c.room c.width = true ∧ cCount c.hits = true ∧ cCount c.misses = true ∧ cCount c.clashes = true ∧ cCount c.evicted = true := by
    revert hc0
    cases cFits c.parts.length c.room c.width <;> cases cCount c.hits <;> cases cCount c.misses <;> cases cCount c.clashes <;> cases cCount c.evicted <;> simp
   obtain ⟨hf, h1, h2, h3, h4⟩ := hall5
   obtain ⟨hf1, hf2, hf3⟩ := fits_prop hf
   have e : cRight c = allOk c c.parts.length := by rw [cRight, hf, h1, h2, h3, h4]; rfl
   rw [e]
   refine awp_skip ?_
   show AWP _ _ _ _
   refine awp_seq ?_
   refine awp_seq ?_
   refine awp_region ?_
   refine aqs rfl (q_as (by constructor)) rfl ?_
   refine alist_nil ?_
   show AWP _ _ _ _
   refine awp_block ?_
   refine awp_loop_inv (fun i : Nat => ⟨[(4, .lit (.int .i64 i)), (1, .ptr u1 0 0)], 102, [(u1, .arr 136 7 [c.cells])]⟩) (fun i => i ≤ c.parts.length ∧ allOk c i = true) (fun i => c.parts.length - i) 0 ?_ ?_ ?_
   ·exact ⟨Nat.zero_le _, rfl⟩
   ·exact .mk' (by repeat (first | exact trivial | refine ⟨rfl, ?_⟩)) (by repeat (first | exact .refl _ | apply List.Sublist.cons_cons | apply List.Sublist.cons))
   ·rintro i ⟨hi, hok⟩
    refine awp_seq ?_
    refine awp_seq ?_
    refine awp_region ?_
    refine aqs rfl (q_mv (by constructor)) rfl ?_
    first | refine aqs rfl (q_fapP fl136_2 (by decide) rfl rfl) rfl ?_ | refine aqs rfl (q_faP fl136_2 (by decide) rfl (by first | ((repeat constructor); done) | exact .same _)) rfl ?_
    first | refine aqs rfl (q_ldpN ag42 rfl (by repeat (first | exact .here | assumption | (apply HAt.left; assumption) | apply HAt.there | apply HAt.right)) (by first | rfl | assumption | (simp [*]; done) | fail) (by first | rfl | assumption | (simp [*]; done) | fail) (by constructor)) rfl ?_ | refine aqs rfl (q_ld1N ag42 rfl (by constructor)) rfl ?_
    first | refine aqs rfl (q_len Try.underlying42 .ro) rfl ?_ | refine aqs rfl (q_lenO Try.underlying42 rfl (by repeat (first | exact .here | assumption | (apply HAt.left; assumption) | apply HAt.there | apply HAt.right)) (by first | omega | (simp; done) | (simp; omega) | fail) (by first | exact Nat.sub_zero _ | rfl)) rfl ?_ | refine aqs rfl (q_len Try.underlying42 .nil) rfl ?_ | refine aqs rfl (q_len Try.underlying42 .cro) rfl ?_
    refine aqs rfl (q_lss rfl rfl) rfl ?_
    refine alist_nil ?_
    show AWP _ _ _ _
    refine awp_cond rfl (fun hc1 => ?_) (fun hc1 => ?_)
    ·simp only [decide_eq_true_eq] at hc1
     have hil : i < c.parts.length := by omega
     have hs2 := pt_row hil
     have hpl := hl.l i
     have hpt := hl.t i
     have hpk := hl.k i
     have hnx := allOk_next c i
     rw [hok, Bool.true_and] at hnx
     obtain ⟨l, hle⟩ : ∃ l, l = pt c i := ⟨_, rfl⟩
     rw [← hle] at hs2 hpl hpt hpk
     have hml : (l.map Slot.cells).length = l.length := List.length_map ..
     refine awp_skip ?_
     show AWP _ _ _ _
     refine awp_seq ?_
     refine awp_block ?_
     refine awp_seq ?_
     refine awp_region ?_
     first | refine aqs rfl (q_fapP fl136_2 (by decide) rfl rfl) rfl ?_ | refine aqs rfl (q_faP fl136_2 (by decide) rfl (by first | ((repeat constructor); done) | exact .same _)) rfl ?_
     first | refine aqs rfl (q_ldpN ag42 rfl (by repeat (first | exact .here | assumption | (apply HAt.left; assumption) | apply HAt.there | apply HAt.right)) (by first | rfl | assumption | (simp [*]; done) | fail) (by first | rfl | assumption | (simp [*]; done) | fail) (by constructor)) rfl ?_ | refine aqs rfl (q_ld1N ag42 rfl (by constructor)) rfl ?_
     refine aqs rfl (q_mv (by constructor)) rfl ?_
     first | refine aqs rfl (q_iaN Try.underlying42 sz38 (.inl rfl) rfl (by omega) (by first | rfl | assumption | (simp [*]; done) | fail) (by first | rfl | assumption | (simp [*]; done) | fail) (by decide) (by first | ((repeat constructor); done) | exact .same _)) rfl ?_ | refine aqs rfl (q_iaS Try.underlying42 sz38 rfl (by repeat (first | exact .here | assumption | (apply HAt.left; assumption) | apply HAt.there | apply HAt.right)) rfl (by omega) (by omega) (by first | exact Nat.zero_add _ | rfl)) rfl ?_ | refine aqs rfl (q_iaN Try.underlying42 sz38 (.inr rfl) rfl (by omega) (by first | rfl | assumption | (simp [*]; done) | fail) (by first | rfl | assumption | (simp [*]; done) | fail) (by decide) (by first | ((repeat constructor); done) | exact .same _)) rfl ?_
     first | refine aqs rfl (q_ldpN ag38 rfl (by repeat (first | exact .here | assumption | (apply HAt.left; assumption) | apply HAt.there | apply HAt.right)) (by first | rfl | assumption | (simp [*]; done) | fail) (by first | rfl | assumption | (simp [*]; done) | fail) (by constructor)) rfl ?_ | refine aqs rfl (q_ld1N ag38 rfl (by constructor)) rfl ?_
     refine aqs rfl (q_as (by constructor)) rfl ?_
     refine alist_nil ?_
     show AWP _ _ _ _
     refine awp_seq ?_
     refine awp_region ?_
     refine aqs rfl (q_mv (by constructor)) rfl ?_
     first | refine aqs rfl (e_callN cb52 (right52_c l (by omega) _) rfl rfl) rfl ?_ | refine aqs rfl (e_callN cb52 (ACall.arg (right52_c l (by omega) _) (by repeat (first | exact ArgL.nil | (apply ArgL.cons; (· first | exact .same | exact .cro | exact .nil))))) rfl rfl) rfl ?_
     refine aqs rfl (q_as (by constructor)) rfl ?_
     refine alist_nil ?_
     show AWP _ _ _ _
     refine awp_seq ?_
     refine awp_mid [(65, .lit (.bool (!rightB l || decide (roomOf c i < (l.length : Int))))), (5, .ro (l.map Slot.cells)), (4, .lit (.int .i64 i)), (1, .ptr u1 0 0)] ?_ ?_
     ·skip
      refine awp_region ?_
      all_goals (refine aqs rfl (q_mv (by constructor)) rfl ?_)
      all_goals (refine aqs rfl (q_not rfl) rfl ?_)
      all_goals (refine aqs rfl (q_mv (by constructor)) rfl ?_)
      all_goals try (refine acase (fun hb2 => ?_) (fun hb2 => ?_))
      all_goals first | (exfalso; cases hb2; done) | skip
      all_goals (first | refine ans rfl rfl ?_ | refine aqs rfl (q_mv (by constructor)) rfl ?_)
      all_goals (first | refine ans rfl rfl ?_ | refine aqs rfl (castQ (r2 := .lit (.int .i64 (l.length : Nat))) (q_len Try.underlying38 .ro) (by rw [hml])) rfl ?_ | refine aqs rfl (castQ (r2 := .lit (.int .i64 (l.length : Nat))) (q_lenO Try.underlying38 rfl (by repeat (first | exact .here | assumption | (apply HAt.left; assumption) | apply HAt.there | apply HAt.right)) (by first | omega | (simp; done) | (simp; omega) | fail) (by first | exact Nat.sub_zero _ | rfl)) (by rw [hml])) rfl ?_ | refine aqs rfl (castQ (r2 := .lit (.int .i64 (l.length : Nat))) (q_len Try.underlying38 .nil) (by rw [hml])) rfl ?_ | refine aqs rfl (castQ (r2 := .lit (.int .i64 (l.length : Nat))) (q_len Try.underlying38 .cro) (by rw [hml])) rfl ?_)
      all_goals (first | refine ans rfl rfl ?_ | refine aqs rfl (q_ldpW ag136 sz136 rfl (by repeat (first | exact .here | assumption | (apply HAt.left; assumption) | apply HAt.there | apply HAt.right)) (by first | rfl | assumption | (simp [*]; done) | fail) (by first | rfl | assumption | (simp [*]; done) | fail) (by decide)) rfl ?_ | refine aqs rfl (q_ldW ag136 sz136 rfl (by first | rfl | assumption | (simp [*]; done) | fail)) rfl ?_ | refine aqs rfl (q_ldpP ag136 sz136 rfl (by repeat (first | exact .here | assumption | (apply HAt.left; assumption) | apply HAt.there | apply HAt.right)) (by first | rfl | assumption | (simp [*]; done) | fail) (by first | decide | (simp; done) | omega | fail) (by decide) (by first | ((repeat constructor); done) | exact .same _)) rfl ?_ | refine aqs rfl (q_ldP ag136 sz136 rfl (by first | decide | (simp; done) | omega | fail) (by first | ((repeat constructor); done) | exact .same _)) rfl ?_)
      all_goals (first | refine ans rfl rfl ?_ | refine aqs rfl (q_mv (by constructor)) rfl ?_)
      all_goals (first | refine ans rfl rfl ?_ | refine aqs rfl (e_callN cb164 (room164_c c (by omega) hn hf2 i _) rfl rfl) rfl ?_ | refine aqs rfl (e_callN cb164 (ACall.arg (room164_c c (by omega) hn hf2 i _) (by repeat (first | exact ArgL.nil | (apply ArgL.cons; (· first | exact .same | exact .cro | exact .nil))))) rfl rfl) rfl ?_)
      all_goals (first | refine ans rfl rfl ?_ | refine aqs rfl (q_gtr rfl rfl) rfl ?_)
      all_goals (first | refine aqs rfl (q_pickT rfl (by constructor)) rfl ?_ | refine aqs rfl (q_pickF rfl (by constructor)) rfl ?_)
      all_goals (refine alist_nil ?_)
      all_goals (exact ⟨rfl, .mk' (by repeat (first | exact trivial | refine ⟨rfl, ?_⟩ | (refine ⟨?_, ?_⟩; (· first | (rw [hb2]; rfl) | fail)))) (by repeat (first | exact .refl _ | exact List.nil_sublist _ | exact List.sublist_append_left _ _ | apply List.Sublist.cons))⟩)
     refine awp_cond rfl (fun hc2 => ?_) (fun hc2 => ?_)
     ·have e2 : allOk c c.parts.length = false := by
       refine allOk_false (i := i + 1) ?_ (by omega)
       rw [hnx, partOk, ← hle]
       have hc2 : (!rightB l || decide (roomOf c i < (l.length : Int))) = true := hc2
       rw [Bool.or_eq_true, Bool.not_eq_true', decide_eq_true_eq] at hc2
       rcases hc2 with h | h
       ·rw [h]; rfl
       ·rw [decide_eq_false (show ¬ (l.length : Int) ≤ roomOf c i by omega)]; simp
      rw [e2]
      refine awp_seq ?_
      refine awp_region ?_
      refine aqs rfl (q_as (by constructor)) rfl ?_
      refine alist_nil ?_
      show AWP _ _ _ _
      refine awp_ret ?_
      repeat first | with_reducible refine then_ret ?_ | with_reducible refine blk_ret ?_ | with_reducible refine nogo_ret ?_
      apply retq (.inr rfl) (.cons (rok_t rfl) .nil)
      rotate_left
      ·exact ⟨rfl, rfl⟩
      repeat (first | exact List.Sublist.refl _ | exact List.nil_sublist _ | exact List.sublist_append_left _ _ | apply List.Sublist.cons)
     ·have hc2 : (!rightB l || decide (roomOf c i < (l.length : Int))) = false := hc2
      rw [Bool.or_eq_false_iff, Bool.not_eq_false', decide_eq_false_iff_not] at hc2
      obtain ⟨hr1, hr2⟩ := hc2
      refine awp_skip ?_
      show AWP _ _ _ _
      refine awp_seq ?_
      refine awp_region ?_
      refine aqs rfl (q_as (by constructor)) rfl ?_
      refine alist_nil ?_
      show AWP _ _ _ _
      refine awp_block ?_
      refine awp_loop_inv (fun k : Nat => ⟨[(7, .lit (.int .i64 k)), (5, .ro (l.map Slot.cells)), (4, .lit (.int .i64 i)), (1, .ptr u1 0 0)], 102, [(u1, .arr 136 7 [c.cells])]⟩) (fun k => k ≤ l.length ∧ (l.take k).all (slotOk c i) = true) (fun k => l.length - k) 0 ?_ ?_ ?_
      ·exact ⟨Nat.zero_le _, rfl⟩
      ·exact .mk' (by repeat (first | exact trivial | refine ⟨rfl, ?_⟩)) (by repeat (first | exact .refl _ | apply List.Sublist.cons_cons | apply List.Sublist.cons))
      ·rintro k ⟨hk, hak⟩
       refine awp_seq ?_
       refine awp_seq ?_
       refine awp_region ?_
       refine aqs rfl (q_mv (by constructor)) rfl ?_
       refine aqs rfl (q_mv (by constructor)) rfl ?_
       first | refine aqs rfl (q_len Try.underlying38 .ro) rfl ?_ | refine aqs rfl (q_lenO Try.underlying38 rfl (by repeat (first | exact .here | assumption | (apply HAt.left; assumption) | apply HAt.there | apply HAt.right)) (by first | omega | (simp; done) | (simp; omega) | fail) (by first | exact Nat.sub_zero _ | rfl)) rfl ?_ | refine aqs rfl (q_len Try.underlying38 .nil) rfl ?_ | refine aqs rfl (q_len Try.underlying38 .cro) rfl ?_
       refine aqs rfl (q_lss rfl rfl) rfl ?_
       refine alist_nil ?_
       show AWP _ _ _ _
       refine awp_cond rfl (fun hc3 => ?_) (fun hc3 => ?_)
       ·simp only [decide_eq_true_eq] at hc3
        obtain ⟨s, hs, hsm⟩ := get_lt (l := l) (i := k) (by omega)
        have hss := get_map (f := Slot.cells) hs
        have hst := hpt s hsm
        have hsk := hpk s hsm
        refine awp_skip ?_
        show AWP _ _ _ _
        refine awp_seq ?_
        refine awp_block ?_
        refine awp_mid [(101, .lit (.bool (!((s.key.sum == (bothS s.left s.right c.width).sum) && (s.key.len == (bothS s.left s.right c.width).len)) || !decide (partOf c s.key = (i : Int))))), (7, .lit (.int .i64 k)), (5, .ro (l.map Slot.cells)), (4, .lit (.int .i64 i)), (1, .ptr u1 0 0)] ?_ ?_
        ·skip
         refine awp_draw 30 [(0, false), (1, false), (2, false), (3, false), (4, false), (5, false), (6, false), (7, false), (8, false), (9, false), (10, false), (11, false), (12, false), (13, false), (14, false), (15, false), (16, false), (17, false), (18, false), (19, false), (20, false), (21, false), (22, false), (23, false), (24, false), (25, false), (26, false), (27, false), (28, false), (29, false)] _ ([]) mixed (by kernel_rfl) (perm0 _) ?_
         all_goals (refine glq rfl (.inl ⟨rfl, q_mv (by constructor)⟩) rfl ?_)
         all_goals (refine glq rfl (.inl ⟨rfl, q_mv (by constructor)⟩) rfl ?_)
         all_goals (first | refine glq rfl (.inl ⟨rfl, q_iaN Try.underlying38 sz40 (.inl rfl) rfl (by omega) (by first | rfl | assumption | (simp [*]; done) | fail) (by first | rfl | assumption | (simp [*]; done) | fail) (by decide) (by first | ((repeat constructor); done) | exact .same _)⟩) rfl ?_ | refine glq rfl (.inl ⟨rfl, q_iaS Try.underlying38 sz40 rfl (by repeat (first | exact .here | assumption | (apply HAt.left; assumption) | apply HAt.there | apply HAt.right)) rfl (by omega) (by omega) (by first | exact Nat.zero_add _ | rfl)⟩) rfl ?_ | refine glq rfl (.inl ⟨rfl, q_iaN Try.underlying38 sz40 (.inr rfl) rfl (by omega) (by first | rfl | assumption | (simp [*]; done) | fail) (by first | rfl | assumption | (simp [*]; done) | fail) (by decide) (by first | ((repeat constructor); done) | exact .same _)⟩) rfl ?_)
         all_goals (first | refine glq rfl (.inl ⟨rfl, q_fapP fl40_0 (by decide) rfl rfl⟩) rfl ?_ | refine glq rfl (.inl ⟨rfl, q_faP fl40_0 (by decide) rfl (by first | ((repeat constructor); done) | exact .same _)⟩) rfl ?_)
         all_goals (first | refine glq rfl (.inl ⟨rfl, q_ldpW ag29 sz29 rfl (by repeat (first | exact .here | assumption | (apply HAt.left; assumption) | apply HAt.there | apply HAt.right)) (by first | rfl | assumption | (simp [*]; done) | fail) (by first | rfl | assumption | (simp [*]; done) | fail) (by decide)⟩) rfl ?_ | refine glq rfl (.inl ⟨rfl, q_ldW ag29 sz29 rfl (by first | rfl | assumption | (simp [*]; done) | fail)⟩) rfl ?_ | refine glq rfl (.inl ⟨rfl, q_ldpP ag29 sz29 rfl (by repeat (first | exact .here | assumption | (apply HAt.left; assumption) | apply HAt.there | apply HAt.right)) (by first | rfl | assumption | (simp [*]; done) | fail) (by first | decide | (simp; done) | omega | fail) (by decide) (by first | ((repeat constructor); done) | exact .same _)⟩) rfl ?_ | refine glq rfl (.inl ⟨rfl, q_ldP ag29 sz29 rfl (by first | decide | (simp; done) | omega | fail) (by first | ((repeat constructor); done) | exact .same _)⟩) rfl ?_)
         all_goals (refine glq rfl (.inl ⟨rfl, q_mv (by constructor)⟩) rfl ?_)
         all_goals (refine glq rfl (.inl ⟨rfl, q_mv (by constructor)⟩) rfl ?_)
         all_goals (first | refine glq rfl (.inl ⟨rfl, q_iaN Try.underlying38 sz40 (.inl rfl) rfl (by omega) (by first | rfl | assumption | (simp [*]; done) | fail) (by first | rfl | assumption | (simp [*]; done) | fail) (by decide) (by first | ((repeat constructor); done) | exact .same _)⟩) rfl ?_ | refine glq rfl (.inl ⟨rfl, q_iaS Try.underlying38 sz40 rfl (by repeat (first | exact .here | assumption | (apply HAt.left; assumption) | apply HAt.there | apply HAt.right)) rfl (by omega) (by omega) (by first | exact Nat.zero_add _ | rfl)⟩) rfl ?_ | refine glq rfl (.inl ⟨rfl, q_iaN Try.underlying38 sz40 (.inr rfl) rfl (by omega) (by first | rfl | assumption | (simp [*]; done) | fail) (by first | rfl | assumption | (simp [*]; done) | fail) (by decide) (by first | ((repeat constructor); done) | exact .same _)⟩) rfl ?_)
         all_goals (first | refine glq rfl (.inl ⟨rfl, q_fapP fl40_1 (by decide) rfl rfl⟩) rfl ?_ | refine glq rfl (.inl ⟨rfl, q_faP fl40_1 (by decide) rfl (by first | ((repeat constructor); done) | exact .same _)⟩) rfl ?_)
         all_goals (first | refine glq rfl (.inl ⟨rfl, q_ldpN ag9 rfl (by repeat (first | exact .here | assumption | (apply HAt.left; assumption) | apply HAt.there | apply HAt.right)) (by first | rfl | assumption | (simp [*]; done) | fail) (by first | rfl | assumption | (simp [*]; done) | fail) (by constructor)⟩) rfl ?_ | refine glq rfl (.inl ⟨rfl, q_ld1N ag9 rfl (by constructor)⟩) rfl ?_)
         all_goals (refine glq rfl (.inl ⟨rfl, q_mv (by constructor)⟩) rfl ?_)
         all_goals (refine glq rfl (.inl ⟨rfl, q_mv (by constructor)⟩) rfl ?_)
         all_goals (first | refine glq rfl (.inl ⟨rfl, q_iaN Try.underlying38 sz40 (.inl rfl) rfl (by omega) (by first | rfl | assumption | (simp [*]; done) | fail) (by first | rfl | assumption | (simp [*]; done) | fail) (by decide) (by first | ((repeat constructor); done) | exact .same _)⟩) rfl ?_ | refine glq rfl (.inl ⟨rfl, q_iaS Try.underlying38 sz40 rfl (by repeat (first | exact .here | assumption | (apply HAt.left; assumption) | apply HAt.there | apply HAt.right)) rfl (by omega) (by omega) (by first | exact Nat.zero_add _ | rfl)⟩) rfl ?_ | refine glq rfl (.inl ⟨rfl, q_iaN Try.underlying38 sz40 (.inr rfl) rfl (by omega) (by first | rfl | assumption | (simp [*]; done) | fail) (by first | rfl | assumption | (simp [*]; done) | fail) (by decide) (by first | ((repeat constructor); done) | exact .same _)⟩) rfl ?_)
         all_goals (first | refine glq rfl (.inl ⟨rfl, q_fapP fl40_2 (by decide) rfl rfl⟩) rfl ?_ | refine glq rfl (.inl ⟨rfl, q_faP fl40_2 (by decide) rfl (by first | ((repeat constructor); done) | exact .same _)⟩) rfl ?_)
         all_goals (first | refine glq rfl (.inl ⟨rfl, q_ldpN ag9 rfl (by repeat (first | exact .here | assumption | (apply HAt.left; assumption) | apply HAt.there | apply HAt.right)) (by first | rfl | assumption | (simp [*]; done) | fail) (by first | rfl | assumption | (simp [*]; done) | fail) (by constructor)⟩) rfl ?_ | refine glq rfl (.inl ⟨rfl, q_ld1N ag9 rfl (by constructor)⟩) rfl ?_)
         all_goals (first | refine glq rfl (.inl ⟨rfl, q_fapP fl136_0 (by decide) rfl rfl⟩) rfl ?_ | refine glq rfl (.inl ⟨rfl, q_faP fl136_0 (by decide) rfl (by first | ((repeat constructor); done) | exact .same _)⟩) rfl ?_)
         all_goals (first | refine glq rfl (.inl ⟨rfl, q_ldpN ag3 rfl (by repeat (first | exact .here | assumption | (apply HAt.left; assumption) | apply HAt.there | apply HAt.right)) (by first | rfl | assumption | (simp [*]; done) | fail) (by first | rfl | assumption | (simp [*]; done) | fail) (by constructor)⟩) rfl ?_ | refine glq rfl (.inl ⟨rfl, q_ld1N ag3 rfl (by constructor)⟩) rfl ?_)
         all_goals (first | refine glq rfl (.inl ⟨rfl, e_callN cb46 (both46_c c.width s.left s.right (by omega) _) rfl rfl⟩) rfl ?_ | refine glq rfl (.inl ⟨rfl, e_callN cb46 (ACall.arg (both46_c c.width s.left s.right (by omega) _) (by repeat (first | exact ArgL.nil | (apply ArgL.cons; (· first | exact .same | exact .cro | exact .nil))))) rfl rfl⟩) rfl ?_)
         all_goals (refine glq rfl (.inl ⟨rfl, q_neqA gd29 rfl rfl (by repeat constructor) (by repeat constructor) (fun w => eq29 w)⟩) rfl ?_)
         all_goals (refine glq rfl (.inl ⟨rfl, q_mv (by constructor)⟩) rfl ?_)
         all_goals try (refine gcase (fun hb19 => ?_) (fun hb19 => ?_))
         all_goals first | (exfalso; cases hb19; done) | skip
         all_goals (first | refine glq rfl (.inl ⟨rfl, q_ldpW ag136 sz136 rfl (by repeat (first | exact .here | assumption | (apply HAt.left; assumption) | apply HAt.there | apply HAt.right)) (by first | rfl | assumption | (simp [*]; done) | fail) (by first | rfl | assumption | (simp [*]; done) | fail) (by decide)⟩) rfl ?_ | refine glq rfl (.inl ⟨rfl, q_ldW ag136 sz136 rfl (by first | rfl | assumption | (simp [*]; done) | fail)⟩) rfl ?_ | refine glq rfl (.inl ⟨rfl, q_ldpP ag136 sz136 rfl (by repeat (first | exact .here | assumption | (apply HAt.left; assumption) | apply HAt.there | apply HAt.right)) (by first | rfl | assumption | (simp [*]; done) | fail) (by first | decide | (simp; done) | omega | fail) (by decide) (by first | ((repeat constructor); done) | exact .same _)⟩) rfl ?_ | refine glq rfl (.inl ⟨rfl, q_ldP ag136 sz136 rfl (by first | decide | (simp; done) | omega | fail) (by first | ((repeat constructor); done) | exact .same _)⟩) rfl ?_ | refine glq rfl (.inr ⟨rfl, rfl⟩) rfl ?_)
         all_goals (first | refine glq rfl (.inl ⟨rfl, q_mv (by constructor)⟩) rfl ?_ | refine glq rfl (.inr ⟨rfl, rfl⟩) rfl ?_)
         all_goals (first | refine glq rfl (.inl ⟨rfl, q_mv (by constructor)⟩) rfl ?_ | refine glq rfl (.inr ⟨rfl, rfl⟩) rfl ?_)
         all_goals (first | refine glq rfl (.inl ⟨rfl, q_iaN Try.underlying38 sz40 (.inl rfl) rfl (by omega) (by first | rfl | assumption | (simp [*]; done) | fail) (by first | rfl | assumption | (simp [*]; done) | fail) (by decide) (by first | ((repeat constructor); done) | exact .same _)⟩) rfl ?_ | refine glq rfl (.inl ⟨rfl, q_iaS Try.underlying38 sz40 rfl (by repeat (first | exact .here | assumption | (apply HAt.left; assumption) | apply HAt.there | apply HAt.right)) rfl (by omega) (by omega) (by first | exact Nat.zero_add _ | rfl)⟩) rfl ?_ | refine glq rfl (.inl ⟨rfl, q_iaN Try.underlying38 sz40 (.inr rfl) rfl (by omega) (by first | rfl | assumption | (simp [*]; done) | fail) (by first | rfl | assumption | (simp [*]; done) | fail) (by decide) (by first | ((repeat constructor); done) | exact .same _)⟩) rfl ?_ | refine glq rfl (.inr ⟨rfl, rfl⟩) rfl ?_)
         all_goals (first | refine glq rfl (.inl ⟨rfl, q_fapP fl40_0 (by decide) rfl rfl⟩) rfl ?_ | refine glq rfl (.inl ⟨rfl, q_faP fl40_0 (by decide) rfl (by first | ((repeat constructor); done) | exact .same _)⟩) rfl ?_ | refine glq rfl (.inr ⟨rfl, rfl⟩) rfl ?_)
         all_goals (first | refine glq rfl (.inl ⟨rfl, q_ldpW ag29 sz29 rfl (by repeat (first | exact .here | assumption | (apply HAt.left; assumption) | apply HAt.there | apply HAt.right)) (by first | rfl | assumption | (simp [*]; done) | fail) (by first | rfl | assumption | (simp [*]; done) | fail) (by decide)⟩) rfl ?_ | refine glq rfl (.inl ⟨rfl, q_ldW ag29 sz29 rfl (by first | rfl | assumption | (simp [*]; done) | fail)⟩) rfl ?_ | refine glq rfl (.inl ⟨rfl, q_ldpP ag29 sz29 rfl (by repeat (first | exact .here | assumption | (apply HAt.left; assumption) | apply HAt.there | apply HAt.right)) (by first | rfl | assumption | (simp [*]; done) | fail) (by first | decide | (simp; done) | omega | fail) (by decide) (by first | ((repeat constructor); done) | exact .same _)⟩) rfl ?_ | refine glq rfl (.inl ⟨rfl, q_ldP ag29 sz29 rfl (by first | decide | (simp; done) | omega | fail) (by first | ((repeat constructor); done) | exact .same _)⟩) rfl ?_ | refine glq rfl (.inr ⟨rfl, rfl⟩) rfl ?_)
         all_goals (first | refine glq rfl (.inl ⟨rfl, e_callN cb165 (part165_c c (by omega) hn s.key hsk _) rfl rfl⟩) rfl ?_ | refine glq rfl (.inl ⟨rfl, e_callN cb165 (ACall.arg (part165_c c (by omega) hn s.key hsk _) (by repeat (first | exact ArgL.nil | (apply ArgL.cons; (· first | exact .same | exact .cro | exact .nil))))) rfl rfl⟩) rfl ?_ | refine glq rfl (.inr ⟨rfl, rfl⟩) rfl ?_)
         all_goals (first | refine glq rfl (.inl ⟨rfl, q_mv (by constructor)⟩) rfl ?_ | refine glq rfl (.inr ⟨rfl, rfl⟩) rfl ?_)
         all_goals (first | refine glq rfl (.inl ⟨rfl, q_neq rfl rfl⟩) rfl ?_ | refine glq rfl (.inr ⟨rfl, rfl⟩) rfl ?_)
         all_goals (first | refine glq rfl (.inl ⟨rfl, q_pickT rfl (by constructor)⟩) rfl ?_ | refine glq rfl (.inl ⟨rfl, q_pickF rfl (by constructor)⟩) rfl ?_)
         all_goals (first | refine gld0 ?_ | refine gldA ?_)
         all_goals (refine alist_nil ?_)
         all_goals (exact ⟨rfl, .mk' (by repeat (first | exact trivial | refine ⟨rfl, ?_⟩ | (refine ⟨?_, ?_⟩; (· first | (rw [hb19]; rfl) | fail)))) (by repeat (first | exact .refl _ | exact List.nil_sublist _ | exact List.sublist_append_left _ _ | apply List.Sublist.cons))⟩)
        refine awp_cond rfl (fun hc4 => ?_) (fun hc4 => ?_)
        ·have hc4 : (!((s.key.sum == (bothS s.left s.right c.width).sum) && (s.key.len == (bothS s.left s.right c.width).len)) || !decide (partOf c s.key = (i : Int))) = true := hc4
         rw [keq, ← Bool.not_and] at hc4
         have hso : slotOk c i s = false := by rw [Bool.not_eq_true'] at hc4; exact hc4
         have e2 : allOk c c.parts.length = false := by
          refine allOk_false (i := i + 1) ?_ (by omega)
          rw [hnx, partOk, ← hle]
          have h2 : l.all (slotOk c i) = false := List.all_eq_false.2 ⟨s, hsm, by rw [hso]; simp⟩
          rw [h2]; simp
         rw [e2]
         refine awp_seq ?_
         refine awp_region ?_
         refine aqs rfl (q_as (by constructor)) rfl ?_
         refine alist_nil ?_
         show AWP _ _ _ _
         refine awp_ret ?_
         repeat first | with_reducible refine then_ret ?_ | with_reducible refine blk_ret ?_ | with_reducible refine nogo_ret ?_
         apply retq (.inr rfl) (.cons (rok_t rfl) .nil)
         rotate_left
         ·exact ⟨rfl, rfl⟩
         repeat (first | exact List.Sublist.refl _ | exact List.nil_sublist _ | exact List.sublist_append_left _ _ | apply List.Sublist.cons)
        ·have hc4 : (!((s.key.sum == (bothS s.left s.right c.width).sum) && (s.key.len == (bothS s.left s.right c.width).len)) || !decide (partOf c s.key = (i : Int))) = false := hc4
         rw [keq, ← Bool.not_and] at hc4
         have hso : slotOk c i s = true := by rw [Bool.not_eq_false'] at hc4; exact hc4
         refine awp_skip ?_
         show AWP _ _ _ _
         refine awp_region ?_
         refine aqs rfl (q_mv (by constructor)) rfl ?_
         first | refine aqs rfl (q_add64 rfl rfl (by omega) (by omega)) rfl ?_ | refine aqs rfl (q_add rfl rfl) rfl ?_
         refine aqs rfl (q_as (by constructor)) rfl ?_
         refine alist_nil ?_
         show ∃ y, _ ∧ _ ∧ _
         exact ⟨k + 1, ⟨by omega, by rw [all_take hs, hak, hso]; rfl⟩, by omega, .mk' ⟨by rfl, rfl, rfl, rfl, trivial⟩ (by repeat (first | exact List.Sublist.refl _ | exact List.nil_sublist _ | exact List.sublist_append_left _ _ | (apply List.Sublist.cons_cons) | (apply List.Sublist.cons)))⟩
       ·simp only [decide_eq_false_iff_not] at hc3
        have hkl : l.take k = l := List.take_of_length_le (by omega)
        rw [hkl] at hak
        have hnx2 : allOk c (i + 1) = true := by rw [hnx, partOk, ← hle, hr1, hak, decide_eq_true (show (l.length : Int) ≤ roomOf c i by omega)]; rfl
        refine awp_exit ?_
        show AWP _ _ _ _
        refine awp_region ?_
        refine aqs rfl (q_mv (by constructor)) rfl ?_
        first | refine aqs rfl (q_add64 rfl rfl (by omega) (by omega)) rfl ?_ | refine aqs rfl (q_add rfl rfl) rfl ?_
        refine aqs rfl (q_as (by constructor)) rfl ?_
        refine alist_nil ?_
        show ∃ y, _ ∧ _ ∧ _
        exact ⟨i + 1, ⟨by omega, hnx2⟩, by omega, .mk' ⟨by rfl, rfl, trivial⟩ (by repeat (first | exact List.Sublist.refl _ | exact List.nil_sublist _ | exact List.sublist_append_left _ _ | (apply List.Sublist.cons_cons) | (apply List.Sublist.cons)))⟩
    ·simp only [decide_eq_false_iff_not] at hc1
     obtain rfl : i = c.parts.length := by omega
     rw [hok]
     refine awp_exit ?_
     show AWP _ _ _ _
     refine awp_seq ?_
     refine awp_region ?_
     refine aqs rfl (q_as (by constructor)) rfl ?_
     refine alist_nil ?_
     show AWP _ _ _ _
     refine awp_ret ?_
     repeat first | with_reducible refine then_ret ?_ | with_reducible refine blk_ret ?_ | with_reducible refine nogo_ret ?_
     apply retq (.inr rfl) (.cons (rok_t rfl) .nil)
     rotate_left
     ·exact ⟨rfl, rfl⟩
     repeat (first | exact List.Sublist.refl _ | exact List.nil_sublist _ | exact List.sublist_append_left _ _ | apply List.Sublist.cons)
end Go.Proofs.YtdlinfekifnmkaaAm
