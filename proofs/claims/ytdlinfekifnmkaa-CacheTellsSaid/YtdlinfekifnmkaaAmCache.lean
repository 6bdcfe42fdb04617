/- Contracts of the layer 'cache', first part. Conditions: the lengths. -/
import Derived.Test.YtdlinfekifnmkaaAmCacheAgain
import Derived.Test.YtdlinfekifnmkaaAmText
import Derived.Scope
set_option linter.unusedVariables false
set_option linter.unusedSimpArgs false
set_option maxRecDepth 20000
namespace Go.Proofs.YtdlinfekifnmkaaAm
open Go.Proofs
def NoGo (Q : Exit → St → Prop) : Exit → St → Prop
  | .goto _, _ => False
  | e, s => Q e s
theorem awp_scope {P : Program} {Q : Exit → St → Prop} {s : St} {c : Code} (h : AWP P c (NoGo Q) s) : AWP P (.scope c) Q s := by
  intro C a hr
  refine wp_scope_straight (Code.wp_mono ?_ (h C a hr))
  intro e a1 w1 hp
  obtain ⟨C1, s1, rfl, hr1, hl1, hn1, hq⟩ := hp
  cases e with
  | normal => exact ⟨C1, s1, rfl, hr1, hl1, hn1, hq⟩
  | exit id => exact ⟨C1, s1, rfl, hr1, hl1, hn1, hq⟩
  | goto l => exact hq.elim
  | ret => exact ⟨C1, s1, rfl, hr1, hl1, hn1, hq⟩
  | panic ch => exact ⟨C1, s1, rfl, hr1, hl1, hn1, hq⟩
  | outgrown => exact ⟨C1, s1, rfl, hr1, hl1, hn1, hq⟩
theorem nogo_ret {Q : Exit → St → Prop} {s : St} (h : Q .ret s) : NoGo Q .ret s := h
structure CLen (c : Cach) : Prop where
  n : c.parts.length ≤ 1000
  l : ∀ j, (pt c j).length ≤ 10000
  t : ∀ j, ∀ s ∈ pt c j, s.left.size + s.right.size ≤ 1000000000
  k : ∀ j, ∀ s ∈ pt c j, 0 ≤ s.key.sum ∧ s.key.sum ≤ 18446744073709551615
theorem lenPart (ps : List (List Slot)) : ∀ c ∈ ps.map partCells, c.length = 1 := by
  intro c hc
  obtain ⟨s, _, rfl⟩ := List.mem_map.1 hc
  rfl
theorem onePart (ps : List (List Slot)) : ∀ c ∈ ps.map partCells, c.all cell1 = true := by
  intro c hc
  obtain ⟨s, _, rfl⟩ := List.mem_map.1 hc
  rfl
theorem pt_get {c : Cach} {i : Nat} (h : i < c.parts.length) : c.parts[i]? = some (pt c i) := by
  unfold pt; rw [List.getD_eq_getElem?_getD, List.getElem?_eq_getElem h]; rfl
theorem pt_row {c : Cach} {i : Nat} (h : i < c.parts.length) : (c.parts.map partCells)[i]? = some [.ro ((pt c i).map Slot.cells)] := get_map (f := partCells) (pt_get h)
set_option maxHeartbeats 400000 in
theorem within160_c (n a b : Int) (H : Heap) : QCall Try.prog 160 [.lit (.int .i64 n), .lit (.int .i64 a), .lit (.int .i64 b)] H (.lit (.bool (decide (a ≤ n) && decide (n ≤ b)))) := by
  refine acall_intro (n := 15) (rvs := [.tmp 6]) Try.func160 rfl rfl rfl (Nat.le_of_ble_eq_true rfl) ?_
  refine awp_seq ?_
  refine awp_region ?_
  refine aqs rfl (q_as (by constructor)) rfl ?_
  refine alist_nil ?_
  show AWP _ _ _ _
  refine awp_mid [(6, .lit (.bool (decide (a ≤ n) && decide (n ≤ b))))] ?_ ?_
  ·skip
   refine awp_region ?_
   all_goals (refine aqs rfl (q_mv (by constructor)) rfl ?_)
   all_goals (refine aqs rfl (q_mv (by constructor)) rfl ?_)
   all_goals (refine aqs rfl (q_geq rfl rfl) rfl ?_)
   all_goals (refine aqs rfl (q_mv (by constructor)) rfl ?_)
   all_goals try (refine acase (fun hb3 => ?_) (fun hb3 => ?_))
   all_goals first | (exfalso; cases hb3; done) | skip
   all_goals (first | refine ans rfl rfl ?_ | refine aqs rfl (q_mv (by constructor)) rfl ?_)
   all_goals (first | refine ans rfl rfl ?_ | refine aqs rfl (q_mv (by constructor)) rfl ?_)
   all_goals (first | refine ans rfl rfl ?_ | refine aqs rfl (q_leq rfl rfl) rfl ?_)
   all_goals (first | refine aqs rfl (q_pickT rfl (by constructor)) rfl ?_ | refine aqs rfl (q_pickF rfl (by constructor)) rfl ?_)
   all_goals (refine aqs rfl (q_as (by constructor)) rfl ?_)
   all_goals (refine alist_nil ?_)
   all_goals (exact ⟨rfl, .mk' (by repeat (first | exact trivial | refine ⟨rfl, ?_⟩ | (refine ⟨?_, ?_⟩; (· first | (rw [hb3]; rfl) | fail)))) (by repeat (first | exact .refl _ | exact List.nil_sublist _ | exact List.sublist_append_left _ _ | apply List.Sublist.cons))⟩)
  refine awp_ret ?_
  repeat first | with_reducible refine then_ret ?_ | with_reducible refine blk_ret ?_ | with_reducible refine nogo_ret ?_
  apply retq (.inr rfl) (.cons (rok_t rfl) .nil)
  rotate_left
  ·exact ⟨rfl, rfl⟩
  repeat (first | exact List.Sublist.refl _ | exact List.nil_sublist _ | exact List.sublist_append_left _ _ | apply List.Sublist.cons)
set_option maxHeartbeats 400000 in
theorem fits158_c (p r w : Int) (H : Heap) : QCall Try.prog 158 [.lit (.int .i64 p), .lit (.int .i64 r), .lit (.int .i64 w)] H (.lit (.bool (cFits p r w))) := by
  have e : cFits p r w = (((decide (1 ≤ p) && decide (p ≤ 16)) && (decide (0 ≤ r) && decide (r ≤ 4096))) && (decide (0 ≤ w) && decide (w ≤ 64))) := by rw [cFits, Bool.and_assoc (decide (1 ≤ p) && decide (p ≤ 16))]
  rw [e]
  refine acall_intro (n := 17) (rvs := [.tmp 6]) Try.func158 rfl rfl rfl (Nat.le_of_ble_eq_true rfl) ?_
  refine awp_seq ?_
  refine awp_region ?_
  refine aqs rfl (q_as (by constructor)) rfl ?_
  refine alist_nil ?_
  show AWP _ _ _ _
  refine awp_mid [(6, .lit (.bool (((decide (1 ≤ p) && decide (p ≤ 16)) && (decide (0 ≤ r) && decide (r ≤ 4096))) && (decide (0 ≤ w) && decide (w ≤ 64)))))] ?_ ?_
  ·skip
   refine awp_region ?_
   all_goals (refine aqs rfl (q_mv (by constructor)) rfl ?_)
   all_goals (first | refine aqs rfl (e_callN cb160 (within160_c p 1 16 _) rfl rfl) rfl ?_ | refine aqs rfl (e_callN cb160 (ACall.arg (within160_c p 1 16 _) (by repeat (first | exact ArgL.nil | (apply ArgL.cons; (· first | exact .same | exact .cro | exact .nil))))) rfl rfl) rfl ?_)
   all_goals (refine aqs rfl (q_mv (by constructor)) rfl ?_)
   all_goals try (refine acase (fun hb2 => ?_) (fun hb2 => ?_))
   all_goals first | (exfalso; cases hb2; done) | skip
   all_goals (first | refine ans rfl rfl ?_ | refine aqs rfl (q_mv (by constructor)) rfl ?_)
   all_goals (first | refine ans rfl rfl ?_ | refine aqs rfl (e_callN cb160 (within160_c r 0 4096 _) rfl rfl) rfl ?_ | refine aqs rfl (e_callN cb160 (ACall.arg (within160_c r 0 4096 _) (by repeat (first | exact ArgL.nil | (apply ArgL.cons; (· first | exact .same | exact .cro | exact .nil))))) rfl rfl) rfl ?_)
   all_goals (first | refine aqs rfl (q_pickT rfl (by constructor)) rfl ?_ | refine aqs rfl (q_pickF rfl (by constructor)) rfl ?_)
   all_goals (refine aqs rfl (q_mv (by constructor)) rfl ?_)
   all_goals try (refine acase (fun hb6 => ?_) (fun hb6 => ?_))
   all_goals first | (exfalso; cases hb6; done) | skip
   all_goals (first | refine ans rfl rfl ?_ | refine aqs rfl (q_mv (by constructor)) rfl ?_)
   all_goals (first | refine ans rfl rfl ?_ | refine aqs rfl (e_callN cb160 (within160_c w 0 64 _) rfl rfl) rfl ?_ | refine aqs rfl (e_callN cb160 (ACall.arg (within160_c w 0 64 _) (by repeat (first | exact ArgL.nil | (apply ArgL.cons; (· first | exact .same | exact .cro | exact .nil))))) rfl rfl) rfl ?_)
   all_goals (first | refine aqs rfl (q_pickT rfl (by constructor)) rfl ?_ | refine aqs rfl (q_pickF rfl (by constructor)) rfl ?_)
   all_goals (refine aqs rfl (q_as (by constructor)) rfl ?_)
   all_goals (refine alist_nil ?_)
   all_goals (exact ⟨rfl, .mk' (by repeat (first | exact trivial | refine ⟨rfl, ?_⟩ | (refine ⟨?_, ?_⟩; (· first | (rw [hb2, hb6]; rfl) | (rw [hb2]; rfl) | fail)))) (by repeat (first | exact .refl _ | exact List.nil_sublist _ | exact List.sublist_append_left _ _ | apply List.Sublist.cons))⟩)
  refine awp_ret ?_
  repeat first | with_reducible refine then_ret ?_ | with_reducible refine blk_ret ?_ | with_reducible refine nogo_ret ?_
  apply retq (.inr rfl) (.cons (rok_t rfl) .nil)
  rotate_left
  ·exact ⟨rfl, rfl⟩
  repeat (first | exact List.Sublist.refl _ | exact List.nil_sublist _ | exact List.sublist_append_left _ _ | apply List.Sublist.cons)
set_option maxHeartbeats 400000 in
theorem fits159_c (p r w : Int) (H : Heap) : QCall Try.prog 159 [.lit (.int .i64 p), .lit (.int .i64 r), .lit (.int .i64 w)] H (.lit (.bool (cFits p r w))) := by
  have e : cFits p r w = (((((decide (1 ≤ p) && decide (p ≤ 16)) && decide (0 ≤ r)) && decide (r ≤ 4096)) && decide (0 ≤ w)) && decide (w ≤ 64)) := by
    unfold cFits
    cases decide (1 ≤ p) <;> cases decide (p ≤ 16) <;> cases decide (0 ≤ r) <;> cases decide (r ≤ 4096) <;> cases decide (0 ≤ w) <;> cases decide (w ≤ 64) <;> rfl
  rw [e]
  refine acall_intro (n := 29) (rvs := [.tmp 6]) Try.func159 rfl rfl rfl (Nat.le_of_ble_eq_true rfl) ?_
  refine awp_seq ?_
  refine awp_region ?_
  refine aqs rfl (q_as (by constructor)) rfl ?_
  refine alist_nil ?_
  show AWP _ _ _ _
  refine awp_mid [(6, .lit (.bool (((((decide (1 ≤ p) && decide (p ≤ 16)) && decide (0 ≤ r)) && decide (r ≤ 4096)) && decide (0 ≤ w)) && decide (w ≤ 64))))] ?_ ?_
  ·skip
   refine awp_region ?_
   all_goals (refine aqs rfl (q_mv (by constructor)) rfl ?_)
   all_goals (refine aqs rfl (q_geq rfl rfl) rfl ?_)
   all_goals (refine aqs rfl (q_mv (by constructor)) rfl ?_)
   all_goals try (refine acase (fun hb2 => ?_) (fun hb2 => ?_))
   all_goals first | (exfalso; cases hb2; done) | skip
   all_goals (first | refine ans rfl rfl ?_ | refine aqs rfl (q_mv (by constructor)) rfl ?_)
   all_goals (first | refine ans rfl rfl ?_ | refine aqs rfl (q_leq rfl rfl) rfl ?_)
   all_goals (first | refine aqs rfl (q_pickT rfl (by constructor)) rfl ?_ | refine aqs rfl (q_pickF rfl (by constructor)) rfl ?_)
   all_goals (refine aqs rfl (q_mv (by constructor)) rfl ?_)
   all_goals try (refine acase (fun hb6 => ?_) (fun hb6 => ?_))
   all_goals first | (exfalso; cases hb6; done) | skip
   all_goals (first | refine ans rfl rfl ?_ | refine aqs rfl (q_mv (by constructor)) rfl ?_)
   all_goals (first | refine ans rfl rfl ?_ | refine aqs rfl (q_geq rfl rfl) rfl ?_)
   all_goals (first | refine aqs rfl (q_pickT rfl (by constructor)) rfl ?_ | refine aqs rfl (q_pickF rfl (by constructor)) rfl ?_)
   all_goals (refine aqs rfl (q_mv (by constructor)) rfl ?_)
   all_goals try (refine acase (fun hb10 => ?_) (fun hb10 => ?_))
   all_goals first | (exfalso; cases hb10; done) | skip
   all_goals (first | refine ans rfl rfl ?_ | refine aqs rfl (q_mv (by constructor)) rfl ?_)
   all_goals (first | refine ans rfl rfl ?_ | refine aqs rfl (q_leq rfl rfl) rfl ?_)
   all_goals (first | refine aqs rfl (q_pickT rfl (by constructor)) rfl ?_ | refine aqs rfl (q_pickF rfl (by constructor)) rfl ?_)
   all_goals (refine aqs rfl (q_mv (by constructor)) rfl ?_)
   all_goals try (refine acase (fun hb14 => ?_) (fun hb14 => ?_))
   all_goals first | (exfalso; cases hb14; done) | skip
   all_goals (first | refine ans rfl rfl ?_ | refine aqs rfl (q_mv (by constructor)) rfl ?_)
   all_goals (first | refine ans rfl rfl ?_ | refine aqs rfl (q_geq rfl rfl) rfl ?_)
   all_goals (first | refine aqs rfl (q_pickT rfl (by constructor)) rfl ?_ | refine aqs rfl (q_pickF rfl (by constructor)) rfl ?_)
   all_goals (refine aqs rfl (q_mv (by constructor)) rfl ?_)
   all_goals try (refine acase (fun hb18 => ?_) (fun hb18 => ?_))
   all_goals first | (exfalso; cases hb18; done) | skip
   all_goals (first | refine ans rfl rfl ?_ | refine aqs rfl (q_mv (by constructor)) rfl ?_)
   all_goals (first | refine ans rfl rfl ?_ | refine aqs rfl (q_leq rfl rfl) rfl ?_)
   all_goals (first | refine aqs rfl (q_pickT rfl (by constructor)) rfl ?_ | refine aqs rfl (q_pickF rfl (by constructor)) rfl ?_)
   all_goals (refine aqs rfl (q_as (by constructor)) rfl ?_)
   all_goals (refine alist_nil ?_)
   all_goals (exact ⟨rfl, .mk' (by repeat (first | exact trivial | refine ⟨rfl, ?_⟩ | (refine ⟨?_, ?_⟩; (· first | (rw [hb2, hb6, hb10, hb14, hb18]; rfl) | (rw [hb2, hb6, hb10, hb14]; rfl) | (rw [hb2, hb6, hb10]; rfl) | (rw [hb2, hb6]; rfl) | (rw [hb2]; rfl) | fail)))) (by repeat (first | exact .refl _ | exact List.nil_sublist _ | exact List.sublist_append_left _ _ | apply List.Sublist.cons))⟩)
  refine awp_ret ?_
  repeat first | with_reducible refine then_ret ?_ | with_reducible refine blk_ret ?_ | with_reducible refine nogo_ret ?_
  apply retq (.inr rfl) (.cons (rok_t rfl) .nil)
  rotate_left
  ·exact ⟨rfl, rfl⟩
  repeat (first | exact List.Sublist.refl _ | exact List.nil_sublist _ | exact List.sublist_append_left _ _ | apply List.Sublist.cons)
set_option maxHeartbeats 400000 in
theorem count163_c (n : Int) (H : Heap) : QCall Try.prog 163 [.lit (.int .i64 n)] H (.lit (.bool (cCount n))) := by
  show QCall Try.prog 163 [.lit (.int .i64 n)] H (.lit (.bool (decide (0 ≤ n) && decide (n ≤ 1099511627776))))
  refine acall_intro (n := 9) (rvs := [.tmp 2]) Try.func163 rfl rfl rfl (Nat.le_of_ble_eq_true rfl) ?_
  refine awp_seq ?_
  refine awp_region ?_
  refine aqs rfl (q_as (by constructor)) rfl ?_
  refine alist_nil ?_
  show AWP _ _ _ _
  refine awp_mid [(2, .lit (.bool (decide (0 ≤ n) && decide (n ≤ 1099511627776))))] ?_ ?_
  ·skip
   refine awp_region ?_
   all_goals (refine aqs rfl (q_mv (by constructor)) rfl ?_)
   all_goals (refine aqs rfl (q_geq rfl rfl) rfl ?_)
   all_goals (refine aqs rfl (q_mv (by constructor)) rfl ?_)
   all_goals try (refine acase (fun hb2 => ?_) (fun hb2 => ?_))
   all_goals first | (exfalso; cases hb2; done) | skip
   all_goals (first | refine ans rfl rfl ?_ | refine aqs rfl (q_mv (by constructor)) rfl ?_)
   all_goals (first | refine ans rfl rfl ?_ | refine aqs rfl (q_leq rfl rfl) rfl ?_)
   all_goals (first | refine aqs rfl (q_pickT rfl (by constructor)) rfl ?_ | refine aqs rfl (q_pickF rfl (by constructor)) rfl ?_)
   all_goals (refine aqs rfl (q_as (by constructor)) rfl ?_)
   all_goals (refine alist_nil ?_)
   all_goals (exact ⟨rfl, .mk' (by repeat (first | exact trivial | refine ⟨rfl, ?_⟩ | (refine ⟨?_, ?_⟩; (· first | (rw [hb2]; rfl) | fail)))) (by repeat (first | exact .refl _ | exact List.nil_sublist _ | exact List.sublist_append_left _ _ | apply List.Sublist.cons))⟩)
  refine awp_ret ?_
  repeat first | with_reducible refine then_ret ?_ | with_reducible refine blk_ret ?_ | with_reducible refine nogo_ret ?_
  apply retq (.inr rfl) (.cons (rok_t rfl) .nil)
  rotate_left
  ·exact ⟨rfl, rfl⟩
  repeat (first | exact List.Sublist.refl _ | exact List.nil_sublist _ | exact List.sublist_append_left _ _ | apply List.Sublist.cons)
set_option maxHeartbeats 400000 in
theorem partOf162_c (c : Cach) (hn : 1 ≤ c.parts.length) (hm : c.parts.length ≤ 1000) (k : Key) (hk : 0 ≤ k.sum ∧ k.sum ≤ 18446744073709551615) (H : Heap) : QCall Try.prog 162 [.agg c.cells, .agg k.cells] H (.lit (.int .i64 (partOf c k))) := by
  have hp := part_lt hn k
  have hcl : (c.parts.map partCells).length = c.parts.length := List.length_map ..
  refine acall_intro (n := 13) (rvs := [.tmp 4]) Try.func162 rfl rfl rfl (Nat.le_of_ble_eq_true rfl) ?_
  refine awp_seq ?_
  refine awp_region ?_
  (refine aes rfl (e_bx (by constructor) rfl rfl) rfl ?_; rintro _ _ ⟨u2, rfl, rfl⟩)
  (refine aes rfl (e_bx (by constructor) rfl rfl) rfl ?_; rintro _ _ ⟨u3, rfl, rfl⟩)
  refine aqs rfl (q_as (by constructor)) rfl ?_
  refine alist_nil ?_
  show AWP _ _ _ _
  refine awp_seq ?_
  refine awp_region ?_
  first | refine aqs rfl (q_fapP fl29_0 (by decide) rfl rfl) rfl ?_ | refine aqs rfl (q_faP fl29_0 (by decide) rfl (by first | ((repeat constructor); done) | exact .same _)) rfl ?_
  first | refine aqs rfl (q_ldpN ag22 rfl (by repeat (first | exact .here | assumption | (apply HAt.left; assumption) | apply HAt.there | apply HAt.right)) (by first | rfl | assumption | (simp [*]; done) | fail) (by first | rfl | assumption | (simp [*]; done) | fail) (by constructor)) rfl ?_ | refine aqs rfl (q_ld1N ag22 rfl (by constructor)) rfl ?_
  first | refine aqs rfl (q_fapP fl136_2 (by decide) rfl rfl) rfl ?_ | refine aqs rfl (q_faP fl136_2 (by decide) rfl (by first | ((repeat constructor); done) | exact .same _)) rfl ?_
  first | refine aqs rfl (q_ldpN ag42 rfl (by repeat (first | exact .here | assumption | (apply HAt.left; assumption) | apply HAt.there | apply HAt.right)) (by first | rfl | assumption | (simp [*]; done) | fail) (by first | rfl | assumption | (simp [*]; done) | fail) (by constructor)) rfl ?_ | refine aqs rfl (q_ld1N ag42 rfl (by constructor)) rfl ?_
  first | refine aqs rfl (q_len Try.underlying42 .ro) rfl ?_ | refine aqs rfl (q_lenO Try.underlying42 rfl (by repeat (first | exact .here | assumption | (apply HAt.left; assumption) | apply HAt.there | apply HAt.right)) (by first | omega | (simp; done) | (simp; omega) | fail) (by first | exact Nat.sub_zero _ | rfl)) rfl ?_ | refine aqs rfl (q_len Try.underlying42 .nil) rfl ?_ | refine aqs rfl (q_len Try.underlying42 .cro) rfl ?_
  first | refine aqs rfl (castQ (r2 := .lit (.int .u64 (c.parts.length : Nat))) (q_convU rfl Try.underlying3 Try.underlying22 (by omega) (by omega)) (by rw [wrap_u64 (by omega) (by omega), hcl])) rfl ?_ | refine aqs rfl (castQ (r2 := .lit (.int .u64 (c.parts.length : Nat))) (q_conv rfl Try.underlying3 Try.underlying22) (by rw [wrap_u64 (by omega) (by omega), hcl])) rfl ?_
  refine aqs rfl (castQ (r2 := .lit (.int .u64 (partOf c k))) (q_rem rfl rfl (by first | decide | omega)) (by rw [Int.tmod_eq_emod_of_nonneg hk.1]; rfl)) rfl ?_
  first | refine aqs rfl (q_conv64 rfl Try.underlying22 Try.underlying3 (by omega) (by omega)) rfl ?_ | refine aqs rfl (q_conv rfl Try.underlying22 Try.underlying3) rfl ?_
  refine aqs rfl (q_as (by constructor)) rfl ?_
  refine alist_nil ?_
  show AWP _ _ _ _
  refine awp_ret ?_
  repeat first | with_reducible refine then_ret ?_ | with_reducible refine blk_ret ?_ | with_reducible refine nogo_ret ?_
  apply retq (.inr rfl) (.cons (rok_t rfl) .nil)
  rotate_left
  ·exact ⟨rfl, rfl⟩
  repeat (first | exact List.Sublist.refl _ | exact List.nil_sublist _ | exact List.sublist_append_left _ _ | apply List.Sublist.cons)
set_option maxHeartbeats 400000 in
theorem part165_c (c : Cach) (hn : 1 ≤ c.parts.length) (hm : c.parts.length ≤ 1000) (k : Key) (hk : 0 ≤ k.sum ∧ k.sum ≤ 18446744073709551615) (H : Heap) : QCall Try.prog 165 [.agg c.cells, .agg k.cells] H (.lit (.int .i64 (partOf c k))) := by
  have hp := part_lt hn k
  have hcl : (c.parts.map partCells).length = c.parts.length := List.length_map ..
  refine acall_intro (n := 13) (rvs := [.tmp 4]) Try.func165 rfl rfl rfl (Nat.le_of_ble_eq_true rfl) ?_
  refine awp_seq ?_
  refine awp_region ?_
  (refine aes rfl (e_bx (by constructor) rfl rfl) rfl ?_; rintro _ _ ⟨u2, rfl, rfl⟩)
  (refine aes rfl (e_bx (by constructor) rfl rfl) rfl ?_; rintro _ _ ⟨u3, rfl, rfl⟩)
  refine aqs rfl (q_as (by constructor)) rfl ?_
  refine alist_nil ?_
  show AWP _ _ _ _
  refine awp_seq ?_
  refine awp_region ?_
  first | refine aqs rfl (q_fapP fl29_0 (by decide) rfl rfl) rfl ?_ | refine aqs rfl (q_faP fl29_0 (by decide) rfl (by first | ((repeat constructor); done) | exact .same _)) rfl ?_
  first | refine aqs rfl (q_ldpN ag22 rfl (by repeat (first | exact .here | assumption | (apply HAt.left; assumption) | apply HAt.there | apply HAt.right)) (by first | rfl | assumption | (simp [*]; done) | fail) (by first | rfl | assumption | (simp [*]; done) | fail) (by constructor)) rfl ?_ | refine aqs rfl (q_ld1N ag22 rfl (by constructor)) rfl ?_
  first | refine aqs rfl (q_fapP fl136_2 (by decide) rfl rfl) rfl ?_ | refine aqs rfl (q_faP fl136_2 (by decide) rfl (by first | ((repeat constructor); done) | exact .same _)) rfl ?_
  first | refine aqs rfl (q_ldpN ag42 rfl (by repeat (first | exact .here | assumption | (apply HAt.left; assumption) | apply HAt.there | apply HAt.right)) (by first | rfl | assumption | (simp [*]; done) | fail) (by first | rfl | assumption | (simp [*]; done) | fail) (by constructor)) rfl ?_ | refine aqs rfl (q_ld1N ag42 rfl (by constructor)) rfl ?_
  first | refine aqs rfl (q_len Try.underlying42 .ro) rfl ?_ | refine aqs rfl (q_lenO Try.underlying42 rfl (by repeat (first | exact .here | assumption | (apply HAt.left; assumption) | apply HAt.there | apply HAt.right)) (by first | omega | (simp; done) | (simp; omega) | fail) (by first | exact Nat.sub_zero _ | rfl)) rfl ?_ | refine aqs rfl (q_len Try.underlying42 .nil) rfl ?_ | refine aqs rfl (q_len Try.underlying42 .cro) rfl ?_
  first | refine aqs rfl (castQ (r2 := .lit (.int .u64 (c.parts.length : Nat))) (q_convU rfl Try.underlying3 Try.underlying22 (by omega) (by omega)) (by rw [wrap_u64 (by omega) (by omega), hcl])) rfl ?_ | refine aqs rfl (castQ (r2 := .lit (.int .u64 (c.parts.length : Nat))) (q_conv rfl Try.underlying3 Try.underlying22) (by rw [wrap_u64 (by omega) (by omega), hcl])) rfl ?_
  refine aqs rfl (castQ (r2 := .lit (.int .u64 (partOf c k))) (q_rem rfl rfl (by first | decide | omega)) (by rw [Int.tmod_eq_emod_of_nonneg hk.1]; rfl)) rfl ?_
  first | refine aqs rfl (q_conv64 rfl Try.underlying22 Try.underlying3 (by omega) (by omega)) rfl ?_ | refine aqs rfl (q_conv rfl Try.underlying22 Try.underlying3) rfl ?_
  refine aqs rfl (q_as (by constructor)) rfl ?_
  refine alist_nil ?_
  show AWP _ _ _ _
  refine awp_ret ?_
  repeat first | with_reducible refine then_ret ?_ | with_reducible refine blk_ret ?_ | with_reducible refine nogo_ret ?_
  apply retq (.inr rfl) (.cons (rok_t rfl) .nil)
  rotate_left
  ·exact ⟨rfl, rfl⟩
  repeat (first | exact List.Sublist.refl _ | exact List.nil_sublist _ | exact List.sublist_append_left _ _ | apply List.Sublist.cons)
theorem room_if {c : Cach} {i : Nat} : roomOf c i = if (i : Int) < c.room % c.parts.length then c.room / c.parts.length + 1 else c.room / c.parts.length := by
  unfold roomOf
  split <;> omega
theorem room_le {c : Cach} (hn : 1 ≤ c.parts.length) (hr : 0 ≤ c.room ∧ c.room ≤ 4096) : 0 ≤ c.room / c.parts.length ∧ c.room / c.parts.length ≤ 4096 := by
  have h1 := Int.ediv_nonneg hr.1 (show (0 : Int) ≤ c.parts.length by omega)
  have h2 := Int.ediv_le_self (c.parts.length : Int) hr.1
  omega
set_option maxHeartbeats 400000 in
theorem roomOf161_c (c : Cach) (hn : 1 ≤ c.parts.length) (hm : c.parts.length ≤ 1000) (hr : 0 ≤ c.room ∧ c.room ≤ 4096) (i : Nat) (H : Heap) : QCall Try.prog 161 [.agg c.cells, .lit (.int .i64 i)] H (.lit (.int .i64 (roomOf c i))) := by
  have hcl : (c.parts.map partCells).length = c.parts.length := List.length_map ..
  have hd := room_le hn hr
  refine acall_intro (n := 23) (rvs := [.tmp 4]) Try.func161 rfl rfl rfl (Nat.le_of_ble_eq_true rfl) ?_
  refine awp_seq ?_
  refine awp_region ?_
  (refine aes rfl (e_bx (by constructor) rfl rfl) rfl ?_; rintro _ _ ⟨u2, rfl, rfl⟩)
  refine aqs rfl (q_as (by constructor)) rfl ?_
  refine alist_nil ?_
  show AWP _ _ _ _
  refine awp_seq ?_
  refine awp_region ?_
  first | refine aqs rfl (q_fapP fl136_2 (by decide) rfl rfl) rfl ?_ | refine aqs rfl (q_faP fl136_2 (by decide) rfl (by first | ((repeat constructor); done) | exact .same _)) rfl ?_
  first | refine aqs rfl (q_ldpN ag42 rfl (by repeat (first | exact .here | assumption | (apply HAt.left; assumption) | apply HAt.there | apply HAt.right)) (by first | rfl | assumption | (simp [*]; done) | fail) (by first | rfl | assumption | (simp [*]; done) | fail) (by constructor)) rfl ?_ | refine aqs rfl (q_ld1N ag42 rfl (by constructor)) rfl ?_
  first | refine aqs rfl (q_len Try.underlying42 .ro) rfl ?_ | refine aqs rfl (q_lenO Try.underlying42 rfl (by repeat (first | exact .here | assumption | (apply HAt.left; assumption) | apply HAt.there | apply HAt.right)) (by first | omega | (simp; done) | (simp; omega) | fail) (by first | exact Nat.sub_zero _ | rfl)) rfl ?_ | refine aqs rfl (q_len Try.underlying42 .nil) rfl ?_ | refine aqs rfl (q_len Try.underlying42 .cro) rfl ?_
  refine aqs rfl (castQ (r2 := .lit (.int .i64 (c.parts.length : Nat))) (q_as (by constructor)) (by rw [hcl])) rfl ?_
  refine alist_nil ?_
  show AWP _ _ _ _
  refine awp_seq ?_
  refine awp_region ?_
  first | refine aqs rfl (q_fapP fl136_1 (by decide) rfl rfl) rfl ?_ | refine aqs rfl (q_faP fl136_1 (by decide) rfl (by first | ((repeat constructor); done) | exact .same _)) rfl ?_
  first | refine aqs rfl (q_ldpN ag3 rfl (by repeat (first | exact .here | assumption | (apply HAt.left; assumption) | apply HAt.there | apply HAt.right)) (by first | rfl | assumption | (simp [*]; done) | fail) (by first | rfl | assumption | (simp [*]; done) | fail) (by constructor)) rfl ?_ | refine aqs rfl (q_ld1N ag3 rfl (by constructor)) rfl ?_
  refine aqs rfl (q_mv (by constructor)) rfl ?_
  first | refine aqs rfl (castQ (r2 := .lit (.int .i64 (c.room / c.parts.length))) (q_quo64 rfl rfl (by omega) (by omega) (by omega)) (by rfl)) rfl ?_ | refine aqs rfl (castQ (r2 := .lit (.int .i64 (c.room / c.parts.length))) (q_quo rfl rfl (by first | decide | omega)) (by rfl)) rfl ?_
  refine aqs rfl (q_as (by constructor)) rfl ?_
  refine alist_nil ?_
  show AWP _ _ _ _
  refine awp_seq ?_
  refine awp_seq ?_
  refine awp_region ?_
  refine aqs rfl (q_mv (by constructor)) rfl ?_
  first | refine aqs rfl (q_fapP fl136_1 (by decide) rfl rfl) rfl ?_ | refine aqs rfl (q_faP fl136_1 (by decide) rfl (by first | ((repeat constructor); done) | exact .same _)) rfl ?_
  first | refine aqs rfl (q_ldpN ag3 rfl (by repeat (first | exact .here | assumption | (apply HAt.left; assumption) | apply HAt.there | apply HAt.right)) (by first | rfl | assumption | (simp [*]; done) | fail) (by first | rfl | assumption | (simp [*]; done) | fail) (by constructor)) rfl ?_ | refine aqs rfl (q_ld1N ag3 rfl (by constructor)) rfl ?_
  refine aqs rfl (q_mv (by constructor)) rfl ?_
  first | refine aqs rfl (castQ (r2 := .lit (.int .i64 (c.room % c.parts.length))) (q_rem64 rfl rfl (by omega) (by omega)) (by rfl)) rfl ?_ | refine aqs rfl (castQ (r2 := .lit (.int .i64 (c.room % c.parts.length))) (q_rem rfl rfl (by first | decide | omega)) (by rfl)) rfl ?_
  refine aqs rfl (q_lss rfl rfl) rfl ?_
  refine alist_nil ?_
  show AWP _ _ _ _
  refine awp_cond rfl (fun hc0 => ?_) (fun hc0 => ?_)
  ·have h : (i : Int) < c.room % c.parts.length := by simpa using hc0
   have e : roomOf c i = c.room / c.parts.length + 1 := by rw [room_if, if_pos h]
   rw [e]
   refine awp_region ?_
   refine aqs rfl (q_mv (by constructor)) rfl ?_
   first | refine aqs rfl (q_add64 rfl rfl (by omega) (by omega)) rfl ?_ | refine aqs rfl (q_add rfl rfl) rfl ?_
   refine aqs rfl (q_as (by constructor)) rfl ?_
   refine alist_nil ?_
   show AWP _ _ _ _
   refine awp_seq ?_
   refine awp_region ?_
   refine aqs rfl (q_mv (by constructor)) rfl ?_
   refine aqs rfl (q_as (by constructor)) rfl ?_
   refine alist_nil ?_
   show AWP _ _ _ _
   refine awp_ret ?_
   repeat first | with_reducible refine then_ret ?_ | with_reducible refine blk_ret ?_ | with_reducible refine nogo_ret ?_
   apply retq (.inr rfl) (.cons (rok_t rfl) .nil)
   rotate_left
   ·exact ⟨rfl, rfl⟩
   repeat (first | exact List.Sublist.refl _ | exact List.nil_sublist _ | exact List.sublist_append_left _ _ | apply List.Sublist.cons)
  ·have h : ¬ (i : Int) < c.room % c.parts.length := by simpa using hc0
   have e : roomOf c i = c.room / c.parts.length := by rw [room_if, if_neg h]
   rw [e]
   refine awp_skip ?_
   show AWP _ _ _ _
   refine awp_seq ?_
   refine awp_region ?_
   refine aqs rfl (q_mv (by constructor)) rfl ?_
   refine aqs rfl (q_as (by constructor)) rfl ?_
   refine alist_nil ?_
   show AWP _ _ _ _
   refine awp_ret ?_
   repeat first | with_reducible refine then_ret ?_ | with_reducible refine blk_ret ?_ | with_reducible refine nogo_ret ?_
   apply retq (.inr rfl) (.cons (rok_t rfl) .nil)
   rotate_left
   ·exact ⟨rfl, rfl⟩
   repeat (first | exact List.Sublist.refl _ | exact List.nil_sublist _ | exact List.sublist_append_left _ _ | apply List.Sublist.cons)
set_option maxHeartbeats 400000 in
theorem room164_c (c : Cach) (hn : 1 ≤ c.parts.length) (hm : c.parts.length ≤ 1000) (hr : 0 ≤ c.room ∧ c.room ≤ 4096) (i : Nat) (H : Heap) : QCall Try.prog 164 [.agg c.cells, .lit (.int .i64 i)] H (.lit (.int .i64 (roomOf c i))) := by
  have hcl : (c.parts.map partCells).length = c.parts.length := List.length_map ..
  have hd := room_le hn hr
  refine acall_intro (n := 23) (rvs := [.tmp 4]) Try.func164 rfl rfl rfl (Nat.le_of_ble_eq_true rfl) ?_
  refine awp_seq ?_
  refine awp_region ?_
  (refine aes rfl (e_bx (by constructor) rfl rfl) rfl ?_; rintro _ _ ⟨u2, rfl, rfl⟩)
  refine aqs rfl (q_as (by constructor)) rfl ?_
  refine alist_nil ?_
  show AWP _ _ _ _
  refine awp_seq ?_
  refine awp_region ?_
  first | refine aqs rfl (q_fapP fl136_1 (by decide) rfl rfl) rfl ?_ | refine aqs rfl (q_faP fl136_1 (by decide) rfl (by first | ((repeat constructor); done) | exact .same _)) rfl ?_
  first | refine aqs rfl (q_ldpN ag3 rfl (by repeat (first | exact .here | assumption | (apply HAt.left; assumption) | apply HAt.there | apply HAt.right)) (by first | rfl | assumption | (simp [*]; done) | fail) (by first | rfl | assumption | (simp [*]; done) | fail) (by constructor)) rfl ?_ | refine aqs rfl (q_ld1N ag3 rfl (by constructor)) rfl ?_
  first | refine aqs rfl (q_fapP fl136_2 (by decide) rfl rfl) rfl ?_ | refine aqs rfl (q_faP fl136_2 (by decide) rfl (by first | ((repeat constructor); done) | exact .same _)) rfl ?_
  first | refine aqs rfl (q_ldpN ag42 rfl (by repeat (first | exact .here | assumption | (apply HAt.left; assumption) | apply HAt.there | apply HAt.right)) (by first | rfl | assumption | (simp [*]; done) | fail) (by first | rfl | assumption | (simp [*]; done) | fail) (by constructor)) rfl ?_ | refine aqs rfl (q_ld1N ag42 rfl (by constructor)) rfl ?_
  first | refine aqs rfl (castQ (r2 := .lit (.int .i64 (c.parts.length : Nat))) (q_len Try.underlying42 .ro) (by rw [hcl])) rfl ?_ | refine aqs rfl (castQ (r2 := .lit (.int .i64 (c.parts.length : Nat))) (q_lenO Try.underlying42 rfl (by repeat (first | exact .here | assumption | (apply HAt.left; assumption) | apply HAt.there | apply HAt.right)) (by first | omega | (simp; done) | (simp; omega) | fail) (by first | exact Nat.sub_zero _ | rfl)) (by rw [hcl])) rfl ?_ | refine aqs rfl (castQ (r2 := .lit (.int .i64 (c.parts.length : Nat))) (q_len Try.underlying42 .nil) (by rw [hcl])) rfl ?_ | refine aqs rfl (castQ (r2 := .lit (.int .i64 (c.parts.length : Nat))) (q_len Try.underlying42 .cro) (by rw [hcl])) rfl ?_
  first | refine aqs rfl (castQ (r2 := .lit (.int .i64 (c.room / c.parts.length))) (q_quo64 rfl rfl (by omega) (by omega) (by omega)) (by rfl)) rfl ?_ | refine aqs rfl (castQ (r2 := .lit (.int .i64 (c.room / c.parts.length))) (q_quo rfl rfl (by first | decide | omega)) (by rfl)) rfl ?_
  refine aqs rfl (q_as (by constructor)) rfl ?_
  refine alist_nil ?_
  show AWP _ _ _ _
  refine awp_seq ?_
  refine awp_seq ?_
  refine awp_region ?_
  refine aqs rfl (q_mv (by constructor)) rfl ?_
  first | refine aqs rfl (q_fapP fl136_1 (by decide) rfl rfl) rfl ?_ | refine aqs rfl (q_faP fl136_1 (by decide) rfl (by first | ((repeat constructor); done) | exact .same _)) rfl ?_
  first | refine aqs rfl (q_ldpN ag3 rfl (by repeat (first | exact .here | assumption | (apply HAt.left; assumption) | apply HAt.there | apply HAt.right)) (by first | rfl | assumption | (simp [*]; done) | fail) (by first | rfl | assumption | (simp [*]; done) | fail) (by constructor)) rfl ?_ | refine aqs rfl (q_ld1N ag3 rfl (by constructor)) rfl ?_
  first | refine aqs rfl (q_fapP fl136_2 (by decide) rfl rfl) rfl ?_ | refine aqs rfl (q_faP fl136_2 (by decide) rfl (by first | ((repeat constructor); done) | exact .same _)) rfl ?_
  first | refine aqs rfl (q_ldpN ag42 rfl (by repeat (first | exact .here | assumption | (apply HAt.left; assumption) | apply HAt.there | apply HAt.right)) (by first | rfl | assumption | (simp [*]; done) | fail) (by first | rfl | assumption | (simp [*]; done) | fail) (by constructor)) rfl ?_ | refine aqs rfl (q_ld1N ag42 rfl (by constructor)) rfl ?_
  first | refine aqs rfl (castQ (r2 := .lit (.int .i64 (c.parts.length : Nat))) (q_len Try.underlying42 .ro) (by rw [hcl])) rfl ?_ | refine aqs rfl (castQ (r2 := .lit (.int .i64 (c.parts.length : Nat))) (q_lenO Try.underlying42 rfl (by repeat (first | exact .here | assumption | (apply HAt.left; assumption) | apply HAt.there | apply HAt.right)) (by first | omega | (simp; done) | (simp; omega) | fail) (by first | exact Nat.sub_zero _ | rfl)) (by rw [hcl])) rfl ?_ | refine aqs rfl (castQ (r2 := .lit (.int .i64 (c.parts.length : Nat))) (q_len Try.underlying42 .nil) (by rw [hcl])) rfl ?_ | refine aqs rfl (castQ (r2 := .lit (.int .i64 (c.parts.length : Nat))) (q_len Try.underlying42 .cro) (by rw [hcl])) rfl ?_
  first | refine aqs rfl (castQ (r2 := .lit (.int .i64 (c.room % c.parts.length))) (q_rem64 rfl rfl (by omega) (by omega)) (by rfl)) rfl ?_ | refine aqs rfl (castQ (r2 := .lit (.int .i64 (c.room % c.parts.length))) (q_rem rfl rfl (by first | decide | omega)) (by rfl)) rfl ?_
  refine aqs rfl (q_lss rfl rfl) rfl ?_
  refine alist_nil ?_
  show AWP _ _ _ _
  refine awp_cond rfl (fun hc0 => ?_) (fun hc0 => ?_)
  ·have h : (i : Int) < c.room % c.parts.length := by simpa using hc0
   have e : roomOf c i = c.room / c.parts.length + 1 := by rw [room_if, if_pos h]
   rw [e]
   refine awp_seq ?_
   refine awp_region ?_
   refine aqs rfl (q_mv (by constructor)) rfl ?_
   first | refine aqs rfl (q_add64 rfl rfl (by omega) (by omega)) rfl ?_ | refine aqs rfl (q_add rfl rfl) rfl ?_
   refine aqs rfl (q_as (by constructor)) rfl ?_
   refine alist_nil ?_
   show AWP _ _ _ _
   refine awp_ret ?_
   repeat first | with_reducible refine then_ret ?_ | with_reducible refine blk_ret ?_ | with_reducible refine nogo_ret ?_
   apply retq (.inr rfl) (.cons (rok_t rfl) .nil)
   rotate_left
   ·exact ⟨rfl, rfl⟩
   repeat (first | exact List.Sublist.refl _ | exact List.nil_sublist _ | exact List.sublist_append_left _ _ | apply List.Sublist.cons)
  ·have h : ¬ (i : Int) < c.room % c.parts.length := by simpa using hc0
   have e : roomOf c i = c.room / c.parts.length := by rw [room_if, if_neg h]
   rw [e]
   refine awp_skip ?_
   show AWP _ _ _ _
   refine awp_seq ?_
   refine awp_region ?_
   refine aqs rfl (q_mv (by constructor)) rfl ?_
   refine aqs rfl (q_as (by constructor)) rfl ?_
   refine alist_nil ?_
   show AWP _ _ _ _
   refine awp_ret ?_
   repeat first | with_reducible refine then_ret ?_ | with_reducible refine blk_ret ?_ | with_reducible refine nogo_ret ?_
   apply retq (.inr rfl) (.cons (rok_t rfl) .nil)
   rotate_left
   ·exact ⟨rfl, rfl⟩
   repeat (first | exact List.Sublist.refl _ | exact List.nil_sublist _ | exact List.sublist_append_left _ _ | apply List.Sublist.cons)
theorem size_take {c : Cach} {i : Nat} (h : i < c.parts.length) : ((c.parts.take (i + 1)).map List.length).sum = ((c.parts.take i).map List.length).sum + (pt c i).length := by
  rw [take_next (pt_get h)]; simp
theorem size_bound {c : Cach} (hl : CLen c) (i : Nat) : ((c.parts.take i).map List.length).sum ≤ 10000 * i := by
  induction i with
  | zero => simp
  | succ i ih =>
    by_cases h : i < c.parts.length
    · rw [size_take h]
      have := hl.l i
      omega
    · rw [List.take_of_length_le (by omega)]
      rw [List.take_of_length_le (by omega)] at ih
      omega
set_option maxHeartbeats 1000000 in
theorem size114_c (c : Cach) (hl : CLen c) (H : Heap) : QCall Try.prog 114 [.agg c.cells] H (.lit (.int .i64 (sizeC c : Nat))) := by
  have hn := hl.n
  refine acall_intro (n := 18) (rvs := [.tmp 2]) Try.func114 rfl rfl rfl (Nat.le_of_ble_eq_true rfl) ?_
  refine awp_seq ?_
  refine awp_region ?_
  (refine aes rfl (e_bx (by constructor) rfl rfl) rfl ?_; rintro _ _ ⟨u1, rfl, rfl⟩)
  refine aqs rfl (q_as (by constructor)) rfl ?_
  refine alist_nil ?_
  show AWP _ _ _ _
  refine awp_seq ?_
  refine awp_seq ?_
  refine awp_region ?_
  first | refine aqs rfl (q_fapP fl136_2 (by decide) rfl rfl) rfl ?_ | refine aqs rfl (q_faP fl136_2 (by decide) rfl (by first | ((repeat constructor); done) | exact .same _)) rfl ?_
  first | refine aqs rfl (q_ldpN ag42 rfl (by repeat (first | exact .here | assumption | (apply HAt.left; assumption) | apply HAt.there | apply HAt.right)) (by first | rfl | assumption | (simp [*]; done) | fail) (by first | rfl | assumption | (simp [*]; done) | fail) (by constructor)) rfl ?_ | refine aqs rfl (q_ld1N ag42 rfl (by constructor)) rfl ?_
  first | refine aqs rfl (q_len Try.underlying42 .ro) rfl ?_ | refine aqs rfl (q_lenO Try.underlying42 rfl (by repeat (first | exact .here | assumption | (apply HAt.left; assumption) | apply HAt.there | apply HAt.right)) (by first | omega | (simp; done) | (simp; omega) | fail) (by first | exact Nat.sub_zero _ | rfl)) rfl ?_ | refine aqs rfl (q_len Try.underlying42 .nil) rfl ?_ | refine aqs rfl (q_len Try.underlying42 .cro) rfl ?_
  refine aqs rfl (q_mv (by constructor)) rfl ?_
  refine alist_nil ?_
  show AWP _ _ _ _
  refine awp_block ?_
  rw [List.length_map]
  refine awp_loop_inv (fun i : Nat => ⟨[(8, .lit (.int .i64 i)), (7, .lit (.int .i64 c.parts.length)), (6, .ro (c.parts.map partCells)), (2, .lit (.int .i64 (((c.parts.take i).map List.length).sum : Nat)))], 18, H⟩) (fun i => i ≤ c.parts.length) (fun i => c.parts.length - i) 0 ?_ ?_ ?_
  ·exact Nat.zero_le _
  ·exact .mk' (by repeat (first | exact trivial | refine ⟨rfl, ?_⟩)) (by repeat (first | exact .refl _ | apply List.Sublist.cons_cons | apply List.Sublist.cons))
  ·intro i hi
   have hsb := size_bound hl i
   obtain ⟨m, hm⟩ : ∃ m, m = ((c.parts.take i).map List.length).sum := ⟨_, rfl⟩
   rw [← hm] at hsb ⊢
   refine awp_seq ?_
   refine awp_region ?_
   refine aqs rfl (q_lss rfl rfl) rfl ?_
   refine alist_nil ?_
   show AWP _ _ _ _
   refine awp_seq ?_
   refine awp_cond rfl (fun hc0 => ?_) (fun hc0 => ?_)
   ·simp only [decide_eq_true_eq] at hc0
    have hil : i < c.parts.length := by omega
    have hs2 := pt_row hil
    have hpl := hl.l i
    have hml : ((pt c i).map Slot.cells).length = (pt c i).length := List.length_map ..
    have hnx := size_take hil
    rw [← hm, ← hml] at hnx
    refine awp_skip ?_
    show AWP _ _ _ _
    refine awp_seq ?_
    refine awp_block ?_
    refine awp_seq ?_
    refine awp_region ?_
    first | refine aqs rfl (q_iaN Try.underlying42 sz38 (.inl rfl) rfl (by omega) (by first | rfl | assumption | (simp [*]; done) | fail) (by first | rfl | assumption | (simp [*]; done) | fail) (by decide) (by first | ((repeat constructor); done) | exact .same _)) rfl ?_ | refine aqs rfl (q_iaS Try.underlying42 sz38 rfl (by repeat (first | exact .here | assumption | (apply HAt.left; assumption) | apply HAt.there | apply HAt.right)) rfl (by omega) (by omega) (by first | exact Nat.zero_add _ | rfl)) rfl ?_ | refine aqs rfl (q_iaN Try.underlying42 sz38 (.inr rfl) rfl (by omega) (by first | rfl | assumption | (simp [*]; done) | fail) (by first | rfl | assumption | (simp [*]; done) | fail) (by decide) (by first | ((repeat constructor); done) | exact .same _)) rfl ?_
    first | refine aqs rfl (q_ldpN ag38 rfl (by repeat (first | exact .here | assumption | (apply HAt.left; assumption) | apply HAt.there | apply HAt.right)) (by first | rfl | assumption | (simp [*]; done) | fail) (by first | rfl | assumption | (simp [*]; done) | fail) (by constructor)) rfl ?_ | refine aqs rfl (q_ld1N ag38 rfl (by constructor)) rfl ?_
    refine aqs rfl (q_as (by constructor)) rfl ?_
    refine alist_nil ?_
    show AWP _ _ _ _
    refine awp_region ?_
    refine aqs rfl (q_mv (by constructor)) rfl ?_
    refine aqs rfl (q_mv (by constructor)) rfl ?_
    first | refine aqs rfl (q_len Try.underlying38 .ro) rfl ?_ | refine aqs rfl (q_lenO Try.underlying38 rfl (by repeat (first | exact .here | assumption | (apply HAt.left; assumption) | apply HAt.there | apply HAt.right)) (by first | omega | (simp; done) | (simp; omega) | fail) (by first | exact Nat.sub_zero _ | rfl)) rfl ?_ | refine aqs rfl (q_len Try.underlying38 .nil) rfl ?_ | refine aqs rfl (q_len Try.underlying38 .cro) rfl ?_
    first | refine aqs rfl (q_add64 rfl rfl (by omega) (by omega)) rfl ?_ | refine aqs rfl (q_add rfl rfl) rfl ?_
    refine aqs rfl (q_as (by constructor)) rfl ?_
    refine alist_nil ?_
    show AWP _ _ _ _
    refine awp_region ?_
    first | refine aqs rfl (q_add64 rfl rfl (by omega) (by omega)) rfl ?_ | refine aqs rfl (q_add rfl rfl) rfl ?_
    refine aqs rfl (q_mv (by constructor)) rfl ?_
    refine alist_nil ?_
    show ∃ y, _ ∧ _ ∧ _
    exact ⟨i + 1, by omega, by omega, by simp only [hnx]; exact .mk' ⟨by rfl, rfl, rfl, by rfl, trivial⟩ (by repeat (first | exact List.Sublist.refl _ | exact List.nil_sublist _ | exact List.sublist_append_left _ _ | (apply List.Sublist.cons_cons) | (apply List.Sublist.cons)))⟩
   ·simp only [decide_eq_false_iff_not] at hc0
    have e : c.parts.take i = c.parts := List.take_of_length_le (by omega)
    rw [e] at hm
    subst hm
    refine awp_exit ?_
    show AWP _ _ _ _
    refine awp_seq ?_
    refine awp_region ?_
    refine aqs rfl (q_mv (by constructor)) rfl ?_
    refine aqs rfl (q_as (by constructor)) rfl ?_
    refine alist_nil ?_
    show AWP _ _ _ _
    refine awp_ret ?_
    repeat first | with_reducible refine then_ret ?_ | with_reducible refine blk_ret ?_ | with_reducible refine nogo_ret ?_
    apply retq (.inr rfl) (.cons (rok_t rfl) .nil)
    rotate_left
    ·exact ⟨rfl, rfl⟩
    repeat (first | exact List.Sublist.refl _ | exact List.nil_sublist _ | exact List.sublist_append_left _ _ | apply List.Sublist.cons)
set_option maxHeartbeats 1000000 in
theorem size115_c (c : Cach) (hl : CLen c) (H : Heap) : QCall Try.prog 115 [.agg c.cells] H (.lit (.int .i64 (sizeC c : Nat))) := by
  have hn := hl.n
  have hcl : (c.parts.map partCells).length = c.parts.length := List.length_map ..
  refine acall_intro (n := 21) (rvs := [.tmp 2]) Try.func115 rfl rfl rfl (Nat.le_of_ble_eq_true rfl) ?_
  refine awp_seq ?_
  refine awp_region ?_
  (refine aes rfl (e_bx (by constructor) rfl rfl) rfl ?_; rintro _ _ ⟨u1, rfl, rfl⟩)
  refine aqs rfl (q_as (by constructor)) rfl ?_
  refine alist_nil ?_
  show AWP _ _ _ _
  refine awp_seq ?_
  refine awp_region ?_
  refine aqs rfl (q_as (by constructor)) rfl ?_
  refine alist_nil ?_
  show AWP _ _ _ _
  refine awp_seq ?_
  refine awp_seq ?_
  refine awp_region ?_
  refine aqs rfl (q_as (by constructor)) rfl ?_
  refine alist_nil ?_
  show AWP _ _ _ _
  refine awp_block ?_
  refine awp_loop_inv (fun i : Nat => ⟨[(4, .lit (.int .i64 i)), (1, .ptr u1 0 0), (3, .lit (.int .i64 (((c.parts.take i).map List.length).sum : Nat)))], 21, (u1, .arr 136 7 [c.cells]) :: H⟩) (fun i => i ≤ c.parts.length) (fun i => c.parts.length - i) 0 ?_ ?_ ?_
  ·exact Nat.zero_le _
  ·exact .mk' (by repeat (first | exact trivial | refine ⟨rfl, ?_⟩)) (by repeat (first | exact .refl _ | apply List.Sublist.cons_cons | apply List.Sublist.cons))
  ·intro i hi
   have hsb := size_bound hl i
   obtain ⟨m, hm⟩ : ∃ m, m = ((c.parts.take i).map List.length).sum := ⟨_, rfl⟩
   rw [← hm] at hsb ⊢
   refine awp_seq ?_
   refine awp_seq ?_
   refine awp_region ?_
   refine aqs rfl (q_mv (by constructor)) rfl ?_
   first | refine aqs rfl (q_fapP fl136_2 (by decide) rfl rfl) rfl ?_ | refine aqs rfl (q_faP fl136_2 (by decide) rfl (by first | ((repeat constructor); done) | exact .same _)) rfl ?_
   first | refine aqs rfl (q_ldpN ag42 rfl (by repeat (first | exact .here | assumption | (apply HAt.left; assumption) | apply HAt.there | apply HAt.right)) (by first | rfl | assumption | (simp [*]; done) | fail) (by first | rfl | assumption | (simp [*]; done) | fail) (by constructor)) rfl ?_ | refine aqs rfl (q_ld1N ag42 rfl (by constructor)) rfl ?_
   first | refine aqs rfl (q_len Try.underlying42 .ro) rfl ?_ | refine aqs rfl (q_lenO Try.underlying42 rfl (by repeat (first | exact .here | assumption | (apply HAt.left; assumption) | apply HAt.there | apply HAt.right)) (by first | omega | (simp; done) | (simp; omega) | fail) (by first | exact Nat.sub_zero _ | rfl)) rfl ?_ | refine aqs rfl (q_len Try.underlying42 .nil) rfl ?_ | refine aqs rfl (q_len Try.underlying42 .cro) rfl ?_
   refine aqs rfl (q_lss rfl rfl) rfl ?_
   refine alist_nil ?_
   show AWP _ _ _ _
   refine awp_cond rfl (fun hc0 => ?_) (fun hc0 => ?_)
   ·simp only [decide_eq_true_eq] at hc0
    have hil : i < c.parts.length := by omega
    have hs2 := pt_row hil
    have hpl := hl.l i
    have hml : ((pt c i).map Slot.cells).length = (pt c i).length := List.length_map ..
    have hnx := size_take hil
    rw [← hm, ← hml] at hnx
    refine awp_skip ?_
    show AWP _ _ _ _
    refine awp_seq ?_
    refine awp_block ?_
    refine awp_region ?_
    refine aqs rfl (q_mv (by constructor)) rfl ?_
    first | refine aqs rfl (q_fapP fl136_2 (by decide) rfl rfl) rfl ?_ | refine aqs rfl (q_faP fl136_2 (by decide) rfl (by first | ((repeat constructor); done) | exact .same _)) rfl ?_
    first | refine aqs rfl (q_ldpN ag42 rfl (by repeat (first | exact .here | assumption | (apply HAt.left; assumption) | apply HAt.there | apply HAt.right)) (by first | rfl | assumption | (simp [*]; done) | fail) (by first | rfl | assumption | (simp [*]; done) | fail) (by constructor)) rfl ?_ | refine aqs rfl (q_ld1N ag42 rfl (by constructor)) rfl ?_
    refine aqs rfl (q_mv (by constructor)) rfl ?_
    first | refine aqs rfl (q_iaN Try.underlying42 sz38 (.inl rfl) rfl (by omega) (by first | rfl | assumption | (simp [*]; done) | fail) (by first | rfl | assumption | (simp [*]; done) | fail) (by decide) (by first | ((repeat constructor); done) | exact .same _)) rfl ?_ | refine aqs rfl (q_iaS Try.underlying42 sz38 rfl (by repeat (first | exact .here | assumption | (apply HAt.left; assumption) | apply HAt.there | apply HAt.right)) rfl (by omega) (by omega) (by first | exact Nat.zero_add _ | rfl)) rfl ?_ | refine aqs rfl (q_iaN Try.underlying42 sz38 (.inr rfl) rfl (by omega) (by first | rfl | assumption | (simp [*]; done) | fail) (by first | rfl | assumption | (simp [*]; done) | fail) (by decide) (by first | ((repeat constructor); done) | exact .same _)) rfl ?_
    first | refine aqs rfl (q_ldpN ag38 rfl (by repeat (first | exact .here | assumption | (apply HAt.left; assumption) | apply HAt.there | apply HAt.right)) (by first | rfl | assumption | (simp [*]; done) | fail) (by first | rfl | assumption | (simp [*]; done) | fail) (by constructor)) rfl ?_ | refine aqs rfl (q_ld1N ag38 rfl (by constructor)) rfl ?_
    first | refine aqs rfl (q_len Try.underlying38 .ro) rfl ?_ | refine aqs rfl (q_lenO Try.underlying38 rfl (by repeat (first | exact .here | assumption | (apply HAt.left; assumption) | apply HAt.there | apply HAt.right)) (by first | omega | (simp; done) | (simp; omega) | fail) (by first | exact Nat.sub_zero _ | rfl)) rfl ?_ | refine aqs rfl (q_len Try.underlying38 .nil) rfl ?_ | refine aqs rfl (q_len Try.underlying38 .cro) rfl ?_
    first | refine aqs rfl (q_add64 rfl rfl (by omega) (by omega)) rfl ?_ | refine aqs rfl (q_add rfl rfl) rfl ?_
    refine aqs rfl (q_as (by constructor)) rfl ?_
    refine alist_nil ?_
    show AWP _ _ _ _
    refine awp_region ?_
    refine aqs rfl (q_mv (by constructor)) rfl ?_
    first | refine aqs rfl (q_add64 rfl rfl (by omega) (by omega)) rfl ?_ | refine aqs rfl (q_add rfl rfl) rfl ?_
    refine aqs rfl (q_as (by constructor)) rfl ?_
    refine alist_nil ?_
    show ∃ y, _ ∧ _ ∧ _
    exact ⟨i + 1, by omega, by omega, by simp only [hnx]; exact .mk' ⟨by rfl, rfl, by rfl, trivial⟩ (by repeat (first | exact List.Sublist.refl _ | exact List.nil_sublist _ | exact List.sublist_append_left _ _ | (apply List.Sublist.cons_cons) | (apply List.Sublist.cons)))⟩
   ·simp only [decide_eq_false_iff_not] at hc0
    have e : c.parts.take i = c.parts := List.take_of_length_le (by omega)
    rw [e] at hm
    subst hm
    refine awp_exit ?_
    show AWP _ _ _ _
    refine awp_seq ?_
    refine awp_region ?_
    refine aqs rfl (q_mv (by constructor)) rfl ?_
    refine aqs rfl (q_as (by constructor)) rfl ?_
    refine alist_nil ?_
    show AWP _ _ _ _
    refine awp_ret ?_
    repeat first | with_reducible refine then_ret ?_ | with_reducible refine blk_ret ?_ | with_reducible refine nogo_ret ?_
    apply retq (.inr rfl) (.cons (rok_t rfl) .nil)
    rotate_left
    ·exact ⟨rfl, rfl⟩
    repeat (first | exact List.Sublist.refl _ | exact List.nil_sublist _ | exact List.sublist_append_left _ _ | apply List.Sublist.cons)
set_option maxHeartbeats 1000000 in
theorem with168_c (ps : List (List Slot)) (hp : ps.length ≤ 1000) (i : Nat) (hi : i < ps.length) (l : List Slot) (H : Heap) : QCall Try.prog 168 [.ro (ps.map partCells), .lit (.int .i64 i), .ro (l.map Slot.cells)] H (.ro ((ps.set i l).map partCells)) := by
  refine QCall.any H ?_
  have hlen := lenPart ps
  have hone := onePart ps
  have hpl : (ps.map partCells).length = ps.length := List.length_map ..
  have hat : (ps.map partCells)[i]? = some (partCells (ps.getD i [])) := get_map (f := partCells) (by rw [List.getD_eq_getElem?_getD, List.getElem?_eq_getElem hi]; rfl)
  have hset : (ps.map partCells).set i [.ro (l.map Slot.cells)] = (ps.set i l).map partCells := by rw [List.map_set]; rfl
  refine acall_intro (n := 15) (rvs := [.tmp 6]) Try.func168 rfl rfl rfl (Nat.le_of_ble_eq_true rfl) ?_
  refine awp_seq ?_
  refine awp_region ?_
  refine aqs rfl (q_as (by constructor)) rfl ?_
  refine alist_nil ?_
  show AWP _ _ _ _
  refine awp_seq ?_
  refine awp_region ?_
  refine aqs rfl (q_mv (by constructor)) rfl ?_
  (refine aes rfl (e_apN Try.underlying42 sz38 by38 zr38 rfl (by first | exact .ro | exact .cro | exact .nil | exact SV.slA (by repeat (first | exact .here | assumption | (apply HAt.left; assumption) | apply HAt.there | apply HAt.right)) (by first | rfl | (simp; done) | (simp; omega) | (simp [*]; done) | fail)) (by first | assumption | (intro c hc; simp at hc; subst hc; rfl) | (simp; done) | fail) (by first | assumption | (intro c hc; simp at hc; subst hc; rfl) | (simp; done) | fail) (by simp; omega) (by decide) (by decide) rfl rfl) rfl ?_; rintro _ _ ⟨u9, rfl, rfl⟩)
  refine aqs rfl (q_as (by constructor)) rfl ?_
  refine alist_nil ?_
  show AWP _ _ _ _
  refine awp_seq ?_
  refine awp_region ?_
  refine aqs rfl (q_mv (by constructor)) rfl ?_
  refine aqs rfl (q_mv (by constructor)) rfl ?_
  refine aqs rfl (q_mv (by constructor)) rfl ?_
  first | refine aqs rfl (q_iaN Try.underlying42 sz38 (.inl rfl) rfl (by omega) (by first | rfl | assumption | (simp [*]; done) | fail) (by first | rfl | assumption | (simp [*]; done) | fail) (by decide) (by first | ((repeat constructor); done) | exact .same _)) rfl ?_ | refine aqs rfl (q_iaS Try.underlying42 sz38 rfl (by repeat (first | exact .here | assumption | (apply HAt.left; assumption) | apply HAt.there | apply HAt.right)) rfl (by omega) (by omega) (by first | exact Nat.zero_add _ | rfl)) rfl ?_ | refine aqs rfl (q_iaN Try.underlying42 sz38 (.inr rfl) rfl (by omega) (by first | rfl | assumption | (simp [*]; done) | fail) (by first | rfl | assumption | (simp [*]; done) | fail) (by decide) (by first | ((repeat constructor); done) | exact .same _)) rfl ?_
  first | (refine aen rfl (e_stW sz38 rfl (by repeat (first | exact .here | assumption | (apply HAt.left; assumption) | apply HAt.there | apply HAt.right)) (by constructor) (by first | rfl | assumption | (simp [*]; done) | fail) rfl (by repeat (first | exact .here | apply HSet.there))) ?_; rintro _ _ ⟨rfl, rfl⟩) | (refine aen rfl (e_stP sz38 rfl (by repeat (first | exact .here | assumption | (apply HAt.left; assumption) | apply HAt.there | apply HAt.right)) (by first | rfl | assumption | (simp [*]; done) | fail) (by constructor) (by first | rfl | assumption | (simp [*]; done) | fail) rfl (by first | decide | omega) (by first | ((repeat constructor); done) | exact .same _) (by first | exact .one | exact .set) (by repeat (first | exact .here | apply HSet.there))) ?_; rintro _ _ ⟨rfl, rfl⟩)
  refine alist_nil ?_
  show AWP _ _ _ _
  rw [show ((i : Int).toNat) = i from rfl, hset]
  show AWP _ _ _ _
  refine awp_seq ?_
  refine awp_region ?_
  refine aqs rfl (q_mv (by constructor)) rfl ?_
  refine aqs rfl (q_as (by constructor)) rfl ?_
  refine alist_nil ?_
  show AWP _ _ _ _
  refine awp_pub (u := u9) (by repeat (first | exact .here | assumption | (apply HAt.left; assumption) | apply HAt.there | apply HAt.right)) (by repeat (first | exact PubT.nil | (apply PubT.cons; (· first | exact .one (pub_all (by first | rfl | (simp; done) | (simp; omega) | (simp [*]; done) | fail)) | exact .one .same)) | exact PubT.same)) (by repeat (first | exact PubH.drop .same | (apply PubH.cons; (· exact .same)))) ?_
  show AWP _ _ _ _
  refine awp_ret ?_
  repeat first | with_reducible refine then_ret ?_ | with_reducible refine blk_ret ?_ | with_reducible refine nogo_ret ?_
  apply retq (.inr rfl) (.cons (rok_t rfl) .nil)
  rotate_left
  ·exact ⟨rfl, rfl⟩
  repeat (first | exact List.Sublist.refl _ | exact List.nil_sublist _ | exact List.sublist_append_left _ _ | apply List.Sublist.cons)
end Go.Proofs.YtdlinfekifnmkaaAm
