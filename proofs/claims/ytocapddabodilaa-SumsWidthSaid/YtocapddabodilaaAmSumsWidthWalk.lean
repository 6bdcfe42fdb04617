/- The walk of SumsWidth. Conditions: none. -/
import Derived.Test.YtocapddabodilaaAmSumsLaws
set_option linter.unusedVariables false
set_option linter.unusedSimpArgs false
set_option maxRecDepth 20000
namespace Go.Proofs.YtocapddabodilaaAm
open Go.Proofs
set_option maxHeartbeats 2000000 in
theorem walkSumsWidth (a b : ByteArray) (one two : Int) (wa : a.size ≤ 9223372036854775807) (wb : b.size ≤ 9223372036854775807) (w1 : -9223372036854775808 ≤ one ∧ one ≤ 9223372036854775807) (w2 : -9223372036854775808 ≤ two ∧ two ≤ 9223372036854775807) :
    QCall Try.prog 4 [.lit (.string a), .lit (.string b), .lit (.int .i64 one), .lit (.int .i64 two)] [] (.lit (.bool true)) := by
  refine acall_intro (n := 109) (rvs := [.tmp 8]) Try.func4 rfl rfl rfl (Nat.le_of_ble_eq_true rfl) ?_
  refine awp_seq ?_
  refine awp_region ?_
  refine aqs rfl (q_as (by constructor)) rfl ?_
  refine alist_nil ?_
  show AWP _ _ _ _
  refine awp_seq ?_
  refine awp_region ?_
  refine aqs rfl (e_callN cb37 (awake37_c _) rfl rfl) rfl ?_
  refine aqs rfl (q_as (by constructor)) rfl ?_
  refine alist_nil ?_
  show AWP _ _ _ _
  refine awp_seq ?_
  refine awp_region ?_
  refine aqs rfl (q_mv (by constructor)) rfl ?_
  refine aqs rfl (q_mv (by constructor)) rfl ?_
  refine aqs rfl (q_lenS Try.underlying9 rfl) rfl ?_
  refine aqs rfl (q_min rfl rfl) rfl ?_
  refine aqs rfl (q_slS Try.underlying9 rfl rfl (by first | (refine ⟨_, _, rfl, ?_⟩; with_reducible rfl) | exact bnd_int rfl (by omega)) (by omega) (by omega)) rfl ?_
  refine aqs rfl (q_as (by constructor)) rfl ?_
  obtain ⟨x, hx, ex⟩ : ∃ x : ByteArray, x.size ≤ 200 ∧ x = a.extract 0 (min (a.size : Int) 200).toNat := ⟨_, by simp; omega, rfl⟩
  rw [← ex]
  refine alist_nil ?_
  show AWP _ _ _ _
  refine awp_seq ?_
  refine awp_region ?_
  refine aqs rfl (q_mv (by constructor)) rfl ?_
  refine aqs rfl (q_mv (by constructor)) rfl ?_
  refine aqs rfl (q_lenS Try.underlying9 rfl) rfl ?_
  refine aqs rfl (q_min rfl rfl) rfl ?_
  refine aqs rfl (q_slS Try.underlying9 rfl rfl (by first | (refine ⟨_, _, rfl, ?_⟩; with_reducible rfl) | exact bnd_int rfl (by omega)) (by omega) (by omega)) rfl ?_
  refine aqs rfl (q_as (by constructor)) rfl ?_
  obtain ⟨y, hy, ey⟩ : ∃ x : ByteArray, x.size ≤ 200 ∧ x = b.extract 0 (min (b.size : Int) 200).toNat := ⟨_, by simp; omega, rfl⟩
  rw [← ey]
  refine alist_nil ?_
  show AWP _ _ _ _
  refine awp_seq ?_
  refine awp_region ?_
  refine aqs rfl (q_mv (by constructor)) rfl ?_
  refine aqs rfl (e_callN cb38 (pick38_c _ _ (by omega) (by omega) (by omega) _) rfl rfl) rfl ?_
  refine aqs rfl (q_as (by constructor)) rfl ?_
  have p0 := pick_nonneg one 64 (by omega)
  have p1 := pick_lt one 64 (by omega)
  generalize pick one 64 = v at p0 p1 ⊢
  refine alist_nil ?_
  show AWP _ _ _ _
  refine awp_seq ?_
  refine awp_region ?_
  refine aqs rfl (q_mv (by constructor)) rfl ?_
  refine aqs rfl (q_mv (by constructor)) rfl ?_
  refine aqs rfl (e_callN cb38 (pick38_c _ _ (by omega) (by omega) (by omega) _) rfl rfl) rfl ?_
  have p2 := pick_nonneg two 64 (by omega)
  have p3 := pick_lt two 64 (by omega)
  generalize pick two 64 = u at p2 p3 ⊢
  first | refine aqs rfl (q_add64 rfl rfl (by omega) (by omega)) rfl ?_ | refine aqs rfl (q_add rfl rfl) rfl ?_
  refine aqs rfl (q_min rfl rfl) rfl ?_
  refine aqs rfl (q_as (by constructor)) rfl ?_
  obtain ⟨w, hw, ew⟩ : ∃ w, (v ≤ w ∧ w ≤ 64) ∧ w = min (v + u) 64 := ⟨_, by omega, rfl⟩
  rw [← ew]
  refine alist_nil ?_
  show AWP _ _ _ _
  refine awp_seq ?_
  refine awp_region ?_
  refine aqs rfl (q_mv (by constructor)) rfl ?_
  refine aqs rfl (castQ (r2 := .lit (.int .u64 (2 ^ v.toNat))) (q_shl rfl rfl (by omega)) (by exact shl_one p0 p1)) rfl ?_
  refine aqs rfl (q_as (by constructor)) rfl ?_
  have hm : (0 : Int) < 2 ^ v.toNat := Int.pow_pos (by omega)
  have hm2 := cut_cut (foldS x 0 x.size) v w p0 p1 hw.1
  have hm3 := cut_cut ((37 * sum x 64 + sum y 64) % 18446744073709551616) v w p0 p1 hw.1
  generalize 2 ^ v.toNat = m at hm hm2 hm3 ⊢
  refine alist_nil ?_
  show AWP _ _ _ _
  refine awp_seq ?_
  refine awp_region ?_
  refine aqs rfl (q_mv (by constructor)) rfl ?_
  refine aqs rfl (q_mv (by constructor)) rfl ?_
  refine aqs rfl (q_mv (by constructor)) rfl ?_
  refine aqs rfl (e_callN cb45 (both45_c _ _ _ (by omega) _) rfl rfl) rfl ?_
  (refine aes rfl (e_al (xs := [.lit (.int .u64 0), .lit (.int .i64 0)]) (k := 2) zr29 (.same _) rfl) rfl ?_; rintro _ _ ⟨u15, rfl, rfl⟩)
  first | (refine aen rfl (e_stW sz29 rfl (by repeat (first | exact .here | apply HAt.there)) (by constructor) (by first | rfl | assumption | (simp [*]; done)) rfl (by repeat (first | exact .here | apply HSet.there))) ?_; rintro _ _ ⟨rfl, rfl⟩) | (refine aen rfl (e_stP sz29 rfl (by repeat (first | exact .here | apply HAt.there)) (by first | rfl | assumption | (simp [*]; done)) (by constructor) (by first | rfl | assumption | (simp [*]; done)) rfl (by first | decide | omega) (by first | ((repeat constructor); done) | exact .same _) (by first | exact .one | exact .set) (by repeat (first | exact .here | apply HSet.there))) ?_; rintro _ _ ⟨rfl, rfl⟩)
  refine alist_nil ?_
  show AWP _ _ _ _
  refine awp_seq ?_
  refine awp_region ?_
  refine aqs rfl (q_mv (by constructor)) rfl ?_
  refine aqs rfl (q_mv (by constructor)) rfl ?_
  refine aqs rfl (q_mv (by constructor)) rfl ?_
  refine aqs rfl (e_callN cb45 (both45_c _ _ _ (by omega) _) rfl rfl) rfl ?_
  (refine aes rfl (e_al (xs := [.lit (.int .u64 0), .lit (.int .i64 0)]) (k := 2) zr29 (.same _) rfl) rfl ?_; rintro _ _ ⟨u16, rfl, rfl⟩)
  first | (refine aen rfl (e_stW sz29 rfl (by repeat (first | exact .here | apply HAt.there)) (by constructor) (by first | rfl | assumption | (simp [*]; done)) rfl (by repeat (first | exact .here | apply HSet.there))) ?_; rintro _ _ ⟨rfl, rfl⟩) | (refine aen rfl (e_stP sz29 rfl (by repeat (first | exact .here | apply HAt.there)) (by first | rfl | assumption | (simp [*]; done)) (by constructor) (by first | rfl | assumption | (simp [*]; done)) rfl (by first | decide | omega) (by first | ((repeat constructor); done) | exact .same _) (by first | exact .one | exact .set) (by repeat (first | exact .here | apply HSet.there))) ?_; rintro _ _ ⟨rfl, rfl⟩)
  refine alist_nil ?_
  show AWP _ _ _ _
  refine awp_seq ?_
  refine awp_draw 65 [(0, false), (1, false), (2, false), (3, false), (4, false), (5, false), (6, false), (7, false), (8, false), (9, false), (10, false), (11, false), (12, false), (13, false), (14, false), (15, false), (16, false), (17, false), (18, false), (19, false), (20, false), (21, false), (22, false), (23, false), (24, false), (25, false), (26, false), (27, false), (28, false), (29, false), (30, false), (31, false), (32, false), (33, false), (34, false), (35, false), (36, false), (37, false), (38, false), (39, false), (40, false), (41, false), (42, false), (43, false), (44, false), (45, false), (46, false), (47, false), (48, false), (49, false), (50, false), (51, false), (52, false), (53, false), (54, false), (55, false), (56, false), (57, false), (58, false), (59, false), (60, false), (61, false), (62, false), (63, false), (64, false)] _ ([]) mixed (by kernel_rfl) (perm0 _) ?_
  refine glq rfl (.inl ⟨rfl, q_mv (by constructor)⟩) rfl ?_
  refine glq rfl (.inl ⟨rfl, q_mv (by constructor)⟩) rfl ?_
  first | refine glq rfl (.inl ⟨rfl, q_mv (by constructor)⟩) rfl ?_ | refine glq rfl (.inr ⟨rfl, rfl⟩) rfl ?_
  first | refine glq rfl (.inl ⟨rfl, q_mv (by constructor)⟩) rfl ?_ | refine glq rfl (.inr ⟨rfl, rfl⟩) rfl ?_
  first | refine glq rfl (.inl ⟨rfl, e_callN cb39 (sum39_c _ _ (by omega) _) rfl rfl⟩) rfl ?_ | refine glq rfl (.inr ⟨rfl, rfl⟩) rfl ?_
  first | refine glq rfl (.inl ⟨rfl, q_mv (by constructor)⟩) rfl ?_ | refine glq rfl (.inr ⟨rfl, rfl⟩) rfl ?_
  first | refine glq rfl (.inl ⟨rfl, q_mv (by constructor)⟩) rfl ?_ | refine glq rfl (.inr ⟨rfl, rfl⟩) rfl ?_
  first | refine glq rfl (.inl ⟨rfl, e_callN cb39 (sum39_c _ _ (by omega) _) rfl rfl⟩) rfl ?_ | refine glq rfl (.inr ⟨rfl, rfl⟩) rfl ?_
  first | refine glq rfl (.inl ⟨rfl, q_mv (by constructor)⟩) rfl ?_ | refine glq rfl (.inr ⟨rfl, rfl⟩) rfl ?_
  first | refine glq rfl (.inl ⟨rfl, q_rem rfl rfl (by first | decide | omega)⟩) rfl ?_ | refine glq rfl (.inr ⟨rfl, rfl⟩) rfl ?_
  refine glq rfl (.inl ⟨rfl, castT (q_eql rfl rfl) (by exact decide_eq_true (hm2.trans (Int.tmod_eq_emod_of_nonneg (sum_range x w).1).symm))⟩) rfl ?_
  first | refine glq rfl (.inl ⟨rfl, q_pickT rfl (by constructor)⟩) rfl ?_ | refine glq rfl (.inl ⟨rfl, q_pickF rfl (by constructor)⟩) rfl ?_
  refine glq rfl (.inl ⟨rfl, q_mv (by constructor)⟩) rfl ?_
  first | refine glq rfl (.inl ⟨rfl, q_fapP fl29_0 (by decide) rfl rfl⟩) rfl ?_ | refine glq rfl (.inl ⟨rfl, q_faP fl29_0 (by decide) rfl (by first | ((repeat constructor); done) | exact .same _)⟩) rfl ?_ | refine glq rfl (.inr ⟨rfl, rfl⟩) rfl ?_
  first | refine glq rfl (.inl ⟨rfl, q_ldpN ag22 rfl (by repeat (first | exact .here | apply HAt.there)) (by first | rfl | assumption | (simp [*]; done)) (by first | rfl | assumption | (simp [*]; done)) (by constructor)⟩) rfl ?_ | refine glq rfl (.inl ⟨rfl, q_ld1N ag22 rfl (by constructor)⟩) rfl ?_ | refine glq rfl (.inr ⟨rfl, rfl⟩) rfl ?_
  first | refine glq rfl (.inl ⟨rfl, q_fapP fl29_0 (by decide) rfl rfl⟩) rfl ?_ | refine glq rfl (.inl ⟨rfl, q_faP fl29_0 (by decide) rfl (by first | ((repeat constructor); done) | exact .same _)⟩) rfl ?_ | refine glq rfl (.inr ⟨rfl, rfl⟩) rfl ?_
  first | refine glq rfl (.inl ⟨rfl, q_ldpN ag22 rfl (by repeat (first | exact .here | apply HAt.there)) (by first | rfl | assumption | (simp [*]; done)) (by first | rfl | assumption | (simp [*]; done)) (by constructor)⟩) rfl ?_ | refine glq rfl (.inl ⟨rfl, q_ld1N ag22 rfl (by constructor)⟩) rfl ?_ | refine glq rfl (.inr ⟨rfl, rfl⟩) rfl ?_
  first | refine glq rfl (.inl ⟨rfl, q_mv (by constructor)⟩) rfl ?_ | refine glq rfl (.inr ⟨rfl, rfl⟩) rfl ?_
  first | refine glq rfl (.inl ⟨rfl, q_rem rfl rfl (by first | decide | omega)⟩) rfl ?_ | refine glq rfl (.inr ⟨rfl, rfl⟩) rfl ?_
  refine glq rfl (.inl ⟨rfl, castT (q_eql rfl rfl) (by exact decide_eq_true (hm3.trans (Int.tmod_eq_emod_of_nonneg (cut_range _ w (by omega) (by omega)).1).symm))⟩) rfl ?_
  first | refine glq rfl (.inl ⟨rfl, q_pickT rfl (by constructor)⟩) rfl ?_ | refine glq rfl (.inl ⟨rfl, q_pickF rfl (by constructor)⟩) rfl ?_
  refine glq rfl (.inl ⟨rfl, q_mv (by constructor)⟩) rfl ?_
  first | refine glq rfl (.inl ⟨rfl, q_fapP fl29_1 (by decide) rfl rfl⟩) rfl ?_ | refine glq rfl (.inl ⟨rfl, q_faP fl29_1 (by decide) rfl (by first | ((repeat constructor); done) | exact .same _)⟩) rfl ?_ | refine glq rfl (.inr ⟨rfl, rfl⟩) rfl ?_
  first | refine glq rfl (.inl ⟨rfl, q_ldpN ag3 rfl (by repeat (first | exact .here | apply HAt.there)) (by first | rfl | assumption | (simp [*]; done)) (by first | rfl | assumption | (simp [*]; done)) (by constructor)⟩) rfl ?_ | refine glq rfl (.inl ⟨rfl, q_ld1N ag3 rfl (by constructor)⟩) rfl ?_ | refine glq rfl (.inr ⟨rfl, rfl⟩) rfl ?_
  first | refine glq rfl (.inl ⟨rfl, q_fapP fl29_1 (by decide) rfl rfl⟩) rfl ?_ | refine glq rfl (.inl ⟨rfl, q_faP fl29_1 (by decide) rfl (by first | ((repeat constructor); done) | exact .same _)⟩) rfl ?_ | refine glq rfl (.inr ⟨rfl, rfl⟩) rfl ?_
  first | refine glq rfl (.inl ⟨rfl, q_ldpN ag3 rfl (by repeat (first | exact .here | apply HAt.there)) (by first | rfl | assumption | (simp [*]; done)) (by first | rfl | assumption | (simp [*]; done)) (by constructor)⟩) rfl ?_ | refine glq rfl (.inl ⟨rfl, q_ld1N ag3 rfl (by constructor)⟩) rfl ?_ | refine glq rfl (.inr ⟨rfl, rfl⟩) rfl ?_
  refine glq rfl (.inl ⟨rfl, castT (q_eql rfl rfl) (by exact decide_eq_true rfl)⟩) rfl ?_
  first | refine glq rfl (.inl ⟨rfl, q_pickT rfl (by constructor)⟩) rfl ?_ | refine glq rfl (.inl ⟨rfl, q_pickF rfl (by constructor)⟩) rfl ?_
  refine glq rfl (.inl ⟨rfl, q_mv (by constructor)⟩) rfl ?_
  first | refine glq rfl (.inl ⟨rfl, q_mv (by constructor)⟩) rfl ?_ | refine glq rfl (.inr ⟨rfl, rfl⟩) rfl ?_
  first | refine glq rfl (.inl ⟨rfl, e_callN cb39 (sum39_c _ _ (by omega) _) rfl rfl⟩) rfl ?_ | refine glq rfl (.inr ⟨rfl, rfl⟩) rfl ?_
  refine glq rfl (.inl ⟨rfl, castT (q_eql rfl rfl) (by exact decide_eq_true (cut_le0 _ 0 (by omega)))⟩) rfl ?_
  first | refine glq rfl (.inl ⟨rfl, q_pickT rfl (by constructor)⟩) rfl ?_ | refine glq rfl (.inl ⟨rfl, q_pickF rfl (by constructor)⟩) rfl ?_
  refine glq rfl (.inl ⟨rfl, q_mv (by constructor)⟩) rfl ?_
  first | refine glq rfl (.inl ⟨rfl, q_mv (by constructor)⟩) rfl ?_ | refine glq rfl (.inr ⟨rfl, rfl⟩) rfl ?_
  first | refine glq rfl (.inl ⟨rfl, e_callN cb43 (of43_c _ _ (by omega) _) rfl rfl⟩) rfl ?_ | refine glq rfl (.inr ⟨rfl, rfl⟩) rfl ?_
  first | refine glq rfl (.inl ⟨rfl, q_mv (by constructor)⟩) rfl ?_ | refine glq rfl (.inr ⟨rfl, rfl⟩) rfl ?_
  first | refine glq rfl (.inl ⟨rfl, e_callN cb43 (of43_c _ _ (by omega) _) rfl rfl⟩) rfl ?_ | refine glq rfl (.inr ⟨rfl, rfl⟩) rfl ?_
  first | refine glq rfl (.inl ⟨rfl, q_eqlA gd29 rfl rfl (by repeat constructor) (by repeat constructor) (fun w => eq29 w)⟩) rfl ?_ | refine glq rfl (.inr ⟨rfl, rfl⟩) rfl ?_
  first | refine glq rfl (.inl ⟨rfl, q_mv (by constructor)⟩) rfl ?_ | refine glq rfl (.inr ⟨rfl, rfl⟩) rfl ?_
  first | refine glq rfl (.inl ⟨rfl, q_lenS Try.underlying9 rfl⟩) rfl ?_ | refine glq rfl (.inr ⟨rfl, rfl⟩) rfl ?_
  first | refine glq rfl (.inl ⟨rfl, q_mv (by constructor)⟩) rfl ?_ | refine glq rfl (.inr ⟨rfl, rfl⟩) rfl ?_
  first | refine glq rfl (.inl ⟨rfl, q_lenS Try.underlying9 rfl⟩) rfl ?_ | refine glq rfl (.inr ⟨rfl, rfl⟩) rfl ?_
  first | refine glq rfl (.inl ⟨rfl, q_eql rfl rfl⟩) rfl ?_ | refine glq rfl (.inr ⟨rfl, rfl⟩) rfl ?_
  refine glq rfl (.inl ⟨rfl, castT (q_beql rfl rfl Try.underlying4) (by show (((sum x 0 == sum y 0) && ((x.size : Int) == y.size)) == decide ((x.size : Int) = y.size)) = true; rw [show sum x 0 = 0 from cut_le0 _ 0 (by omega), show sum y 0 = 0 from cut_le0 _ 0 (by omega)]; by_cases e : (x.size : Int) = y.size <;> simp [e])⟩) rfl ?_
  first | refine glq rfl (.inl ⟨rfl, q_pickT rfl (by constructor)⟩) rfl ?_ | refine glq rfl (.inl ⟨rfl, q_pickF rfl (by constructor)⟩) rfl ?_
  refine glq rfl (.inl ⟨rfl, q_mv (by constructor)⟩) rfl ?_
  first | refine glq rfl (.inl ⟨rfl, q_mv (by constructor)⟩) rfl ?_ | refine glq rfl (.inr ⟨rfl, rfl⟩) rfl ?_
  first | refine glq rfl (.inl ⟨rfl, q_mv (by constructor)⟩) rfl ?_ | refine glq rfl (.inr ⟨rfl, rfl⟩) rfl ?_
  first | refine glq rfl (.inl ⟨rfl, q_add64 rfl rfl (by omega) (by omega)⟩) rfl ?_ | refine glq rfl (.inl ⟨rfl, q_add rfl rfl⟩) rfl ?_ | refine glq rfl (.inr ⟨rfl, rfl⟩) rfl ?_
  first | refine glq rfl (.inl ⟨rfl, e_callN cb43 (of43_c _ _ (by omega) _) rfl rfl⟩) rfl ?_ | refine glq rfl (.inr ⟨rfl, rfl⟩) rfl ?_
  first | refine glq rfl (.inl ⟨rfl, q_mv (by constructor)⟩) rfl ?_ | refine glq rfl (.inr ⟨rfl, rfl⟩) rfl ?_
  first | refine glq rfl (.inl ⟨rfl, e_callN cb43 (of43_c _ _ (by omega) _) rfl rfl⟩) rfl ?_ | refine glq rfl (.inr ⟨rfl, rfl⟩) rfl ?_
  refine glq rfl (.inl ⟨rfl, castT (q_eqlA gd29 rfl rfl (by repeat constructor) (by repeat constructor) (fun w => eq29 w)) (by show ((sum x (64 + v) == sum x 64) && ((x.size : Int) == x.size)) = true; rw [sum_ge x (64 + v) (by omega)]; simp)⟩) rfl ?_
  first | refine glq rfl (.inl ⟨rfl, q_pickT rfl (by constructor)⟩) rfl ?_ | refine glq rfl (.inl ⟨rfl, q_pickF rfl (by constructor)⟩) rfl ?_
  refine glq rfl (.inl ⟨rfl, q_mv (by constructor)⟩) rfl ?_
  first | refine glq rfl (.inl ⟨rfl, q_mv (by constructor)⟩) rfl ?_ | refine glq rfl (.inr ⟨rfl, rfl⟩) rfl ?_
  first | refine glq rfl (.inl ⟨rfl, q_mv (by constructor)⟩) rfl ?_ | refine glq rfl (.inr ⟨rfl, rfl⟩) rfl ?_
  first | refine glq rfl (.inl ⟨rfl, q_neg64 rfl (by omega) (by omega)⟩) rfl ?_ | refine glq rfl (.inl ⟨rfl, q_neg rfl⟩) rfl ?_ | refine glq rfl (.inr ⟨rfl, rfl⟩) rfl ?_
  first | refine glq rfl (.inl ⟨rfl, e_callN cb43 (of43_c _ _ (by omega) _) rfl rfl⟩) rfl ?_ | refine glq rfl (.inr ⟨rfl, rfl⟩) rfl ?_
  first | refine glq rfl (.inl ⟨rfl, q_mv (by constructor)⟩) rfl ?_ | refine glq rfl (.inr ⟨rfl, rfl⟩) rfl ?_
  first | refine glq rfl (.inl ⟨rfl, e_callN cb43 (of43_c _ _ (by omega) _) rfl rfl⟩) rfl ?_ | refine glq rfl (.inr ⟨rfl, rfl⟩) rfl ?_
  refine glq rfl (.inl ⟨rfl, castT (q_eqlA gd29 rfl rfl (by repeat constructor) (by repeat constructor) (fun w => eq29 w)) (by show ((sum x (-v) == sum x 0) && ((x.size : Int) == x.size)) = true; rw [sum_le0 x (-v) (by omega), sum_le0 x 0 (by omega)]; simp)⟩) rfl ?_
  first | refine glq rfl (.inl ⟨rfl, q_pickT rfl (by constructor)⟩) rfl ?_ | refine glq rfl (.inl ⟨rfl, q_pickF rfl (by constructor)⟩) rfl ?_
  refine glq rfl (.inl ⟨rfl, q_as (by constructor)⟩) rfl ?_
  refine alist_nil ?_
  show AWP _ _ _ _
  refine awp_ret ?_
  repeat with_reducible refine then_ret ?_
  apply retq (.inr rfl) (.cons (rok_t rfl) .nil)
  rotate_left
  · exact ⟨rfl, rfl⟩
  repeat (first | exact List.Sublist.refl _ | exact List.nil_sublist _ | apply List.Sublist.cons)
end Go.Proofs.YtocapddabodilaaAm
