/- The walk of SumsBoth. Conditions: none. -/
import Derived.Test.YtocapddabodilaaAmSumsLaws
set_option linter.unusedVariables false
set_option linter.unusedSimpArgs false
set_option maxRecDepth 20000
namespace Go.Proofs.YtocapddabodilaaAm
open Go.Proofs
set_option maxHeartbeats 2000000 in
theorem walkSumsBoth (a : ByteArray) (c : Int) (wa : a.size ≤ 9223372036854775807) (wc : 0 ≤ c ∧ c ≤ 255) :
    QCall Try.prog 7 [.lit (.string a), .lit (.int .u8 c)] [] (.lit (.bool true)) := by
  refine acall_intro (n := 93) (rvs := [.tmp 4]) Try.func7 rfl rfl rfl (Nat.le_of_ble_eq_true rfl) ?_
  refine awp_seq ?_
  refine awp_region ?_
  refine aqs rfl (q_as (by constructor)) rfl ?_
  refine alist_nil ?_
  show AWP _ _ _ _
  refine awp_seq ?_
  refine awp_region ?_
  refine aqs rfl (e_callN cb37 (awake37_c _) rfl rfl) rfl ?_
  refine aqs rfl (q_as (by constructor)) rfl ?_
  refine alist_nil ?_
  show AWP _ _ _ _
  refine awp_seq ?_
  refine awp_region ?_
  refine aqs rfl (q_mv (by constructor)) rfl ?_
  refine aqs rfl (q_mv (by constructor)) rfl ?_
  refine aqs rfl (q_lenS Try.underlying9 rfl) rfl ?_
  refine aqs rfl (q_min rfl rfl) rfl ?_
  refine aqs rfl (q_slS Try.underlying9 rfl rfl (by first | (refine ⟨_, _, rfl, ?_⟩; with_reducible rfl) | exact bnd_int rfl (by omega)) (by omega) (by omega)) rfl ?_
  refine aqs rfl (q_as (by constructor)) rfl ?_
  obtain ⟨x, hx, ex⟩ : ∃ x : ByteArray, x.size ≤ 100 ∧ x = a.extract 0 (min (a.size : Int) 100).toNat := ⟨_, by simp; omega, rfl⟩
  rw [← ex]
  refine alist_nil ?_
  show AWP _ _ _ _
  refine awp_seq ?_
  refine awp_region ?_
  refine aqs rfl (q_mv (by constructor)) rfl ?_
  first | refine aqs rfl (q_bs Try.underlying35 sz5 zr5 rfl (by first | ((repeat constructor); done) | exact .same _) rfl (by decide) (by repeat (first | exact BS.nil | (apply BS.cons; (· constructor); (· rfl); (· rfl); (· rfl); (· exact (by first | ((repeat constructor); done) | exact .same _)))))) rfl ?_ | (refine aes rfl (e_bs Try.underlying35 sz5 zr5 rfl (by first | ((repeat constructor); done) | exact .same _) rfl (by decide) (by repeat (first | exact BS.nil | (apply BS.cons; (· constructor); (· rfl); (· rfl); (· rfl); (· exact (by first | ((repeat constructor); done) | exact .same _)))))) rfl ?_; rintro _ _ ⟨u20, rfl, rfl⟩)
  refine aqs rfl (q_bstr (bs := [_]) Try.underlying35 Try.underlying5 Try.underlying9 (by first | exact .cro | exact .ro)) rfl ?_
  refine aqs rfl (q_as (by constructor)) rfl ?_
  have hs : (strOfNums [c]).size = 1 := strOfNums_size [c]
  have hl : sum (x ++ strOfNums [c]) 64 = (31 * sum x 64 + c + 1) % 18446744073709551616 := sum_snoc x c wc.1 wc.2
  generalize strOfNums [c] = s at hs hl ⊢
  refine alist_nil ?_
  show AWP _ _ _ _
  refine awp_seq ?_
  refine awp_region ?_
  refine aqs rfl (q_mv (by constructor)) rfl ?_
  refine aqs rfl (q_mv (by constructor)) rfl ?_
  refine aqs rfl (q_sadd rfl rfl (by omega)) rfl ?_
  refine aqs rfl (q_mv (by constructor)) rfl ?_
  refine aqs rfl (e_callN cb45 (both45_c _ _ _ (by first | omega | (simp; omega) | (rw [size_app, hs]; omega)) _) rfl rfl) rfl ?_
  (refine aes rfl (e_al (xs := [.lit (.int .u64 0), .lit (.int .i64 0)]) (k := 2) zr29 (.same _) rfl) rfl ?_; rintro _ _ ⟨u8, rfl, rfl⟩)
  first | (refine aen rfl (e_stW sz29 rfl (by repeat (first | exact .here | apply HAt.there)) (by constructor) (by first | rfl | assumption | (simp [*]; done)) rfl (by repeat (first | exact .here | apply HSet.there))) ?_; rintro _ _ ⟨rfl, rfl⟩) | (refine aen rfl (e_stP sz29 rfl (by repeat (first | exact .here | apply HAt.there)) (by first | rfl | assumption | (simp [*]; done)) (by constructor) (by first | rfl | assumption | (simp [*]; done)) rfl (by first | decide | omega) (by first | ((repeat constructor); done) | exact .same _) (by first | exact .one | exact .set) (by repeat (first | exact .here | apply HSet.there))) ?_; rintro _ _ ⟨rfl, rfl⟩)
  refine alist_nil ?_
  show AWP _ _ _ _
  refine awp_seq ?_
  refine awp_region ?_
  refine aqs rfl (q_mv (by constructor)) rfl ?_
  refine aqs rfl (q_mv (by constructor)) rfl ?_
  refine aqs rfl (q_mv (by constructor)) rfl ?_
  refine aqs rfl (q_sadd rfl rfl (by omega)) rfl ?_
  refine aqs rfl (e_callN cb45 (both45_c _ _ _ (by first | omega | (simp; omega) | (rw [size_app, hs]; omega)) _) rfl rfl) rfl ?_
  (refine aes rfl (e_al (xs := [.lit (.int .u64 0), .lit (.int .i64 0)]) (k := 2) zr29 (.same _) rfl) rfl ?_; rintro _ _ ⟨u9, rfl, rfl⟩)
  first | (refine aen rfl (e_stW sz29 rfl (by repeat (first | exact .here | apply HAt.there)) (by constructor) (by first | rfl | assumption | (simp [*]; done)) rfl (by repeat (first | exact .here | apply HSet.there))) ?_; rintro _ _ ⟨rfl, rfl⟩) | (refine aen rfl (e_stP sz29 rfl (by repeat (first | exact .here | apply HAt.there)) (by first | rfl | assumption | (simp [*]; done)) (by constructor) (by first | rfl | assumption | (simp [*]; done)) rfl (by first | decide | omega) (by first | ((repeat constructor); done) | exact .same _) (by first | exact .one | exact .set) (by repeat (first | exact .here | apply HSet.there))) ?_; rintro _ _ ⟨rfl, rfl⟩)
  refine alist_nil ?_
  show AWP _ _ _ _
  refine awp_seq ?_
  refine awp_region ?_
  refine aqs rfl (q_mv (by constructor)) rfl ?_
  refine aqs rfl (q_mv (by constructor)) rfl ?_
  refine aqs rfl (e_callN cb45 (both45_c _ _ _ (by first | omega | (simp; omega) | (rw [size_app, hs]; omega)) _) rfl rfl) rfl ?_
  (refine aes rfl (e_al (xs := [.lit (.int .u64 0), .lit (.int .i64 0)]) (k := 2) zr29 (.same _) rfl) rfl ?_; rintro _ _ ⟨u10, rfl, rfl⟩)
  first | (refine aen rfl (e_stW sz29 rfl (by repeat (first | exact .here | apply HAt.there)) (by constructor) (by first | rfl | assumption | (simp [*]; done)) rfl (by repeat (first | exact .here | apply HSet.there))) ?_; rintro _ _ ⟨rfl, rfl⟩) | (refine aen rfl (e_stP sz29 rfl (by repeat (first | exact .here | apply HAt.there)) (by first | rfl | assumption | (simp [*]; done)) (by constructor) (by first | rfl | assumption | (simp [*]; done)) rfl (by first | decide | omega) (by first | ((repeat constructor); done) | exact .same _) (by first | exact .one | exact .set) (by repeat (first | exact .here | apply HSet.there))) ?_; rintro _ _ ⟨rfl, rfl⟩)
  refine alist_nil ?_
  show AWP _ _ _ _
  refine awp_seq ?_
  refine awp_region ?_
  refine aqs rfl (q_mv (by constructor)) rfl ?_
  refine aqs rfl (e_callN cb39 (sum39_c _ _ (by first | omega | (simp; omega) | (rw [size_app, hs]; omega)) _) rfl rfl) rfl ?_
  refine aqs rfl (q_as (by constructor)) rfl ?_
  refine alist_nil ?_
  show AWP _ _ _ _
  refine awp_seq ?_
  refine awp_region ?_
  refine aqs rfl (q_mv (by constructor)) rfl ?_
  refine aqs rfl (q_mv (by constructor)) rfl ?_
  refine aqs rfl (q_sadd rfl rfl (by omega)) rfl ?_
  refine aqs rfl (e_callN cb39 (sum39_c _ _ (by first | omega | (simp; omega) | (rw [size_app, hs]; omega)) _) rfl rfl) rfl ?_
  refine aqs rfl (q_as (by constructor)) rfl ?_
  refine alist_nil ?_
  show AWP _ _ _ _
  refine awp_seq ?_
  refine awp_region ?_
  refine aqs rfl (q_mv (by constructor)) rfl ?_
  refine aqs rfl (q_mv (by constructor)) rfl ?_
  first | refine ans rfl rfl ?_ | refine aqs rfl (q_fapP fl29_1 (by decide) rfl rfl) rfl ?_ | refine aqs rfl (q_faP fl29_1 (by decide) rfl (by first | ((repeat constructor); done) | exact .same _)) rfl ?_
  first | refine ans rfl rfl ?_ | refine aqs rfl (q_ldpN ag3 rfl (by repeat (first | exact .here | apply HAt.there)) (by first | rfl | assumption | (simp [*]; done)) (by first | rfl | assumption | (simp [*]; done)) (by constructor)) rfl ?_ | refine aqs rfl (q_ld1N ag3 rfl (by constructor)) rfl ?_
  first | refine ans rfl rfl ?_ | refine aqs rfl (q_mv (by constructor)) rfl ?_
  first | refine ans rfl rfl ?_ | refine aqs rfl (q_lenS Try.underlying9 rfl) rfl ?_
  first | refine ans rfl rfl ?_ | refine aqs rfl (q_mul64 rfl rfl (by omega) (by omega)) rfl ?_ | refine aqs rfl (q_mul rfl rfl) rfl ?_
  first | refine ans rfl rfl ?_ | refine aqs rfl (q_add64 rfl rfl (by omega) (by omega)) rfl ?_ | refine aqs rfl (q_add rfl rfl) rfl ?_
  refine aqs rfl (castT (q_eql rfl rfl) (by refine decide_eq_true ?_; show ((x ++ s).size : Int) + (x.size : Int) = _; rw [size_app, hs]; omega)) rfl ?_
  first | refine aqs rfl (q_pickT rfl (by constructor)) rfl ?_ | refine aqs rfl (q_pickF rfl (by constructor)) rfl ?_
  refine aqs rfl (q_mv (by constructor)) rfl ?_
  first | refine ans rfl rfl ?_ | refine aqs rfl (q_fapP fl29_1 (by decide) rfl rfl) rfl ?_ | refine aqs rfl (q_faP fl29_1 (by decide) rfl (by first | ((repeat constructor); done) | exact .same _)) rfl ?_
  first | refine ans rfl rfl ?_ | refine aqs rfl (q_ldpN ag3 rfl (by repeat (first | exact .here | apply HAt.there)) (by first | rfl | assumption | (simp [*]; done)) (by first | rfl | assumption | (simp [*]; done)) (by constructor)) rfl ?_ | refine aqs rfl (q_ld1N ag3 rfl (by constructor)) rfl ?_
  first | refine ans rfl rfl ?_ | refine aqs rfl (q_fapP fl29_1 (by decide) rfl rfl) rfl ?_ | refine aqs rfl (q_faP fl29_1 (by decide) rfl (by first | ((repeat constructor); done) | exact .same _)) rfl ?_
  first | refine ans rfl rfl ?_ | refine aqs rfl (q_ldpN ag3 rfl (by repeat (first | exact .here | apply HAt.there)) (by first | rfl | assumption | (simp [*]; done)) (by first | rfl | assumption | (simp [*]; done)) (by constructor)) rfl ?_ | refine aqs rfl (q_ld1N ag3 rfl (by constructor)) rfl ?_
  refine aqs rfl (castT (q_eql rfl rfl) (by refine decide_eq_true ?_; show (x.size : Int) + ((x ++ s).size : Int) = ((x ++ s).size : Int) + (x.size : Int); omega)) rfl ?_
  first | refine aqs rfl (q_pickT rfl (by constructor)) rfl ?_ | refine aqs rfl (q_pickF rfl (by constructor)) rfl ?_
  refine aqs rfl (q_mv (by constructor)) rfl ?_
  first | refine ans rfl rfl ?_ | refine aqs rfl (q_fapP fl29_0 (by decide) rfl rfl) rfl ?_ | refine aqs rfl (q_faP fl29_0 (by decide) rfl (by first | ((repeat constructor); done) | exact .same _)) rfl ?_
  first | refine ans rfl rfl ?_ | refine aqs rfl (q_ldpN ag22 rfl (by repeat (first | exact .here | apply HAt.there)) (by first | rfl | assumption | (simp [*]; done)) (by first | rfl | assumption | (simp [*]; done)) (by constructor)) rfl ?_ | refine aqs rfl (q_ld1N ag22 rfl (by constructor)) rfl ?_
  first | refine ans rfl rfl ?_ | refine aqs rfl (q_mv (by constructor)) rfl ?_
  first | refine ans rfl rfl ?_ | refine aqs rfl (q_mul rfl rfl) rfl ?_
  first | refine ans rfl rfl ?_ | refine aqs rfl (q_mv (by constructor)) rfl ?_
  first | refine ans rfl rfl ?_ | refine aqs rfl (q_add rfl rfl) rfl ?_
  refine aqs rfl (castT (q_eql rfl rfl) (by rw [both_eq]; exact decide_eq_true (cut_ge _ 64 (by omega)))) rfl ?_
  first | refine aqs rfl (q_pickT rfl (by constructor)) rfl ?_ | refine aqs rfl (q_pickF rfl (by constructor)) rfl ?_
  refine aqs rfl (q_mv (by constructor)) rfl ?_
  first | refine ans rfl rfl ?_ | refine aqs rfl (q_fapP fl29_0 (by decide) rfl rfl) rfl ?_ | refine aqs rfl (q_faP fl29_0 (by decide) rfl (by first | ((repeat constructor); done) | exact .same _)) rfl ?_
  first | refine ans rfl rfl ?_ | refine aqs rfl (q_ldpN ag22 rfl (by repeat (first | exact .here | apply HAt.there)) (by first | rfl | assumption | (simp [*]; done)) (by first | rfl | assumption | (simp [*]; done)) (by constructor)) rfl ?_ | refine aqs rfl (q_ld1N ag22 rfl (by constructor)) rfl ?_
  first | refine ans rfl rfl ?_ | refine aqs rfl (q_mv (by constructor)) rfl ?_
  first | refine ans rfl rfl ?_ | refine aqs rfl (q_mul rfl rfl) rfl ?_
  first | refine ans rfl rfl ?_ | refine aqs rfl (q_mv (by constructor)) rfl ?_
  first | refine ans rfl rfl ?_ | refine aqs rfl (q_add rfl rfl) rfl ?_
  refine aqs rfl (castT (q_eql rfl rfl) (by rw [both_eq]; exact decide_eq_true (cut_ge _ 64 (by omega)))) rfl ?_
  first | refine aqs rfl (q_pickT rfl (by constructor)) rfl ?_ | refine aqs rfl (q_pickF rfl (by constructor)) rfl ?_
  refine aqs rfl (q_mv (by constructor)) rfl ?_
  first | refine ans rfl rfl ?_ | refine aqs rfl (q_fapP fl29_0 (by decide) rfl rfl) rfl ?_ | refine aqs rfl (q_faP fl29_0 (by decide) rfl (by first | ((repeat constructor); done) | exact .same _)) rfl ?_
  first | refine ans rfl rfl ?_ | refine aqs rfl (q_ldpN ag22 rfl (by repeat (first | exact .here | apply HAt.there)) (by first | rfl | assumption | (simp [*]; done)) (by first | rfl | assumption | (simp [*]; done)) (by constructor)) rfl ?_ | refine aqs rfl (q_ld1N ag22 rfl (by constructor)) rfl ?_
  first | refine ans rfl rfl ?_ | refine aqs rfl (q_mv (by constructor)) rfl ?_
  first | refine ans rfl rfl ?_ | refine aqs rfl (q_mul rfl rfl) rfl ?_
  refine aqs rfl (castT (q_eql rfl rfl) (by rw [wrapU]; refine decide_eq_true ?_; show cut ((37 * sum x 64 + sum x 64) % 18446744073709551616) 64 = _; rw [cut_ge _ 64 (by omega)]; omega)) rfl ?_
  first | refine aqs rfl (q_pickT rfl (by constructor)) rfl ?_ | refine aqs rfl (q_pickF rfl (by constructor)) rfl ?_
  refine aqs rfl (q_mv (by constructor)) rfl ?_
  first | refine ans rfl rfl ?_ | refine aqs rfl (q_mv (by constructor)) rfl ?_
  first | refine ans rfl rfl ?_ | refine aqs rfl (q_mv (by constructor)) rfl ?_
  first | refine ans rfl rfl ?_ | refine aqs rfl (q_mul rfl rfl) rfl ?_
  first | refine ans rfl rfl ?_ | refine aqs rfl (q_mv (by constructor)) rfl ?_
  first | refine ans rfl rfl ?_ | refine aqs rfl (q_convU rfl Try.underlying5 Try.underlying22 (by omega) (by omega)) rfl ?_ | refine aqs rfl (q_conv rfl Try.underlying5 Try.underlying22) rfl ?_
  first | refine ans rfl rfl ?_ | refine aqs rfl (q_add rfl rfl) rfl ?_
  first | refine ans rfl rfl ?_ | refine aqs rfl (q_add rfl rfl) rfl ?_
  refine aqs rfl (castT (q_eql rfl rfl) (by rw [step_eq]; exact decide_eq_true hl)) rfl ?_
  first | refine aqs rfl (q_pickT rfl (by constructor)) rfl ?_ | refine aqs rfl (q_pickF rfl (by constructor)) rfl ?_
  refine aqs rfl (q_as (by constructor)) rfl ?_
  refine alist_nil ?_
  show AWP _ _ _ _
  refine awp_ret ?_
  repeat with_reducible refine then_ret ?_
  apply retq (.inr rfl) (.cons (rok_t rfl) .nil)
  rotate_left
  · exact ⟨rfl, rfl⟩
  repeat (first | exact List.Sublist.refl _ | exact List.nil_sublist _ | apply List.Sublist.cons)
end Go.Proofs.YtocapddabodilaaAm
