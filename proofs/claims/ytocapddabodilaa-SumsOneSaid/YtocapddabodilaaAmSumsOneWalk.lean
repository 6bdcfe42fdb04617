/- The walk of SumsOne. Conditions: none. -/
import Derived.Test.YtocapddabodilaaAmSumsLaws
set_option linter.unusedVariables false
set_option linter.unusedSimpArgs false
set_option maxRecDepth 20000
namespace Go.Proofs.YtocapddabodilaaAm
open Go.Proofs
set_option maxHeartbeats 2000000 in
theorem walkSumsOne (a : ByteArray) (at_ c width : Int) (wa : a.size ≤ 9223372036854775807) (w1 : -9223372036854775808 ≤ at_ ∧ at_ ≤ 9223372036854775807) (wc : 0 ≤ c ∧ c ≤ 255) (w2 : -9223372036854775808 ≤ width ∧ width ≤ 9223372036854775807) :
    QCall Try.prog 6 [.lit (.string a), .lit (.int .i64 at_), .lit (.int .u8 c), .lit (.int .i64 width)] [] (.lit (.bool true)) := by
  refine acall_intro (n := 83) (rvs := [.tmp 8]) Try.func6 rfl rfl rfl (Nat.le_of_ble_eq_true rfl) ?_
  refine awp_seq ?_
  refine awp_region ?_
  refine aqs rfl (q_as (by constructor)) rfl ?_
  refine alist_nil ?_
  show AWP _ _ _ _
  refine awp_seq ?_
  refine awp_region ?_
  refine aqs rfl (e_callN cb37 (awake37_c _) rfl rfl) rfl ?_
  refine aqs rfl (q_as (by constructor)) rfl ?_
  refine alist_nil ?_
  show AWP _ _ _ _
  refine awp_seq ?_
  refine awp_region ?_
  refine aqs rfl (q_mv (by constructor)) rfl ?_
  refine aqs rfl (q_mv (by constructor)) rfl ?_
  refine aqs rfl (q_lenS Try.underlying9 rfl) rfl ?_
  refine aqs rfl (q_min rfl rfl) rfl ?_
  refine aqs rfl (q_slS Try.underlying9 rfl rfl (by first | (refine ⟨_, _, rfl, ?_⟩; with_reducible rfl) | exact bnd_int rfl (by omega)) (by omega) (by omega)) rfl ?_
  refine aqs rfl (q_as (by constructor)) rfl ?_
  obtain ⟨x, hx, ex⟩ : ∃ x : ByteArray, x.size ≤ 200 ∧ x = a.extract 0 (min (a.size : Int) 200).toNat := ⟨_, by simp; omega, rfl⟩
  rw [← ex]
  refine alist_nil ?_
  show AWP _ _ _ _
  refine awp_seq ?_
  refine awp_seq ?_
  refine awp_region ?_
  refine aqs rfl (q_mv (by constructor)) rfl ?_
  refine aqs rfl (q_lenS Try.underlying9 rfl) rfl ?_
  refine aqs rfl (q_eql rfl rfl) rfl ?_
  refine alist_nil ?_
  show AWP _ _ _ _
  refine awp_cond rfl (fun hc0 => ?_) (fun hc0 => ?_)
  · try simp only [decide_eq_true_eq, decide_eq_false_iff_not, Bool.not_eq_true', Bool.not_eq_false', Bool.not_eq_eq_eq_not, Bool.not_true, Bool.not_false, beq_iff_eq, beq_eq_false_iff_ne, Int.not_lt, Int.not_le] at hc0
    refine awp_seq ?_
    refine awp_region ?_
    refine aqs rfl (q_mv (by constructor)) rfl ?_
    refine aqs rfl (q_as (by constructor)) rfl ?_
    refine alist_nil ?_
    show AWP _ _ _ _
    refine awp_ret ?_
    repeat with_reducible refine then_ret ?_
    apply retq (.inr rfl) (.cons (rok_t rfl) .nil)
    rotate_left
    · exact ⟨rfl, rfl⟩
    repeat (first | exact List.Sublist.refl _ | exact List.nil_sublist _ | apply List.Sublist.cons)
  · try simp only [decide_eq_true_eq, decide_eq_false_iff_not, Bool.not_eq_true', Bool.not_eq_false', Bool.not_eq_eq_eq_not, Bool.not_true, Bool.not_false, beq_iff_eq, beq_eq_false_iff_ne, Int.not_lt, Int.not_le] at hc0
    refine awp_skip ?_
    show AWP _ _ _ _
    refine awp_seq ?_
    refine awp_region ?_
    refine aqs rfl (q_mv (by constructor)) rfl ?_
    refine aqs rfl (q_mv (by constructor)) rfl ?_
    refine aqs rfl (q_lenS Try.underlying9 rfl) rfl ?_
    refine aqs rfl (e_callN cb38 (pick38_c _ _ (by omega) (by omega) (by omega) _) rfl rfl) rfl ?_
    refine aqs rfl (q_as (by constructor)) rfl ?_
    have p0 := pick_nonneg at_ x.size (by omega)
    have p1 := pick_lt at_ x.size (by omega)
    generalize pick at_ x.size = k at p0 p1 ⊢
    obtain ⟨i, rfl⟩ := Int.eq_ofNat_of_zero_le p0
    have hi : i < x.size := by omega
    have hz := setAt_size x i c hi
    have z1 : (x.extract 0 i).size = i := by rw [size_extract _ _ _ (by omega)]; omega
    have z2 : (strOfNums [c]).size = 1 := strOfNums_size [c]
    have z3 : (x.extract 0 i ++ strOfNums [c]).size = i + 1 := by rw [size_app, z1, z2]
    have z4 : ((i : Int) + 1).toNat = i + 1 := by omega
    have z5 : (x.extract ((i : Int) + 1).toNat x.size).size = x.size - (i + 1) := by rw [z4, size_extract _ _ _ (by omega)]
    refine alist_nil ?_
    show AWP _ _ _ _
    refine awp_seq ?_
    refine awp_draw 13 [(0, false), (1, false), (2, false), (3, false), (4, false), (5, false), (6, false), (7, false), (8, false), (9, false), (10, false), (11, false), (12, false)] _ ([]) mixed (by kernel_rfl) (perm0 _) ?_
    refine glq rfl (.inl ⟨rfl, q_mv (by constructor)⟩) rfl ?_
    refine glq rfl (.inl ⟨rfl, q_mv (by constructor)⟩) rfl ?_
    refine glq rfl (.inl ⟨rfl, q_slS Try.underlying9 rfl rfl (by first | (refine ⟨_, _, rfl, ?_⟩; with_reducible rfl) | exact bnd_int rfl (by omega)) (by omega) (by omega)⟩) rfl ?_
    refine glq rfl (.inl ⟨rfl, q_mv (by constructor)⟩) rfl ?_
    refine glq rfl (.inl ⟨rfl, q_bs Try.underlying35 sz5 zr5 rfl (by first | ((repeat constructor); done) | exact .same _) rfl (by decide) (by repeat (first | exact BS.nil | (apply BS.cons; (· constructor); (· rfl); (· rfl); (· rfl); (· exact (by first | ((repeat constructor); done) | exact .same _)))))⟩) rfl ?_
    refine glq rfl (.inl ⟨rfl, q_bstr (bs := [_]) Try.underlying35 Try.underlying5 Try.underlying9 (by first | exact .cro | exact .ro)⟩) rfl ?_
    refine glq rfl (.inl ⟨rfl, q_sadd rfl rfl (by omega)⟩) rfl ?_
    refine glq rfl (.inl ⟨rfl, q_mv (by constructor)⟩) rfl ?_
    refine glq rfl (.inl ⟨rfl, q_mv (by constructor)⟩) rfl ?_
    first | refine glq rfl (.inl ⟨rfl, q_add64 rfl rfl (by omega) (by omega)⟩) rfl ?_ | refine glq rfl (.inl ⟨rfl, q_add rfl rfl⟩) rfl ?_
    refine glq rfl (.inl ⟨rfl, q_slS Try.underlying9 rfl (by first | (refine ⟨_, _, rfl, ?_⟩; with_reducible rfl) | exact bnd_int rfl (by omega)) rfl (by omega) (by omega)⟩) rfl ?_
    refine glq rfl (.inl ⟨rfl, castQ (r2 := .lit (.string (setAt x i c))) (q_sadd rfl rfl (by omega)) (by rw [z4]; rfl)⟩) rfl ?_
    refine glq rfl (.inl ⟨rfl, q_as (by constructor)⟩) rfl ?_
    refine alist_nil ?_
    show AWP _ _ _ _
    refine awp_seq ?_
    refine awp_region ?_
    refine aqs rfl (q_mv (by constructor)) rfl ?_
    refine aqs rfl (e_callN cb38 (pick38_c _ _ (by omega) (by omega) (by omega) _) rfl rfl) rfl ?_
    have p2 := pick_nonneg width 57 (by omega)
    have p3 := pick_lt width 57 (by omega)
    first | refine aqs rfl (q_add64 rfl rfl (by omega) (by omega)) rfl ?_ | refine aqs rfl (q_add rfl rfl) rfl ?_
    obtain ⟨w, hw, ew⟩ : ∃ w, (8 ≤ w ∧ w ≤ 64) ∧ w = 8 + pick width 57 := ⟨_, by omega, rfl⟩
    rw [← ew]
    refine aqs rfl (q_as (by constructor)) rfl ?_
    refine alist_nil ?_
    show AWP _ _ _ _
    refine awp_seq ?_
    refine awp_region ?_
    refine aqs rfl (q_mv (by constructor)) rfl ?_
    refine aqs rfl (q_mv (by constructor)) rfl ?_
    first | refine ans rfl rfl ?_ | refine aqs rfl (q_mv (by constructor)) rfl ?_
    first | refine ans rfl rfl ?_ | refine aqs rfl (q_mv (by constructor)) rfl ?_
    first | refine ans rfl rfl ?_ | refine aqs rfl (e_callN cb39 (sum39_c _ _ (by first | omega | (simp; omega) | decide | (show _ + 1 ≤ 9223372036854775807; omega)) _) rfl rfl) rfl ?_
    first | refine ans rfl rfl ?_ | refine aqs rfl (q_mv (by constructor)) rfl ?_
    first | refine ans rfl rfl ?_ | refine aqs rfl (q_mv (by constructor)) rfl ?_
    first | refine ans rfl rfl ?_ | refine aqs rfl (e_callN cb39 (sum39_c _ _ (by first | omega | (simp; omega) | decide | (show _ + 1 ≤ 9223372036854775807; omega)) _) rfl rfl) rfl ?_
    first | refine ans rfl rfl ?_ | refine aqs rfl (q_eql rfl rfl) rfl ?_
    first | refine ans rfl rfl ?_ | refine aqs rfl (q_mv (by constructor)) rfl ?_
    first | refine ans rfl rfl ?_ | refine aqs rfl (q_mv (by constructor)) rfl ?_
    first | refine ans rfl rfl ?_ | refine aqs rfl (q_seql rfl rfl) rfl ?_
    refine aqs rfl (castT (q_beql rfl rfl Try.underlying4) (by have := sum_setAt x i c w hi wc.1 wc.2 (by omega) (by omega); simp [str_eq, this])) rfl ?_
    first | refine aqs rfl (q_pickT rfl (by constructor)) rfl ?_ | refine aqs rfl (q_pickF rfl (by constructor)) rfl ?_
    refine aqs rfl (q_mv (by constructor)) rfl ?_
    first | refine ans rfl rfl ?_ | refine aqs rfl (q_mv (by constructor)) rfl ?_
    first | refine ans rfl rfl ?_ | refine aqs rfl (q_mv (by constructor)) rfl ?_
    first | refine ans rfl rfl ?_ | refine aqs rfl (e_callN cb43 (of43_c _ _ (by first | omega | (simp; omega) | decide | (show _ + 1 ≤ 9223372036854775807; omega)) _) rfl rfl) rfl ?_
    first | refine ans rfl rfl ?_ | refine aqs rfl (q_mv (by constructor)) rfl ?_
    first | refine ans rfl rfl ?_ | refine aqs rfl (q_mv (by constructor)) rfl ?_
    first | refine ans rfl rfl ?_ | refine aqs rfl (e_callN cb43 (of43_c _ _ (by first | omega | (simp; omega) | decide | (show _ + 1 ≤ 9223372036854775807; omega)) _) rfl rfl) rfl ?_
    first | refine ans rfl rfl ?_ | refine aqs rfl (q_eqlA gd29 rfl rfl (by repeat constructor) (by repeat constructor) (fun w => eq29 w)) rfl ?_
    first | refine ans rfl rfl ?_ | refine aqs rfl (q_mv (by constructor)) rfl ?_
    first | refine ans rfl rfl ?_ | refine aqs rfl (q_mv (by constructor)) rfl ?_
    first | refine ans rfl rfl ?_ | refine aqs rfl (q_seql rfl rfl) rfl ?_
    refine aqs rfl (castT (q_beql rfl rfl Try.underlying4) (by have := sum_setAt x i c w hi wc.1 wc.2 (by omega) (by omega); show ((((sum x w == sum (setAt x i c) w) && ((x.size : Int) == (setAt x i c).size))) == (x.toList == (setAt x i c).toList)) = true; rw [str_eq, hz, beq_dec this]; simp)) rfl ?_
    first | refine aqs rfl (q_pickT rfl (by constructor)) rfl ?_ | refine aqs rfl (q_pickF rfl (by constructor)) rfl ?_
    refine aqs rfl (q_mv (by constructor)) rfl ?_
    first | refine ans rfl rfl ?_ | refine aqs rfl (q_mv (by constructor)) rfl ?_
    first | refine ans rfl rfl ?_ | refine aqs rfl (q_mv (by constructor)) rfl ?_
    first | refine ans rfl rfl ?_ | refine aqs rfl (e_callN cb45 (both45_c _ _ _ (by first | omega | (simp; omega) | decide | (show _ + 1 ≤ 9223372036854775807; omega)) _) rfl rfl) rfl ?_
    first | refine ans rfl rfl ?_ | refine aqs rfl (q_mv (by constructor)) rfl ?_
    first | refine ans rfl rfl ?_ | refine aqs rfl (q_mv (by constructor)) rfl ?_
    first | refine ans rfl rfl ?_ | refine aqs rfl (e_callN cb45 (both45_c _ _ _ (by first | omega | (simp; omega) | decide | (show _ + 1 ≤ 9223372036854775807; omega)) _) rfl rfl) rfl ?_
    first | refine ans rfl rfl ?_ | refine aqs rfl (q_eqlA gd29 rfl rfl (by repeat constructor) (by repeat constructor) (fun w => eq29 w)) rfl ?_
    first | refine ans rfl rfl ?_ | refine aqs rfl (q_mv (by constructor)) rfl ?_
    first | refine ans rfl rfl ?_ | refine aqs rfl (q_mv (by constructor)) rfl ?_
    first | refine ans rfl rfl ?_ | refine aqs rfl (q_seql rfl rfl) rfl ?_
    refine aqs rfl (castT (q_beql rfl rfl Try.underlying4) (by have := both_setAt x ⟨#[113]⟩ i c w hi wc.1 wc.2 (by omega) (by omega); show (((((bothS x ⟨#[113]⟩ w).sum == (bothS (setAt x i c) ⟨#[113]⟩ w).sum) && ((x.size : Int) + (⟨#[113]⟩ : ByteArray).size == (setAt x i c).size + (⟨#[113]⟩ : ByteArray).size))) == (x.toList == (setAt x i c).toList)) = true; rw [str_eq, hz, beq_dec this]; simp)) rfl ?_
    first | refine aqs rfl (q_pickT rfl (by constructor)) rfl ?_ | refine aqs rfl (q_pickF rfl (by constructor)) rfl ?_
    refine aqs rfl (q_as (by constructor)) rfl ?_
    refine alist_nil ?_
    show AWP _ _ _ _
    refine awp_ret ?_
    repeat with_reducible refine then_ret ?_
    apply retq (.inr rfl) (.cons (rok_t rfl) .nil)
    rotate_left
    · exact ⟨rfl, rfl⟩
    repeat (first | exact List.Sublist.refl _ | exact List.nil_sublist _ | apply List.Sublist.cons)
end Go.Proofs.YtocapddabodilaaAm
