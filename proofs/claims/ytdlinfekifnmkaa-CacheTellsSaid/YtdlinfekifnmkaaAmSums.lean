/- Contracts of the layer 'sums', and of what the statements of layer 9 call. Conditions: none but the sizes that each says. -/
import Derived.Test.YtdlinfekifnmkaaAmTypes
import Derived.Test.YtdlinfekifnmkaaAmData
set_option linter.unusedVariables false
set_option linter.unusedSimpArgs false
set_option maxRecDepth 20000
namespace Go.Proofs.YtdlinfekifnmkaaAm
open Go.Proofs

def pick (c n : Int) : Int := (if c < 0 then -(c + 1) else c) % n
theorem pick_nonneg (c n : Int) (h : 1 ≤ n) : 0 ≤ pick c n := Int.emod_nonneg _ (by omega)
theorem pick_lt (c n : Int) (h : 1 ≤ n) : pick c n < n := Int.emod_lt_of_pos _ (by omega)

set_option maxHeartbeats 400000 in
theorem pick38_c (c n : Int) (h1 : -9223372036854775808 ≤ c) (h2 : c ≤ 9223372036854775807) (h3 : 1 ≤ n) (H : Heap) : QCall Try.prog 38 [.lit (.int .i64 c), .lit (.int .i64 n)] H (.lit (.int .i64 (pick c n))) := by
  refine acall_intro (n := 13) (rvs := [.tmp 4]) Try.func38 rfl rfl rfl (Nat.le_of_ble_eq_true rfl) ?_
  refine awp_seq ?_
  refine awp_region ?_
  refine aqs rfl (q_as (by constructor)) rfl ?_
  refine alist_nil ?_
  show AWP _ _ _ _
  refine awp_seq ?_
  refine awp_seq ?_
  refine awp_region ?_
  refine aqs rfl (q_mv (by constructor)) rfl ?_
  refine aqs rfl (q_lss rfl rfl) rfl ?_
  refine alist_nil ?_
  show AWP _ _ _ _
  refine awp_cond rfl (fun hc0 => ?_) (fun hc0 => ?_)
  · simp only [decide_eq_true_eq] at hc0
    have e : pick c n = -(c + 1) % n := by simp [pick, hc0]
    rw [e]
    refine awp_region ?_
    refine aqs rfl (q_mv (by constructor)) rfl ?_
    first | refine aqs rfl (q_add64 rfl rfl (by omega) (by omega)) rfl ?_ | refine aqs rfl (q_add rfl rfl) rfl ?_
    first | refine aqs rfl (q_neg64 rfl (by omega) (by omega)) rfl ?_ | refine aqs rfl (q_neg rfl) rfl ?_
    refine aqs rfl (q_as (by constructor)) rfl ?_
    refine alist_nil ?_
    show AWP _ _ _ _
    refine awp_seq ?_
    refine awp_region ?_
    refine aqs rfl (q_mv (by constructor)) rfl ?_
    refine aqs rfl (q_mv (by constructor)) rfl ?_
    first | refine aqs rfl (q_rem64 rfl rfl (by omega) (by omega)) rfl ?_ | refine aqs rfl (q_rem rfl rfl (by first | decide | omega)) rfl ?_
    refine aqs rfl (q_as (by constructor)) rfl ?_
    refine alist_nil ?_
    show AWP _ _ _ _
    refine awp_ret ?_
    repeat first | with_reducible refine then_ret ?_ | with_reducible refine blk_ret ?_
    apply retq (.inr rfl) (.cons (rok_t rfl) .nil)
    rotate_left
    · exact ⟨rfl, rfl⟩
    repeat (first | exact List.Sublist.refl _ | exact List.nil_sublist _ | exact List.sublist_append_left _ _ | apply List.Sublist.cons)
  · simp only [decide_eq_false_iff_not] at hc0
    have e : pick c n = c % n := by simp [pick, hc0]
    rw [e]
    refine awp_skip ?_
    show AWP _ _ _ _
    refine awp_seq ?_
    refine awp_region ?_
    refine aqs rfl (q_mv (by constructor)) rfl ?_
    refine aqs rfl (q_mv (by constructor)) rfl ?_
    first | refine aqs rfl (q_rem64 rfl rfl (by omega) (by omega)) rfl ?_ | refine aqs rfl (q_rem rfl rfl (by first | decide | omega)) rfl ?_
    refine aqs rfl (q_as (by constructor)) rfl ?_
    refine alist_nil ?_
    show AWP _ _ _ _
    refine awp_ret ?_
    repeat first | with_reducible refine then_ret ?_ | with_reducible refine blk_ret ?_
    apply retq (.inr rfl) (.cons (rok_t rfl) .nil)
    rotate_left
    · exact ⟨rfl, rfl⟩
    repeat (first | exact List.Sublist.refl _ | exact List.nil_sublist _ | exact List.sublist_append_left _ _ | apply List.Sublist.cons)

theorem wrapU (m : Int) : IntKind.u64.wrap m = m % 18446744073709551616 := by
  simp [IntKind.wrap, IntKind.signed, IntKind.bits]

theorem wrapU_range (m : Int) : 0 ≤ IntKind.u64.wrap m ∧ IntKind.u64.wrap m ≤ 18446744073709551615 := by rw [wrapU]; omega
/-- A checksum cut to a width. -/
def cut (h w : Int) : Int := if 64 ≤ w then h else h % 2 ^ w.toNat
theorem cut_range (h w : Int) (h0 : 0 ≤ h) (h1 : h ≤ 18446744073709551615) : 0 ≤ cut h w ∧ cut h w ≤ 18446744073709551615 := by
  unfold cut
  split
  · omega
  · have hp : (0 : Int) < 2 ^ w.toNat := Int.pow_pos (by omega)
    have a1 := Int.emod_nonneg h (Int.ne_of_gt hp)
    have a2 : h % 2 ^ w.toNat ≤ h := by
      have := Int.mul_ediv_add_emod h (2 ^ w.toNat)
      have q0 := Int.ediv_nonneg h0 (Int.le_of_lt hp)
      have := Int.mul_nonneg (Int.le_of_lt hp) q0
      omega
    omega

theorem pow_lt64 {n : Nat} (h : n < 64) : (2 : Int) ^ n ≤ 9223372036854775808 := by
  have : (2 : Nat) ^ n ≤ 2 ^ 63 := Nat.pow_le_pow_right (by omega) (by omega)
  have e : ((2 ^ n : Nat) : Int) = 2 ^ n := by simp
  omega
theorem and_mask (h w : Int) (h0 : 0 ≤ h) (h1 : h ≤ 18446744073709551615) (w0 : 0 ≤ w) (w1 : w < 64) :
    IntKind.u64.wrap ((BitVec.ofInt IntKind.u64.bits h &&& BitVec.ofInt IntKind.u64.bits (IntKind.u64.wrap (IntKind.u64.wrap (1 * 2 ^ (min w.toNat IntKind.u64.bits)) - 1))).toNat) = h % 2 ^ w.toNat := by
  obtain ⟨n, rfl⟩ := Int.eq_ofNat_of_zero_le w0
  obtain ⟨k, rfl⟩ := Int.eq_ofNat_of_zero_le h0
  have hn : n < 64 := by omega
  have hm : min ((n : Int).toNat) IntKind.u64.bits = n := by simp [IntKind.bits]; omega
  have hp : (1 : Int) ≤ 2 ^ n := by
    have : (0 : Int) < 2 ^ n := Int.pow_pos (by omega)
    omega
  have hp2 := pow_lt64 hn
  rw [hm, wrapU, wrapU, wrapU]
  have e1 : (1 * 2 ^ n : Int) % 18446744073709551616 = 2 ^ n := by rw [Int.one_mul]; exact Int.emod_eq_of_lt (by omega) (by omega)
  rw [e1]
  have e2 : ((2 : Int) ^ n - 1) % 18446744073709551616 = 2 ^ n - 1 := Int.emod_eq_of_lt (by omega) (by omega)
  rw [e2]
  have e3 : ((2 : Int) ^ n - 1) = ((2 ^ n - 1 : Nat) : Int) := by
    have : 1 ≤ 2 ^ n := Nat.one_le_two_pow
    rw [Int.natCast_sub this]; simp
  rw [e3]
  have e4 : ∀ m : Nat, m < 2 ^ 64 → (BitVec.ofInt 64 (m : Int)).toNat = m := fun m hm => by simp [BitVec.toNat_ofInt]; omega
  have hlt : 2 ^ n - 1 < 2 ^ 64 := by
    have : 2 ^ n ≤ 2 ^ 63 := Nat.pow_le_pow_right (by omega) (by omega)
    omega
  show ((BitVec.ofInt 64 (k : Int) &&& BitVec.ofInt 64 ((2 ^ n - 1 : Nat) : Int)).toNat : Int) % 18446744073709551616 = (k : Int) % 2 ^ ((n : Int).toNat)
  rw [BitVec.toNat_and, e4 _ (by omega), e4 _ hlt, Nat.and_two_pow_sub_one_eq_mod]
  have e5 : ((k % 2 ^ n : Nat) : Int) = (k : Int) % 2 ^ n := by simp
  rw [e5]
  show (k : Int) % 2 ^ n % 18446744073709551616 = (k : Int) % 2 ^ n
  have a1 := Int.emod_nonneg (k : Int) (show (2 : Int) ^ n ≠ 0 by omega)
  have a2 := Int.emod_lt_of_pos (k : Int) (show (0 : Int) < (2 : Int) ^ n by omega)
  exact Int.emod_eq_of_lt a1 (by omega)

set_option maxHeartbeats 400000 in
theorem cut121_c (h w : Int) (h0 : 0 ≤ h) (h1 : h ≤ 18446744073709551615) (H : Heap) : QCall Try.prog 121 [.lit (.int .u64 h), .lit (.int .i64 w)] H (.lit (.int .u64 (cut h w))) := by
  refine acall_intro (n := 17) (rvs := [.tmp 4]) Try.func121 rfl rfl rfl (Nat.le_of_ble_eq_true rfl) ?_
  refine awp_seq ?_
  refine awp_region ?_
  refine aqs rfl (q_as (by constructor)) rfl ?_
  refine alist_nil ?_
  show AWP _ _ _ _
  refine awp_seq ?_
  refine awp_region ?_
  refine aqs rfl (q_mv (by constructor)) rfl ?_
  refine aqs rfl (q_max rfl rfl) rfl ?_
  refine aqs rfl (q_min rfl rfl) rfl ?_
  refine aqs rfl (q_as (by constructor)) rfl ?_
  refine alist_nil ?_
  show AWP _ _ _ _
  refine awp_seq ?_
  refine awp_seq ?_
  refine awp_region ?_
  refine aqs rfl (q_mv (by constructor)) rfl ?_
  refine aqs rfl (q_eql rfl rfl) rfl ?_
  refine alist_nil ?_
  show AWP _ _ _ _
  refine awp_cond rfl (fun hc0 => ?_) (fun hc0 => ?_)
  · have e : cut h w = h := by simp at hc0; simp [cut]; omega
    rw [e]
    refine awp_seq ?_
    refine awp_region ?_
    refine aqs rfl (q_mv (by constructor)) rfl ?_
    refine aqs rfl (q_as (by constructor)) rfl ?_
    refine alist_nil ?_
    show AWP _ _ _ _
    refine awp_ret ?_
    first
      | exact retq1 (.inr rfl) rfl (.refl _)
      | refine retq1 (.inr rfl) ?_ (.refl _)
        show AV.lit (.int .u64 _) = _
        rw [and_mask h (min (max w 0) 64) h0 h1 (by omega) (by omega), cut, if_neg hw, show (min (max w 0) 64).toNat = w.toNat by omega]
  · have hw : ¬ 64 ≤ w := by simp at hc0; omega
    refine awp_skip ?_
    show AWP _ _ _ _
    refine awp_seq ?_
    refine awp_region ?_
    refine aqs rfl (q_mv (by constructor)) rfl ?_
    refine aqs rfl (q_mv (by constructor)) rfl ?_
    refine aqs rfl (q_shl rfl rfl (by omega)) rfl ?_
    refine aqs rfl (q_sub rfl rfl) rfl ?_
    refine aqs rfl (q_and rfl rfl) rfl ?_
    refine aqs rfl (q_as (by constructor)) rfl ?_
    refine alist_nil ?_
    show AWP _ _ _ _
    refine awp_ret ?_
    first
      | exact retq1 (.inr rfl) rfl (.refl _)
      | refine retq1 (.inr rfl) ?_ (.refl _)
        show AV.lit (.int .u64 _) = _
        rw [and_mask h (min (max w 0) 64) h0 h1 (by omega) (by omega), cut, if_neg hw, show (min (max w 0) 64).toNat = w.toNat by omega]

theorem pow_step (i : Nat) (hi : i < 63) : (IntKind.u64.wrap (2 * 2 ^ i) : Int) = 2 ^ (i + 1) := by
  rw [wrapU]
  have := pow_lt64 (n := i + 1) (by omega)
  have hp : (0 : Int) < 2 ^ (i + 1) := Int.pow_pos (by omega)
  rw [Int.mul_comm, ← Int.pow_succ]
  exact Int.emod_eq_of_lt (by omega) (by omega)

set_option maxHeartbeats 400000 in
theorem cut122_c (h w : Int) (h0 : 0 ≤ h) (h1 : h ≤ 18446744073709551615) (H : Heap) : QCall Try.prog 122 [.lit (.int .u64 h), .lit (.int .i64 w)] H (.lit (.int .u64 (cut h w))) := by
  refine acall_intro (n := 20) (rvs := [.tmp 4]) Try.func122 rfl rfl rfl (Nat.le_of_ble_eq_true rfl) ?_
  refine awp_seq ?_
  refine awp_region ?_
  refine aqs rfl (q_as (by constructor)) rfl ?_
  refine alist_nil ?_
  show AWP _ _ _ _
  refine awp_seq ?_
  refine awp_seq ?_
  refine awp_region ?_
  refine aqs rfl (q_mv (by constructor)) rfl ?_
  refine aqs rfl (q_geq rfl rfl) rfl ?_
  refine alist_nil ?_
  show AWP _ _ _ _
  refine awp_cond rfl (fun hc0 => ?_) (fun hc0 => ?_)
  · have e : cut h w = h := by simp at hc0; simp [cut]; omega
    rw [e]
    refine awp_seq ?_
    refine awp_region ?_
    refine aqs rfl (q_mv (by constructor)) rfl ?_
    refine aqs rfl (q_as (by constructor)) rfl ?_
    refine alist_nil ?_
    show AWP _ _ _ _
    refine awp_ret ?_
    first
      | exact retq1 (.inr rfl) rfl (.refl _)
      | refine retq1 (.inr rfl) ?_ (.refl _)
        show AV.lit (.int .u64 _) = _
        rw [cut, if_neg (by omega)]
        exact congrArg (fun z => AV.lit (.int .u64 z)) (Int.tmod_eq_emod_of_nonneg h0)
  · simp only [decide_eq_false_iff_not] at hc0
    refine awp_skip ?_
    show AWP _ _ _ _
    refine awp_seq ?_
    refine awp_region ?_
    refine aqs rfl (q_as (by constructor)) rfl ?_
    refine alist_nil ?_
    show AWP _ _ _ _
    refine awp_seq ?_
    refine awp_seq ?_
    refine awp_region ?_
    refine aqs rfl (q_as (by constructor)) rfl ?_
    refine alist_nil ?_
    show AWP _ _ _ _
    refine awp_block ?_
    refine awp_loop_inv (fun i : Nat => ⟨[(6, .lit (.int .i64 i)), (5, .lit (.int .u64 (2 ^ i))), (0, .lit (.int .u64 h)), (1, .lit (.int .i64 w))], 20, H⟩) (fun i => i ≤ w.toNat) (fun i => w.toNat - i) 0 ?_ ?_ ?_
    · omega
    · exact .mk' (by repeat (first | exact trivial | refine ⟨rfl, ?_⟩)) (by repeat (first | exact .refl _ | apply List.Sublist.cons_cons | apply List.Sublist.cons))
    · intro i hi
      refine awp_seq ?_
      refine awp_seq ?_
      refine awp_region ?_
      refine aqs rfl (q_mv (by constructor)) rfl ?_
      refine aqs rfl (q_mv (by constructor)) rfl ?_
      refine aqs rfl (q_lss rfl rfl) rfl ?_
      refine alist_nil ?_
      show AWP _ _ _ _
      refine awp_cond rfl (fun hc1 => ?_) (fun hc1 => ?_)
      · simp only [decide_eq_true_eq] at hc1
        refine awp_skip ?_
        show AWP _ _ _ _
        refine awp_seq ?_
        refine awp_block ?_
        refine awp_region ?_
        refine aqs rfl (q_mv (by constructor)) rfl ?_
        refine aqs rfl (q_mul rfl rfl) rfl ?_
        refine aqs rfl (q_as (by constructor)) rfl ?_
        refine alist_nil ?_
        show AWP _ _ _ _
        refine awp_region ?_
        refine aqs rfl (q_mv (by constructor)) rfl ?_
        first | refine aqs rfl (q_add64 rfl rfl (by omega) (by omega)) rfl ?_ | refine aqs rfl (q_add rfl rfl) rfl ?_
        refine aqs rfl (q_as (by constructor)) rfl ?_
        refine alist_nil ?_
        show ∃ y, _ ∧ _ ∧ _
        refine ⟨i + 1, by omega, by omega, .mk' ⟨by rfl, ?_, rfl, rfl, trivial⟩ (.refl _)⟩
        show AV.lit (.int .u64 _) = _
        rw [pow_step i (by omega)]
      · simp only [decide_eq_false_iff_not] at hc1
        have hi2 : i = w.toNat := by omega
        subst hi2
        refine awp_exit ?_
        show AWP _ _ _ _
        refine awp_seq ?_
        refine awp_region ?_
        refine aqs rfl (q_mv (by constructor)) rfl ?_
        refine aqs rfl (q_mv (by constructor)) rfl ?_
        have hp : (0 : Int) < 2 ^ w.toNat := Int.pow_pos (by omega)
        refine aqs rfl (q_rem rfl rfl (by first | decide | omega)) rfl ?_
        refine aqs rfl (q_as (by constructor)) rfl ?_
        refine alist_nil ?_
        show AWP _ _ _ _
        refine awp_ret ?_
        first
          | exact retq1 (.inr rfl) rfl (.refl _)
          | refine retq1 (.inr rfl) ?_ (.refl _)
            show AV.lit (.int .u64 _) = _
            rw [cut, if_neg (by omega)]
            exact congrArg (fun z => AV.lit (.int .u64 z)) (Int.tmod_eq_emod_of_nonneg h0)

/-- The running sum behind the first i bytes. -/
def foldS (s : ByteArray) (h : Int) : Nat → Int
  | 0 => h
  | i + 1 => (31 * foldS s h i + byteAt s i + 1) % 18446744073709551616
theorem foldS_range (s : ByteArray) (h : Int) (h0 : 0 ≤ h) (h1 : h ≤ 18446744073709551615) (i : Nat) : 0 ≤ foldS s h i ∧ foldS s h i ≤ 18446744073709551615 := by
  cases i with
  | zero => exact ⟨h0, h1⟩
  | succ i => simp only [foldS]; omega
def more (h : Int) (s : ByteArray) (w : Int) : Int := cut (foldS s h s.size) w
theorem more_range (h : Int) (s : ByteArray) (w : Int) (h0 : 0 ≤ h) (h1 : h ≤ 18446744073709551615) : 0 ≤ more h s w ∧ more h s w ≤ 18446744073709551615 :=
  cut_range _ _ (foldS_range s h h0 h1 _).1 (foldS_range s h h0 h1 _).2
def sum (s : ByteArray) (w : Int) : Int := more 0 s w
theorem sum_range (s : ByteArray) (w : Int) : 0 ≤ sum s w ∧ sum s w ≤ 18446744073709551615 := more_range 0 s w (by omega) (by omega)
theorem step_eq (h b : Int) : IntKind.u64.wrap (IntKind.u64.wrap (IntKind.u64.wrap (31 * h) + b) + 1) = (31 * h + b + 1) % 18446744073709551616 := by
  simp only [wrapU]; omega

set_option maxHeartbeats 400000 in
theorem more41_c (h w : Int) (s : ByteArray) (h0 : 0 ≤ h) (h1 : h ≤ 18446744073709551615) (hs : s.size ≤ 9223372036854775807) (H : Heap) :
    QCall Try.prog 41 [.lit (.int .u64 h), .lit (.string s), .lit (.int .i64 w)] H (.lit (.int .u64 (more h s w))) := by
  refine acall_intro (n := 25) (rvs := [.tmp 6]) Try.func41 rfl rfl rfl (Nat.le_of_ble_eq_true rfl) ?_
  refine awp_seq ?_
  refine awp_region ?_
  refine aqs rfl (q_as (by constructor)) rfl ?_
  refine alist_nil ?_
  show AWP _ _ _ _
  refine awp_seq ?_
  refine awp_seq ?_
  refine awp_region ?_
  refine aqs rfl (q_mv (by constructor)) rfl ?_
  refine aqs rfl (q_lenS Try.underlying9 rfl) rfl ?_
  refine aqs rfl (q_mv (by constructor)) rfl ?_
  refine alist_nil ?_
  show AWP _ _ _ _
  refine awp_block ?_
  refine awp_loop_inv (fun i : Nat => ⟨[(10, .lit (.int .i64 i)), (9, .lit (.int .i64 s.size)), (0, .lit (.int .u64 (foldS s h i))), (1, .lit (.string s)), (2, .lit (.int .i64 w))], 25, H⟩) (fun i => i ≤ s.size) (fun i => s.size - i) 0 ?_ ?_ ?_
  · omega
  · exact .mk' (by repeat (first | exact trivial | refine ⟨rfl, ?_⟩)) (by repeat (first | exact .refl _ | apply List.Sublist.cons_cons | apply List.Sublist.cons))
  · intro i hi
    refine awp_seq ?_
    refine awp_region ?_
    refine aqs rfl (q_lss rfl rfl) rfl ?_
    refine alist_nil ?_
    show AWP _ _ _ _
    refine awp_seq ?_
    refine awp_cond rfl (fun hc0 => ?_) (fun hc0 => ?_)
    · simp only [decide_eq_true_eq] at hc0
      have hb := byteAt_range s ((i : Int)).toNat
      refine awp_skip ?_
      show AWP _ _ _ _
      refine awp_seq ?_
      refine awp_block ?_
      refine awp_seq ?_
      refine awp_region ?_
      refine aqs rfl (q_mv (by constructor)) rfl ?_
      refine aqs rfl (q_as (by constructor)) rfl ?_
      refine alist_nil ?_
      show AWP _ _ _ _
      refine awp_region ?_
      refine aqs rfl (q_mv (by constructor)) rfl ?_
      refine aqs rfl (q_mul rfl rfl) rfl ?_
      refine aqs rfl (q_mv (by constructor)) rfl ?_
      refine aqs rfl (q_mv (by constructor)) rfl ?_
      refine aqs rfl (q_ixs Try.underlying9 rfl rfl (by omega) (by first | omega | assumption)) rfl ?_
      first | refine aqs rfl (q_convU rfl Try.underlying5 Try.underlying22 (by omega) (by omega)) rfl ?_ | refine aqs rfl (q_conv rfl Try.underlying5 Try.underlying22) rfl ?_
      refine aqs rfl (q_add rfl rfl) rfl ?_
      refine aqs rfl (q_add rfl rfl) rfl ?_
      refine aqs rfl (q_as (by constructor)) rfl ?_
      refine alist_nil ?_
      show AWP _ _ _ _
      refine awp_region ?_
      first | refine aqs rfl (q_add64 rfl rfl (by omega) (by omega)) rfl ?_ | refine aqs rfl (q_add rfl rfl) rfl ?_
      refine aqs rfl (q_mv (by constructor)) rfl ?_
      refine alist_nil ?_
      show ∃ y, _ ∧ _ ∧ _
      refine ⟨i + 1, by omega, by omega, .mk' ⟨by rfl, rfl, ?_, rfl, rfl, trivial⟩ (.refl _)⟩
      show AV.lit (.int .u64 _) = _
      rw [step_eq]
      rfl
    · simp only [decide_eq_false_iff_not] at hc0
      have hi2 : i = s.size := by omega
      subst hi2
      refine awp_exit ?_
      show AWP _ _ _ _
      refine awp_seq ?_
      refine awp_region ?_
      refine aqs rfl (q_mv (by constructor)) rfl ?_
      refine aqs rfl (q_mv (by constructor)) rfl ?_
      first | refine aqs rfl (e_callN cb121 (cut121_c _ _ (foldS_range s h h0 h1 _).1 (foldS_range s h h0 h1 _).2 _) rfl rfl) rfl ?_ | refine aqs rfl (e_callN cb121 (ACall.arg (cut121_c _ _ (foldS_range s h h0 h1 _).1 (foldS_range s h h0 h1 _).2 _) (by repeat (first | exact ArgL.nil | (apply ArgL.cons; (· first | exact .same | exact .cro | exact .nil))))) rfl rfl) rfl ?_
      refine aqs rfl (q_as (by constructor)) rfl ?_
      refine alist_nil ?_
      show AWP _ _ _ _
      refine awp_ret ?_
      repeat first | with_reducible refine then_ret ?_ | with_reducible refine blk_ret ?_
      apply retq (.inr rfl) (.cons (rok_t rfl) .nil)
      rotate_left
      · exact ⟨rfl, rfl⟩
      repeat (first | exact List.Sublist.refl _ | exact List.nil_sublist _ | exact List.sublist_append_left _ _ | apply List.Sublist.cons)

set_option maxHeartbeats 400000 in
theorem more42_c (h w : Int) (s : ByteArray) (h0 : 0 ≤ h) (h1 : h ≤ 18446744073709551615) (hs : s.size ≤ 9223372036854775807) (H : Heap) :
    QCall Try.prog 42 [.lit (.int .u64 h), .lit (.string s), .lit (.int .i64 w)] H (.lit (.int .u64 (more h s w))) := by
  refine acall_intro (n := 27) (rvs := [.tmp 6]) Try.func42 rfl rfl rfl (Nat.le_of_ble_eq_true rfl) ?_
  refine awp_seq ?_
  refine awp_region ?_
  refine aqs rfl (q_as (by constructor)) rfl ?_
  refine alist_nil ?_
  show AWP _ _ _ _
  refine awp_seq ?_
  refine awp_region ?_
  refine aqs rfl (q_mv (by constructor)) rfl ?_
  refine aqs rfl (q_as (by constructor)) rfl ?_
  refine alist_nil ?_
  show AWP _ _ _ _
  refine awp_seq ?_
  refine awp_seq ?_
  refine awp_region ?_
  refine aqs rfl (q_as (by constructor)) rfl ?_
  refine alist_nil ?_
  show AWP _ _ _ _
  refine awp_block ?_
  refine awp_loop_inv (fun i : Nat => ⟨[(8, .lit (.int .i64 i)), (7, .lit (.int .u64 (foldS s h i))), (1, .lit (.string s)), (2, .lit (.int .i64 w))], 27, H⟩) (fun i => i ≤ s.size) (fun i => s.size - i) 0 ?_ ?_ ?_
  · omega
  · exact .mk' (by repeat (first | exact trivial | refine ⟨rfl, ?_⟩)) (by repeat (first | exact .refl _ | apply List.Sublist.cons_cons | apply List.Sublist.cons))
  · intro i hi
    refine awp_seq ?_
    refine awp_seq ?_
    refine awp_region ?_
    refine aqs rfl (q_mv (by constructor)) rfl ?_
    refine aqs rfl (q_mv (by constructor)) rfl ?_
    refine aqs rfl (q_lenS Try.underlying9 rfl) rfl ?_
    refine aqs rfl (q_lss rfl rfl) rfl ?_
    refine alist_nil ?_
    show AWP _ _ _ _
    refine awp_cond rfl (fun hc0 => ?_) (fun hc0 => ?_)
    · simp only [decide_eq_true_eq] at hc0
      have hb := byteAt_range s ((i : Int)).toNat
      refine awp_skip ?_
      show AWP _ _ _ _
      refine awp_seq ?_
      refine awp_block ?_
      refine awp_region ?_
      refine aqs rfl (q_mv (by constructor)) rfl ?_
      refine aqs rfl (q_mul rfl rfl) rfl ?_
      refine aqs rfl (q_mv (by constructor)) rfl ?_
      refine aqs rfl (q_mv (by constructor)) rfl ?_
      refine aqs rfl (q_ixs Try.underlying9 rfl rfl (by omega) (by first | omega | assumption)) rfl ?_
      first | refine aqs rfl (q_convU rfl Try.underlying5 Try.underlying22 (by omega) (by omega)) rfl ?_ | refine aqs rfl (q_conv rfl Try.underlying5 Try.underlying22) rfl ?_
      refine aqs rfl (q_add rfl rfl) rfl ?_
      refine aqs rfl (q_add rfl rfl) rfl ?_
      refine aqs rfl (q_as (by constructor)) rfl ?_
      refine alist_nil ?_
      show AWP _ _ _ _
      refine awp_region ?_
      refine aqs rfl (q_mv (by constructor)) rfl ?_
      first | refine aqs rfl (q_add64 rfl rfl (by omega) (by omega)) rfl ?_ | refine aqs rfl (q_add rfl rfl) rfl ?_
      refine aqs rfl (q_as (by constructor)) rfl ?_
      refine alist_nil ?_
      show ∃ y, _ ∧ _ ∧ _
      refine ⟨i + 1, by omega, by omega, .mk' ⟨by rfl, ?_, rfl, rfl, trivial⟩ (.refl _)⟩
      show AV.lit (.int .u64 _) = _
      rw [step_eq]
      rfl
    · simp only [decide_eq_false_iff_not] at hc0
      have hi2 : i = s.size := by omega
      subst hi2
      refine awp_exit ?_
      show AWP _ _ _ _
      refine awp_seq ?_
      refine awp_region ?_
      refine aqs rfl (q_mv (by constructor)) rfl ?_
      refine aqs rfl (q_mv (by constructor)) rfl ?_
      first | refine aqs rfl (e_callN cb122 (cut122_c _ _ (foldS_range s h h0 h1 _).1 (foldS_range s h h0 h1 _).2 _) rfl rfl) rfl ?_ | refine aqs rfl (e_callN cb122 (ACall.arg (cut122_c _ _ (foldS_range s h h0 h1 _).1 (foldS_range s h h0 h1 _).2 _) (by repeat (first | exact ArgL.nil | (apply ArgL.cons; (· first | exact .same | exact .cro | exact .nil))))) rfl rfl) rfl ?_
      refine aqs rfl (q_as (by constructor)) rfl ?_
      refine alist_nil ?_
      show AWP _ _ _ _
      refine awp_ret ?_
      repeat first | with_reducible refine then_ret ?_ | with_reducible refine blk_ret ?_
      apply retq (.inr rfl) (.cons (rok_t rfl) .nil)
      rotate_left
      · exact ⟨rfl, rfl⟩
      repeat (first | exact List.Sublist.refl _ | exact List.nil_sublist _ | exact List.sublist_append_left _ _ | apply List.Sublist.cons)

set_option maxHeartbeats 400000 in
theorem sum39_c (w : Int) (s : ByteArray) (hs : s.size ≤ 9223372036854775807) (H : Heap) :
    QCall Try.prog 39 [.lit (.string s), .lit (.int .i64 w)] H (.lit (.int .u64 (sum s w))) := by
  refine acall_intro (n := 8) (rvs := [.tmp 4]) Try.func39 rfl rfl rfl (Nat.le_of_ble_eq_true rfl) ?_
  refine awp_seq ?_
  refine awp_region ?_
  refine aqs rfl (q_as (by constructor)) rfl ?_
  refine alist_nil ?_
  show AWP _ _ _ _
  refine awp_seq ?_
  refine awp_region ?_
  refine aqs rfl (q_mv (by constructor)) rfl ?_
  refine aqs rfl (q_mv (by constructor)) rfl ?_
  first | refine aqs rfl (e_callN cb41 (more41_c _ _ _ (by omega) (by omega) hs _) rfl rfl) rfl ?_ | refine aqs rfl (e_callN cb41 (ACall.arg (more41_c _ _ _ (by omega) (by omega) hs _) (by repeat (first | exact ArgL.nil | (apply ArgL.cons; (· first | exact .same | exact .cro | exact .nil))))) rfl rfl) rfl ?_
  refine aqs rfl (q_as (by constructor)) rfl ?_
  refine alist_nil ?_
  show AWP _ _ _ _
  refine awp_ret ?_
  repeat first | with_reducible refine then_ret ?_ | with_reducible refine blk_ret ?_
  apply retq (.inr rfl) (.cons (rok_t rfl) .nil)
  rotate_left
  · exact ⟨rfl, rfl⟩
  repeat (first | exact List.Sublist.refl _ | exact List.nil_sublist _ | exact List.sublist_append_left _ _ | apply List.Sublist.cons)
set_option maxHeartbeats 400000 in
theorem sum40_c (w : Int) (s : ByteArray) (hs : s.size ≤ 9223372036854775807) (H : Heap) :
    QCall Try.prog 40 [.lit (.string s), .lit (.int .i64 w)] H (.lit (.int .u64 (sum s w))) := by
  refine acall_intro (n := 8) (rvs := [.tmp 4]) Try.func40 rfl rfl rfl (Nat.le_of_ble_eq_true rfl) ?_
  refine awp_seq ?_
  refine awp_region ?_
  refine aqs rfl (q_as (by constructor)) rfl ?_
  refine alist_nil ?_
  show AWP _ _ _ _
  refine awp_seq ?_
  refine awp_region ?_
  refine aqs rfl (q_mv (by constructor)) rfl ?_
  refine aqs rfl (q_mv (by constructor)) rfl ?_
  first | refine aqs rfl (e_callN cb42 (more42_c _ _ _ (by omega) (by omega) hs _) rfl rfl) rfl ?_ | refine aqs rfl (e_callN cb42 (ACall.arg (more42_c _ _ _ (by omega) (by omega) hs _) (by repeat (first | exact ArgL.nil | (apply ArgL.cons; (· first | exact .same | exact .cro | exact .nil))))) rfl rfl) rfl ?_
  refine aqs rfl (q_as (by constructor)) rfl ?_
  refine alist_nil ?_
  show AWP _ _ _ _
  refine awp_ret ?_
  repeat first | with_reducible refine then_ret ?_ | with_reducible refine blk_ret ?_
  apply retq (.inr rfl) (.cons (rok_t rfl) .nil)
  rotate_left
  · exact ⟨rfl, rfl⟩
  repeat (first | exact List.Sublist.refl _ | exact List.nil_sublist _ | exact List.sublist_append_left _ _ | apply List.Sublist.cons)
def ofS (s : ByteArray) (w : Int) : Key := ⟨sum s w, s.size⟩
set_option maxHeartbeats 400000 in
theorem of43_c (w : Int) (s : ByteArray) (hs : s.size ≤ 9223372036854775807) (H : Heap) :
    QCall Try.prog 43 [.lit (.string s), .lit (.int .i64 w)] H (.agg (ofS s w).cells) := by
  refine acall_intro (n := 11) (rvs := [.cell 4 29]) Try.func43 rfl rfl rfl (Nat.le_of_ble_eq_true rfl) ?_
  refine awp_seq ?_
  refine awp_region ?_
  (refine aes rfl (e_al (xs := [.lit (.int .u64 0), .lit (.int .i64 0)]) (k := 2) zr29 (.same _) rfl) rfl ?_; rintro _ _ ⟨u4, rfl, rfl⟩)
  refine alist_nil ?_
  show AWP _ _ _ _
  refine awp_seq ?_
  refine awp_region ?_
  refine aqs rfl (q_mv (by constructor)) rfl ?_
  refine aqs rfl (q_mv (by constructor)) rfl ?_
  first | refine aqs rfl (e_callN cb39 (sum39_c _ _ hs _) rfl rfl) rfl ?_ | refine aqs rfl (e_callN cb39 (ACall.arg (sum39_c _ _ hs _) (by repeat (first | exact ArgL.nil | (apply ArgL.cons; (· first | exact .same | exact .cro | exact .nil))))) rfl rfl) rfl ?_
  refine aqs rfl (q_mv (by constructor)) rfl ?_
  refine aqs rfl (q_lenS Try.underlying9 rfl) rfl ?_
  refine aqs rfl (q_bd st29 zr29 (by first | ((repeat constructor); done) | exact .same _) (by repeat (first | exact BD.nil | (apply BD.cons; (· rfl); (· constructor); (· rfl); (· rfl); (· exact Nat.le_of_ble_eq_true (by rfl)); (· exact (by first | ((repeat constructor); done) | exact .same _)))))) rfl ?_
  first | (refine aen rfl (e_stW sz29 rfl (by repeat (first | exact .here | assumption | (apply HAt.left; assumption) | apply HAt.there | apply HAt.right)) (by constructor) (by first | rfl | assumption | (simp [*]; done) | fail) rfl (by repeat (first | exact .here | apply HSet.there))) ?_; rintro _ _ ⟨rfl, rfl⟩) | (refine aen rfl (e_stP sz29 rfl (by repeat (first | exact .here | assumption | (apply HAt.left; assumption) | apply HAt.there | apply HAt.right)) (by first | rfl | assumption | (simp [*]; done) | fail) (by constructor) (by first | rfl | assumption | (simp [*]; done) | fail) rfl (by first | decide | omega) (by first | ((repeat constructor); done) | exact .same _) (by first | exact .one | exact .set) (by repeat (first | exact .here | apply HSet.there))) ?_; rintro _ _ ⟨rfl, rfl⟩)
  refine alist_nil ?_
  show AWP _ _ _ _
  refine awp_ret ?_
  repeat first | with_reducible refine then_ret ?_ | with_reducible refine blk_ret ?_
  apply retq (.inr rfl) (.cons (rok_A ag29 sz29 rfl (by repeat (first | exact .here | assumption | (apply HAt.left; assumption) | apply HAt.there | apply HAt.right)) (by rfl)) .nil)
  rotate_left
  · exact ⟨rfl, rfl⟩
  repeat (first | exact List.Sublist.refl _ | exact List.nil_sublist _ | exact List.sublist_append_left _ _ | apply List.Sublist.cons)
set_option maxHeartbeats 400000 in
theorem of44_c (w : Int) (s : ByteArray) (hs : s.size ≤ 9223372036854775807) (H : Heap) :
    QCall Try.prog 44 [.lit (.string s), .lit (.int .i64 w)] H (.agg (ofS s w).cells) := by
  refine acall_intro (n := 11) (rvs := [.cell 4 29]) Try.func44 rfl rfl rfl (Nat.le_of_ble_eq_true rfl) ?_
  refine awp_seq ?_
  refine awp_region ?_
  (refine aes rfl (e_al (xs := [.lit (.int .u64 0), .lit (.int .i64 0)]) (k := 2) zr29 (.same _) rfl) rfl ?_; rintro _ _ ⟨u4, rfl, rfl⟩)
  refine alist_nil ?_
  show AWP _ _ _ _
  refine awp_seq ?_
  refine awp_region ?_
  refine aqs rfl (q_mv (by constructor)) rfl ?_
  refine aqs rfl (q_mv (by constructor)) rfl ?_
  first | refine aqs rfl (e_callN cb40 (sum40_c _ _ hs _) rfl rfl) rfl ?_ | refine aqs rfl (e_callN cb40 (ACall.arg (sum40_c _ _ hs _) (by repeat (first | exact ArgL.nil | (apply ArgL.cons; (· first | exact .same | exact .cro | exact .nil))))) rfl rfl) rfl ?_
  refine aqs rfl (q_mv (by constructor)) rfl ?_
  refine aqs rfl (q_lenS Try.underlying9 rfl) rfl ?_
  refine aqs rfl (q_bd st29 zr29 (by first | ((repeat constructor); done) | exact .same _) (by repeat (first | exact BD.nil | (apply BD.cons; (· rfl); (· constructor); (· rfl); (· rfl); (· exact Nat.le_of_ble_eq_true (by rfl)); (· exact (by first | ((repeat constructor); done) | exact .same _)))))) rfl ?_
  first | (refine aen rfl (e_stW sz29 rfl (by repeat (first | exact .here | assumption | (apply HAt.left; assumption) | apply HAt.there | apply HAt.right)) (by constructor) (by first | rfl | assumption | (simp [*]; done) | fail) rfl (by repeat (first | exact .here | apply HSet.there))) ?_; rintro _ _ ⟨rfl, rfl⟩) | (refine aen rfl (e_stP sz29 rfl (by repeat (first | exact .here | assumption | (apply HAt.left; assumption) | apply HAt.there | apply HAt.right)) (by first | rfl | assumption | (simp [*]; done) | fail) (by constructor) (by first | rfl | assumption | (simp [*]; done) | fail) rfl (by first | decide | omega) (by first | ((repeat constructor); done) | exact .same _) (by first | exact .one | exact .set) (by repeat (first | exact .here | apply HSet.there))) ?_; rintro _ _ ⟨rfl, rfl⟩)
  refine alist_nil ?_
  show AWP _ _ _ _
  refine awp_ret ?_
  repeat first | with_reducible refine then_ret ?_ | with_reducible refine blk_ret ?_
  apply retq (.inr rfl) (.cons (rok_A ag29 sz29 rfl (by repeat (first | exact .here | assumption | (apply HAt.left; assumption) | apply HAt.there | apply HAt.right)) (by rfl)) .nil)
  rotate_left
  · exact ⟨rfl, rfl⟩
  repeat (first | exact List.Sublist.refl _ | exact List.nil_sublist _ | exact List.sublist_append_left _ _ | apply List.Sublist.cons)
def bothS (a b : ByteArray) (w : Int) : Key := ⟨cut ((37 * sum a 64 + sum b 64) % 18446744073709551616) w, a.size + b.size⟩
theorem both_eq (a b : Int) : IntKind.u64.wrap (IntKind.u64.wrap (37 * a) + b) = (37 * a + b) % 18446744073709551616 := by
  simp only [wrapU]; omega
set_option maxHeartbeats 400000 in
theorem both45_c (w : Int) (a b : ByteArray) (hs : a.size + b.size ≤ 9223372036854775807) (H : Heap) :
    QCall Try.prog 45 [.lit (.string a), .lit (.string b), .lit (.int .i64 w)] H (.agg (bothS a b w).cells) := by
  refine acall_intro (n := 21) (rvs := [.cell 6 29]) Try.func45 rfl rfl rfl (Nat.le_of_ble_eq_true rfl) ?_
  refine awp_seq ?_
  refine awp_region ?_
  (refine aes rfl (e_al (xs := [.lit (.int .u64 0), .lit (.int .i64 0)]) (k := 2) zr29 (.same _) rfl) rfl ?_; rintro _ _ ⟨u6, rfl, rfl⟩)
  refine alist_nil ?_
  show AWP _ _ _ _
  refine awp_seq ?_
  refine awp_region ?_
  refine aqs rfl (q_mv (by constructor)) rfl ?_
  first | refine aqs rfl (e_callN cb39 (sum39_c 64 a (by omega) _) rfl rfl) rfl ?_ | refine aqs rfl (e_callN cb39 (sum39_c 64 b (by omega) _) rfl rfl) rfl ?_ | refine aqs rfl (e_callN cb39 (ACall.arg (sum39_c 64 a (by omega) _) (by repeat (first | exact ArgL.nil | (apply ArgL.cons; (· first | exact .same | exact .cro | exact .nil))))) rfl rfl) rfl ?_ | refine aqs rfl (e_callN cb39 (ACall.arg (sum39_c 64 b (by omega) _) (by repeat (first | exact ArgL.nil | (apply ArgL.cons; (· first | exact .same | exact .cro | exact .nil))))) rfl rfl) rfl ?_
  refine aqs rfl (q_mul rfl rfl) rfl ?_
  refine aqs rfl (q_mv (by constructor)) rfl ?_
  first | refine aqs rfl (e_callN cb39 (sum39_c 64 a (by omega) _) rfl rfl) rfl ?_ | refine aqs rfl (e_callN cb39 (sum39_c 64 b (by omega) _) rfl rfl) rfl ?_ | refine aqs rfl (e_callN cb39 (ACall.arg (sum39_c 64 a (by omega) _) (by repeat (first | exact ArgL.nil | (apply ArgL.cons; (· first | exact .same | exact .cro | exact .nil))))) rfl rfl) rfl ?_ | refine aqs rfl (e_callN cb39 (ACall.arg (sum39_c 64 b (by omega) _) (by repeat (first | exact ArgL.nil | (apply ArgL.cons; (· first | exact .same | exact .cro | exact .nil))))) rfl rfl) rfl ?_
  refine aqs rfl (q_add rfl rfl) rfl ?_
  refine aqs rfl (q_mv (by constructor)) rfl ?_
  first | refine aqs rfl (e_callN cb121 (cut121_c _ w (wrapU_range _).1 (wrapU_range _).2 _) rfl rfl) rfl ?_ | refine aqs rfl (e_callN cb121 (ACall.arg (cut121_c _ w (wrapU_range _).1 (wrapU_range _).2 _) (by repeat (first | exact ArgL.nil | (apply ArgL.cons; (· first | exact .same | exact .cro | exact .nil))))) rfl rfl) rfl ?_
  refine aqs rfl (q_mv (by constructor)) rfl ?_
  refine aqs rfl (q_lenS Try.underlying9 rfl) rfl ?_
  refine aqs rfl (q_mv (by constructor)) rfl ?_
  refine aqs rfl (q_lenS Try.underlying9 rfl) rfl ?_
  first | refine aqs rfl (q_add64 rfl rfl (by omega) (by omega)) rfl ?_ | refine aqs rfl (q_add rfl rfl) rfl ?_
  refine aqs rfl (q_bd st29 zr29 (by first | ((repeat constructor); done) | exact .same _) (by repeat (first | exact BD.nil | (apply BD.cons; (· rfl); (· constructor); (· rfl); (· rfl); (· exact Nat.le_of_ble_eq_true (by rfl)); (· exact (by first | ((repeat constructor); done) | exact .same _)))))) rfl ?_
  first | (refine aen rfl (e_stW sz29 rfl (by repeat (first | exact .here | assumption | (apply HAt.left; assumption) | apply HAt.there | apply HAt.right)) (by constructor) (by first | rfl | assumption | (simp [*]; done) | fail) rfl (by repeat (first | exact .here | apply HSet.there))) ?_; rintro _ _ ⟨rfl, rfl⟩) | (refine aen rfl (e_stP sz29 rfl (by repeat (first | exact .here | assumption | (apply HAt.left; assumption) | apply HAt.there | apply HAt.right)) (by first | rfl | assumption | (simp [*]; done) | fail) (by constructor) (by first | rfl | assumption | (simp [*]; done) | fail) rfl (by first | decide | omega) (by first | ((repeat constructor); done) | exact .same _) (by first | exact .one | exact .set) (by repeat (first | exact .here | apply HSet.there))) ?_; rintro _ _ ⟨rfl, rfl⟩)
  refine alist_nil ?_
  show AWP _ _ _ _
  refine awp_ret ?_
  repeat first | with_reducible refine then_ret ?_ | with_reducible refine blk_ret ?_
  apply retq (.inr rfl) (.cons (rok_A ag29 sz29 rfl (by repeat (first | exact .here | assumption | (apply HAt.left; assumption) | apply HAt.there | apply HAt.right)) (by rfl)) .nil)
  rotate_left
  · rw [both_eq]
    exact ⟨rfl, rfl⟩
  repeat (first | exact List.Sublist.refl _ | exact List.nil_sublist _ | exact List.sublist_append_left _ _ | apply List.Sublist.cons)
set_option maxHeartbeats 400000 in
theorem both46_c (w : Int) (a b : ByteArray) (hs : a.size + b.size ≤ 9223372036854775807) (H : Heap) :
    QCall Try.prog 46 [.lit (.string a), .lit (.string b), .lit (.int .i64 w)] H (.agg (bothS a b w).cells) := by
  refine acall_intro (n := 21) (rvs := [.cell 6 29]) Try.func46 rfl rfl rfl (Nat.le_of_ble_eq_true rfl) ?_
  refine awp_seq ?_
  refine awp_region ?_
  (refine aes rfl (e_al (xs := [.lit (.int .u64 0), .lit (.int .i64 0)]) (k := 2) zr29 (.same _) rfl) rfl ?_; rintro _ _ ⟨u6, rfl, rfl⟩)
  refine alist_nil ?_
  show AWP _ _ _ _
  refine awp_seq ?_
  refine awp_region ?_
  refine aqs rfl (q_mv (by constructor)) rfl ?_
  first | refine aqs rfl (e_callN cb40 (sum40_c 64 a (by omega) _) rfl rfl) rfl ?_ | refine aqs rfl (e_callN cb40 (sum40_c 64 b (by omega) _) rfl rfl) rfl ?_ | refine aqs rfl (e_callN cb40 (ACall.arg (sum40_c 64 a (by omega) _) (by repeat (first | exact ArgL.nil | (apply ArgL.cons; (· first | exact .same | exact .cro | exact .nil))))) rfl rfl) rfl ?_ | refine aqs rfl (e_callN cb40 (ACall.arg (sum40_c 64 b (by omega) _) (by repeat (first | exact ArgL.nil | (apply ArgL.cons; (· first | exact .same | exact .cro | exact .nil))))) rfl rfl) rfl ?_
  refine aqs rfl (q_mul rfl rfl) rfl ?_
  refine aqs rfl (q_mv (by constructor)) rfl ?_
  first | refine aqs rfl (e_callN cb40 (sum40_c 64 a (by omega) _) rfl rfl) rfl ?_ | refine aqs rfl (e_callN cb40 (sum40_c 64 b (by omega) _) rfl rfl) rfl ?_ | refine aqs rfl (e_callN cb40 (ACall.arg (sum40_c 64 a (by omega) _) (by repeat (first | exact ArgL.nil | (apply ArgL.cons; (· first | exact .same | exact .cro | exact .nil))))) rfl rfl) rfl ?_ | refine aqs rfl (e_callN cb40 (ACall.arg (sum40_c 64 b (by omega) _) (by repeat (first | exact ArgL.nil | (apply ArgL.cons; (· first | exact .same | exact .cro | exact .nil))))) rfl rfl) rfl ?_
  refine aqs rfl (q_add rfl rfl) rfl ?_
  refine aqs rfl (q_mv (by constructor)) rfl ?_
  first | refine aqs rfl (e_callN cb122 (cut122_c _ w (wrapU_range _).1 (wrapU_range _).2 _) rfl rfl) rfl ?_ | refine aqs rfl (e_callN cb122 (ACall.arg (cut122_c _ w (wrapU_range _).1 (wrapU_range _).2 _) (by repeat (first | exact ArgL.nil | (apply ArgL.cons; (· first | exact .same | exact .cro | exact .nil))))) rfl rfl) rfl ?_
  refine aqs rfl (q_mv (by constructor)) rfl ?_
  refine aqs rfl (q_lenS Try.underlying9 rfl) rfl ?_
  refine aqs rfl (q_mv (by constructor)) rfl ?_
  refine aqs rfl (q_lenS Try.underlying9 rfl) rfl ?_
  first | refine aqs rfl (q_add64 rfl rfl (by omega) (by omega)) rfl ?_ | refine aqs rfl (q_add rfl rfl) rfl ?_
  refine aqs rfl (q_bd st29 zr29 (by first | ((repeat constructor); done) | exact .same _) (by repeat (first | exact BD.nil | (apply BD.cons; (· rfl); (· constructor); (· rfl); (· rfl); (· exact Nat.le_of_ble_eq_true (by rfl)); (· exact (by first | ((repeat constructor); done) | exact .same _)))))) rfl ?_
  first | (refine aen rfl (e_stW sz29 rfl (by repeat (first | exact .here | assumption | (apply HAt.left; assumption) | apply HAt.there | apply HAt.right)) (by constructor) (by first | rfl | assumption | (simp [*]; done) | fail) rfl (by repeat (first | exact .here | apply HSet.there))) ?_; rintro _ _ ⟨rfl, rfl⟩) | (refine aen rfl (e_stP sz29 rfl (by repeat (first | exact .here | assumption | (apply HAt.left; assumption) | apply HAt.there | apply HAt.right)) (by first | rfl | assumption | (simp [*]; done) | fail) (by constructor) (by first | rfl | assumption | (simp [*]; done) | fail) rfl (by first | decide | omega) (by first | ((repeat constructor); done) | exact .same _) (by first | exact .one | exact .set) (by repeat (first | exact .here | apply HSet.there))) ?_; rintro _ _ ⟨rfl, rfl⟩)
  refine alist_nil ?_
  show AWP _ _ _ _
  refine awp_ret ?_
  repeat first | with_reducible refine then_ret ?_ | with_reducible refine blk_ret ?_
  apply retq (.inr rfl) (.cons (rok_A ag29 sz29 rfl (by repeat (first | exact .here | assumption | (apply HAt.left; assumption) | apply HAt.there | apply HAt.right)) (by rfl)) .nil)
  rotate_left
  · rw [both_eq]
    exact ⟨rfl, rfl⟩
  repeat (first | exact List.Sublist.refl _ | exact List.nil_sublist _ | exact List.sublist_append_left _ _ | apply List.Sublist.cons)
end Go.Proofs.YtdlinfekifnmkaaAm
