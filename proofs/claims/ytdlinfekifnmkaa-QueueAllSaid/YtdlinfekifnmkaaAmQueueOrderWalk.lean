/- The walk of QueueOrder. Conditions: none. -/
import Derived.Test.YtdlinfekifnmkaaAmQueueTellsWalk
set_option linter.unusedVariables false
set_option linter.unusedSimpArgs false
set_option maxRecDepth 20000
namespace Go.Proofs.YtdlinfekifnmkaaAm
open Go.Proofs
theorem pre_at {α : Type} {pre b : List α} {i : Nat} {t : α} (h : b[i]? = some t) : (pre ++ b)[pre.length + i]? = some t := by
  rw [List.getElem?_append_right (by omega), show pre.length + i - pre.length = i by omega]; exact h
set_option maxHeartbeats 1000000 in
theorem tasks77s_c (a b pre : List Task) (ha : a.length ≤ 1000000) (hb : b.length ≤ 1000000) (u : Nat) (H : Heap) (hq : HAt H u (.arr 75 4 ((pre ++ b).map Task.cells))) : QCall Try.prog 77 [.ro (a.map Task.cells), .sl u pre.length (pre.length + b.length)] H (.lit (.bool (decide (a = b)))) := by
  have hpl : ((pre ++ b).map Task.cells).length = pre.length + b.length := by simp
  refine acall_intro (n := 26) (rvs := [.tmp 4]) Try.func77 rfl rfl rfl (Nat.le_of_ble_eq_true rfl) ?_
  refine awp_seq ?_
  refine awp_region ?_
  refine aqs rfl (q_as (by constructor)) rfl ?_
  refine alist_nil ?_
  show AWP _ _ _ _
  refine awp_seq ?_
  refine awp_seq ?_
  refine awp_region ?_
  refine aqs rfl (q_mv (by constructor)) rfl ?_
  first | refine aqs rfl (q_len Try.underlying61 .ro) rfl ?_ | refine aqs rfl (q_lenO Try.underlying61 rfl (by repeat (first | exact .here | assumption | (apply HAt.left; assumption) | apply HAt.there | apply HAt.right)) (by first | omega | (simp; done) | (simp; omega) | fail) (by first | exact Nat.sub_zero _ | rfl)) rfl ?_ | refine aqs rfl (q_len Try.underlying61 .nil) rfl ?_ | refine aqs rfl (q_len Try.underlying61 .cro) rfl ?_
  refine aqs rfl (q_mv (by constructor)) rfl ?_
  first | refine aqs rfl (castQ (r2 := .lit (.int .i64 (b.length : Nat))) (q_len Try.underlying61 .ro) (by exact congrArg (fun z : Nat => AV.lit (.int .i64 (z : Int))) (Nat.add_sub_cancel_left _ _))) rfl ?_ | refine aqs rfl (castQ (r2 := .lit (.int .i64 (b.length : Nat))) (q_lenO Try.underlying61 rfl (by repeat (first | exact .here | assumption | (apply HAt.left; assumption) | apply HAt.there | apply HAt.right)) (by first | omega | (simp; done) | (simp; omega) | fail) (by first | exact Nat.sub_zero _ | rfl)) (by exact congrArg (fun z : Nat => AV.lit (.int .i64 (z : Int))) (Nat.add_sub_cancel_left _ _))) rfl ?_ | refine aqs rfl (castQ (r2 := .lit (.int .i64 (b.length : Nat))) (q_len Try.underlying61 .nil) (by exact congrArg (fun z : Nat => AV.lit (.int .i64 (z : Int))) (Nat.add_sub_cancel_left _ _))) rfl ?_ | refine aqs rfl (castQ (r2 := .lit (.int .i64 (b.length : Nat))) (q_len Try.underlying61 .cro) (by exact congrArg (fun z : Nat => AV.lit (.int .i64 (z : Int))) (Nat.add_sub_cancel_left _ _))) rfl ?_
  refine aqs rfl (q_neq rfl rfl) rfl ?_
  refine alist_nil ?_
  show AWP _ _ _ _
  refine awp_cond rfl (fun hc0 => ?_) (fun hc0 => ?_)
  · simp only [List.length_map, decide_eq_true_eq, decide_not, Bool.not_eq_true', decide_eq_false_iff_not] at hc0
    have e : decide (a = b) = false := decide_eq_false fun e => hc0 (by rw [e])
    rw [e]
    refine awp_seq ?_
    refine awp_region ?_
    refine aqs rfl (q_as (by constructor)) rfl ?_
    refine alist_nil ?_
    show AWP _ _ _ _
    refine awp_ret ?_
    repeat first | with_reducible refine then_ret ?_ | with_reducible refine blk_ret ?_
    apply retq (.inr rfl) (.cons (rok_t rfl) .nil)
    rotate_left
    · exact ⟨rfl, rfl⟩
    repeat (first | exact List.Sublist.refl _ | exact List.nil_sublist _ | exact List.sublist_append_left _ _ | apply List.Sublist.cons)
  · have hl : a.length = b.length := by
      have : (a.length : Int) = b.length := by simpa using hc0
      omega
    refine awp_skip ?_
    show AWP _ _ _ _
    refine awp_seq ?_
    refine awp_seq ?_
    refine awp_region ?_
    refine aqs rfl (q_as (by constructor)) rfl ?_
    refine alist_nil ?_
    show AWP _ _ _ _
    refine awp_block ?_
    refine awp_loop_inv (fun i : Nat => ⟨[(5, .lit (.int .i64 i)), (0, .ro (a.map Task.cells)), (1, .sl u pre.length (pre.length + b.length))], 26, H⟩) (fun i => i ≤ a.length ∧ ∀ (j : Nat), j < i → a[j]? = b[j]?) (fun i => a.length - i) 0 ?_ ?_ ?_
    · exact ⟨Nat.zero_le _, fun j h => absurd h (Nat.not_lt_zero _)⟩
    · exact .mk' (by repeat (first | exact trivial | refine ⟨rfl, ?_⟩)) (by repeat (first | exact .refl _ | apply List.Sublist.cons_cons | apply List.Sublist.cons))
    · intro i hi
      obtain ⟨hi, hall⟩ := hi
      refine awp_seq ?_
      refine awp_seq ?_
      refine awp_region ?_
      refine aqs rfl (q_mv (by constructor)) rfl ?_
      refine aqs rfl (q_mv (by constructor)) rfl ?_
      first | refine aqs rfl (q_len Try.underlying61 .ro) rfl ?_ | refine aqs rfl (q_lenO Try.underlying61 rfl (by repeat (first | exact .here | assumption | (apply HAt.left; assumption) | apply HAt.there | apply HAt.right)) (by first | omega | (simp; done) | (simp; omega) | fail) (by first | exact Nat.sub_zero _ | rfl)) rfl ?_ | refine aqs rfl (q_len Try.underlying61 .nil) rfl ?_ | refine aqs rfl (q_len Try.underlying61 .cro) rfl ?_
      refine aqs rfl (q_lss rfl rfl) rfl ?_
      refine alist_nil ?_
      show AWP _ _ _ _
      refine awp_cond rfl (fun hc1 => ?_) (fun hc1 => ?_)
      · simp only [decide_eq_true_eq, List.length_map] at hc1
        obtain ⟨s, hs, hsm⟩ := get_lt (l := a) (i := i) (by omega)
        have hs2 := get_map (f := Task.cells) hs
        obtain ⟨t, ht, htm⟩ := get_lt (l := b) (i := i) (by omega)
        have ht2 := get_map (f := Task.cells) (pre_at (pre := pre) ht)
        refine awp_skip ?_
        show AWP _ _ _ _
        refine awp_seq ?_
        refine awp_block ?_
        refine awp_seq ?_
        refine awp_draw 9 [(0, false), (1, false), (2, false), (3, false), (4, false), (5, false), (6, false), (7, false), (8, false)] _ ([]) mixed (by kernel_rfl) (perm0 _) ?_
        refine glq rfl (.inl ⟨rfl, q_mv (by constructor)⟩) rfl ?_
        refine glq rfl (.inl ⟨rfl, q_mv (by constructor)⟩) rfl ?_
        first | refine glq rfl (.inl ⟨rfl, q_iaN Try.underlying61 sz75 (.inl rfl) rfl (by omega) (by first | rfl | assumption | (simp [*]; done) | fail) (by first | rfl | assumption | (simp [*]; done) | fail) (by decide) (by first | ((repeat constructor); done) | exact .same _)⟩) rfl ?_ | refine glq rfl (.inl ⟨rfl, q_iaS Try.underlying61 sz75 rfl (by repeat (first | exact .here | assumption | (apply HAt.left; assumption) | apply HAt.there | apply HAt.right)) rfl (by omega) (by omega) (by first | exact Nat.zero_add _ | rfl)⟩) rfl ?_ | refine glq rfl (.inl ⟨rfl, q_iaN Try.underlying61 sz75 (.inr rfl) rfl (by omega) (by first | rfl | assumption | (simp [*]; done) | fail) (by first | rfl | assumption | (simp [*]; done) | fail) (by decide) (by first | ((repeat constructor); done) | exact .same _)⟩) rfl ?_
        first | refine glq rfl (.inl ⟨rfl, q_ldpW ag75 sz75 rfl (by repeat (first | exact .here | assumption | (apply HAt.left; assumption) | apply HAt.there | apply HAt.right)) (by first | rfl | assumption | (simp [*]; done) | fail) (by first | rfl | assumption | (simp [*]; done) | fail) (by decide)⟩) rfl ?_ | refine glq rfl (.inl ⟨rfl, q_ldW ag75 sz75 rfl (by first | rfl | assumption | (simp [*]; done) | fail)⟩) rfl ?_ | refine glq rfl (.inl ⟨rfl, q_ldpP ag75 sz75 rfl (by repeat (first | exact .here | assumption | (apply HAt.left; assumption) | apply HAt.there | apply HAt.right)) (by first | rfl | assumption | (simp [*]; done) | fail) (by first | decide | (simp; done) | omega | fail) (by decide) (by first | ((repeat constructor); done) | exact .same _)⟩) rfl ?_ | refine glq rfl (.inl ⟨rfl, q_ldP ag75 sz75 rfl (by first | decide | (simp; done) | omega | fail) (by first | ((repeat constructor); done) | exact .same _)⟩) rfl ?_
        refine glq rfl (.inl ⟨rfl, q_mv (by constructor)⟩) rfl ?_
        refine glq rfl (.inl ⟨rfl, q_mv (by constructor)⟩) rfl ?_
        first | refine glq rfl (.inl ⟨rfl, q_iaN Try.underlying61 sz75 (.inl rfl) rfl (by omega) (by first | rfl | assumption | (simp [*]; done) | fail) (by first | rfl | assumption | (simp [*]; done) | fail) (by decide) (by first | ((repeat constructor); done) | exact .same _)⟩) rfl ?_ | refine glq rfl (.inl ⟨rfl, q_iaS Try.underlying61 sz75 rfl (by repeat (first | exact .here | assumption | (apply HAt.left; assumption) | apply HAt.there | apply HAt.right)) rfl (by omega) (by omega) (by first | exact Nat.zero_add _ | rfl)⟩) rfl ?_ | refine glq rfl (.inl ⟨rfl, q_iaN Try.underlying61 sz75 (.inr rfl) rfl (by omega) (by first | rfl | assumption | (simp [*]; done) | fail) (by first | rfl | assumption | (simp [*]; done) | fail) (by decide) (by first | ((repeat constructor); done) | exact .same _)⟩) rfl ?_
        first | refine glq rfl (.inl ⟨rfl, q_ldpW ag75 sz75 rfl (by repeat (first | exact .here | assumption | (apply HAt.left; assumption) | apply HAt.there | apply HAt.right)) (by first | rfl | assumption | (simp [*]; done) | fail) (by first | rfl | assumption | (simp [*]; done) | fail) (by decide)⟩) rfl ?_ | refine glq rfl (.inl ⟨rfl, q_ldW ag75 sz75 rfl (by first | rfl | assumption | (simp [*]; done) | fail)⟩) rfl ?_ | refine glq rfl (.inl ⟨rfl, q_ldpP ag75 sz75 rfl (by repeat (first | exact .here | assumption | (apply HAt.left; assumption) | apply HAt.there | apply HAt.right)) (by first | rfl | assumption | (simp [*]; done) | fail) (by first | decide | (simp; done) | omega | fail) (by decide) (by first | ((repeat constructor); done) | exact .same _)⟩) rfl ?_ | refine glq rfl (.inl ⟨rfl, q_ldP ag75 sz75 rfl (by first | decide | (simp; done) | omega | fail) (by first | ((repeat constructor); done) | exact .same _)⟩) rfl ?_
        refine glq rfl (.inl ⟨rfl, q_neqA gd75 rfl rfl (by repeat constructor) (by repeat constructor) (fun w => eq75 w)⟩) rfl ?_
        (first | refine gld0 ?_ | refine gldA ?_)
        refine alist_nil ?_
        show AWP _ _ _ _
        refine awp_cond rfl (fun hc2 => ?_) (fun hc2 => ?_)
        · have hst : ¬ s = t := by
            have := hc2
            rw [teq] at this
            simpa using this
          have e : decide (a = b) = false := decide_eq_false fun e => hst (by rw [e, ht] at hs; injection hs with hs; exact hs.symm)
          rw [e]
          refine awp_seq ?_
          refine awp_region ?_
          refine aqs rfl (q_as (by constructor)) rfl ?_
          refine alist_nil ?_
          show AWP _ _ _ _
          refine awp_ret ?_
          repeat first | with_reducible refine then_ret ?_ | with_reducible refine blk_ret ?_
          apply retq (.inr rfl) (.cons (rok_t rfl) .nil)
          rotate_left
          · exact ⟨rfl, rfl⟩
          repeat (first | exact List.Sublist.refl _ | exact List.nil_sublist _ | exact List.sublist_append_left _ _ | apply List.Sublist.cons)
        · have hst : s = t := by
            have := hc2
            rw [teq] at this
            simpa using this
          refine awp_skip ?_
          show AWP _ _ _ _
          refine awp_region ?_
          refine aqs rfl (q_mv (by constructor)) rfl ?_
          first | refine aqs rfl (q_add64 rfl rfl (by omega) (by omega)) rfl ?_ | refine aqs rfl (q_add rfl rfl) rfl ?_
          refine aqs rfl (q_as (by constructor)) rfl ?_
          refine alist_nil ?_
          show ∃ y, _ ∧ _ ∧ _
          refine ⟨i + 1, ⟨by omega, fun j hj => ?_⟩, by omega, .mk' ⟨by rfl, rfl, rfl, trivial⟩ (.refl _)⟩
          by_cases hji : j = i
          · subst hji
            rw [hs, ht, hst]
          · exact hall j (by omega)
      · simp only [decide_eq_false_iff_not, List.length_map] at hc1
        have e : decide (a = b) = true := decide_eq_true (List.ext_getElem? fun j => by
          by_cases hj : j < i
          · exact hall j hj
          · rw [List.getElem?_eq_none (by omega), List.getElem?_eq_none (by omega)])
        rw [e]
        refine awp_exit ?_
        show AWP _ _ _ _
        refine awp_seq ?_
        refine awp_region ?_
        refine aqs rfl (q_as (by constructor)) rfl ?_
        refine alist_nil ?_
        show AWP _ _ _ _
        refine awp_ret ?_
        repeat first | with_reducible refine then_ret ?_ | with_reducible refine blk_ret ?_
        apply retq (.inr rfl) (.cons (rok_t rfl) .nil)
        rotate_left
        · exact ⟨rfl, rfl⟩
        repeat (first | exact List.Sublist.refl _ | exact List.nil_sublist _ | exact List.sublist_append_left _ _ | apply List.Sublist.cons)
theorem order_put (t : Task) {r : Int} {W : List Task} (hr : 0 ≤ r ∧ r ≤ 4096) (hW : (W.length : Int) ≤ r) : ∃ n W1, qPutS ⟨r, false, W⟩ [t] = (n, ⟨r, false, W1⟩, 0) ∧ n = min 1 (r - W.length) ∧ ((n = 1 ∧ W1 = W ++ [t] ∧ (W1.length : Int) ≤ r) ∨ (n = 0 ∧ W1 = W)) := by
  have hb : ¬ qRight ⟨r, false, W⟩ = false := by
    rw [qRight_f.2 ⟨hr.1, hr.2, hW⟩]; simp
  have hn : qPutN ⟨r, false, W⟩ [t] = min 1 (r - W.length) := rfl
  refine ⟨min 1 (r - W.length), W ++ [t].take (min 1 (r - (W.length : Int))).toNat, ?_, rfl, ?_⟩
  · rw [qPutS, if_neg hb, if_neg (by simp), hn]
  · by_cases h : (W.length : Int) < r
    · have e : min 1 (r - (W.length : Int)) = 1 := by omega
      refine .inl ⟨e, by rw [e]; rfl, ?_⟩
      rw [e]
      show ((W ++ [t]).length : Int) ≤ r
      simp; omega
    · have e : min 1 (r - (W.length : Int)) = 0 := by omega
      exact .inr ⟨e, by rw [e]; simp⟩
theorem order_take {r : Int} (W : List Task) (hr : 0 ≤ r ∧ r ≤ 4096) (hW : (W.length : Int) ≤ r) : ∃ x Q e, qTakeS ⟨r, false, W⟩ = (x, Q, e) ∧ (e = 0 → ∃ W2, W = x :: W2 ∧ Q = ⟨r, false, W2⟩) ∧ (¬ e = 0 → W = []) := by
  have hb : ¬ qRight ⟨r, false, W⟩ = false := by
    rw [qRight_f.2 ⟨hr.1, hr.2, hW⟩]; simp
  cases W with
  | nil => exact ⟨zeroT, zeroQ, 10, by rw [qTakeS, if_neg hb], fun h => (by cases h), fun _ => rfl⟩
  | cons t ts => exact ⟨t, ⟨r, false, ts⟩, 0, by rw [qTakeS, if_neg hb], fun _ => ⟨ts, rfl, rfl⟩, fun h => absurd rfl h⟩
theorem new_room {r : Int} (hr : 0 ≤ r ∧ r ≤ 4096) : newS r = (⟨r, false, []⟩, 0) := by
  rw [newS, if_pos (qRight_f.2 ⟨hr.1, hr.2, by simpa using hr.1⟩)]
set_option maxHeartbeats 16000000 in
theorem walkQueueOrder (raw : List Tri) (ds : List Int) (room : Int) (wraw : (∀ y ∈ raw, y.Wf) ∧ raw.length ≤ 9223372036854775807) (wds : (∀ y ∈ ds, (-9223372036854775808 ≤ y ∧ y ≤ 9223372036854775807)) ∧ ds.length ≤ 9223372036854775807) (wroom : -9223372036854775808 ≤ room ∧ room ≤ 9223372036854775807) :
    QCall Try.prog 15 [.ro (raw.map Tri.cells), .ro (ds.map cI), .lit (.int .i64 room)] [] (.lit (.bool true)) := by
  have hp0 := pick_nonneg room 9 (by omega)
  have hp1 := pick_lt room 9 (by omega)
  obtain ⟨r, hre, hr⟩ : ∃ r : Int, r = pick room 9 ∧ (0 ≤ r ∧ r ≤ 8) := ⟨_, rfl, by omega⟩
  have hnew := new_room (r := r) ⟨hr.1, by omega⟩
  refine acall_intro (n := 173) (rvs := [.tmp 6]) Try.func15 rfl rfl rfl (Nat.le_of_ble_eq_true rfl) ?_
  refine awp_seq ?_
  refine awp_region ?_
  refine aqs rfl (q_as (by constructor)) rfl ?_
  refine alist_nil ?_
  show AWP _ _ _ _
  refine awp_seq ?_
  refine awp_region ?_
  first | refine aqs rfl (e_callN cb60 (awake60_c) rfl rfl) rfl ?_ | refine aqs rfl (e_callN cb60 (ACall.arg (awake60_c) (by repeat (first | exact ArgL.nil | (apply ArgL.cons; (· first | exact .same | exact .cro | exact .nil))))) rfl rfl) rfl ?_
  refine aqs rfl (q_as (by constructor)) rfl ?_
  refine alist_nil ?_
  show AWP _ _ _ _
  refine awp_seq ?_
  refine awp_region ?_
  refine aqs rfl (q_mv (by constructor)) rfl ?_
  first | refine aqs rfl (e_callN cb64 (hre ▸ pick64_c _ _ wroom.1 wroom.2 (by omega) _) rfl rfl) rfl ?_ | refine aqs rfl (e_callN cb64 (ACall.arg (hre ▸ pick64_c _ _ wroom.1 wroom.2 (by omega) _) (by repeat (first | exact ArgL.nil | (apply ArgL.cons; (· first | exact .same | exact .cro | exact .nil))))) rfl rfl) rfl ?_
  refine aqs rfl (q_as (by constructor)) rfl ?_
  refine alist_nil ?_
  show AWP _ _ _ _
  refine awp_seq ?_
  refine awp_region ?_
  refine aqs rfl (q_mv (by constructor)) rfl ?_
  first | refine aqs rfl (e_callN cb61 (hnew ▸ new61_c r _) rfl rfl) rfl ?_ | refine aqs rfl (e_callN cb61 (ACall.arg (hnew ▸ new61_c r _) (by repeat (first | exact ArgL.nil | (apply ArgL.cons; (· first | exact .same | exact .cro | exact .nil))))) rfl rfl) rfl ?_
  refine aqs rfl (q_mv (by constructor)) rfl ?_
  refine aqs rfl (q_ex rfl rfl (by constructor)) rfl ?_
  refine aqs rfl (q_ex rfl rfl (by constructor)) rfl ?_
  (refine aes rfl (e_al (xs := [.lit (.int .i64 0), .lit (.bool false), .lit (.slice none 0 0)]) (k := 3) zr63 (.same _) rfl) rfl ?_; rintro _ _ ⟨u9, rfl, rfl⟩)
  first | (refine aen rfl (e_stW sz63 rfl (by repeat (first | exact .here | assumption | (apply HAt.left; assumption) | apply HAt.there | apply HAt.right)) (by constructor) (by first | rfl | assumption | (simp [*]; done) | fail) rfl (by repeat (first | exact .here | apply HSet.there))) ?_; rintro _ _ ⟨rfl, rfl⟩) | (refine aen rfl (e_stP sz63 rfl (by repeat (first | exact .here | assumption | (apply HAt.left; assumption) | apply HAt.there | apply HAt.right)) (by first | rfl | assumption | (simp [*]; done) | fail) (by constructor) (by first | rfl | assumption | (simp [*]; done) | fail) rfl (by first | decide | omega) (by first | ((repeat constructor); done) | exact .same _) (by first | exact .one | exact .set) (by repeat (first | exact .here | apply HSet.there))) ?_; rintro _ _ ⟨rfl, rfl⟩)
  refine aqs rfl (q_as (by constructor)) rfl ?_
  refine alist_nil ?_
  show AWP _ _ _ _
  refine awp_seq ?_
  refine awp_seq ?_
  refine awp_region ?_
  refine aqs rfl (q_mv (by constructor)) rfl ?_
  refine aqs rfl (castF (q_neq rfl rfl) (by rfl)) rfl ?_
  refine alist_nil ?_
  show AWP _ _ _ _
  refine awp_cond rfl (fun hc0 => ?_) (fun hc0 => ?_)
  · exfalso; first | (simp at hc0; done) | (simp at hc0; omega) | contradiction
  · try simp only [decide_eq_true_eq, decide_eq_false_iff_not, Bool.not_eq_true', Bool.not_eq_false', Bool.not_eq_eq_eq_not, Bool.not_true, Bool.not_false, beq_iff_eq, beq_eq_false_iff_ne, Int.not_lt, Int.not_le] at hc0
    refine awp_skip ?_
    show AWP _ _ _ _
    refine awp_seq ?_
    refine awp_region ?_
    refine aqs rfl (q_as (by constructor)) rfl ?_
    refine alist_nil ?_
    show AWP _ _ _ _
    refine awp_adopt 11 75 4 rfl fun u0 => ?_
    show AWP _ _ _ _
    refine awp_seq ?_
    refine awp_seq ?_
    refine awp_region ?_
    refine aqs rfl (q_as (by constructor)) rfl ?_
    refine alist_nil ?_
    show AWP _ _ _ _
    refine awp_block ?_
    refine awp_loop_inv (fun x : Nat × Nat × List Task × List Task => ⟨[(12, .lit (.int .i64 x.1)), (0, .ro (raw.map Tri.cells)), (1, .ro (ds.map cI)), (8, .lit (.int .i64 r)), (9, .ptr u9 0 0), (11, .sl x.2.1 x.2.2.1.length (x.2.2.1.length + x.2.2.2.length)), (7, .lit (.bool true))], 173, [(x.2.1, .arr 75 4 ((x.2.2.1 ++ x.2.2.2).map Task.cells)), (u9, .arr 63 3 [(⟨r, false, x.2.2.2⟩ : Queue).cells])]⟩) (fun x => x.1 ≤ raw.length ∧ x.1 ≤ 20 ∧ (x.2.2.2.length : Int) ≤ r) (fun x => 20 - x.1) (0, u0, [], []) ?_ ?_ ?_
    · exact ⟨Nat.zero_le _, Nat.zero_le _, by show ((0 : Nat) : Int) ≤ r; omega⟩
    · exact .mk' (by repeat (first | exact trivial | refine ⟨rfl, ?_⟩)) (by repeat (first | exact .refl _ | apply List.Sublist.cons_cons | apply List.Sublist.cons))
    · rintro ⟨i, u, pre, W⟩ ⟨hi, hi20, hWr⟩
      simp only at hi hi20 hWr ⊢
      have hlen := lenTask (pre ++ W)
      have hone := oneTask (pre ++ W)
      have hpl : ((pre ++ W).map Task.cells).length = pre.length + W.length := by simp
      refine awp_seq ?_
      refine awp_mid [(43, .lit (.bool (decide ((i : Int) < (raw.map Tri.cells).length) && decide ((i : Int) < 20)))), (12, .lit (.int .i64 i)), (0, .ro (raw.map Tri.cells)), (1, .ro (ds.map cI)), (8, .lit (.int .i64 r)), (9, .ptr u9 0 0), (11, .sl u pre.length (pre.length + W.length)), (7, .lit (.bool true))] ?_ ?_
      · skip
        refine awp_region ?_
        all_goals (refine aqs rfl (q_mv (by constructor)) rfl ?_)
        all_goals (refine aqs rfl (q_mv (by constructor)) rfl ?_)
        all_goals (first | refine aqs rfl (q_len Try.underlying64 .ro) rfl ?_ | refine aqs rfl (q_lenO Try.underlying64 rfl (by repeat (first | exact .here | assumption | (apply HAt.left; assumption) | apply HAt.there | apply HAt.right)) (by first | omega | (simp; done) | (simp; omega) | fail) (by first | exact Nat.sub_zero _ | rfl)) rfl ?_ | refine aqs rfl (q_len Try.underlying64 .nil) rfl ?_ | refine aqs rfl (q_len Try.underlying64 .cro) rfl ?_)
        all_goals (refine aqs rfl (q_lss rfl rfl) rfl ?_)
        all_goals (refine aqs rfl (q_mv (by constructor)) rfl ?_)
        all_goals try (refine acase (fun hb4 => ?_) (fun hb4 => ?_))
        all_goals first | (exfalso; cases hb4; done) | skip
        all_goals (first | refine ans rfl rfl ?_ | refine aqs rfl (q_mv (by constructor)) rfl ?_)
        all_goals (first | refine ans rfl rfl ?_ | refine aqs rfl (q_lss rfl rfl) rfl ?_)
        all_goals (first | refine aqs rfl (q_pickT rfl (by constructor)) rfl ?_ | refine aqs rfl (q_pickF rfl (by constructor)) rfl ?_)
        all_goals (refine alist_nil ?_)
        all_goals (exact ⟨rfl, .mk' (by repeat (first | exact trivial | refine ⟨rfl, ?_⟩ | (refine ⟨?_, ?_⟩; (· first | (rw [hb4]; rfl) | fail)))) (.refl _)⟩)
      refine awp_cond rfl (fun hc1 => ?_) (fun hc1 => ?_)
      · simp only [Bool.and_eq_true, decide_eq_true_eq, List.length_map] at hc1
        obtain ⟨s, hs, hsm⟩ := get_lt (l := raw) (i := i) (by omega)
        have hs2 := get_map (f := Tri.cells) hs
        obtain ⟨t, ht⟩ : ∃ t, t = taskOf s := ⟨_, rfl⟩
        obtain ⟨n, W1, hp, hnm, hcase⟩ := order_put t (r := r) ⟨hr.1, by omega⟩ hWr
        refine awp_skip ?_
        show AWP _ _ _ _
        refine awp_seq ?_
        refine awp_block ?_
        refine awp_seq ?_
        refine awp_region ?_
        refine aqs rfl (q_mv (by constructor)) rfl ?_
        refine aqs rfl (q_mv (by constructor)) rfl ?_
        first | refine aqs rfl (q_iaN Try.underlying64 sz83 (.inl rfl) rfl (by omega) (by first | rfl | assumption | (simp [*]; done) | fail) (by first | rfl | assumption | (simp [*]; done) | fail) (by decide) (by first | ((repeat constructor); done) | exact .same _)) rfl ?_ | refine aqs rfl (q_iaS Try.underlying64 sz83 rfl (by repeat (first | exact .here | assumption | (apply HAt.left; assumption) | apply HAt.there | apply HAt.right)) rfl (by omega) (by omega) (by first | exact Nat.zero_add _ | rfl)) rfl ?_ | refine aqs rfl (q_iaN Try.underlying64 sz83 (.inr rfl) rfl (by omega) (by first | rfl | assumption | (simp [*]; done) | fail) (by first | rfl | assumption | (simp [*]; done) | fail) (by decide) (by first | ((repeat constructor); done) | exact .same _)) rfl ?_
        first | refine aqs rfl (q_ldpW ag83 sz83 rfl (by repeat (first | exact .here | assumption | (apply HAt.left; assumption) | apply HAt.there | apply HAt.right)) (by first | rfl | assumption | (simp [*]; done) | fail) (by first | rfl | assumption | (simp [*]; done) | fail) (by decide)) rfl ?_ | refine aqs rfl (q_ldW ag83 sz83 rfl (by first | rfl | assumption | (simp [*]; done) | fail)) rfl ?_ | refine aqs rfl (q_ldpP ag83 sz83 rfl (by repeat (first | exact .here | assumption | (apply HAt.left; assumption) | apply HAt.there | apply HAt.right)) (by first | rfl | assumption | (simp [*]; done) | fail) (by first | decide | (simp; done) | omega | fail) (by decide) (by first | ((repeat constructor); done) | exact .same _)) rfl ?_ | refine aqs rfl (q_ldP ag83 sz83 rfl (by first | decide | (simp; done) | omega | fail) (by first | ((repeat constructor); done) | exact .same _)) rfl ?_
        first | refine aqs rfl (e_callN cb76 (ht ▸ task76_c s (wraw.1 s hsm) _) rfl rfl) rfl ?_ | refine aqs rfl (e_callN cb76 (ACall.arg (ht ▸ task76_c s (wraw.1 s hsm) _) (by repeat (first | exact ArgL.nil | (apply ArgL.cons; (· first | exact .same | exact .cro | exact .nil))))) rfl rfl) rfl ?_
        (refine aes rfl (e_al (xs := [.lit (.int .i64 0), .lit (.int .i64 0), .lit (.string ⟨#[]⟩), .lit (.string ⟨#[]⟩)]) (k := 4) zr75 (.same _) rfl) rfl ?_; rintro _ _ ⟨u13, rfl, rfl⟩)
        first | (refine aen rfl (e_stW sz75 rfl (by repeat (first | exact .here | assumption | (apply HAt.left; assumption) | apply HAt.there | apply HAt.right)) (by constructor) (by first | rfl | assumption | (simp [*]; done) | fail) rfl (by repeat (first | exact .here | apply HSet.there))) ?_; rintro _ _ ⟨rfl, rfl⟩) | (refine aen rfl (e_stP sz75 rfl (by repeat (first | exact .here | assumption | (apply HAt.left; assumption) | apply HAt.there | apply HAt.right)) (by first | rfl | assumption | (simp [*]; done) | fail) (by constructor) (by first | rfl | assumption | (simp [*]; done) | fail) rfl (by first | decide | omega) (by first | ((repeat constructor); done) | exact .same _) (by first | exact .one | exact .set) (by repeat (first | exact .here | apply HSet.there))) ?_; rintro _ _ ⟨rfl, rfl⟩)
        refine alist_nil ?_
        show AWP _ _ _ _
        refine awp_seq ?_
        refine awp_region ?_
        first | refine aqs rfl (q_ldpW ag63 sz63 rfl (by repeat (first | exact .here | assumption | (apply HAt.left; assumption) | apply HAt.there | apply HAt.right)) (by first | rfl | assumption | (simp [*]; done) | fail) (by first | rfl | assumption | (simp [*]; done) | fail) (by decide)) rfl ?_ | refine aqs rfl (q_ldW ag63 sz63 rfl (by first | rfl | assumption | (simp [*]; done) | fail)) rfl ?_ | refine aqs rfl (q_ldpP ag63 sz63 rfl (by repeat (first | exact .here | assumption | (apply HAt.left; assumption) | apply HAt.there | apply HAt.right)) (by first | rfl | assumption | (simp [*]; done) | fail) (by first | decide | (simp; done) | omega | fail) (by decide) (by first | ((repeat constructor); done) | exact .same _)) rfl ?_ | refine aqs rfl (q_ldP ag63 sz63 rfl (by first | decide | (simp; done) | omega | fail) (by first | ((repeat constructor); done) | exact .same _)) rfl ?_
        first | refine aqs rfl (q_ldpW ag75 sz75 rfl (by repeat (first | exact .here | assumption | (apply HAt.left; assumption) | apply HAt.there | apply HAt.right)) (by first | rfl | assumption | (simp [*]; done) | fail) (by first | rfl | assumption | (simp [*]; done) | fail) (by decide)) rfl ?_ | refine aqs rfl (q_ldW ag75 sz75 rfl (by first | rfl | assumption | (simp [*]; done) | fail)) rfl ?_ | refine aqs rfl (q_ldpP ag75 sz75 rfl (by repeat (first | exact .here | assumption | (apply HAt.left; assumption) | apply HAt.there | apply HAt.right)) (by first | rfl | assumption | (simp [*]; done) | fail) (by first | decide | (simp; done) | omega | fail) (by decide) (by first | ((repeat constructor); done) | exact .same _)) rfl ?_ | refine aqs rfl (q_ldP ag75 sz75 rfl (by first | decide | (simp; done) | omega | fail) (by first | ((repeat constructor); done) | exact .same _)) rfl ?_
        first | refine aqs rfl (q_bs Try.underlying61 sz75 zr75 rfl (by first | ((repeat constructor); done) | exact .same _) rfl (by decide) (by repeat (first | exact BS.nil | (apply BS.cons; (· constructor); (· rfl); (· rfl); (· rfl); (· exact (by first | ((repeat constructor); done) | exact .same _)))))) rfl ?_ | (refine aes rfl (e_bs Try.underlying61 sz75 zr75 rfl (by first | ((repeat constructor); done) | exact .same _) rfl (by decide) (by repeat (first | exact BS.nil | (apply BS.cons; (· constructor); (· rfl); (· rfl); (· rfl); (· exact (by first | ((repeat constructor); done) | exact .same _)))))) rfl ?_; rintro _ _ ⟨u54, rfl, rfl⟩)
        first | refine aqs rfl (e_callN cb66 (hp ▸ put66_c ⟨r, false, W⟩ [t] (by simp) _) rfl rfl) rfl ?_ | refine aqs rfl (e_callN cb66 (ACall.arg (hp ▸ put66_c ⟨r, false, W⟩ [t] (by simp) _) (by repeat (first | exact ArgL.nil | (apply ArgL.cons; (· first | exact .same | exact .cro | exact .nil))))) rfl rfl) rfl ?_
        refine aqs rfl (q_mv (by constructor)) rfl ?_
        refine aqs rfl (q_ex rfl rfl (by constructor)) rfl ?_
        refine aqs rfl (q_ex rfl rfl (by constructor)) rfl ?_
        refine aqs rfl (q_ex rfl rfl (by constructor)) rfl ?_
        (refine aes rfl (e_al (xs := [.lit (.int .i64 0), .lit (.bool false), .lit (.slice none 0 0)]) (k := 3) zr63 (.same _) rfl) rfl ?_; rintro _ _ ⟨u15, rfl, rfl⟩)
        refine aqs rfl (q_as (by constructor)) rfl ?_
        first | (refine aen rfl (e_stW sz63 rfl (by repeat (first | exact .here | assumption | (apply HAt.left; assumption) | apply HAt.there | apply HAt.right)) (by constructor) (by first | rfl | assumption | (simp [*]; done) | fail) rfl (by repeat (first | exact .here | apply HSet.there))) ?_; rintro _ _ ⟨rfl, rfl⟩) | (refine aen rfl (e_stP sz63 rfl (by repeat (first | exact .here | assumption | (apply HAt.left; assumption) | apply HAt.there | apply HAt.right)) (by first | rfl | assumption | (simp [*]; done) | fail) (by constructor) (by first | rfl | assumption | (simp [*]; done) | fail) rfl (by first | decide | omega) (by first | ((repeat constructor); done) | exact .same _) (by first | exact .one | exact .set) (by repeat (first | exact .here | apply HSet.there))) ?_; rintro _ _ ⟨rfl, rfl⟩)
        refine aqs rfl (q_as (by constructor)) rfl ?_
        refine alist_nil ?_
        show AWP _ _ _ _
        refine awp_seq ?_
        refine awp_seq ?_
        refine awp_region ?_
        refine aqs rfl (q_mv (by constructor)) rfl ?_
        refine aqs rfl (castF (q_neq rfl rfl) (by rfl)) rfl ?_
        refine aqs rfl (q_mv (by constructor)) rfl ?_
        first | refine ans rfl rfl ?_ | refine aqs rfl (q_mv (by constructor)) rfl ?_
        first | refine ans rfl rfl ?_ | refine aqs rfl (q_mv (by constructor)) rfl ?_
        first | refine ans rfl rfl ?_ | refine aqs rfl (q_mv (by constructor)) rfl ?_
        first | refine aqs rfl (castQ (r2 := .lit (.int .i64 (W.length : Nat))) (q_len Try.underlying61 .ro) (by exact congrArg (fun z : Nat => AV.lit (.int .i64 (z : Int))) (Nat.add_sub_cancel_left _ _))) rfl ?_ | refine aqs rfl (castQ (r2 := .lit (.int .i64 (W.length : Nat))) (q_lenO Try.underlying61 rfl (by repeat (first | exact .here | assumption | (apply HAt.left; assumption) | apply HAt.there | apply HAt.right)) (by first | omega | (simp; done) | (simp; omega) | fail) (by first | exact Nat.sub_zero _ | rfl)) (by exact congrArg (fun z : Nat => AV.lit (.int .i64 (z : Int))) (Nat.add_sub_cancel_left _ _))) rfl ?_ | refine aqs rfl (castQ (r2 := .lit (.int .i64 (W.length : Nat))) (q_len Try.underlying61 .nil) (by exact congrArg (fun z : Nat => AV.lit (.int .i64 (z : Int))) (Nat.add_sub_cancel_left _ _))) rfl ?_ | refine aqs rfl (castQ (r2 := .lit (.int .i64 (W.length : Nat))) (q_len Try.underlying61 .cro) (by exact congrArg (fun z : Nat => AV.lit (.int .i64 (z : Int))) (Nat.add_sub_cancel_left _ _))) rfl ?_
        first | refine ans rfl rfl ?_ | refine aqs rfl (q_sub64 rfl rfl (by omega) (by omega)) rfl ?_ | refine aqs rfl (q_sub rfl rfl) rfl ?_
        first | refine ans rfl rfl ?_ | refine aqs rfl (q_min rfl rfl) rfl ?_
        refine aqs rfl (castF (q_neq rfl rfl) (by rw [← hnm]; simp)) rfl ?_
        first | refine aqs rfl (q_pickT rfl (by constructor)) rfl ?_ | refine aqs rfl (q_pickF rfl (by constructor)) rfl ?_
        refine alist_nil ?_
        show AWP _ _ _ _
        refine awp_cond rfl (fun hc2 => ?_) (fun hc2 => ?_)
        · exfalso; first | (simp at hc2; done) | (simp at hc2; omega) | contradiction
        · try simp only [decide_eq_true_eq, decide_eq_false_iff_not, Bool.not_eq_true', Bool.not_eq_false', Bool.not_eq_eq_eq_not, Bool.not_true, Bool.not_false, beq_iff_eq, beq_eq_false_iff_ne, Int.not_lt, Int.not_le] at hc2
          refine awp_skip ?_
          show AWP _ _ _ _
          refine awp_seq ?_
          refine awp_region ?_
          first | refine aqs rfl (q_ldpW ag63 sz63 rfl (by repeat (first | exact .here | assumption | (apply HAt.left; assumption) | apply HAt.there | apply HAt.right)) (by first | rfl | assumption | (simp [*]; done) | fail) (by first | rfl | assumption | (simp [*]; done) | fail) (by decide)) rfl ?_ | refine aqs rfl (q_ldW ag63 sz63 rfl (by first | rfl | assumption | (simp [*]; done) | fail)) rfl ?_ | refine aqs rfl (q_ldpP ag63 sz63 rfl (by repeat (first | exact .here | assumption | (apply HAt.left; assumption) | apply HAt.there | apply HAt.right)) (by first | rfl | assumption | (simp [*]; done) | fail) (by first | decide | (simp; done) | omega | fail) (by decide) (by first | ((repeat constructor); done) | exact .same _)) rfl ?_ | refine aqs rfl (q_ldP ag63 sz63 rfl (by first | decide | (simp; done) | omega | fail) (by first | ((repeat constructor); done) | exact .same _)) rfl ?_
          first | (refine aen rfl (e_stW sz63 rfl (by repeat (first | exact .here | assumption | (apply HAt.left; assumption) | apply HAt.there | apply HAt.right)) (by constructor) (by first | rfl | assumption | (simp [*]; done) | fail) rfl (by repeat (first | exact .here | apply HSet.there))) ?_; rintro _ _ ⟨rfl, rfl⟩) | (refine aen rfl (e_stP sz63 rfl (by repeat (first | exact .here | assumption | (apply HAt.left; assumption) | apply HAt.there | apply HAt.right)) (by first | rfl | assumption | (simp [*]; done) | fail) (by constructor) (by first | rfl | assumption | (simp [*]; done) | fail) rfl (by first | decide | omega) (by first | ((repeat constructor); done) | exact .same _) (by first | exact .one | exact .set) (by repeat (first | exact .here | apply HSet.there))) ?_; rintro _ _ ⟨rfl, rfl⟩)
          refine alist_nil ?_
          show AWP _ _ _ _
          refine awp_join (fun x : Nat × List Task => ⟨[(12, .lit (.int .i64 i)), (0, .ro (raw.map Tri.cells)), (1, .ro (ds.map cI)), (8, .lit (.int .i64 r)), (9, .ptr u9 0 0), (13, .ptr u13 0 0), (11, .sl x.1 x.2.length (x.2.length + W1.length)), (7, .lit (.bool true))], 173, [(u13, .arr 75 4 [t.cells]), (x.1, .arr 75 4 ((x.2 ++ W1).map Task.cells)), (u9, .arr 63 3 [(⟨r, false, W1⟩ : Queue).cells])]⟩) (fun _ => (W1.length : Int) ≤ r) ?_ ?_
          · skip
            refine awp_seq ?_
            refine awp_region ?_
            refine aqs rfl (q_mv (by constructor)) rfl ?_
            refine aqs rfl (q_eql rfl rfl) rfl ?_
            refine alist_nil ?_
            show AWP _ _ _ _
            refine awp_cond rfl (fun hc3 => ?_) (fun hc3 => ?_)
            · have hn1 : n = 1 := by simpa using hc3
              obtain ⟨hW1, hW1r⟩ : W1 = W ++ [t] ∧ (W1.length : Int) ≤ r := by
                rcases hcase with ⟨_, h1, h2⟩ | ⟨h1, _⟩
                · exact ⟨h1, h2⟩
                · omega
              have hes : (((pre ++ W).map Task.cells).take (pre.length + W.length)).drop pre.length ++ [t.cells] = (([] : List Task) ++ W1).map Task.cells := by
                rw [List.take_of_length_le (by rw [hpl]; exact Nat.le_refl _), hW1]; simp
              have hml : pre.length + W.length - pre.length + 1 = ([] : List Task).length + W1.length := by rw [hW1, List.length_append, List.length_nil, List.length_singleton]; omega
              refine awp_region ?_
              refine aqs rfl (q_mv (by constructor)) rfl ?_
              first | refine aqs rfl (q_ldpW ag75 sz75 rfl (by repeat (first | exact .here | assumption | (apply HAt.left; assumption) | apply HAt.there | apply HAt.right)) (by first | rfl | assumption | (simp [*]; done) | fail) (by first | rfl | assumption | (simp [*]; done) | fail) (by decide)) rfl ?_ | refine aqs rfl (q_ldW ag75 sz75 rfl (by first | rfl | assumption | (simp [*]; done) | fail)) rfl ?_ | refine aqs rfl (q_ldpP ag75 sz75 rfl (by repeat (first | exact .here | assumption | (apply HAt.left; assumption) | apply HAt.there | apply HAt.right)) (by first | rfl | assumption | (simp [*]; done) | fail) (by first | decide | (simp; done) | omega | fail) (by decide) (by first | ((repeat constructor); done) | exact .same _)) rfl ?_ | refine aqs rfl (q_ldP ag75 sz75 rfl (by first | decide | (simp; done) | omega | fail) (by first | ((repeat constructor); done) | exact .same _)) rfl ?_
              first | refine aqs rfl (q_bs Try.underlying61 sz75 zr75 rfl (by first | ((repeat constructor); done) | exact .same _) rfl (by decide) (by repeat (first | exact BS.nil | (apply BS.cons; (· constructor); (· rfl); (· rfl); (· rfl); (· exact (by first | ((repeat constructor); done) | exact .same _)))))) rfl ?_ | (refine aes rfl (e_bs Try.underlying61 sz75 zr75 rfl (by first | ((repeat constructor); done) | exact .same _) rfl (by decide) (by repeat (first | exact BS.nil | (apply BS.cons; (· constructor); (· rfl); (· rfl); (· rfl); (· exact (by first | ((repeat constructor); done) | exact .same _)))))) rfl ?_; rintro _ _ ⟨u75, rfl, rfl⟩)
              first | refine aqs rfl (q_apC Try.underlying61 sz75 by75 zr75 (.inl rfl) (by first | exact .ro | exact .cro | exact .nil | exact SV.slA (by repeat (first | exact .here | assumption | (apply HAt.left; assumption) | apply HAt.there | apply HAt.right)) (by first | rfl | (simp; done) | (simp; omega) | (simp [*]; done) | fail)) (by first | assumption | (intro c hc; simp at hc; subst hc; rfl) | (simp; done) | fail) (by first | assumption | (intro c hc; simp at hc; subst hc; rfl) | (simp; done) | fail) (by first | omega | decide | (simp; omega) | assumption | fail) (by decide) (by decide) rfl (by first | rfl | (simp; done) | fail)) rfl ?_ | refine aqs rfl (q_apC Try.underlying61 sz75 by75 zr75 (.inr ⟨rfl, rfl⟩) (by first | exact .ro | exact .cro | exact .nil | exact SV.slA (by repeat (first | exact .here | assumption | (apply HAt.left; assumption) | apply HAt.there | apply HAt.right)) (by first | rfl | (simp; done) | (simp; omega) | (simp [*]; done) | fail)) (by first | assumption | (intro c hc; simp at hc; subst hc; rfl) | (simp; done) | fail) (by first | assumption | (intro c hc; simp at hc; subst hc; rfl) | (simp; done) | fail) (by first | omega | decide | (simp; omega) | assumption | fail) (by decide) (by decide) rfl (by first | rfl | (simp; done) | fail)) rfl ?_ | (refine aes rfl (e_apO Try.underlying61 sz75 by75 zr75 rfl (by repeat (first | exact .here | assumption | (apply HAt.left; assumption) | apply HAt.there | apply HAt.right)) (by first | (rw [hpl]; exact Nat.le_refl _) | (rw [List.length_map]; exact Nat.le_refl _)) (by first | exact .ro | exact .cro | exact .nil | exact SV.slA (by repeat (first | exact .here | assumption | (apply HAt.left; assumption) | apply HAt.there | apply HAt.right)) (by first | rfl | (simp; done) | (simp; omega) | (simp [*]; done) | fail)) (by first | assumption | (intro c hc; simp at hc; subst hc; rfl) | (simp; done) | fail) (by first | assumption | (intro c hc; simp at hc; subst hc; rfl) | (simp; done) | fail) (by first | assumption | (intro c hc; simp at hc; subst hc; rfl) | (simp; done) | fail) (by first | (simp; done) | (simp; omega) | omega | fail) (by decide) (by decide) rfl (by first | exact hml | exact hml2) (by first | exact hes | exact hes2) (fun v => (by repeat (first | exact .here | apply HSet.there)))) rfl ?_; rintro _ _ ⟨u76, rfl, rfl⟩) | (refine aes rfl (e_apN Try.underlying61 sz75 by75 zr75 rfl (by first | exact .ro | exact .cro | exact .nil | exact SV.slA (by repeat (first | exact .here | assumption | (apply HAt.left; assumption) | apply HAt.there | apply HAt.right)) (by first | rfl | (simp; done) | (simp; omega) | (simp [*]; done) | fail)) (by first | assumption | (intro c hc; simp at hc; subst hc; rfl) | (simp; done) | fail) (by first | assumption | (intro c hc; simp at hc; subst hc; rfl) | (simp; done) | fail) (by first | (simp; done) | (simp; omega) | omega | fail) (by decide) (by decide) rfl rfl) rfl ?_; rintro _ _ ⟨u76, rfl, rfl⟩)
              refine aqs rfl (q_as (by constructor)) rfl ?_
              refine alist_nil ?_
              show ∃ y, _ ∧ _
              first
                | exact ⟨(_, []), hW1r, .mk' ⟨by rfl, rfl, rfl, rfl, rfl, rfl, rfl, rfl, trivial⟩ (by repeat (first | exact List.Sublist.refl _ | exact List.nil_sublist _ | exact List.sublist_append_left _ _ | (apply List.Sublist.cons_cons) | (apply List.Sublist.cons)))⟩
                | exact ⟨(u, pre), hW1r, by rw [hW1]; exact .mk' ⟨by rfl, rfl, rfl, rfl, rfl, rfl, rfl, rfl, trivial⟩ (by repeat (first | exact List.Sublist.refl _ | exact List.nil_sublist _ | exact List.sublist_append_left _ _ | (apply List.Sublist.cons_cons) | (apply List.Sublist.cons)))⟩
            · have hW1 : W1 = W := by
                rcases hcase with ⟨h1, _⟩ | ⟨_, h1⟩
                · subst h1; simp at hc3
                · exact h1
              have hW1r : (W1.length : Int) ≤ r := by rw [hW1]; exact hWr
              refine awp_skip ?_
              show ∃ y, _ ∧ _
              first
                | exact ⟨(_, []), hW1r, .mk' ⟨by rfl, rfl, rfl, rfl, rfl, rfl, rfl, rfl, trivial⟩ (by repeat (first | exact List.Sublist.refl _ | exact List.nil_sublist _ | exact List.sublist_append_left _ _ | (apply List.Sublist.cons_cons) | (apply List.Sublist.cons)))⟩
                | exact ⟨(u, pre), hW1r, by rw [hW1]; exact .mk' ⟨by rfl, rfl, rfl, rfl, rfl, rfl, rfl, rfl, trivial⟩ (by repeat (first | exact List.Sublist.refl _ | exact List.nil_sublist _ | exact List.sublist_append_left _ _ | (apply List.Sublist.cons_cons) | (apply List.Sublist.cons)))⟩
          rintro ⟨u, pre⟩ hW1r
          simp only at hW1r ⊢
          have hpl1 : ((pre ++ W1).map Task.cells).length = pre.length + W1.length := by simp
          refine awp_seq ?_
          refine awp_region ?_
          refine aqs rfl (q_as (by constructor)) rfl ?_
          refine alist_nil ?_
          show AWP _ _ _ _
          refine awp_join (fun d : Int => ⟨[(17, .lit (.int .i64 d)), (12, .lit (.int .i64 i)), (0, .ro (raw.map Tri.cells)), (1, .ro (ds.map cI)), (8, .lit (.int .i64 r)), (9, .ptr u9 0 0), (13, .ptr u13 0 0), (11, .sl u pre.length (pre.length + W1.length)), (7, .lit (.bool true))], 173, [(u13, .arr 75 4 [t.cells]), (u, .arr 75 4 ((pre ++ W1).map Task.cells)), (u9, .arr 63 3 [(⟨r, false, W1⟩ : Queue).cells])]⟩) (fun _ => True) ?_ ?_
          · skip
            refine awp_seq ?_
            refine awp_region ?_
            refine aqs rfl (q_mv (by constructor)) rfl ?_
            refine aqs rfl (q_mv (by constructor)) rfl ?_
            first | refine aqs rfl (q_len Try.underlying25 .ro) rfl ?_ | refine aqs rfl (q_lenO Try.underlying25 rfl (by repeat (first | exact .here | assumption | (apply HAt.left; assumption) | apply HAt.there | apply HAt.right)) (by first | omega | (simp; done) | (simp; omega) | fail) (by first | exact Nat.sub_zero _ | rfl)) rfl ?_ | refine aqs rfl (q_len Try.underlying25 .nil) rfl ?_ | refine aqs rfl (q_len Try.underlying25 .cro) rfl ?_
            refine aqs rfl (q_lss rfl rfl) rfl ?_
            refine alist_nil ?_
            show AWP _ _ _ _
            refine awp_cond rfl (fun hc4 => ?_) (fun hc4 => ?_)
            · simp only [decide_eq_true_eq, List.length_map] at hc4
              have hds2 := cI_at (ks := ds) (i := i) (by omega)
              have hdk := wds.1 (ds.getD i 0) (by rw [List.getD_eq_getElem?_getD, List.getElem?_eq_getElem (by omega)]; exact List.getElem_mem (by omega))
              refine awp_region ?_
              refine aqs rfl (q_mv (by constructor)) rfl ?_
              refine aqs rfl (q_mv (by constructor)) rfl ?_
              first | refine aqs rfl (q_iaN Try.underlying25 sz3 (.inl rfl) rfl (by omega) (by first | rfl | assumption | (simp [*]; done) | fail) (by first | rfl | assumption | (simp [*]; done) | fail) (by decide) (by first | ((repeat constructor); done) | exact .same _)) rfl ?_ | refine aqs rfl (q_iaS Try.underlying25 sz3 rfl (by repeat (first | exact .here | assumption | (apply HAt.left; assumption) | apply HAt.there | apply HAt.right)) rfl (by omega) (by omega) (by first | exact Nat.zero_add _ | rfl)) rfl ?_ | refine aqs rfl (q_iaN Try.underlying25 sz3 (.inr rfl) rfl (by omega) (by first | rfl | assumption | (simp [*]; done) | fail) (by first | rfl | assumption | (simp [*]; done) | fail) (by decide) (by first | ((repeat constructor); done) | exact .same _)) rfl ?_
              first | refine aqs rfl (q_ldpN ag3 rfl (by repeat (first | exact .here | assumption | (apply HAt.left; assumption) | apply HAt.there | apply HAt.right)) (by first | rfl | assumption | (simp [*]; done) | fail) (by first | rfl | assumption | (simp [*]; done) | fail) (by constructor)) rfl ?_ | refine aqs rfl (q_ld1N ag3 rfl (by constructor)) rfl ?_
              first | refine aqs rfl (e_callN cb64 (pick64_c _ _ hdk.1 hdk.2 (by omega) _) rfl rfl) rfl ?_ | refine aqs rfl (e_callN cb64 (ACall.arg (pick64_c _ _ hdk.1 hdk.2 (by omega) _) (by repeat (first | exact ArgL.nil | (apply ArgL.cons; (· first | exact .same | exact .cro | exact .nil))))) rfl rfl) rfl ?_
              refine aqs rfl (q_as (by constructor)) rfl ?_
              refine alist_nil ?_
              show ∃ y, _ ∧ _
              exact ⟨_, trivial, .mk' ⟨by rfl, rfl, rfl, rfl, rfl, rfl, rfl, rfl, rfl, trivial⟩ (by repeat (first | exact List.Sublist.refl _ | exact List.nil_sublist _ | exact List.sublist_append_left _ _ | (apply List.Sublist.cons_cons) | (apply List.Sublist.cons)))⟩
            · try simp only [decide_eq_true_eq, decide_eq_false_iff_not, Bool.not_eq_true', Bool.not_eq_false', Bool.not_eq_eq_eq_not, Bool.not_true, Bool.not_false, beq_iff_eq, beq_eq_false_iff_ne, Int.not_lt, Int.not_le] at hc4
              refine awp_skip ?_
              show ∃ y, _ ∧ _
              exact ⟨_, trivial, .mk' ⟨by rfl, rfl, rfl, rfl, rfl, rfl, rfl, rfl, rfl, trivial⟩ (by repeat (first | exact List.Sublist.refl _ | exact List.nil_sublist _ | exact List.sublist_append_left _ _ | (apply List.Sublist.cons_cons) | (apply List.Sublist.cons)))⟩
          intro d _
          show AWP _ _ _ ⟨_, _, _⟩
          refine awp_join (fun x : Nat × List Task × List Task => ⟨[(17, .lit (.int .i64 d)), (12, .lit (.int .i64 i)), (0, .ro (raw.map Tri.cells)), (1, .ro (ds.map cI)), (8, .lit (.int .i64 r)), (9, .ptr u9 0 0), (13, .ptr u13 0 0), (11, .sl x.1 x.2.1.length (x.2.1.length + x.2.2.length)), (7, .lit (.bool true))], 173, [(u13, .arr 75 4 [t.cells]), (x.1, .arr 75 4 ((x.2.1 ++ x.2.2).map Task.cells)), (u9, .arr 63 3 [(⟨r, false, x.2.2⟩ : Queue).cells])]⟩) (fun x => (x.2.2.length : Int) ≤ r) ?_ ?_
          · skip
            refine awp_mid [(91, .lit (.bool (decide (d = 1) || decide (d = 2)))), (17, .lit (.int .i64 d)), (12, .lit (.int .i64 i)), (0, .ro (raw.map Tri.cells)), (1, .ro (ds.map cI)), (8, .lit (.int .i64 r)), (9, .ptr u9 0 0), (13, .ptr u13 0 0), (11, .sl u pre.length (pre.length + W1.length)), (7, .lit (.bool true))] ?_ ?_
            · skip
              refine awp_region ?_
              all_goals (refine aqs rfl (q_mv (by constructor)) rfl ?_)
              all_goals (refine aqs rfl (q_eql rfl rfl) rfl ?_)
              all_goals (refine aqs rfl (q_mv (by constructor)) rfl ?_)
              all_goals try (refine acase (fun hb2 => ?_) (fun hb2 => ?_))
              all_goals first | (exfalso; cases hb2; done) | skip
              all_goals (first | refine ans rfl rfl ?_ | refine aqs rfl (q_mv (by constructor)) rfl ?_)
              all_goals (first | refine ans rfl rfl ?_ | refine aqs rfl (q_eql rfl rfl) rfl ?_)
              all_goals (first | refine aqs rfl (q_pickT rfl (by constructor)) rfl ?_ | refine aqs rfl (q_pickF rfl (by constructor)) rfl ?_)
              all_goals (refine alist_nil ?_)
              all_goals (exact ⟨rfl, .mk' (by repeat (first | exact trivial | refine ⟨rfl, ?_⟩ | (refine ⟨?_, ?_⟩; (· first | (rw [hb2]; rfl) | fail)))) (.refl _)⟩)
            refine awp_cond rfl (fun hc5 => ?_) (fun hc5 => ?_)
            · obtain ⟨x0, Q2, e, hq, hcT, hcF⟩ := order_take W1 (r := r) ⟨hr.1, by omega⟩ hW1r
              have hx0 : e = 0 → ((pre ++ W1).map Task.cells)[pre.length + 0]? = some x0.cells ∧ 0 < W1.length := fun he => by
                obtain ⟨W2, h1, _⟩ := hcT he
                rw [h1]
                exact ⟨get_map (pre_at rfl), by simp⟩
              have hpos : decide (e = 0) = decide ((0 : Int) < (W1.length : Nat)) := by
                by_cases he : e = 0
                · have := (hx0 he).2
                  rw [decide_eq_true he, decide_eq_true (by omega)]
                · rw [decide_eq_false he, hcF he]; rfl
              refine awp_seq ?_
              refine awp_region ?_
              first | refine aqs rfl (q_ldpW ag63 sz63 rfl (by repeat (first | exact .here | assumption | (apply HAt.left; assumption) | apply HAt.there | apply HAt.right)) (by first | rfl | assumption | (simp [*]; done) | fail) (by first | rfl | assumption | (simp [*]; done) | fail) (by decide)) rfl ?_ | refine aqs rfl (q_ldW ag63 sz63 rfl (by first | rfl | assumption | (simp [*]; done) | fail)) rfl ?_ | refine aqs rfl (q_ldpP ag63 sz63 rfl (by repeat (first | exact .here | assumption | (apply HAt.left; assumption) | apply HAt.there | apply HAt.right)) (by first | rfl | assumption | (simp [*]; done) | fail) (by first | decide | (simp; done) | omega | fail) (by decide) (by first | ((repeat constructor); done) | exact .same _)) rfl ?_ | refine aqs rfl (q_ldP ag63 sz63 rfl (by first | decide | (simp; done) | omega | fail) (by first | ((repeat constructor); done) | exact .same _)) rfl ?_
              first | refine aqs rfl (e_callN cb68 (hq ▸ take68_c ⟨r, false, W1⟩ _) rfl rfl) rfl ?_ | refine aqs rfl (e_callN cb68 (ACall.arg (hq ▸ take68_c ⟨r, false, W1⟩ _) (by repeat (first | exact ArgL.nil | (apply ArgL.cons; (· first | exact .same | exact .cro | exact .nil))))) rfl rfl) rfl ?_
              refine aqs rfl (q_mv (by constructor)) rfl ?_
              refine aqs rfl (q_ex rfl rfl (by constructor)) rfl ?_
              refine aqs rfl (q_ex rfl rfl (by constructor)) rfl ?_
              refine aqs rfl (q_ex rfl rfl (by constructor)) rfl ?_
              (refine aes rfl (e_al (xs := [.lit (.int .i64 0), .lit (.int .i64 0), .lit (.string ⟨#[]⟩), .lit (.string ⟨#[]⟩)]) (k := 4) zr75 (.same _) rfl) rfl ?_; rintro _ _ ⟨u18, rfl, rfl⟩)
              (refine aes rfl (e_al (xs := [.lit (.int .i64 0), .lit (.bool false), .lit (.slice none 0 0)]) (k := 3) zr63 (.same _) rfl) rfl ?_; rintro _ _ ⟨u19, rfl, rfl⟩)
              first | (refine aen rfl (e_stW sz75 rfl (by repeat (first | exact .here | assumption | (apply HAt.left; assumption) | apply HAt.there | apply HAt.right)) (by constructor) (by first | rfl | assumption | (simp [*]; done) | fail) rfl (by repeat (first | exact .here | apply HSet.there))) ?_; rintro _ _ ⟨rfl, rfl⟩) | (refine aen rfl (e_stP sz75 rfl (by repeat (first | exact .here | assumption | (apply HAt.left; assumption) | apply HAt.there | apply HAt.right)) (by first | rfl | assumption | (simp [*]; done) | fail) (by constructor) (by first | rfl | assumption | (simp [*]; done) | fail) rfl (by first | decide | omega) (by first | ((repeat constructor); done) | exact .same _) (by first | exact .one | exact .set) (by repeat (first | exact .here | apply HSet.there))) ?_; rintro _ _ ⟨rfl, rfl⟩)
              first | (refine aen rfl (e_stW sz63 rfl (by repeat (first | exact .here | assumption | (apply HAt.left; assumption) | apply HAt.there | apply HAt.right)) (by constructor) (by first | rfl | assumption | (simp [*]; done) | fail) rfl (by repeat (first | exact .here | apply HSet.there))) ?_; rintro _ _ ⟨rfl, rfl⟩) | (refine aen rfl (e_stP sz63 rfl (by repeat (first | exact .here | assumption | (apply HAt.left; assumption) | apply HAt.there | apply HAt.right)) (by first | rfl | assumption | (simp [*]; done) | fail) (by constructor) (by first | rfl | assumption | (simp [*]; done) | fail) rfl (by first | decide | omega) (by first | ((repeat constructor); done) | exact .same _) (by first | exact .one | exact .set) (by repeat (first | exact .here | apply HSet.there))) ?_; rintro _ _ ⟨rfl, rfl⟩)
              refine aqs rfl (q_as (by constructor)) rfl ?_
              refine alist_nil ?_
              show AWP _ _ _ _
              refine awp_seq ?_
              refine awp_mid [(114, .lit (.bool false)), (19, .ptr u19 0 0), (20, .lit (.int .i64 e)), (17, .lit (.int .i64 d)), (12, .lit (.int .i64 i)), (0, .ro (raw.map Tri.cells)), (1, .ro (ds.map cI)), (8, .lit (.int .i64 r)), (9, .ptr u9 0 0), (13, .ptr u13 0 0), (11, .sl u pre.length (pre.length + W1.length)), (7, .lit (.bool true))] ?_ ?_
              · skip
                refine awp_draw 17 [(0, false), (1, false), (2, false), (3, false), (4, false), (5, false), (6, false), (7, false), (8, false), (9, false), (10, false), (11, false), (12, false), (13, false), (14, false), (15, false), (16, false)] _ ([]) mixed (by kernel_rfl) (perm0 _) ?_
                all_goals (refine glq rfl (.inl ⟨rfl, q_mv (by constructor)⟩) rfl ?_)
                all_goals (refine glq rfl (.inl ⟨rfl, q_eql rfl rfl⟩) rfl ?_)
                all_goals (refine glq rfl (.inl ⟨rfl, q_mv (by constructor)⟩) rfl ?_)
                all_goals (first | refine glq rfl (.inl ⟨rfl, castQ (r2 := .lit (.int .i64 (W1.length : Nat))) (q_len Try.underlying61 .ro) (by exact congrArg (fun z : Nat => AV.lit (.int .i64 (z : Int))) (Nat.add_sub_cancel_left _ _))⟩) rfl ?_ | refine glq rfl (.inl ⟨rfl, castQ (r2 := .lit (.int .i64 (W1.length : Nat))) (q_lenO Try.underlying61 rfl (by repeat (first | exact .here | assumption | (apply HAt.left; assumption) | apply HAt.there | apply HAt.right)) (by first | omega | (simp; done) | (simp; omega) | fail) (by first | exact Nat.sub_zero _ | rfl)) (by exact congrArg (fun z : Nat => AV.lit (.int .i64 (z : Int))) (Nat.add_sub_cancel_left _ _))⟩) rfl ?_ | refine glq rfl (.inl ⟨rfl, castQ (r2 := .lit (.int .i64 (W1.length : Nat))) (q_len Try.underlying61 .nil) (by exact congrArg (fun z : Nat => AV.lit (.int .i64 (z : Int))) (Nat.add_sub_cancel_left _ _))⟩) rfl ?_ | refine glq rfl (.inl ⟨rfl, castQ (r2 := .lit (.int .i64 (W1.length : Nat))) (q_len Try.underlying61 .cro) (by exact congrArg (fun z : Nat => AV.lit (.int .i64 (z : Int))) (Nat.add_sub_cancel_left _ _))⟩) rfl ?_)
                all_goals (refine glq rfl (.inl ⟨rfl, q_gtr rfl rfl⟩) rfl ?_)
                all_goals (refine glq rfl (.inl ⟨rfl, castF (q_bneq rfl rfl Try.underlying4) (by rw [hpos]; simp)⟩) rfl ?_)
                all_goals (refine glq rfl (.inl ⟨rfl, q_mv (by constructor)⟩) rfl ?_)
                all_goals (first | refine glq rfl (.inl ⟨rfl, q_mv (by constructor)⟩) rfl ?_ | refine glq rfl (.inr ⟨rfl, rfl⟩) rfl ?_)
                all_goals (first | refine glq rfl (.inl ⟨rfl, q_eql rfl rfl⟩) rfl ?_ | refine glq rfl (.inr ⟨rfl, rfl⟩) rfl ?_)
                all_goals (first | refine glq rfl (.inl ⟨rfl, q_mv (by constructor)⟩) rfl ?_ | refine glq rfl (.inr ⟨rfl, rfl⟩) rfl ?_)
                all_goals try (refine gcase (fun hb9 => ?_) (fun hb9 => ?_))
                all_goals first | (exfalso; cases hb9; done) | skip
                all_goals try (have he0 : e = 0 := (by simpa using hb9); obtain ⟨hx1, hx2⟩ := hx0 he0)
                all_goals (first | refine glq rfl (.inl ⟨rfl, q_ldpW ag75 sz75 rfl (by repeat (first | exact .here | assumption | (apply HAt.left; assumption) | apply HAt.there | apply HAt.right)) (by first | rfl | assumption | (simp [*]; done) | fail) (by first | rfl | assumption | (simp [*]; done) | fail) (by decide)⟩) rfl ?_ | refine glq rfl (.inl ⟨rfl, q_ldW ag75 sz75 rfl (by first | rfl | assumption | (simp [*]; done) | fail)⟩) rfl ?_ | refine glq rfl (.inl ⟨rfl, q_ldpP ag75 sz75 rfl (by repeat (first | exact .here | assumption | (apply HAt.left; assumption) | apply HAt.there | apply HAt.right)) (by first | rfl | assumption | (simp [*]; done) | fail) (by first | decide | (simp; done) | omega | fail) (by decide) (by first | ((repeat constructor); done) | exact .same _)⟩) rfl ?_ | refine glq rfl (.inl ⟨rfl, q_ldP ag75 sz75 rfl (by first | decide | (simp; done) | omega | fail) (by first | ((repeat constructor); done) | exact .same _)⟩) rfl ?_ | refine glq rfl (.inr ⟨rfl, rfl⟩) rfl ?_)
                all_goals (first | refine glq rfl (.inl ⟨rfl, q_mv (by constructor)⟩) rfl ?_ | refine glq rfl (.inr ⟨rfl, rfl⟩) rfl ?_)
                all_goals (first | refine glq rfl (.inl ⟨rfl, q_iaN Try.underlying61 sz75 (.inl rfl) rfl (by omega) (by first | rfl | assumption | (simp [*]; done) | fail) (by first | rfl | assumption | (simp [*]; done) | fail) (by decide) (by first | ((repeat constructor); done) | exact .same _)⟩) rfl ?_ | refine glq rfl (.inl ⟨rfl, q_iaS Try.underlying61 sz75 rfl (by repeat (first | exact .here | assumption | (apply HAt.left; assumption) | apply HAt.there | apply HAt.right)) rfl (by omega) (by omega) (by first | exact Nat.zero_add _ | rfl)⟩) rfl ?_ | refine glq rfl (.inl ⟨rfl, q_iaN Try.underlying61 sz75 (.inr rfl) rfl (by omega) (by first | rfl | assumption | (simp [*]; done) | fail) (by first | rfl | assumption | (simp [*]; done) | fail) (by decide) (by first | ((repeat constructor); done) | exact .same _)⟩) rfl ?_ | refine glq rfl (.inr ⟨rfl, rfl⟩) rfl ?_)
                all_goals (first | refine glq rfl (.inl ⟨rfl, q_ldpW ag75 sz75 rfl (by repeat (first | exact .here | assumption | (apply HAt.left; assumption) | apply HAt.there | apply HAt.right)) (by first | rfl | assumption | (simp [*]; done) | fail) (by first | rfl | assumption | (simp [*]; done) | fail) (by decide)⟩) rfl ?_ | refine glq rfl (.inl ⟨rfl, q_ldW ag75 sz75 rfl (by first | rfl | assumption | (simp [*]; done) | fail)⟩) rfl ?_ | refine glq rfl (.inl ⟨rfl, q_ldpP ag75 sz75 rfl (by repeat (first | exact .here | assumption | (apply HAt.left; assumption) | apply HAt.there | apply HAt.right)) (by first | rfl | assumption | (simp [*]; done) | fail) (by first | decide | (simp; done) | omega | fail) (by decide) (by first | ((repeat constructor); done) | exact .same _)⟩) rfl ?_ | refine glq rfl (.inl ⟨rfl, q_ldP ag75 sz75 rfl (by first | decide | (simp; done) | omega | fail) (by first | ((repeat constructor); done) | exact .same _)⟩) rfl ?_ | refine glq rfl (.inr ⟨rfl, rfl⟩) rfl ?_)
                all_goals (first | refine glq rfl (.inl ⟨rfl, castF (q_neqA gd75 rfl rfl (by repeat constructor) (by repeat constructor) (fun w => eq75 w)) (by rw [teq]; simp)⟩) rfl ?_ | refine glq rfl (.inr ⟨rfl, rfl⟩) rfl ?_)
                all_goals (first | refine glq rfl (.inl ⟨rfl, q_pickT rfl (by constructor)⟩) rfl ?_ | refine glq rfl (.inl ⟨rfl, q_pickF rfl (by constructor)⟩) rfl ?_ | refine glq rfl (.inr ⟨rfl, rfl⟩) rfl ?_)
                all_goals (first | refine glq rfl (.inl ⟨rfl, q_pickT rfl (by constructor)⟩) rfl ?_ | refine glq rfl (.inl ⟨rfl, q_pickF rfl (by constructor)⟩) rfl ?_)
                all_goals (first | refine gld0 ?_ | refine gldA ?_)
                all_goals (refine alist_nil ?_)
                all_goals (exact ⟨rfl, .mk' (by repeat (first | exact trivial | refine ⟨rfl, ?_⟩ | (refine ⟨?_, ?_⟩; (· first | (rw [hb9]; rfl) | fail)))) (.refl _)⟩)
              refine awp_cond rfl (fun hc6 => ?_) (fun hc6 => ?_)
              · exfalso; first | (simp at hc6; done) | (simp at hc6; omega) | contradiction
              · try simp only [decide_eq_true_eq, decide_eq_false_iff_not, Bool.not_eq_true', Bool.not_eq_false', Bool.not_eq_eq_eq_not, Bool.not_true, Bool.not_false, beq_iff_eq, beq_eq_false_iff_ne, Int.not_lt, Int.not_le] at hc6
                refine awp_skip ?_
                show AWP _ _ _ _
                refine awp_seq ?_
                refine awp_region ?_
                refine aqs rfl (q_mv (by constructor)) rfl ?_
                refine aqs rfl (q_eql rfl rfl) rfl ?_
                refine alist_nil ?_
                show AWP _ _ _ _
                refine awp_cond rfl (fun hc7 => ?_) (fun hc7 => ?_)
                · have he0 : e = 0 := by simpa using hc7
                  obtain ⟨W2, hW2, hQ2⟩ := hcT he0
                  subst hQ2
                  have hW2r : (W2.length : Int) ≤ r := by rw [hW2] at hW1r; simp at hW1r; omega
                  have hcat : (pre ++ [x0]) ++ W2 = pre ++ W1 := by rw [hW2]; simp
                  have hx2 := (hx0 he0).2
                  refine awp_seq ?_
                  refine awp_region ?_
                  first | refine aqs rfl (q_ldpW ag63 sz63 rfl (by repeat (first | exact .here | assumption | (apply HAt.left; assumption) | apply HAt.there | apply HAt.right)) (by first | rfl | assumption | (simp [*]; done) | fail) (by first | rfl | assumption | (simp [*]; done) | fail) (by decide)) rfl ?_ | refine aqs rfl (q_ldW ag63 sz63 rfl (by first | rfl | assumption | (simp [*]; done) | fail)) rfl ?_ | refine aqs rfl (q_ldpP ag63 sz63 rfl (by repeat (first | exact .here | assumption | (apply HAt.left; assumption) | apply HAt.there | apply HAt.right)) (by first | rfl | assumption | (simp [*]; done) | fail) (by first | decide | (simp; done) | omega | fail) (by decide) (by first | ((repeat constructor); done) | exact .same _)) rfl ?_ | refine aqs rfl (q_ldP ag63 sz63 rfl (by first | decide | (simp; done) | omega | fail) (by first | ((repeat constructor); done) | exact .same _)) rfl ?_
                  first | (refine aen rfl (e_stW sz63 rfl (by repeat (first | exact .here | assumption | (apply HAt.left; assumption) | apply HAt.there | apply HAt.right)) (by constructor) (by first | rfl | assumption | (simp [*]; done) | fail) rfl (by repeat (first | exact .here | apply HSet.there))) ?_; rintro _ _ ⟨rfl, rfl⟩) | (refine aen rfl (e_stP sz63 rfl (by repeat (first | exact .here | assumption | (apply HAt.left; assumption) | apply HAt.there | apply HAt.right)) (by first | rfl | assumption | (simp [*]; done) | fail) (by constructor) (by first | rfl | assumption | (simp [*]; done) | fail) rfl (by first | decide | omega) (by first | ((repeat constructor); done) | exact .same _) (by first | exact .one | exact .set) (by repeat (first | exact .here | apply HSet.there))) ?_; rintro _ _ ⟨rfl, rfl⟩)
                  refine alist_nil ?_
                  show AWP _ _ _ _
                  refine awp_region ?_
                  refine aqs rfl (q_mv (by constructor)) rfl ?_
                  first | refine aqs rfl (castQ (r2 := .sl u (pre ++ [x0]).length ((pre ++ [x0]).length + W2.length)) (q_slR Try.underlying61 sz75 (.inl rfl) (by first | (refine ⟨_, _, rfl, ?_⟩; with_reducible rfl) | exact bnd_int rfl (by omega)) rfl (by first | omega | (simp; done) | (simp; omega) | fail) (by first | omega | (simp; done) | (simp; omega) | fail) (by first | rfl | assumption | (simp [*]; done) | fail)) (by rw [AV.sl.injEq]; exact ⟨rfl, by simp, by rw [hW2]; simp; omega⟩)) rfl ?_ | refine aqs rfl (castQ (r2 := .sl u (pre ++ [x0]).length ((pre ++ [x0]).length + W2.length)) (q_slO Try.underlying61 sz75 rfl (by repeat (first | exact .here | assumption | (apply HAt.left; assumption) | apply HAt.there | apply HAt.right)) (by first | (refine ⟨_, _, rfl, ?_⟩; with_reducible rfl) | exact bnd_int rfl (by omega)) rfl (by first | omega | (simp; done) | (simp; omega) | fail) (by first | omega | (simp; done) | (simp; omega) | fail) (by first | exact Nat.zero_add _ | rfl) (by first | exact Nat.zero_add _ | rfl)) (by rw [AV.sl.injEq]; exact ⟨rfl, by simp, by rw [hW2]; simp; omega⟩)) rfl ?_
                  refine aqs rfl (q_as (by constructor)) rfl ?_
                  refine alist_nil ?_
                  show ∃ y, _ ∧ _
                  first
                    | exact ⟨(u, pre ++ [x0], W2), hW2r, by simp only [hcat]; exact .mk' ⟨by rfl, rfl, rfl, rfl, rfl, rfl, rfl, rfl, rfl, trivial⟩ (by repeat (first | exact List.Sublist.refl _ | exact List.nil_sublist _ | exact List.sublist_append_left _ _ | (apply List.Sublist.cons_cons) | (apply List.Sublist.cons)))⟩
                    | exact ⟨(u, pre, W1), hW1r, .mk' ⟨by rfl, rfl, rfl, rfl, rfl, rfl, rfl, rfl, rfl, trivial⟩ (by repeat (first | exact List.Sublist.refl _ | exact List.nil_sublist _ | exact List.sublist_append_left _ _ | (apply List.Sublist.cons_cons) | (apply List.Sublist.cons)))⟩
                · try simp only [decide_eq_true_eq, decide_eq_false_iff_not, Bool.not_eq_true', Bool.not_eq_false', Bool.not_eq_eq_eq_not, Bool.not_true, Bool.not_false, beq_iff_eq, beq_eq_false_iff_ne, Int.not_lt, Int.not_le] at hc7
                  refine awp_skip ?_
                  show ∃ y, _ ∧ _
                  first
                    | exact ⟨(u, pre ++ [x0], W2), hW2r, by simp only [hcat]; exact .mk' ⟨by rfl, rfl, rfl, rfl, rfl, rfl, rfl, rfl, rfl, trivial⟩ (by repeat (first | exact List.Sublist.refl _ | exact List.nil_sublist _ | exact List.sublist_append_left _ _ | (apply List.Sublist.cons_cons) | (apply List.Sublist.cons)))⟩
                    | exact ⟨(u, pre, W1), hW1r, .mk' ⟨by rfl, rfl, rfl, rfl, rfl, rfl, rfl, rfl, rfl, trivial⟩ (by repeat (first | exact List.Sublist.refl _ | exact List.nil_sublist _ | exact List.sublist_append_left _ _ | (apply List.Sublist.cons_cons) | (apply List.Sublist.cons)))⟩
            · try simp only [decide_eq_true_eq, decide_eq_false_iff_not, Bool.not_eq_true', Bool.not_eq_false', Bool.not_eq_eq_eq_not, Bool.not_true, Bool.not_false, beq_iff_eq, beq_eq_false_iff_ne, Int.not_lt, Int.not_le] at hc5
              refine awp_skip ?_
              show ∃ y, _ ∧ _
              first
                | exact ⟨(u, pre ++ [x0], W2), hW2r, by simp only [hcat]; exact .mk' ⟨by rfl, rfl, rfl, rfl, rfl, rfl, rfl, rfl, rfl, trivial⟩ (by repeat (first | exact List.Sublist.refl _ | exact List.nil_sublist _ | exact List.sublist_append_left _ _ | (apply List.Sublist.cons_cons) | (apply List.Sublist.cons)))⟩
                | exact ⟨(u, pre, W1), hW1r, .mk' ⟨by rfl, rfl, rfl, rfl, rfl, rfl, rfl, rfl, rfl, trivial⟩ (by repeat (first | exact List.Sublist.refl _ | exact List.nil_sublist _ | exact List.sublist_append_left _ _ | (apply List.Sublist.cons_cons) | (apply List.Sublist.cons)))⟩
          rintro ⟨u, pre, W2⟩ hW2r
          simp only at hW2r ⊢
          have hpl2 : ((pre ++ W2).map Task.cells).length = pre.length + W2.length := by simp
          refine awp_join (fun x : Nat × List Task × List Task => ⟨[(12, .lit (.int .i64 i)), (0, .ro (raw.map Tri.cells)), (1, .ro (ds.map cI)), (8, .lit (.int .i64 r)), (9, .ptr u9 0 0), (11, .sl x.1 x.2.1.length (x.2.1.length + x.2.2.length)), (7, .lit (.bool true))], 173, [(x.1, .arr 75 4 ((x.2.1 ++ x.2.2).map Task.cells)), (u9, .arr 63 3 [(⟨r, false, x.2.2⟩ : Queue).cells])]⟩) (fun x => (x.2.2.length : Int) ≤ r) ?_ ?_
          · skip
            refine awp_seq ?_
            refine awp_region ?_
            refine aqs rfl (q_mv (by constructor)) rfl ?_
            refine aqs rfl (q_eql rfl rfl) rfl ?_
            refine alist_nil ?_
            show AWP _ _ _ _
            refine awp_cond rfl (fun hc8 => ?_) (fun hc8 => ?_)
            · obtain ⟨m, hd⟩ : ∃ m, qDropS ⟨r, false, W2⟩ t.req = (m, ⟨r, false, restT t.req W2⟩, 0) := by
                have hb : ¬ qRight ⟨r, false, W2⟩ = false := by rw [qRight_f.2 ⟨hr.1, by show r ≤ 4096; omega, hW2r⟩]; simp
                exact ⟨_, by rw [qDropS, if_neg hb]⟩
              have hrl := rest_len t.req W2
              refine awp_seq ?_
              refine awp_region ?_
              first | refine aqs rfl (q_ldpW ag63 sz63 rfl (by repeat (first | exact .here | assumption | (apply HAt.left; assumption) | apply HAt.there | apply HAt.right)) (by first | rfl | assumption | (simp [*]; done) | fail) (by first | rfl | assumption | (simp [*]; done) | fail) (by decide)) rfl ?_ | refine aqs rfl (q_ldW ag63 sz63 rfl (by first | rfl | assumption | (simp [*]; done) | fail)) rfl ?_ | refine aqs rfl (q_ldpP ag63 sz63 rfl (by repeat (first | exact .here | assumption | (apply HAt.left; assumption) | apply HAt.there | apply HAt.right)) (by first | rfl | assumption | (simp [*]; done) | fail) (by first | decide | (simp; done) | omega | fail) (by decide) (by first | ((repeat constructor); done) | exact .same _)) rfl ?_ | refine aqs rfl (q_ldP ag63 sz63 rfl (by first | decide | (simp; done) | omega | fail) (by first | ((repeat constructor); done) | exact .same _)) rfl ?_
              first | refine aqs rfl (q_fapP fl75_0 (by decide) rfl rfl) rfl ?_ | refine aqs rfl (q_faP fl75_0 (by decide) rfl (by first | ((repeat constructor); done) | exact .same _)) rfl ?_
              first | refine aqs rfl (q_ldpN ag3 rfl (by repeat (first | exact .here | assumption | (apply HAt.left; assumption) | apply HAt.there | apply HAt.right)) (by first | rfl | assumption | (simp [*]; done) | fail) (by first | rfl | assumption | (simp [*]; done) | fail) (by constructor)) rfl ?_ | refine aqs rfl (q_ld1N ag3 rfl (by constructor)) rfl ?_
              first | refine aqs rfl (e_callN cb74 (hd ▸ drop74_c ⟨r, false, W2⟩ t.req _) rfl rfl) rfl ?_ | refine aqs rfl (e_callN cb74 (ACall.arg (hd ▸ drop74_c ⟨r, false, W2⟩ t.req _) (by repeat (first | exact ArgL.nil | (apply ArgL.cons; (· first | exact .same | exact .cro | exact .nil))))) rfl rfl) rfl ?_
              refine aqs rfl (q_mv (by constructor)) rfl ?_
              refine aqs rfl (q_ex rfl rfl (by constructor)) rfl ?_
              refine aqs rfl (q_ex rfl rfl (by constructor)) rfl ?_
              refine aqs rfl (q_ex rfl rfl (by constructor)) rfl ?_
              (refine aes rfl (e_al (xs := [.lit (.int .i64 0), .lit (.bool false), .lit (.slice none 0 0)]) (k := 3) zr63 (.same _) rfl) rfl ?_; rintro _ _ ⟨u22, rfl, rfl⟩)
              refine aqs rfl (q_as (by constructor)) rfl ?_
              first | (refine aen rfl (e_stW sz63 rfl (by repeat (first | exact .here | assumption | (apply HAt.left; assumption) | apply HAt.there | apply HAt.right)) (by constructor) (by first | rfl | assumption | (simp [*]; done) | fail) rfl (by repeat (first | exact .here | apply HSet.there))) ?_; rintro _ _ ⟨rfl, rfl⟩) | (refine aen rfl (e_stP sz63 rfl (by repeat (first | exact .here | assumption | (apply HAt.left; assumption) | apply HAt.there | apply HAt.right)) (by first | rfl | assumption | (simp [*]; done) | fail) (by constructor) (by first | rfl | assumption | (simp [*]; done) | fail) rfl (by first | decide | omega) (by first | ((repeat constructor); done) | exact .same _) (by first | exact .one | exact .set) (by repeat (first | exact .here | apply HSet.there))) ?_; rintro _ _ ⟨rfl, rfl⟩)
              refine aqs rfl (q_as (by constructor)) rfl ?_
              refine alist_nil ?_
              show AWP _ _ _ _
              refine awp_seq ?_
              refine awp_seq ?_
              refine awp_region ?_
              refine aqs rfl (q_mv (by constructor)) rfl ?_
              refine aqs rfl (castF (q_neq rfl rfl) (by rfl)) rfl ?_
              refine alist_nil ?_
              show AWP _ _ _ _
              refine awp_cond rfl (fun hc9 => ?_) (fun hc9 => ?_)
              · exfalso; first | (simp at hc9; done) | (simp at hc9; omega) | contradiction
              · try simp only [decide_eq_true_eq, decide_eq_false_iff_not, Bool.not_eq_true', Bool.not_eq_false', Bool.not_eq_eq_eq_not, Bool.not_true, Bool.not_false, beq_iff_eq, beq_eq_false_iff_ne, Int.not_lt, Int.not_le] at hc9
                refine awp_skip ?_
                show AWP _ _ _ _
                refine awp_seq ?_
                refine awp_region ?_
                first | refine aqs rfl (q_ldpW ag63 sz63 rfl (by repeat (first | exact .here | assumption | (apply HAt.left; assumption) | apply HAt.there | apply HAt.right)) (by first | rfl | assumption | (simp [*]; done) | fail) (by first | rfl | assumption | (simp [*]; done) | fail) (by decide)) rfl ?_ | refine aqs rfl (q_ldW ag63 sz63 rfl (by first | rfl | assumption | (simp [*]; done) | fail)) rfl ?_ | refine aqs rfl (q_ldpP ag63 sz63 rfl (by repeat (first | exact .here | assumption | (apply HAt.left; assumption) | apply HAt.there | apply HAt.right)) (by first | rfl | assumption | (simp [*]; done) | fail) (by first | decide | (simp; done) | omega | fail) (by decide) (by first | ((repeat constructor); done) | exact .same _)) rfl ?_ | refine aqs rfl (q_ldP ag63 sz63 rfl (by first | decide | (simp; done) | omega | fail) (by first | ((repeat constructor); done) | exact .same _)) rfl ?_
                first | (refine aen rfl (e_stW sz63 rfl (by repeat (first | exact .here | assumption | (apply HAt.left; assumption) | apply HAt.there | apply HAt.right)) (by constructor) (by first | rfl | assumption | (simp [*]; done) | fail) rfl (by repeat (first | exact .here | apply HSet.there))) ?_; rintro _ _ ⟨rfl, rfl⟩) | (refine aen rfl (e_stP sz63 rfl (by repeat (first | exact .here | assumption | (apply HAt.left; assumption) | apply HAt.there | apply HAt.right)) (by first | rfl | assumption | (simp [*]; done) | fail) (by constructor) (by first | rfl | assumption | (simp [*]; done) | fail) rfl (by first | decide | omega) (by first | ((repeat constructor); done) | exact .same _) (by first | exact .one | exact .set) (by repeat (first | exact .here | apply HSet.there))) ?_; rintro _ _ ⟨rfl, rfl⟩)
                refine alist_nil ?_
                show AWP _ _ _ _
                refine awp_seq ?_
                refine awp_region ?_
                refine aqs rfl (q_as (by constructor)) rfl ?_
                refine alist_nil ?_
                show AWP _ _ _ _
                refine awp_adopt 24 75 4 rfl fun u1 => ?_
                show AWP _ _ _ _
                refine awp_seq ?_
                refine awp_seq ?_
                refine awp_region ?_
                refine aqs rfl (q_as (by constructor)) rfl ?_
                refine alist_nil ?_
                show AWP _ _ _ _
                refine awp_block ?_
                refine awp_loop_inv (fun x : Nat × Nat => ⟨[(25, .lit (.int .i64 x.1)), (24, .sl x.2 0 (restT t.req (W2.take x.1)).length), (12, .lit (.int .i64 i)), (0, .ro (raw.map Tri.cells)), (1, .ro (ds.map cI)), (8, .lit (.int .i64 r)), (9, .ptr u9 0 0), (13, .ptr u13 0 0), (11, .sl u pre.length (pre.length + W2.length)), (7, .lit (.bool true))], 173, [(x.2, .arr 75 4 ((restT t.req (W2.take x.1)).map Task.cells)), (u13, .arr 75 4 [t.cells]), (u, .arr 75 4 ((pre ++ W2).map Task.cells)), (u9, .arr 63 3 [(⟨r, false, restT t.req W2⟩ : Queue).cells])]⟩) (fun x => x.1 ≤ W2.length) (fun x => W2.length - x.1) (0, u1) ?_ ?_ ?_
                · exact Nat.zero_le _
                · exact .mk' (by repeat (first | exact trivial | refine ⟨rfl, ?_⟩)) (by repeat (first | exact .refl _ | apply List.Sublist.cons_cons | apply List.Sublist.cons))
                · rintro ⟨j, v⟩ hj
                  simp only at hj ⊢
                  have hlen := lenTask (restT t.req (W2.take j))
                  have hone := oneTask (restT t.req (W2.take j))
                  have hwl := rest_len t.req (W2.take j)
                  have htl : (W2.take j).length = j := by rw [List.length_take]; omega
                  refine awp_seq ?_
                  refine awp_seq ?_
                  refine awp_region ?_
                  refine aqs rfl (q_mv (by constructor)) rfl ?_
                  refine aqs rfl (q_mv (by constructor)) rfl ?_
                  first | refine aqs rfl (castQ (r2 := .lit (.int .i64 (W2.length : Nat))) (q_len Try.underlying61 .ro) (by exact congrArg (fun z : Nat => AV.lit (.int .i64 (z : Int))) (Nat.add_sub_cancel_left _ _))) rfl ?_ | refine aqs rfl (castQ (r2 := .lit (.int .i64 (W2.length : Nat))) (q_lenO Try.underlying61 rfl (by repeat (first | exact .here | assumption | (apply HAt.left; assumption) | apply HAt.there | apply HAt.right)) (by first | omega | (simp; done) | (simp; omega) | fail) (by first | exact Nat.sub_zero _ | rfl)) (by exact congrArg (fun z : Nat => AV.lit (.int .i64 (z : Int))) (Nat.add_sub_cancel_left _ _))) rfl ?_ | refine aqs rfl (castQ (r2 := .lit (.int .i64 (W2.length : Nat))) (q_len Try.underlying61 .nil) (by exact congrArg (fun z : Nat => AV.lit (.int .i64 (z : Int))) (Nat.add_sub_cancel_left _ _))) rfl ?_ | refine aqs rfl (castQ (r2 := .lit (.int .i64 (W2.length : Nat))) (q_len Try.underlying61 .cro) (by exact congrArg (fun z : Nat => AV.lit (.int .i64 (z : Int))) (Nat.add_sub_cancel_left _ _))) rfl ?_
                  refine aqs rfl (q_lss rfl rfl) rfl ?_
                  refine alist_nil ?_
                  show AWP _ _ _ _
                  refine awp_cond rfl (fun hc10 => ?_) (fun hc10 => ?_)
                  · simp only [decide_eq_true_eq] at hc10
                    obtain ⟨s2, hs3, hsm3⟩ := get_lt (l := W2) (i := j) (by omega)
                    have hs4 := get_map (f := Task.cells) (pre_at (pre := pre) hs3)
                    have hnx := rest_next t.req hs3
                    refine awp_skip ?_
                    show AWP _ _ _ _
                    refine awp_seq ?_
                    refine awp_block ?_
                    refine awp_seq ?_
                    refine awp_draw 8 [(0, false), (1, false), (2, false), (3, false), (4, false), (5, false), (6, false), (7, false)] _ ([]) mixed (by kernel_rfl) (perm0 _) ?_
                    refine glq rfl (.inl ⟨rfl, q_mv (by constructor)⟩) rfl ?_
                    refine glq rfl (.inl ⟨rfl, q_mv (by constructor)⟩) rfl ?_
                    first | refine glq rfl (.inl ⟨rfl, q_iaN Try.underlying61 sz75 (.inl rfl) rfl (by omega) (by first | rfl | assumption | (simp [*]; done) | fail) (by first | rfl | assumption | (simp [*]; done) | fail) (by decide) (by first | ((repeat constructor); done) | exact .same _)⟩) rfl ?_ | refine glq rfl (.inl ⟨rfl, q_iaS Try.underlying61 sz75 rfl (by repeat (first | exact .here | assumption | (apply HAt.left; assumption) | apply HAt.there | apply HAt.right)) rfl (by omega) (by omega) (by first | exact Nat.zero_add _ | rfl)⟩) rfl ?_ | refine glq rfl (.inl ⟨rfl, q_iaN Try.underlying61 sz75 (.inr rfl) rfl (by omega) (by first | rfl | assumption | (simp [*]; done) | fail) (by first | rfl | assumption | (simp [*]; done) | fail) (by decide) (by first | ((repeat constructor); done) | exact .same _)⟩) rfl ?_
                    first | refine glq rfl (.inl ⟨rfl, q_fapP fl75_0 (by decide) rfl rfl⟩) rfl ?_ | refine glq rfl (.inl ⟨rfl, q_faP fl75_0 (by decide) rfl (by first | ((repeat constructor); done) | exact .same _)⟩) rfl ?_
                    first | refine glq rfl (.inl ⟨rfl, q_ldpN ag3 rfl (by repeat (first | exact .here | assumption | (apply HAt.left; assumption) | apply HAt.there | apply HAt.right)) (by first | rfl | assumption | (simp [*]; done) | fail) (by first | rfl | assumption | (simp [*]; done) | fail) (by constructor)⟩) rfl ?_ | refine glq rfl (.inl ⟨rfl, q_ld1N ag3 rfl (by constructor)⟩) rfl ?_
                    first | refine glq rfl (.inl ⟨rfl, q_fapP fl75_0 (by decide) rfl rfl⟩) rfl ?_ | refine glq rfl (.inl ⟨rfl, q_faP fl75_0 (by decide) rfl (by first | ((repeat constructor); done) | exact .same _)⟩) rfl ?_
                    first | refine glq rfl (.inl ⟨rfl, q_ldpN ag3 rfl (by repeat (first | exact .here | assumption | (apply HAt.left; assumption) | apply HAt.there | apply HAt.right)) (by first | rfl | assumption | (simp [*]; done) | fail) (by first | rfl | assumption | (simp [*]; done) | fail) (by constructor)⟩) rfl ?_ | refine glq rfl (.inl ⟨rfl, q_ld1N ag3 rfl (by constructor)⟩) rfl ?_
                    refine glq rfl (.inl ⟨rfl, q_neq rfl rfl⟩) rfl ?_
                    (first | refine gld0 ?_ | refine gldA ?_)
                    refine alist_nil ?_
                    show AWP _ _ _ _
                    refine awp_cond rfl (fun hc11 => ?_) (fun hc11 => ?_)
                    · have hk : ¬ s2.req = t.req := by simpa using hc11
                      rw [if_neg hk] at hnx
                      have hes2 : ((restT t.req (W2.take j)).map Task.cells).take (restT t.req (W2.take j)).length ++ [s2.cells] = (restT t.req (W2.take (j + 1))).map Task.cells := by
                        rw [List.take_of_length_le (by simp), hnx]; simp
                      have hml2 : (restT t.req (W2.take j)).length - 0 + 1 = (restT t.req (W2.take (j + 1))).length := by rw [hnx]; simp
                      refine awp_region ?_
                      refine aqs rfl (q_mv (by constructor)) rfl ?_
                      refine aqs rfl (q_mv (by constructor)) rfl ?_
                      refine aqs rfl (q_mv (by constructor)) rfl ?_
                      first | refine aqs rfl (q_iaN Try.underlying61 sz75 (.inl rfl) rfl (by omega) (by first | rfl | assumption | (simp [*]; done) | fail) (by first | rfl | assumption | (simp [*]; done) | fail) (by decide) (by first | ((repeat constructor); done) | exact .same _)) rfl ?_ | refine aqs rfl (q_iaS Try.underlying61 sz75 rfl (by repeat (first | exact .here | assumption | (apply HAt.left; assumption) | apply HAt.there | apply HAt.right)) rfl (by omega) (by omega) (by first | exact Nat.zero_add _ | rfl)) rfl ?_ | refine aqs rfl (q_iaN Try.underlying61 sz75 (.inr rfl) rfl (by omega) (by first | rfl | assumption | (simp [*]; done) | fail) (by first | rfl | assumption | (simp [*]; done) | fail) (by decide) (by first | ((repeat constructor); done) | exact .same _)) rfl ?_
                      first | refine aqs rfl (q_ldpW ag75 sz75 rfl (by repeat (first | exact .here | assumption | (apply HAt.left; assumption) | apply HAt.there | apply HAt.right)) (by first | rfl | assumption | (simp [*]; done) | fail) (by first | rfl | assumption | (simp [*]; done) | fail) (by decide)) rfl ?_ | refine aqs rfl (q_ldW ag75 sz75 rfl (by first | rfl | assumption | (simp [*]; done) | fail)) rfl ?_ | refine aqs rfl (q_ldpP ag75 sz75 rfl (by repeat (first | exact .here | assumption | (apply HAt.left; assumption) | apply HAt.there | apply HAt.right)) (by first | rfl | assumption | (simp [*]; done) | fail) (by first | decide | (simp; done) | omega | fail) (by decide) (by first | ((repeat constructor); done) | exact .same _)) rfl ?_ | refine aqs rfl (q_ldP ag75 sz75 rfl (by first | decide | (simp; done) | omega | fail) (by first | ((repeat constructor); done) | exact .same _)) rfl ?_
                      first | refine aqs rfl (q_bs Try.underlying61 sz75 zr75 rfl (by first | ((repeat constructor); done) | exact .same _) rfl (by decide) (by repeat (first | exact BS.nil | (apply BS.cons; (· constructor); (· rfl); (· rfl); (· rfl); (· exact (by first | ((repeat constructor); done) | exact .same _)))))) rfl ?_ | (refine aes rfl (e_bs Try.underlying61 sz75 zr75 rfl (by first | ((repeat constructor); done) | exact .same _) rfl (by decide) (by repeat (first | exact BS.nil | (apply BS.cons; (· constructor); (· rfl); (· rfl); (· rfl); (· exact (by first | ((repeat constructor); done) | exact .same _)))))) rfl ?_; rintro _ _ ⟨u152, rfl, rfl⟩)
                      first | refine aqs rfl (q_apC Try.underlying61 sz75 by75 zr75 (.inl rfl) (by first | exact .ro | exact .cro | exact .nil | exact SV.slA (by repeat (first | exact .here | assumption | (apply HAt.left; assumption) | apply HAt.there | apply HAt.right)) (by first | rfl | (simp; done) | (simp; omega) | (simp [*]; done) | fail)) (by first | assumption | (intro c hc; simp at hc; subst hc; rfl) | (simp; done) | fail) (by first | assumption | (intro c hc; simp at hc; subst hc; rfl) | (simp; done) | fail) (by first | omega | decide | (simp; omega) | assumption | fail) (by decide) (by decide) rfl (by first | rfl | (simp; done) | fail)) rfl ?_ | refine aqs rfl (q_apC Try.underlying61 sz75 by75 zr75 (.inr ⟨rfl, rfl⟩) (by first | exact .ro | exact .cro | exact .nil | exact SV.slA (by repeat (first | exact .here | assumption | (apply HAt.left; assumption) | apply HAt.there | apply HAt.right)) (by first | rfl | (simp; done) | (simp; omega) | (simp [*]; done) | fail)) (by first | assumption | (intro c hc; simp at hc; subst hc; rfl) | (simp; done) | fail) (by first | assumption | (intro c hc; simp at hc; subst hc; rfl) | (simp; done) | fail) (by first | omega | decide | (simp; omega) | assumption | fail) (by decide) (by decide) rfl (by first | rfl | (simp; done) | fail)) rfl ?_ | (refine aes rfl (e_apO Try.underlying61 sz75 by75 zr75 rfl (by repeat (first | exact .here | assumption | (apply HAt.left; assumption) | apply HAt.there | apply HAt.right)) (by first | (rw [hpl]; exact Nat.le_refl _) | (rw [List.length_map]; exact Nat.le_refl _)) (by first | exact .ro | exact .cro | exact .nil | exact SV.slA (by repeat (first | exact .here | assumption | (apply HAt.left; assumption) | apply HAt.there | apply HAt.right)) (by first | rfl | (simp; done) | (simp; omega) | (simp [*]; done) | fail)) (by first | assumption | (intro c hc; simp at hc; subst hc; rfl) | (simp; done) | fail) (by first | assumption | (intro c hc; simp at hc; subst hc; rfl) | (simp; done) | fail) (by first | assumption | (intro c hc; simp at hc; subst hc; rfl) | (simp; done) | fail) (by first | (simp; done) | (simp; omega) | omega | fail) (by decide) (by decide) rfl (by first | exact hml | exact hml2) (by first | exact hes | exact hes2) (fun v => (by repeat (first | exact .here | apply HSet.there)))) rfl ?_; rintro _ _ ⟨u153, rfl, rfl⟩) | (refine aes rfl (e_apN Try.underlying61 sz75 by75 zr75 rfl (by first | exact .ro | exact .cro | exact .nil | exact SV.slA (by repeat (first | exact .here | assumption | (apply HAt.left; assumption) | apply HAt.there | apply HAt.right)) (by first | rfl | (simp; done) | (simp; omega) | (simp [*]; done) | fail)) (by first | assumption | (intro c hc; simp at hc; subst hc; rfl) | (simp; done) | fail) (by first | assumption | (intro c hc; simp at hc; subst hc; rfl) | (simp; done) | fail) (by first | (simp; done) | (simp; omega) | omega | fail) (by decide) (by decide) rfl rfl) rfl ?_; rintro _ _ ⟨u153, rfl, rfl⟩)
                      refine aqs rfl (q_as (by constructor)) rfl ?_
                      refine alist_nil ?_
                      show AWP _ _ _ _
                      refine awp_region ?_
                      refine aqs rfl (q_mv (by constructor)) rfl ?_
                      first | refine aqs rfl (q_add64 rfl rfl (by omega) (by omega)) rfl ?_ | refine aqs rfl (q_add rfl rfl) rfl ?_
                      refine aqs rfl (q_as (by constructor)) rfl ?_
                      refine alist_nil ?_
                      show ∃ y, _ ∧ _ ∧ _
                      first
                        | exact ⟨(j + 1, _), by show j + 1 ≤ W2.length; omega, by show W2.length - (j + 1) < W2.length - j; omega, .mk' ⟨by rfl, rfl, rfl, rfl, rfl, rfl, rfl, rfl, rfl, rfl, trivial⟩ (by repeat (first | exact List.Sublist.refl _ | exact List.nil_sublist _ | exact List.sublist_append_left _ _ | (apply List.Sublist.cons_cons) | (apply List.Sublist.cons)))⟩
                        | exact ⟨(j + 1, v), by show j + 1 ≤ W2.length; omega, by show W2.length - (j + 1) < W2.length - j; omega, by simp only [hnx]; exact .mk' ⟨by rfl, rfl, rfl, rfl, rfl, rfl, rfl, rfl, rfl, rfl, trivial⟩ (by repeat (first | exact List.Sublist.refl _ | exact List.nil_sublist _ | exact List.sublist_append_left _ _ | (apply List.Sublist.cons_cons) | (apply List.Sublist.cons)))⟩
                    · have hk : s2.req = t.req := by simpa using hc11
                      rw [if_pos hk] at hnx
                      refine awp_skip ?_
                      show AWP _ _ _ _
                      refine awp_region ?_
                      refine aqs rfl (q_mv (by constructor)) rfl ?_
                      first | refine aqs rfl (q_add64 rfl rfl (by omega) (by omega)) rfl ?_ | refine aqs rfl (q_add rfl rfl) rfl ?_
                      refine aqs rfl (q_as (by constructor)) rfl ?_
                      refine alist_nil ?_
                      show ∃ y, _ ∧ _ ∧ _
                      first
                        | exact ⟨(j + 1, _), by show j + 1 ≤ W2.length; omega, by show W2.length - (j + 1) < W2.length - j; omega, .mk' ⟨by rfl, rfl, rfl, rfl, rfl, rfl, rfl, rfl, rfl, rfl, trivial⟩ (by repeat (first | exact List.Sublist.refl _ | exact List.nil_sublist _ | exact List.sublist_append_left _ _ | (apply List.Sublist.cons_cons) | (apply List.Sublist.cons)))⟩
                        | exact ⟨(j + 1, v), by show j + 1 ≤ W2.length; omega, by show W2.length - (j + 1) < W2.length - j; omega, by simp only [hnx]; exact .mk' ⟨by rfl, rfl, rfl, rfl, rfl, rfl, rfl, rfl, rfl, rfl, trivial⟩ (by repeat (first | exact List.Sublist.refl _ | exact List.nil_sublist _ | exact List.sublist_append_left _ _ | (apply List.Sublist.cons_cons) | (apply List.Sublist.cons)))⟩
                  · simp only [decide_eq_false_iff_not] at hc10
                    have hil : j = W2.length := by omega
                    subst hil
                    rw [List.take_length]
                    have hrr : ((restT t.req W2).length : Int) ≤ r := by omega
                    refine awp_exit ?_
                    show AWP _ _ _ _
                    refine awp_region ?_
                    refine aqs rfl (q_mv (by constructor)) rfl ?_
                    refine aqs rfl (q_as (by constructor)) rfl ?_
                    refine alist_nil ?_
                    show ∃ y, _ ∧ _
                    first
                      | exact ⟨(v, [], restT t.req W2), hrr, .mk' ⟨by rfl, rfl, rfl, rfl, rfl, (by show AV.sl _ _ _ = AV.sl _ _ _; simp), rfl, trivial⟩ (by repeat (first | exact List.Sublist.refl _ | exact List.nil_sublist _ | exact List.sublist_append_left _ _ | (apply List.Sublist.cons_cons) | (apply List.Sublist.cons)))⟩
                      | exact ⟨(u, pre, W2), hW2r, .mk' ⟨by rfl, rfl, rfl, rfl, rfl, rfl, rfl, trivial⟩ (by repeat (first | exact List.Sublist.refl _ | exact List.nil_sublist _ | exact List.sublist_append_left _ _ | (apply List.Sublist.cons_cons) | (apply List.Sublist.cons)))⟩
            · skip
              refine awp_skip ?_
              show ∃ y, _ ∧ _
              first
                | exact ⟨(v, [], restT t.req W2), hrr, .mk' ⟨by rfl, rfl, rfl, rfl, rfl, (by show AV.sl _ _ _ = AV.sl _ _ _; simp), rfl, trivial⟩ (by repeat (first | exact List.Sublist.refl _ | exact List.nil_sublist _ | exact List.sublist_append_left _ _ | (apply List.Sublist.cons_cons) | (apply List.Sublist.cons)))⟩
                | exact ⟨(u, pre, W2), hW2r, .mk' ⟨by rfl, rfl, rfl, rfl, rfl, rfl, rfl, trivial⟩ (by repeat (first | exact List.Sublist.refl _ | exact List.nil_sublist _ | exact List.sublist_append_left _ _ | (apply List.Sublist.cons_cons) | (apply List.Sublist.cons)))⟩
          rintro ⟨u, pre, W3⟩ hW3r
          simp only at hW3r ⊢
          have hqr : qRight ⟨r, false, W3⟩ = true := qRight_f.2 ⟨hr.1, by show r ≤ 4096; omega, hW3r⟩
          refine awp_seq ?_
          refine awp_region ?_
          first | refine aqs rfl (q_fapP fl63_2 (by decide) rfl rfl) rfl ?_ | refine aqs rfl (q_faP fl63_2 (by decide) rfl (by first | ((repeat constructor); done) | exact .same _)) rfl ?_
          first | refine aqs rfl (q_ldpN ag61 rfl (by repeat (first | exact .here | assumption | (apply HAt.left; assumption) | apply HAt.there | apply HAt.right)) (by first | rfl | assumption | (simp [*]; done) | fail) (by first | rfl | assumption | (simp [*]; done) | fail) (by constructor)) rfl ?_ | refine aqs rfl (q_ld1N ag61 rfl (by constructor)) rfl ?_
          first | refine aqs rfl (q_len Try.underlying61 .ro) rfl ?_ | refine aqs rfl (q_lenO Try.underlying61 rfl (by repeat (first | exact .here | assumption | (apply HAt.left; assumption) | apply HAt.there | apply HAt.right)) (by first | omega | (simp; done) | (simp; omega) | fail) (by first | exact Nat.sub_zero _ | rfl)) rfl ?_ | refine aqs rfl (q_len Try.underlying61 .nil) rfl ?_ | refine aqs rfl (q_len Try.underlying61 .cro) rfl ?_
          refine aqs rfl (q_mv (by constructor)) rfl ?_
          refine aqs rfl (castF (q_gtr rfl rfl) (by exact decide_eq_false (by simp only [List.length_map]; omega))) rfl ?_
          refine aqs rfl (q_mv (by constructor)) rfl ?_
          first | refine ans rfl rfl ?_ | refine aqs rfl (q_fapP fl63_2 (by decide) rfl rfl) rfl ?_ | refine aqs rfl (q_faP fl63_2 (by decide) rfl (by first | ((repeat constructor); done) | exact .same _)) rfl ?_
          first | refine ans rfl rfl ?_ | refine aqs rfl (q_ldpN ag61 rfl (by repeat (first | exact .here | assumption | (apply HAt.left; assumption) | apply HAt.there | apply HAt.right)) (by first | rfl | assumption | (simp [*]; done) | fail) (by first | rfl | assumption | (simp [*]; done) | fail) (by constructor)) rfl ?_ | refine aqs rfl (q_ld1N ag61 rfl (by constructor)) rfl ?_
          first | refine ans rfl rfl ?_ | refine aqs rfl (q_mv (by constructor)) rfl ?_
          first | refine aqs rfl (castQ (r2 := .lit (.bool true)) (e_callN cb77 (tasks77s_c W3 W3 pre (by omega) (by omega) u _ (by repeat (first | exact .here | assumption | (apply HAt.left; assumption) | apply HAt.there | apply HAt.right))) rfl rfl) (by simp)) rfl ?_ | refine aqs rfl (castQ (r2 := .lit (.bool true)) (e_callN cb77 (ACall.arg (tasks77s_c W3 W3 pre (by omega) (by omega) u _ (by repeat (first | exact .here | assumption | (apply HAt.left; assumption) | apply HAt.there | apply HAt.right))) (by repeat (first | exact ArgL.nil | (apply ArgL.cons; (· first | exact .same | exact .cro | exact .nil))))) rfl rfl) (by simp)) rfl ?_
          first | refine ans rfl rfl ?_ | refine aqs rfl (q_not rfl) rfl ?_
          first | refine aqs rfl (q_pickT rfl (by constructor)) rfl ?_ | refine aqs rfl (q_pickF rfl (by constructor)) rfl ?_
          refine aqs rfl (q_mv (by constructor)) rfl ?_
          first | refine ans rfl rfl ?_ | refine aqs rfl (q_ldpW ag63 sz63 rfl (by repeat (first | exact .here | assumption | (apply HAt.left; assumption) | apply HAt.there | apply HAt.right)) (by first | rfl | assumption | (simp [*]; done) | fail) (by first | rfl | assumption | (simp [*]; done) | fail) (by decide)) rfl ?_ | refine aqs rfl (q_ldW ag63 sz63 rfl (by first | rfl | assumption | (simp [*]; done) | fail)) rfl ?_ | refine aqs rfl (q_ldpP ag63 sz63 rfl (by repeat (first | exact .here | assumption | (apply HAt.left; assumption) | apply HAt.there | apply HAt.right)) (by first | rfl | assumption | (simp [*]; done) | fail) (by first | decide | (simp; done) | omega | fail) (by decide) (by first | ((repeat constructor); done) | exact .same _)) rfl ?_ | refine aqs rfl (q_ldP ag63 sz63 rfl (by first | decide | (simp; done) | omega | fail) (by first | ((repeat constructor); done) | exact .same _)) rfl ?_
          first | refine aqs rfl (castQ (r2 := .lit (.bool true)) (e_callN cb72 (right72_c ⟨r, false, W3⟩ _) rfl rfl) (by rw [hqr])) rfl ?_ | refine aqs rfl (castQ (r2 := .lit (.bool true)) (e_callN cb72 (ACall.arg (right72_c ⟨r, false, W3⟩ _) (by repeat (first | exact ArgL.nil | (apply ArgL.cons; (· first | exact .same | exact .cro | exact .nil))))) rfl rfl) (by rw [hqr])) rfl ?_
          first | refine ans rfl rfl ?_ | refine aqs rfl (q_not rfl) rfl ?_
          first | refine aqs rfl (q_pickT rfl (by constructor)) rfl ?_ | refine aqs rfl (q_pickF rfl (by constructor)) rfl ?_
          refine alist_nil ?_
          show AWP _ _ _ _
          refine awp_cond rfl (fun hc12 => ?_) (fun hc12 => ?_)
          · exfalso; first | (simp at hc12; done) | (simp at hc12; omega) | contradiction
          · try simp only [decide_eq_true_eq, decide_eq_false_iff_not, Bool.not_eq_true', Bool.not_eq_false', Bool.not_eq_eq_eq_not, Bool.not_true, Bool.not_false, beq_iff_eq, beq_eq_false_iff_ne, Int.not_lt, Int.not_le] at hc12
            refine awp_skip ?_
            show AWP _ _ _ _
            refine awp_region ?_
            refine aqs rfl (q_mv (by constructor)) rfl ?_
            first | refine aqs rfl (q_add64 rfl rfl (by omega) (by omega)) rfl ?_ | refine aqs rfl (q_add rfl rfl) rfl ?_
            refine aqs rfl (q_as (by constructor)) rfl ?_
            refine alist_nil ?_
            show ∃ y, _ ∧ _ ∧ _
            exact ⟨(i + 1, u, pre, W3), ⟨by show i + 1 ≤ raw.length; omega, by show i + 1 ≤ 20; omega, hW3r⟩, by show 20 - (i + 1) < 20 - i; omega, .mk' ⟨by rfl, rfl, rfl, rfl, rfl, rfl, rfl, trivial⟩ (by repeat (first | exact List.Sublist.refl _ | exact List.nil_sublist _ | exact List.sublist_append_left _ _ | (apply List.Sublist.cons_cons) | (apply List.Sublist.cons)))⟩
      · skip
        refine awp_exit ?_
        show AWP _ _ _ _
        refine awp_seq ?_
        refine awp_region ?_
        refine aqs rfl (q_mv (by constructor)) rfl ?_
        refine aqs rfl (q_as (by constructor)) rfl ?_
        refine alist_nil ?_
        show AWP _ _ _ _
        refine awp_ret ?_
        repeat first | with_reducible refine then_ret ?_ | with_reducible refine blk_ret ?_
        apply retq (.inr rfl) (.cons (rok_t rfl) .nil)
        rotate_left
        · exact ⟨rfl, rfl⟩
        repeat (first | exact List.Sublist.refl _ | exact List.nil_sublist _ | exact List.sublist_append_left _ _ | apply List.Sublist.cons)
end Go.Proofs.YtdlinfekifnmkaaAm
