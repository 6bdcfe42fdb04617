/- The walk of LruTells. Conditions: none. -/
import Derived.Test.YtdlinfekifnmkaaAmLruAwake
set_option linter.unusedVariables false
set_option linter.unusedSimpArgs false
set_option maxRecDepth 20000
namespace Go.Proofs.YtdlinfekifnmkaaAm
open Go.Proofs
theorem getS_len (l : List Slot) (k : Key) : (getS l k).2.1.length ≤ l.length + 1 := by
  have := without_len l k
  unfold getS
  split
  · simp
  · split <;> simp; omega
theorem putS_len2 (l : List Slot) (n : Int) (s : Slot) : (putS l n s).2.1.length ≤ l.length + 1 := by
  unfold putS
  split
  · simp
  · have := without_len l s.key
    simp only [List.length_drop, List.length_cons]
    omega
set_option maxHeartbeats 8000000 in
theorem walkLruTells (a : List Slot) (b : List Int) (x : Slot) (c cap : Int) (wa : (∀ y ∈ a, y.Wf) ∧ a.length ≤ 9223372036854775807) (wb : (∀ y ∈ b, (-9223372036854775808 ≤ y ∧ y ≤ 9223372036854775807)) ∧ b.length ≤ 9223372036854775807) (wx : x.Wf) (wc : -9223372036854775808 ≤ c ∧ c ≤ 9223372036854775807) (wcap : -9223372036854775808 ≤ cap ∧ cap ≤ 9223372036854775807) :
    QCall Try.prog 8 [.ro (a.map Slot.cells), .ro (b.map cI), .agg x.cells, .lit (.int .i64 c), .lit (.int .i64 cap)] [] (.lit (.bool true)) := by
  have hlen := lenSlot a
  refine acall_intro (n := 161) (rvs := [.tmp 10]) Try.func8 rfl rfl rfl (Nat.le_of_ble_eq_true rfl) ?_
  refine awp_seq ?_
  refine awp_region ?_
  (refine aes rfl (e_bx (by constructor) rfl rfl) rfl ?_; rintro _ _ ⟨u7, rfl, rfl⟩)
  refine aqs rfl (q_as (by constructor)) rfl ?_
  refine alist_nil ?_
  show AWP _ _ _ _
  refine awp_seq ?_
  refine awp_region ?_
  first | refine aqs rfl (e_callN cb47 (awake47_c _) rfl rfl) rfl ?_ | refine aqs rfl (e_callN cb47 (ACall.arg (awake47_c _) (by repeat (first | exact ArgL.nil | (apply ArgL.cons; (· first | exact .same | exact .cro | exact .nil))))) rfl rfl) rfl ?_
  refine aqs rfl (q_as (by constructor)) rfl ?_
  refine alist_nil ?_
  show AWP _ _ _ _
  refine awp_seq ?_
  refine awp_seq ?_
  refine awp_draw 10 [(0, false), (1, false), (2, false), (3, false), (4, false), (5, false), (6, false), (7, false), (8, false), (9, false)] _ ([]) mixed (by kernel_rfl) (perm0 _) ?_
  refine glq rfl (.inl ⟨rfl, q_mv (by constructor)⟩) rfl ?_
  refine glq rfl (.inl ⟨rfl, q_mv (by constructor)⟩) rfl ?_
  first | refine glq rfl (.inl ⟨rfl, q_len Try.underlying38 .ro⟩) rfl ?_ | refine glq rfl (.inl ⟨rfl, q_lenO Try.underlying38 rfl (by repeat (first | exact .here | assumption | (apply HAt.left; assumption) | apply HAt.there | apply HAt.right)) (by first | omega | (simp; done) | (simp; omega) | fail) (by first | exact Nat.sub_zero _ | rfl)⟩) rfl ?_ | refine glq rfl (.inl ⟨rfl, q_len Try.underlying38 .nil⟩) rfl ?_ | refine glq rfl (.inl ⟨rfl, q_len Try.underlying38 .cro⟩) rfl ?_
  refine glq rfl (.inl ⟨rfl, q_min rfl rfl⟩) rfl ?_
  first | refine glq rfl (.inl ⟨rfl, castQ (r2 := .ro ((a.take (min (a.length : Int) 12).toNat).map Slot.cells)) (q_slR Try.underlying38 sz40 (.inl rfl) rfl (by first | (refine ⟨_, _, rfl, ?_⟩; with_reducible rfl) | exact bnd_int rfl (by omega)) (by first | omega | (simp; done) | (simp; omega) | fail) (by first | omega | (simp; done) | (simp; omega) | fail) (by first | rfl | assumption | (simp [*]; done) | fail)) (by simp)⟩) rfl ?_ | refine glq rfl (.inl ⟨rfl, castQ (r2 := .ro ((a.take (min (a.length : Int) 12).toNat).map Slot.cells)) (q_slO Try.underlying38 sz40 rfl (by repeat (first | exact .here | assumption | (apply HAt.left; assumption) | apply HAt.there | apply HAt.right)) rfl (by first | (refine ⟨_, _, rfl, ?_⟩; with_reducible rfl) | exact bnd_int rfl (by omega)) (by first | omega | (simp; done) | (simp; omega) | fail) (by first | omega | (simp; done) | (simp; omega) | fail) (by first | exact Nat.zero_add _ | rfl) (by first | exact Nat.zero_add _ | rfl)) (by simp)⟩) rfl ?_
  refine glq rfl (.inl ⟨rfl, q_mv (by constructor)⟩) rfl ?_
  first | refine glq rfl (.inl ⟨rfl, e_callN cb48 (list48_c b wb.1 _ _) rfl rfl⟩) rfl ?_ | refine glq rfl (.inl ⟨rfl, e_callN cb48 (ACall.arg (list48_c b wb.1 _ _) (by repeat (first | exact ArgL.nil | (apply ArgL.cons; (· first | exact .same | exact .cro | exact .nil))))) rfl rfl⟩) rfl ?_
  refine glq rfl (.inl ⟨rfl, q_bs Try.underlying42 sz38 zr38 rfl (by first | ((repeat constructor); done) | exact .same _) rfl (by decide) (by repeat (first | exact BS.nil | (apply BS.cons; (· constructor); (· rfl); (· rfl); (· rfl); (· exact (by first | ((repeat constructor); done) | exact .same _)))))⟩) rfl ?_
  first | refine glq rfl (.inl ⟨rfl, q_len Try.underlying42 .ro⟩) rfl ?_ | refine glq rfl (.inl ⟨rfl, q_lenO Try.underlying42 rfl (by repeat (first | exact .here | assumption | (apply HAt.left; assumption) | apply HAt.there | apply HAt.right)) (by first | omega | (simp; done) | (simp; omega) | fail) (by first | exact Nat.sub_zero _ | rfl)⟩) rfl ?_ | refine glq rfl (.inl ⟨rfl, q_len Try.underlying42 .nil⟩) rfl ?_ | refine glq rfl (.inl ⟨rfl, q_len Try.underlying42 .cro⟩) rfl ?_
  refine glq rfl (.inl ⟨rfl, q_mv (by constructor)⟩) rfl ?_
  (first | refine gld0 ?_ | refine gldA ?_)
  refine alist_nil ?_
  show AWP _ _ _ _
  obtain ⟨l1, hl1, e1⟩ : ∃ l : List Slot, l.length ≤ 30 ∧ l = a.take (min (a.length : Int) 12).toNat := ⟨_, by simp; omega, rfl⟩
  obtain ⟨l2, hl2, e2⟩ : ∃ l : List Slot, l.length ≤ 30 ∧ l = listS b 9 (min b.length 30) := ⟨_, by have := listS_len b 9 (min b.length 30); omega, rfl⟩
  rw [← e1, ← e2]
  show AWP _ _ _ _
  refine awp_block ?_
  refine awp_loop_inv (fun i : Nat => ⟨[(43, .lit (.int .i64 i)), (42, .lit (.int .i64 2)), (41, .cro [[.ro (l1.map Slot.cells)], [.ro (l2.map Slot.cells)]]), (7, .ptr u7 0 0), (3, .lit (.int .i64 c)), (4, .lit (.int .i64 cap)), (11, .lit (.bool true))], 161, [(u7, .arr 40 5 [x.cells])]⟩) (fun i => i ≤ 2) (fun i => 2 - i) 0 ?_ ?_ ?_
  · omega
  · exact .mk' (by repeat (first | exact trivial | refine ⟨rfl, ?_⟩)) (by repeat (first | exact .refl _ | apply List.Sublist.cons_cons | apply List.Sublist.cons))
  · intro i hi
    refine awp_seq ?_
    refine awp_region ?_
    refine aqs rfl (q_lss rfl rfl) rfl ?_
    refine alist_nil ?_
    show AWP _ _ _ _
    refine awp_seq ?_
    refine awp_cond rfl (fun hc0 => ?_) (fun hc0 => ?_)
    · simp only [decide_eq_true_eq] at hc0
      obtain ⟨l, hll, hl⟩ : ∃ l : List Slot, l.length ≤ 30 ∧ [[AV.ro (l1.map Slot.cells)], [.ro (l2.map Slot.cells)]][i]? = some [.ro (l.map Slot.cells)] := by
        match i, hc0 with
        | 0, _ => exact ⟨l1, hl1, rfl⟩
        | 1, _ => exact ⟨l2, hl2, rfl⟩
      refine awp_skip ?_
      show AWP _ _ _ _
      refine awp_seq ?_
      refine awp_block ?_
      refine awp_seq ?_
      refine awp_region ?_
      first | refine aqs rfl (q_iaN Try.underlying42 sz38 (.inl rfl) rfl (by omega) (by first | rfl | assumption | (simp [*]; done) | fail) (by first | rfl | assumption | (simp [*]; done) | fail) (by decide) (by first | ((repeat constructor); done) | exact .same _)) rfl ?_ | refine aqs rfl (q_iaS Try.underlying42 sz38 rfl (by repeat (first | exact .here | assumption | (apply HAt.left; assumption) | apply HAt.there | apply HAt.right)) rfl (by omega) (by omega) (by first | exact Nat.zero_add _ | rfl)) rfl ?_ | refine aqs rfl (q_iaN Try.underlying42 sz38 (.inr rfl) rfl (by omega) (by first | rfl | assumption | (simp [*]; done) | fail) (by first | rfl | assumption | (simp [*]; done) | fail) (by decide) (by first | ((repeat constructor); done) | exact .same _)) rfl ?_
      first | refine aqs rfl (q_ldpN ag38 rfl (by repeat (first | exact .here | assumption | (apply HAt.left; assumption) | apply HAt.there | apply HAt.right)) (by first | rfl | assumption | (simp [*]; done) | fail) (by first | rfl | assumption | (simp [*]; done) | fail) (by constructor)) rfl ?_ | refine aqs rfl (q_ld1N ag38 rfl (by constructor)) rfl ?_
      refine aqs rfl (q_as (by constructor)) rfl ?_
      refine alist_nil ?_
      show AWP _ _ _ _
      refine awp_seq ?_
      refine awp_region ?_
      refine aqs rfl (q_mv (by constructor)) rfl ?_
      first | refine aqs rfl (e_callN cb49 (keys49_c l (by omega) _) rfl rfl) rfl ?_ | refine aqs rfl (e_callN cb49 (ACall.arg (keys49_c l (by omega) _) (by repeat (first | exact ArgL.nil | (apply ArgL.cons; (· first | exact .same | exact .cro | exact .nil))))) rfl rfl) rfl ?_
      refine aqs rfl (q_as (by constructor)) rfl ?_
      refine alist_nil ?_
      show AWP _ _ _ _
      refine awp_seq ?_
      refine awp_region ?_
      refine aqs rfl (q_mv (by constructor)) rfl ?_
      first | refine aqs rfl (e_callN cb50 (keys50_c l (by omega) _) rfl rfl) rfl ?_ | refine aqs rfl (e_callN cb50 (ACall.arg (keys50_c l (by omega) _) (by repeat (first | exact ArgL.nil | (apply ArgL.cons; (· first | exact .same | exact .cro | exact .nil))))) rfl rfl) rfl ?_
      refine aqs rfl (q_as (by constructor)) rfl ?_
      refine alist_nil ?_
      show AWP _ _ _ _
      refine awp_seq ?_
      refine awp_seq ?_
      refine awp_region ?_
      refine aqs rfl (q_mv (by constructor)) rfl ?_
      first | refine aqs rfl (e_callN cb51 (right51_c l (by omega) _) rfl rfl) rfl ?_ | refine aqs rfl (e_callN cb51 (ACall.arg (right51_c l (by omega) _) (by repeat (first | exact ArgL.nil | (apply ArgL.cons; (· first | exact .same | exact .cro | exact .nil))))) rfl rfl) rfl ?_
      refine aqs rfl (q_mv (by constructor)) rfl ?_
      first | refine aqs rfl (e_callN cb52 (right52_c l (by omega) _) rfl rfl) rfl ?_ | refine aqs rfl (e_callN cb52 (ACall.arg (right52_c l (by omega) _) (by repeat (first | exact ArgL.nil | (apply ArgL.cons; (· first | exact .same | exact .cro | exact .nil))))) rfl rfl) rfl ?_
      refine aqs rfl (castF (q_bneq rfl rfl Try.underlying4) (by simp)) rfl ?_
      refine aqs rfl (q_mv (by constructor)) rfl ?_
      first | refine ans rfl rfl ?_ | refine aqs rfl (q_mv (by constructor)) rfl ?_
      first | refine ans rfl rfl ?_ | refine aqs rfl (q_len Try.underlying43 .ro) rfl ?_ | refine aqs rfl (q_lenO Try.underlying43 rfl (by repeat (first | exact .here | assumption | (apply HAt.left; assumption) | apply HAt.there | apply HAt.right)) (by first | omega | (simp; done) | (simp; omega) | fail) (by first | exact Nat.sub_zero _ | rfl)) rfl ?_ | refine aqs rfl (q_len Try.underlying43 .nil) rfl ?_ | refine aqs rfl (q_len Try.underlying43 .cro) rfl ?_
      first | refine ans rfl rfl ?_ | refine aqs rfl (q_mv (by constructor)) rfl ?_
      first | refine ans rfl rfl ?_ | refine aqs rfl (q_len Try.underlying43 .ro) rfl ?_ | refine aqs rfl (q_lenO Try.underlying43 rfl (by repeat (first | exact .here | assumption | (apply HAt.left; assumption) | apply HAt.there | apply HAt.right)) (by first | omega | (simp; done) | (simp; omega) | fail) (by first | exact Nat.sub_zero _ | rfl)) rfl ?_ | refine aqs rfl (q_len Try.underlying43 .nil) rfl ?_ | refine aqs rfl (q_len Try.underlying43 .cro) rfl ?_
      first | refine ans rfl rfl ?_ | refine aqs rfl (castF (q_neq rfl rfl) (by simp)) rfl ?_
      first | refine aqs rfl (q_pickT rfl (by constructor)) rfl ?_ | refine aqs rfl (q_pickF rfl (by constructor)) rfl ?_
      refine alist_nil ?_
      show AWP _ _ _ _
      refine awp_cond rfl (fun hc1 => ?_) (fun hc1 => ?_)
      · exfalso; first | (simp at hc1; done) | (simp at hc1; omega) | contradiction
      · try simp only [decide_eq_true_eq, decide_eq_false_iff_not, Bool.not_eq_true', Bool.not_eq_false', Bool.not_eq_eq_eq_not, Bool.not_true, Bool.not_false, beq_iff_eq, beq_eq_false_iff_ne, Int.not_lt, Int.not_le] at hc1
        refine awp_skip ?_
        show AWP _ _ _ _
        refine awp_seq ?_
        refine awp_seq ?_
        refine awp_region ?_
        refine aqs rfl (q_as (by constructor)) rfl ?_
        refine alist_nil ?_
        show AWP _ _ _ _
        refine awp_block ?_
        refine awp_loop_inv (fun j : Nat => ⟨[(16, .lit (.int .i64 j)), (14, .ro ((keysOf l).map Key.cells)), (15, .ro ((keysOf l).map Key.cells)), (13, .ro (l.map Slot.cells)), (43, .lit (.int .i64 i)), (42, .lit (.int .i64 2)), (41, .cro [[.ro (l1.map Slot.cells)], [.ro (l2.map Slot.cells)]]), (7, .ptr u7 0 0), (3, .lit (.int .i64 c)), (4, .lit (.int .i64 cap)), (11, .lit (.bool true))], 161, [(u7, .arr 40 5 [x.cells])]⟩) (fun j => j ≤ (keysOf l).length) (fun j => (keysOf l).length - j) 0 ?_ ?_ ?_
        · omega
        · exact .mk' (by repeat (first | exact trivial | refine ⟨rfl, ?_⟩)) (by repeat (first | exact .refl _ | apply List.Sublist.cons_cons | apply List.Sublist.cons))
        · intro j hj
          have hkl : (keysOf l).length ≤ 30 := by simp [keysOf]; exact hll
          refine awp_seq ?_
          refine awp_seq ?_
          refine awp_region ?_
          refine aqs rfl (q_mv (by constructor)) rfl ?_
          refine aqs rfl (q_mv (by constructor)) rfl ?_
          first | refine aqs rfl (q_len Try.underlying43 .ro) rfl ?_ | refine aqs rfl (q_lenO Try.underlying43 rfl (by repeat (first | exact .here | assumption | (apply HAt.left; assumption) | apply HAt.there | apply HAt.right)) (by first | omega | (simp; done) | (simp; omega) | fail) (by first | exact Nat.sub_zero _ | rfl)) rfl ?_ | refine aqs rfl (q_len Try.underlying43 .nil) rfl ?_ | refine aqs rfl (q_len Try.underlying43 .cro) rfl ?_
          refine aqs rfl (q_lss rfl rfl) rfl ?_
          refine alist_nil ?_
          show AWP _ _ _ _
          refine awp_cond rfl (fun hc2 => ?_) (fun hc2 => ?_)
          · simp only [decide_eq_true_eq, List.length_map] at hc2
            obtain ⟨k, hk, hkm⟩ := get_lt (l := keysOf l) (i := j) (by omega)
            have hk2 := get_map (f := Key.cells) hk
            refine awp_skip ?_
            show AWP _ _ _ _
            refine awp_seq ?_
            refine awp_block ?_
            refine awp_seq ?_
            refine awp_draw 9 [(0, false), (1, false), (2, false), (3, false), (4, false), (5, false), (6, false), (7, false), (8, false)] _ ([]) mixed (by kernel_rfl) (perm0 _) ?_
            refine glq rfl (.inl ⟨rfl, q_mv (by constructor)⟩) rfl ?_
            refine glq rfl (.inl ⟨rfl, q_mv (by constructor)⟩) rfl ?_
            first | refine glq rfl (.inl ⟨rfl, q_iaN Try.underlying43 sz29 (.inl rfl) rfl (by omega) (by first | rfl | assumption | (simp [*]; done) | fail) (by first | rfl | assumption | (simp [*]; done) | fail) (by decide) (by first | ((repeat constructor); done) | exact .same _)⟩) rfl ?_ | refine glq rfl (.inl ⟨rfl, q_iaS Try.underlying43 sz29 rfl (by repeat (first | exact .here | assumption | (apply HAt.left; assumption) | apply HAt.there | apply HAt.right)) rfl (by omega) (by omega) (by first | exact Nat.zero_add _ | rfl)⟩) rfl ?_ | refine glq rfl (.inl ⟨rfl, q_iaN Try.underlying43 sz29 (.inr rfl) rfl (by omega) (by first | rfl | assumption | (simp [*]; done) | fail) (by first | rfl | assumption | (simp [*]; done) | fail) (by decide) (by first | ((repeat constructor); done) | exact .same _)⟩) rfl ?_
            first | refine glq rfl (.inl ⟨rfl, q_ldpW ag29 sz29 rfl (by repeat (first | exact .here | assumption | (apply HAt.left; assumption) | apply HAt.there | apply HAt.right)) (by first | rfl | assumption | (simp [*]; done) | fail) (by first | rfl | assumption | (simp [*]; done) | fail) (by decide)⟩) rfl ?_ | refine glq rfl (.inl ⟨rfl, q_ldW ag29 sz29 rfl (by first | rfl | assumption | (simp [*]; done) | fail)⟩) rfl ?_ | refine glq rfl (.inl ⟨rfl, q_ldpP ag29 sz29 rfl (by repeat (first | exact .here | assumption | (apply HAt.left; assumption) | apply HAt.there | apply HAt.right)) (by first | rfl | assumption | (simp [*]; done) | fail) (by first | decide | (simp; done) | omega | fail) (by decide) (by first | ((repeat constructor); done) | exact .same _)⟩) rfl ?_ | refine glq rfl (.inl ⟨rfl, q_ldP ag29 sz29 rfl (by first | decide | (simp; done) | omega | fail) (by first | ((repeat constructor); done) | exact .same _)⟩) rfl ?_
            refine glq rfl (.inl ⟨rfl, q_mv (by constructor)⟩) rfl ?_
            refine glq rfl (.inl ⟨rfl, q_mv (by constructor)⟩) rfl ?_
            first | refine glq rfl (.inl ⟨rfl, q_iaN Try.underlying43 sz29 (.inl rfl) rfl (by omega) (by first | rfl | assumption | (simp [*]; done) | fail) (by first | rfl | assumption | (simp [*]; done) | fail) (by decide) (by first | ((repeat constructor); done) | exact .same _)⟩) rfl ?_ | refine glq rfl (.inl ⟨rfl, q_iaS Try.underlying43 sz29 rfl (by repeat (first | exact .here | assumption | (apply HAt.left; assumption) | apply HAt.there | apply HAt.right)) rfl (by omega) (by omega) (by first | exact Nat.zero_add _ | rfl)⟩) rfl ?_ | refine glq rfl (.inl ⟨rfl, q_iaN Try.underlying43 sz29 (.inr rfl) rfl (by omega) (by first | rfl | assumption | (simp [*]; done) | fail) (by first | rfl | assumption | (simp [*]; done) | fail) (by decide) (by first | ((repeat constructor); done) | exact .same _)⟩) rfl ?_
            first | refine glq rfl (.inl ⟨rfl, q_ldpW ag29 sz29 rfl (by repeat (first | exact .here | assumption | (apply HAt.left; assumption) | apply HAt.there | apply HAt.right)) (by first | rfl | assumption | (simp [*]; done) | fail) (by first | rfl | assumption | (simp [*]; done) | fail) (by decide)⟩) rfl ?_ | refine glq rfl (.inl ⟨rfl, q_ldW ag29 sz29 rfl (by first | rfl | assumption | (simp [*]; done) | fail)⟩) rfl ?_ | refine glq rfl (.inl ⟨rfl, q_ldpP ag29 sz29 rfl (by repeat (first | exact .here | assumption | (apply HAt.left; assumption) | apply HAt.there | apply HAt.right)) (by first | rfl | assumption | (simp [*]; done) | fail) (by first | decide | (simp; done) | omega | fail) (by decide) (by first | ((repeat constructor); done) | exact .same _)⟩) rfl ?_ | refine glq rfl (.inl ⟨rfl, q_ldP ag29 sz29 rfl (by first | decide | (simp; done) | omega | fail) (by first | ((repeat constructor); done) | exact .same _)⟩) rfl ?_
            refine glq rfl (.inl ⟨rfl, castF (q_neqA gd29 rfl rfl (by repeat constructor) (by repeat constructor) (fun w => eq29 w)) (by simp)⟩) rfl ?_
            (first | refine gld0 ?_ | refine gldA ?_)
            refine alist_nil ?_
            show AWP _ _ _ _
            refine awp_cond rfl (fun hc3 => ?_) (fun hc3 => ?_)
            · exfalso; first | (simp at hc3; done) | (simp at hc3; omega) | contradiction
            · try simp only [decide_eq_true_eq, decide_eq_false_iff_not, Bool.not_eq_true', Bool.not_eq_false', Bool.not_eq_eq_eq_not, Bool.not_true, Bool.not_false, beq_iff_eq, beq_eq_false_iff_ne, Int.not_lt, Int.not_le] at hc3
              refine awp_skip ?_
              show AWP _ _ _ _
              refine awp_region ?_
              refine aqs rfl (q_mv (by constructor)) rfl ?_
              first | refine aqs rfl (q_add64 rfl rfl (by omega) (by omega)) rfl ?_ | refine aqs rfl (q_add rfl rfl) rfl ?_
              refine aqs rfl (q_as (by constructor)) rfl ?_
              refine alist_nil ?_
              show ∃ y, _ ∧ _ ∧ _
              exact ⟨j + 1, by omega, by omega, .mk' ⟨by rfl, rfl, rfl, rfl, rfl, rfl, rfl, rfl, rfl, rfl, rfl, trivial⟩ (.refl _)⟩
          · skip
            refine awp_exit ?_
            show AWP _ _ _ _
            refine awp_seq ?_
            refine awp_draw 6 [(0, false), (1, false), (2, false), (3, false), (4, false), (5, false)] _ ([]) mixed (by kernel_rfl) (perm0 _) ?_
            first | refine glq rfl (.inl ⟨rfl, q_ldpW ag40 sz40 rfl (by repeat (first | exact .here | assumption | (apply HAt.left; assumption) | apply HAt.there | apply HAt.right)) (by first | rfl | assumption | (simp [*]; done) | fail) (by first | rfl | assumption | (simp [*]; done) | fail) (by decide)⟩) rfl ?_ | refine glq rfl (.inl ⟨rfl, q_ldW ag40 sz40 rfl (by first | rfl | assumption | (simp [*]; done) | fail)⟩) rfl ?_ | refine glq rfl (.inl ⟨rfl, q_ldpP ag40 sz40 rfl (by repeat (first | exact .here | assumption | (apply HAt.left; assumption) | apply HAt.there | apply HAt.right)) (by first | rfl | assumption | (simp [*]; done) | fail) (by first | decide | (simp; done) | omega | fail) (by decide) (by first | ((repeat constructor); done) | exact .same _)⟩) rfl ?_ | refine glq rfl (.inl ⟨rfl, q_ldP ag40 sz40 rfl (by first | decide | (simp; done) | omega | fail) (by first | ((repeat constructor); done) | exact .same _)⟩) rfl ?_
            refine glq rfl (.inl ⟨rfl, q_mv (by constructor)⟩) rfl ?_
            first | refine glq rfl (.inl ⟨rfl, e_callN cb53 (slot53_c _ _ wc.1 wc.2 _) rfl rfl⟩) rfl ?_ | refine glq rfl (.inl ⟨rfl, e_callN cb53 (ACall.arg (slot53_c _ _ wc.1 wc.2 _) (by repeat (first | exact ArgL.nil | (apply ArgL.cons; (· first | exact .same | exact .cro | exact .nil))))) rfl rfl⟩) rfl ?_
            refine glq rfl (.inl ⟨rfl, q_bs Try.underlying38 sz40 zr40 rfl (by first | ((repeat constructor); done) | exact .same _) rfl (by decide) (by repeat (first | exact BS.nil | (apply BS.cons; (· constructor); (· rfl); (· rfl); (· rfl); (· exact (by first | ((repeat constructor); done) | exact .same _)))))⟩) rfl ?_
            first | refine glq rfl (.inl ⟨rfl, q_len Try.underlying38 .ro⟩) rfl ?_ | refine glq rfl (.inl ⟨rfl, q_lenO Try.underlying38 rfl (by repeat (first | exact .here | assumption | (apply HAt.left; assumption) | apply HAt.there | apply HAt.right)) (by first | omega | (simp; done) | (simp; omega) | fail) (by first | exact Nat.sub_zero _ | rfl)⟩) rfl ?_ | refine glq rfl (.inl ⟨rfl, q_len Try.underlying38 .nil⟩) rfl ?_ | refine glq rfl (.inl ⟨rfl, q_len Try.underlying38 .cro⟩) rfl ?_
            refine glq rfl (.inl ⟨rfl, q_mv (by constructor)⟩) rfl ?_
            (first | refine gld0 ?_ | refine gldA ?_)
            refine alist_nil ?_
            show AWP _ _ _ _
            refine awp_block ?_
            refine awp_loop_inv (fun m : Nat => ⟨[(83, .lit (.int .i64 m)), (82, .lit (.int .i64 2)), (81, .cro [x.cells, (slotOf c ⟨#[120]⟩).cells]), (13, .ro (l.map Slot.cells)), (43, .lit (.int .i64 i)), (42, .lit (.int .i64 2)), (41, .cro [[.ro (l1.map Slot.cells)], [.ro (l2.map Slot.cells)]]), (7, .ptr u7 0 0), (3, .lit (.int .i64 c)), (4, .lit (.int .i64 cap)), (11, .lit (.bool true))], 161, [(u7, .arr 40 5 [x.cells])]⟩) (fun m => m ≤ 2) (fun m => 2 - m) 0 ?_ ?_ ?_
            · omega
            · exact .mk' (by repeat (first | exact trivial | refine ⟨rfl, ?_⟩)) (by repeat (first | exact .refl _ | apply List.Sublist.cons_cons | apply List.Sublist.cons))
            · intro m hm
              refine awp_seq ?_
              refine awp_region ?_
              refine aqs rfl (q_lss rfl rfl) rfl ?_
              refine alist_nil ?_
              show AWP _ _ _ _
              refine awp_seq ?_
              refine awp_cond rfl (fun hc4 => ?_) (fun hc4 => ?_)
              · simp only [decide_eq_true_eq] at hc4
                obtain ⟨s, hs⟩ : ∃ s : Slot, [x.cells, (slotOf c ⟨#[120]⟩).cells][m]? = some s.cells := by
                  match m, hc4 with
                  | 0, _ => exact ⟨x, rfl⟩
                  | 1, _ => exact ⟨slotOf c ⟨#[120]⟩, rfl⟩
                have hg := getS_len l s.key
                refine awp_skip ?_
                show AWP _ _ _ _
                refine awp_seq ?_
                refine awp_block ?_
                refine awp_seq ?_
                refine awp_region ?_
                first | refine aqs rfl (q_iaN Try.underlying38 sz40 (.inl rfl) rfl (by omega) (by first | rfl | assumption | (simp [*]; done) | fail) (by first | rfl | assumption | (simp [*]; done) | fail) (by decide) (by first | ((repeat constructor); done) | exact .same _)) rfl ?_ | refine aqs rfl (q_iaS Try.underlying38 sz40 rfl (by repeat (first | exact .here | assumption | (apply HAt.left; assumption) | apply HAt.there | apply HAt.right)) rfl (by omega) (by omega) (by first | exact Nat.zero_add _ | rfl)) rfl ?_ | refine aqs rfl (q_iaN Try.underlying38 sz40 (.inr rfl) rfl (by omega) (by first | rfl | assumption | (simp [*]; done) | fail) (by first | rfl | assumption | (simp [*]; done) | fail) (by decide) (by first | ((repeat constructor); done) | exact .same _)) rfl ?_
                first | refine aqs rfl (q_ldpW ag40 sz40 rfl (by repeat (first | exact .here | assumption | (apply HAt.left; assumption) | apply HAt.there | apply HAt.right)) (by first | rfl | assumption | (simp [*]; done) | fail) (by first | rfl | assumption | (simp [*]; done) | fail) (by decide)) rfl ?_ | refine aqs rfl (q_ldW ag40 sz40 rfl (by first | rfl | assumption | (simp [*]; done) | fail)) rfl ?_ | refine aqs rfl (q_ldpP ag40 sz40 rfl (by repeat (first | exact .here | assumption | (apply HAt.left; assumption) | apply HAt.there | apply HAt.right)) (by first | rfl | assumption | (simp [*]; done) | fail) (by first | decide | (simp; done) | omega | fail) (by decide) (by first | ((repeat constructor); done) | exact .same _)) rfl ?_ | refine aqs rfl (q_ldP ag40 sz40 rfl (by first | decide | (simp; done) | omega | fail) (by first | ((repeat constructor); done) | exact .same _)) rfl ?_
                (refine aes rfl (e_al (xs := [.lit (.int .u64 0), .lit (.int .i64 0), .lit (.string ⟨#[]⟩), .lit (.string ⟨#[]⟩), .lit (.string ⟨#[]⟩)]) (k := 5) zr40 (.same _) rfl) rfl ?_; rintro _ _ ⟨u18, rfl, rfl⟩)
                first | (refine aen rfl (e_stW sz40 rfl (by repeat (first | exact .here | assumption | (apply HAt.left; assumption) | apply HAt.there | apply HAt.right)) (by constructor) (by first | rfl | assumption | (simp [*]; done) | fail) rfl (by repeat (first | exact .here | apply HSet.there))) ?_; rintro _ _ ⟨rfl, rfl⟩) | (refine aen rfl (e_stP sz40 rfl (by repeat (first | exact .here | assumption | (apply HAt.left; assumption) | apply HAt.there | apply HAt.right)) (by first | rfl | assumption | (simp [*]; done) | fail) (by constructor) (by first | rfl | assumption | (simp [*]; done) | fail) rfl (by first | decide | omega) (by first | ((repeat constructor); done) | exact .same _) (by first | exact .one | exact .set) (by repeat (first | exact .here | apply HSet.there))) ?_; rintro _ _ ⟨rfl, rfl⟩)
                refine alist_nil ?_
                show AWP _ _ _ _
                refine awp_seq ?_
                refine awp_region ?_
                refine aqs rfl (q_mv (by constructor)) rfl ?_
                first | refine aqs rfl (q_fapP fl40_0 (by decide) rfl rfl) rfl ?_ | refine aqs rfl (q_faP fl40_0 (by decide) rfl (by first | ((repeat constructor); done) | exact .same _)) rfl ?_
                first | refine aqs rfl (q_ldpW ag29 sz29 rfl (by repeat (first | exact .here | assumption | (apply HAt.left; assumption) | apply HAt.there | apply HAt.right)) (by first | rfl | assumption | (simp [*]; done) | fail) (by first | rfl | assumption | (simp [*]; done) | fail) (by decide)) rfl ?_ | refine aqs rfl (q_ldW ag29 sz29 rfl (by first | rfl | assumption | (simp [*]; done) | fail)) rfl ?_ | refine aqs rfl (q_ldpP ag29 sz29 rfl (by repeat (first | exact .here | assumption | (apply HAt.left; assumption) | apply HAt.there | apply HAt.right)) (by first | rfl | assumption | (simp [*]; done) | fail) (by first | decide | (simp; done) | omega | fail) (by decide) (by first | ((repeat constructor); done) | exact .same _)) rfl ?_ | refine aqs rfl (q_ldP ag29 sz29 rfl (by first | decide | (simp; done) | omega | fail) (by first | ((repeat constructor); done) | exact .same _)) rfl ?_
                first | refine aqs rfl (e_callN cb54 (get54_c l (by omega) s.key _) rfl rfl) rfl ?_ | refine aqs rfl (e_callN cb54 (ACall.arg (get54_c l (by omega) s.key _) (by repeat (first | exact ArgL.nil | (apply ArgL.cons; (· first | exact .same | exact .cro | exact .nil))))) rfl rfl) rfl ?_
                refine aqs rfl (q_mv (by constructor)) rfl ?_
                refine aqs rfl (q_ex rfl rfl (by constructor)) rfl ?_
                refine aqs rfl (q_ex rfl rfl (by constructor)) rfl ?_
                refine aqs rfl (q_ex rfl rfl (by constructor)) rfl ?_
                (refine aes rfl (e_al (xs := [.lit (.int .u64 0), .lit (.int .i64 0), .lit (.string ⟨#[]⟩), .lit (.string ⟨#[]⟩), .lit (.string ⟨#[]⟩)]) (k := 5) zr40 (.same _) rfl) rfl ?_; rintro _ _ ⟨u19, rfl, rfl⟩)
                first | (refine aen rfl (e_stW sz40 rfl (by repeat (first | exact .here | assumption | (apply HAt.left; assumption) | apply HAt.there | apply HAt.right)) (by constructor) (by first | rfl | assumption | (simp [*]; done) | fail) rfl (by repeat (first | exact .here | apply HSet.there))) ?_; rintro _ _ ⟨rfl, rfl⟩) | (refine aen rfl (e_stP sz40 rfl (by repeat (first | exact .here | assumption | (apply HAt.left; assumption) | apply HAt.there | apply HAt.right)) (by first | rfl | assumption | (simp [*]; done) | fail) (by constructor) (by first | rfl | assumption | (simp [*]; done) | fail) rfl (by first | decide | omega) (by first | ((repeat constructor); done) | exact .same _) (by first | exact .one | exact .set) (by repeat (first | exact .here | apply HSet.there))) ?_; rintro _ _ ⟨rfl, rfl⟩)
                refine aqs rfl (q_as (by constructor)) rfl ?_
                refine aqs rfl (q_as (by constructor)) rfl ?_
                refine alist_nil ?_
                show AWP _ _ _ _
                refine awp_seq ?_
                refine awp_region ?_
                refine aqs rfl (q_mv (by constructor)) rfl ?_
                first | refine aqs rfl (q_fapP fl40_0 (by decide) rfl rfl) rfl ?_ | refine aqs rfl (q_faP fl40_0 (by decide) rfl (by first | ((repeat constructor); done) | exact .same _)) rfl ?_
                first | refine aqs rfl (q_ldpW ag29 sz29 rfl (by repeat (first | exact .here | assumption | (apply HAt.left; assumption) | apply HAt.there | apply HAt.right)) (by first | rfl | assumption | (simp [*]; done) | fail) (by first | rfl | assumption | (simp [*]; done) | fail) (by decide)) rfl ?_ | refine aqs rfl (q_ldW ag29 sz29 rfl (by first | rfl | assumption | (simp [*]; done) | fail)) rfl ?_ | refine aqs rfl (q_ldpP ag29 sz29 rfl (by repeat (first | exact .here | assumption | (apply HAt.left; assumption) | apply HAt.there | apply HAt.right)) (by first | rfl | assumption | (simp [*]; done) | fail) (by first | decide | (simp; done) | omega | fail) (by decide) (by first | ((repeat constructor); done) | exact .same _)) rfl ?_ | refine aqs rfl (q_ldP ag29 sz29 rfl (by first | decide | (simp; done) | omega | fail) (by first | ((repeat constructor); done) | exact .same _)) rfl ?_
                first | refine aqs rfl (e_callN cb55 (get55_c l (by omega) s.key _) rfl rfl) rfl ?_ | refine aqs rfl (e_callN cb55 (ACall.arg (get55_c l (by omega) s.key _) (by repeat (first | exact ArgL.nil | (apply ArgL.cons; (· first | exact .same | exact .cro | exact .nil))))) rfl rfl) rfl ?_
                refine aqs rfl (q_mv (by constructor)) rfl ?_
                refine aqs rfl (q_ex rfl rfl (by constructor)) rfl ?_
                refine aqs rfl (q_ex rfl rfl (by constructor)) rfl ?_
                refine aqs rfl (q_ex rfl rfl (by constructor)) rfl ?_
                (refine aes rfl (e_al (xs := [.lit (.int .u64 0), .lit (.int .i64 0), .lit (.string ⟨#[]⟩), .lit (.string ⟨#[]⟩), .lit (.string ⟨#[]⟩)]) (k := 5) zr40 (.same _) rfl) rfl ?_; rintro _ _ ⟨u22, rfl, rfl⟩)
                first | (refine aen rfl (e_stW sz40 rfl (by repeat (first | exact .here | assumption | (apply HAt.left; assumption) | apply HAt.there | apply HAt.right)) (by constructor) (by first | rfl | assumption | (simp [*]; done) | fail) rfl (by repeat (first | exact .here | apply HSet.there))) ?_; rintro _ _ ⟨rfl, rfl⟩) | (refine aen rfl (e_stP sz40 rfl (by repeat (first | exact .here | assumption | (apply HAt.left; assumption) | apply HAt.there | apply HAt.right)) (by first | rfl | assumption | (simp [*]; done) | fail) (by constructor) (by first | rfl | assumption | (simp [*]; done) | fail) rfl (by first | decide | omega) (by first | ((repeat constructor); done) | exact .same _) (by first | exact .one | exact .set) (by repeat (first | exact .here | apply HSet.there))) ?_; rintro _ _ ⟨rfl, rfl⟩)
                refine aqs rfl (q_as (by constructor)) rfl ?_
                refine aqs rfl (q_as (by constructor)) rfl ?_
                refine alist_nil ?_
                show AWP _ _ _ _
                refine awp_seq ?_
                refine awp_seq ?_
                refine awp_region ?_
                first | refine aqs rfl (q_ldpW ag40 sz40 rfl (by repeat (first | exact .here | assumption | (apply HAt.left; assumption) | apply HAt.there | apply HAt.right)) (by first | rfl | assumption | (simp [*]; done) | fail) (by first | rfl | assumption | (simp [*]; done) | fail) (by decide)) rfl ?_ | refine aqs rfl (q_ldW ag40 sz40 rfl (by first | rfl | assumption | (simp [*]; done) | fail)) rfl ?_ | refine aqs rfl (q_ldpP ag40 sz40 rfl (by repeat (first | exact .here | assumption | (apply HAt.left; assumption) | apply HAt.there | apply HAt.right)) (by first | rfl | assumption | (simp [*]; done) | fail) (by first | decide | (simp; done) | omega | fail) (by decide) (by first | ((repeat constructor); done) | exact .same _)) rfl ?_ | refine aqs rfl (q_ldP ag40 sz40 rfl (by first | decide | (simp; done) | omega | fail) (by first | ((repeat constructor); done) | exact .same _)) rfl ?_
                first | refine aqs rfl (q_ldpW ag40 sz40 rfl (by repeat (first | exact .here | assumption | (apply HAt.left; assumption) | apply HAt.there | apply HAt.right)) (by first | rfl | assumption | (simp [*]; done) | fail) (by first | rfl | assumption | (simp [*]; done) | fail) (by decide)) rfl ?_ | refine aqs rfl (q_ldW ag40 sz40 rfl (by first | rfl | assumption | (simp [*]; done) | fail)) rfl ?_ | refine aqs rfl (q_ldpP ag40 sz40 rfl (by repeat (first | exact .here | assumption | (apply HAt.left; assumption) | apply HAt.there | apply HAt.right)) (by first | rfl | assumption | (simp [*]; done) | fail) (by first | decide | (simp; done) | omega | fail) (by decide) (by first | ((repeat constructor); done) | exact .same _)) rfl ?_ | refine aqs rfl (q_ldP ag40 sz40 rfl (by first | decide | (simp; done) | omega | fail) (by first | ((repeat constructor); done) | exact .same _)) rfl ?_
                refine aqs rfl (castF (q_neqA gd40 rfl rfl (by repeat constructor) (by repeat constructor) (fun w => eq40 w)) (by rw [seq_]; simp)) rfl ?_
                refine aqs rfl (q_mv (by constructor)) rfl ?_
                first | refine ans rfl rfl ?_ | refine aqs rfl (q_mv (by constructor)) rfl ?_
                first | refine ans rfl rfl ?_ | refine aqs rfl (q_mv (by constructor)) rfl ?_
                first | refine ans rfl rfl ?_ | refine aqs rfl (castF (q_neq rfl rfl) (by simp)) rfl ?_
                first | refine aqs rfl (q_pickT rfl (by constructor)) rfl ?_ | refine aqs rfl (q_pickF rfl (by constructor)) rfl ?_
                refine aqs rfl (q_mv (by constructor)) rfl ?_
                first | refine ans rfl rfl ?_ | refine aqs rfl (q_mv (by constructor)) rfl ?_
                first | refine ans rfl rfl ?_ | refine aqs rfl (q_mv (by constructor)) rfl ?_
                first | refine aqs rfl (castT (e_callN cb56 (same56_c _ _ (by omega) (by omega) _) rfl rfl) (by simp)) rfl ?_ | refine aqs rfl (castT (e_callN cb56 (ACall.arg (same56_c _ _ (by omega) (by omega) _) (by repeat (first | exact ArgL.nil | (apply ArgL.cons; (· first | exact .same | exact .cro | exact .nil))))) rfl rfl) (by simp)) rfl ?_
                first | refine ans rfl rfl ?_ | refine aqs rfl (q_not rfl) rfl ?_
                first | refine aqs rfl (q_pickT rfl (by constructor)) rfl ?_ | refine aqs rfl (q_pickF rfl (by constructor)) rfl ?_
                refine alist_nil ?_
                show AWP _ _ _ _
                refine awp_cond rfl (fun hc5 => ?_) (fun hc5 => ?_)
                · exfalso; first | (simp at hc5; done) | (simp at hc5; omega) | contradiction
                · try simp only [decide_eq_true_eq, decide_eq_false_iff_not, Bool.not_eq_true', Bool.not_eq_false', Bool.not_eq_eq_eq_not, Bool.not_true, Bool.not_false, beq_iff_eq, beq_eq_false_iff_ne, Int.not_lt, Int.not_le] at hc5
                  refine awp_skip ?_
                  show AWP _ _ _ _
                  refine awp_seq ?_
                  refine awp_region ?_
                  refine aqs rfl (q_mv (by constructor)) rfl ?_
                  refine aqs rfl (q_mv (by constructor)) rfl ?_
                  first | refine aqs rfl (e_callN cb57 (pick57_c _ _ wcap.1 wcap.2 (by omega) _) rfl rfl) rfl ?_ | refine aqs rfl (e_callN cb57 (ACall.arg (pick57_c _ _ wcap.1 wcap.2 (by omega) _) (by repeat (first | exact ArgL.nil | (apply ArgL.cons; (· first | exact .same | exact .cro | exact .nil))))) rfl rfl) rfl ?_
                  first | refine aqs rfl (q_bs Try.underlying25 sz3 zr3 rfl (by first | ((repeat constructor); done) | exact .same _) rfl (by decide) (by repeat (first | exact BS.nil | (apply BS.cons; (· constructor); (· rfl); (· rfl); (· rfl); (· exact (by first | ((repeat constructor); done) | exact .same _)))))) rfl ?_ | (refine aes rfl (e_bs Try.underlying25 sz3 zr3 rfl (by first | ((repeat constructor); done) | exact .same _) rfl (by decide) (by repeat (first | exact BS.nil | (apply BS.cons; (· constructor); (· rfl); (· rfl); (· rfl); (· exact (by first | ((repeat constructor); done) | exact .same _)))))) rfl ?_; rintro _ _ ⟨u120, rfl, rfl⟩)
                  first | refine aqs rfl (q_len Try.underlying25 .ro) rfl ?_ | refine aqs rfl (q_lenO Try.underlying25 rfl (by repeat (first | exact .here | assumption | (apply HAt.left; assumption) | apply HAt.there | apply HAt.right)) (by first | omega | (simp; done) | (simp; omega) | fail) (by first | exact Nat.sub_zero _ | rfl)) rfl ?_ | refine aqs rfl (q_len Try.underlying25 .nil) rfl ?_ | refine aqs rfl (q_len Try.underlying25 .cro) rfl ?_
                  refine aqs rfl (q_mv (by constructor)) rfl ?_
                  refine alist_nil ?_
                  show AWP _ _ _ _
                  refine awp_block ?_
                  refine awp_loop_inv (fun n : Nat => ⟨[(122, .lit (.int .i64 n)), (121, .lit (.int .i64 2)), (120, .cro [[.lit (.int .i64 cap)], [.lit (.int .i64 (pick cap 10))]]), (18, .ptr u18 0 0), (83, .lit (.int .i64 m)), (82, .lit (.int .i64 2)), (81, .cro [x.cells, (slotOf c ⟨#[120]⟩).cells]), (13, .ro (l.map Slot.cells)), (43, .lit (.int .i64 i)), (42, .lit (.int .i64 2)), (41, .cro [[.ro (l1.map Slot.cells)], [.ro (l2.map Slot.cells)]]), (7, .ptr u7 0 0), (3, .lit (.int .i64 c)), (4, .lit (.int .i64 cap)), (11, .lit (.bool true))], 161, [(u18, .arr 40 5 [s.cells]), (u7, .arr 40 5 [x.cells])]⟩) (fun n => n ≤ 2) (fun n => 2 - n) 0 ?_ ?_ ?_
                  · omega
                  · exact .mk' (by repeat (first | exact trivial | refine ⟨rfl, ?_⟩)) (by repeat (first | exact .refl _ | apply List.Sublist.cons_cons | apply List.Sublist.cons))
                  · intro n hn
                    refine awp_seq ?_
                    refine awp_region ?_
                    refine aqs rfl (q_lss rfl rfl) rfl ?_
                    refine alist_nil ?_
                    show AWP _ _ _ _
                    refine awp_seq ?_
                    refine awp_cond rfl (fun hc6 => ?_) (fun hc6 => ?_)
                    · simp only [decide_eq_true_eq] at hc6
                      obtain ⟨w, hw⟩ : ∃ w : Int, [[AV.lit (.int .i64 cap)], [.lit (.int .i64 (pick cap 10))]][n]? = some [.lit (.int .i64 w)] := by
                        match n, hc6 with
                        | 0, _ => exact ⟨_, rfl⟩
                        | 1, _ => exact ⟨_, rfl⟩
                      have hp1 := putS_len l w s
                      have hp2 := putS_len2 l w s
                      refine awp_skip ?_
                      show AWP _ _ _ _
                      refine awp_seq ?_
                      refine awp_block ?_
                      refine awp_seq ?_
                      refine awp_region ?_
                      first | refine aqs rfl (q_iaN Try.underlying25 sz3 (.inl rfl) rfl (by omega) (by first | rfl | assumption | (simp [*]; done) | fail) (by first | rfl | assumption | (simp [*]; done) | fail) (by decide) (by first | ((repeat constructor); done) | exact .same _)) rfl ?_ | refine aqs rfl (q_iaS Try.underlying25 sz3 rfl (by repeat (first | exact .here | assumption | (apply HAt.left; assumption) | apply HAt.there | apply HAt.right)) rfl (by omega) (by omega) (by first | exact Nat.zero_add _ | rfl)) rfl ?_ | refine aqs rfl (q_iaN Try.underlying25 sz3 (.inr rfl) rfl (by omega) (by first | rfl | assumption | (simp [*]; done) | fail) (by first | rfl | assumption | (simp [*]; done) | fail) (by decide) (by first | ((repeat constructor); done) | exact .same _)) rfl ?_
                      first | refine aqs rfl (q_ldpN ag3 rfl (by repeat (first | exact .here | assumption | (apply HAt.left; assumption) | apply HAt.there | apply HAt.right)) (by first | rfl | assumption | (simp [*]; done) | fail) (by first | rfl | assumption | (simp [*]; done) | fail) (by constructor)) rfl ?_ | refine aqs rfl (q_ld1N ag3 rfl (by constructor)) rfl ?_
                      refine aqs rfl (q_as (by constructor)) rfl ?_
                      refine alist_nil ?_
                      show AWP _ _ _ _
                      refine awp_seq ?_
                      refine awp_region ?_
                      refine aqs rfl (q_mv (by constructor)) rfl ?_
                      refine aqs rfl (q_mv (by constructor)) rfl ?_
                      first | refine aqs rfl (q_ldpW ag40 sz40 rfl (by repeat (first | exact .here | assumption | (apply HAt.left; assumption) | apply HAt.there | apply HAt.right)) (by first | rfl | assumption | (simp [*]; done) | fail) (by first | rfl | assumption | (simp [*]; done) | fail) (by decide)) rfl ?_ | refine aqs rfl (q_ldW ag40 sz40 rfl (by first | rfl | assumption | (simp [*]; done) | fail)) rfl ?_ | refine aqs rfl (q_ldpP ag40 sz40 rfl (by repeat (first | exact .here | assumption | (apply HAt.left; assumption) | apply HAt.there | apply HAt.right)) (by first | rfl | assumption | (simp [*]; done) | fail) (by first | decide | (simp; done) | omega | fail) (by decide) (by first | ((repeat constructor); done) | exact .same _)) rfl ?_ | refine aqs rfl (q_ldP ag40 sz40 rfl (by first | decide | (simp; done) | omega | fail) (by first | ((repeat constructor); done) | exact .same _)) rfl ?_
                      first | refine aqs rfl (e_callN cb58 (put58_c l (by omega) w s _) rfl rfl) rfl ?_ | refine aqs rfl (e_callN cb58 (ACall.arg (put58_c l (by omega) w s _) (by repeat (first | exact ArgL.nil | (apply ArgL.cons; (· first | exact .same | exact .cro | exact .nil))))) rfl rfl) rfl ?_
                      refine aqs rfl (q_mv (by constructor)) rfl ?_
                      refine aqs rfl (q_ex rfl rfl (by constructor)) rfl ?_
                      refine aqs rfl (q_ex rfl rfl (by constructor)) rfl ?_
                      refine aqs rfl (q_ex rfl rfl (by constructor)) rfl ?_
                      refine aqs rfl (q_as (by constructor)) rfl ?_
                      refine aqs rfl (q_as (by constructor)) rfl ?_
                      refine aqs rfl (q_as (by constructor)) rfl ?_
                      refine alist_nil ?_
                      show AWP _ _ _ _
                      refine awp_seq ?_
                      refine awp_region ?_
                      refine aqs rfl (q_mv (by constructor)) rfl ?_
                      refine aqs rfl (q_mv (by constructor)) rfl ?_
                      first | refine aqs rfl (q_ldpW ag40 sz40 rfl (by repeat (first | exact .here | assumption | (apply HAt.left; assumption) | apply HAt.there | apply HAt.right)) (by first | rfl | assumption | (simp [*]; done) | fail) (by first | rfl | assumption | (simp [*]; done) | fail) (by decide)) rfl ?_ | refine aqs rfl (q_ldW ag40 sz40 rfl (by first | rfl | assumption | (simp [*]; done) | fail)) rfl ?_ | refine aqs rfl (q_ldpP ag40 sz40 rfl (by repeat (first | exact .here | assumption | (apply HAt.left; assumption) | apply HAt.there | apply HAt.right)) (by first | rfl | assumption | (simp [*]; done) | fail) (by first | decide | (simp; done) | omega | fail) (by decide) (by first | ((repeat constructor); done) | exact .same _)) rfl ?_ | refine aqs rfl (q_ldP ag40 sz40 rfl (by first | decide | (simp; done) | omega | fail) (by first | ((repeat constructor); done) | exact .same _)) rfl ?_
                      first | refine aqs rfl (e_callN cb59 (put59_c l (by omega) w s _) rfl rfl) rfl ?_ | refine aqs rfl (e_callN cb59 (ACall.arg (put59_c l (by omega) w s _) (by repeat (first | exact ArgL.nil | (apply ArgL.cons; (· first | exact .same | exact .cro | exact .nil))))) rfl rfl) rfl ?_
                      refine aqs rfl (q_mv (by constructor)) rfl ?_
                      refine aqs rfl (q_ex rfl rfl (by constructor)) rfl ?_
                      refine aqs rfl (q_ex rfl rfl (by constructor)) rfl ?_
                      refine aqs rfl (q_ex rfl rfl (by constructor)) rfl ?_
                      refine aqs rfl (q_as (by constructor)) rfl ?_
                      refine aqs rfl (q_as (by constructor)) rfl ?_
                      refine aqs rfl (q_as (by constructor)) rfl ?_
                      refine alist_nil ?_
                      show AWP _ _ _ _
                      refine awp_seq ?_
                      refine awp_region ?_
                      refine aqs rfl (q_mv (by constructor)) rfl ?_
                      refine aqs rfl (q_mv (by constructor)) rfl ?_
                      refine aqs rfl (castF (q_neq rfl rfl) (by simp)) rfl ?_
                      refine aqs rfl (q_mv (by constructor)) rfl ?_
                      first | refine ans rfl rfl ?_ | refine aqs rfl (q_mv (by constructor)) rfl ?_
                      first | refine ans rfl rfl ?_ | refine aqs rfl (q_mv (by constructor)) rfl ?_
                      first | refine aqs rfl (castT (e_callN cb56 (same56_c _ _ (by omega) (by omega) _) rfl rfl) (by simp)) rfl ?_ | refine aqs rfl (castT (e_callN cb56 (ACall.arg (same56_c _ _ (by omega) (by omega) _) (by repeat (first | exact ArgL.nil | (apply ArgL.cons; (· first | exact .same | exact .cro | exact .nil))))) rfl rfl) (by simp)) rfl ?_
                      first | refine ans rfl rfl ?_ | refine aqs rfl (q_not rfl) rfl ?_
                      first | refine aqs rfl (q_pickT rfl (by constructor)) rfl ?_ | refine aqs rfl (q_pickF rfl (by constructor)) rfl ?_
                      refine aqs rfl (q_mv (by constructor)) rfl ?_
                      first | refine ans rfl rfl ?_ | refine aqs rfl (q_mv (by constructor)) rfl ?_
                      first | refine ans rfl rfl ?_ | refine aqs rfl (q_mv (by constructor)) rfl ?_
                      first | refine aqs rfl (castT (e_callN cb56 (same56_c _ _ (by omega) (by omega) _) rfl rfl) (by simp)) rfl ?_ | refine aqs rfl (castT (e_callN cb56 (ACall.arg (same56_c _ _ (by omega) (by omega) _) (by repeat (first | exact ArgL.nil | (apply ArgL.cons; (· first | exact .same | exact .cro | exact .nil))))) rfl rfl) (by simp)) rfl ?_
                      first | refine ans rfl rfl ?_ | refine aqs rfl (q_not rfl) rfl ?_
                      first | refine aqs rfl (q_pickT rfl (by constructor)) rfl ?_ | refine aqs rfl (q_pickF rfl (by constructor)) rfl ?_
                      refine alist_nil ?_
                      show AWP _ _ _ _
                      refine awp_cond rfl (fun hc7 => ?_) (fun hc7 => ?_)
                      · exfalso; first | (simp at hc7; done) | (simp at hc7; omega) | contradiction
                      · try simp only [decide_eq_true_eq, decide_eq_false_iff_not, Bool.not_eq_true', Bool.not_eq_false', Bool.not_eq_eq_eq_not, Bool.not_true, Bool.not_false, beq_iff_eq, beq_eq_false_iff_ne, Int.not_lt, Int.not_le] at hc7
                        refine awp_skip ?_
                        show AWP _ _ _ _
                        refine awp_region ?_
                        first | refine aqs rfl (q_add64 rfl rfl (by omega) (by omega)) rfl ?_ | refine aqs rfl (q_add rfl rfl) rfl ?_
                        refine aqs rfl (q_mv (by constructor)) rfl ?_
                        refine alist_nil ?_
                        show ∃ y, _ ∧ _ ∧ _
                        exact ⟨n + 1, by omega, by omega, .mk' ⟨by rfl, rfl, rfl, rfl, rfl, rfl, rfl, rfl, rfl, rfl, rfl, rfl, rfl, rfl, rfl, trivial⟩ (by repeat (first | exact List.Sublist.refl _ | exact List.nil_sublist _ | exact List.sublist_append_left _ _ | (apply List.Sublist.cons_cons) | (apply List.Sublist.cons)))⟩
                    · skip
                      refine awp_exit ?_
                      show AWP _ _ _ _
                      refine awp_region ?_
                      first | refine aqs rfl (q_add64 rfl rfl (by omega) (by omega)) rfl ?_ | refine aqs rfl (q_add rfl rfl) rfl ?_
                      refine aqs rfl (q_mv (by constructor)) rfl ?_
                      refine alist_nil ?_
                      show ∃ y, _ ∧ _ ∧ _
                      exact ⟨m + 1, by omega, by omega, .mk' ⟨by rfl, rfl, rfl, rfl, rfl, rfl, rfl, rfl, rfl, rfl, rfl, trivial⟩ (by repeat (first | exact List.Sublist.refl _ | exact List.nil_sublist _ | exact List.sublist_append_left _ _ | (apply List.Sublist.cons_cons) | (apply List.Sublist.cons)))⟩
              · skip
                refine awp_exit ?_
                show AWP _ _ _ _
                refine awp_region ?_
                first | refine aqs rfl (q_add64 rfl rfl (by omega) (by omega)) rfl ?_ | refine aqs rfl (q_add rfl rfl) rfl ?_
                refine aqs rfl (q_mv (by constructor)) rfl ?_
                refine alist_nil ?_
                show ∃ y, _ ∧ _ ∧ _
                exact ⟨i + 1, by omega, by omega, .mk' ⟨by rfl, rfl, rfl, rfl, rfl, rfl, rfl, trivial⟩ (by repeat (first | exact List.Sublist.refl _ | exact List.nil_sublist _ | exact List.sublist_append_left _ _ | (apply List.Sublist.cons_cons) | (apply List.Sublist.cons)))⟩
    · skip
      refine awp_exit ?_
      show AWP _ _ _ _
      refine awp_seq ?_
      refine awp_region ?_
      refine aqs rfl (q_mv (by constructor)) rfl ?_
      refine aqs rfl (q_as (by constructor)) rfl ?_
      refine alist_nil ?_
      show AWP _ _ _ _
      refine awp_ret ?_
      repeat first | with_reducible refine then_ret ?_ | with_reducible refine blk_ret ?_
      apply retq (.inr rfl) (.cons (rok_t rfl) .nil)
      rotate_left
      · exact ⟨rfl, rfl⟩
      repeat (first | exact List.Sublist.refl _ | exact List.nil_sublist _ | exact List.sublist_append_left _ _ | apply List.Sublist.cons)
end Go.Proofs.YtdlinfekifnmkaaAm
