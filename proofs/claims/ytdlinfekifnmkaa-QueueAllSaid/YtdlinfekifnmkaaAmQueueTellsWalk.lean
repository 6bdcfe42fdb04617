/- The walk of QueueTells. Conditions: none. -/
import Derived.Test.YtdlinfekifnmkaaAmQueueAwake
set_option linter.unusedVariables false
set_option linter.unusedSimpArgs false
set_option maxRecDepth 20000
namespace Go.Proofs.YtdlinfekifnmkaaAm
open Go.Proofs
theorem new_qlen (n : Int) : (newS n).1.tasks.length ≤ 10000 := by unfold newS; split <;> simp [zeroQ]
theorem put_qlen (q : Queue) (l : List Task) : (qPutS q l).2.1.tasks.length ≤ 10000 := by
  unfold qPutS
  split
  · simp [zeroQ]
  · rename_i h
    split
    · simp [zeroQ]
    · obtain ⟨r1, r2, r3⟩ := qRight_f.1 (by simpa using h)
      have : qPutN q l ≤ q.room - q.tasks.length := by unfold qPutN; omega
      simp only [List.length_append, List.length_take]
      omega
theorem take_qlen (q : Queue) : (qTakeS q).2.1.tasks.length ≤ q.tasks.length := by
  unfold qTakeS
  split
  · simp [zeroQ]
  · rcases q with ⟨a, b, l⟩
    cases l with
    | nil => simp [zeroQ]
    | cons t ts => simp
theorem close_qlen (q : Queue) : (qCloseS q).1.tasks.length ≤ q.tasks.length := by unfold qCloseS; split <;> simp [zeroQ]
theorem drop_qlen (q : Queue) (r : Int) : (qDropS q r).2.1.tasks.length ≤ q.tasks.length := by
  unfold qDropS
  split
  · simp [zeroQ]
  · exact rest_len r q.tasks
set_option maxHeartbeats 16000000 in
theorem walkQueueTells (q0 : Queue) (room : Int) (cl : Bool) (raw : List Tri) (odd : List Task) (more : List Tri) (req : Int) (w0 : q0.Wf) (w1 : -9223372036854775808 ≤ room ∧ room ≤ 9223372036854775807) (w2 : True) (w3 : (∀ y ∈ raw, y.Wf) ∧ raw.length ≤ 9223372036854775807) (w4 : (∀ y ∈ odd, y.Wf) ∧ odd.length ≤ 9223372036854775807) (w5 : (∀ y ∈ more, y.Wf) ∧ more.length ≤ 9223372036854775807) (w6 : -9223372036854775808 ≤ req ∧ req ≤ 9223372036854775807) :
    QCall Try.prog 14 [.agg q0.cells, .lit (.int .i64 room), .lit (.bool cl), .ro (raw.map Tri.cells), .ro (odd.map Task.cells), .ro (more.map Tri.cells), .lit (.int .i64 req)] [] (.lit (.bool true)) := by
  have hp0 := pick_nonneg room 4 (by omega)
  have hp1 := pick_lt room 4 (by omega)
  have hlen := lenTask q0.tasks
  have hlen4 := lenTask odd
  have hnl := new_qlen room
  have hqc : q0.cells.length = 3 := rfl
  have htl := tasks_len raw
  have htl2 := tasks_len more
  obtain ⟨QL, hQL⟩ : ∃ QL : List (List AV), QL = [(⟨q0.room, q0.closed, q0.tasks.take (min (q0.tasks.length : Int) 12).toNat⟩ : Queue).cells, (⟨pick room 25, cl, tasksOf raw⟩ : Queue).cells, (⟨(tasksOf raw).length + pick room 4, cl, tasksOf raw⟩ : Queue).cells] := ⟨_, rfl⟩
  have hQ : ∀ i, i < 3 → ∃ q : Queue, QL[i]? = some q.cells ∧ q.tasks.length ≤ 100 := fun i hi => by
    rw [hQL]
    match i, hi with
    | 0, _ => exact ⟨_, rfl, by simp; omega⟩
    | 1, _ => exact ⟨_, rfl, by show (tasksOf raw).length ≤ 100; omega⟩
    | 2, _ => exact ⟨_, rfl, by show (tasksOf raw).length ≤ 100; omega⟩
  obtain ⟨LL, hLL⟩ : ∃ LL : List (List AV), LL = [[.ro ((odd.take (min (odd.length : Int) 6).toNat).map Task.cells)], [.ro ((tasksOf more).map Task.cells)]] := ⟨_, rfl⟩
  have hL : ∀ i, i < 2 → ∃ l : List Task, LL[i]? = some [.ro (l.map Task.cells)] ∧ l.length ≤ 100 := fun i hi => by
    rw [hLL]
    match i, hi with
    | 0, _ => exact ⟨_, rfl, by simp; omega⟩
    | 1, _ => exact ⟨_, rfl, by omega⟩
  obtain ⟨RL, hRL⟩ : ∃ RL : List (List AV), RL = [[.lit (.int .i64 req)], [.lit (.int .i64 (pick req 5))]] := ⟨_, rfl⟩
  have hR : ∀ i, i < 2 → ∃ k : Int, RL[i]? = some [.lit (.int .i64 k)] := fun i hi => by
    rw [hRL]
    match i, hi with
    | 0, _ => exact ⟨_, rfl⟩
    | 1, _ => exact ⟨_, rfl⟩
  refine acall_intro (n := 239) (rvs := [.tmp 14]) Try.func14 rfl rfl rfl (Nat.le_of_ble_eq_true rfl) ?_
  refine awp_seq ?_
  refine awp_region ?_
  (refine aes rfl (e_bx (by constructor) rfl rfl) rfl ?_; rintro _ _ ⟨u7, rfl, rfl⟩)
  refine aqs rfl (q_as (by constructor)) rfl ?_
  refine alist_nil ?_
  show AWP _ _ _ _
  refine awp_seq ?_
  refine awp_region ?_
  first | refine aqs rfl (e_callN cb60 (QCall.front [_] awake60_c) rfl rfl) rfl ?_ | refine aqs rfl (e_callN cb60 (ACall.arg (QCall.front [_] awake60_c) (by repeat (first | exact ArgL.nil | (apply ArgL.cons; (· first | exact .same | exact .cro | exact .nil))))) rfl rfl) rfl ?_
  refine aqs rfl (q_as (by constructor)) rfl ?_
  refine alist_nil ?_
  show AWP _ _ _ _
  refine awp_seq ?_
  refine awp_region ?_
  refine aqs rfl (q_mv (by constructor)) rfl ?_
  first | refine aqs rfl (e_callN cb61 (new61_c room _) rfl rfl) rfl ?_ | refine aqs rfl (e_callN cb61 (ACall.arg (new61_c room _) (by repeat (first | exact ArgL.nil | (apply ArgL.cons; (· first | exact .same | exact .cro | exact .nil))))) rfl rfl) rfl ?_
  refine aqs rfl (q_mv (by constructor)) rfl ?_
  refine aqs rfl (q_ex rfl rfl (by constructor)) rfl ?_
  refine aqs rfl (q_ex rfl rfl (by constructor)) rfl ?_
  (refine aes rfl (e_al (xs := [.lit (.int .i64 0), .lit (.bool false), .lit (.slice none 0 0)]) (k := 3) zr63 (.same _) rfl) rfl ?_; rintro _ _ ⟨u16, rfl, rfl⟩)
  first | (refine aen rfl (e_stW sz63 rfl (by repeat (first | exact .here | assumption | (apply HAt.left; assumption) | apply HAt.there | apply HAt.right)) (by constructor) (by first | rfl | assumption | (simp [*]; done) | fail) rfl (by repeat (first | exact .here | apply HSet.there))) ?_; rintro _ _ ⟨rfl, rfl⟩) | (refine aen rfl (e_stP sz63 rfl (by repeat (first | exact .here | assumption | (apply HAt.left; assumption) | apply HAt.there | apply HAt.right)) (by first | rfl | assumption | (simp [*]; done) | fail) (by constructor) (by first | rfl | assumption | (simp [*]; done) | fail) rfl (by first | decide | omega) (by first | ((repeat constructor); done) | exact .same _) (by first | exact .one | exact .set) (by repeat (first | exact .here | apply HSet.there))) ?_; rintro _ _ ⟨rfl, rfl⟩)
  refine aqs rfl (q_as (by constructor)) rfl ?_
  refine alist_nil ?_
  show AWP _ _ _ _
  refine awp_seq ?_
  refine awp_region ?_
  refine aqs rfl (q_mv (by constructor)) rfl ?_
  first | refine aqs rfl (e_callN cb62 (new62_c room _) rfl rfl) rfl ?_ | refine aqs rfl (e_callN cb62 (ACall.arg (new62_c room _) (by repeat (first | exact ArgL.nil | (apply ArgL.cons; (· first | exact .same | exact .cro | exact .nil))))) rfl rfl) rfl ?_
  refine aqs rfl (q_mv (by constructor)) rfl ?_
  refine aqs rfl (q_ex rfl rfl (by constructor)) rfl ?_
  refine aqs rfl (q_ex rfl rfl (by constructor)) rfl ?_
  (refine aes rfl (e_al (xs := [.lit (.int .i64 0), .lit (.bool false), .lit (.slice none 0 0)]) (k := 3) zr63 (.same _) rfl) rfl ?_; rintro _ _ ⟨u18, rfl, rfl⟩)
  first | (refine aen rfl (e_stW sz63 rfl (by repeat (first | exact .here | assumption | (apply HAt.left; assumption) | apply HAt.there | apply HAt.right)) (by constructor) (by first | rfl | assumption | (simp [*]; done) | fail) rfl (by repeat (first | exact .here | apply HSet.there))) ?_; rintro _ _ ⟨rfl, rfl⟩) | (refine aen rfl (e_stP sz63 rfl (by repeat (first | exact .here | assumption | (apply HAt.left; assumption) | apply HAt.there | apply HAt.right)) (by first | rfl | assumption | (simp [*]; done) | fail) (by constructor) (by first | rfl | assumption | (simp [*]; done) | fail) rfl (by first | decide | omega) (by first | ((repeat constructor); done) | exact .same _) (by first | exact .one | exact .set) (by repeat (first | exact .here | apply HSet.there))) ?_; rintro _ _ ⟨rfl, rfl⟩)
  refine aqs rfl (q_as (by constructor)) rfl ?_
  refine alist_nil ?_
  show AWP _ _ _ _
  refine awp_seq ?_
  refine awp_seq ?_
  refine awp_region ?_
  refine aqs rfl (q_mv (by constructor)) rfl ?_
  refine aqs rfl (q_mv (by constructor)) rfl ?_
  refine aqs rfl (castF (q_neq rfl rfl) (by simp)) rfl ?_
  refine aqs rfl (q_mv (by constructor)) rfl ?_
  first | refine ans rfl rfl ?_ | refine aqs rfl (q_ldpW ag63 sz63 rfl (by repeat (first | exact .here | assumption | (apply HAt.left; assumption) | apply HAt.there | apply HAt.right)) (by first | rfl | assumption | (simp [*]; done) | fail) (by first | rfl | assumption | (simp [*]; done) | fail) (by decide)) rfl ?_ | refine aqs rfl (q_ldW ag63 sz63 rfl (by first | rfl | assumption | (simp [*]; done) | fail)) rfl ?_ | refine aqs rfl (q_ldpP ag63 sz63 rfl (by repeat (first | exact .here | assumption | (apply HAt.left; assumption) | apply HAt.there | apply HAt.right)) (by first | rfl | assumption | (simp [*]; done) | fail) (by first | decide | (simp; done) | omega | fail) (by decide) (by first | ((repeat constructor); done) | exact .same _)) rfl ?_ | refine aqs rfl (q_ldP ag63 sz63 rfl (by first | decide | (simp; done) | omega | fail) (by first | ((repeat constructor); done) | exact .same _)) rfl ?_
  first | refine ans rfl rfl ?_ | refine aqs rfl (q_ldpW ag63 sz63 rfl (by repeat (first | exact .here | assumption | (apply HAt.left; assumption) | apply HAt.there | apply HAt.right)) (by first | rfl | assumption | (simp [*]; done) | fail) (by first | rfl | assumption | (simp [*]; done) | fail) (by decide)) rfl ?_ | refine aqs rfl (q_ldW ag63 sz63 rfl (by first | rfl | assumption | (simp [*]; done) | fail)) rfl ?_ | refine aqs rfl (q_ldpP ag63 sz63 rfl (by repeat (first | exact .here | assumption | (apply HAt.left; assumption) | apply HAt.there | apply HAt.right)) (by first | rfl | assumption | (simp [*]; done) | fail) (by first | decide | (simp; done) | omega | fail) (by decide) (by first | ((repeat constructor); done) | exact .same _)) rfl ?_ | refine aqs rfl (q_ldP ag63 sz63 rfl (by first | decide | (simp; done) | omega | fail) (by first | ((repeat constructor); done) | exact .same _)) rfl ?_
  first | refine aqs rfl (castT (e_callN cb63 (same63_c _ _ (by omega) (by omega) _) rfl rfl) (by simp)) rfl ?_ | refine aqs rfl (castT (e_callN cb63 (ACall.arg (same63_c _ _ (by omega) (by omega) _) (by repeat (first | exact ArgL.nil | (apply ArgL.cons; (· first | exact .same | exact .cro | exact .nil))))) rfl rfl) (by simp)) rfl ?_
  first | refine ans rfl rfl ?_ | refine aqs rfl (q_not rfl) rfl ?_
  first | refine aqs rfl (q_pickT rfl (by constructor)) rfl ?_ | refine aqs rfl (q_pickF rfl (by constructor)) rfl ?_
  refine alist_nil ?_
  show AWP _ _ _ _
  refine awp_cond rfl (fun hc0 => ?_) (fun hc0 => ?_)
  · exfalso; first | (simp at hc0; done) | (simp at hc0; omega) | contradiction
  · try simp only [decide_eq_true_eq, decide_eq_false_iff_not, Bool.not_eq_true', Bool.not_eq_false', Bool.not_eq_eq_eq_not, Bool.not_true, Bool.not_false, beq_iff_eq, beq_eq_false_iff_ne, Int.not_lt, Int.not_le] at hc0
    refine awp_skip ?_
    show AWP _ _ _ _
    refine awp_seq ?_
    refine awp_region ?_
    first | refine aqs rfl (q_ldpW ag63 sz63 rfl (by repeat (first | exact .here | assumption | (apply HAt.left; assumption) | apply HAt.there | apply HAt.right)) (by first | rfl | assumption | (simp [*]; done) | fail) (by first | rfl | assumption | (simp [*]; done) | fail) (by decide)) rfl ?_ | refine aqs rfl (q_ldW ag63 sz63 rfl (by first | rfl | assumption | (simp [*]; done) | fail)) rfl ?_ | refine aqs rfl (q_ldpP ag63 sz63 rfl (by repeat (first | exact .here | assumption | (apply HAt.left; assumption) | apply HAt.there | apply HAt.right)) (by first | rfl | assumption | (simp [*]; done) | fail) (by first | decide | (simp; done) | omega | fail) (by decide) (by first | ((repeat constructor); done) | exact .same _)) rfl ?_ | refine aqs rfl (q_ldP ag63 sz63 rfl (by first | decide | (simp; done) | omega | fail) (by first | ((repeat constructor); done) | exact .same _)) rfl ?_
    (refine aes rfl (e_al (xs := [.lit (.int .i64 0), .lit (.bool false), .lit (.slice none 0 0)]) (k := 3) zr63 (.same _) rfl) rfl ?_; rintro _ _ ⟨u20, rfl, rfl⟩)
    first | (refine aen rfl (e_stW sz63 rfl (by repeat (first | exact .here | assumption | (apply HAt.left; assumption) | apply HAt.there | apply HAt.right)) (by constructor) (by first | rfl | assumption | (simp [*]; done) | fail) rfl (by repeat (first | exact .here | apply HSet.there))) ?_; rintro _ _ ⟨rfl, rfl⟩) | (refine aen rfl (e_stP sz63 rfl (by repeat (first | exact .here | assumption | (apply HAt.left; assumption) | apply HAt.there | apply HAt.right)) (by first | rfl | assumption | (simp [*]; done) | fail) (by constructor) (by first | rfl | assumption | (simp [*]; done) | fail) rfl (by first | decide | omega) (by first | ((repeat constructor); done) | exact .same _) (by first | exact .one | exact .set) (by repeat (first | exact .here | apply HSet.there))) ?_; rintro _ _ ⟨rfl, rfl⟩)
    refine alist_nil ?_
    show AWP _ _ _ _
    refine awp_seq ?_
    refine awp_region ?_
    first | refine aqs rfl (q_fapP fl63_2 (by decide) rfl rfl) rfl ?_ | refine aqs rfl (q_faP fl63_2 (by decide) rfl (by first | ((repeat constructor); done) | exact .same _)) rfl ?_
    first | refine aqs rfl (q_ldpN ag61 rfl (by repeat (first | exact .here | assumption | (apply HAt.left; assumption) | apply HAt.there | apply HAt.right)) (by first | rfl | assumption | (simp [*]; done) | fail) (by first | rfl | assumption | (simp [*]; done) | fail) (by constructor)) rfl ?_ | refine aqs rfl (q_ld1N ag61 rfl (by constructor)) rfl ?_
    first | refine aqs rfl (q_fapP fl63_2 (by decide) rfl rfl) rfl ?_ | refine aqs rfl (q_faP fl63_2 (by decide) rfl (by first | ((repeat constructor); done) | exact .same _)) rfl ?_
    first | refine aqs rfl (q_ldpN ag61 rfl (by repeat (first | exact .here | assumption | (apply HAt.left; assumption) | apply HAt.there | apply HAt.right)) (by first | rfl | assumption | (simp [*]; done) | fail) (by first | rfl | assumption | (simp [*]; done) | fail) (by constructor)) rfl ?_ | refine aqs rfl (q_ld1N ag61 rfl (by constructor)) rfl ?_
    first | refine aqs rfl (q_len Try.underlying61 .ro) rfl ?_ | refine aqs rfl (q_lenO Try.underlying61 rfl (by repeat (first | exact .here | assumption | (apply HAt.left; assumption) | apply HAt.there | apply HAt.right)) (by first | omega | (simp; done) | (simp; omega) | fail) (by first | exact Nat.sub_zero _ | rfl)) rfl ?_ | refine aqs rfl (q_len Try.underlying61 .nil) rfl ?_ | refine aqs rfl (q_len Try.underlying61 .cro) rfl ?_
    refine aqs rfl (q_min rfl rfl) rfl ?_
    first | refine aqs rfl (castQ (r2 := .ro ((q0.tasks.take (min (q0.tasks.length : Int) 12).toNat).map Task.cells)) (q_slR Try.underlying61 sz75 (.inl rfl) rfl (by first | (refine ⟨_, _, rfl, ?_⟩; with_reducible rfl) | exact bnd_int rfl (by omega)) (by first | omega | (simp; done) | (simp; omega) | fail) (by first | omega | (simp; done) | (simp; omega) | fail) (by first | rfl | assumption | (simp [*]; done) | fail)) (by simp)) rfl ?_ | refine aqs rfl (castQ (r2 := .ro ((q0.tasks.take (min (q0.tasks.length : Int) 12).toNat).map Task.cells)) (q_slO Try.underlying61 sz75 rfl (by repeat (first | exact .here | assumption | (apply HAt.left; assumption) | apply HAt.there | apply HAt.right)) rfl (by first | (refine ⟨_, _, rfl, ?_⟩; with_reducible rfl) | exact bnd_int rfl (by omega)) (by first | omega | (simp; done) | (simp; omega) | fail) (by first | omega | (simp; done) | (simp; omega) | fail) (by first | exact Nat.zero_add _ | rfl) (by first | exact Nat.zero_add _ | rfl)) (by simp)) rfl ?_
    first | refine aqs rfl (q_fapP fl63_2 (by decide) rfl rfl) rfl ?_ | refine aqs rfl (q_faP fl63_2 (by decide) rfl (by first | ((repeat constructor); done) | exact .same _)) rfl ?_
    first | (refine aen rfl (e_stW sz61 rfl (by repeat (first | exact .here | assumption | (apply HAt.left; assumption) | apply HAt.there | apply HAt.right)) (by constructor) (by first | rfl | assumption | (simp [*]; done) | fail) rfl (by repeat (first | exact .here | apply HSet.there))) ?_; rintro _ _ ⟨rfl, rfl⟩) | (refine aen rfl (e_stP sz61 rfl (by repeat (first | exact .here | assumption | (apply HAt.left; assumption) | apply HAt.there | apply HAt.right)) (by first | rfl | assumption | (simp [*]; done) | fail) (by constructor) (by first | rfl | assumption | (simp [*]; done) | fail) rfl (by first | decide | omega) (by first | ((repeat constructor); done) | exact .same _) (by first | exact .one | exact .set) (by repeat (first | exact .here | apply HSet.there))) ?_; rintro _ _ ⟨rfl, rfl⟩)
    refine alist_nil ?_
    show AWP _ _ _ _
    refine awp_seq ?_
    refine awp_region ?_
    refine aqs rfl (q_mv (by constructor)) rfl ?_
    first | refine aqs rfl (e_callN cb64 (pick64_c _ _ w1.1 w1.2 (by omega) _) rfl rfl) rfl ?_ | refine aqs rfl (e_callN cb64 (ACall.arg (pick64_c _ _ w1.1 w1.2 (by omega) _) (by repeat (first | exact ArgL.nil | (apply ArgL.cons; (· first | exact .same | exact .cro | exact .nil))))) rfl rfl) rfl ?_
    refine aqs rfl (q_mv (by constructor)) rfl ?_
    refine aqs rfl (q_mv (by constructor)) rfl ?_
    first | refine aqs rfl (e_callN cb65 (tasks65_c raw w3.1 _) rfl rfl) rfl ?_ | refine aqs rfl (e_callN cb65 (ACall.arg (tasks65_c raw w3.1 _) (by repeat (first | exact ArgL.nil | (apply ArgL.cons; (· first | exact .same | exact .cro | exact .nil))))) rfl rfl) rfl ?_
    refine aqs rfl (q_bd st63 zr63 (by first | ((repeat constructor); done) | exact .same _) (by repeat (first | exact BD.nil | (apply BD.cons; (· rfl); (· constructor); (· rfl); (· rfl); (· exact Nat.le_of_ble_eq_true (by rfl)); (· exact (by first | ((repeat constructor); done) | exact .same _)))))) rfl ?_
    (refine aes rfl (e_al (xs := [.lit (.int .i64 0), .lit (.bool false), .lit (.slice none 0 0)]) (k := 3) zr63 (.same _) rfl) rfl ?_; rintro _ _ ⟨u21, rfl, rfl⟩)
    first | (refine aen rfl (e_stW sz63 rfl (by repeat (first | exact .here | assumption | (apply HAt.left; assumption) | apply HAt.there | apply HAt.right)) (by constructor) (by first | rfl | assumption | (simp [*]; done) | fail) rfl (by repeat (first | exact .here | apply HSet.there))) ?_; rintro _ _ ⟨rfl, rfl⟩) | (refine aen rfl (e_stP sz63 rfl (by repeat (first | exact .here | assumption | (apply HAt.left; assumption) | apply HAt.there | apply HAt.right)) (by first | rfl | assumption | (simp [*]; done) | fail) (by constructor) (by first | rfl | assumption | (simp [*]; done) | fail) rfl (by first | decide | omega) (by first | ((repeat constructor); done) | exact .same _) (by first | exact .one | exact .set) (by repeat (first | exact .here | apply HSet.there))) ?_; rintro _ _ ⟨rfl, rfl⟩)
    refine alist_nil ?_
    show AWP _ _ _ _
    refine awp_seq ?_
    refine awp_region ?_
    first | refine aqs rfl (q_ldpW ag63 sz63 rfl (by repeat (first | exact .here | assumption | (apply HAt.left; assumption) | apply HAt.there | apply HAt.right)) (by first | rfl | assumption | (simp [*]; done) | fail) (by first | rfl | assumption | (simp [*]; done) | fail) (by decide)) rfl ?_ | refine aqs rfl (q_ldW ag63 sz63 rfl (by first | rfl | assumption | (simp [*]; done) | fail)) rfl ?_ | refine aqs rfl (q_ldpP ag63 sz63 rfl (by repeat (first | exact .here | assumption | (apply HAt.left; assumption) | apply HAt.there | apply HAt.right)) (by first | rfl | assumption | (simp [*]; done) | fail) (by first | decide | (simp; done) | omega | fail) (by decide) (by first | ((repeat constructor); done) | exact .same _)) rfl ?_ | refine aqs rfl (q_ldP ag63 sz63 rfl (by first | decide | (simp; done) | omega | fail) (by first | ((repeat constructor); done) | exact .same _)) rfl ?_
    (refine aes rfl (e_al (xs := [.lit (.int .i64 0), .lit (.bool false), .lit (.slice none 0 0)]) (k := 3) zr63 (.same _) rfl) rfl ?_; rintro _ _ ⟨u22, rfl, rfl⟩)
    first | (refine aen rfl (e_stW sz63 rfl (by repeat (first | exact .here | assumption | (apply HAt.left; assumption) | apply HAt.there | apply HAt.right)) (by constructor) (by first | rfl | assumption | (simp [*]; done) | fail) rfl (by repeat (first | exact .here | apply HSet.there))) ?_; rintro _ _ ⟨rfl, rfl⟩) | (refine aen rfl (e_stP sz63 rfl (by repeat (first | exact .here | assumption | (apply HAt.left; assumption) | apply HAt.there | apply HAt.right)) (by first | rfl | assumption | (simp [*]; done) | fail) (by constructor) (by first | rfl | assumption | (simp [*]; done) | fail) rfl (by first | decide | omega) (by first | ((repeat constructor); done) | exact .same _) (by first | exact .one | exact .set) (by repeat (first | exact .here | apply HSet.there))) ?_; rintro _ _ ⟨rfl, rfl⟩)
    refine alist_nil ?_
    show AWP _ _ _ _
    refine awp_seq ?_
    refine awp_draw 7 [(0, false), (1, false), (2, false), (3, false), (4, false), (5, false), (6, false)] _ ([]) mixed (by kernel_rfl) (perm0 _) ?_
    first | refine glq rfl (.inl ⟨rfl, q_fapP fl63_2 (by decide) rfl rfl⟩) rfl ?_ | refine glq rfl (.inl ⟨rfl, q_faP fl63_2 (by decide) rfl (by first | ((repeat constructor); done) | exact .same _)⟩) rfl ?_
    first | refine glq rfl (.inl ⟨rfl, q_ldpN ag61 rfl (by repeat (first | exact .here | assumption | (apply HAt.left; assumption) | apply HAt.there | apply HAt.right)) (by first | rfl | assumption | (simp [*]; done) | fail) (by first | rfl | assumption | (simp [*]; done) | fail) (by constructor)⟩) rfl ?_ | refine glq rfl (.inl ⟨rfl, q_ld1N ag61 rfl (by constructor)⟩) rfl ?_
    first | refine glq rfl (.inl ⟨rfl, castQ (r2 := .lit (.int .i64 ((tasksOf raw).length : Nat))) (q_len Try.underlying61 .ro) (by simp)⟩) rfl ?_ | refine glq rfl (.inl ⟨rfl, castQ (r2 := .lit (.int .i64 ((tasksOf raw).length : Nat))) (q_lenO Try.underlying61 rfl (by repeat (first | exact .here | assumption | (apply HAt.left; assumption) | apply HAt.there | apply HAt.right)) (by first | omega | (simp; done) | (simp; omega) | fail) (by first | exact Nat.sub_zero _ | rfl)) (by simp)⟩) rfl ?_ | refine glq rfl (.inl ⟨rfl, castQ (r2 := .lit (.int .i64 ((tasksOf raw).length : Nat))) (q_len Try.underlying61 .nil) (by simp)⟩) rfl ?_ | refine glq rfl (.inl ⟨rfl, castQ (r2 := .lit (.int .i64 ((tasksOf raw).length : Nat))) (q_len Try.underlying61 .cro) (by simp)⟩) rfl ?_
    refine glq rfl (.inl ⟨rfl, q_mv (by constructor)⟩) rfl ?_
    first | refine glq rfl (.inl ⟨rfl, e_callN cb64 (pick64_c _ _ w1.1 w1.2 (by omega) _) rfl rfl⟩) rfl ?_ | refine glq rfl (.inl ⟨rfl, e_callN cb64 (ACall.arg (pick64_c _ _ w1.1 w1.2 (by omega) _) (by repeat (first | exact ArgL.nil | (apply ArgL.cons; (· first | exact .same | exact .cro | exact .nil))))) rfl rfl⟩) rfl ?_
    first | refine glq rfl (.inl ⟨rfl, q_add64 rfl rfl (by omega) (by omega)⟩) rfl ?_ | refine glq rfl (.inl ⟨rfl, q_add rfl rfl⟩) rfl ?_
    first | refine glq rfl (.inl ⟨rfl, q_fapP fl63_0 (by decide) rfl rfl⟩) rfl ?_ | refine glq rfl (.inl ⟨rfl, q_faP fl63_0 (by decide) rfl (by first | ((repeat constructor); done) | exact .same _)⟩) rfl ?_
    (first | refine gld0 ?_ | refine gldA ?_)
    first | (refine aen rfl (e_stW sz3 rfl (by repeat (first | exact .here | assumption | (apply HAt.left; assumption) | apply HAt.there | apply HAt.right)) (by constructor) (by first | rfl | assumption | (simp [*]; done) | fail) rfl (by repeat (first | exact .here | apply HSet.there))) ?_; rintro _ _ ⟨rfl, rfl⟩) | (refine aen rfl (e_stP sz3 rfl (by repeat (first | exact .here | assumption | (apply HAt.left; assumption) | apply HAt.there | apply HAt.right)) (by first | rfl | assumption | (simp [*]; done) | fail) (by constructor) (by first | rfl | assumption | (simp [*]; done) | fail) rfl (by first | decide | omega) (by first | ((repeat constructor); done) | exact .same _) (by first | exact .one | exact .set) (by repeat (first | exact .here | apply HSet.there))) ?_; rintro _ _ ⟨rfl, rfl⟩)
    refine alist_nil ?_
    show AWP _ _ _ _
    refine awp_seq ?_
    refine awp_seq ?_
    refine awp_region ?_
    first | refine aqs rfl (q_ldpW ag63 sz63 rfl (by repeat (first | exact .here | assumption | (apply HAt.left; assumption) | apply HAt.there | apply HAt.right)) (by first | rfl | assumption | (simp [*]; done) | fail) (by first | rfl | assumption | (simp [*]; done) | fail) (by decide)) rfl ?_ | refine aqs rfl (q_ldW ag63 sz63 rfl (by first | rfl | assumption | (simp [*]; done) | fail)) rfl ?_ | refine aqs rfl (q_ldpP ag63 sz63 rfl (by repeat (first | exact .here | assumption | (apply HAt.left; assumption) | apply HAt.there | apply HAt.right)) (by first | rfl | assumption | (simp [*]; done) | fail) (by first | decide | (simp; done) | omega | fail) (by decide) (by first | ((repeat constructor); done) | exact .same _)) rfl ?_ | refine aqs rfl (q_ldP ag63 sz63 rfl (by first | decide | (simp; done) | omega | fail) (by first | ((repeat constructor); done) | exact .same _)) rfl ?_
    first | refine aqs rfl (q_ldpW ag63 sz63 rfl (by repeat (first | exact .here | assumption | (apply HAt.left; assumption) | apply HAt.there | apply HAt.right)) (by first | rfl | assumption | (simp [*]; done) | fail) (by first | rfl | assumption | (simp [*]; done) | fail) (by decide)) rfl ?_ | refine aqs rfl (q_ldW ag63 sz63 rfl (by first | rfl | assumption | (simp [*]; done) | fail)) rfl ?_ | refine aqs rfl (q_ldpP ag63 sz63 rfl (by repeat (first | exact .here | assumption | (apply HAt.left; assumption) | apply HAt.there | apply HAt.right)) (by first | rfl | assumption | (simp [*]; done) | fail) (by first | decide | (simp; done) | omega | fail) (by decide) (by first | ((repeat constructor); done) | exact .same _)) rfl ?_ | refine aqs rfl (q_ldP ag63 sz63 rfl (by first | decide | (simp; done) | omega | fail) (by first | ((repeat constructor); done) | exact .same _)) rfl ?_
    first | refine aqs rfl (q_ldpW ag63 sz63 rfl (by repeat (first | exact .here | assumption | (apply HAt.left; assumption) | apply HAt.there | apply HAt.right)) (by first | rfl | assumption | (simp [*]; done) | fail) (by first | rfl | assumption | (simp [*]; done) | fail) (by decide)) rfl ?_ | refine aqs rfl (q_ldW ag63 sz63 rfl (by first | rfl | assumption | (simp [*]; done) | fail)) rfl ?_ | refine aqs rfl (q_ldpP ag63 sz63 rfl (by repeat (first | exact .here | assumption | (apply HAt.left; assumption) | apply HAt.there | apply HAt.right)) (by first | rfl | assumption | (simp [*]; done) | fail) (by first | decide | (simp; done) | omega | fail) (by decide) (by first | ((repeat constructor); done) | exact .same _)) rfl ?_ | refine aqs rfl (q_ldP ag63 sz63 rfl (by first | decide | (simp; done) | omega | fail) (by first | ((repeat constructor); done) | exact .same _)) rfl ?_
    first | refine aqs rfl (q_bs Try.underlying69 sz63 zr63 rfl (by first | ((repeat constructor); done) | exact .same _) rfl (by decide) (by repeat (first | exact BS.nil | (apply BS.cons; (· constructor); (· rfl); (· rfl); (· rfl); (· exact (by first | ((repeat constructor); done) | exact .same _)))))) rfl ?_ | (refine aes rfl (e_bs Try.underlying69 sz63 zr63 rfl (by first | ((repeat constructor); done) | exact .same _) rfl (by decide) (by repeat (first | exact BS.nil | (apply BS.cons; (· constructor); (· rfl); (· rfl); (· rfl); (· exact (by first | ((repeat constructor); done) | exact .same _)))))) rfl ?_; rintro _ _ ⟨u97, rfl, rfl⟩)
    first | refine aqs rfl (q_len Try.underlying69 .ro) rfl ?_ | refine aqs rfl (q_lenO Try.underlying69 rfl (by repeat (first | exact .here | assumption | (apply HAt.left; assumption) | apply HAt.there | apply HAt.right)) (by first | omega | (simp; done) | (simp; omega) | fail) (by first | exact Nat.sub_zero _ | rfl)) rfl ?_ | refine aqs rfl (q_len Try.underlying69 .nil) rfl ?_ | refine aqs rfl (q_len Try.underlying69 .cro) rfl ?_
    refine aqs rfl (q_mv (by constructor)) rfl ?_
    refine alist_nil ?_
    show AWP _ _ _ _
    refine awp_block ?_
    refine awp_loop_inv (fun i : Nat => ⟨[(99, .lit (.int .i64 i)), (98, .lit (.int .i64 3)), (97, .cro QL), (4, .ro (odd.map Task.cells)), (5, .ro (more.map Tri.cells)), (6, .lit (.int .i64 req)), (15, .lit (.bool true))], 239, []⟩) (fun i => i ≤ 3) (fun i => 3 - i) 0 ?_ ?_ ?_
    · omega
    · exact .mk' (by refine ⟨rfl, rfl, (by rw [hQL]; rfl), rfl, rfl, rfl, rfl, trivial⟩) (by repeat (first | exact .refl _ | apply List.Sublist.cons_cons | apply List.Sublist.cons))
    · intro i hi
      refine awp_seq ?_
      refine awp_region ?_
      refine aqs rfl (q_lss rfl rfl) rfl ?_
      refine alist_nil ?_
      show AWP _ _ _ _
      refine awp_seq ?_
      refine awp_cond rfl (fun hc1 => ?_) (fun hc1 => ?_)
      · simp only [decide_eq_true_eq] at hc1
        obtain ⟨q, hq, hql⟩ := hQ i (by omega)
        have t1 := take_qlen q
        have t2 := close_qlen q
        refine awp_skip ?_
        show AWP _ _ _ _
        refine awp_seq ?_
        refine awp_block ?_
        refine awp_seq ?_
        refine awp_region ?_
        first | refine aqs rfl (q_iaN Try.underlying69 sz63 (.inl rfl) rfl (by omega) (by first | rfl | assumption | (simp [*]; done) | fail) (by first | rfl | assumption | (simp [*]; done) | fail) (by decide) (by first | ((repeat constructor); done) | exact .same _)) rfl ?_ | refine aqs rfl (q_iaS Try.underlying69 sz63 rfl (by repeat (first | exact .here | assumption | (apply HAt.left; assumption) | apply HAt.there | apply HAt.right)) rfl (by omega) (by omega) (by first | exact Nat.zero_add _ | rfl)) rfl ?_ | refine aqs rfl (q_iaN Try.underlying69 sz63 (.inr rfl) rfl (by omega) (by first | rfl | assumption | (simp [*]; done) | fail) (by first | rfl | assumption | (simp [*]; done) | fail) (by decide) (by first | ((repeat constructor); done) | exact .same _)) rfl ?_
        first | refine aqs rfl (q_ldpW ag63 sz63 rfl (by repeat (first | exact .here | assumption | (apply HAt.left; assumption) | apply HAt.there | apply HAt.right)) (by first | rfl | assumption | (simp [*]; done) | fail) (by first | rfl | assumption | (simp [*]; done) | fail) (by decide)) rfl ?_ | refine aqs rfl (q_ldW ag63 sz63 rfl (by first | rfl | assumption | (simp [*]; done) | fail)) rfl ?_ | refine aqs rfl (q_ldpP ag63 sz63 rfl (by repeat (first | exact .here | assumption | (apply HAt.left; assumption) | apply HAt.there | apply HAt.right)) (by first | rfl | assumption | (simp [*]; done) | fail) (by first | decide | (simp; done) | omega | fail) (by decide) (by first | ((repeat constructor); done) | exact .same _)) rfl ?_ | refine aqs rfl (q_ldP ag63 sz63 rfl (by first | decide | (simp; done) | omega | fail) (by first | ((repeat constructor); done) | exact .same _)) rfl ?_
        (refine aes rfl (e_al (xs := [.lit (.int .i64 0), .lit (.bool false), .lit (.slice none 0 0)]) (k := 3) zr63 (.same _) rfl) rfl ?_; rintro _ _ ⟨u24, rfl, rfl⟩)
        first | (refine aen rfl (e_stW sz63 rfl (by repeat (first | exact .here | assumption | (apply HAt.left; assumption) | apply HAt.there | apply HAt.right)) (by constructor) (by first | rfl | assumption | (simp [*]; done) | fail) rfl (by repeat (first | exact .here | apply HSet.there))) ?_; rintro _ _ ⟨rfl, rfl⟩) | (refine aen rfl (e_stP sz63 rfl (by repeat (first | exact .here | assumption | (apply HAt.left; assumption) | apply HAt.there | apply HAt.right)) (by first | rfl | assumption | (simp [*]; done) | fail) (by constructor) (by first | rfl | assumption | (simp [*]; done) | fail) rfl (by first | decide | omega) (by first | ((repeat constructor); done) | exact .same _) (by first | exact .one | exact .set) (by repeat (first | exact .here | apply HSet.there))) ?_; rintro _ _ ⟨rfl, rfl⟩)
        refine alist_nil ?_
        show AWP _ _ _ _
        refine awp_seq ?_
        refine awp_seq ?_
        refine awp_draw 10 [(0, false), (1, false), (2, false), (3, false), (4, false), (5, false), (6, false), (7, false), (8, false), (9, false)] _ ([]) mixed (by kernel_rfl) (perm0 _) ?_
        refine glq rfl (.inl ⟨rfl, q_mv (by constructor)⟩) rfl ?_
        refine glq rfl (.inl ⟨rfl, q_mv (by constructor)⟩) rfl ?_
        first | refine glq rfl (.inl ⟨rfl, q_len Try.underlying61 .ro⟩) rfl ?_ | refine glq rfl (.inl ⟨rfl, q_lenO Try.underlying61 rfl (by repeat (first | exact .here | assumption | (apply HAt.left; assumption) | apply HAt.there | apply HAt.right)) (by first | omega | (simp; done) | (simp; omega) | fail) (by first | exact Nat.sub_zero _ | rfl)⟩) rfl ?_ | refine glq rfl (.inl ⟨rfl, q_len Try.underlying61 .nil⟩) rfl ?_ | refine glq rfl (.inl ⟨rfl, q_len Try.underlying61 .cro⟩) rfl ?_
        refine glq rfl (.inl ⟨rfl, q_min rfl rfl⟩) rfl ?_
        first | refine glq rfl (.inl ⟨rfl, castQ (r2 := .ro ((odd.take (min (odd.length : Int) 6).toNat).map Task.cells)) (q_slR Try.underlying61 sz75 (.inl rfl) rfl (by first | (refine ⟨_, _, rfl, ?_⟩; with_reducible rfl) | exact bnd_int rfl (by omega)) (by first | omega | (simp; done) | (simp; omega) | fail) (by first | omega | (simp; done) | (simp; omega) | fail) (by first | rfl | assumption | (simp [*]; done) | fail)) (by simp)⟩) rfl ?_ | refine glq rfl (.inl ⟨rfl, castQ (r2 := .ro ((odd.take (min (odd.length : Int) 6).toNat).map Task.cells)) (q_slO Try.underlying61 sz75 rfl (by repeat (first | exact .here | assumption | (apply HAt.left; assumption) | apply HAt.there | apply HAt.right)) rfl (by first | (refine ⟨_, _, rfl, ?_⟩; with_reducible rfl) | exact bnd_int rfl (by omega)) (by first | omega | (simp; done) | (simp; omega) | fail) (by first | omega | (simp; done) | (simp; omega) | fail) (by first | exact Nat.zero_add _ | rfl) (by first | exact Nat.zero_add _ | rfl)) (by simp)⟩) rfl ?_
        refine glq rfl (.inl ⟨rfl, q_mv (by constructor)⟩) rfl ?_
        first | refine glq rfl (.inl ⟨rfl, e_callN cb65 (tasks65_c more w5.1 _) rfl rfl⟩) rfl ?_ | refine glq rfl (.inl ⟨rfl, e_callN cb65 (ACall.arg (tasks65_c more w5.1 _) (by repeat (first | exact ArgL.nil | (apply ArgL.cons; (· first | exact .same | exact .cro | exact .nil))))) rfl rfl⟩) rfl ?_
        refine glq rfl (.inl ⟨rfl, q_bs Try.underlying70 sz61 zr61 rfl (by first | ((repeat constructor); done) | exact .same _) rfl (by decide) (by repeat (first | exact BS.nil | (apply BS.cons; (· constructor); (· rfl); (· rfl); (· rfl); (· exact (by first | ((repeat constructor); done) | exact .same _)))))⟩) rfl ?_
        first | refine glq rfl (.inl ⟨rfl, q_len Try.underlying70 .ro⟩) rfl ?_ | refine glq rfl (.inl ⟨rfl, q_lenO Try.underlying70 rfl (by repeat (first | exact .here | assumption | (apply HAt.left; assumption) | apply HAt.there | apply HAt.right)) (by first | omega | (simp; done) | (simp; omega) | fail) (by first | exact Nat.sub_zero _ | rfl)⟩) rfl ?_ | refine glq rfl (.inl ⟨rfl, q_len Try.underlying70 .nil⟩) rfl ?_ | refine glq rfl (.inl ⟨rfl, q_len Try.underlying70 .cro⟩) rfl ?_
        refine glq rfl (.inl ⟨rfl, q_mv (by constructor)⟩) rfl ?_
        (first | refine gld0 ?_ | refine gldA ?_)
        refine alist_nil ?_
        show AWP _ _ _ _
        refine awp_block ?_
        refine awp_loop_inv (fun j : Nat => ⟨[(112, .lit (.int .i64 j)), (111, .lit (.int .i64 2)), (110, .cro LL), (24, .ptr u24 0 0), (99, .lit (.int .i64 i)), (98, .lit (.int .i64 3)), (97, .cro QL), (4, .ro (odd.map Task.cells)), (5, .ro (more.map Tri.cells)), (6, .lit (.int .i64 req)), (15, .lit (.bool true))], 239, [(u24, .arr 63 3 [q.cells])]⟩) (fun j => j ≤ 2) (fun j => 2 - j) 0 ?_ ?_ ?_
        · omega
        · exact .mk' (by refine ⟨rfl, rfl, (by rw [hLL]; rfl), rfl, rfl, rfl, rfl, rfl, rfl, rfl, rfl, trivial⟩) (by repeat (first | exact .refl _ | apply List.Sublist.cons_cons | apply List.Sublist.cons))
        · intro j hj
          refine awp_seq ?_
          refine awp_region ?_
          refine aqs rfl (q_lss rfl rfl) rfl ?_
          refine alist_nil ?_
          show AWP _ _ _ _
          refine awp_seq ?_
          refine awp_cond rfl (fun hc2 => ?_) (fun hc2 => ?_)
          · simp only [decide_eq_true_eq] at hc2
            obtain ⟨l, hl, hll⟩ := hL j (by omega)
            have p1 := put_qlen q l
            refine awp_skip ?_
            show AWP _ _ _ _
            refine awp_seq ?_
            refine awp_block ?_
            refine awp_seq ?_
            refine awp_region ?_
            first | refine aqs rfl (q_iaN Try.underlying70 sz61 (.inl rfl) rfl (by omega) (by first | rfl | assumption | (simp [*]; done) | fail) (by first | rfl | assumption | (simp [*]; done) | fail) (by decide) (by first | ((repeat constructor); done) | exact .same _)) rfl ?_ | refine aqs rfl (q_iaS Try.underlying70 sz61 rfl (by repeat (first | exact .here | assumption | (apply HAt.left; assumption) | apply HAt.there | apply HAt.right)) rfl (by omega) (by omega) (by first | exact Nat.zero_add _ | rfl)) rfl ?_ | refine aqs rfl (q_iaN Try.underlying70 sz61 (.inr rfl) rfl (by omega) (by first | rfl | assumption | (simp [*]; done) | fail) (by first | rfl | assumption | (simp [*]; done) | fail) (by decide) (by first | ((repeat constructor); done) | exact .same _)) rfl ?_
            first | refine aqs rfl (q_ldpN ag61 rfl (by repeat (first | exact .here | assumption | (apply HAt.left; assumption) | apply HAt.there | apply HAt.right)) (by first | rfl | assumption | (simp [*]; done) | fail) (by first | rfl | assumption | (simp [*]; done) | fail) (by constructor)) rfl ?_ | refine aqs rfl (q_ld1N ag61 rfl (by constructor)) rfl ?_
            refine aqs rfl (q_as (by constructor)) rfl ?_
            refine alist_nil ?_
            show AWP _ _ _ _
            refine awp_seq ?_
            refine awp_region ?_
            first | refine aqs rfl (q_ldpW ag63 sz63 rfl (by repeat (first | exact .here | assumption | (apply HAt.left; assumption) | apply HAt.there | apply HAt.right)) (by first | rfl | assumption | (simp [*]; done) | fail) (by first | rfl | assumption | (simp [*]; done) | fail) (by decide)) rfl ?_ | refine aqs rfl (q_ldW ag63 sz63 rfl (by first | rfl | assumption | (simp [*]; done) | fail)) rfl ?_ | refine aqs rfl (q_ldpP ag63 sz63 rfl (by repeat (first | exact .here | assumption | (apply HAt.left; assumption) | apply HAt.there | apply HAt.right)) (by first | rfl | assumption | (simp [*]; done) | fail) (by first | decide | (simp; done) | omega | fail) (by decide) (by first | ((repeat constructor); done) | exact .same _)) rfl ?_ | refine aqs rfl (q_ldP ag63 sz63 rfl (by first | decide | (simp; done) | omega | fail) (by first | ((repeat constructor); done) | exact .same _)) rfl ?_
            refine aqs rfl (q_mv (by constructor)) rfl ?_
            first | refine aqs rfl (e_callN cb66 (put66_c q l (by omega) _) rfl rfl) rfl ?_ | refine aqs rfl (e_callN cb66 (ACall.arg (put66_c q l (by omega) _) (by repeat (first | exact ArgL.nil | (apply ArgL.cons; (· first | exact .same | exact .cro | exact .nil))))) rfl rfl) rfl ?_
            refine aqs rfl (q_mv (by constructor)) rfl ?_
            refine aqs rfl (q_ex rfl rfl (by constructor)) rfl ?_
            refine aqs rfl (q_ex rfl rfl (by constructor)) rfl ?_
            refine aqs rfl (q_ex rfl rfl (by constructor)) rfl ?_
            (refine aes rfl (e_al (xs := [.lit (.int .i64 0), .lit (.bool false), .lit (.slice none 0 0)]) (k := 3) zr63 (.same _) rfl) rfl ?_; rintro _ _ ⟨u28, rfl, rfl⟩)
            refine aqs rfl (q_as (by constructor)) rfl ?_
            first | (refine aen rfl (e_stW sz63 rfl (by repeat (first | exact .here | assumption | (apply HAt.left; assumption) | apply HAt.there | apply HAt.right)) (by constructor) (by first | rfl | assumption | (simp [*]; done) | fail) rfl (by repeat (first | exact .here | apply HSet.there))) ?_; rintro _ _ ⟨rfl, rfl⟩) | (refine aen rfl (e_stP sz63 rfl (by repeat (first | exact .here | assumption | (apply HAt.left; assumption) | apply HAt.there | apply HAt.right)) (by first | rfl | assumption | (simp [*]; done) | fail) (by constructor) (by first | rfl | assumption | (simp [*]; done) | fail) rfl (by first | decide | omega) (by first | ((repeat constructor); done) | exact .same _) (by first | exact .one | exact .set) (by repeat (first | exact .here | apply HSet.there))) ?_; rintro _ _ ⟨rfl, rfl⟩)
            refine aqs rfl (q_as (by constructor)) rfl ?_
            refine alist_nil ?_
            show AWP _ _ _ _
            refine awp_seq ?_
            refine awp_region ?_
            first | refine aqs rfl (q_ldpW ag63 sz63 rfl (by repeat (first | exact .here | assumption | (apply HAt.left; assumption) | apply HAt.there | apply HAt.right)) (by first | rfl | assumption | (simp [*]; done) | fail) (by first | rfl | assumption | (simp [*]; done) | fail) (by decide)) rfl ?_ | refine aqs rfl (q_ldW ag63 sz63 rfl (by first | rfl | assumption | (simp [*]; done) | fail)) rfl ?_ | refine aqs rfl (q_ldpP ag63 sz63 rfl (by repeat (first | exact .here | assumption | (apply HAt.left; assumption) | apply HAt.there | apply HAt.right)) (by first | rfl | assumption | (simp [*]; done) | fail) (by first | decide | (simp; done) | omega | fail) (by decide) (by first | ((repeat constructor); done) | exact .same _)) rfl ?_ | refine aqs rfl (q_ldP ag63 sz63 rfl (by first | decide | (simp; done) | omega | fail) (by first | ((repeat constructor); done) | exact .same _)) rfl ?_
            refine aqs rfl (q_mv (by constructor)) rfl ?_
            first | refine aqs rfl (e_callN cb67 (put67_c q l (by omega) _) rfl rfl) rfl ?_ | refine aqs rfl (e_callN cb67 (ACall.arg (put67_c q l (by omega) _) (by repeat (first | exact ArgL.nil | (apply ArgL.cons; (· first | exact .same | exact .cro | exact .nil))))) rfl rfl) rfl ?_
            refine aqs rfl (q_mv (by constructor)) rfl ?_
            refine aqs rfl (q_ex rfl rfl (by constructor)) rfl ?_
            refine aqs rfl (q_ex rfl rfl (by constructor)) rfl ?_
            refine aqs rfl (q_ex rfl rfl (by constructor)) rfl ?_
            (refine aes rfl (e_al (xs := [.lit (.int .i64 0), .lit (.bool false), .lit (.slice none 0 0)]) (k := 3) zr63 (.same _) rfl) rfl ?_; rintro _ _ ⟨u31, rfl, rfl⟩)
            refine aqs rfl (q_as (by constructor)) rfl ?_
            first | (refine aen rfl (e_stW sz63 rfl (by repeat (first | exact .here | assumption | (apply HAt.left; assumption) | apply HAt.there | apply HAt.right)) (by constructor) (by first | rfl | assumption | (simp [*]; done) | fail) rfl (by repeat (first | exact .here | apply HSet.there))) ?_; rintro _ _ ⟨rfl, rfl⟩) | (refine aen rfl (e_stP sz63 rfl (by repeat (first | exact .here | assumption | (apply HAt.left; assumption) | apply HAt.there | apply HAt.right)) (by first | rfl | assumption | (simp [*]; done) | fail) (by constructor) (by first | rfl | assumption | (simp [*]; done) | fail) rfl (by first | decide | omega) (by first | ((repeat constructor); done) | exact .same _) (by first | exact .one | exact .set) (by repeat (first | exact .here | apply HSet.there))) ?_; rintro _ _ ⟨rfl, rfl⟩)
            refine aqs rfl (q_as (by constructor)) rfl ?_
            refine alist_nil ?_
            show AWP _ _ _ _
            refine awp_seq ?_
            refine awp_region ?_
            refine aqs rfl (q_mv (by constructor)) rfl ?_
            refine aqs rfl (q_mv (by constructor)) rfl ?_
            refine aqs rfl (castF (q_neq rfl rfl) (by simp)) rfl ?_
            refine aqs rfl (q_mv (by constructor)) rfl ?_
            first | refine ans rfl rfl ?_ | refine aqs rfl (q_mv (by constructor)) rfl ?_
            first | refine ans rfl rfl ?_ | refine aqs rfl (q_mv (by constructor)) rfl ?_
            first | refine ans rfl rfl ?_ | refine aqs rfl (castF (q_neq rfl rfl) (by simp)) rfl ?_
            first | refine aqs rfl (q_pickT rfl (by constructor)) rfl ?_ | refine aqs rfl (q_pickF rfl (by constructor)) rfl ?_
            refine aqs rfl (q_mv (by constructor)) rfl ?_
            first | refine ans rfl rfl ?_ | refine aqs rfl (q_ldpW ag63 sz63 rfl (by repeat (first | exact .here | assumption | (apply HAt.left; assumption) | apply HAt.there | apply HAt.right)) (by first | rfl | assumption | (simp [*]; done) | fail) (by first | rfl | assumption | (simp [*]; done) | fail) (by decide)) rfl ?_ | refine aqs rfl (q_ldW ag63 sz63 rfl (by first | rfl | assumption | (simp [*]; done) | fail)) rfl ?_ | refine aqs rfl (q_ldpP ag63 sz63 rfl (by repeat (first | exact .here | assumption | (apply HAt.left; assumption) | apply HAt.there | apply HAt.right)) (by first | rfl | assumption | (simp [*]; done) | fail) (by first | decide | (simp; done) | omega | fail) (by decide) (by first | ((repeat constructor); done) | exact .same _)) rfl ?_ | refine aqs rfl (q_ldP ag63 sz63 rfl (by first | decide | (simp; done) | omega | fail) (by first | ((repeat constructor); done) | exact .same _)) rfl ?_
            first | refine ans rfl rfl ?_ | refine aqs rfl (q_ldpW ag63 sz63 rfl (by repeat (first | exact .here | assumption | (apply HAt.left; assumption) | apply HAt.there | apply HAt.right)) (by first | rfl | assumption | (simp [*]; done) | fail) (by first | rfl | assumption | (simp [*]; done) | fail) (by decide)) rfl ?_ | refine aqs rfl (q_ldW ag63 sz63 rfl (by first | rfl | assumption | (simp [*]; done) | fail)) rfl ?_ | refine aqs rfl (q_ldpP ag63 sz63 rfl (by repeat (first | exact .here | assumption | (apply HAt.left; assumption) | apply HAt.there | apply HAt.right)) (by first | rfl | assumption | (simp [*]; done) | fail) (by first | decide | (simp; done) | omega | fail) (by decide) (by first | ((repeat constructor); done) | exact .same _)) rfl ?_ | refine aqs rfl (q_ldP ag63 sz63 rfl (by first | decide | (simp; done) | omega | fail) (by first | ((repeat constructor); done) | exact .same _)) rfl ?_
            first | refine aqs rfl (castT (e_callN cb63 (same63_c _ _ (by omega) (by omega) _) rfl rfl) (by simp)) rfl ?_ | refine aqs rfl (castT (e_callN cb63 (ACall.arg (same63_c _ _ (by omega) (by omega) _) (by repeat (first | exact ArgL.nil | (apply ArgL.cons; (· first | exact .same | exact .cro | exact .nil))))) rfl rfl) (by simp)) rfl ?_
            first | refine ans rfl rfl ?_ | refine aqs rfl (q_not rfl) rfl ?_
            first | refine aqs rfl (q_pickT rfl (by constructor)) rfl ?_ | refine aqs rfl (q_pickF rfl (by constructor)) rfl ?_
            refine alist_nil ?_
            show AWP _ _ _ _
            refine awp_cond rfl (fun hc3 => ?_) (fun hc3 => ?_)
            · exfalso; first | (simp at hc3; done) | (simp at hc3; omega) | contradiction
            · try simp only [decide_eq_true_eq, decide_eq_false_iff_not, Bool.not_eq_true', Bool.not_eq_false', Bool.not_eq_eq_eq_not, Bool.not_true, Bool.not_false, beq_iff_eq, beq_eq_false_iff_ne, Int.not_lt, Int.not_le] at hc3
              refine awp_skip ?_
              show AWP _ _ _ _
              refine awp_region ?_
              first | refine aqs rfl (q_add64 rfl rfl (by omega) (by omega)) rfl ?_ | refine aqs rfl (q_add rfl rfl) rfl ?_
              refine aqs rfl (q_mv (by constructor)) rfl ?_
              refine alist_nil ?_
              show ∃ y, _ ∧ _ ∧ _
              exact ⟨j + 1, by omega, by omega, .mk' ⟨by rfl, rfl, rfl, rfl, rfl, rfl, rfl, rfl, rfl, rfl, rfl, trivial⟩ (by repeat (first | exact List.Sublist.refl _ | exact List.nil_sublist _ | exact List.sublist_append_left _ _ | (apply List.Sublist.cons_cons) | (apply List.Sublist.cons)))⟩
          · skip
            refine awp_exit ?_
            show AWP _ _ _ _
            refine awp_seq ?_
            refine awp_region ?_
            first | refine aqs rfl (q_ldpW ag63 sz63 rfl (by repeat (first | exact .here | assumption | (apply HAt.left; assumption) | apply HAt.there | apply HAt.right)) (by first | rfl | assumption | (simp [*]; done) | fail) (by first | rfl | assumption | (simp [*]; done) | fail) (by decide)) rfl ?_ | refine aqs rfl (q_ldW ag63 sz63 rfl (by first | rfl | assumption | (simp [*]; done) | fail)) rfl ?_ | refine aqs rfl (q_ldpP ag63 sz63 rfl (by repeat (first | exact .here | assumption | (apply HAt.left; assumption) | apply HAt.there | apply HAt.right)) (by first | rfl | assumption | (simp [*]; done) | fail) (by first | decide | (simp; done) | omega | fail) (by decide) (by first | ((repeat constructor); done) | exact .same _)) rfl ?_ | refine aqs rfl (q_ldP ag63 sz63 rfl (by first | decide | (simp; done) | omega | fail) (by first | ((repeat constructor); done) | exact .same _)) rfl ?_
            first | refine aqs rfl (e_callN cb68 (take68_c q _) rfl rfl) rfl ?_ | refine aqs rfl (e_callN cb68 (ACall.arg (take68_c q _) (by repeat (first | exact ArgL.nil | (apply ArgL.cons; (· first | exact .same | exact .cro | exact .nil))))) rfl rfl) rfl ?_
            refine aqs rfl (q_mv (by constructor)) rfl ?_
            refine aqs rfl (q_ex rfl rfl (by constructor)) rfl ?_
            refine aqs rfl (q_ex rfl rfl (by constructor)) rfl ?_
            refine aqs rfl (q_ex rfl rfl (by constructor)) rfl ?_
            (refine aes rfl (e_al (xs := [.lit (.int .i64 0), .lit (.int .i64 0), .lit (.string ⟨#[]⟩), .lit (.string ⟨#[]⟩)]) (k := 4) zr75 (.same _) rfl) rfl ?_; rintro _ _ ⟨u33, rfl, rfl⟩)
            (refine aes rfl (e_al (xs := [.lit (.int .i64 0), .lit (.bool false), .lit (.slice none 0 0)]) (k := 3) zr63 (.same _) rfl) rfl ?_; rintro _ _ ⟨u34, rfl, rfl⟩)
            first | (refine aen rfl (e_stW sz75 rfl (by repeat (first | exact .here | assumption | (apply HAt.left; assumption) | apply HAt.there | apply HAt.right)) (by constructor) (by first | rfl | assumption | (simp [*]; done) | fail) rfl (by repeat (first | exact .here | apply HSet.there))) ?_; rintro _ _ ⟨rfl, rfl⟩) | (refine aen rfl (e_stP sz75 rfl (by repeat (first | exact .here | assumption | (apply HAt.left; assumption) | apply HAt.there | apply HAt.right)) (by first | rfl | assumption | (simp [*]; done) | fail) (by constructor) (by first | rfl | assumption | (simp [*]; done) | fail) rfl (by first | decide | omega) (by first | ((repeat constructor); done) | exact .same _) (by first | exact .one | exact .set) (by repeat (first | exact .here | apply HSet.there))) ?_; rintro _ _ ⟨rfl, rfl⟩)
            first | (refine aen rfl (e_stW sz63 rfl (by repeat (first | exact .here | assumption | (apply HAt.left; assumption) | apply HAt.there | apply HAt.right)) (by constructor) (by first | rfl | assumption | (simp [*]; done) | fail) rfl (by repeat (first | exact .here | apply HSet.there))) ?_; rintro _ _ ⟨rfl, rfl⟩) | (refine aen rfl (e_stP sz63 rfl (by repeat (first | exact .here | assumption | (apply HAt.left; assumption) | apply HAt.there | apply HAt.right)) (by first | rfl | assumption | (simp [*]; done) | fail) (by constructor) (by first | rfl | assumption | (simp [*]; done) | fail) rfl (by first | decide | omega) (by first | ((repeat constructor); done) | exact .same _) (by first | exact .one | exact .set) (by repeat (first | exact .here | apply HSet.there))) ?_; rintro _ _ ⟨rfl, rfl⟩)
            refine aqs rfl (q_as (by constructor)) rfl ?_
            refine alist_nil ?_
            show AWP _ _ _ _
            refine awp_seq ?_
            refine awp_region ?_
            first | refine aqs rfl (q_ldpW ag63 sz63 rfl (by repeat (first | exact .here | assumption | (apply HAt.left; assumption) | apply HAt.there | apply HAt.right)) (by first | rfl | assumption | (simp [*]; done) | fail) (by first | rfl | assumption | (simp [*]; done) | fail) (by decide)) rfl ?_ | refine aqs rfl (q_ldW ag63 sz63 rfl (by first | rfl | assumption | (simp [*]; done) | fail)) rfl ?_ | refine aqs rfl (q_ldpP ag63 sz63 rfl (by repeat (first | exact .here | assumption | (apply HAt.left; assumption) | apply HAt.there | apply HAt.right)) (by first | rfl | assumption | (simp [*]; done) | fail) (by first | decide | (simp; done) | omega | fail) (by decide) (by first | ((repeat constructor); done) | exact .same _)) rfl ?_ | refine aqs rfl (q_ldP ag63 sz63 rfl (by first | decide | (simp; done) | omega | fail) (by first | ((repeat constructor); done) | exact .same _)) rfl ?_
            first | refine aqs rfl (e_callN cb69 (take69_c q _) rfl rfl) rfl ?_ | refine aqs rfl (e_callN cb69 (ACall.arg (take69_c q _) (by repeat (first | exact ArgL.nil | (apply ArgL.cons; (· first | exact .same | exact .cro | exact .nil))))) rfl rfl) rfl ?_
            refine aqs rfl (q_mv (by constructor)) rfl ?_
            refine aqs rfl (q_ex rfl rfl (by constructor)) rfl ?_
            refine aqs rfl (q_ex rfl rfl (by constructor)) rfl ?_
            refine aqs rfl (q_ex rfl rfl (by constructor)) rfl ?_
            (refine aes rfl (e_al (xs := [.lit (.int .i64 0), .lit (.int .i64 0), .lit (.string ⟨#[]⟩), .lit (.string ⟨#[]⟩)]) (k := 4) zr75 (.same _) rfl) rfl ?_; rintro _ _ ⟨u36, rfl, rfl⟩)
            (refine aes rfl (e_al (xs := [.lit (.int .i64 0), .lit (.bool false), .lit (.slice none 0 0)]) (k := 3) zr63 (.same _) rfl) rfl ?_; rintro _ _ ⟨u37, rfl, rfl⟩)
            first | (refine aen rfl (e_stW sz75 rfl (by repeat (first | exact .here | assumption | (apply HAt.left; assumption) | apply HAt.there | apply HAt.right)) (by constructor) (by first | rfl | assumption | (simp [*]; done) | fail) rfl (by repeat (first | exact .here | apply HSet.there))) ?_; rintro _ _ ⟨rfl, rfl⟩) | (refine aen rfl (e_stP sz75 rfl (by repeat (first | exact .here | assumption | (apply HAt.left; assumption) | apply HAt.there | apply HAt.right)) (by first | rfl | assumption | (simp [*]; done) | fail) (by constructor) (by first | rfl | assumption | (simp [*]; done) | fail) rfl (by first | decide | omega) (by first | ((repeat constructor); done) | exact .same _) (by first | exact .one | exact .set) (by repeat (first | exact .here | apply HSet.there))) ?_; rintro _ _ ⟨rfl, rfl⟩)
            first | (refine aen rfl (e_stW sz63 rfl (by repeat (first | exact .here | assumption | (apply HAt.left; assumption) | apply HAt.there | apply HAt.right)) (by constructor) (by first | rfl | assumption | (simp [*]; done) | fail) rfl (by repeat (first | exact .here | apply HSet.there))) ?_; rintro _ _ ⟨rfl, rfl⟩) | (refine aen rfl (e_stP sz63 rfl (by repeat (first | exact .here | assumption | (apply HAt.left; assumption) | apply HAt.there | apply HAt.right)) (by first | rfl | assumption | (simp [*]; done) | fail) (by constructor) (by first | rfl | assumption | (simp [*]; done) | fail) rfl (by first | decide | omega) (by first | ((repeat constructor); done) | exact .same _) (by first | exact .one | exact .set) (by repeat (first | exact .here | apply HSet.there))) ?_; rintro _ _ ⟨rfl, rfl⟩)
            refine aqs rfl (q_as (by constructor)) rfl ?_
            refine alist_nil ?_
            show AWP _ _ _ _
            refine awp_seq ?_
            refine awp_region ?_
            first | refine aqs rfl (q_ldpW ag63 sz63 rfl (by repeat (first | exact .here | assumption | (apply HAt.left; assumption) | apply HAt.there | apply HAt.right)) (by first | rfl | assumption | (simp [*]; done) | fail) (by first | rfl | assumption | (simp [*]; done) | fail) (by decide)) rfl ?_ | refine aqs rfl (q_ldW ag63 sz63 rfl (by first | rfl | assumption | (simp [*]; done) | fail)) rfl ?_ | refine aqs rfl (q_ldpP ag63 sz63 rfl (by repeat (first | exact .here | assumption | (apply HAt.left; assumption) | apply HAt.there | apply HAt.right)) (by first | rfl | assumption | (simp [*]; done) | fail) (by first | decide | (simp; done) | omega | fail) (by decide) (by first | ((repeat constructor); done) | exact .same _)) rfl ?_ | refine aqs rfl (q_ldP ag63 sz63 rfl (by first | decide | (simp; done) | omega | fail) (by first | ((repeat constructor); done) | exact .same _)) rfl ?_
            first | refine aqs rfl (e_callN cb70 (close70_c q _) rfl rfl) rfl ?_ | refine aqs rfl (e_callN cb70 (ACall.arg (close70_c q _) (by repeat (first | exact ArgL.nil | (apply ArgL.cons; (· first | exact .same | exact .cro | exact .nil))))) rfl rfl) rfl ?_
            refine aqs rfl (q_mv (by constructor)) rfl ?_
            refine aqs rfl (q_ex rfl rfl (by constructor)) rfl ?_
            refine aqs rfl (q_ex rfl rfl (by constructor)) rfl ?_
            (refine aes rfl (e_al (xs := [.lit (.int .i64 0), .lit (.bool false), .lit (.slice none 0 0)]) (k := 3) zr63 (.same _) rfl) rfl ?_; rintro _ _ ⟨u39, rfl, rfl⟩)
            first | (refine aen rfl (e_stW sz63 rfl (by repeat (first | exact .here | assumption | (apply HAt.left; assumption) | apply HAt.there | apply HAt.right)) (by constructor) (by first | rfl | assumption | (simp [*]; done) | fail) rfl (by repeat (first | exact .here | apply HSet.there))) ?_; rintro _ _ ⟨rfl, rfl⟩) | (refine aen rfl (e_stP sz63 rfl (by repeat (first | exact .here | assumption | (apply HAt.left; assumption) | apply HAt.there | apply HAt.right)) (by first | rfl | assumption | (simp [*]; done) | fail) (by constructor) (by first | rfl | assumption | (simp [*]; done) | fail) rfl (by first | decide | omega) (by first | ((repeat constructor); done) | exact .same _) (by first | exact .one | exact .set) (by repeat (first | exact .here | apply HSet.there))) ?_; rintro _ _ ⟨rfl, rfl⟩)
            refine aqs rfl (q_as (by constructor)) rfl ?_
            refine alist_nil ?_
            show AWP _ _ _ _
            refine awp_seq ?_
            refine awp_region ?_
            first | refine aqs rfl (q_ldpW ag63 sz63 rfl (by repeat (first | exact .here | assumption | (apply HAt.left; assumption) | apply HAt.there | apply HAt.right)) (by first | rfl | assumption | (simp [*]; done) | fail) (by first | rfl | assumption | (simp [*]; done) | fail) (by decide)) rfl ?_ | refine aqs rfl (q_ldW ag63 sz63 rfl (by first | rfl | assumption | (simp [*]; done) | fail)) rfl ?_ | refine aqs rfl (q_ldpP ag63 sz63 rfl (by repeat (first | exact .here | assumption | (apply HAt.left; assumption) | apply HAt.there | apply HAt.right)) (by first | rfl | assumption | (simp [*]; done) | fail) (by first | decide | (simp; done) | omega | fail) (by decide) (by first | ((repeat constructor); done) | exact .same _)) rfl ?_ | refine aqs rfl (q_ldP ag63 sz63 rfl (by first | decide | (simp; done) | omega | fail) (by first | ((repeat constructor); done) | exact .same _)) rfl ?_
            first | refine aqs rfl (e_callN cb71 (close71_c q _) rfl rfl) rfl ?_ | refine aqs rfl (e_callN cb71 (ACall.arg (close71_c q _) (by repeat (first | exact ArgL.nil | (apply ArgL.cons; (· first | exact .same | exact .cro | exact .nil))))) rfl rfl) rfl ?_
            refine aqs rfl (q_mv (by constructor)) rfl ?_
            refine aqs rfl (q_ex rfl rfl (by constructor)) rfl ?_
            refine aqs rfl (q_ex rfl rfl (by constructor)) rfl ?_
            (refine aes rfl (e_al (xs := [.lit (.int .i64 0), .lit (.bool false), .lit (.slice none 0 0)]) (k := 3) zr63 (.same _) rfl) rfl ?_; rintro _ _ ⟨u41, rfl, rfl⟩)
            first | (refine aen rfl (e_stW sz63 rfl (by repeat (first | exact .here | assumption | (apply HAt.left; assumption) | apply HAt.there | apply HAt.right)) (by constructor) (by first | rfl | assumption | (simp [*]; done) | fail) rfl (by repeat (first | exact .here | apply HSet.there))) ?_; rintro _ _ ⟨rfl, rfl⟩) | (refine aen rfl (e_stP sz63 rfl (by repeat (first | exact .here | assumption | (apply HAt.left; assumption) | apply HAt.there | apply HAt.right)) (by first | rfl | assumption | (simp [*]; done) | fail) (by constructor) (by first | rfl | assumption | (simp [*]; done) | fail) rfl (by first | decide | omega) (by first | ((repeat constructor); done) | exact .same _) (by first | exact .one | exact .set) (by repeat (first | exact .here | apply HSet.there))) ?_; rintro _ _ ⟨rfl, rfl⟩)
            refine aqs rfl (q_as (by constructor)) rfl ?_
            refine alist_nil ?_
            show AWP _ _ _ _
            refine awp_seq ?_
            refine awp_seq ?_
            refine awp_draw 32 [(0, false), (1, false), (2, false), (3, false), (4, false), (5, false), (6, false), (7, false), (8, false), (9, false), (10, false), (11, false), (12, false), (13, false), (14, false), (15, false), (16, false), (17, false), (18, false), (19, false), (20, false), (21, false), (22, false), (23, false), (24, false), (25, false), (26, false), (27, false), (28, false), (29, false), (30, false), (31, false)] _ ([]) mixed (by kernel_rfl) (perm0 _) ?_
            first | refine glq rfl (.inl ⟨rfl, q_ldpW ag75 sz75 rfl (by repeat (first | exact .here | assumption | (apply HAt.left; assumption) | apply HAt.there | apply HAt.right)) (by first | rfl | assumption | (simp [*]; done) | fail) (by first | rfl | assumption | (simp [*]; done) | fail) (by decide)⟩) rfl ?_ | refine glq rfl (.inl ⟨rfl, q_ldW ag75 sz75 rfl (by first | rfl | assumption | (simp [*]; done) | fail)⟩) rfl ?_ | refine glq rfl (.inl ⟨rfl, q_ldpP ag75 sz75 rfl (by repeat (first | exact .here | assumption | (apply HAt.left; assumption) | apply HAt.there | apply HAt.right)) (by first | rfl | assumption | (simp [*]; done) | fail) (by first | decide | (simp; done) | omega | fail) (by decide) (by first | ((repeat constructor); done) | exact .same _)⟩) rfl ?_ | refine glq rfl (.inl ⟨rfl, q_ldP ag75 sz75 rfl (by first | decide | (simp; done) | omega | fail) (by first | ((repeat constructor); done) | exact .same _)⟩) rfl ?_
            first | refine glq rfl (.inl ⟨rfl, q_ldpW ag75 sz75 rfl (by repeat (first | exact .here | assumption | (apply HAt.left; assumption) | apply HAt.there | apply HAt.right)) (by first | rfl | assumption | (simp [*]; done) | fail) (by first | rfl | assumption | (simp [*]; done) | fail) (by decide)⟩) rfl ?_ | refine glq rfl (.inl ⟨rfl, q_ldW ag75 sz75 rfl (by first | rfl | assumption | (simp [*]; done) | fail)⟩) rfl ?_ | refine glq rfl (.inl ⟨rfl, q_ldpP ag75 sz75 rfl (by repeat (first | exact .here | assumption | (apply HAt.left; assumption) | apply HAt.there | apply HAt.right)) (by first | rfl | assumption | (simp [*]; done) | fail) (by first | decide | (simp; done) | omega | fail) (by decide) (by first | ((repeat constructor); done) | exact .same _)⟩) rfl ?_ | refine glq rfl (.inl ⟨rfl, q_ldP ag75 sz75 rfl (by first | decide | (simp; done) | omega | fail) (by first | ((repeat constructor); done) | exact .same _)⟩) rfl ?_
            refine glq rfl (.inl ⟨rfl, castF (q_neqA gd75 rfl rfl (by repeat constructor) (by repeat constructor) (fun w => eq75 w)) (by rw [teq]; simp)⟩) rfl ?_
            refine glq rfl (.inl ⟨rfl, q_mv (by constructor)⟩) rfl ?_
            first | refine glq rfl (.inl ⟨rfl, q_mv (by constructor)⟩) rfl ?_ | refine glq rfl (.inr ⟨rfl, rfl⟩) rfl ?_
            first | refine glq rfl (.inl ⟨rfl, q_mv (by constructor)⟩) rfl ?_ | refine glq rfl (.inr ⟨rfl, rfl⟩) rfl ?_
            first | refine glq rfl (.inl ⟨rfl, castF (q_neq rfl rfl) (by simp)⟩) rfl ?_ | refine glq rfl (.inr ⟨rfl, rfl⟩) rfl ?_
            first | refine glq rfl (.inl ⟨rfl, q_pickT rfl (by constructor)⟩) rfl ?_ | refine glq rfl (.inl ⟨rfl, q_pickF rfl (by constructor)⟩) rfl ?_
            refine glq rfl (.inl ⟨rfl, q_mv (by constructor)⟩) rfl ?_
            first | refine glq rfl (.inl ⟨rfl, q_ldpW ag63 sz63 rfl (by repeat (first | exact .here | assumption | (apply HAt.left; assumption) | apply HAt.there | apply HAt.right)) (by first | rfl | assumption | (simp [*]; done) | fail) (by first | rfl | assumption | (simp [*]; done) | fail) (by decide)⟩) rfl ?_ | refine glq rfl (.inl ⟨rfl, q_ldW ag63 sz63 rfl (by first | rfl | assumption | (simp [*]; done) | fail)⟩) rfl ?_ | refine glq rfl (.inl ⟨rfl, q_ldpP ag63 sz63 rfl (by repeat (first | exact .here | assumption | (apply HAt.left; assumption) | apply HAt.there | apply HAt.right)) (by first | rfl | assumption | (simp [*]; done) | fail) (by first | decide | (simp; done) | omega | fail) (by decide) (by first | ((repeat constructor); done) | exact .same _)⟩) rfl ?_ | refine glq rfl (.inl ⟨rfl, q_ldP ag63 sz63 rfl (by first | decide | (simp; done) | omega | fail) (by first | ((repeat constructor); done) | exact .same _)⟩) rfl ?_ | refine glq rfl (.inr ⟨rfl, rfl⟩) rfl ?_
            first | refine glq rfl (.inl ⟨rfl, q_ldpW ag63 sz63 rfl (by repeat (first | exact .here | assumption | (apply HAt.left; assumption) | apply HAt.there | apply HAt.right)) (by first | rfl | assumption | (simp [*]; done) | fail) (by first | rfl | assumption | (simp [*]; done) | fail) (by decide)⟩) rfl ?_ | refine glq rfl (.inl ⟨rfl, q_ldW ag63 sz63 rfl (by first | rfl | assumption | (simp [*]; done) | fail)⟩) rfl ?_ | refine glq rfl (.inl ⟨rfl, q_ldpP ag63 sz63 rfl (by repeat (first | exact .here | assumption | (apply HAt.left; assumption) | apply HAt.there | apply HAt.right)) (by first | rfl | assumption | (simp [*]; done) | fail) (by first | decide | (simp; done) | omega | fail) (by decide) (by first | ((repeat constructor); done) | exact .same _)⟩) rfl ?_ | refine glq rfl (.inl ⟨rfl, q_ldP ag63 sz63 rfl (by first | decide | (simp; done) | omega | fail) (by first | ((repeat constructor); done) | exact .same _)⟩) rfl ?_ | refine glq rfl (.inr ⟨rfl, rfl⟩) rfl ?_
            first | refine glq rfl (.inl ⟨rfl, castT (e_callN cb63 (same63_c _ _ (by omega) (by omega) _) rfl rfl) (by simp)⟩) rfl ?_ | refine glq rfl (.inl ⟨rfl, castT (e_callN cb63 (ACall.arg (same63_c _ _ (by omega) (by omega) _) (by repeat (first | exact ArgL.nil | (apply ArgL.cons; (· first | exact .same | exact .cro | exact .nil))))) rfl rfl) (by simp)⟩) rfl ?_
            first | refine glq rfl (.inl ⟨rfl, q_not rfl⟩) rfl ?_ | refine glq rfl (.inr ⟨rfl, rfl⟩) rfl ?_
            first | refine glq rfl (.inl ⟨rfl, q_pickT rfl (by constructor)⟩) rfl ?_ | refine glq rfl (.inl ⟨rfl, q_pickF rfl (by constructor)⟩) rfl ?_
            refine glq rfl (.inl ⟨rfl, q_mv (by constructor)⟩) rfl ?_
            first | refine glq rfl (.inl ⟨rfl, q_mv (by constructor)⟩) rfl ?_ | refine glq rfl (.inr ⟨rfl, rfl⟩) rfl ?_
            first | refine glq rfl (.inl ⟨rfl, q_mv (by constructor)⟩) rfl ?_ | refine glq rfl (.inr ⟨rfl, rfl⟩) rfl ?_
            first | refine glq rfl (.inl ⟨rfl, castF (q_neq rfl rfl) (by simp)⟩) rfl ?_ | refine glq rfl (.inr ⟨rfl, rfl⟩) rfl ?_
            first | refine glq rfl (.inl ⟨rfl, q_pickT rfl (by constructor)⟩) rfl ?_ | refine glq rfl (.inl ⟨rfl, q_pickF rfl (by constructor)⟩) rfl ?_
            refine glq rfl (.inl ⟨rfl, q_mv (by constructor)⟩) rfl ?_
            first | refine glq rfl (.inl ⟨rfl, q_ldpW ag63 sz63 rfl (by repeat (first | exact .here | assumption | (apply HAt.left; assumption) | apply HAt.there | apply HAt.right)) (by first | rfl | assumption | (simp [*]; done) | fail) (by first | rfl | assumption | (simp [*]; done) | fail) (by decide)⟩) rfl ?_ | refine glq rfl (.inl ⟨rfl, q_ldW ag63 sz63 rfl (by first | rfl | assumption | (simp [*]; done) | fail)⟩) rfl ?_ | refine glq rfl (.inl ⟨rfl, q_ldpP ag63 sz63 rfl (by repeat (first | exact .here | assumption | (apply HAt.left; assumption) | apply HAt.there | apply HAt.right)) (by first | rfl | assumption | (simp [*]; done) | fail) (by first | decide | (simp; done) | omega | fail) (by decide) (by first | ((repeat constructor); done) | exact .same _)⟩) rfl ?_ | refine glq rfl (.inl ⟨rfl, q_ldP ag63 sz63 rfl (by first | decide | (simp; done) | omega | fail) (by first | ((repeat constructor); done) | exact .same _)⟩) rfl ?_ | refine glq rfl (.inr ⟨rfl, rfl⟩) rfl ?_
            first | refine glq rfl (.inl ⟨rfl, q_ldpW ag63 sz63 rfl (by repeat (first | exact .here | assumption | (apply HAt.left; assumption) | apply HAt.there | apply HAt.right)) (by first | rfl | assumption | (simp [*]; done) | fail) (by first | rfl | assumption | (simp [*]; done) | fail) (by decide)⟩) rfl ?_ | refine glq rfl (.inl ⟨rfl, q_ldW ag63 sz63 rfl (by first | rfl | assumption | (simp [*]; done) | fail)⟩) rfl ?_ | refine glq rfl (.inl ⟨rfl, q_ldpP ag63 sz63 rfl (by repeat (first | exact .here | assumption | (apply HAt.left; assumption) | apply HAt.there | apply HAt.right)) (by first | rfl | assumption | (simp [*]; done) | fail) (by first | decide | (simp; done) | omega | fail) (by decide) (by first | ((repeat constructor); done) | exact .same _)⟩) rfl ?_ | refine glq rfl (.inl ⟨rfl, q_ldP ag63 sz63 rfl (by first | decide | (simp; done) | omega | fail) (by first | ((repeat constructor); done) | exact .same _)⟩) rfl ?_ | refine glq rfl (.inr ⟨rfl, rfl⟩) rfl ?_
            first | refine glq rfl (.inl ⟨rfl, castT (e_callN cb63 (same63_c _ _ (by omega) (by omega) _) rfl rfl) (by simp)⟩) rfl ?_ | refine glq rfl (.inl ⟨rfl, castT (e_callN cb63 (ACall.arg (same63_c _ _ (by omega) (by omega) _) (by repeat (first | exact ArgL.nil | (apply ArgL.cons; (· first | exact .same | exact .cro | exact .nil))))) rfl rfl) (by simp)⟩) rfl ?_
            first | refine glq rfl (.inl ⟨rfl, q_not rfl⟩) rfl ?_ | refine glq rfl (.inr ⟨rfl, rfl⟩) rfl ?_
            first | refine glq rfl (.inl ⟨rfl, q_pickT rfl (by constructor)⟩) rfl ?_ | refine glq rfl (.inl ⟨rfl, q_pickF rfl (by constructor)⟩) rfl ?_
            refine glq rfl (.inl ⟨rfl, q_mv (by constructor)⟩) rfl ?_
            first | refine glq rfl (.inl ⟨rfl, q_ldpW ag63 sz63 rfl (by repeat (first | exact .here | assumption | (apply HAt.left; assumption) | apply HAt.there | apply HAt.right)) (by first | rfl | assumption | (simp [*]; done) | fail) (by first | rfl | assumption | (simp [*]; done) | fail) (by decide)⟩) rfl ?_ | refine glq rfl (.inl ⟨rfl, q_ldW ag63 sz63 rfl (by first | rfl | assumption | (simp [*]; done) | fail)⟩) rfl ?_ | refine glq rfl (.inl ⟨rfl, q_ldpP ag63 sz63 rfl (by repeat (first | exact .here | assumption | (apply HAt.left; assumption) | apply HAt.there | apply HAt.right)) (by first | rfl | assumption | (simp [*]; done) | fail) (by first | decide | (simp; done) | omega | fail) (by decide) (by first | ((repeat constructor); done) | exact .same _)⟩) rfl ?_ | refine glq rfl (.inl ⟨rfl, q_ldP ag63 sz63 rfl (by first | decide | (simp; done) | omega | fail) (by first | ((repeat constructor); done) | exact .same _)⟩) rfl ?_ | refine glq rfl (.inr ⟨rfl, rfl⟩) rfl ?_
            first | refine glq rfl (.inl ⟨rfl, e_callN cb72 (right72_c q _) rfl rfl⟩) rfl ?_ | refine glq rfl (.inl ⟨rfl, e_callN cb72 (ACall.arg (right72_c q _) (by repeat (first | exact ArgL.nil | (apply ArgL.cons; (· first | exact .same | exact .cro | exact .nil))))) rfl rfl⟩) rfl ?_ | refine glq rfl (.inr ⟨rfl, rfl⟩) rfl ?_
            first | refine glq rfl (.inl ⟨rfl, q_ldpW ag63 sz63 rfl (by repeat (first | exact .here | assumption | (apply HAt.left; assumption) | apply HAt.there | apply HAt.right)) (by first | rfl | assumption | (simp [*]; done) | fail) (by first | rfl | assumption | (simp [*]; done) | fail) (by decide)⟩) rfl ?_ | refine glq rfl (.inl ⟨rfl, q_ldW ag63 sz63 rfl (by first | rfl | assumption | (simp [*]; done) | fail)⟩) rfl ?_ | refine glq rfl (.inl ⟨rfl, q_ldpP ag63 sz63 rfl (by repeat (first | exact .here | assumption | (apply HAt.left; assumption) | apply HAt.there | apply HAt.right)) (by first | rfl | assumption | (simp [*]; done) | fail) (by first | decide | (simp; done) | omega | fail) (by decide) (by first | ((repeat constructor); done) | exact .same _)⟩) rfl ?_ | refine glq rfl (.inl ⟨rfl, q_ldP ag63 sz63 rfl (by first | decide | (simp; done) | omega | fail) (by first | ((repeat constructor); done) | exact .same _)⟩) rfl ?_ | refine glq rfl (.inr ⟨rfl, rfl⟩) rfl ?_
            first | refine glq rfl (.inl ⟨rfl, e_callN cb73 (right73_c q _) rfl rfl⟩) rfl ?_ | refine glq rfl (.inl ⟨rfl, e_callN cb73 (ACall.arg (right73_c q _) (by repeat (first | exact ArgL.nil | (apply ArgL.cons; (· first | exact .same | exact .cro | exact .nil))))) rfl rfl⟩) rfl ?_ | refine glq rfl (.inr ⟨rfl, rfl⟩) rfl ?_
            first | refine glq rfl (.inl ⟨rfl, castF (q_bneq rfl rfl Try.underlying4) (by simp)⟩) rfl ?_ | refine glq rfl (.inr ⟨rfl, rfl⟩) rfl ?_
            first | refine glq rfl (.inl ⟨rfl, q_pickT rfl (by constructor)⟩) rfl ?_ | refine glq rfl (.inl ⟨rfl, q_pickF rfl (by constructor)⟩) rfl ?_
            (first | refine gld0 ?_ | refine gldA ?_)
            refine alist_nil ?_
            show AWP _ _ _ _
            refine awp_cond rfl (fun hc4 => ?_) (fun hc4 => ?_)
            · exfalso; first | (simp at hc4; done) | (simp at hc4; omega) | contradiction
            · try simp only [decide_eq_true_eq, decide_eq_false_iff_not, Bool.not_eq_true', Bool.not_eq_false', Bool.not_eq_eq_eq_not, Bool.not_true, Bool.not_false, beq_iff_eq, beq_eq_false_iff_ne, Int.not_lt, Int.not_le] at hc4
              refine awp_skip ?_
              show AWP _ _ _ _
              refine awp_seq ?_
              refine awp_region ?_
              refine aqs rfl (q_mv (by constructor)) rfl ?_
              refine aqs rfl (q_mv (by constructor)) rfl ?_
              first | refine aqs rfl (e_callN cb64 (pick64_c _ _ w6.1 w6.2 (by omega) _) rfl rfl) rfl ?_ | refine aqs rfl (e_callN cb64 (ACall.arg (pick64_c _ _ w6.1 w6.2 (by omega) _) (by repeat (first | exact ArgL.nil | (apply ArgL.cons; (· first | exact .same | exact .cro | exact .nil))))) rfl rfl) rfl ?_
              first | refine aqs rfl (q_bs Try.underlying25 sz3 zr3 rfl (by first | ((repeat constructor); done) | exact .same _) rfl (by decide) (by repeat (first | exact BS.nil | (apply BS.cons; (· constructor); (· rfl); (· rfl); (· rfl); (· exact (by first | ((repeat constructor); done) | exact .same _)))))) rfl ?_ | (refine aes rfl (e_bs Try.underlying25 sz3 zr3 rfl (by first | ((repeat constructor); done) | exact .same _) rfl (by decide) (by repeat (first | exact BS.nil | (apply BS.cons; (· constructor); (· rfl); (· rfl); (· rfl); (· exact (by first | ((repeat constructor); done) | exact .same _)))))) rfl ?_; rintro _ _ ⟨u202, rfl, rfl⟩)
              first | refine aqs rfl (q_len Try.underlying25 .ro) rfl ?_ | refine aqs rfl (q_lenO Try.underlying25 rfl (by repeat (first | exact .here | assumption | (apply HAt.left; assumption) | apply HAt.there | apply HAt.right)) (by first | omega | (simp; done) | (simp; omega) | fail) (by first | exact Nat.sub_zero _ | rfl)) rfl ?_ | refine aqs rfl (q_len Try.underlying25 .nil) rfl ?_ | refine aqs rfl (q_len Try.underlying25 .cro) rfl ?_
              refine aqs rfl (q_mv (by constructor)) rfl ?_
              refine alist_nil ?_
              show AWP _ _ _ _
              refine awp_block ?_
              refine awp_loop_inv (fun j : Nat => ⟨[(204, .lit (.int .i64 j)), (203, .lit (.int .i64 2)), (202, .cro RL), (24, .ptr u24 0 0), (99, .lit (.int .i64 i)), (98, .lit (.int .i64 3)), (97, .cro QL), (4, .ro (odd.map Task.cells)), (5, .ro (more.map Tri.cells)), (6, .lit (.int .i64 req)), (15, .lit (.bool true))], 239, [(u24, .arr 63 3 [q.cells])]⟩) (fun j => j ≤ 2) (fun j => 2 - j) 0 ?_ ?_ ?_
              · omega
              · exact .mk' (by refine ⟨rfl, rfl, (by rw [hRL]; rfl), rfl, rfl, rfl, rfl, rfl, rfl, rfl, rfl, trivial⟩) (by repeat (first | exact .refl _ | apply List.Sublist.cons_cons | apply List.Sublist.cons))
              · intro j hj
                refine awp_seq ?_
                refine awp_region ?_
                refine aqs rfl (q_lss rfl rfl) rfl ?_
                refine alist_nil ?_
                show AWP _ _ _ _
                refine awp_seq ?_
                refine awp_cond rfl (fun hc5 => ?_) (fun hc5 => ?_)
                · simp only [decide_eq_true_eq] at hc5
                  obtain ⟨k, hk⟩ := hR j (by omega)
                  have d1 := drop_qlen q k
                  refine awp_skip ?_
                  show AWP _ _ _ _
                  refine awp_seq ?_
                  refine awp_block ?_
                  refine awp_seq ?_
                  refine awp_region ?_
                  first | refine aqs rfl (q_iaN Try.underlying25 sz3 (.inl rfl) rfl (by omega) (by first | rfl | assumption | (simp [*]; done) | fail) (by first | rfl | assumption | (simp [*]; done) | fail) (by decide) (by first | ((repeat constructor); done) | exact .same _)) rfl ?_ | refine aqs rfl (q_iaS Try.underlying25 sz3 rfl (by repeat (first | exact .here | assumption | (apply HAt.left; assumption) | apply HAt.there | apply HAt.right)) rfl (by omega) (by omega) (by first | exact Nat.zero_add _ | rfl)) rfl ?_ | refine aqs rfl (q_iaN Try.underlying25 sz3 (.inr rfl) rfl (by omega) (by first | rfl | assumption | (simp [*]; done) | fail) (by first | rfl | assumption | (simp [*]; done) | fail) (by decide) (by first | ((repeat constructor); done) | exact .same _)) rfl ?_
                  first | refine aqs rfl (q_ldpN ag3 rfl (by repeat (first | exact .here | assumption | (apply HAt.left; assumption) | apply HAt.there | apply HAt.right)) (by first | rfl | assumption | (simp [*]; done) | fail) (by first | rfl | assumption | (simp [*]; done) | fail) (by constructor)) rfl ?_ | refine aqs rfl (q_ld1N ag3 rfl (by constructor)) rfl ?_
                  refine aqs rfl (q_as (by constructor)) rfl ?_
                  refine alist_nil ?_
                  show AWP _ _ _ _
                  refine awp_seq ?_
                  refine awp_region ?_
                  first | refine aqs rfl (q_ldpW ag63 sz63 rfl (by repeat (first | exact .here | assumption | (apply HAt.left; assumption) | apply HAt.there | apply HAt.right)) (by first | rfl | assumption | (simp [*]; done) | fail) (by first | rfl | assumption | (simp [*]; done) | fail) (by decide)) rfl ?_ | refine aqs rfl (q_ldW ag63 sz63 rfl (by first | rfl | assumption | (simp [*]; done) | fail)) rfl ?_ | refine aqs rfl (q_ldpP ag63 sz63 rfl (by repeat (first | exact .here | assumption | (apply HAt.left; assumption) | apply HAt.there | apply HAt.right)) (by first | rfl | assumption | (simp [*]; done) | fail) (by first | decide | (simp; done) | omega | fail) (by decide) (by first | ((repeat constructor); done) | exact .same _)) rfl ?_ | refine aqs rfl (q_ldP ag63 sz63 rfl (by first | decide | (simp; done) | omega | fail) (by first | ((repeat constructor); done) | exact .same _)) rfl ?_
                  refine aqs rfl (q_mv (by constructor)) rfl ?_
                  first | refine aqs rfl (e_callN cb74 (drop74_c q k _) rfl rfl) rfl ?_ | refine aqs rfl (e_callN cb74 (ACall.arg (drop74_c q k _) (by repeat (first | exact ArgL.nil | (apply ArgL.cons; (· first | exact .same | exact .cro | exact .nil))))) rfl rfl) rfl ?_
                  refine aqs rfl (q_mv (by constructor)) rfl ?_
                  refine aqs rfl (q_ex rfl rfl (by constructor)) rfl ?_
                  refine aqs rfl (q_ex rfl rfl (by constructor)) rfl ?_
                  refine aqs rfl (q_ex rfl rfl (by constructor)) rfl ?_
                  (refine aes rfl (e_al (xs := [.lit (.int .i64 0), .lit (.bool false), .lit (.slice none 0 0)]) (k := 3) zr63 (.same _) rfl) rfl ?_; rintro _ _ ⟨u46, rfl, rfl⟩)
                  refine aqs rfl (q_as (by constructor)) rfl ?_
                  first | (refine aen rfl (e_stW sz63 rfl (by repeat (first | exact .here | assumption | (apply HAt.left; assumption) | apply HAt.there | apply HAt.right)) (by constructor) (by first | rfl | assumption | (simp [*]; done) | fail) rfl (by repeat (first | exact .here | apply HSet.there))) ?_; rintro _ _ ⟨rfl, rfl⟩) | (refine aen rfl (e_stP sz63 rfl (by repeat (first | exact .here | assumption | (apply HAt.left; assumption) | apply HAt.there | apply HAt.right)) (by first | rfl | assumption | (simp [*]; done) | fail) (by constructor) (by first | rfl | assumption | (simp [*]; done) | fail) rfl (by first | decide | omega) (by first | ((repeat constructor); done) | exact .same _) (by first | exact .one | exact .set) (by repeat (first | exact .here | apply HSet.there))) ?_; rintro _ _ ⟨rfl, rfl⟩)
                  refine aqs rfl (q_as (by constructor)) rfl ?_
                  refine alist_nil ?_
                  show AWP _ _ _ _
                  refine awp_seq ?_
                  refine awp_region ?_
                  first | refine aqs rfl (q_ldpW ag63 sz63 rfl (by repeat (first | exact .here | assumption | (apply HAt.left; assumption) | apply HAt.there | apply HAt.right)) (by first | rfl | assumption | (simp [*]; done) | fail) (by first | rfl | assumption | (simp [*]; done) | fail) (by decide)) rfl ?_ | refine aqs rfl (q_ldW ag63 sz63 rfl (by first | rfl | assumption | (simp [*]; done) | fail)) rfl ?_ | refine aqs rfl (q_ldpP ag63 sz63 rfl (by repeat (first | exact .here | assumption | (apply HAt.left; assumption) | apply HAt.there | apply HAt.right)) (by first | rfl | assumption | (simp [*]; done) | fail) (by first | decide | (simp; done) | omega | fail) (by decide) (by first | ((repeat constructor); done) | exact .same _)) rfl ?_ | refine aqs rfl (q_ldP ag63 sz63 rfl (by first | decide | (simp; done) | omega | fail) (by first | ((repeat constructor); done) | exact .same _)) rfl ?_
                  refine aqs rfl (q_mv (by constructor)) rfl ?_
                  first | refine aqs rfl (e_callN cb75 (drop75_c q k _) rfl rfl) rfl ?_ | refine aqs rfl (e_callN cb75 (ACall.arg (drop75_c q k _) (by repeat (first | exact ArgL.nil | (apply ArgL.cons; (· first | exact .same | exact .cro | exact .nil))))) rfl rfl) rfl ?_
                  refine aqs rfl (q_mv (by constructor)) rfl ?_
                  refine aqs rfl (q_ex rfl rfl (by constructor)) rfl ?_
                  refine aqs rfl (q_ex rfl rfl (by constructor)) rfl ?_
                  refine aqs rfl (q_ex rfl rfl (by constructor)) rfl ?_
                  (refine aes rfl (e_al (xs := [.lit (.int .i64 0), .lit (.bool false), .lit (.slice none 0 0)]) (k := 3) zr63 (.same _) rfl) rfl ?_; rintro _ _ ⟨u49, rfl, rfl⟩)
                  refine aqs rfl (q_as (by constructor)) rfl ?_
                  first | (refine aen rfl (e_stW sz63 rfl (by repeat (first | exact .here | assumption | (apply HAt.left; assumption) | apply HAt.there | apply HAt.right)) (by constructor) (by first | rfl | assumption | (simp [*]; done) | fail) rfl (by repeat (first | exact .here | apply HSet.there))) ?_; rintro _ _ ⟨rfl, rfl⟩) | (refine aen rfl (e_stP sz63 rfl (by repeat (first | exact .here | assumption | (apply HAt.left; assumption) | apply HAt.there | apply HAt.right)) (by first | rfl | assumption | (simp [*]; done) | fail) (by constructor) (by first | rfl | assumption | (simp [*]; done) | fail) rfl (by first | decide | omega) (by first | ((repeat constructor); done) | exact .same _) (by first | exact .one | exact .set) (by repeat (first | exact .here | apply HSet.there))) ?_; rintro _ _ ⟨rfl, rfl⟩)
                  refine aqs rfl (q_as (by constructor)) rfl ?_
                  refine alist_nil ?_
                  show AWP _ _ _ _
                  refine awp_seq ?_
                  refine awp_region ?_
                  refine aqs rfl (q_mv (by constructor)) rfl ?_
                  refine aqs rfl (q_mv (by constructor)) rfl ?_
                  refine aqs rfl (castF (q_neq rfl rfl) (by simp)) rfl ?_
                  refine aqs rfl (q_mv (by constructor)) rfl ?_
                  first | refine ans rfl rfl ?_ | refine aqs rfl (q_mv (by constructor)) rfl ?_
                  first | refine ans rfl rfl ?_ | refine aqs rfl (q_mv (by constructor)) rfl ?_
                  first | refine ans rfl rfl ?_ | refine aqs rfl (castF (q_neq rfl rfl) (by simp)) rfl ?_
                  first | refine aqs rfl (q_pickT rfl (by constructor)) rfl ?_ | refine aqs rfl (q_pickF rfl (by constructor)) rfl ?_
                  refine aqs rfl (q_mv (by constructor)) rfl ?_
                  first | refine ans rfl rfl ?_ | refine aqs rfl (q_ldpW ag63 sz63 rfl (by repeat (first | exact .here | assumption | (apply HAt.left; assumption) | apply HAt.there | apply HAt.right)) (by first | rfl | assumption | (simp [*]; done) | fail) (by first | rfl | assumption | (simp [*]; done) | fail) (by decide)) rfl ?_ | refine aqs rfl (q_ldW ag63 sz63 rfl (by first | rfl | assumption | (simp [*]; done) | fail)) rfl ?_ | refine aqs rfl (q_ldpP ag63 sz63 rfl (by repeat (first | exact .here | assumption | (apply HAt.left; assumption) | apply HAt.there | apply HAt.right)) (by first | rfl | assumption | (simp [*]; done) | fail) (by first | decide | (simp; done) | omega | fail) (by decide) (by first | ((repeat constructor); done) | exact .same _)) rfl ?_ | refine aqs rfl (q_ldP ag63 sz63 rfl (by first | decide | (simp; done) | omega | fail) (by first | ((repeat constructor); done) | exact .same _)) rfl ?_
                  first | refine ans rfl rfl ?_ | refine aqs rfl (q_ldpW ag63 sz63 rfl (by repeat (first | exact .here | assumption | (apply HAt.left; assumption) | apply HAt.there | apply HAt.right)) (by first | rfl | assumption | (simp [*]; done) | fail) (by first | rfl | assumption | (simp [*]; done) | fail) (by decide)) rfl ?_ | refine aqs rfl (q_ldW ag63 sz63 rfl (by first | rfl | assumption | (simp [*]; done) | fail)) rfl ?_ | refine aqs rfl (q_ldpP ag63 sz63 rfl (by repeat (first | exact .here | assumption | (apply HAt.left; assumption) | apply HAt.there | apply HAt.right)) (by first | rfl | assumption | (simp [*]; done) | fail) (by first | decide | (simp; done) | omega | fail) (by decide) (by first | ((repeat constructor); done) | exact .same _)) rfl ?_ | refine aqs rfl (q_ldP ag63 sz63 rfl (by first | decide | (simp; done) | omega | fail) (by first | ((repeat constructor); done) | exact .same _)) rfl ?_
                  first | refine aqs rfl (castT (e_callN cb63 (same63_c _ _ (by omega) (by omega) _) rfl rfl) (by simp)) rfl ?_ | refine aqs rfl (castT (e_callN cb63 (ACall.arg (same63_c _ _ (by omega) (by omega) _) (by repeat (first | exact ArgL.nil | (apply ArgL.cons; (· first | exact .same | exact .cro | exact .nil))))) rfl rfl) (by simp)) rfl ?_
                  first | refine ans rfl rfl ?_ | refine aqs rfl (q_not rfl) rfl ?_
                  first | refine aqs rfl (q_pickT rfl (by constructor)) rfl ?_ | refine aqs rfl (q_pickF rfl (by constructor)) rfl ?_
                  refine alist_nil ?_
                  show AWP _ _ _ _
                  refine awp_cond rfl (fun hc6 => ?_) (fun hc6 => ?_)
                  · exfalso; first | (simp at hc6; done) | (simp at hc6; omega) | contradiction
                  · try simp only [decide_eq_true_eq, decide_eq_false_iff_not, Bool.not_eq_true', Bool.not_eq_false', Bool.not_eq_eq_eq_not, Bool.not_true, Bool.not_false, beq_iff_eq, beq_eq_false_iff_ne, Int.not_lt, Int.not_le] at hc6
                    refine awp_skip ?_
                    show AWP _ _ _ _
                    refine awp_region ?_
                    first | refine aqs rfl (q_add64 rfl rfl (by omega) (by omega)) rfl ?_ | refine aqs rfl (q_add rfl rfl) rfl ?_
                    refine aqs rfl (q_mv (by constructor)) rfl ?_
                    refine alist_nil ?_
                    show ∃ y, _ ∧ _ ∧ _
                    exact ⟨j + 1, by omega, by omega, .mk' ⟨by rfl, rfl, rfl, rfl, rfl, rfl, rfl, rfl, rfl, rfl, rfl, trivial⟩ (by repeat (first | exact List.Sublist.refl _ | exact List.nil_sublist _ | exact List.sublist_append_left _ _ | (apply List.Sublist.cons_cons) | (apply List.Sublist.cons)))⟩
                · skip
                  refine awp_exit ?_
                  show AWP _ _ _ _
                  refine awp_region ?_
                  first | refine aqs rfl (q_add64 rfl rfl (by omega) (by omega)) rfl ?_ | refine aqs rfl (q_add rfl rfl) rfl ?_
                  refine aqs rfl (q_mv (by constructor)) rfl ?_
                  refine alist_nil ?_
                  show ∃ y, _ ∧ _ ∧ _
                  exact ⟨i + 1, by omega, by omega, .mk' ⟨by rfl, rfl, rfl, rfl, rfl, rfl, rfl, trivial⟩ (by repeat (first | exact List.Sublist.refl _ | exact List.nil_sublist _ | exact List.sublist_append_left _ _ | (apply List.Sublist.cons_cons) | (apply List.Sublist.cons)))⟩
      · skip
        refine awp_exit ?_
        show AWP _ _ _ _
        refine awp_seq ?_
        refine awp_region ?_
        refine aqs rfl (q_mv (by constructor)) rfl ?_
        refine aqs rfl (q_as (by constructor)) rfl ?_
        refine alist_nil ?_
        show AWP _ _ _ _
        refine awp_ret ?_
        repeat first | with_reducible refine then_ret ?_ | with_reducible refine blk_ret ?_
        apply retq (.inr rfl) (.cons (rok_t rfl) .nil)
        rotate_left
        · exact ⟨rfl, rfl⟩
        repeat (first | exact List.Sublist.refl _ | exact List.nil_sublist _ | exact List.sublist_append_left _ _ | apply List.Sublist.cons)
end Go.Proofs.YtdlinfekifnmkaaAm
