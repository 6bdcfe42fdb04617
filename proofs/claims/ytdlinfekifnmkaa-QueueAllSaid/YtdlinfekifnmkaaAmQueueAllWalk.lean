/- The walk of QueueAll. Conditions: none. -/
import Derived.Test.YtdlinfekifnmkaaAmQueuePartsWalk
set_option linter.unusedVariables false
set_option linter.unusedSimpArgs false
set_option maxRecDepth 20000
namespace Go.Proofs.YtdlinfekifnmkaaAm
open Go.Proofs
theorem take_drop_q {R : Int} {c : Bool} {l : List Task} {i : Nat} {s : Task} (hR : 0 ≤ R ∧ R ≤ 4096) (hl : (l.length : Int) ≤ R) (h : l[i]? = some s) : qTakeS ⟨R, c, l.drop i⟩ = (s, ⟨R, c, l.drop (i + 1)⟩, 0) := by
  have hd := drop_at h
  have hb : ¬ qRight ⟨R, c, l.drop i⟩ = false := by
    rw [qRight_f.2 ⟨hR.1, hR.2, by show ((l.drop i).length : Int) ≤ R; rw [List.length_drop]; omega⟩]; simp
  rw [qTakeS, if_neg hb, hd]
set_option maxHeartbeats 16000000 in
theorem walkQueueAll (raw : List Tri) (req ahead : Int) (wraw : (∀ y ∈ raw, y.Wf) ∧ raw.length ≤ 9223372036854775807) (wreq : -9223372036854775808 ≤ req ∧ req ≤ 9223372036854775807) (wah : -9223372036854775808 ≤ ahead ∧ ahead ≤ 9223372036854775807) :
    QCall Try.prog 17 [.ro (raw.map Tri.cells), .lit (.int .i64 req), .lit (.int .i64 ahead)] [] (.lit (.bool true)) := by
  have hp0 := pick_nonneg ahead 5 (by omega)
  have hp1 := pick_lt ahead 5 (by omega)
  obtain ⟨t, ht, htl⟩ : ∃ t, t = tasksOf raw ∧ t.length ≤ 20 := ⟨_, rfl, tasks_len raw⟩
  obtain ⟨rq, hrq⟩ : ∃ rq, rq = pick req 4 := ⟨_, rfl⟩
  obtain ⟨k, hke, hk⟩ : ∃ k : Nat, (k : Int) = min (pick ahead 5) t.length ∧ k ≤ t.length := ⟨(min (pick ahead 5) t.length).toNat, by omega, by omega⟩
  obtain ⟨R, hRe, hR⟩ : ∃ R : Int, R = (t.length : Nat) + 1 ∧ (0 ≤ R ∧ R ≤ 4096) := ⟨_, rfl, by omega⟩
  have hnew := new_room (r := R) hR
  have hlen := lenTask t
  have htm : (t.map Task.cells).length = t.length := by simp
  obtain ⟨n, hn, hpn, hnr⟩ := put_ok (r := R) [] t hR (by simp; omega)
  simp only [List.nil_append, List.length_nil] at hpn hn
  have hnt : n = t.length := by omega
  rw [hnt, List.take_length] at hpn
  obtain ⟨X, hX⟩ : ∃ X, X = restT rq (t.drop k) := ⟨_, rfl⟩
  have hXl : X.length ≤ t.length - k := by
    have := rest_len rq (t.drop k)
    rw [List.length_drop] at this
    rw [hX]; exact this
  obtain ⟨g, hg⟩ : ∃ g : Int, g = ((t.length : Int) - k) - X.length := ⟨_, rfl⟩
  have hd : qDropS ⟨R, false, t.drop k⟩ rq = (g, ⟨R, false, X⟩, 0) := by
    rw [qDropS, if_neg (by rw [qRight_f.2 ⟨hR.1, hR.2, by show ((t.drop k).length : Int) ≤ R; rw [List.length_drop]; omega⟩]; simp), hg, hX]
    have : ((t.drop k).length : Int) = (t.length : Int) - k := by rw [List.length_drop]; omega
    rw [this]
  obtain ⟨last, hlast⟩ : ∃ last : Task, last = ⟨9, 9, ⟨#[]⟩, ⟨#[]⟩⟩ := ⟨_, rfl⟩
  obtain ⟨Y, hY⟩ : ∃ Y, Y = X ++ [last] := ⟨_, rfl⟩
  have hYl : Y.length = X.length + 1 := by rw [hY]; simp
  have hp2 : qPutS ⟨R, false, X⟩ [last] = (1, ⟨R, false, Y⟩, 0) := by
    obtain ⟨m, hm, hpm, _⟩ := put_ok (r := R) X [last] hR (by omega)
    have hm1 : m = 1 := by simp only [List.length_singleton] at hm; omega
    rw [hpm, hm1, hY]; rfl
  have hlc : last.cells = [.lit (.int .i64 9), .lit (.int .i64 9), .lit (.string ⟨#[]⟩), .lit (.string ⟨#[]⟩)] := by rw [hlast]
  have hkl : (t.take k).length = k := by rw [List.length_take]; omega
  refine acall_intro (n := 181) (rvs := [.tmp 6]) Try.func17 rfl rfl rfl (Nat.le_of_ble_eq_true rfl) ?_
  refine awp_seq ?_
  refine awp_region ?_
  refine aqs rfl (q_as (by constructor)) rfl ?_
  refine alist_nil ?_
  show AWP _ _ _ _
  refine awp_seq ?_
  refine awp_region ?_
  first | refine aqs rfl (e_callN cb60 (awake60_c) rfl rfl) rfl ?_ | refine aqs rfl (e_callN cb60 (ACall.arg (awake60_c) (by repeat (first | exact ArgL.nil | (apply ArgL.cons; (· first | exact .same | exact .cro | exact .nil))))) rfl rfl) rfl ?_
  refine aqs rfl (q_as (by constructor)) rfl ?_
  refine alist_nil ?_
  show AWP _ _ _ _
  refine awp_seq ?_
  refine awp_region ?_
  refine aqs rfl (q_mv (by constructor)) rfl ?_
  first | refine aqs rfl (e_callN cb65 (ht ▸ tasks65_c raw wraw.1 _) rfl rfl) rfl ?_ | refine aqs rfl (e_callN cb65 (ACall.arg (ht ▸ tasks65_c raw wraw.1 _) (by repeat (first | exact ArgL.nil | (apply ArgL.cons; (· first | exact .same | exact .cro | exact .nil))))) rfl rfl) rfl ?_
  refine aqs rfl (q_as (by constructor)) rfl ?_
  refine alist_nil ?_
  show AWP _ _ _ _
  refine awp_seq ?_
  refine awp_region ?_
  refine aqs rfl (q_mv (by constructor)) rfl ?_
  first | refine aqs rfl (e_callN cb64 (hrq ▸ pick64_c _ _ wreq.1 wreq.2 (by omega) _) rfl rfl) rfl ?_ | refine aqs rfl (e_callN cb64 (ACall.arg (hrq ▸ pick64_c _ _ wreq.1 wreq.2 (by omega) _) (by repeat (first | exact ArgL.nil | (apply ArgL.cons; (· first | exact .same | exact .cro | exact .nil))))) rfl rfl) rfl ?_
  refine aqs rfl (q_as (by constructor)) rfl ?_
  refine alist_nil ?_
  show AWP _ _ _ _
  refine awp_seq ?_
  refine awp_region ?_
  refine aqs rfl (q_mv (by constructor)) rfl ?_
  first | refine aqs rfl (q_len Try.underlying61 .ro) rfl ?_ | refine aqs rfl (q_lenO Try.underlying61 rfl (by repeat (first | exact .here | assumption | (apply HAt.left; assumption) | apply HAt.there | apply HAt.right)) (by first | omega | (simp; done) | (simp; omega) | fail) (by first | exact Nat.sub_zero _ | rfl)) rfl ?_ | refine aqs rfl (q_len Try.underlying61 .nil) rfl ?_ | refine aqs rfl (q_len Try.underlying61 .cro) rfl ?_
  first | refine aqs rfl (castQ (r2 := .lit (.int .i64 R)) (q_add64 rfl rfl (by omega) (by omega)) (by rw [hRe, htm])) rfl ?_ | refine aqs rfl (castQ (r2 := .lit (.int .i64 R)) (q_add rfl rfl) (by rw [hRe, htm])) rfl ?_
  first | refine aqs rfl (e_callN cb61 (hnew ▸ new61_c R _) rfl rfl) rfl ?_ | refine aqs rfl (e_callN cb61 (ACall.arg (hnew ▸ new61_c R _) (by repeat (first | exact ArgL.nil | (apply ArgL.cons; (· first | exact .same | exact .cro | exact .nil))))) rfl rfl) rfl ?_
  refine aqs rfl (q_mv (by constructor)) rfl ?_
  refine aqs rfl (q_ex rfl rfl (by constructor)) rfl ?_
  refine aqs rfl (q_ex rfl rfl (by constructor)) rfl ?_
  (refine aes rfl (e_al (xs := [.lit (.int .i64 0), .lit (.bool false), .lit (.slice none 0 0)]) (k := 3) zr63 (.same _) rfl) rfl ?_; rintro _ _ ⟨u10, rfl, rfl⟩)
  first | (refine aen rfl (e_stW sz63 rfl (by repeat (first | exact .here | assumption | (apply HAt.left; assumption) | apply HAt.there | apply HAt.right)) (by constructor) (by first | rfl | assumption | (simp [*]; done) | fail) rfl (by repeat (first | exact .here | apply HSet.there))) ?_; rintro _ _ ⟨rfl, rfl⟩) | (refine aen rfl (e_stP sz63 rfl (by repeat (first | exact .here | assumption | (apply HAt.left; assumption) | apply HAt.there | apply HAt.right)) (by first | rfl | assumption | (simp [*]; done) | fail) (by constructor) (by first | rfl | assumption | (simp [*]; done) | fail) rfl (by first | decide | omega) (by first | ((repeat constructor); done) | exact .same _) (by first | exact .one | exact .set) (by repeat (first | exact .here | apply HSet.there))) ?_; rintro _ _ ⟨rfl, rfl⟩)
  refine aqs rfl (q_as (by constructor)) rfl ?_
  refine alist_nil ?_
  show AWP _ _ _ _
  refine awp_seq ?_
  refine awp_region ?_
  first | refine aqs rfl (q_ldpW ag63 sz63 rfl (by repeat (first | exact .here | assumption | (apply HAt.left; assumption) | apply HAt.there | apply HAt.right)) (by first | rfl | assumption | (simp [*]; done) | fail) (by first | rfl | assumption | (simp [*]; done) | fail) (by decide)) rfl ?_ | refine aqs rfl (q_ldW ag63 sz63 rfl (by first | rfl | assumption | (simp [*]; done) | fail)) rfl ?_ | refine aqs rfl (q_ldpP ag63 sz63 rfl (by repeat (first | exact .here | assumption | (apply HAt.left; assumption) | apply HAt.there | apply HAt.right)) (by first | rfl | assumption | (simp [*]; done) | fail) (by first | decide | (simp; done) | omega | fail) (by decide) (by first | ((repeat constructor); done) | exact .same _)) rfl ?_ | refine aqs rfl (q_ldP ag63 sz63 rfl (by first | decide | (simp; done) | omega | fail) (by first | ((repeat constructor); done) | exact .same _)) rfl ?_
  refine aqs rfl (q_mv (by constructor)) rfl ?_
  first | refine aqs rfl (e_callN cb66 (hpn ▸ put66_c ⟨R, false, []⟩ t (by omega) _) rfl rfl) rfl ?_ | refine aqs rfl (e_callN cb66 (ACall.arg (hpn ▸ put66_c ⟨R, false, []⟩ t (by omega) _) (by repeat (first | exact ArgL.nil | (apply ArgL.cons; (· first | exact .same | exact .cro | exact .nil))))) rfl rfl) rfl ?_
  refine aqs rfl (q_mv (by constructor)) rfl ?_
  refine aqs rfl (q_ex rfl rfl (by constructor)) rfl ?_
  refine aqs rfl (q_ex rfl rfl (by constructor)) rfl ?_
  refine aqs rfl (q_ex rfl rfl (by constructor)) rfl ?_
  refine aqs rfl (q_as (by constructor)) rfl ?_
  first | (refine aen rfl (e_stW sz63 rfl (by repeat (first | exact .here | assumption | (apply HAt.left; assumption) | apply HAt.there | apply HAt.right)) (by constructor) (by first | rfl | assumption | (simp [*]; done) | fail) rfl (by repeat (first | exact .here | apply HSet.there))) ?_; rintro _ _ ⟨rfl, rfl⟩) | (refine aen rfl (e_stP sz63 rfl (by repeat (first | exact .here | assumption | (apply HAt.left; assumption) | apply HAt.there | apply HAt.right)) (by first | rfl | assumption | (simp [*]; done) | fail) (by constructor) (by first | rfl | assumption | (simp [*]; done) | fail) rfl (by first | decide | omega) (by first | ((repeat constructor); done) | exact .same _) (by first | exact .one | exact .set) (by repeat (first | exact .here | apply HSet.there))) ?_; rintro _ _ ⟨rfl, rfl⟩)
  refine aqs rfl (q_as (by constructor)) rfl ?_
  refine alist_nil ?_
  show AWP _ _ _ _
  refine awp_seq ?_
  refine awp_seq ?_
  refine awp_region ?_
  refine aqs rfl (q_mv (by constructor)) rfl ?_
  refine aqs rfl (castF (q_neq rfl rfl) (by rfl)) rfl ?_
  refine aqs rfl (q_mv (by constructor)) rfl ?_
  first | refine ans rfl rfl ?_ | refine aqs rfl (q_mv (by constructor)) rfl ?_
  refine aqs rfl (castF (q_neq rfl rfl) (by rfl)) rfl ?_
  first | refine aqs rfl (q_pickT rfl (by constructor)) rfl ?_ | refine aqs rfl (q_pickF rfl (by constructor)) rfl ?_
  refine aqs rfl (q_mv (by constructor)) rfl ?_
  first | refine ans rfl rfl ?_ | refine aqs rfl (q_mv (by constructor)) rfl ?_
  first | refine ans rfl rfl ?_ | refine aqs rfl (q_mv (by constructor)) rfl ?_
  first | refine ans rfl rfl ?_ | refine aqs rfl (q_len Try.underlying61 .ro) rfl ?_ | refine aqs rfl (q_lenO Try.underlying61 rfl (by repeat (first | exact .here | assumption | (apply HAt.left; assumption) | apply HAt.there | apply HAt.right)) (by first | omega | (simp; done) | (simp; omega) | fail) (by first | exact Nat.sub_zero _ | rfl)) rfl ?_ | refine aqs rfl (q_len Try.underlying61 .nil) rfl ?_ | refine aqs rfl (q_len Try.underlying61 .cro) rfl ?_
  refine aqs rfl (castF (q_neq rfl rfl) (by simp)) rfl ?_
  first | refine aqs rfl (q_pickT rfl (by constructor)) rfl ?_ | refine aqs rfl (q_pickF rfl (by constructor)) rfl ?_
  refine alist_nil ?_
  show AWP _ _ _ _
  refine awp_cond rfl (fun hc0 => ?_) (fun hc0 => ?_)
  · exfalso; first | (simp at hc0; done) | (simp at hc0; omega) | contradiction
  · try simp only [decide_eq_true_eq, decide_eq_false_iff_not, Bool.not_eq_true', Bool.not_eq_false', Bool.not_eq_eq_eq_not, Bool.not_true, Bool.not_false, beq_iff_eq, beq_eq_false_iff_ne, Int.not_lt, Int.not_le] at hc0
    refine awp_skip ?_
    show AWP _ _ _ _
    refine awp_seq ?_
    refine awp_region ?_
    refine aqs rfl (q_as (by constructor)) rfl ?_
    refine alist_nil ?_
    show AWP _ _ _ _
    refine awp_adopt 14 75 4 rfl fun u14 => ?_
    show AWP _ _ _ _
    refine awp_seq ?_
    refine awp_region ?_
    refine aqs rfl (q_mv (by constructor)) rfl ?_
    first | refine aqs rfl (e_callN cb64 (pick64_c _ _ wah.1 wah.2 (by omega) _) rfl rfl) rfl ?_ | refine aqs rfl (e_callN cb64 (ACall.arg (pick64_c _ _ wah.1 wah.2 (by omega) _) (by repeat (first | exact ArgL.nil | (apply ArgL.cons; (· first | exact .same | exact .cro | exact .nil))))) rfl rfl) rfl ?_
    refine aqs rfl (q_mv (by constructor)) rfl ?_
    first | refine aqs rfl (q_len Try.underlying61 .ro) rfl ?_ | refine aqs rfl (q_lenO Try.underlying61 rfl (by repeat (first | exact .here | assumption | (apply HAt.left; assumption) | apply HAt.there | apply HAt.right)) (by first | omega | (simp; done) | (simp; omega) | fail) (by first | exact Nat.sub_zero _ | rfl)) rfl ?_ | refine aqs rfl (q_len Try.underlying61 .nil) rfl ?_ | refine aqs rfl (q_len Try.underlying61 .cro) rfl ?_
    refine aqs rfl (castQ (r2 := .lit (.int .i64 (k : Nat))) (q_min rfl rfl) (by rw [hke, htm])) rfl ?_
    refine aqs rfl (q_as (by constructor)) rfl ?_
    refine alist_nil ?_
    show AWP _ _ _ _
    refine awp_seq ?_
    refine awp_seq ?_
    refine awp_region ?_
    refine aqs rfl (q_as (by constructor)) rfl ?_
    refine alist_nil ?_
    show AWP _ _ _ _
    refine awp_block ?_
    refine awp_loop_inv (fun x : Nat × Nat => ⟨[(16, .lit (.int .i64 x.1)), (15, .lit (.int .i64 (k : Nat))), (10, .ptr u10 0 0), (14, .sl x.2 0 x.1), (8, .ro (t.map Task.cells)), (9, .lit (.int .i64 rq)), (7, .lit (.bool true))], 181, [(x.2, .arr 75 4 ((t.take x.1).map Task.cells)), (u10, .arr 63 3 [(⟨R, false, t.drop x.1⟩ : Queue).cells])]⟩) (fun x => x.1 ≤ k) (fun x => k - x.1) (0, u14) ?_ ?_ ?_
    · exact Nat.zero_le _
    · exact .mk' (by repeat (first | exact trivial | refine ⟨rfl, ?_⟩)) (by repeat (first | exact .refl _ | apply List.Sublist.cons_cons | apply List.Sublist.cons))
    · rintro ⟨i, u⟩ hi
      simp only at hi ⊢
      have hlen1 := lenTask (t.take i)
      have hone1 := oneTask (t.take i)
      have htk : ((t.take i).map Task.cells).length = i := by simp; omega
      refine awp_seq ?_
      refine awp_seq ?_
      refine awp_region ?_
      refine aqs rfl (q_mv (by constructor)) rfl ?_
      refine aqs rfl (q_mv (by constructor)) rfl ?_
      refine aqs rfl (q_lss rfl rfl) rfl ?_
      refine alist_nil ?_
      show AWP _ _ _ _
      refine awp_cond rfl (fun hc1 => ?_) (fun hc1 => ?_)
      · simp only [decide_eq_true_eq] at hc1
        obtain ⟨s, hs, hsm⟩ := get_lt (l := t) (i := i) (by omega)
        have hq := take_drop_q (c := false) hR (show (t.length : Int) ≤ R by omega) hs
        have hes1 : ((t.take i).map Task.cells).take i ++ [s.cells] = (t.take (i + 1)).map Task.cells := by
          rw [List.take_of_length_le (by rw [htk]; exact Nat.le_refl _), take_next hs]; simp
        refine awp_skip ?_
        show AWP _ _ _ _
        refine awp_seq ?_
        refine awp_block ?_
        refine awp_seq ?_
        refine awp_region ?_
        first | refine aqs rfl (q_ldpW ag63 sz63 rfl (by repeat (first | exact .here | assumption | (apply HAt.left; assumption) | apply HAt.there | apply HAt.right)) (by first | rfl | assumption | (simp [*]; done) | fail) (by first | rfl | assumption | (simp [*]; done) | fail) (by decide)) rfl ?_ | refine aqs rfl (q_ldW ag63 sz63 rfl (by first | rfl | assumption | (simp [*]; done) | fail)) rfl ?_ | refine aqs rfl (q_ldpP ag63 sz63 rfl (by repeat (first | exact .here | assumption | (apply HAt.left; assumption) | apply HAt.there | apply HAt.right)) (by first | rfl | assumption | (simp [*]; done) | fail) (by first | decide | (simp; done) | omega | fail) (by decide) (by first | ((repeat constructor); done) | exact .same _)) rfl ?_ | refine aqs rfl (q_ldP ag63 sz63 rfl (by first | decide | (simp; done) | omega | fail) (by first | ((repeat constructor); done) | exact .same _)) rfl ?_
        first | refine aqs rfl (e_callN cb68 (hq ▸ take68_c ⟨R, false, t.drop i⟩ _) rfl rfl) rfl ?_ | refine aqs rfl (e_callN cb68 (ACall.arg (hq ▸ take68_c ⟨R, false, t.drop i⟩ _) (by repeat (first | exact ArgL.nil | (apply ArgL.cons; (· first | exact .same | exact .cro | exact .nil))))) rfl rfl) rfl ?_
        refine aqs rfl (q_mv (by constructor)) rfl ?_
        refine aqs rfl (q_ex rfl rfl (by constructor)) rfl ?_
        refine aqs rfl (q_ex rfl rfl (by constructor)) rfl ?_
        refine aqs rfl (q_ex rfl rfl (by constructor)) rfl ?_
        (refine aes rfl (e_al (xs := [.lit (.int .i64 0), .lit (.int .i64 0), .lit (.string ⟨#[]⟩), .lit (.string ⟨#[]⟩)]) (k := 4) zr75 (.same _) rfl) rfl ?_; rintro _ _ ⟨u17, rfl, rfl⟩)
        (refine aes rfl (e_al (xs := [.lit (.int .i64 0), .lit (.bool false), .lit (.slice none 0 0)]) (k := 3) zr63 (.same _) rfl) rfl ?_; rintro _ _ ⟨u18, rfl, rfl⟩)
        first | (refine aen rfl (e_stW sz75 rfl (by repeat (first | exact .here | assumption | (apply HAt.left; assumption) | apply HAt.there | apply HAt.right)) (by constructor) (by first | rfl | assumption | (simp [*]; done) | fail) rfl (by repeat (first | exact .here | apply HSet.there))) ?_; rintro _ _ ⟨rfl, rfl⟩) | (refine aen rfl (e_stP sz75 rfl (by repeat (first | exact .here | assumption | (apply HAt.left; assumption) | apply HAt.there | apply HAt.right)) (by first | rfl | assumption | (simp [*]; done) | fail) (by constructor) (by first | rfl | assumption | (simp [*]; done) | fail) rfl (by first | decide | omega) (by first | ((repeat constructor); done) | exact .same _) (by first | exact .one | exact .set) (by repeat (first | exact .here | apply HSet.there))) ?_; rintro _ _ ⟨rfl, rfl⟩)
        first | (refine aen rfl (e_stW sz63 rfl (by repeat (first | exact .here | assumption | (apply HAt.left; assumption) | apply HAt.there | apply HAt.right)) (by constructor) (by first | rfl | assumption | (simp [*]; done) | fail) rfl (by repeat (first | exact .here | apply HSet.there))) ?_; rintro _ _ ⟨rfl, rfl⟩) | (refine aen rfl (e_stP sz63 rfl (by repeat (first | exact .here | assumption | (apply HAt.left; assumption) | apply HAt.there | apply HAt.right)) (by first | rfl | assumption | (simp [*]; done) | fail) (by constructor) (by first | rfl | assumption | (simp [*]; done) | fail) rfl (by first | decide | omega) (by first | ((repeat constructor); done) | exact .same _) (by first | exact .one | exact .set) (by repeat (first | exact .here | apply HSet.there))) ?_; rintro _ _ ⟨rfl, rfl⟩)
        refine aqs rfl (q_as (by constructor)) rfl ?_
        refine alist_nil ?_
        show AWP _ _ _ _
        refine awp_seq ?_
        refine awp_seq ?_
        refine awp_region ?_
        refine aqs rfl (q_mv (by constructor)) rfl ?_
        refine aqs rfl (castF (q_neq rfl rfl) (by rfl)) rfl ?_
        refine alist_nil ?_
        show AWP _ _ _ _
        refine awp_cond rfl (fun hc2 => ?_) (fun hc2 => ?_)
        · exfalso; first | (simp at hc2; done) | (simp at hc2; omega) | contradiction
        · try simp only [decide_eq_true_eq, decide_eq_false_iff_not, Bool.not_eq_true', Bool.not_eq_false', Bool.not_eq_eq_eq_not, Bool.not_true, Bool.not_false, beq_iff_eq, beq_eq_false_iff_ne, Int.not_lt, Int.not_le] at hc2
          refine awp_skip ?_
          show AWP _ _ _ _
          refine awp_seq ?_
          refine awp_region ?_
          refine aqs rfl (q_mv (by constructor)) rfl ?_
          first | refine aqs rfl (q_ldpW ag75 sz75 rfl (by repeat (first | exact .here | assumption | (apply HAt.left; assumption) | apply HAt.there | apply HAt.right)) (by first | rfl | assumption | (simp [*]; done) | fail) (by first | rfl | assumption | (simp [*]; done) | fail) (by decide)) rfl ?_ | refine aqs rfl (q_ldW ag75 sz75 rfl (by first | rfl | assumption | (simp [*]; done) | fail)) rfl ?_ | refine aqs rfl (q_ldpP ag75 sz75 rfl (by repeat (first | exact .here | assumption | (apply HAt.left; assumption) | apply HAt.there | apply HAt.right)) (by first | rfl | assumption | (simp [*]; done) | fail) (by first | decide | (simp; done) | omega | fail) (by decide) (by first | ((repeat constructor); done) | exact .same _)) rfl ?_ | refine aqs rfl (q_ldP ag75 sz75 rfl (by first | decide | (simp; done) | omega | fail) (by first | ((repeat constructor); done) | exact .same _)) rfl ?_
          first | refine aqs rfl (q_bs Try.underlying61 sz75 zr75 rfl (by first | ((repeat constructor); done) | exact .same _) rfl (by decide) (by repeat (first | exact BS.nil | (apply BS.cons; (· constructor); (· rfl); (· rfl); (· rfl); (· exact (by first | ((repeat constructor); done) | exact .same _)))))) rfl ?_ | (refine aes rfl (e_bs Try.underlying61 sz75 zr75 rfl (by first | ((repeat constructor); done) | exact .same _) rfl (by decide) (by repeat (first | exact BS.nil | (apply BS.cons; (· constructor); (· rfl); (· rfl); (· rfl); (· exact (by first | ((repeat constructor); done) | exact .same _)))))) rfl ?_; rintro _ _ ⟨u82, rfl, rfl⟩)
          first | refine aqs rfl (q_apC Try.underlying61 sz75 by75 zr75 (.inl rfl) (by first | exact .ro | exact .cro | exact .nil | exact SV.slA (by repeat (first | exact .here | assumption | (apply HAt.left; assumption) | apply HAt.there | apply HAt.right)) (by first | rfl | (simp; done) | (simp; omega) | (simp [*]; done) | fail)) (by first | assumption | (intro c hc; simp at hc; subst hc; rfl) | (simp; done) | fail) (by first | assumption | (intro c hc; simp at hc; subst hc; rfl) | (simp; done) | fail) (by first | omega | decide | (simp; omega) | assumption | fail) (by decide) (by decide) rfl (by first | rfl | (simp; done) | fail)) rfl ?_ | refine aqs rfl (q_apC Try.underlying61 sz75 by75 zr75 (.inr ⟨rfl, rfl⟩) (by first | exact .ro | exact .cro | exact .nil | exact SV.slA (by repeat (first | exact .here | assumption | (apply HAt.left; assumption) | apply HAt.there | apply HAt.right)) (by first | rfl | (simp; done) | (simp; omega) | (simp [*]; done) | fail)) (by first | assumption | (intro c hc; simp at hc; subst hc; rfl) | (simp; done) | fail) (by first | assumption | (intro c hc; simp at hc; subst hc; rfl) | (simp; done) | fail) (by first | omega | decide | (simp; omega) | assumption | fail) (by decide) (by decide) rfl (by first | rfl | (simp; done) | fail)) rfl ?_ | (refine aes rfl (e_apO Try.underlying61 sz75 by75 zr75 rfl (by repeat (first | exact .here | assumption | (apply HAt.left; assumption) | apply HAt.there | apply HAt.right)) (by first | (rw [htk]; exact Nat.le_refl _) | (rw [htk2]; exact Nat.le_refl _) | (rw [List.length_map]; exact Nat.le_refl _)) (by first | exact .ro | exact .cro | exact .nil | exact SV.slA (by repeat (first | exact .here | assumption | (apply HAt.left; assumption) | apply HAt.there | apply HAt.right)) (by first | rfl | (simp; done) | (simp; omega) | (simp [*]; done) | fail)) (by first | assumption | (intro c hc; simp at hc; subst hc; rfl) | (simp; done) | fail) (by first | assumption | (intro c hc; simp at hc; subst hc; rfl) | (simp; done) | fail) (by first | assumption | (intro c hc; simp at hc; subst hc; rfl) | (simp; done) | fail) (by first | (simp; done) | (simp; omega) | omega | fail) (by decide) (by decide) rfl (by first | exact hml4 | exact hml3 | rfl) (by first | exact hes4 | exact hes3 | exact hes2 | exact hes1 | rfl | (simp; rfl)) (fun v => (by repeat (first | exact .here | apply HSet.there)))) rfl ?_; rintro _ _ ⟨u83, rfl, rfl⟩) | (refine aes rfl (e_apN Try.underlying61 sz75 by75 zr75 rfl (by first | exact .ro | exact .cro | exact .nil | exact SV.slA (by repeat (first | exact .here | assumption | (apply HAt.left; assumption) | apply HAt.there | apply HAt.right)) (by first | rfl | (simp; done) | (simp; omega) | (simp [*]; done) | fail)) (by first | assumption | (intro c hc; simp at hc; subst hc; rfl) | (simp; done) | fail) (by first | assumption | (intro c hc; simp at hc; subst hc; rfl) | (simp; done) | fail) (by first | (simp; done) | (simp; omega) | omega | fail) (by decide) (by decide) rfl rfl) rfl ?_; rintro _ _ ⟨u83, rfl, rfl⟩)
          refine aqs rfl (q_as (by constructor)) rfl ?_
          refine alist_nil ?_
          show AWP _ _ _ _
          refine awp_region ?_
          first | refine aqs rfl (q_ldpW ag63 sz63 rfl (by repeat (first | exact .here | assumption | (apply HAt.left; assumption) | apply HAt.there | apply HAt.right)) (by first | rfl | assumption | (simp [*]; done) | fail) (by first | rfl | assumption | (simp [*]; done) | fail) (by decide)) rfl ?_ | refine aqs rfl (q_ldW ag63 sz63 rfl (by first | rfl | assumption | (simp [*]; done) | fail)) rfl ?_ | refine aqs rfl (q_ldpP ag63 sz63 rfl (by repeat (first | exact .here | assumption | (apply HAt.left; assumption) | apply HAt.there | apply HAt.right)) (by first | rfl | assumption | (simp [*]; done) | fail) (by first | decide | (simp; done) | omega | fail) (by decide) (by first | ((repeat constructor); done) | exact .same _)) rfl ?_ | refine aqs rfl (q_ldP ag63 sz63 rfl (by first | decide | (simp; done) | omega | fail) (by first | ((repeat constructor); done) | exact .same _)) rfl ?_
          first | (refine aen rfl (e_stW sz63 rfl (by repeat (first | exact .here | assumption | (apply HAt.left; assumption) | apply HAt.there | apply HAt.right)) (by constructor) (by first | rfl | assumption | (simp [*]; done) | fail) rfl (by repeat (first | exact .here | apply HSet.there))) ?_; rintro _ _ ⟨rfl, rfl⟩) | (refine aen rfl (e_stP sz63 rfl (by repeat (first | exact .here | assumption | (apply HAt.left; assumption) | apply HAt.there | apply HAt.right)) (by first | rfl | assumption | (simp [*]; done) | fail) (by constructor) (by first | rfl | assumption | (simp [*]; done) | fail) rfl (by first | decide | omega) (by first | ((repeat constructor); done) | exact .same _) (by first | exact .one | exact .set) (by repeat (first | exact .here | apply HSet.there))) ?_; rintro _ _ ⟨rfl, rfl⟩)
          refine alist_nil ?_
          show AWP _ _ _ _
          refine awp_region ?_
          refine aqs rfl (q_mv (by constructor)) rfl ?_
          first | refine aqs rfl (q_add64 rfl rfl (by omega) (by omega)) rfl ?_ | refine aqs rfl (q_add rfl rfl) rfl ?_
          refine aqs rfl (q_as (by constructor)) rfl ?_
          refine alist_nil ?_
          show ∃ y, _ ∧ _ ∧ _
          exact ⟨(i + 1, _), by show i + 1 ≤ k; omega, by show k - (i + 1) < k - i; omega, .mk' ⟨by rfl, rfl, rfl, rfl, rfl, rfl, rfl, trivial⟩ (by repeat (first | exact List.Sublist.refl _ | exact List.nil_sublist _ | exact List.sublist_append_left _ _ | (apply List.Sublist.cons_cons) | (apply List.Sublist.cons)))⟩
      · simp only [decide_eq_false_iff_not] at hc1
        have hik : i = k := by omega
        subst hik
        refine awp_exit ?_
        show AWP _ _ _ _
        refine awp_seq ?_
        refine awp_region ?_
        first | refine aqs rfl (q_ldpW ag63 sz63 rfl (by repeat (first | exact .here | assumption | (apply HAt.left; assumption) | apply HAt.there | apply HAt.right)) (by first | rfl | assumption | (simp [*]; done) | fail) (by first | rfl | assumption | (simp [*]; done) | fail) (by decide)) rfl ?_ | refine aqs rfl (q_ldW ag63 sz63 rfl (by first | rfl | assumption | (simp [*]; done) | fail)) rfl ?_ | refine aqs rfl (q_ldpP ag63 sz63 rfl (by repeat (first | exact .here | assumption | (apply HAt.left; assumption) | apply HAt.there | apply HAt.right)) (by first | rfl | assumption | (simp [*]; done) | fail) (by first | decide | (simp; done) | omega | fail) (by decide) (by first | ((repeat constructor); done) | exact .same _)) rfl ?_ | refine aqs rfl (q_ldP ag63 sz63 rfl (by first | decide | (simp; done) | omega | fail) (by first | ((repeat constructor); done) | exact .same _)) rfl ?_
        refine aqs rfl (q_mv (by constructor)) rfl ?_
        first | refine aqs rfl (e_callN cb74 (hd ▸ drop74_c ⟨R, false, t.drop i⟩ rq _) rfl rfl) rfl ?_ | refine aqs rfl (e_callN cb74 (ACall.arg (hd ▸ drop74_c ⟨R, false, t.drop i⟩ rq _) (by repeat (first | exact ArgL.nil | (apply ArgL.cons; (· first | exact .same | exact .cro | exact .nil))))) rfl rfl) rfl ?_
        refine aqs rfl (q_mv (by constructor)) rfl ?_
        refine aqs rfl (q_ex rfl rfl (by constructor)) rfl ?_
        refine aqs rfl (q_ex rfl rfl (by constructor)) rfl ?_
        refine aqs rfl (q_ex rfl rfl (by constructor)) rfl ?_
        refine aqs rfl (q_as (by constructor)) rfl ?_
        first | (refine aen rfl (e_stW sz63 rfl (by repeat (first | exact .here | assumption | (apply HAt.left; assumption) | apply HAt.there | apply HAt.right)) (by constructor) (by first | rfl | assumption | (simp [*]; done) | fail) rfl (by repeat (first | exact .here | apply HSet.there))) ?_; rintro _ _ ⟨rfl, rfl⟩) | (refine aen rfl (e_stP sz63 rfl (by repeat (first | exact .here | assumption | (apply HAt.left; assumption) | apply HAt.there | apply HAt.right)) (by first | rfl | assumption | (simp [*]; done) | fail) (by constructor) (by first | rfl | assumption | (simp [*]; done) | fail) rfl (by first | decide | omega) (by first | ((repeat constructor); done) | exact .same _) (by first | exact .one | exact .set) (by repeat (first | exact .here | apply HSet.there))) ?_; rintro _ _ ⟨rfl, rfl⟩)
        refine aqs rfl (q_as (by constructor)) rfl ?_
        refine alist_nil ?_
        show AWP _ _ _ _
        refine awp_seq ?_
        refine awp_region ?_
        refine aqs rfl (q_bd st75 zr75 (by first | ((repeat constructor); done) | exact .same _) (by repeat (first | exact BD.nil | (apply BD.cons; (· rfl); (· constructor); (· rfl); (· rfl); (· exact Nat.le_of_ble_eq_true (by rfl)); (· exact (by first | ((repeat constructor); done) | exact .same _)))))) rfl ?_
        (refine aes rfl (e_al (xs := [.lit (.int .i64 0), .lit (.int .i64 0), .lit (.string ⟨#[]⟩), .lit (.string ⟨#[]⟩)]) (k := 4) zr75 (.same _) rfl) rfl ?_; rintro _ _ ⟨u22, rfl, rfl⟩)
        first | (refine aen rfl (e_stW sz75 rfl (by repeat (first | exact .here | assumption | (apply HAt.left; assumption) | apply HAt.there | apply HAt.right)) (by constructor) (by first | rfl | assumption | (simp [*]; done) | fail) rfl (by repeat (first | exact .here | apply HSet.there))) ?_; rintro _ _ ⟨rfl, rfl⟩) | (refine aen rfl (e_stP sz75 rfl (by repeat (first | exact .here | assumption | (apply HAt.left; assumption) | apply HAt.there | apply HAt.right)) (by first | rfl | assumption | (simp [*]; done) | fail) (by constructor) (by first | rfl | assumption | (simp [*]; done) | fail) rfl (by first | decide | omega) (by first | ((repeat constructor); done) | exact .same _) (by first | exact .one | exact .set) (by repeat (first | exact .here | apply HSet.there))) ?_; rintro _ _ ⟨rfl, rfl⟩)
        refine alist_nil ?_
        show AWP _ _ _ _
        rw [← hlc]
        show AWP _ _ _ _
        refine awp_seq ?_
        refine awp_region ?_
        first | refine aqs rfl (q_ldpW ag63 sz63 rfl (by repeat (first | exact .here | assumption | (apply HAt.left; assumption) | apply HAt.there | apply HAt.right)) (by first | rfl | assumption | (simp [*]; done) | fail) (by first | rfl | assumption | (simp [*]; done) | fail) (by decide)) rfl ?_ | refine aqs rfl (q_ldW ag63 sz63 rfl (by first | rfl | assumption | (simp [*]; done) | fail)) rfl ?_ | refine aqs rfl (q_ldpP ag63 sz63 rfl (by repeat (first | exact .here | assumption | (apply HAt.left; assumption) | apply HAt.there | apply HAt.right)) (by first | rfl | assumption | (simp [*]; done) | fail) (by first | decide | (simp; done) | omega | fail) (by decide) (by first | ((repeat constructor); done) | exact .same _)) rfl ?_ | refine aqs rfl (q_ldP ag63 sz63 rfl (by first | decide | (simp; done) | omega | fail) (by first | ((repeat constructor); done) | exact .same _)) rfl ?_
        first | refine aqs rfl (q_ldpW ag75 sz75 rfl (by repeat (first | exact .here | assumption | (apply HAt.left; assumption) | apply HAt.there | apply HAt.right)) (by first | rfl | assumption | (simp [*]; done) | fail) (by first | rfl | assumption | (simp [*]; done) | fail) (by decide)) rfl ?_ | refine aqs rfl (q_ldW ag75 sz75 rfl (by first | rfl | assumption | (simp [*]; done) | fail)) rfl ?_ | refine aqs rfl (q_ldpP ag75 sz75 rfl (by repeat (first | exact .here | assumption | (apply HAt.left; assumption) | apply HAt.there | apply HAt.right)) (by first | rfl | assumption | (simp [*]; done) | fail) (by first | decide | (simp; done) | omega | fail) (by decide) (by first | ((repeat constructor); done) | exact .same _)) rfl ?_ | refine aqs rfl (q_ldP ag75 sz75 rfl (by first | decide | (simp; done) | omega | fail) (by first | ((repeat constructor); done) | exact .same _)) rfl ?_
        first | refine aqs rfl (q_bs Try.underlying61 sz75 zr75 rfl (by first | ((repeat constructor); done) | exact .same _) rfl (by decide) (by repeat (first | exact BS.nil | (apply BS.cons; (· constructor); (· rfl); (· rfl); (· rfl); (· exact (by first | ((repeat constructor); done) | exact .same _)))))) rfl ?_ | (refine aes rfl (e_bs Try.underlying61 sz75 zr75 rfl (by first | ((repeat constructor); done) | exact .same _) rfl (by decide) (by repeat (first | exact BS.nil | (apply BS.cons; (· constructor); (· rfl); (· rfl); (· rfl); (· exact (by first | ((repeat constructor); done) | exact .same _)))))) rfl ?_; rintro _ _ ⟨u96, rfl, rfl⟩)
        first | refine aqs rfl (e_callN cb66 (hp2 ▸ put66_c ⟨R, false, X⟩ [last] (by simp) _) rfl rfl) rfl ?_ | refine aqs rfl (e_callN cb66 (ACall.arg (hp2 ▸ put66_c ⟨R, false, X⟩ [last] (by simp) _) (by repeat (first | exact ArgL.nil | (apply ArgL.cons; (· first | exact .same | exact .cro | exact .nil))))) rfl rfl) rfl ?_
        refine aqs rfl (q_mv (by constructor)) rfl ?_
        refine aqs rfl (q_ex rfl rfl (by constructor)) rfl ?_
        refine aqs rfl (q_ex rfl rfl (by constructor)) rfl ?_
        refine aqs rfl (q_ex rfl rfl (by constructor)) rfl ?_
        refine aqs rfl (q_as (by constructor)) rfl ?_
        first | (refine aen rfl (e_stW sz63 rfl (by repeat (first | exact .here | assumption | (apply HAt.left; assumption) | apply HAt.there | apply HAt.right)) (by constructor) (by first | rfl | assumption | (simp [*]; done) | fail) rfl (by repeat (first | exact .here | apply HSet.there))) ?_; rintro _ _ ⟨rfl, rfl⟩) | (refine aen rfl (e_stP sz63 rfl (by repeat (first | exact .here | assumption | (apply HAt.left; assumption) | apply HAt.there | apply HAt.right)) (by first | rfl | assumption | (simp [*]; done) | fail) (by constructor) (by first | rfl | assumption | (simp [*]; done) | fail) rfl (by first | decide | omega) (by first | ((repeat constructor); done) | exact .same _) (by first | exact .one | exact .set) (by repeat (first | exact .here | apply HSet.there))) ?_; rintro _ _ ⟨rfl, rfl⟩)
        refine aqs rfl (q_as (by constructor)) rfl ?_
        refine alist_nil ?_
        show AWP _ _ _ _
        refine awp_seq ?_
        refine awp_seq ?_
        refine awp_region ?_
        refine aqs rfl (q_as (by constructor)) rfl ?_
        refine alist_nil ?_
        show AWP _ _ _ _
        refine awp_block ?_
        rw [show (t.take i).map Task.cells = (t.take i ++ Y.take 0).map Task.cells by simp]
        refine awp_loop_inv (fun x : Nat × Nat => ⟨[(25, .lit (.int .i64 x.1)), (15, .lit (.int .i64 (i : Nat))), (10, .ptr u10 0 0), (14, .sl x.2 0 (i + x.1)), (8, .ro (t.map Task.cells)), (9, .lit (.int .i64 rq)), (7, .lit (.bool true)), (20, .lit (.int .i64 g)), (21, .lit (.int .i64 0)), (22, .ptr u22 0 0), (23, .lit (.int .i64 1)), (24, .lit (.int .i64 0))], 181, [(u22, .arr 75 4 [last.cells]), (x.2, .arr 75 4 ((t.take i ++ Y.take x.1).map Task.cells)), (u10, .arr 63 3 [(⟨R, false, Y.drop x.1⟩ : Queue).cells])]⟩) (fun x => x.1 ≤ Y.length) (fun x => 30 - x.1) (0, u) ?_ ?_ ?_
        · exact Nat.zero_le _
        · exact .mk' (by repeat (first | exact trivial | refine ⟨rfl, ?_⟩)) (by repeat (first | exact .refl _ | apply List.Sublist.cons_cons | apply List.Sublist.cons))
        · rintro ⟨j, v⟩ hj
          simp only at hj ⊢
          have hlen2 := lenTask (t.take i ++ Y.take j)
          have hone2 := oneTask (t.take i ++ Y.take j)
          have htk2 : ((t.take i ++ Y.take j).map Task.cells).length = i + j := by simp; omega
          refine awp_seq ?_
          refine awp_mid [(108, .lit (.bool (decide ((j : Int) < 30) && decide ((0 : Int) < (((Y.drop j).map Task.cells).length : Nat))))), (25, .lit (.int .i64 j)), (15, .lit (.int .i64 (i : Nat))), (10, .ptr u10 0 0), (14, .sl v 0 (i + j)), (8, .ro (t.map Task.cells)), (9, .lit (.int .i64 rq)), (7, .lit (.bool true)), (20, .lit (.int .i64 g)), (21, .lit (.int .i64 0)), (22, .ptr u22 0 0), (23, .lit (.int .i64 1)), (24, .lit (.int .i64 0))] ?_ ?_
          · skip
            refine awp_region ?_
            all_goals (refine aqs rfl (q_mv (by constructor)) rfl ?_)
            all_goals (refine aqs rfl (q_lss rfl rfl) rfl ?_)
            all_goals (refine aqs rfl (q_mv (by constructor)) rfl ?_)
            all_goals try (refine acase (fun hb2 => ?_) (fun hb2 => ?_))
            all_goals first | (exfalso; cases hb2; done) | skip
            all_goals (first | refine ans rfl rfl ?_ | refine aqs rfl (q_fapP fl63_2 (by decide) rfl rfl) rfl ?_ | refine aqs rfl (q_faP fl63_2 (by decide) rfl (by first | ((repeat constructor); done) | exact .same _)) rfl ?_)
            all_goals (first | refine ans rfl rfl ?_ | refine aqs rfl (q_ldpN ag61 rfl (by repeat (first | exact .here | assumption | (apply HAt.left; assumption) | apply HAt.there | apply HAt.right)) (by first | rfl | assumption | (simp [*]; done) | fail) (by first | rfl | assumption | (simp [*]; done) | fail) (by constructor)) rfl ?_ | refine aqs rfl (q_ld1N ag61 rfl (by constructor)) rfl ?_)
            all_goals (first | refine ans rfl rfl ?_ | refine aqs rfl (q_len Try.underlying61 .ro) rfl ?_ | refine aqs rfl (q_lenO Try.underlying61 rfl (by repeat (first | exact .here | assumption | (apply HAt.left; assumption) | apply HAt.there | apply HAt.right)) (by first | omega | (simp; done) | (simp; omega) | fail) (by first | exact Nat.sub_zero _ | rfl)) rfl ?_ | refine aqs rfl (q_len Try.underlying61 .nil) rfl ?_ | refine aqs rfl (q_len Try.underlying61 .cro) rfl ?_)
            all_goals (first | refine ans rfl rfl ?_ | refine aqs rfl (q_gtr rfl rfl) rfl ?_)
            all_goals (first | refine aqs rfl (q_pickT rfl (by constructor)) rfl ?_ | refine aqs rfl (q_pickF rfl (by constructor)) rfl ?_)
            all_goals (refine alist_nil ?_)
            all_goals (exact ⟨rfl, .mk' (by repeat (first | exact trivial | refine ⟨rfl, ?_⟩ | (refine ⟨?_, ?_⟩; (· first | (rw [hb2]; rfl) | fail)))) (.refl _)⟩)
          refine awp_cond rfl (fun hc3 => ?_) (fun hc3 => ?_)
          · simp only [Bool.and_eq_true, decide_eq_true_eq, List.length_map, List.length_drop] at hc3
            obtain ⟨s, hs, hsm⟩ := get_lt (l := Y) (i := j) (by omega)
            have hq := take_drop_q (c := false) hR (show (Y.length : Int) ≤ R by omega) hs
            have hes2 : ((t.take i ++ Y.take j).map Task.cells).take (i + j) ++ [s.cells] = (t.take i ++ Y.take (j + 1)).map Task.cells := by
              rw [List.take_of_length_le (by rw [htk2]; exact Nat.le_refl _), take_next hs]; simp
            refine awp_skip ?_
            show AWP _ _ _ _
            refine awp_seq ?_
            refine awp_block ?_
            refine awp_seq ?_
            refine awp_region ?_
            first | refine aqs rfl (q_ldpW ag63 sz63 rfl (by repeat (first | exact .here | assumption | (apply HAt.left; assumption) | apply HAt.there | apply HAt.right)) (by first | rfl | assumption | (simp [*]; done) | fail) (by first | rfl | assumption | (simp [*]; done) | fail) (by decide)) rfl ?_ | refine aqs rfl (q_ldW ag63 sz63 rfl (by first | rfl | assumption | (simp [*]; done) | fail)) rfl ?_ | refine aqs rfl (q_ldpP ag63 sz63 rfl (by repeat (first | exact .here | assumption | (apply HAt.left; assumption) | apply HAt.there | apply HAt.right)) (by first | rfl | assumption | (simp [*]; done) | fail) (by first | decide | (simp; done) | omega | fail) (by decide) (by first | ((repeat constructor); done) | exact .same _)) rfl ?_ | refine aqs rfl (q_ldP ag63 sz63 rfl (by first | decide | (simp; done) | omega | fail) (by first | ((repeat constructor); done) | exact .same _)) rfl ?_
            first | refine aqs rfl (e_callN cb68 (hq ▸ take68_c ⟨R, false, Y.drop j⟩ _) rfl rfl) rfl ?_ | refine aqs rfl (e_callN cb68 (ACall.arg (hq ▸ take68_c ⟨R, false, Y.drop j⟩ _) (by repeat (first | exact ArgL.nil | (apply ArgL.cons; (· first | exact .same | exact .cro | exact .nil))))) rfl rfl) rfl ?_
            refine aqs rfl (q_mv (by constructor)) rfl ?_
            refine aqs rfl (q_ex rfl rfl (by constructor)) rfl ?_
            refine aqs rfl (q_ex rfl rfl (by constructor)) rfl ?_
            refine aqs rfl (q_ex rfl rfl (by constructor)) rfl ?_
            (refine aes rfl (e_al (xs := [.lit (.int .i64 0), .lit (.int .i64 0), .lit (.string ⟨#[]⟩), .lit (.string ⟨#[]⟩)]) (k := 4) zr75 (.same _) rfl) rfl ?_; rintro _ _ ⟨u26, rfl, rfl⟩)
            (refine aes rfl (e_al (xs := [.lit (.int .i64 0), .lit (.bool false), .lit (.slice none 0 0)]) (k := 3) zr63 (.same _) rfl) rfl ?_; rintro _ _ ⟨u27, rfl, rfl⟩)
            first | (refine aen rfl (e_stW sz75 rfl (by repeat (first | exact .here | assumption | (apply HAt.left; assumption) | apply HAt.there | apply HAt.right)) (by constructor) (by first | rfl | assumption | (simp [*]; done) | fail) rfl (by repeat (first | exact .here | apply HSet.there))) ?_; rintro _ _ ⟨rfl, rfl⟩) | (refine aen rfl (e_stP sz75 rfl (by repeat (first | exact .here | assumption | (apply HAt.left; assumption) | apply HAt.there | apply HAt.right)) (by first | rfl | assumption | (simp [*]; done) | fail) (by constructor) (by first | rfl | assumption | (simp [*]; done) | fail) rfl (by first | decide | omega) (by first | ((repeat constructor); done) | exact .same _) (by first | exact .one | exact .set) (by repeat (first | exact .here | apply HSet.there))) ?_; rintro _ _ ⟨rfl, rfl⟩)
            first | (refine aen rfl (e_stW sz63 rfl (by repeat (first | exact .here | assumption | (apply HAt.left; assumption) | apply HAt.there | apply HAt.right)) (by constructor) (by first | rfl | assumption | (simp [*]; done) | fail) rfl (by repeat (first | exact .here | apply HSet.there))) ?_; rintro _ _ ⟨rfl, rfl⟩) | (refine aen rfl (e_stP sz63 rfl (by repeat (first | exact .here | assumption | (apply HAt.left; assumption) | apply HAt.there | apply HAt.right)) (by first | rfl | assumption | (simp [*]; done) | fail) (by constructor) (by first | rfl | assumption | (simp [*]; done) | fail) rfl (by first | decide | omega) (by first | ((repeat constructor); done) | exact .same _) (by first | exact .one | exact .set) (by repeat (first | exact .here | apply HSet.there))) ?_; rintro _ _ ⟨rfl, rfl⟩)
            refine aqs rfl (q_as (by constructor)) rfl ?_
            refine alist_nil ?_
            show AWP _ _ _ _
            refine awp_seq ?_
            refine awp_seq ?_
            refine awp_region ?_
            refine aqs rfl (q_mv (by constructor)) rfl ?_
            refine aqs rfl (castF (q_neq rfl rfl) (by rfl)) rfl ?_
            refine alist_nil ?_
            show AWP _ _ _ _
            refine awp_cond rfl (fun hc4 => ?_) (fun hc4 => ?_)
            · exfalso; first | (simp at hc4; done) | (simp at hc4; omega) | contradiction
            · try simp only [decide_eq_true_eq, decide_eq_false_iff_not, Bool.not_eq_true', Bool.not_eq_false', Bool.not_eq_eq_eq_not, Bool.not_true, Bool.not_false, beq_iff_eq, beq_eq_false_iff_ne, Int.not_lt, Int.not_le] at hc4
              refine awp_skip ?_
              show AWP _ _ _ _
              refine awp_seq ?_
              refine awp_region ?_
              refine aqs rfl (q_mv (by constructor)) rfl ?_
              first | refine aqs rfl (q_ldpW ag75 sz75 rfl (by repeat (first | exact .here | assumption | (apply HAt.left; assumption) | apply HAt.there | apply HAt.right)) (by first | rfl | assumption | (simp [*]; done) | fail) (by first | rfl | assumption | (simp [*]; done) | fail) (by decide)) rfl ?_ | refine aqs rfl (q_ldW ag75 sz75 rfl (by first | rfl | assumption | (simp [*]; done) | fail)) rfl ?_ | refine aqs rfl (q_ldpP ag75 sz75 rfl (by repeat (first | exact .here | assumption | (apply HAt.left; assumption) | apply HAt.there | apply HAt.right)) (by first | rfl | assumption | (simp [*]; done) | fail) (by first | decide | (simp; done) | omega | fail) (by decide) (by first | ((repeat constructor); done) | exact .same _)) rfl ?_ | refine aqs rfl (q_ldP ag75 sz75 rfl (by first | decide | (simp; done) | omega | fail) (by first | ((repeat constructor); done) | exact .same _)) rfl ?_
              first | refine aqs rfl (q_bs Try.underlying61 sz75 zr75 rfl (by first | ((repeat constructor); done) | exact .same _) rfl (by decide) (by repeat (first | exact BS.nil | (apply BS.cons; (· constructor); (· rfl); (· rfl); (· rfl); (· exact (by first | ((repeat constructor); done) | exact .same _)))))) rfl ?_ | (refine aes rfl (e_bs Try.underlying61 sz75 zr75 rfl (by first | ((repeat constructor); done) | exact .same _) rfl (by decide) (by repeat (first | exact BS.nil | (apply BS.cons; (· constructor); (· rfl); (· rfl); (· rfl); (· exact (by first | ((repeat constructor); done) | exact .same _)))))) rfl ?_; rintro _ _ ⟨u121, rfl, rfl⟩)
              first | refine aqs rfl (q_apC Try.underlying61 sz75 by75 zr75 (.inl rfl) (by first | exact .ro | exact .cro | exact .nil | exact SV.slA (by repeat (first | exact .here | assumption | (apply HAt.left; assumption) | apply HAt.there | apply HAt.right)) (by first | rfl | (simp; done) | (simp; omega) | (simp [*]; done) | fail)) (by first | assumption | (intro c hc; simp at hc; subst hc; rfl) | (simp; done) | fail) (by first | assumption | (intro c hc; simp at hc; subst hc; rfl) | (simp; done) | fail) (by first | omega | decide | (simp; omega) | assumption | fail) (by decide) (by decide) rfl (by first | rfl | (simp; done) | fail)) rfl ?_ | refine aqs rfl (q_apC Try.underlying61 sz75 by75 zr75 (.inr ⟨rfl, rfl⟩) (by first | exact .ro | exact .cro | exact .nil | exact SV.slA (by repeat (first | exact .here | assumption | (apply HAt.left; assumption) | apply HAt.there | apply HAt.right)) (by first | rfl | (simp; done) | (simp; omega) | (simp [*]; done) | fail)) (by first | assumption | (intro c hc; simp at hc; subst hc; rfl) | (simp; done) | fail) (by first | assumption | (intro c hc; simp at hc; subst hc; rfl) | (simp; done) | fail) (by first | omega | decide | (simp; omega) | assumption | fail) (by decide) (by decide) rfl (by first | rfl | (simp; done) | fail)) rfl ?_ | (refine aes rfl (e_apO Try.underlying61 sz75 by75 zr75 rfl (by repeat (first | exact .here | assumption | (apply HAt.left; assumption) | apply HAt.there | apply HAt.right)) (by first | (rw [htk]; exact Nat.le_refl _) | (rw [htk2]; exact Nat.le_refl _) | (rw [List.length_map]; exact Nat.le_refl _)) (by first | exact .ro | exact .cro | exact .nil | exact SV.slA (by repeat (first | exact .here | assumption | (apply HAt.left; assumption) | apply HAt.there | apply HAt.right)) (by first | rfl | (simp; done) | (simp; omega) | (simp [*]; done) | fail)) (by first | assumption | (intro c hc; simp at hc; subst hc; rfl) | (simp; done) | fail) (by first | assumption | (intro c hc; simp at hc; subst hc; rfl) | (simp; done) | fail) (by first | assumption | (intro c hc; simp at hc; subst hc; rfl) | (simp; done) | fail) (by first | (simp; done) | (simp; omega) | omega | fail) (by decide) (by decide) rfl (by first | exact hml4 | exact hml3 | rfl) (by first | exact hes4 | exact hes3 | exact hes2 | exact hes1 | rfl | (simp; rfl)) (fun v => (by repeat (first | exact .here | apply HSet.there)))) rfl ?_; rintro _ _ ⟨u122, rfl, rfl⟩) | (refine aes rfl (e_apN Try.underlying61 sz75 by75 zr75 rfl (by first | exact .ro | exact .cro | exact .nil | exact SV.slA (by repeat (first | exact .here | assumption | (apply HAt.left; assumption) | apply HAt.there | apply HAt.right)) (by first | rfl | (simp; done) | (simp; omega) | (simp [*]; done) | fail)) (by first | assumption | (intro c hc; simp at hc; subst hc; rfl) | (simp; done) | fail) (by first | assumption | (intro c hc; simp at hc; subst hc; rfl) | (simp; done) | fail) (by first | (simp; done) | (simp; omega) | omega | fail) (by decide) (by decide) rfl rfl) rfl ?_; rintro _ _ ⟨u122, rfl, rfl⟩)
              refine aqs rfl (q_as (by constructor)) rfl ?_
              refine alist_nil ?_
              show AWP _ _ _ _
              refine awp_region ?_
              first | refine aqs rfl (q_ldpW ag63 sz63 rfl (by repeat (first | exact .here | assumption | (apply HAt.left; assumption) | apply HAt.there | apply HAt.right)) (by first | rfl | assumption | (simp [*]; done) | fail) (by first | rfl | assumption | (simp [*]; done) | fail) (by decide)) rfl ?_ | refine aqs rfl (q_ldW ag63 sz63 rfl (by first | rfl | assumption | (simp [*]; done) | fail)) rfl ?_ | refine aqs rfl (q_ldpP ag63 sz63 rfl (by repeat (first | exact .here | assumption | (apply HAt.left; assumption) | apply HAt.there | apply HAt.right)) (by first | rfl | assumption | (simp [*]; done) | fail) (by first | decide | (simp; done) | omega | fail) (by decide) (by first | ((repeat constructor); done) | exact .same _)) rfl ?_ | refine aqs rfl (q_ldP ag63 sz63 rfl (by first | decide | (simp; done) | omega | fail) (by first | ((repeat constructor); done) | exact .same _)) rfl ?_
              first | (refine aen rfl (e_stW sz63 rfl (by repeat (first | exact .here | assumption | (apply HAt.left; assumption) | apply HAt.there | apply HAt.right)) (by constructor) (by first | rfl | assumption | (simp [*]; done) | fail) rfl (by repeat (first | exact .here | apply HSet.there))) ?_; rintro _ _ ⟨rfl, rfl⟩) | (refine aen rfl (e_stP sz63 rfl (by repeat (first | exact .here | assumption | (apply HAt.left; assumption) | apply HAt.there | apply HAt.right)) (by first | rfl | assumption | (simp [*]; done) | fail) (by constructor) (by first | rfl | assumption | (simp [*]; done) | fail) rfl (by first | decide | omega) (by first | ((repeat constructor); done) | exact .same _) (by first | exact .one | exact .set) (by repeat (first | exact .here | apply HSet.there))) ?_; rintro _ _ ⟨rfl, rfl⟩)
              refine alist_nil ?_
              show AWP _ _ _ _
              refine awp_region ?_
              refine aqs rfl (q_mv (by constructor)) rfl ?_
              first | refine aqs rfl (q_add64 rfl rfl (by omega) (by omega)) rfl ?_ | refine aqs rfl (q_add rfl rfl) rfl ?_
              refine aqs rfl (q_as (by constructor)) rfl ?_
              refine alist_nil ?_
              show ∃ y, _ ∧ _ ∧ _
              exact ⟨(j + 1, _), by show j + 1 ≤ Y.length; omega, by show 30 - (j + 1) < 30 - j; omega, .mk' ⟨by rfl, rfl, rfl, rfl, rfl, rfl, rfl, rfl, rfl, rfl, rfl, rfl, trivial⟩ (by repeat (first | exact List.Sublist.refl _ | exact List.nil_sublist _ | exact List.sublist_append_left _ _ | (apply List.Sublist.cons_cons) | (apply List.Sublist.cons)))⟩
          · simp only [Bool.and_eq_false_iff, decide_eq_false_iff_not, List.length_map, List.length_drop] at hc3
            have hjY : j = Y.length := by omega
            subst hjY
            rw [List.take_length] at hlen2 hone2 htk2 ⊢
            refine awp_pub (u := v) (by repeat (first | exact .here | assumption | (apply HAt.left; assumption) | apply HAt.there | apply HAt.right)) (by repeat (first | exact PubT.nil | (apply PubT.cons; (· first | exact .one (pub_all (by first | rfl | (simp; done) | (simp; omega) | (simp [*]; done) | fail)) | exact .one .same)) | exact PubT.same)) (by repeat (first | exact PubH.drop .same | (apply PubH.cons; (· exact .same)))) ?_
            refine awp_exit ?_
            show AWP _ _ _ _
            refine awp_seq ?_
            refine awp_region ?_
            refine aqs rfl (q_mv (by constructor)) rfl ?_
            refine aqs rfl (q_mv (by constructor)) rfl ?_
            first | refine aqs rfl (castQ (r2 := .ro ((t.take i).map Task.cells)) (q_slR Try.underlying61 sz75 (.inl rfl) rfl (by first | (refine ⟨_, _, rfl, ?_⟩; with_reducible rfl) | exact bnd_int rfl (by omega)) (by first | omega | (simp; done) | (simp; omega) | fail) (by first | omega | (simp; done) | (simp; omega) | fail) (by first | rfl | assumption | (simp [*]; done) | fail)) (by simp)) rfl ?_ | refine aqs rfl (castQ (r2 := .ro ((t.take i).map Task.cells)) (q_slO Try.underlying61 sz75 rfl (by repeat (first | exact .here | assumption | (apply HAt.left; assumption) | apply HAt.there | apply HAt.right)) rfl (by first | (refine ⟨_, _, rfl, ?_⟩; with_reducible rfl) | exact bnd_int rfl (by omega)) (by first | omega | (simp; done) | (simp; omega) | fail) (by first | omega | (simp; done) | (simp; omega) | fail) (by first | exact Nat.zero_add _ | rfl) (by first | exact Nat.zero_add _ | rfl)) (by simp)) rfl ?_
            first | (refine aes rfl (e_apO Try.underlying61 sz75 by75 zr75 rfl (by repeat (first | exact .here | assumption | (apply HAt.left; assumption) | apply HAt.there | apply HAt.right)) (by first | (rw [htk]; exact Nat.le_refl _) | (rw [htk2]; exact Nat.le_refl _) | (rw [List.length_map]; exact Nat.le_refl _)) (by first | exact .ro | exact .cro | exact .nil | exact SV.slA (by repeat (first | exact .here | assumption | (apply HAt.left; assumption) | apply HAt.there | apply HAt.right)) (by first | rfl | (simp; done) | (simp; omega) | (simp [*]; done) | fail)) (by first | assumption | (intro c hc; simp at hc; subst hc; rfl) | (simp; done) | fail) (by first | assumption | (intro c hc; simp at hc; subst hc; rfl) | (simp; done) | fail) (by first | assumption | (intro c hc; simp at hc; subst hc; rfl) | (simp; done) | fail) (by first | (simp; done) | (simp; omega) | omega | fail) (by decide) (by decide) rfl (by first | exact hml4 | exact hml3 | rfl) (by first | exact hes4 | exact hes3 | exact hes2 | exact hes1 | rfl | (simp; rfl)) (fun v => (by repeat (first | exact .here | apply HSet.there)))) rfl ?_; rintro _ _ ⟨u127, rfl, rfl⟩) | (refine aes rfl (e_apN Try.underlying61 sz75 by75 zr75 rfl (by first | exact .ro | exact .cro | exact .nil | exact SV.slA (by repeat (first | exact .here | assumption | (apply HAt.left; assumption) | apply HAt.there | apply HAt.right)) (by first | rfl | (simp; done) | (simp; omega) | (simp [*]; done) | fail)) (by first | assumption | (intro c hc; simp at hc; subst hc; rfl) | (simp; done) | fail) (by first | assumption | (intro c hc; simp at hc; subst hc; rfl) | (simp; done) | fail) (by first | (simp; done) | (simp; omega) | omega | fail) (by decide) (by decide) rfl rfl) rfl ?_; rintro _ _ ⟨u127, rfl, rfl⟩)
            refine aqs rfl (q_as (by constructor)) rfl ?_
            refine alist_nil ?_
            show AWP _ _ _ _
            refine awp_seq ?_
            refine awp_seq ?_
            refine awp_region ?_
            refine aqs rfl (q_mv (by constructor)) rfl ?_
            refine aqs rfl (q_as (by constructor)) rfl ?_
            refine alist_nil ?_
            show AWP _ _ _ _
            refine awp_block ?_
            rw [show (t.take i).map Task.cells = (t.take i ++ restT rq ((t.drop i).take 0)).map Task.cells by simp [restT, keep]]
            refine awp_loop_inv (fun x : Nat × Nat => ⟨[(30, .lit (.int .i64 (i + x.1 : Nat))), (29, .sl x.2 0 (t.take i ++ restT rq ((t.drop i).take x.1)).length), (14, .ro ((t.take i ++ Y).map Task.cells)), (8, .ro (t.map Task.cells)), (9, .lit (.int .i64 rq)), (7, .lit (.bool true)), (20, .lit (.int .i64 g)), (21, .lit (.int .i64 0)), (22, .ptr u22 0 0), (23, .lit (.int .i64 1)), (24, .lit (.int .i64 0))], 181, [(x.2, .arr 75 4 ((t.take i ++ restT rq ((t.drop i).take x.1)).map Task.cells)), (u22, .arr 75 4 [last.cells])]⟩) (fun x => i + x.1 ≤ t.length) (fun x => t.length - x.1) (0, u127) ?_ ?_ ?_
            · exact hk
            · exact .mk' (by refine ⟨rfl, (by show AV.sl _ 0 _ = AV.sl _ 0 _; simp), rfl, rfl, rfl, rfl, rfl, rfl, rfl, rfl, rfl, trivial⟩) (by repeat (first | exact .refl _ | apply List.Sublist.cons_cons | apply List.Sublist.cons))
            · rintro ⟨j, w⟩ hj
              simp only at hj ⊢
              have hlen3 := lenTask (t.take i ++ restT rq ((t.drop i).take j))
              have hone3 := oneTask (t.take i ++ restT rq ((t.drop i).take j))
              have hrl := rest_len rq ((t.drop i).take j)
              have hrl2 : ((t.drop i).take j).length = j := by rw [List.length_take, List.length_drop]; omega
              have hwl : (t.take i ++ restT rq ((t.drop i).take j)).length ≤ 20 := by rw [List.length_append, hkl]; omega
              refine awp_seq ?_
              refine awp_seq ?_
              refine awp_region ?_
              refine aqs rfl (q_mv (by constructor)) rfl ?_
              refine aqs rfl (q_mv (by constructor)) rfl ?_
              first | refine aqs rfl (q_len Try.underlying61 .ro) rfl ?_ | refine aqs rfl (q_lenO Try.underlying61 rfl (by repeat (first | exact .here | assumption | (apply HAt.left; assumption) | apply HAt.there | apply HAt.right)) (by first | omega | (simp; done) | (simp; omega) | fail) (by first | exact Nat.sub_zero _ | rfl)) rfl ?_ | refine aqs rfl (q_len Try.underlying61 .nil) rfl ?_ | refine aqs rfl (q_len Try.underlying61 .cro) rfl ?_
              refine aqs rfl (q_lss rfl rfl) rfl ?_
              refine alist_nil ?_
              show AWP _ _ _ _
              refine awp_cond rfl (fun hc5 => ?_) (fun hc5 => ?_)
              · simp only [decide_eq_true_eq, htm] at hc5
                obtain ⟨s, hs, hsm⟩ := get_lt (l := t) (i := i + j) (by omega)
                have hs2 := get_map (f := Task.cells) hs
                have hnx := rest_next rq (show (t.drop i)[j]? = some s by rw [List.getElem?_drop]; exact hs)
                refine awp_skip ?_
                show AWP _ _ _ _
                refine awp_seq ?_
                refine awp_block ?_
                refine awp_seq ?_
                refine awp_region ?_
                refine aqs rfl (q_mv (by constructor)) rfl ?_
                refine aqs rfl (q_mv (by constructor)) rfl ?_
                first | refine aqs rfl (q_iaN Try.underlying61 sz75 (.inl rfl) rfl (by omega) (by first | rfl | assumption | (simp [*]; done) | fail) (by first | rfl | assumption | (simp [*]; done) | fail) (by decide) (by first | ((repeat constructor); done) | exact .same _)) rfl ?_ | refine aqs rfl (q_iaS Try.underlying61 sz75 rfl (by repeat (first | exact .here | assumption | (apply HAt.left; assumption) | apply HAt.there | apply HAt.right)) rfl (by omega) (by omega) (by first | exact Nat.zero_add _ | rfl)) rfl ?_ | refine aqs rfl (q_iaN Try.underlying61 sz75 (.inr rfl) rfl (by omega) (by first | rfl | assumption | (simp [*]; done) | fail) (by first | rfl | assumption | (simp [*]; done) | fail) (by decide) (by first | ((repeat constructor); done) | exact .same _)) rfl ?_
                first | refine aqs rfl (q_fapP fl75_0 (by decide) rfl rfl) rfl ?_ | refine aqs rfl (q_faP fl75_0 (by decide) rfl (by first | ((repeat constructor); done) | exact .same _)) rfl ?_
                first | refine aqs rfl (q_ldpN ag3 rfl (by repeat (first | exact .here | assumption | (apply HAt.left; assumption) | apply HAt.there | apply HAt.right)) (by first | rfl | assumption | (simp [*]; done) | fail) (by first | rfl | assumption | (simp [*]; done) | fail) (by constructor)) rfl ?_ | refine aqs rfl (q_ld1N ag3 rfl (by constructor)) rfl ?_
                refine aqs rfl (q_mv (by constructor)) rfl ?_
                refine aqs rfl (q_neq rfl rfl) rfl ?_
                refine alist_nil ?_
                show AWP _ _ _ _
                refine awp_cond rfl (fun hc6 => ?_) (fun hc6 => ?_)
                · have hkq : ¬ s.req = rq := by simpa using hc6
                  rw [if_neg hkq] at hnx
                  have hes3 : ((t.take i ++ restT rq ((t.drop i).take j)).map Task.cells).take (t.take i ++ restT rq ((t.drop i).take j)).length ++ [s.cells] = (t.take i ++ restT rq ((t.drop i).take (j + 1))).map Task.cells := by
                    rw [List.take_of_length_le (by simp), hnx]; simp
                  have hml3 : (t.take i ++ restT rq ((t.drop i).take j)).length - 0 + 1 = (t.take i ++ restT rq ((t.drop i).take (j + 1))).length := by rw [hnx]; simp; omega
                  refine awp_region ?_
                  refine aqs rfl (q_mv (by constructor)) rfl ?_
                  refine aqs rfl (q_mv (by constructor)) rfl ?_
                  refine aqs rfl (q_mv (by constructor)) rfl ?_
                  first | refine aqs rfl (q_iaN Try.underlying61 sz75 (.inl rfl) rfl (by omega) (by first | rfl | assumption | (simp [*]; done) | fail) (by first | rfl | assumption | (simp [*]; done) | fail) (by decide) (by first | ((repeat constructor); done) | exact .same _)) rfl ?_ | refine aqs rfl (q_iaS Try.underlying61 sz75 rfl (by repeat (first | exact .here | assumption | (apply HAt.left; assumption) | apply HAt.there | apply HAt.right)) rfl (by omega) (by omega) (by first | exact Nat.zero_add _ | rfl)) rfl ?_ | refine aqs rfl (q_iaN Try.underlying61 sz75 (.inr rfl) rfl (by omega) (by first | rfl | assumption | (simp [*]; done) | fail) (by first | rfl | assumption | (simp [*]; done) | fail) (by decide) (by first | ((repeat constructor); done) | exact .same _)) rfl ?_
                  first | refine aqs rfl (q_ldpW ag75 sz75 rfl (by repeat (first | exact .here | assumption | (apply HAt.left; assumption) | apply HAt.there | apply HAt.right)) (by first | rfl | assumption | (simp [*]; done) | fail) (by first | rfl | assumption | (simp [*]; done) | fail) (by decide)) rfl ?_ | refine aqs rfl (q_ldW ag75 sz75 rfl (by first | rfl | assumption | (simp [*]; done) | fail)) rfl ?_ | refine aqs rfl (q_ldpP ag75 sz75 rfl (by repeat (first | exact .here | assumption | (apply HAt.left; assumption) | apply HAt.there | apply HAt.right)) (by first | rfl | assumption | (simp [*]; done) | fail) (by first | decide | (simp; done) | omega | fail) (by decide) (by first | ((repeat constructor); done) | exact .same _)) rfl ?_ | refine aqs rfl (q_ldP ag75 sz75 rfl (by first | decide | (simp; done) | omega | fail) (by first | ((repeat constructor); done) | exact .same _)) rfl ?_
                  first | refine aqs rfl (q_bs Try.underlying61 sz75 zr75 rfl (by first | ((repeat constructor); done) | exact .same _) rfl (by decide) (by repeat (first | exact BS.nil | (apply BS.cons; (· constructor); (· rfl); (· rfl); (· rfl); (· exact (by first | ((repeat constructor); done) | exact .same _)))))) rfl ?_ | (refine aes rfl (e_bs Try.underlying61 sz75 zr75 rfl (by first | ((repeat constructor); done) | exact .same _) rfl (by decide) (by repeat (first | exact BS.nil | (apply BS.cons; (· constructor); (· rfl); (· rfl); (· rfl); (· exact (by first | ((repeat constructor); done) | exact .same _)))))) rfl ?_; rintro _ _ ⟨u147, rfl, rfl⟩)
                  first | refine aqs rfl (q_apC Try.underlying61 sz75 by75 zr75 (.inl rfl) (by first | exact .ro | exact .cro | exact .nil | exact SV.slA (by repeat (first | exact .here | assumption | (apply HAt.left; assumption) | apply HAt.there | apply HAt.right)) (by first | rfl | (simp; done) | (simp; omega) | (simp [*]; done) | fail)) (by first | assumption | (intro c hc; simp at hc; subst hc; rfl) | (simp; done) | fail) (by first | assumption | (intro c hc; simp at hc; subst hc; rfl) | (simp; done) | fail) (by first | omega | decide | (simp; omega) | assumption | fail) (by decide) (by decide) rfl (by first | rfl | (simp; done) | fail)) rfl ?_ | refine aqs rfl (q_apC Try.underlying61 sz75 by75 zr75 (.inr ⟨rfl, rfl⟩) (by first | exact .ro | exact .cro | exact .nil | exact SV.slA (by repeat (first | exact .here | assumption | (apply HAt.left; assumption) | apply HAt.there | apply HAt.right)) (by first | rfl | (simp; done) | (simp; omega) | (simp [*]; done) | fail)) (by first | assumption | (intro c hc; simp at hc; subst hc; rfl) | (simp; done) | fail) (by first | assumption | (intro c hc; simp at hc; subst hc; rfl) | (simp; done) | fail) (by first | omega | decide | (simp; omega) | assumption | fail) (by decide) (by decide) rfl (by first | rfl | (simp; done) | fail)) rfl ?_ | (refine aes rfl (e_apO Try.underlying61 sz75 by75 zr75 rfl (by repeat (first | exact .here | assumption | (apply HAt.left; assumption) | apply HAt.there | apply HAt.right)) (by first | (rw [htk]; exact Nat.le_refl _) | (rw [htk2]; exact Nat.le_refl _) | (rw [List.length_map]; exact Nat.le_refl _)) (by first | exact .ro | exact .cro | exact .nil | exact SV.slA (by repeat (first | exact .here | assumption | (apply HAt.left; assumption) | apply HAt.there | apply HAt.right)) (by first | rfl | (simp; done) | (simp; omega) | (simp [*]; done) | fail)) (by first | assumption | (intro c hc; simp at hc; subst hc; rfl) | (simp; done) | fail) (by first | assumption | (intro c hc; simp at hc; subst hc; rfl) | (simp; done) | fail) (by first | assumption | (intro c hc; simp at hc; subst hc; rfl) | (simp; done) | fail) (by first | (simp; done) | (simp; omega) | omega | fail) (by decide) (by decide) rfl (by first | exact hml4 | exact hml3 | rfl) (by first | exact hes4 | exact hes3 | exact hes2 | exact hes1 | rfl | (simp; rfl)) (fun v => (by repeat (first | exact .here | apply HSet.there)))) rfl ?_; rintro _ _ ⟨u148, rfl, rfl⟩) | (refine aes rfl (e_apN Try.underlying61 sz75 by75 zr75 rfl (by first | exact .ro | exact .cro | exact .nil | exact SV.slA (by repeat (first | exact .here | assumption | (apply HAt.left; assumption) | apply HAt.there | apply HAt.right)) (by first | rfl | (simp; done) | (simp; omega) | (simp [*]; done) | fail)) (by first | assumption | (intro c hc; simp at hc; subst hc; rfl) | (simp; done) | fail) (by first | assumption | (intro c hc; simp at hc; subst hc; rfl) | (simp; done) | fail) (by first | (simp; done) | (simp; omega) | omega | fail) (by decide) (by decide) rfl rfl) rfl ?_; rintro _ _ ⟨u148, rfl, rfl⟩)
                  refine aqs rfl (q_as (by constructor)) rfl ?_
                  refine alist_nil ?_
                  show AWP _ _ _ _
                  refine awp_region ?_
                  refine aqs rfl (q_mv (by constructor)) rfl ?_
                  first | refine aqs rfl (q_add64 rfl rfl (by omega) (by omega)) rfl ?_ | refine aqs rfl (q_add rfl rfl) rfl ?_
                  refine aqs rfl (q_as (by constructor)) rfl ?_
                  refine alist_nil ?_
                  show ∃ y, _ ∧ _ ∧ _
                  first
                    | exact ⟨(j + 1, _), by show i + (j + 1) ≤ t.length; omega, by show t.length - (j + 1) < t.length - j; omega, .mk' ⟨by rfl, rfl, rfl, rfl, rfl, rfl, rfl, rfl, rfl, rfl, rfl, trivial⟩ (by repeat (first | exact List.Sublist.refl _ | exact List.nil_sublist _ | exact List.sublist_append_left _ _ | (apply List.Sublist.cons_cons) | (apply List.Sublist.cons)))⟩
                    | exact ⟨(j + 1, w), by show i + (j + 1) ≤ t.length; omega, by show t.length - (j + 1) < t.length - j; omega, by simp only [hnx]; exact .mk' ⟨by rfl, rfl, rfl, rfl, rfl, rfl, rfl, rfl, rfl, rfl, rfl, trivial⟩ (by repeat (first | exact List.Sublist.refl _ | exact List.nil_sublist _ | exact List.sublist_append_left _ _ | (apply List.Sublist.cons_cons) | (apply List.Sublist.cons)))⟩
                · have hkq : s.req = rq := by simpa using hc6
                  rw [if_pos hkq] at hnx
                  refine awp_skip ?_
                  show AWP _ _ _ _
                  refine awp_region ?_
                  refine aqs rfl (q_mv (by constructor)) rfl ?_
                  first | refine aqs rfl (q_add64 rfl rfl (by omega) (by omega)) rfl ?_ | refine aqs rfl (q_add rfl rfl) rfl ?_
                  refine aqs rfl (q_as (by constructor)) rfl ?_
                  refine alist_nil ?_
                  show ∃ y, _ ∧ _ ∧ _
                  first
                    | exact ⟨(j + 1, _), by show i + (j + 1) ≤ t.length; omega, by show t.length - (j + 1) < t.length - j; omega, .mk' ⟨by rfl, rfl, rfl, rfl, rfl, rfl, rfl, rfl, rfl, rfl, rfl, trivial⟩ (by repeat (first | exact List.Sublist.refl _ | exact List.nil_sublist _ | exact List.sublist_append_left _ _ | (apply List.Sublist.cons_cons) | (apply List.Sublist.cons)))⟩
                    | exact ⟨(j + 1, w), by show i + (j + 1) ≤ t.length; omega, by show t.length - (j + 1) < t.length - j; omega, by simp only [hnx]; exact .mk' ⟨by rfl, rfl, rfl, rfl, rfl, rfl, rfl, rfl, rfl, rfl, rfl, trivial⟩ (by repeat (first | exact List.Sublist.refl _ | exact List.nil_sublist _ | exact List.sublist_append_left _ _ | (apply List.Sublist.cons_cons) | (apply List.Sublist.cons)))⟩
              · simp only [decide_eq_false_iff_not, htm] at hc5
                have hjt : (t.drop i).take j = t.drop i := List.take_of_length_le (by rw [List.length_drop]; omega)
                rw [hjt] at hlen3 hone3 hwl ⊢
                rw [← hX] at hlen3 hone3 hwl ⊢
                have hWl : (t.take i ++ X).length = i + X.length := by rw [List.length_append, hkl]
                have hes4 : ((t.take i ++ X).map Task.cells).take (t.take i ++ X).length ++ [last.cells] = (([] : List Task) ++ ((t.take i ++ X) ++ [last])).map Task.cells := by
                  rw [List.take_of_length_le (by simp)]; simp
                have hml4 : (t.take i ++ X).length - 0 + 1 = ([] : List Task).length + ((t.take i ++ X) ++ [last]).length := by rw [List.length_append (bs := [last]), List.length_nil, List.length_singleton]; omega
                refine awp_exit ?_
                show AWP _ _ _ _
                refine awp_seq ?_
                refine awp_region ?_
                refine aqs rfl (q_mv (by constructor)) rfl ?_
                refine aqs rfl (q_mv (by constructor)) rfl ?_
                first | refine ans rfl rfl ?_ | refine aqs rfl (q_mv (by constructor)) rfl ?_
                refine aqs rfl (castT (q_eql rfl rfl) (by rfl)) rfl ?_
                first | refine aqs rfl (q_pickT rfl (by constructor)) rfl ?_ | refine aqs rfl (q_pickF rfl (by constructor)) rfl ?_
                refine aqs rfl (q_mv (by constructor)) rfl ?_
                first | refine ans rfl rfl ?_ | refine aqs rfl (q_mv (by constructor)) rfl ?_
                refine aqs rfl (castT (q_eql rfl rfl) (by rfl)) rfl ?_
                first | refine aqs rfl (q_pickT rfl (by constructor)) rfl ?_ | refine aqs rfl (q_pickF rfl (by constructor)) rfl ?_
                refine aqs rfl (q_mv (by constructor)) rfl ?_
                first | refine ans rfl rfl ?_ | refine aqs rfl (q_mv (by constructor)) rfl ?_
                refine aqs rfl (castT (q_eql rfl rfl) (by rfl)) rfl ?_
                first | refine aqs rfl (q_pickT rfl (by constructor)) rfl ?_ | refine aqs rfl (q_pickF rfl (by constructor)) rfl ?_
                refine aqs rfl (q_mv (by constructor)) rfl ?_
                first | refine ans rfl rfl ?_ | refine aqs rfl (q_mv (by constructor)) rfl ?_
                first | refine ans rfl rfl ?_ | refine aqs rfl (q_mv (by constructor)) rfl ?_
                first | refine ans rfl rfl ?_ | refine aqs rfl (q_len Try.underlying61 .ro) rfl ?_ | refine aqs rfl (q_lenO Try.underlying61 rfl (by repeat (first | exact .here | assumption | (apply HAt.left; assumption) | apply HAt.there | apply HAt.right)) (by first | omega | (simp; done) | (simp; omega) | fail) (by first | exact Nat.sub_zero _ | rfl)) rfl ?_ | refine aqs rfl (q_len Try.underlying61 .nil) rfl ?_ | refine aqs rfl (q_len Try.underlying61 .cro) rfl ?_
                first | refine ans rfl rfl ?_ | refine aqs rfl (q_add64 rfl rfl (by omega) (by omega)) rfl ?_ | refine aqs rfl (q_add rfl rfl) rfl ?_
                first | refine ans rfl rfl ?_ | refine aqs rfl (q_mv (by constructor)) rfl ?_
                first | refine aqs rfl (castQ (r2 := .lit (.int .i64 ((i + X.length : Nat)))) (q_len Try.underlying61 .ro) (by exact congrArg (fun z : Nat => AV.lit (.int .i64 (z : Int))) hWl)) rfl ?_ | refine aqs rfl (castQ (r2 := .lit (.int .i64 ((i + X.length : Nat)))) (q_lenO Try.underlying61 rfl (by repeat (first | exact .here | assumption | (apply HAt.left; assumption) | apply HAt.there | apply HAt.right)) (by first | omega | (simp; done) | (simp; omega) | fail) (by first | exact Nat.sub_zero _ | rfl)) (by exact congrArg (fun z : Nat => AV.lit (.int .i64 (z : Int))) hWl)) rfl ?_ | refine aqs rfl (castQ (r2 := .lit (.int .i64 ((i + X.length : Nat)))) (q_len Try.underlying61 .nil) (by exact congrArg (fun z : Nat => AV.lit (.int .i64 (z : Int))) hWl)) rfl ?_ | refine aqs rfl (castQ (r2 := .lit (.int .i64 ((i + X.length : Nat)))) (q_len Try.underlying61 .cro) (by exact congrArg (fun z : Nat => AV.lit (.int .i64 (z : Int))) hWl)) rfl ?_
                first | refine ans rfl rfl ?_ | refine aqs rfl (q_sub64 rfl rfl (by omega) (by omega)) rfl ?_ | refine aqs rfl (q_sub rfl rfl) rfl ?_
                first | refine ans rfl rfl ?_ | refine aqs rfl (q_sub64 rfl rfl (by omega) (by omega)) rfl ?_ | refine aqs rfl (q_sub rfl rfl) rfl ?_
                refine aqs rfl (castT (q_eql rfl rfl) (by simp only [decide_eq_true_eq, htm]; omega)) rfl ?_
                first | refine aqs rfl (q_pickT rfl (by constructor)) rfl ?_ | refine aqs rfl (q_pickF rfl (by constructor)) rfl ?_
                refine aqs rfl (q_mv (by constructor)) rfl ?_
                first | refine ans rfl rfl ?_ | refine aqs rfl (q_mv (by constructor)) rfl ?_
                first | refine ans rfl rfl ?_ | refine aqs rfl (q_mv (by constructor)) rfl ?_
                first | refine ans rfl rfl ?_ | refine aqs rfl (q_ldpW ag75 sz75 rfl (by repeat (first | exact .here | assumption | (apply HAt.left; assumption) | apply HAt.there | apply HAt.right)) (by first | rfl | assumption | (simp [*]; done) | fail) (by first | rfl | assumption | (simp [*]; done) | fail) (by decide)) rfl ?_ | refine aqs rfl (q_ldW ag75 sz75 rfl (by first | rfl | assumption | (simp [*]; done) | fail)) rfl ?_ | refine aqs rfl (q_ldpP ag75 sz75 rfl (by repeat (first | exact .here | assumption | (apply HAt.left; assumption) | apply HAt.there | apply HAt.right)) (by first | rfl | assumption | (simp [*]; done) | fail) (by first | decide | (simp; done) | omega | fail) (by decide) (by first | ((repeat constructor); done) | exact .same _)) rfl ?_ | refine aqs rfl (q_ldP ag75 sz75 rfl (by first | decide | (simp; done) | omega | fail) (by first | ((repeat constructor); done) | exact .same _)) rfl ?_
                first | refine ans rfl rfl ?_ | refine aqs rfl (q_bs Try.underlying61 sz75 zr75 rfl (by first | ((repeat constructor); done) | exact .same _) rfl (by decide) (by repeat (first | exact BS.nil | (apply BS.cons; (· constructor); (· rfl); (· rfl); (· rfl); (· exact (by first | ((repeat constructor); done) | exact .same _)))))) rfl ?_ | (refine aes rfl (e_bs Try.underlying61 sz75 zr75 rfl (by first | ((repeat constructor); done) | exact .same _) rfl (by decide) (by repeat (first | exact BS.nil | (apply BS.cons; (· constructor); (· rfl); (· rfl); (· rfl); (· exact (by first | ((repeat constructor); done) | exact .same _)))))) rfl ?_; rintro _ _ ⟨u177, rfl, rfl⟩)
                first | refine ans rfl rfl ?_ | refine aqs rfl (q_apC Try.underlying61 sz75 by75 zr75 (.inl rfl) (by first | exact .ro | exact .cro | exact .nil | exact SV.slA (by repeat (first | exact .here | assumption | (apply HAt.left; assumption) | apply HAt.there | apply HAt.right)) (by first | rfl | (simp; done) | (simp; omega) | (simp [*]; done) | fail)) (by first | assumption | (intro c hc; simp at hc; subst hc; rfl) | (simp; done) | fail) (by first | assumption | (intro c hc; simp at hc; subst hc; rfl) | (simp; done) | fail) (by first | omega | decide | (simp; omega) | assumption | fail) (by decide) (by decide) rfl (by first | rfl | (simp; done) | fail)) rfl ?_ | refine aqs rfl (q_apC Try.underlying61 sz75 by75 zr75 (.inr ⟨rfl, rfl⟩) (by first | exact .ro | exact .cro | exact .nil | exact SV.slA (by repeat (first | exact .here | assumption | (apply HAt.left; assumption) | apply HAt.there | apply HAt.right)) (by first | rfl | (simp; done) | (simp; omega) | (simp [*]; done) | fail)) (by first | assumption | (intro c hc; simp at hc; subst hc; rfl) | (simp; done) | fail) (by first | assumption | (intro c hc; simp at hc; subst hc; rfl) | (simp; done) | fail) (by first | omega | decide | (simp; omega) | assumption | fail) (by decide) (by decide) rfl (by first | rfl | (simp; done) | fail)) rfl ?_ | (refine aes rfl (e_apO Try.underlying61 sz75 by75 zr75 rfl (by repeat (first | exact .here | assumption | (apply HAt.left; assumption) | apply HAt.there | apply HAt.right)) (by first | (rw [htk]; exact Nat.le_refl _) | (rw [htk2]; exact Nat.le_refl _) | (rw [List.length_map]; exact Nat.le_refl _)) (by first | exact .ro | exact .cro | exact .nil | exact SV.slA (by repeat (first | exact .here | assumption | (apply HAt.left; assumption) | apply HAt.there | apply HAt.right)) (by first | rfl | (simp; done) | (simp; omega) | (simp [*]; done) | fail)) (by first | assumption | (intro c hc; simp at hc; subst hc; rfl) | (simp; done) | fail) (by first | assumption | (intro c hc; simp at hc; subst hc; rfl) | (simp; done) | fail) (by first | assumption | (intro c hc; simp at hc; subst hc; rfl) | (simp; done) | fail) (by first | (simp; done) | (simp; omega) | omega | fail) (by decide) (by decide) rfl (by first | exact hml4 | exact hml3 | rfl) (by first | exact hes4 | exact hes3 | exact hes2 | exact hes1 | rfl | (simp; rfl)) (fun v => (by repeat (first | exact .here | apply HSet.there)))) rfl ?_; rintro _ _ ⟨u178, rfl, rfl⟩) | (refine aes rfl (e_apN Try.underlying61 sz75 by75 zr75 rfl (by first | exact .ro | exact .cro | exact .nil | exact SV.slA (by repeat (first | exact .here | assumption | (apply HAt.left; assumption) | apply HAt.there | apply HAt.right)) (by first | rfl | (simp; done) | (simp; omega) | (simp [*]; done) | fail)) (by first | assumption | (intro c hc; simp at hc; subst hc; rfl) | (simp; done) | fail) (by first | assumption | (intro c hc; simp at hc; subst hc; rfl) | (simp; done) | fail) (by first | (simp; done) | (simp; omega) | omega | fail) (by decide) (by decide) rfl rfl) rfl ?_; rintro _ _ ⟨u178, rfl, rfl⟩)
                first | refine aqs rfl (castQ (r2 := .lit (.bool true)) (e_callN cb77 (tasks77s_c (t.take i ++ Y) ((t.take i ++ X) ++ [last]) [] (by simp; omega) (by simp; omega) u178 _ (by repeat (first | exact .here | assumption | (apply HAt.left; assumption) | apply HAt.there | apply HAt.right))) rfl rfl) (by rw [hY]; simp)) rfl ?_ | refine aqs rfl (castQ (r2 := .lit (.bool true)) (e_callN cb77 (ACall.arg (tasks77s_c (t.take i ++ Y) ((t.take i ++ X) ++ [last]) [] (by simp; omega) (by simp; omega) u178 _ (by repeat (first | exact .here | assumption | (apply HAt.left; assumption) | apply HAt.there | apply HAt.right))) (by repeat (first | exact ArgL.nil | (apply ArgL.cons; (· first | exact .same | exact .cro | exact .nil))))) rfl rfl) (by rw [hY]; simp)) rfl ?_
                first | refine aqs rfl (q_pickT rfl (by constructor)) rfl ?_ | refine aqs rfl (q_pickF rfl (by constructor)) rfl ?_
                refine aqs rfl (q_as (by constructor)) rfl ?_
                refine alist_nil ?_
                show AWP _ _ _ _
                refine awp_ret ?_
                repeat first | with_reducible refine then_ret ?_ | with_reducible refine blk_ret ?_
                apply retq (.inr rfl) (.cons (rok_t rfl) .nil)
                rotate_left
                · exact ⟨rfl, rfl⟩
                repeat (first | exact List.Sublist.refl _ | exact List.nil_sublist _ | exact List.sublist_append_left _ _ | apply List.Sublist.cons)
end Go.Proofs.YtdlinfekifnmkaaAm
