/- The walk of QueueParts. Conditions: none. -/
import Derived.Test.YtdlinfekifnmkaaAmQueueOrderWalk
set_option linter.unusedVariables false
set_option linter.unusedSimpArgs false
set_option maxRecDepth 20000
namespace Go.Proofs.YtdlinfekifnmkaaAm
open Go.Proofs
theorem put_ok {r : Int} (W l : List Task) (hr : 0 ≤ r ∧ r ≤ 4096) (hW : (W.length : Int) ≤ r) : ∃ n : Nat, n = min l.length (r - W.length).toNat ∧ qPutS ⟨r, false, W⟩ l = ((n : Int), ⟨r, false, W ++ l.take n⟩, 0) ∧ ((W ++ l.take n).length : Int) ≤ r := by
  have hb : ¬ qRight ⟨r, false, W⟩ = false := by
    rw [qRight_f.2 ⟨hr.1, hr.2, hW⟩]; simp
  have hn : qPutN ⟨r, false, W⟩ l = ((min l.length (r - (W.length : Int)).toNat : Nat) : Int) := by
    show min (l.length : Int) (r - (W.length : Int)) = _
    omega
  refine ⟨_, rfl, ?_, ?_⟩
  · rw [qPutS, if_neg hb, if_neg (by simp), hn, Int.toNat_natCast]
  · rw [List.length_append, List.length_take]; omega
set_option maxHeartbeats 16000000 in
theorem walkQueueParts (raw : List Tri) (at_ room req : Int) (wraw : (∀ y ∈ raw, y.Wf) ∧ raw.length ≤ 9223372036854775807) (wat : -9223372036854775808 ≤ at_ ∧ at_ ≤ 9223372036854775807) (wroom : -9223372036854775808 ≤ room ∧ room ≤ 9223372036854775807) (wreq : -9223372036854775808 ≤ req ∧ req ≤ 9223372036854775807) :
    QCall Try.prog 16 [.ro (raw.map Tri.cells), .lit (.int .i64 at_), .lit (.int .i64 room), .lit (.int .i64 req)] [] (.lit (.bool true)) := by
  have hp0 := pick_nonneg room 30 (by omega)
  have hp1 := pick_lt room 30 (by omega)
  obtain ⟨r, hre, hr⟩ : ∃ r : Int, r = pick room 30 ∧ (0 ≤ r ∧ r ≤ 29) := ⟨_, rfl, by omega⟩
  obtain ⟨t, ht, htl⟩ : ∃ t, t = tasksOf raw ∧ t.length ≤ 20 := ⟨_, rfl, tasks_len raw⟩
  have hk0 := pick_nonneg at_ (t.length + 1) (by omega)
  have hk1 := pick_lt at_ (t.length + 1) (by omega)
  obtain ⟨k, hke, hk⟩ : ∃ k : Nat, pick at_ (t.length + 1) = (k : Int) ∧ k ≤ t.length := ⟨(pick at_ (t.length + 1)).toNat, by omega, by omega⟩
  obtain ⟨rq, hrq⟩ : ∃ rq, rq = pick req 4 := ⟨_, rfl⟩
  have hnew := new_room (r := r) ⟨hr.1, by omega⟩
  have hlen := lenTask t
  have htm : (t.map Task.cells).length = t.length := by simp
  obtain ⟨n, hn, hpn, hnr⟩ := put_ok (r := r) [] t ⟨hr.1, by omega⟩ (by simp; omega)
  obtain ⟨m, hm, hpm, hmr⟩ := put_ok (r := r) [] (t.take k) ⟨hr.1, by omega⟩ (by simp; omega)
  obtain ⟨l, hl, hpl, hlr⟩ := put_ok (r := r) ([] ++ (t.take k).take m) (t.drop k) ⟨hr.1, by omega⟩ hmr
  simp only [List.nil_append] at hpn hnr hpm hmr hpl hlr
  simp only [List.length_nil, List.nil_append, List.length_take, List.length_drop] at hn hm hl
  obtain ⟨A, hA⟩ : ∃ A, A = t.take n := ⟨_, rfl⟩
  obtain ⟨B, hB⟩ : ∃ B, B = (t.take k).take m := ⟨_, rfl⟩
  obtain ⟨Cc, hC⟩ : ∃ Cc, Cc = (t.take k).take m ++ (t.drop k).take l := ⟨_, rfl⟩
  rw [← hA] at hpn hnr
  rw [← hB] at hpm hmr
  rw [← hC] at hpl hlr
  rw [← hB] at hpl
  have hAl : A.length = n := by rw [hA, List.length_take]; omega
  have hsum : m = k → m + l = n := fun e => by omega
  have hAC : m = k → A = Cc := fun e => by
    rw [hA, hC, ← hsum e]
    have h1 : (t.take k).take m = t.take m := by rw [List.take_take]; congr 1; omega
    rw [h1, e, ← List.take_add]
  have hcl : qCloseS ⟨r, false, A⟩ = (⟨r, true, A⟩, 0) := by
    rw [qCloseS, if_neg (by rw [qRight_f.2 ⟨hr.1, by show r ≤ 4096; omega, hnr⟩]; simp)]
  obtain ⟨X, hX⟩ : ∃ X, X = restT rq A := ⟨_, rfl⟩
  have hXl : X.length ≤ A.length := by rw [hX]; exact rest_len rq A
  obtain ⟨d, hd⟩ : ∃ d : Int, d = (A.length : Int) - X.length := ⟨_, rfl⟩
  have hdr : qDropS ⟨r, true, A⟩ rq = (d, ⟨r, true, X⟩, 0) := by
    rw [qDropS, if_neg (by rw [qRight_f.2 ⟨hr.1, by show r ≤ 4096; omega, hnr⟩]; simp), hd, hX]
  have hpc : qPutS ⟨r, true, X⟩ t = (0, zeroQ, 13) := by
    rw [qPutS, if_neg (by rw [qRight_f.2 ⟨hr.1, by show r ≤ 4096; omega, by show (X.length : Int) ≤ r; omega⟩]; simp), if_pos rfl]
  have hXr : ∀ y ∈ X, ¬ y.req = rq := fun y hy => by
    rw [hX] at hy
    simpa using (List.mem_filter.1 hy).2
  have hlenA := lenTask A
  refine acall_intro (n := 221) (rvs := [.tmp 8]) Try.func16 rfl rfl rfl (Nat.le_of_ble_eq_true rfl) ?_
  refine awp_seq ?_
  refine awp_region ?_
  refine aqs rfl (q_as (by constructor)) rfl ?_
  refine alist_nil ?_
  show AWP _ _ _ _
  refine awp_seq ?_
  refine awp_region ?_
  first | refine aqs rfl (e_callN cb60 (awake60_c) rfl rfl) rfl ?_ | refine aqs rfl (e_callN cb60 (ACall.arg (awake60_c) (by repeat (first | exact ArgL.nil | (apply ArgL.cons; (· first | exact .same | exact .cro | exact .nil))))) rfl rfl) rfl ?_
  refine aqs rfl (q_as (by constructor)) rfl ?_
  refine alist_nil ?_
  show AWP _ _ _ _
  refine awp_seq ?_
  refine awp_region ?_
  refine aqs rfl (q_mv (by constructor)) rfl ?_
  first | refine aqs rfl (e_callN cb65 (ht ▸ tasks65_c raw wraw.1 _) rfl rfl) rfl ?_ | refine aqs rfl (e_callN cb65 (ACall.arg (ht ▸ tasks65_c raw wraw.1 _) (by repeat (first | exact ArgL.nil | (apply ArgL.cons; (· first | exact .same | exact .cro | exact .nil))))) rfl rfl) rfl ?_
  refine aqs rfl (q_as (by constructor)) rfl ?_
  refine alist_nil ?_
  show AWP _ _ _ _
  refine awp_seq ?_
  refine awp_region ?_
  refine aqs rfl (q_mv (by constructor)) rfl ?_
  refine aqs rfl (q_mv (by constructor)) rfl ?_
  first | refine aqs rfl (q_len Try.underlying61 .ro) rfl ?_ | refine aqs rfl (q_lenO Try.underlying61 rfl (by repeat (first | exact .here | assumption | (apply HAt.left; assumption) | apply HAt.there | apply HAt.right)) (by first | omega | (simp; done) | (simp; omega) | fail) (by first | exact Nat.sub_zero _ | rfl)) rfl ?_ | refine aqs rfl (q_len Try.underlying61 .nil) rfl ?_ | refine aqs rfl (q_len Try.underlying61 .cro) rfl ?_
  first | refine aqs rfl (castQ (r2 := .lit (.int .i64 ((t.length : Nat) + 1))) (q_add64 rfl rfl (by omega) (by omega)) (by rw [htm])) rfl ?_ | refine aqs rfl (castQ (r2 := .lit (.int .i64 ((t.length : Nat) + 1))) (q_add rfl rfl) (by rw [htm])) rfl ?_
  first | refine aqs rfl (e_callN cb64 (hke ▸ pick64_c at_ (t.length + 1) wat.1 wat.2 (by omega) _) rfl rfl) rfl ?_ | refine aqs rfl (e_callN cb64 (ACall.arg (hke ▸ pick64_c at_ (t.length + 1) wat.1 wat.2 (by omega) _) (by repeat (first | exact ArgL.nil | (apply ArgL.cons; (· first | exact .same | exact .cro | exact .nil))))) rfl rfl) rfl ?_
  refine aqs rfl (q_as (by constructor)) rfl ?_
  refine alist_nil ?_
  show AWP _ _ _ _
  refine awp_seq ?_
  refine awp_region ?_
  refine aqs rfl (q_mv (by constructor)) rfl ?_
  first | refine aqs rfl (e_callN cb64 (hre ▸ pick64_c _ _ wroom.1 wroom.2 (by omega) _) rfl rfl) rfl ?_ | refine aqs rfl (e_callN cb64 (ACall.arg (hre ▸ pick64_c _ _ wroom.1 wroom.2 (by omega) _) (by repeat (first | exact ArgL.nil | (apply ArgL.cons; (· first | exact .same | exact .cro | exact .nil))))) rfl rfl) rfl ?_
  first | refine aqs rfl (e_callN cb61 (hnew ▸ new61_c r _) rfl rfl) rfl ?_ | refine aqs rfl (e_callN cb61 (ACall.arg (hnew ▸ new61_c r _) (by repeat (first | exact ArgL.nil | (apply ArgL.cons; (· first | exact .same | exact .cro | exact .nil))))) rfl rfl) rfl ?_
  refine aqs rfl (q_mv (by constructor)) rfl ?_
  refine aqs rfl (q_ex rfl rfl (by constructor)) rfl ?_
  refine aqs rfl (q_ex rfl rfl (by constructor)) rfl ?_
  (refine aes rfl (e_al (xs := [.lit (.int .i64 0), .lit (.bool false), .lit (.slice none 0 0)]) (k := 3) zr63 (.same _) rfl) rfl ?_; rintro _ _ ⟨u12, rfl, rfl⟩)
  first | (refine aen rfl (e_stW sz63 rfl (by repeat (first | exact .here | assumption | (apply HAt.left; assumption) | apply HAt.there | apply HAt.right)) (by constructor) (by first | rfl | assumption | (simp [*]; done) | fail) rfl (by repeat (first | exact .here | apply HSet.there))) ?_; rintro _ _ ⟨rfl, rfl⟩) | (refine aen rfl (e_stP sz63 rfl (by repeat (first | exact .here | assumption | (apply HAt.left; assumption) | apply HAt.there | apply HAt.right)) (by first | rfl | assumption | (simp [*]; done) | fail) (by constructor) (by first | rfl | assumption | (simp [*]; done) | fail) rfl (by first | decide | omega) (by first | ((repeat constructor); done) | exact .same _) (by first | exact .one | exact .set) (by repeat (first | exact .here | apply HSet.there))) ?_; rintro _ _ ⟨rfl, rfl⟩)
  refine aqs rfl (q_as (by constructor)) rfl ?_
  refine alist_nil ?_
  show AWP _ _ _ _
  refine awp_seq ?_
  refine awp_region ?_
  first | refine aqs rfl (q_ldpW ag63 sz63 rfl (by repeat (first | exact .here | assumption | (apply HAt.left; assumption) | apply HAt.there | apply HAt.right)) (by first | rfl | assumption | (simp [*]; done) | fail) (by first | rfl | assumption | (simp [*]; done) | fail) (by decide)) rfl ?_ | refine aqs rfl (q_ldW ag63 sz63 rfl (by first | rfl | assumption | (simp [*]; done) | fail)) rfl ?_ | refine aqs rfl (q_ldpP ag63 sz63 rfl (by repeat (first | exact .here | assumption | (apply HAt.left; assumption) | apply HAt.there | apply HAt.right)) (by first | rfl | assumption | (simp [*]; done) | fail) (by first | decide | (simp; done) | omega | fail) (by decide) (by first | ((repeat constructor); done) | exact .same _)) rfl ?_ | refine aqs rfl (q_ldP ag63 sz63 rfl (by first | decide | (simp; done) | omega | fail) (by first | ((repeat constructor); done) | exact .same _)) rfl ?_
  refine aqs rfl (q_mv (by constructor)) rfl ?_
  first | refine aqs rfl (e_callN cb66 (hpn ▸ put66_c ⟨r, false, []⟩ t (by omega) _) rfl rfl) rfl ?_ | refine aqs rfl (e_callN cb66 (ACall.arg (hpn ▸ put66_c ⟨r, false, []⟩ t (by omega) _) (by repeat (first | exact ArgL.nil | (apply ArgL.cons; (· first | exact .same | exact .cro | exact .nil))))) rfl rfl) rfl ?_
  refine aqs rfl (q_mv (by constructor)) rfl ?_
  refine aqs rfl (q_ex rfl rfl (by constructor)) rfl ?_
  refine aqs rfl (q_ex rfl rfl (by constructor)) rfl ?_
  refine aqs rfl (q_ex rfl rfl (by constructor)) rfl ?_
  (refine aes rfl (e_al (xs := [.lit (.int .i64 0), .lit (.bool false), .lit (.slice none 0 0)]) (k := 3) zr63 (.same _) rfl) rfl ?_; rintro _ _ ⟨u15, rfl, rfl⟩)
  refine aqs rfl (q_as (by constructor)) rfl ?_
  first | (refine aen rfl (e_stW sz63 rfl (by repeat (first | exact .here | assumption | (apply HAt.left; assumption) | apply HAt.there | apply HAt.right)) (by constructor) (by first | rfl | assumption | (simp [*]; done) | fail) rfl (by repeat (first | exact .here | apply HSet.there))) ?_; rintro _ _ ⟨rfl, rfl⟩) | (refine aen rfl (e_stP sz63 rfl (by repeat (first | exact .here | assumption | (apply HAt.left; assumption) | apply HAt.there | apply HAt.right)) (by first | rfl | assumption | (simp [*]; done) | fail) (by constructor) (by first | rfl | assumption | (simp [*]; done) | fail) rfl (by first | decide | omega) (by first | ((repeat constructor); done) | exact .same _) (by first | exact .one | exact .set) (by repeat (first | exact .here | apply HSet.there))) ?_; rintro _ _ ⟨rfl, rfl⟩)
  refine aqs rfl (q_as (by constructor)) rfl ?_
  refine alist_nil ?_
  show AWP _ _ _ _
  refine awp_seq ?_
  refine awp_draw 12 [(0, false), (1, false), (2, false), (3, false), (4, false), (5, false), (6, false), (7, false), (8, false), (9, true), (10, false), (11, true)] _ ([]) mixed (by kernel_rfl) (perm0 _) ?_
  first | refine glq rfl (.inl ⟨rfl, q_ldpW ag63 sz63 rfl (by repeat (first | exact .here | assumption | (apply HAt.left; assumption) | apply HAt.there | apply HAt.right)) (by first | rfl | assumption | (simp [*]; done) | fail) (by first | rfl | assumption | (simp [*]; done) | fail) (by decide)⟩) rfl ?_ | refine glq rfl (.inl ⟨rfl, q_ldW ag63 sz63 rfl (by first | rfl | assumption | (simp [*]; done) | fail)⟩) rfl ?_ | refine glq rfl (.inl ⟨rfl, q_ldpP ag63 sz63 rfl (by repeat (first | exact .here | assumption | (apply HAt.left; assumption) | apply HAt.there | apply HAt.right)) (by first | rfl | assumption | (simp [*]; done) | fail) (by first | decide | (simp; done) | omega | fail) (by decide) (by first | ((repeat constructor); done) | exact .same _)⟩) rfl ?_ | refine glq rfl (.inl ⟨rfl, q_ldP ag63 sz63 rfl (by first | decide | (simp; done) | omega | fail) (by first | ((repeat constructor); done) | exact .same _)⟩) rfl ?_
  refine glq rfl (.inl ⟨rfl, q_mv (by constructor)⟩) rfl ?_
  refine glq rfl (.inl ⟨rfl, q_mv (by constructor)⟩) rfl ?_
  first | refine glq rfl (.inl ⟨rfl, castQ (r2 := .ro ((t.take k).map Task.cells)) (q_slR Try.underlying61 sz75 (.inl rfl) rfl (by first | (refine ⟨_, _, rfl, ?_⟩; with_reducible rfl) | exact bnd_int rfl (by omega)) (by first | omega | (simp; done) | (simp; omega) | fail) (by first | omega | (simp; done) | (simp; omega) | fail) (by first | rfl | assumption | (simp [*]; done) | fail)) (by simp)⟩) rfl ?_ | refine glq rfl (.inl ⟨rfl, castQ (r2 := .ro ((t.take k).map Task.cells)) (q_slO Try.underlying61 sz75 rfl (by repeat (first | exact .here | assumption | (apply HAt.left; assumption) | apply HAt.there | apply HAt.right)) rfl (by first | (refine ⟨_, _, rfl, ?_⟩; with_reducible rfl) | exact bnd_int rfl (by omega)) (by first | omega | (simp; done) | (simp; omega) | fail) (by first | omega | (simp; done) | (simp; omega) | fail) (by first | exact Nat.zero_add _ | rfl) (by first | exact Nat.zero_add _ | rfl)) (by simp)⟩) rfl ?_
  first | refine glq rfl (.inl ⟨rfl, e_callN cb66 (hpm ▸ put66_c ⟨r, false, []⟩ (t.take k) (by simp; omega) _) rfl rfl⟩) rfl ?_ | refine glq rfl (.inl ⟨rfl, e_callN cb66 (ACall.arg (hpm ▸ put66_c ⟨r, false, []⟩ (t.take k) (by simp; omega) _) (by repeat (first | exact ArgL.nil | (apply ArgL.cons; (· first | exact .same | exact .cro | exact .nil))))) rfl rfl⟩) rfl ?_
  refine glq rfl (.inl ⟨rfl, q_mv (by constructor)⟩) rfl ?_
  refine glq rfl (.inl ⟨rfl, q_ex rfl rfl (by constructor)⟩) rfl ?_
  refine glq rfl (.inl ⟨rfl, q_ex rfl rfl (by constructor)⟩) rfl ?_
  refine glq rfl (.inl ⟨rfl, q_ex rfl rfl (by constructor)⟩) rfl ?_
  (refine gla rfl rfl (EOp.frame (e_al (xs := [.lit (.int .i64 0), .lit (.bool false), .lit (.slice none 0 0)]) (k := 3) zr63 (.same _) rfl)) rfl ?_; rintro _ _ ⟨u18, rfl, rfl⟩)
  refine glq rfl (.inl ⟨rfl, q_as (by constructor)⟩) rfl ?_
  first | (refine gla rfl rfl (EOp.frame (e_stW sz63 rfl (by repeat (first | exact .here | assumption | (apply HAt.left; assumption) | apply HAt.there | apply HAt.right)) (by constructor) (by first | rfl | assumption | (simp [*]; done) | fail) rfl (by repeat (first | exact .here | apply HSet.there)))) rfl ?_; rintro _ _ ⟨rfl, rfl⟩) | (refine gla rfl rfl (EOp.frame (e_stP sz63 rfl (by repeat (first | exact .here | assumption | (apply HAt.left; assumption) | apply HAt.there | apply HAt.right)) (by first | rfl | assumption | (simp [*]; done) | fail) (by constructor) (by first | rfl | assumption | (simp [*]; done) | fail) rfl (by first | decide | omega) (by first | ((repeat constructor); done) | exact .same _) (by first | exact .one | exact .set) (by repeat (first | exact .here | apply HSet.there)))) rfl ?_; rintro _ _ ⟨rfl, rfl⟩)
  refine gldA ?_
  refine aqs rfl (q_as (by constructor)) rfl ?_
  refine alist_nil ?_
  show AWP _ _ _ _
  refine awp_seq ?_
  refine awp_draw 12 [(0, false), (1, false), (2, false), (3, false), (4, false), (5, false), (6, false), (7, false), (8, false), (9, true), (10, false), (11, true)] _ ([]) mixed (by kernel_rfl) (perm0 _) ?_
  first | refine glq rfl (.inl ⟨rfl, q_ldpW ag63 sz63 rfl (by repeat (first | exact .here | assumption | (apply HAt.left; assumption) | apply HAt.there | apply HAt.right)) (by first | rfl | assumption | (simp [*]; done) | fail) (by first | rfl | assumption | (simp [*]; done) | fail) (by decide)⟩) rfl ?_ | refine glq rfl (.inl ⟨rfl, q_ldW ag63 sz63 rfl (by first | rfl | assumption | (simp [*]; done) | fail)⟩) rfl ?_ | refine glq rfl (.inl ⟨rfl, q_ldpP ag63 sz63 rfl (by repeat (first | exact .here | assumption | (apply HAt.left; assumption) | apply HAt.there | apply HAt.right)) (by first | rfl | assumption | (simp [*]; done) | fail) (by first | decide | (simp; done) | omega | fail) (by decide) (by first | ((repeat constructor); done) | exact .same _)⟩) rfl ?_ | refine glq rfl (.inl ⟨rfl, q_ldP ag63 sz63 rfl (by first | decide | (simp; done) | omega | fail) (by first | ((repeat constructor); done) | exact .same _)⟩) rfl ?_
  refine glq rfl (.inl ⟨rfl, q_mv (by constructor)⟩) rfl ?_
  refine glq rfl (.inl ⟨rfl, q_mv (by constructor)⟩) rfl ?_
  first | refine glq rfl (.inl ⟨rfl, castQ (r2 := .ro ((t.drop k).map Task.cells)) (q_slR Try.underlying61 sz75 (.inl rfl) (by first | (refine ⟨_, _, rfl, ?_⟩; with_reducible rfl) | exact bnd_int rfl (by omega)) rfl (by first | omega | (simp; done) | (simp; omega) | fail) (by first | omega | (simp; done) | (simp; omega) | fail) (by first | rfl | assumption | (simp [*]; done) | fail)) (by simp; rw [← List.map_drop, List.take_of_length_le (by simp)])⟩) rfl ?_ | refine glq rfl (.inl ⟨rfl, castQ (r2 := .ro ((t.drop k).map Task.cells)) (q_slO Try.underlying61 sz75 rfl (by repeat (first | exact .here | assumption | (apply HAt.left; assumption) | apply HAt.there | apply HAt.right)) (by first | (refine ⟨_, _, rfl, ?_⟩; with_reducible rfl) | exact bnd_int rfl (by omega)) rfl (by first | omega | (simp; done) | (simp; omega) | fail) (by first | omega | (simp; done) | (simp; omega) | fail) (by first | exact Nat.zero_add _ | rfl) (by first | exact Nat.zero_add _ | rfl)) (by simp; rw [← List.map_drop, List.take_of_length_le (by simp)])⟩) rfl ?_
  first | refine glq rfl (.inl ⟨rfl, e_callN cb66 (hpl ▸ put66_c ⟨r, false, B⟩ (t.drop k) (by simp; omega) _) rfl rfl⟩) rfl ?_ | refine glq rfl (.inl ⟨rfl, e_callN cb66 (ACall.arg (hpl ▸ put66_c ⟨r, false, B⟩ (t.drop k) (by simp; omega) _) (by repeat (first | exact ArgL.nil | (apply ArgL.cons; (· first | exact .same | exact .cro | exact .nil))))) rfl rfl⟩) rfl ?_
  refine glq rfl (.inl ⟨rfl, q_mv (by constructor)⟩) rfl ?_
  refine glq rfl (.inl ⟨rfl, q_ex rfl rfl (by constructor)⟩) rfl ?_
  refine glq rfl (.inl ⟨rfl, q_ex rfl rfl (by constructor)⟩) rfl ?_
  refine glq rfl (.inl ⟨rfl, q_ex rfl rfl (by constructor)⟩) rfl ?_
  (refine gla rfl rfl (EOp.frame (e_al (xs := [.lit (.int .i64 0), .lit (.bool false), .lit (.slice none 0 0)]) (k := 3) zr63 (.same _) rfl)) rfl ?_; rintro _ _ ⟨u21, rfl, rfl⟩)
  refine glq rfl (.inl ⟨rfl, q_as (by constructor)⟩) rfl ?_
  first | (refine gla rfl rfl (EOp.frame (e_stW sz63 rfl (by repeat (first | exact .here | assumption | (apply HAt.left; assumption) | apply HAt.there | apply HAt.right)) (by constructor) (by first | rfl | assumption | (simp [*]; done) | fail) rfl (by repeat (first | exact .here | apply HSet.there)))) rfl ?_; rintro _ _ ⟨rfl, rfl⟩) | (refine gla rfl rfl (EOp.frame (e_stP sz63 rfl (by repeat (first | exact .here | assumption | (apply HAt.left; assumption) | apply HAt.there | apply HAt.right)) (by first | rfl | assumption | (simp [*]; done) | fail) (by constructor) (by first | rfl | assumption | (simp [*]; done) | fail) rfl (by first | decide | omega) (by first | ((repeat constructor); done) | exact .same _) (by first | exact .one | exact .set) (by repeat (first | exact .here | apply HSet.there)))) rfl ?_; rintro _ _ ⟨rfl, rfl⟩)
  refine gldA ?_
  refine aqs rfl (q_as (by constructor)) rfl ?_
  refine alist_nil ?_
  show AWP _ _ _ _
  refine awp_seq ?_
  refine awp_mid [(122, .lit (.bool false)), (2, .lit (.int .i64 room)), (3, .lit (.int .i64 req)), (9, .lit (.bool true)), (10, .ro (t.map Task.cells)), (14, .lit (.int .i64 n)), (15, .ptr u15 0 0)] ?_ ?_
  · skip
    refine awp_region ?_
    all_goals (refine aqs rfl (q_mv (by constructor)) rfl ?_)
    all_goals (refine aqs rfl (castF (q_neq rfl rfl) (by rfl)) rfl ?_)
    all_goals (refine aqs rfl (q_mv (by constructor)) rfl ?_)
    all_goals (first | refine ans rfl rfl ?_ | refine aqs rfl (q_mv (by constructor)) rfl ?_)
    all_goals (first | refine ans rfl rfl ?_ | refine aqs rfl (castF (q_neq rfl rfl) (by rfl)) rfl ?_)
    all_goals (first | refine aqs rfl (q_pickT rfl (by constructor)) rfl ?_ | refine aqs rfl (q_pickF rfl (by constructor)) rfl ?_)
    all_goals (refine aqs rfl (q_mv (by constructor)) rfl ?_)
    all_goals (first | refine ans rfl rfl ?_ | refine aqs rfl (q_mv (by constructor)) rfl ?_)
    all_goals (first | refine ans rfl rfl ?_ | refine aqs rfl (castF (q_neq rfl rfl) (by rfl)) rfl ?_)
    all_goals (first | refine aqs rfl (q_pickT rfl (by constructor)) rfl ?_ | refine aqs rfl (q_pickF rfl (by constructor)) rfl ?_)
    all_goals (refine aqs rfl (q_mv (by constructor)) rfl ?_)
    all_goals (first | refine ans rfl rfl ?_ | refine aqs rfl (q_mv (by constructor)) rfl ?_)
    all_goals (first | refine ans rfl rfl ?_ | refine aqs rfl (castF (q_neq rfl rfl) (by rfl)) rfl ?_)
    all_goals (first | refine aqs rfl (q_pickT rfl (by constructor)) rfl ?_ | refine aqs rfl (q_pickF rfl (by constructor)) rfl ?_)
    all_goals (refine aqs rfl (q_mv (by constructor)) rfl ?_)
    all_goals (first | refine ans rfl rfl ?_ | refine aqs rfl (q_mv (by constructor)) rfl ?_)
    all_goals (first | refine ans rfl rfl ?_ | refine aqs rfl (q_mv (by constructor)) rfl ?_)
    all_goals (first | refine ans rfl rfl ?_ | refine aqs rfl (q_len Try.underlying61 .ro) rfl ?_ | refine aqs rfl (q_lenO Try.underlying61 rfl (by repeat (first | exact .here | assumption | (apply HAt.left; assumption) | apply HAt.there | apply HAt.right)) (by first | omega | (simp; done) | (simp; omega) | fail) (by first | exact Nat.sub_zero _ | rfl)) rfl ?_ | refine aqs rfl (q_len Try.underlying61 .nil) rfl ?_ | refine aqs rfl (q_len Try.underlying61 .cro) rfl ?_)
    all_goals (first | refine ans rfl rfl ?_ | refine aqs rfl (q_mv (by constructor)) rfl ?_)
    all_goals (first | refine ans rfl rfl ?_ | refine aqs rfl (e_callN cb64 (hre ▸ pick64_c _ _ wroom.1 wroom.2 (by omega) _) rfl rfl) rfl ?_ | refine aqs rfl (e_callN cb64 (ACall.arg (hre ▸ pick64_c _ _ wroom.1 wroom.2 (by omega) _) (by repeat (first | exact ArgL.nil | (apply ArgL.cons; (· first | exact .same | exact .cro | exact .nil))))) rfl rfl) rfl ?_)
    all_goals (first | refine ans rfl rfl ?_ | refine aqs rfl (q_min rfl rfl) rfl ?_)
    all_goals (first | refine ans rfl rfl ?_ | refine aqs rfl (castF (q_neq rfl rfl) (by simp only [htm, hn, Bool.not_eq_false', decide_eq_true_eq]; omega)) rfl ?_)
    all_goals (first | refine aqs rfl (q_pickT rfl (by constructor)) rfl ?_ | refine aqs rfl (q_pickF rfl (by constructor)) rfl ?_)
    all_goals (refine aqs rfl (q_mv (by constructor)) rfl ?_)
    all_goals (first | refine ans rfl rfl ?_ | refine aqs rfl (q_mv (by constructor)) rfl ?_)
    all_goals (first | refine ans rfl rfl ?_ | refine aqs rfl (q_mv (by constructor)) rfl ?_)
    all_goals (first | refine ans rfl rfl ?_ | refine aqs rfl (q_add64 rfl rfl (by omega) (by omega)) rfl ?_ | refine aqs rfl (q_add rfl rfl) rfl ?_)
    all_goals (first | refine ans rfl rfl ?_ | refine aqs rfl (q_mv (by constructor)) rfl ?_)
    all_goals (first | refine ans rfl rfl ?_ | refine aqs rfl (q_neq rfl rfl) rfl ?_)
    all_goals (first | refine ans rfl rfl ?_ | refine aqs rfl (q_mv (by constructor)) rfl ?_)
    all_goals try (refine acase (fun hb29 => ?_) (fun hb29 => ?_))
    all_goals first | (exfalso; cases hb29; done) | skip
    all_goals (first | refine ans rfl rfl ?_ | refine aqs rfl (q_mv (by constructor)) rfl ?_)
    all_goals (first | refine ans rfl rfl ?_ | refine aqs rfl (q_mv (by constructor)) rfl ?_)
    all_goals (first | refine ans rfl rfl ?_ | refine aqs rfl (castF (q_eql rfl rfl) (by have h29 : ¬ ((m : Int) + l = n) := (by simpa using hb29); exact decide_eq_false fun e => h29 (by have := hsum (by omega); omega))) rfl ?_)
    all_goals (first | refine ans rfl rfl ?_ | refine aqs rfl (q_pickT rfl (by constructor)) rfl ?_ | refine aqs rfl (q_pickF rfl (by constructor)) rfl ?_)
    all_goals (first | refine aqs rfl (q_pickT rfl (by constructor)) rfl ?_ | refine aqs rfl (q_pickF rfl (by constructor)) rfl ?_)
    all_goals (refine aqs rfl (q_mv (by constructor)) rfl ?_)
    all_goals (first | refine ans rfl rfl ?_ | refine aqs rfl (q_ldpW ag63 sz63 rfl (by repeat (first | exact .here | assumption | (apply HAt.left; assumption) | apply HAt.there | apply HAt.right)) (by first | rfl | assumption | (simp [*]; done) | fail) (by first | rfl | assumption | (simp [*]; done) | fail) (by decide)) rfl ?_ | refine aqs rfl (q_ldW ag63 sz63 rfl (by first | rfl | assumption | (simp [*]; done) | fail)) rfl ?_ | refine aqs rfl (q_ldpP ag63 sz63 rfl (by repeat (first | exact .here | assumption | (apply HAt.left; assumption) | apply HAt.there | apply HAt.right)) (by first | rfl | assumption | (simp [*]; done) | fail) (by first | decide | (simp; done) | omega | fail) (by decide) (by first | ((repeat constructor); done) | exact .same _)) rfl ?_ | refine aqs rfl (q_ldP ag63 sz63 rfl (by first | decide | (simp; done) | omega | fail) (by first | ((repeat constructor); done) | exact .same _)) rfl ?_)
    all_goals (first | refine ans rfl rfl ?_ | refine aqs rfl (q_ldpW ag63 sz63 rfl (by repeat (first | exact .here | assumption | (apply HAt.left; assumption) | apply HAt.there | apply HAt.right)) (by first | rfl | assumption | (simp [*]; done) | fail) (by first | rfl | assumption | (simp [*]; done) | fail) (by decide)) rfl ?_ | refine aqs rfl (q_ldW ag63 sz63 rfl (by first | rfl | assumption | (simp [*]; done) | fail)) rfl ?_ | refine aqs rfl (q_ldpP ag63 sz63 rfl (by repeat (first | exact .here | assumption | (apply HAt.left; assumption) | apply HAt.there | apply HAt.right)) (by first | rfl | assumption | (simp [*]; done) | fail) (by first | decide | (simp; done) | omega | fail) (by decide) (by first | ((repeat constructor); done) | exact .same _)) rfl ?_ | refine aqs rfl (q_ldP ag63 sz63 rfl (by first | decide | (simp; done) | omega | fail) (by first | ((repeat constructor); done) | exact .same _)) rfl ?_)
    all_goals (first | refine ans rfl rfl ?_ | refine aqs rfl (e_callN cb63 (same63_c ⟨r, false, A⟩ ⟨r, false, Cc⟩ (by show A.length ≤ 1000000; omega) (by show Cc.length ≤ 1000000; omega) _) rfl rfl) rfl ?_ | refine aqs rfl (e_callN cb63 (ACall.arg (same63_c ⟨r, false, A⟩ ⟨r, false, Cc⟩ (by show A.length ≤ 1000000; omega) (by show Cc.length ≤ 1000000; omega) _) (by repeat (first | exact ArgL.nil | (apply ArgL.cons; (· first | exact .same | exact .cro | exact .nil))))) rfl rfl) rfl ?_)
    all_goals (first | refine ans rfl rfl ?_ | refine aqs rfl (q_not rfl) rfl ?_)
    all_goals (first | refine ans rfl rfl ?_ | refine aqs rfl (q_mv (by constructor)) rfl ?_)
    all_goals try (refine acase (fun hb40 => ?_) (fun hb40 => ?_))
    all_goals first | (exfalso; cases hb40; done) | skip
    all_goals (first | refine ans rfl rfl ?_ | refine aqs rfl (q_mv (by constructor)) rfl ?_)
    all_goals (first | refine ans rfl rfl ?_ | refine aqs rfl (q_mv (by constructor)) rfl ?_)
    all_goals (first | refine ans rfl rfl ?_ | refine aqs rfl (castF (q_eql rfl rfl) (by have h40 : ¬ (⟨r, false, A⟩ : Queue) = ⟨r, false, Cc⟩ := (by simpa using hb40); exact decide_eq_false fun e => h40 (by rw [hAC (by omega)]))) rfl ?_)
    all_goals (first | refine ans rfl rfl ?_ | refine aqs rfl (q_pickT rfl (by constructor)) rfl ?_ | refine aqs rfl (q_pickF rfl (by constructor)) rfl ?_)
    all_goals (first | refine aqs rfl (q_pickT rfl (by constructor)) rfl ?_ | refine aqs rfl (q_pickF rfl (by constructor)) rfl ?_)
    all_goals (refine alist_nil ?_)
    all_goals (exact ⟨rfl, .mk' (by repeat (first | exact trivial | refine ⟨rfl, ?_⟩ | (refine ⟨?_, ?_⟩; (· first | (rw [hb29, hb40]; rfl) | (rw [hb29]; rfl) | fail)))) (.refl _)⟩)
  refine awp_cond rfl (fun hc0 => ?_) (fun hc0 => ?_)
  · exfalso; first | (simp at hc0; done) | (simp at hc0; omega) | contradiction
  · try simp only [decide_eq_true_eq, decide_eq_false_iff_not, Bool.not_eq_true', Bool.not_eq_false', Bool.not_eq_eq_eq_not, Bool.not_true, Bool.not_false, beq_iff_eq, beq_eq_false_iff_ne, Int.not_lt, Int.not_le] at hc0
    refine awp_skip ?_
    show AWP _ _ _ _
    refine awp_seq ?_
    refine awp_region ?_
    first | refine aqs rfl (q_ldpW ag63 sz63 rfl (by repeat (first | exact .here | assumption | (apply HAt.left; assumption) | apply HAt.there | apply HAt.right)) (by first | rfl | assumption | (simp [*]; done) | fail) (by first | rfl | assumption | (simp [*]; done) | fail) (by decide)) rfl ?_ | refine aqs rfl (q_ldW ag63 sz63 rfl (by first | rfl | assumption | (simp [*]; done) | fail)) rfl ?_ | refine aqs rfl (q_ldpP ag63 sz63 rfl (by repeat (first | exact .here | assumption | (apply HAt.left; assumption) | apply HAt.there | apply HAt.right)) (by first | rfl | assumption | (simp [*]; done) | fail) (by first | decide | (simp; done) | omega | fail) (by decide) (by first | ((repeat constructor); done) | exact .same _)) rfl ?_ | refine aqs rfl (q_ldP ag63 sz63 rfl (by first | decide | (simp; done) | omega | fail) (by first | ((repeat constructor); done) | exact .same _)) rfl ?_
    first | refine aqs rfl (e_callN cb70 (hcl ▸ close70_c ⟨r, false, A⟩ _) rfl rfl) rfl ?_ | refine aqs rfl (e_callN cb70 (ACall.arg (hcl ▸ close70_c ⟨r, false, A⟩ _) (by repeat (first | exact ArgL.nil | (apply ArgL.cons; (· first | exact .same | exact .cro | exact .nil))))) rfl rfl) rfl ?_
    refine aqs rfl (q_mv (by constructor)) rfl ?_
    refine aqs rfl (q_ex rfl rfl (by constructor)) rfl ?_
    refine aqs rfl (q_ex rfl rfl (by constructor)) rfl ?_
    (refine aes rfl (e_al (xs := [.lit (.int .i64 0), .lit (.bool false), .lit (.slice none 0 0)]) (k := 3) zr63 (.same _) rfl) rfl ?_; rintro _ _ ⟨u23, rfl, rfl⟩)
    first | (refine aen rfl (e_stW sz63 rfl (by repeat (first | exact .here | assumption | (apply HAt.left; assumption) | apply HAt.there | apply HAt.right)) (by constructor) (by first | rfl | assumption | (simp [*]; done) | fail) rfl (by repeat (first | exact .here | apply HSet.there))) ?_; rintro _ _ ⟨rfl, rfl⟩) | (refine aen rfl (e_stP sz63 rfl (by repeat (first | exact .here | assumption | (apply HAt.left; assumption) | apply HAt.there | apply HAt.right)) (by first | rfl | assumption | (simp [*]; done) | fail) (by constructor) (by first | rfl | assumption | (simp [*]; done) | fail) rfl (by first | decide | omega) (by first | ((repeat constructor); done) | exact .same _) (by first | exact .one | exact .set) (by repeat (first | exact .here | apply HSet.there))) ?_; rintro _ _ ⟨rfl, rfl⟩)
    refine aqs rfl (q_as (by constructor)) rfl ?_
    refine alist_nil ?_
    show AWP _ _ _ _
    refine awp_seq ?_
    refine awp_draw 11 [(0, false), (1, false), (2, false), (3, false), (4, false), (5, false), (6, false), (7, false), (8, true), (9, false), (10, true)] _ ([]) mixed (by kernel_rfl) (perm0 _) ?_
    first | refine glq rfl (.inl ⟨rfl, q_ldpW ag63 sz63 rfl (by repeat (first | exact .here | assumption | (apply HAt.left; assumption) | apply HAt.there | apply HAt.right)) (by first | rfl | assumption | (simp [*]; done) | fail) (by first | rfl | assumption | (simp [*]; done) | fail) (by decide)⟩) rfl ?_ | refine glq rfl (.inl ⟨rfl, q_ldW ag63 sz63 rfl (by first | rfl | assumption | (simp [*]; done) | fail)⟩) rfl ?_ | refine glq rfl (.inl ⟨rfl, q_ldpP ag63 sz63 rfl (by repeat (first | exact .here | assumption | (apply HAt.left; assumption) | apply HAt.there | apply HAt.right)) (by first | rfl | assumption | (simp [*]; done) | fail) (by first | decide | (simp; done) | omega | fail) (by decide) (by first | ((repeat constructor); done) | exact .same _)⟩) rfl ?_ | refine glq rfl (.inl ⟨rfl, q_ldP ag63 sz63 rfl (by first | decide | (simp; done) | omega | fail) (by first | ((repeat constructor); done) | exact .same _)⟩) rfl ?_
    refine glq rfl (.inl ⟨rfl, q_mv (by constructor)⟩) rfl ?_
    first | refine glq rfl (.inl ⟨rfl, e_callN cb64 (hrq ▸ pick64_c _ _ wreq.1 wreq.2 (by omega) _) rfl rfl⟩) rfl ?_ | refine glq rfl (.inl ⟨rfl, e_callN cb64 (ACall.arg (hrq ▸ pick64_c _ _ wreq.1 wreq.2 (by omega) _) (by repeat (first | exact ArgL.nil | (apply ArgL.cons; (· first | exact .same | exact .cro | exact .nil))))) rfl rfl⟩) rfl ?_
    first | refine glq rfl (.inl ⟨rfl, e_callN cb74 (hdr ▸ drop74_c ⟨r, true, A⟩ rq _) rfl rfl⟩) rfl ?_ | refine glq rfl (.inl ⟨rfl, e_callN cb74 (ACall.arg (hdr ▸ drop74_c ⟨r, true, A⟩ rq _) (by repeat (first | exact ArgL.nil | (apply ArgL.cons; (· first | exact .same | exact .cro | exact .nil))))) rfl rfl⟩) rfl ?_
    refine glq rfl (.inl ⟨rfl, q_mv (by constructor)⟩) rfl ?_
    refine glq rfl (.inl ⟨rfl, q_ex rfl rfl (by constructor)⟩) rfl ?_
    refine glq rfl (.inl ⟨rfl, q_ex rfl rfl (by constructor)⟩) rfl ?_
    refine glq rfl (.inl ⟨rfl, q_ex rfl rfl (by constructor)⟩) rfl ?_
    (refine gla rfl rfl (EOp.frame (e_al (xs := [.lit (.int .i64 0), .lit (.bool false), .lit (.slice none 0 0)]) (k := 3) zr63 (.same _) rfl)) rfl ?_; rintro _ _ ⟨u26, rfl, rfl⟩)
    refine glq rfl (.inl ⟨rfl, q_as (by constructor)⟩) rfl ?_
    first | (refine gla rfl rfl (EOp.frame (e_stW sz63 rfl (by repeat (first | exact .here | assumption | (apply HAt.left; assumption) | apply HAt.there | apply HAt.right)) (by constructor) (by first | rfl | assumption | (simp [*]; done) | fail) rfl (by repeat (first | exact .here | apply HSet.there)))) rfl ?_; rintro _ _ ⟨rfl, rfl⟩) | (refine gla rfl rfl (EOp.frame (e_stP sz63 rfl (by repeat (first | exact .here | assumption | (apply HAt.left; assumption) | apply HAt.there | apply HAt.right)) (by first | rfl | assumption | (simp [*]; done) | fail) (by constructor) (by first | rfl | assumption | (simp [*]; done) | fail) rfl (by first | decide | omega) (by first | ((repeat constructor); done) | exact .same _) (by first | exact .one | exact .set) (by repeat (first | exact .here | apply HSet.there)))) rfl ?_; rintro _ _ ⟨rfl, rfl⟩)
    refine gldA ?_
    refine aqs rfl (q_as (by constructor)) rfl ?_
    refine alist_nil ?_
    show AWP _ _ _ _
    refine awp_seq ?_
    refine awp_region ?_
    first | refine aqs rfl (q_ldpW ag63 sz63 rfl (by repeat (first | exact .here | assumption | (apply HAt.left; assumption) | apply HAt.there | apply HAt.right)) (by first | rfl | assumption | (simp [*]; done) | fail) (by first | rfl | assumption | (simp [*]; done) | fail) (by decide)) rfl ?_ | refine aqs rfl (q_ldW ag63 sz63 rfl (by first | rfl | assumption | (simp [*]; done) | fail)) rfl ?_ | refine aqs rfl (q_ldpP ag63 sz63 rfl (by repeat (first | exact .here | assumption | (apply HAt.left; assumption) | apply HAt.there | apply HAt.right)) (by first | rfl | assumption | (simp [*]; done) | fail) (by first | decide | (simp; done) | omega | fail) (by decide) (by first | ((repeat constructor); done) | exact .same _)) rfl ?_ | refine aqs rfl (q_ldP ag63 sz63 rfl (by first | decide | (simp; done) | omega | fail) (by first | ((repeat constructor); done) | exact .same _)) rfl ?_
    refine aqs rfl (q_mv (by constructor)) rfl ?_
    first | refine aqs rfl (e_callN cb66 (hpc ▸ put66_c ⟨r, true, X⟩ t (by omega) _) rfl rfl) rfl ?_ | refine aqs rfl (e_callN cb66 (ACall.arg (hpc ▸ put66_c ⟨r, true, X⟩ t (by omega) _) (by repeat (first | exact ArgL.nil | (apply ArgL.cons; (· first | exact .same | exact .cro | exact .nil))))) rfl rfl) rfl ?_
    refine aqs rfl (q_mv (by constructor)) rfl ?_
    refine aqs rfl (q_ex rfl rfl (by constructor)) rfl ?_
    refine aqs rfl (q_ex rfl rfl (by constructor)) rfl ?_
    refine aqs rfl (q_ex rfl rfl (by constructor)) rfl ?_
    (refine aes rfl (e_al (xs := [.lit (.int .i64 0), .lit (.bool false), .lit (.slice none 0 0)]) (k := 3) zr63 (.same _) rfl) rfl ?_; rintro _ _ ⟨u29, rfl, rfl⟩)
    refine aqs rfl (q_as (by constructor)) rfl ?_
    first | (refine aen rfl (e_stW sz63 rfl (by repeat (first | exact .here | assumption | (apply HAt.left; assumption) | apply HAt.there | apply HAt.right)) (by constructor) (by first | rfl | assumption | (simp [*]; done) | fail) rfl (by repeat (first | exact .here | apply HSet.there))) ?_; rintro _ _ ⟨rfl, rfl⟩) | (refine aen rfl (e_stP sz63 rfl (by repeat (first | exact .here | assumption | (apply HAt.left; assumption) | apply HAt.there | apply HAt.right)) (by first | rfl | assumption | (simp [*]; done) | fail) (by constructor) (by first | rfl | assumption | (simp [*]; done) | fail) rfl (by first | decide | omega) (by first | ((repeat constructor); done) | exact .same _) (by first | exact .one | exact .set) (by repeat (first | exact .here | apply HSet.there))) ?_; rintro _ _ ⟨rfl, rfl⟩)
    refine aqs rfl (q_as (by constructor)) rfl ?_
    refine alist_nil ?_
    show AWP _ _ _ _
    refine awp_seq ?_
    refine awp_seq ?_
    refine awp_region ?_
    refine aqs rfl (q_mv (by constructor)) rfl ?_
    refine aqs rfl (castF (q_neq rfl rfl) (by rfl)) rfl ?_
    refine aqs rfl (q_mv (by constructor)) rfl ?_
    first | refine ans rfl rfl ?_ | refine aqs rfl (q_mv (by constructor)) rfl ?_
    refine aqs rfl (castF (q_neq rfl rfl) (by rfl)) rfl ?_
    first | refine aqs rfl (q_pickT rfl (by constructor)) rfl ?_ | refine aqs rfl (q_pickF rfl (by constructor)) rfl ?_
    refine aqs rfl (q_mv (by constructor)) rfl ?_
    first | refine ans rfl rfl ?_ | refine aqs rfl (q_mv (by constructor)) rfl ?_
    refine aqs rfl (castF (q_neq rfl rfl) (by rfl)) rfl ?_
    first | refine aqs rfl (q_pickT rfl (by constructor)) rfl ?_ | refine aqs rfl (q_pickF rfl (by constructor)) rfl ?_
    refine aqs rfl (q_mv (by constructor)) rfl ?_
    first | refine ans rfl rfl ?_ | refine aqs rfl (q_mv (by constructor)) rfl ?_
    first | refine ans rfl rfl ?_ | refine aqs rfl (q_fapP fl63_2 (by decide) rfl rfl) rfl ?_ | refine aqs rfl (q_faP fl63_2 (by decide) rfl (by first | ((repeat constructor); done) | exact .same _)) rfl ?_
    first | refine ans rfl rfl ?_ | refine aqs rfl (q_ldpN ag61 rfl (by repeat (first | exact .here | assumption | (apply HAt.left; assumption) | apply HAt.there | apply HAt.right)) (by first | rfl | assumption | (simp [*]; done) | fail) (by first | rfl | assumption | (simp [*]; done) | fail) (by constructor)) rfl ?_ | refine aqs rfl (q_ld1N ag61 rfl (by constructor)) rfl ?_
    first | refine aqs rfl (castQ (r2 := .lit (.int .i64 (X.length : Nat))) (q_len Try.underlying61 .ro) (by simp)) rfl ?_ | refine aqs rfl (castQ (r2 := .lit (.int .i64 (X.length : Nat))) (q_lenO Try.underlying61 rfl (by repeat (first | exact .here | assumption | (apply HAt.left; assumption) | apply HAt.there | apply HAt.right)) (by first | omega | (simp; done) | (simp; omega) | fail) (by first | exact Nat.sub_zero _ | rfl)) (by simp)) rfl ?_ | refine aqs rfl (castQ (r2 := .lit (.int .i64 (X.length : Nat))) (q_len Try.underlying61 .nil) (by simp)) rfl ?_ | refine aqs rfl (castQ (r2 := .lit (.int .i64 (X.length : Nat))) (q_len Try.underlying61 .cro) (by simp)) rfl ?_
    first | refine ans rfl rfl ?_ | refine aqs rfl (q_add64 rfl rfl (by omega) (by omega)) rfl ?_ | refine aqs rfl (q_add rfl rfl) rfl ?_
    first | refine ans rfl rfl ?_ | refine aqs rfl (q_mv (by constructor)) rfl ?_
    refine aqs rfl (castF (q_neq rfl rfl) (by simp only [Bool.not_eq_false', decide_eq_true_eq]; omega)) rfl ?_
    first | refine aqs rfl (q_pickT rfl (by constructor)) rfl ?_ | refine aqs rfl (q_pickF rfl (by constructor)) rfl ?_
    refine alist_nil ?_
    show AWP _ _ _ _
    refine awp_cond rfl (fun hc1 => ?_) (fun hc1 => ?_)
    · exfalso; first | (simp at hc1; done) | (simp at hc1; omega) | contradiction
    · try simp only [decide_eq_true_eq, decide_eq_false_iff_not, Bool.not_eq_true', Bool.not_eq_false', Bool.not_eq_eq_eq_not, Bool.not_true, Bool.not_false, beq_iff_eq, beq_eq_false_iff_ne, Int.not_lt, Int.not_le] at hc1
      refine awp_skip ?_
      show AWP _ _ _ _
      refine awp_seq ?_
      refine awp_seq ?_
      refine awp_region ?_
      refine aqs rfl (q_as (by constructor)) rfl ?_
      refine alist_nil ?_
      show AWP _ _ _ _
      refine awp_block ?_
      refine awp_loop_inv (fun x : Nat × List Task => ⟨[(31, .lit (.int .i64 x.1)), (26, .ptr u26 0 0), (3, .lit (.int .i64 req)), (9, .lit (.bool true))], 221, [(u26, .arr 63 3 [(⟨r, true, x.2⟩ : Queue).cells])]⟩) (fun x => x.2.length + x.1 ≤ 20 ∧ (∀ z ∈ x.2, ¬ z.req = rq) ∧ (x.2.length : Int) ≤ r) (fun x => 30 - x.1) (0, X) ?_ ?_ ?_
      · exact ⟨by show X.length + 0 ≤ 20; omega, hXr, by show (X.length : Int) ≤ r; omega⟩
      · exact .mk' (by repeat (first | exact trivial | refine ⟨rfl, ?_⟩)) (by repeat (first | exact .refl _ | apply List.Sublist.cons_cons | apply List.Sublist.cons))
      · rintro ⟨y, Y⟩ ⟨hy, hYr, hYl⟩
        simp only at hy hYr hYl ⊢
        refine awp_seq ?_
        refine awp_mid [(169, .lit (.bool (decide ((y : Int) < 30) && decide ((0 : Int) < ((Y.map Task.cells).length : Nat))))), (31, .lit (.int .i64 y)), (26, .ptr u26 0 0), (3, .lit (.int .i64 req)), (9, .lit (.bool true))] ?_ ?_
        · skip
          refine awp_region ?_
          all_goals (refine aqs rfl (q_mv (by constructor)) rfl ?_)
          all_goals (refine aqs rfl (q_lss rfl rfl) rfl ?_)
          all_goals (refine aqs rfl (q_mv (by constructor)) rfl ?_)
          all_goals try (refine acase (fun hb2 => ?_) (fun hb2 => ?_))
          all_goals first | (exfalso; cases hb2; done) | skip
          all_goals (first | refine ans rfl rfl ?_ | refine aqs rfl (q_fapP fl63_2 (by decide) rfl rfl) rfl ?_ | refine aqs rfl (q_faP fl63_2 (by decide) rfl (by first | ((repeat constructor); done) | exact .same _)) rfl ?_)
          all_goals (first | refine ans rfl rfl ?_ | refine aqs rfl (q_ldpN ag61 rfl (by repeat (first | exact .here | assumption | (apply HAt.left; assumption) | apply HAt.there | apply HAt.right)) (by first | rfl | assumption | (simp [*]; done) | fail) (by first | rfl | assumption | (simp [*]; done) | fail) (by constructor)) rfl ?_ | refine aqs rfl (q_ld1N ag61 rfl (by constructor)) rfl ?_)
          all_goals (first | refine ans rfl rfl ?_ | refine aqs rfl (q_len Try.underlying61 .ro) rfl ?_ | refine aqs rfl (q_lenO Try.underlying61 rfl (by repeat (first | exact .here | assumption | (apply HAt.left; assumption) | apply HAt.there | apply HAt.right)) (by first | omega | (simp; done) | (simp; omega) | fail) (by first | exact Nat.sub_zero _ | rfl)) rfl ?_ | refine aqs rfl (q_len Try.underlying61 .nil) rfl ?_ | refine aqs rfl (q_len Try.underlying61 .cro) rfl ?_)
          all_goals (first | refine ans rfl rfl ?_ | refine aqs rfl (q_gtr rfl rfl) rfl ?_)
          all_goals (first | refine aqs rfl (q_pickT rfl (by constructor)) rfl ?_ | refine aqs rfl (q_pickF rfl (by constructor)) rfl ?_)
          all_goals (refine alist_nil ?_)
          all_goals (exact ⟨rfl, .mk' (by repeat (first | exact trivial | refine ⟨rfl, ?_⟩ | (refine ⟨?_, ?_⟩; (· first | (rw [hb2]; rfl) | fail)))) (.refl _)⟩)
        refine awp_cond rfl (fun hc2 => ?_) (fun hc2 => ?_)
        · simp only [Bool.and_eq_true, decide_eq_true_eq, List.length_map] at hc2
          obtain ⟨z, Y2, rfl⟩ : ∃ z Y2, Y = z :: Y2 := by
            cases Y with
            | nil => simp at hc2
            | cons z Y2 => exact ⟨z, Y2, rfl⟩
          simp only [List.length_cons] at hy hYl
          have hq : qTakeS ⟨r, true, z :: Y2⟩ = (z, ⟨r, true, Y2⟩, 0) := by
            rw [qTakeS, if_neg (by rw [qRight_f.2 ⟨hr.1, by show r ≤ 4096; omega, by show ((z :: Y2).length : Int) ≤ r; simp; omega⟩]; simp)]
          have hn0 : ((z :: Y2).map Task.cells)[0]? = some z.cells := rfl
          have hlz := lenTask (z :: Y2)
          refine awp_skip ?_
          show AWP _ _ _ _
          refine awp_seq ?_
          refine awp_block ?_
          refine awp_seq ?_
          refine awp_region ?_
          first | refine aqs rfl (q_ldpW ag63 sz63 rfl (by repeat (first | exact .here | assumption | (apply HAt.left; assumption) | apply HAt.there | apply HAt.right)) (by first | rfl | assumption | (simp [*]; done) | fail) (by first | rfl | assumption | (simp [*]; done) | fail) (by decide)) rfl ?_ | refine aqs rfl (q_ldW ag63 sz63 rfl (by first | rfl | assumption | (simp [*]; done) | fail)) rfl ?_ | refine aqs rfl (q_ldpP ag63 sz63 rfl (by repeat (first | exact .here | assumption | (apply HAt.left; assumption) | apply HAt.there | apply HAt.right)) (by first | rfl | assumption | (simp [*]; done) | fail) (by first | decide | (simp; done) | omega | fail) (by decide) (by first | ((repeat constructor); done) | exact .same _)) rfl ?_ | refine aqs rfl (q_ldP ag63 sz63 rfl (by first | decide | (simp; done) | omega | fail) (by first | ((repeat constructor); done) | exact .same _)) rfl ?_
          first | refine aqs rfl (e_callN cb68 (hq ▸ take68_c ⟨r, true, z :: Y2⟩ _) rfl rfl) rfl ?_ | refine aqs rfl (e_callN cb68 (ACall.arg (hq ▸ take68_c ⟨r, true, z :: Y2⟩ _) (by repeat (first | exact ArgL.nil | (apply ArgL.cons; (· first | exact .same | exact .cro | exact .nil))))) rfl rfl) rfl ?_
          refine aqs rfl (q_mv (by constructor)) rfl ?_
          refine aqs rfl (q_ex rfl rfl (by constructor)) rfl ?_
          refine aqs rfl (q_ex rfl rfl (by constructor)) rfl ?_
          refine aqs rfl (q_ex rfl rfl (by constructor)) rfl ?_
          (refine aes rfl (e_al (xs := [.lit (.int .i64 0), .lit (.int .i64 0), .lit (.string ⟨#[]⟩), .lit (.string ⟨#[]⟩)]) (k := 4) zr75 (.same _) rfl) rfl ?_; rintro _ _ ⟨u32, rfl, rfl⟩)
          (refine aes rfl (e_al (xs := [.lit (.int .i64 0), .lit (.bool false), .lit (.slice none 0 0)]) (k := 3) zr63 (.same _) rfl) rfl ?_; rintro _ _ ⟨u33, rfl, rfl⟩)
          first | (refine aen rfl (e_stW sz75 rfl (by repeat (first | exact .here | assumption | (apply HAt.left; assumption) | apply HAt.there | apply HAt.right)) (by constructor) (by first | rfl | assumption | (simp [*]; done) | fail) rfl (by repeat (first | exact .here | apply HSet.there))) ?_; rintro _ _ ⟨rfl, rfl⟩) | (refine aen rfl (e_stP sz75 rfl (by repeat (first | exact .here | assumption | (apply HAt.left; assumption) | apply HAt.there | apply HAt.right)) (by first | rfl | assumption | (simp [*]; done) | fail) (by constructor) (by first | rfl | assumption | (simp [*]; done) | fail) rfl (by first | decide | omega) (by first | ((repeat constructor); done) | exact .same _) (by first | exact .one | exact .set) (by repeat (first | exact .here | apply HSet.there))) ?_; rintro _ _ ⟨rfl, rfl⟩)
          first | (refine aen rfl (e_stW sz63 rfl (by repeat (first | exact .here | assumption | (apply HAt.left; assumption) | apply HAt.there | apply HAt.right)) (by constructor) (by first | rfl | assumption | (simp [*]; done) | fail) rfl (by repeat (first | exact .here | apply HSet.there))) ?_; rintro _ _ ⟨rfl, rfl⟩) | (refine aen rfl (e_stP sz63 rfl (by repeat (first | exact .here | assumption | (apply HAt.left; assumption) | apply HAt.there | apply HAt.right)) (by first | rfl | assumption | (simp [*]; done) | fail) (by constructor) (by first | rfl | assumption | (simp [*]; done) | fail) rfl (by first | decide | omega) (by first | ((repeat constructor); done) | exact .same _) (by first | exact .one | exact .set) (by repeat (first | exact .here | apply HSet.there))) ?_; rintro _ _ ⟨rfl, rfl⟩)
          refine aqs rfl (q_as (by constructor)) rfl ?_
          refine alist_nil ?_
          show AWP _ _ _ _
          refine awp_seq ?_
          refine awp_seq ?_
          refine awp_draw 27 [(0, false), (1, false), (2, false), (3, false), (4, false), (5, false), (6, false), (7, false), (8, false), (9, false), (10, false), (11, false), (12, false), (13, false), (14, false), (15, false), (16, false), (17, false), (18, false), (19, false), (20, false), (21, false), (22, false), (23, false), (24, false), (25, false), (26, false)] _ ([]) mixed (by kernel_rfl) (perm0 _) ?_
          refine glq rfl (.inl ⟨rfl, q_mv (by constructor)⟩) rfl ?_
          refine glq rfl (.inl ⟨rfl, castF (q_neq rfl rfl) (by rfl)⟩) rfl ?_
          refine glq rfl (.inl ⟨rfl, q_mv (by constructor)⟩) rfl ?_
          first | refine glq rfl (.inl ⟨rfl, q_fapP fl75_0 (by decide) rfl rfl⟩) rfl ?_ | refine glq rfl (.inl ⟨rfl, q_faP fl75_0 (by decide) rfl (by first | ((repeat constructor); done) | exact .same _)⟩) rfl ?_ | refine glq rfl (.inr ⟨rfl, rfl⟩) rfl ?_
          first | refine glq rfl (.inl ⟨rfl, q_ldpN ag3 rfl (by repeat (first | exact .here | assumption | (apply HAt.left; assumption) | apply HAt.there | apply HAt.right)) (by first | rfl | assumption | (simp [*]; done) | fail) (by first | rfl | assumption | (simp [*]; done) | fail) (by constructor)⟩) rfl ?_ | refine glq rfl (.inl ⟨rfl, q_ld1N ag3 rfl (by constructor)⟩) rfl ?_ | refine glq rfl (.inr ⟨rfl, rfl⟩) rfl ?_
          first | refine glq rfl (.inl ⟨rfl, q_mv (by constructor)⟩) rfl ?_ | refine glq rfl (.inr ⟨rfl, rfl⟩) rfl ?_
          first | refine glq rfl (.inl ⟨rfl, e_callN cb64 (hrq ▸ pick64_c _ _ wreq.1 wreq.2 (by omega) _) rfl rfl⟩) rfl ?_ | refine glq rfl (.inl ⟨rfl, e_callN cb64 (ACall.arg (hrq ▸ pick64_c _ _ wreq.1 wreq.2 (by omega) _) (by repeat (first | exact ArgL.nil | (apply ArgL.cons; (· first | exact .same | exact .cro | exact .nil))))) rfl rfl⟩) rfl ?_ | refine glq rfl (.inr ⟨rfl, rfl⟩) rfl ?_
          refine glq rfl (.inl ⟨rfl, castF (q_eql rfl rfl) (by exact decide_eq_false (hYr z (by simp)))⟩) rfl ?_
          first | refine glq rfl (.inl ⟨rfl, q_pickT rfl (by constructor)⟩) rfl ?_ | refine glq rfl (.inl ⟨rfl, q_pickF rfl (by constructor)⟩) rfl ?_
          refine glq rfl (.inl ⟨rfl, q_mv (by constructor)⟩) rfl ?_
          first | refine glq rfl (.inl ⟨rfl, q_ldpW ag75 sz75 rfl (by repeat (first | exact .here | assumption | (apply HAt.left; assumption) | apply HAt.there | apply HAt.right)) (by first | rfl | assumption | (simp [*]; done) | fail) (by first | rfl | assumption | (simp [*]; done) | fail) (by decide)⟩) rfl ?_ | refine glq rfl (.inl ⟨rfl, q_ldW ag75 sz75 rfl (by first | rfl | assumption | (simp [*]; done) | fail)⟩) rfl ?_ | refine glq rfl (.inl ⟨rfl, q_ldpP ag75 sz75 rfl (by repeat (first | exact .here | assumption | (apply HAt.left; assumption) | apply HAt.there | apply HAt.right)) (by first | rfl | assumption | (simp [*]; done) | fail) (by first | decide | (simp; done) | omega | fail) (by decide) (by first | ((repeat constructor); done) | exact .same _)⟩) rfl ?_ | refine glq rfl (.inl ⟨rfl, q_ldP ag75 sz75 rfl (by first | decide | (simp; done) | omega | fail) (by first | ((repeat constructor); done) | exact .same _)⟩) rfl ?_ | refine glq rfl (.inr ⟨rfl, rfl⟩) rfl ?_
          first | refine glq rfl (.inl ⟨rfl, q_fapP fl63_2 (by decide) rfl rfl⟩) rfl ?_ | refine glq rfl (.inl ⟨rfl, q_faP fl63_2 (by decide) rfl (by first | ((repeat constructor); done) | exact .same _)⟩) rfl ?_ | refine glq rfl (.inr ⟨rfl, rfl⟩) rfl ?_
          first | refine glq rfl (.inl ⟨rfl, q_ldpN ag61 rfl (by repeat (first | exact .here | assumption | (apply HAt.left; assumption) | apply HAt.there | apply HAt.right)) (by first | rfl | assumption | (simp [*]; done) | fail) (by first | rfl | assumption | (simp [*]; done) | fail) (by constructor)⟩) rfl ?_ | refine glq rfl (.inl ⟨rfl, q_ld1N ag61 rfl (by constructor)⟩) rfl ?_ | refine glq rfl (.inr ⟨rfl, rfl⟩) rfl ?_
          first | refine glq rfl (.inl ⟨rfl, q_iaN Try.underlying61 sz75 (.inl rfl) rfl (by omega) (by first | rfl | assumption | (simp [*]; done) | fail) (by first | rfl | assumption | (simp [*]; done) | fail) (by decide) (by first | ((repeat constructor); done) | exact .same _)⟩) rfl ?_ | refine glq rfl (.inl ⟨rfl, q_iaS Try.underlying61 sz75 rfl (by repeat (first | exact .here | assumption | (apply HAt.left; assumption) | apply HAt.there | apply HAt.right)) rfl (by omega) (by omega) (by first | exact Nat.zero_add _ | rfl)⟩) rfl ?_ | refine glq rfl (.inl ⟨rfl, q_iaN Try.underlying61 sz75 (.inr rfl) rfl (by omega) (by first | rfl | assumption | (simp [*]; done) | fail) (by first | rfl | assumption | (simp [*]; done) | fail) (by decide) (by first | ((repeat constructor); done) | exact .same _)⟩) rfl ?_ | refine glq rfl (.inr ⟨rfl, rfl⟩) rfl ?_
          first | refine glq rfl (.inl ⟨rfl, q_ldpW ag75 sz75 rfl (by repeat (first | exact .here | assumption | (apply HAt.left; assumption) | apply HAt.there | apply HAt.right)) (by first | rfl | assumption | (simp [*]; done) | fail) (by first | rfl | assumption | (simp [*]; done) | fail) (by decide)⟩) rfl ?_ | refine glq rfl (.inl ⟨rfl, q_ldW ag75 sz75 rfl (by first | rfl | assumption | (simp [*]; done) | fail)⟩) rfl ?_ | refine glq rfl (.inl ⟨rfl, q_ldpP ag75 sz75 rfl (by repeat (first | exact .here | assumption | (apply HAt.left; assumption) | apply HAt.there | apply HAt.right)) (by first | rfl | assumption | (simp [*]; done) | fail) (by first | decide | (simp; done) | omega | fail) (by decide) (by first | ((repeat constructor); done) | exact .same _)⟩) rfl ?_ | refine glq rfl (.inl ⟨rfl, q_ldP ag75 sz75 rfl (by first | decide | (simp; done) | omega | fail) (by first | ((repeat constructor); done) | exact .same _)⟩) rfl ?_ | refine glq rfl (.inr ⟨rfl, rfl⟩) rfl ?_
          refine glq rfl (.inl ⟨rfl, castF (q_neqA gd75 rfl rfl (by repeat constructor) (by repeat constructor) (fun w => eq75 w)) (by rw [teq]; simp)⟩) rfl ?_
          first | refine glq rfl (.inl ⟨rfl, q_pickT rfl (by constructor)⟩) rfl ?_ | refine glq rfl (.inl ⟨rfl, q_pickF rfl (by constructor)⟩) rfl ?_
          refine glq rfl (.inl ⟨rfl, q_mv (by constructor)⟩) rfl ?_
          first | refine glq rfl (.inl ⟨rfl, q_fapP fl63_2 (by decide) rfl rfl⟩) rfl ?_ | refine glq rfl (.inl ⟨rfl, q_faP fl63_2 (by decide) rfl (by first | ((repeat constructor); done) | exact .same _)⟩) rfl ?_ | refine glq rfl (.inr ⟨rfl, rfl⟩) rfl ?_
          first | refine glq rfl (.inl ⟨rfl, q_ldpN ag61 rfl (by repeat (first | exact .here | assumption | (apply HAt.left; assumption) | apply HAt.there | apply HAt.right)) (by first | rfl | assumption | (simp [*]; done) | fail) (by first | rfl | assumption | (simp [*]; done) | fail) (by constructor)⟩) rfl ?_ | refine glq rfl (.inl ⟨rfl, q_ld1N ag61 rfl (by constructor)⟩) rfl ?_ | refine glq rfl (.inr ⟨rfl, rfl⟩) rfl ?_
          first | refine glq rfl (.inl ⟨rfl, castQ (r2 := .lit (.int .i64 (Y2.length : Nat))) (q_len Try.underlying61 .ro) (by simp)⟩) rfl ?_ | refine glq rfl (.inl ⟨rfl, castQ (r2 := .lit (.int .i64 (Y2.length : Nat))) (q_lenO Try.underlying61 rfl (by repeat (first | exact .here | assumption | (apply HAt.left; assumption) | apply HAt.there | apply HAt.right)) (by first | omega | (simp; done) | (simp; omega) | fail) (by first | exact Nat.sub_zero _ | rfl)) (by simp)⟩) rfl ?_ | refine glq rfl (.inl ⟨rfl, castQ (r2 := .lit (.int .i64 (Y2.length : Nat))) (q_len Try.underlying61 .nil) (by simp)⟩) rfl ?_ | refine glq rfl (.inl ⟨rfl, castQ (r2 := .lit (.int .i64 (Y2.length : Nat))) (q_len Try.underlying61 .cro) (by simp)⟩) rfl ?_
          first | refine glq rfl (.inl ⟨rfl, q_fapP fl63_2 (by decide) rfl rfl⟩) rfl ?_ | refine glq rfl (.inl ⟨rfl, q_faP fl63_2 (by decide) rfl (by first | ((repeat constructor); done) | exact .same _)⟩) rfl ?_ | refine glq rfl (.inr ⟨rfl, rfl⟩) rfl ?_
          first | refine glq rfl (.inl ⟨rfl, q_ldpN ag61 rfl (by repeat (first | exact .here | assumption | (apply HAt.left; assumption) | apply HAt.there | apply HAt.right)) (by first | rfl | assumption | (simp [*]; done) | fail) (by first | rfl | assumption | (simp [*]; done) | fail) (by constructor)⟩) rfl ?_ | refine glq rfl (.inl ⟨rfl, q_ld1N ag61 rfl (by constructor)⟩) rfl ?_ | refine glq rfl (.inr ⟨rfl, rfl⟩) rfl ?_
          first | refine glq rfl (.inl ⟨rfl, castQ (r2 := .lit (.int .i64 ((Y2.length : Nat) + 1))) (q_len Try.underlying61 .ro) (by simp)⟩) rfl ?_ | refine glq rfl (.inl ⟨rfl, castQ (r2 := .lit (.int .i64 ((Y2.length : Nat) + 1))) (q_lenO Try.underlying61 rfl (by repeat (first | exact .here | assumption | (apply HAt.left; assumption) | apply HAt.there | apply HAt.right)) (by first | omega | (simp; done) | (simp; omega) | fail) (by first | exact Nat.sub_zero _ | rfl)) (by simp)⟩) rfl ?_ | refine glq rfl (.inl ⟨rfl, castQ (r2 := .lit (.int .i64 ((Y2.length : Nat) + 1))) (q_len Try.underlying61 .nil) (by simp)⟩) rfl ?_ | refine glq rfl (.inl ⟨rfl, castQ (r2 := .lit (.int .i64 ((Y2.length : Nat) + 1))) (q_len Try.underlying61 .cro) (by simp)⟩) rfl ?_
          first | refine glq rfl (.inl ⟨rfl, q_sub64 rfl rfl (by omega) (by omega)⟩) rfl ?_ | refine glq rfl (.inl ⟨rfl, q_sub rfl rfl⟩) rfl ?_ | refine glq rfl (.inr ⟨rfl, rfl⟩) rfl ?_
          refine glq rfl (.inl ⟨rfl, castF (q_neq rfl rfl) (by simp)⟩) rfl ?_
          first | refine glq rfl (.inl ⟨rfl, q_pickT rfl (by constructor)⟩) rfl ?_ | refine glq rfl (.inl ⟨rfl, q_pickF rfl (by constructor)⟩) rfl ?_
          (first | refine gld0 ?_ | refine gldA ?_)
          refine alist_nil ?_
          show AWP _ _ _ _
          refine awp_cond rfl (fun hc3 => ?_) (fun hc3 => ?_)
          · exfalso; first | (simp at hc3; done) | (simp at hc3; omega) | contradiction
          · try simp only [decide_eq_true_eq, decide_eq_false_iff_not, Bool.not_eq_true', Bool.not_eq_false', Bool.not_eq_eq_eq_not, Bool.not_true, Bool.not_false, beq_iff_eq, beq_eq_false_iff_ne, Int.not_lt, Int.not_le] at hc3
            refine awp_skip ?_
            show AWP _ _ _ _
            refine awp_region ?_
            first | refine aqs rfl (q_ldpW ag63 sz63 rfl (by repeat (first | exact .here | assumption | (apply HAt.left; assumption) | apply HAt.there | apply HAt.right)) (by first | rfl | assumption | (simp [*]; done) | fail) (by first | rfl | assumption | (simp [*]; done) | fail) (by decide)) rfl ?_ | refine aqs rfl (q_ldW ag63 sz63 rfl (by first | rfl | assumption | (simp [*]; done) | fail)) rfl ?_ | refine aqs rfl (q_ldpP ag63 sz63 rfl (by repeat (first | exact .here | assumption | (apply HAt.left; assumption) | apply HAt.there | apply HAt.right)) (by first | rfl | assumption | (simp [*]; done) | fail) (by first | decide | (simp; done) | omega | fail) (by decide) (by first | ((repeat constructor); done) | exact .same _)) rfl ?_ | refine aqs rfl (q_ldP ag63 sz63 rfl (by first | decide | (simp; done) | omega | fail) (by first | ((repeat constructor); done) | exact .same _)) rfl ?_
            first | (refine aen rfl (e_stW sz63 rfl (by repeat (first | exact .here | assumption | (apply HAt.left; assumption) | apply HAt.there | apply HAt.right)) (by constructor) (by first | rfl | assumption | (simp [*]; done) | fail) rfl (by repeat (first | exact .here | apply HSet.there))) ?_; rintro _ _ ⟨rfl, rfl⟩) | (refine aen rfl (e_stP sz63 rfl (by repeat (first | exact .here | assumption | (apply HAt.left; assumption) | apply HAt.there | apply HAt.right)) (by first | rfl | assumption | (simp [*]; done) | fail) (by constructor) (by first | rfl | assumption | (simp [*]; done) | fail) rfl (by first | decide | omega) (by first | ((repeat constructor); done) | exact .same _) (by first | exact .one | exact .set) (by repeat (first | exact .here | apply HSet.there))) ?_; rintro _ _ ⟨rfl, rfl⟩)
            refine alist_nil ?_
            show AWP _ _ _ _
            refine awp_region ?_
            refine aqs rfl (q_mv (by constructor)) rfl ?_
            first | refine aqs rfl (q_add64 rfl rfl (by omega) (by omega)) rfl ?_ | refine aqs rfl (q_add rfl rfl) rfl ?_
            refine aqs rfl (q_as (by constructor)) rfl ?_
            refine alist_nil ?_
            show ∃ y, _ ∧ _ ∧ _
            exact ⟨(y + 1, Y2), ⟨by show Y2.length + (y + 1) ≤ 20; omega, fun w hw => hYr w (by simp [hw]), by show (Y2.length : Int) ≤ r; omega⟩, by show 30 - (y + 1) < 30 - y; omega, .mk' ⟨by rfl, rfl, rfl, rfl, trivial⟩ (by repeat (first | exact List.Sublist.refl _ | exact List.nil_sublist _ | exact List.sublist_append_left _ _ | (apply List.Sublist.cons_cons) | (apply List.Sublist.cons)))⟩
        · simp only [Bool.and_eq_false_iff, decide_eq_false_iff_not, List.length_map] at hc2
          obtain rfl : Y = [] := List.length_eq_zero_iff.1 (by omega)
          have hq : qTakeS ⟨r, true, []⟩ = (zeroT, zeroQ, 10) := by
            rw [qTakeS, if_neg (by rw [qRight_f.2 ⟨hr.1, by show r ≤ 4096; omega, hYl⟩]; simp)]
          refine awp_exit ?_
          show AWP _ _ _ _
          refine awp_seq ?_
          refine awp_region ?_
          first | refine aqs rfl (q_ldpW ag63 sz63 rfl (by repeat (first | exact .here | assumption | (apply HAt.left; assumption) | apply HAt.there | apply HAt.right)) (by first | rfl | assumption | (simp [*]; done) | fail) (by first | rfl | assumption | (simp [*]; done) | fail) (by decide)) rfl ?_ | refine aqs rfl (q_ldW ag63 sz63 rfl (by first | rfl | assumption | (simp [*]; done) | fail)) rfl ?_ | refine aqs rfl (q_ldpP ag63 sz63 rfl (by repeat (first | exact .here | assumption | (apply HAt.left; assumption) | apply HAt.there | apply HAt.right)) (by first | rfl | assumption | (simp [*]; done) | fail) (by first | decide | (simp; done) | omega | fail) (by decide) (by first | ((repeat constructor); done) | exact .same _)) rfl ?_ | refine aqs rfl (q_ldP ag63 sz63 rfl (by first | decide | (simp; done) | omega | fail) (by first | ((repeat constructor); done) | exact .same _)) rfl ?_
          first | refine aqs rfl (e_callN cb68 (hq ▸ take68_c ⟨r, true, []⟩ _) rfl rfl) rfl ?_ | refine aqs rfl (e_callN cb68 (ACall.arg (hq ▸ take68_c ⟨r, true, []⟩ _) (by repeat (first | exact ArgL.nil | (apply ArgL.cons; (· first | exact .same | exact .cro | exact .nil))))) rfl rfl) rfl ?_
          refine aqs rfl (q_mv (by constructor)) rfl ?_
          refine aqs rfl (q_ex rfl rfl (by constructor)) rfl ?_
          refine aqs rfl (q_ex rfl rfl (by constructor)) rfl ?_
          refine aqs rfl (q_ex rfl rfl (by constructor)) rfl ?_
          (refine aes rfl (e_al (xs := [.lit (.int .i64 0), .lit (.int .i64 0), .lit (.string ⟨#[]⟩), .lit (.string ⟨#[]⟩)]) (k := 4) zr75 (.same _) rfl) rfl ?_; rintro _ _ ⟨u35, rfl, rfl⟩)
          (refine aes rfl (e_al (xs := [.lit (.int .i64 0), .lit (.bool false), .lit (.slice none 0 0)]) (k := 3) zr63 (.same _) rfl) rfl ?_; rintro _ _ ⟨u36, rfl, rfl⟩)
          first | (refine aen rfl (e_stW sz75 rfl (by repeat (first | exact .here | assumption | (apply HAt.left; assumption) | apply HAt.there | apply HAt.right)) (by constructor) (by first | rfl | assumption | (simp [*]; done) | fail) rfl (by repeat (first | exact .here | apply HSet.there))) ?_; rintro _ _ ⟨rfl, rfl⟩) | (refine aen rfl (e_stP sz75 rfl (by repeat (first | exact .here | assumption | (apply HAt.left; assumption) | apply HAt.there | apply HAt.right)) (by first | rfl | assumption | (simp [*]; done) | fail) (by constructor) (by first | rfl | assumption | (simp [*]; done) | fail) rfl (by first | decide | omega) (by first | ((repeat constructor); done) | exact .same _) (by first | exact .one | exact .set) (by repeat (first | exact .here | apply HSet.there))) ?_; rintro _ _ ⟨rfl, rfl⟩)
          first | (refine aen rfl (e_stW sz63 rfl (by repeat (first | exact .here | assumption | (apply HAt.left; assumption) | apply HAt.there | apply HAt.right)) (by constructor) (by first | rfl | assumption | (simp [*]; done) | fail) rfl (by repeat (first | exact .here | apply HSet.there))) ?_; rintro _ _ ⟨rfl, rfl⟩) | (refine aen rfl (e_stP sz63 rfl (by repeat (first | exact .here | assumption | (apply HAt.left; assumption) | apply HAt.there | apply HAt.right)) (by first | rfl | assumption | (simp [*]; done) | fail) (by constructor) (by first | rfl | assumption | (simp [*]; done) | fail) rfl (by first | decide | omega) (by first | ((repeat constructor); done) | exact .same _) (by first | exact .one | exact .set) (by repeat (first | exact .here | apply HSet.there))) ?_; rintro _ _ ⟨rfl, rfl⟩)
          refine aqs rfl (q_as (by constructor)) rfl ?_
          refine alist_nil ?_
          show AWP _ _ _ _
          refine awp_seq ?_
          refine awp_region ?_
          refine aqs rfl (q_mv (by constructor)) rfl ?_
          refine aqs rfl (q_mv (by constructor)) rfl ?_
          first | refine ans rfl rfl ?_ | refine aqs rfl (q_mv (by constructor)) rfl ?_
          refine aqs rfl (castT (q_eql rfl rfl) (by rfl)) rfl ?_
          first | refine aqs rfl (q_pickT rfl (by constructor)) rfl ?_ | refine aqs rfl (q_pickF rfl (by constructor)) rfl ?_
          refine aqs rfl (q_mv (by constructor)) rfl ?_
          first | refine ans rfl rfl ?_ | refine aqs rfl (q_fapP fl63_1 (by decide) rfl rfl) rfl ?_ | refine aqs rfl (q_faP fl63_1 (by decide) rfl (by first | ((repeat constructor); done) | exact .same _)) rfl ?_
          first | refine ans rfl rfl ?_ | refine aqs rfl (q_ldpN ag4 rfl (by repeat (first | exact .here | assumption | (apply HAt.left; assumption) | apply HAt.there | apply HAt.right)) (by first | rfl | assumption | (simp [*]; done) | fail) (by first | rfl | assumption | (simp [*]; done) | fail) (by constructor)) rfl ?_ | refine aqs rfl (q_ld1N ag4 rfl (by constructor)) rfl ?_
          first | refine aqs rfl (q_pickT rfl (by constructor)) rfl ?_ | refine aqs rfl (q_pickF rfl (by constructor)) rfl ?_
          refine aqs rfl (q_as (by constructor)) rfl ?_
          refine alist_nil ?_
          show AWP _ _ _ _
          refine awp_ret ?_
          repeat first | with_reducible refine then_ret ?_ | with_reducible refine blk_ret ?_
          apply retq (.inr rfl) (.cons (rok_t rfl) .nil)
          rotate_left
          · exact ⟨rfl, rfl⟩
          repeat (first | exact List.Sublist.refl _ | exact List.nil_sublist _ | exact List.sublist_append_left _ _ | apply List.Sublist.cons)
end Go.Proofs.YtdlinfekifnmkaaAm
