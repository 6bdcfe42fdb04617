/- The walk of HistLegal; a list whose calls are changed one behind the other. Conditions: none. -/
import Derived.Test.YtdlinfekifnmkaaAmHistNeverWalk
set_option linter.unusedVariables false
set_option linter.unusedSimpArgs false
set_option maxRecDepth 20000
namespace Go.Proofs.YtdlinfekifnmkaaAm
open Go.Proofs
def updC (f : Nat → Call → Call) (c : List Call) (i : Nat) : List Call := c.mapIdx fun j x => if j < i then f j x else x
theorem upd_len (f : Nat → Call → Call) (c : List Call) (i : Nat) : (updC f c i).length = c.length := by simp [updC]
theorem upd_get (f : Nat → Call → Call) (c : List Call) (i j : Nat) (hj : j < c.length) : (updC f c i)[j]? = some (if j < i then f j (nth c j) else nth c j) := by
  simp [updC, List.getElem?_mapIdx, nth_get hj]
theorem upd_zero (f : Nat → Call → Call) (c : List Call) : updC f c 0 = c := by
  refine List.ext_getElem? fun j => ?_
  simp [updC, List.getElem?_mapIdx]
theorem upd_next (f : Nat → Call → Call) (c : List Call) (i : Nat) (hi : i < c.length) : updC f c (i + 1) = (updC f c i).set i (f i (nth c i)) := by
  refine List.ext_getElem? fun j => ?_
  by_cases hj : j < c.length
  · rw [upd_get f c _ _ hj, List.getElem?_set]
    by_cases h : i = j
    · subst h
      simp [upd_len, hi]
    · rw [if_neg h, upd_get f c _ _ hj]
      by_cases h2 : j < i
      · rw [if_pos h2, if_pos (by omega)]
      · rw [if_neg h2, if_neg (by omega)]
  · rw [List.getElem?_eq_none (by rw [upd_len]; omega), List.getElem?_eq_none (by rw [List.length_set, upd_len]; omega)]
theorem upd_row (f : Nat → Call → Call) (c : List Call) (i : Nat) (hi : i < c.length) : ((updC f c i).map Call.cells)[i]? = some (nth c i).cells := by
  rw [List.getElem?_map, upd_get f c _ _ hi, if_neg (by omega)]; rfl
theorem upd_rows (f : Nat → Call → Call) (c : List Call) (i : Nat) (hi : i < c.length) : (updC f c (i + 1)).map Call.cells = ((updC f c i).map Call.cells).set i (f i (nth c i)).cells := by
  rw [upd_next f c i hi, List.map_set]
theorem upd_end (f : Nat → Call → Call) (c : List Call) (j : Nat) (hj : j < c.length) : nth (updC f c c.length) j = f j (nth c j) := by
  rw [nth_of (upd_get f c _ _ hj), if_pos hj]
theorem row_set {es : List (List AV)} {i : Nat} {r : List AV} (h : i < es.length) : (es.set i r)[i]? = some r := by simp [h]
def seqF (j : Nat) (x : Call) : Call := ⟨x.put, x.who, x.key, x.val, x.has, 2 * (j : Int), 2 * (j : Int) + 1⟩
theorem legal_take {c : List Call} {r : Int} (h : legal c r = true) (k : Nat) : legal (c.take k) r = true :=
  legal_pre (d := c.drop k) (by rw [List.take_append_drop]; exact h)
set_option maxHeartbeats 8000000 in
theorem walkHistLegal (raw : List Quad) (room at_ : Int) (wraw : (∀ y ∈ raw, y.Wf) ∧ raw.length ≤ 9223372036854775807) (wroom : -9223372036854775808 ≤ room ∧ room ≤ 9223372036854775807) (wat : -9223372036854775808 ≤ at_ ∧ at_ ≤ 9223372036854775807) :
    QCall Try.prog 21 [.ro (raw.map Quad.cells), .lit (.int .i64 room), .lit (.int .i64 at_)] [] (.lit (.bool true)) := by
  have hcl := listOf_len raw 7
  have hl83 := list83o_c raw wraw.1 7 (by omega)
  obtain ⟨c, hc⟩ : ∃ c, c = listOf raw 7 := ⟨_, rfl⟩
  rw [← hc] at hcl hl83
  obtain ⟨r, hr⟩ : ∃ r, r = pick room 4 := ⟨_, rfl⟩
  obtain ⟨d, hd⟩ : ∃ d, d = updC seqF c c.length := ⟨_, rfl⟩
  have hdl : d.length = c.length := by rw [hd, upd_len]
  have hdn : ∀ j, j < d.length → nth d j = seqF j (nth c j) := fun j hj => by rw [hd]; exact upd_end seqF c j (by omega)
  have hdm : ∀ x ∈ d, mayC x = true := by
    intro x hx
    obtain ⟨j, hj⟩ := List.mem_iff_getElem?.1 hx
    have hjl : j < d.length := (List.getElem?_eq_some_iff.1 hj).1
    have e : x = seqF j (nth c j) := by rw [← hdn j hjl, nth_of hj]
    have := bad_may x
    have hb : bad86 x = false := by
      rw [e]
      show ((decide (2 * (j : Int) < 0) || decide (2 * (j : Int) + 1 < -1)) || (decide (0 ≤ 2 * (j : Int) + 1) && decide (2 * (j : Int) + 1 ≤ 2 * (j : Int)))) = false
      simp only [Bool.or_eq_false_iff, Bool.and_eq_false_iff, decide_eq_false_iff_not]
      omega
    rw [hb] at this
    simpa using this.symm
  have e1 : linearS d r = (legal d r, 0) := by
    rw [linS_all hdm (by omega), linear_seq fun j hj => by rw [hdn j hj]; exact ⟨rfl, rfl⟩]
  have hk0 := pick_nonneg at_ (d.length + 1) (by omega)
  have hk1 := pick_lt at_ (d.length + 1) (by omega)
  obtain ⟨k, hk, hkl⟩ : ∃ k : Nat, (k : Int) = pick at_ (d.length + 1) ∧ k ≤ d.length := ⟨(pick at_ (d.length + 1)).toNat, by omega, by omega⟩
  have hdml : (d.map Call.cells).length = d.length := List.length_map ..
  refine acall_intro (n := 78) (rvs := [.tmp 6]) Try.func21 rfl rfl rfl (Nat.le_of_ble_eq_true rfl) ?_
  refine awp_seq ?_
  refine awp_region ?_
  refine aqs rfl (q_as (by constructor)) rfl ?_
  refine alist_nil ?_
  show AWP _ _ _ _
  refine awp_seq ?_
  refine awp_region ?_
  first | refine aqs rfl (e_callN cb78 (QCall.any _ awake78_c) rfl rfl) rfl ?_ | refine aqs rfl (e_callN cb78 (ACall.arg (QCall.any _ awake78_c) (by repeat (first | exact ArgL.nil | (apply ArgL.cons; (· first | exact .same | exact .cro | exact .nil))))) rfl rfl) rfl ?_
  refine aqs rfl (q_as (by constructor)) rfl ?_
  refine alist_nil ?_
  show AWP _ _ _ _
  refine awp_seq ?_
  refine awp_region ?_
  refine aqs rfl (q_mv (by constructor)) rfl ?_
  first | (refine aes rfl (e_callN cb83 (hl83) rfl rfl) rfl ?_; rintro _ _ ⟨u0, rfl, rfl⟩) | (refine aes rfl (e_callN cb83 (ACall.arg (hl83) (by repeat (first | exact ArgL.nil | (apply ArgL.cons; (· first | exact .same | exact .cro | exact .nil))))) rfl rfl) rfl ?_; rintro _ _ ⟨u0, rfl, rfl⟩)
  refine aqs rfl (q_as (by constructor)) rfl ?_
  refine alist_nil ?_
  show AWP _ _ _ _
  refine awp_seq ?_
  refine awp_region ?_
  refine aqs rfl (q_mv (by constructor)) rfl ?_
  first | refine aqs rfl (e_callN cb84 (hr ▸ pick84_c _ _ wroom.1 wroom.2 (by omega) _) rfl rfl) rfl ?_ | refine aqs rfl (e_callN cb84 (ACall.arg (hr ▸ pick84_c _ _ wroom.1 wroom.2 (by omega) _) (by repeat (first | exact ArgL.nil | (apply ArgL.cons; (· first | exact .same | exact .cro | exact .nil))))) rfl rfl) rfl ?_
  refine aqs rfl (q_as (by constructor)) rfl ?_
  refine alist_nil ?_
  show AWP _ _ _ _
  refine awp_seq ?_
  refine awp_seq ?_
  refine awp_region ?_
  refine aqs rfl (q_as (by constructor)) rfl ?_
  refine alist_nil ?_
  show AWP _ _ _ _
  refine awp_block ?_
  rw [show c.map Call.cells = (updC seqF c 0).map Call.cells by rw [upd_zero]]
  refine awp_loop_inv (fun i : Nat => ⟨[(10, .lit (.int .i64 i)), (9, .lit (.int .i64 r)), (8, .sl u0 0 c.length), (7, .lit (.bool true)), (2, .lit (.int .i64 at_))], 78, [(u0, .arr 103 7 ((updC seqF c i).map Call.cells))]⟩) (fun i => i ≤ c.length) (fun i => c.length - i) 0 ?_ ?_ ?_
  · exact Nat.zero_le _
  · exact .mk' (by repeat (first | exact trivial | refine ⟨rfl, ?_⟩)) (by repeat (first | exact .refl _ | apply List.Sublist.cons_cons | apply List.Sublist.cons))
  · intro i hi
    have hul := upd_len seqF c i
    refine awp_seq ?_
    refine awp_seq ?_
    refine awp_region ?_
    refine aqs rfl (q_mv (by constructor)) rfl ?_
    refine aqs rfl (q_mv (by constructor)) rfl ?_
    first | refine aqs rfl (q_len Try.underlying90 .ro) rfl ?_ | refine aqs rfl (q_lenO Try.underlying90 rfl (by repeat (first | exact .here | assumption | (apply HAt.left; assumption) | apply HAt.there | apply HAt.right)) (by first | omega | (simp; done) | (simp; omega) | fail) (by first | exact Nat.sub_zero _ | rfl)) rfl ?_ | refine aqs rfl (q_len Try.underlying90 .nil) rfl ?_ | refine aqs rfl (q_len Try.underlying90 .cro) rfl ?_
    refine aqs rfl (q_lss rfl rfl) rfl ?_
    refine alist_nil ?_
    show AWP _ _ _ _
    refine awp_cond rfl (fun hc0 => ?_) (fun hc0 => ?_)
    · simp only [decide_eq_true_eq] at hc0
      have hil : i < c.length := by omega
      obtain ⟨x, hx⟩ : ∃ x, x = nth c i := ⟨_, rfl⟩
      have hs1 : ((updC seqF c i).map Call.cells)[i]? = some [.lit (.bool x.put), .lit (.int .i64 x.who), .lit (.int .i64 x.key), .lit (.int .i64 x.val), .lit (.bool x.has), .lit (.int .i64 x.frm), .lit (.int .i64 x.to)] := by rw [hx]; exact upd_row seqF c i hil
      have hs2 : (((updC seqF c i).map Call.cells).set i [.lit (.bool x.put), .lit (.int .i64 x.who), .lit (.int .i64 x.key), .lit (.int .i64 x.val), .lit (.bool x.has), .lit (.int .i64 (2 * (i : Int))), .lit (.int .i64 x.to)])[i]? = some [.lit (.bool x.put), .lit (.int .i64 x.who), .lit (.int .i64 x.key), .lit (.int .i64 x.val), .lit (.bool x.has), .lit (.int .i64 (2 * (i : Int))), .lit (.int .i64 x.to)] := row_set (by rw [List.length_map, hul]; exact hil)
      have hst : (updC seqF c (i + 1)).map Call.cells = (((updC seqF c i).map Call.cells).set i [.lit (.bool x.put), .lit (.int .i64 x.who), .lit (.int .i64 x.key), .lit (.int .i64 x.val), .lit (.bool x.has), .lit (.int .i64 (2 * (i : Int))), .lit (.int .i64 x.to)]).set i [.lit (.bool x.put), .lit (.int .i64 x.who), .lit (.int .i64 x.key), .lit (.int .i64 x.val), .lit (.bool x.has), .lit (.int .i64 (2 * (i : Int))), .lit (.int .i64 (2 * (i : Int) + 1))] := by
        rw [upd_rows seqF c i hil, List.set_set, hx]; rfl
      refine awp_skip ?_
      show AWP _ _ _ _
      refine awp_seq ?_
      refine awp_block ?_
      refine awp_seq ?_
      refine awp_region ?_
      refine aqs rfl (q_mv (by constructor)) rfl ?_
      refine aqs rfl (q_mv (by constructor)) rfl ?_
      refine aqs rfl (q_mv (by constructor)) rfl ?_
      first | refine aqs rfl (q_mul64 rfl rfl (by omega) (by omega)) rfl ?_ | refine aqs rfl (q_mul rfl rfl) rfl ?_
      first | refine aqs rfl (q_iaN Try.underlying90 sz103 (.inl rfl) rfl (by omega) (by first | rfl | assumption | (simp [*]; done) | fail) (by first | rfl | assumption | (simp [*]; done) | fail) (by decide) (by first | ((repeat constructor); done) | exact .same _)) rfl ?_ | refine aqs rfl (q_iaS Try.underlying90 sz103 rfl (by repeat (first | exact .here | assumption | (apply HAt.left; assumption) | apply HAt.there | apply HAt.right)) rfl (by omega) (by omega) (by first | exact Nat.zero_add _ | rfl)) rfl ?_ | refine aqs rfl (q_iaN Try.underlying90 sz103 (.inr rfl) rfl (by omega) (by first | rfl | assumption | (simp [*]; done) | fail) (by first | rfl | assumption | (simp [*]; done) | fail) (by decide) (by first | ((repeat constructor); done) | exact .same _)) rfl ?_
      first | refine aqs rfl (q_fapP fl103_5 (by decide) rfl rfl) rfl ?_ | refine aqs rfl (q_faP fl103_5 (by decide) rfl (by first | ((repeat constructor); done) | exact .same _)) rfl ?_
      first | (refine aen rfl (e_stW sz3 rfl (by repeat (first | exact .here | assumption | (apply HAt.left; assumption) | apply HAt.there | apply HAt.right)) (by constructor) (by first | rfl | assumption | (simp [*]; done) | fail) rfl (by repeat (first | exact .here | apply HSet.there))) ?_; rintro _ _ ⟨rfl, rfl⟩) | (refine aen rfl (e_stP sz3 rfl (by repeat (first | exact .here | assumption | (apply HAt.left; assumption) | apply HAt.there | apply HAt.right)) (by first | rfl | assumption | (simp [*]; done) | fail) (by constructor) (by first | rfl | assumption | (simp [*]; done) | fail) rfl (by first | decide | omega) (by first | ((repeat constructor); done) | exact .same _) (by first | exact .one | exact .set) (by repeat (first | exact .here | apply HSet.there))) ?_; rintro _ _ ⟨rfl, rfl⟩)
      refine alist_nil ?_
      show AWP _ _ _ _
      refine awp_region ?_
      refine aqs rfl (q_mv (by constructor)) rfl ?_
      refine aqs rfl (q_mv (by constructor)) rfl ?_
      refine aqs rfl (q_mv (by constructor)) rfl ?_
      first | refine aqs rfl (q_mul64 rfl rfl (by omega) (by omega)) rfl ?_ | refine aqs rfl (q_mul rfl rfl) rfl ?_
      first | refine aqs rfl (q_add64 rfl rfl (by omega) (by omega)) rfl ?_ | refine aqs rfl (q_add rfl rfl) rfl ?_
      first | refine aqs rfl (q_iaN Try.underlying90 sz103 (.inl rfl) rfl (by omega) (by first | rfl | assumption | (simp [*]; done) | fail) (by first | rfl | assumption | (simp [*]; done) | fail) (by decide) (by first | ((repeat constructor); done) | exact .same _)) rfl ?_ | refine aqs rfl (q_iaS Try.underlying90 sz103 rfl (by repeat (first | exact .here | assumption | (apply HAt.left; assumption) | apply HAt.there | apply HAt.right)) rfl (by omega) (by omega) (by first | exact Nat.zero_add _ | rfl)) rfl ?_ | refine aqs rfl (q_iaN Try.underlying90 sz103 (.inr rfl) rfl (by omega) (by first | rfl | assumption | (simp [*]; done) | fail) (by first | rfl | assumption | (simp [*]; done) | fail) (by decide) (by first | ((repeat constructor); done) | exact .same _)) rfl ?_
      first | refine aqs rfl (q_fapP fl103_6 (by decide) rfl rfl) rfl ?_ | refine aqs rfl (q_faP fl103_6 (by decide) rfl (by first | ((repeat constructor); done) | exact .same _)) rfl ?_
      first | (refine aen rfl (e_stW sz3 rfl (by repeat (first | exact .here | assumption | (apply HAt.left; assumption) | apply HAt.there | apply HAt.right)) (by constructor) (by first | rfl | assumption | (simp [*]; done) | fail) rfl (by repeat (first | exact .here | apply HSet.there))) ?_; rintro _ _ ⟨rfl, rfl⟩) | (refine aen rfl (e_stP sz3 rfl (by repeat (first | exact .here | assumption | (apply HAt.left; assumption) | apply HAt.there | apply HAt.right)) (by first | rfl | assumption | (simp [*]; done) | fail) (by constructor) (by first | rfl | assumption | (simp [*]; done) | fail) rfl (by first | decide | omega) (by first | ((repeat constructor); done) | exact .same _) (by first | exact .one | exact .set) (by repeat (first | exact .here | apply HSet.there))) ?_; rintro _ _ ⟨rfl, rfl⟩)
      refine alist_nil ?_
      show AWP _ _ _ _
      refine awp_region ?_
      refine aqs rfl (q_mv (by constructor)) rfl ?_
      first | refine aqs rfl (q_add64 rfl rfl (by omega) (by omega)) rfl ?_ | refine aqs rfl (q_add rfl rfl) rfl ?_
      refine aqs rfl (q_as (by constructor)) rfl ?_
      refine alist_nil ?_
      show ∃ y, _ ∧ _ ∧ _
      exact ⟨i + 1, by omega, by omega, by simp only [hst]; exact .mk' ⟨by rfl, rfl, rfl, rfl, rfl, trivial⟩ (by repeat (first | exact List.Sublist.refl _ | exact List.nil_sublist _ | exact List.sublist_append_left _ _ | (apply List.Sublist.cons_cons) | (apply List.Sublist.cons)))⟩
    · simp only [decide_eq_false_iff_not] at hc0
      obtain rfl : i = c.length := by omega
      rw [← hd]
      refine awp_exit ?_
      show AWP _ _ _ _
      refine awp_seq ?_
      show AWP _ _ _ _
      refine awp_pub (u := u0) (by repeat (first | exact .here | assumption | (apply HAt.left; assumption) | apply HAt.there | apply HAt.right)) (by repeat (first | exact PubT.nil | (apply PubT.cons; (· first | exact .one (pub_all (by first | rfl | (simp; done) | (simp; omega) | (simp [*]; done) | fail)) | exact .one .same)) | exact PubT.same)) (by repeat (first | exact PubH.drop .same | (apply PubH.cons; (· exact .same)))) ?_
      refine awp_region ?_
      refine aqs rfl (q_mv (by constructor)) rfl ?_
      refine aqs rfl (q_mv (by constructor)) rfl ?_
      first | refine aqs rfl (e_callN cb85 (e1 ▸ linear85_c d r (by omega) _) rfl rfl) rfl ?_ | refine aqs rfl (e_callN cb85 (ACall.arg (e1 ▸ linear85_c d r (by omega) _) (by repeat (first | exact ArgL.nil | (apply ArgL.cons; (· first | exact .same | exact .cro | exact .nil))))) rfl rfl) rfl ?_
      refine aqs rfl (q_mv (by constructor)) rfl ?_
      refine aqs rfl (q_ex rfl rfl (by constructor)) rfl ?_
      refine aqs rfl (q_ex rfl rfl (by constructor)) rfl ?_
      refine aqs rfl (q_as (by constructor)) rfl ?_
      refine aqs rfl (q_as (by constructor)) rfl ?_
      refine alist_nil ?_
      show AWP _ _ _ _
      refine awp_seq ?_
      refine awp_region ?_
      refine aqs rfl (q_mv (by constructor)) rfl ?_
      refine aqs rfl (q_mv (by constructor)) rfl ?_
      first | refine aqs rfl (e_callN cb87 (legal87_c d r (by omega) _) rfl rfl) rfl ?_ | refine aqs rfl (e_callN cb87 (ACall.arg (legal87_c d r (by omega) _) (by repeat (first | exact ArgL.nil | (apply ArgL.cons; (· first | exact .same | exact .cro | exact .nil))))) rfl rfl) rfl ?_
      refine aqs rfl (q_as (by constructor)) rfl ?_
      refine alist_nil ?_
      show AWP _ _ _ _
      refine awp_seq ?_
      refine awp_region ?_
      refine aqs rfl (q_mv (by constructor)) rfl ?_
      refine aqs rfl (q_mv (by constructor)) rfl ?_
      first | refine aqs rfl (castQ (r2 := .lit (.int .i64 (d.length : Nat))) (q_len Try.underlying90 .ro) (by rw [hdml])) rfl ?_ | refine aqs rfl (castQ (r2 := .lit (.int .i64 (d.length : Nat))) (q_lenO Try.underlying90 rfl (by repeat (first | exact .here | assumption | (apply HAt.left; assumption) | apply HAt.there | apply HAt.right)) (by first | omega | (simp; done) | (simp; omega) | fail) (by first | exact Nat.sub_zero _ | rfl)) (by rw [hdml])) rfl ?_ | refine aqs rfl (castQ (r2 := .lit (.int .i64 (d.length : Nat))) (q_len Try.underlying90 .nil) (by rw [hdml])) rfl ?_ | refine aqs rfl (castQ (r2 := .lit (.int .i64 (d.length : Nat))) (q_len Try.underlying90 .cro) (by rw [hdml])) rfl ?_
      first | refine aqs rfl (q_add64 rfl rfl (by omega) (by omega)) rfl ?_ | refine aqs rfl (q_add rfl rfl) rfl ?_
      first | refine aqs rfl (e_callN cb84 (hk ▸ pick84_c _ _ wat.1 wat.2 (by omega) _) rfl rfl) rfl ?_ | refine aqs rfl (e_callN cb84 (ACall.arg (hk ▸ pick84_c _ _ wat.1 wat.2 (by omega) _) (by repeat (first | exact ArgL.nil | (apply ArgL.cons; (· first | exact .same | exact .cro | exact .nil))))) rfl rfl) rfl ?_
      refine aqs rfl (q_as (by constructor)) rfl ?_
      refine alist_nil ?_
      show AWP _ _ _ _
      refine awp_mid [(6, .lit (.bool true))] ?_ ?_
      · skip
        refine awp_region ?_
        all_goals (refine aqs rfl (q_mv (by constructor)) rfl ?_)
        all_goals (refine aqs rfl (q_mv (by constructor)) rfl ?_)
        all_goals (first | refine ans rfl rfl ?_ | refine aqs rfl (q_mv (by constructor)) rfl ?_)
        all_goals (first | refine ans rfl rfl ?_ | refine aqs rfl (castT (q_eql rfl rfl) (by rfl)) rfl ?_)
        all_goals (first | refine aqs rfl (q_pickT rfl (by constructor)) rfl ?_ | refine aqs rfl (q_pickF rfl (by constructor)) rfl ?_)
        all_goals (refine aqs rfl (q_mv (by constructor)) rfl ?_)
        all_goals (first | refine ans rfl rfl ?_ | refine aqs rfl (q_mv (by constructor)) rfl ?_)
        all_goals (first | refine ans rfl rfl ?_ | refine aqs rfl (q_mv (by constructor)) rfl ?_)
        all_goals (first | refine ans rfl rfl ?_ | refine aqs rfl (castT (q_beql rfl rfl Try.underlying4) (by simp)) rfl ?_)
        all_goals (first | refine aqs rfl (q_pickT rfl (by constructor)) rfl ?_ | refine aqs rfl (q_pickF rfl (by constructor)) rfl ?_)
        all_goals (refine aqs rfl (q_mv (by constructor)) rfl ?_)
        all_goals (first | refine ans rfl rfl ?_ | refine aqs rfl (q_mv (by constructor)) rfl ?_)
        all_goals (first | refine ans rfl rfl ?_ | refine aqs rfl (q_not rfl) rfl ?_)
        all_goals (first | refine ans rfl rfl ?_ | refine aqs rfl (q_mv (by constructor)) rfl ?_)
        all_goals try (refine acase (fun hb13 => ?_) (fun hb13 => ?_))
        all_goals first | (exfalso; cases hb13; done) | skip
        all_goals (first | refine ans rfl rfl ?_ | refine aqs rfl (q_mv (by constructor)) rfl ?_)
        all_goals (first | refine ans rfl rfl ?_ | refine aqs rfl (q_mv (by constructor)) rfl ?_)
        all_goals (first | refine ans rfl rfl ?_ | refine aqs rfl (castQ (r2 := .ro ((d.take k).map Call.cells)) (q_slR Try.underlying90 sz103 (.inl rfl) rfl (by first | (refine ⟨_, _, rfl, ?_⟩; with_reducible rfl) | exact bnd_int rfl (by omega)) (by first | omega | (simp; done) | (simp; omega) | fail) (by first | omega | (simp; done) | (simp; omega) | fail) (by first | rfl | assumption | (simp [*]; done) | fail)) (by rw [List.map_take]; rfl)) rfl ?_ | refine aqs rfl (castQ (r2 := .ro ((d.take k).map Call.cells)) (q_slO Try.underlying90 sz103 rfl (by repeat (first | exact .here | assumption | (apply HAt.left; assumption) | apply HAt.there | apply HAt.right)) rfl (by first | (refine ⟨_, _, rfl, ?_⟩; with_reducible rfl) | exact bnd_int rfl (by omega)) (by first | omega | (simp; done) | (simp; omega) | fail) (by first | omega | (simp; done) | (simp; omega) | fail) (by first | exact Nat.zero_add _ | rfl) (by first | exact Nat.zero_add _ | rfl)) (by rw [List.map_take]; rfl)) rfl ?_)
        all_goals (first | refine ans rfl rfl ?_ | refine aqs rfl (q_mv (by constructor)) rfl ?_)
        all_goals (first | refine ans rfl rfl ?_ | refine aqs rfl (castT (e_callN cb87 (legal87_c (d.take k) r (by rw [List.length_take]; omega) _) rfl rfl) (by exact legal_take (by simpa using hb13) k)) rfl ?_ | refine aqs rfl (castT (e_callN cb87 (ACall.arg (legal87_c (d.take k) r (by rw [List.length_take]; omega) _) (by repeat (first | exact ArgL.nil | (apply ArgL.cons; (· first | exact .same | exact .cro | exact .nil))))) rfl rfl) (by exact legal_take (by simpa using hb13) k)) rfl ?_)
        all_goals (first | refine ans rfl rfl ?_ | refine aqs rfl (q_pickT rfl (by constructor)) rfl ?_ | refine aqs rfl (q_pickF rfl (by constructor)) rfl ?_)
        all_goals (first | refine aqs rfl (q_pickT rfl (by constructor)) rfl ?_ | refine aqs rfl (q_pickF rfl (by constructor)) rfl ?_)
        all_goals (refine aqs rfl (q_mv (by constructor)) rfl ?_)
        all_goals (first | refine ans rfl rfl ?_ | refine aqs rfl (q_mv (by constructor)) rfl ?_)
        all_goals (first | refine ans rfl rfl ?_ | refine aqs rfl (castT (e_callN cb87 (legal87_c [] r (by simp) _) rfl rfl) (by exact legal_nil r)) rfl ?_ | refine aqs rfl (castT (e_callN cb87 (ACall.arg (legal87_c [] r (by simp) _) (by repeat (first | exact ArgL.nil | (apply ArgL.cons; (· first | exact .same | exact .cro | exact .nil))))) rfl rfl) (by exact legal_nil r)) rfl ?_)
        all_goals (first | refine aqs rfl (q_pickT rfl (by constructor)) rfl ?_ | refine aqs rfl (q_pickF rfl (by constructor)) rfl ?_)
        all_goals (refine aqs rfl (q_as (by constructor)) rfl ?_)
        all_goals (refine alist_nil ?_)
        all_goals (exact ⟨rfl, .mk' (by repeat (first | exact trivial | refine ⟨rfl, ?_⟩ | (refine ⟨?_, ?_⟩; (· first | (rw [hb13]; rfl) | fail)))) (by repeat (first | exact .refl _ | exact List.nil_sublist _ | exact List.sublist_append_left _ _ | apply List.Sublist.cons))⟩)
      refine awp_ret ?_
      repeat first | with_reducible refine then_ret ?_ | with_reducible refine blk_ret ?_
      apply retq (.inr rfl) (.cons (rok_t rfl) .nil)
      rotate_left
      · exact ⟨rfl, rfl⟩
      repeat (first | exact List.Sublist.refl _ | exact List.nil_sublist _ | exact List.sublist_append_left _ _ | apply List.Sublist.cons)
end Go.Proofs.YtdlinfekifnmkaaAm
