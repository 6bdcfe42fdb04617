/- The walk of FlightOne. Conditions: none. -/
import Derived.Test.YtdlinfekifnmkaaAmFlightAwake
set_option linter.unusedVariables false
set_option linter.unusedSimpArgs false
set_option maxRecDepth 20000
namespace Go.Proofs.YtdlinfekifnmkaaAm
open Go.Proofs
def stC (st : List Tri) : List AV := st.flatMap Tri.cells
theorem stC_app (A B : List Tri) : stC (A ++ B) = stC A ++ stC B := by simp [stC]
theorem stC_cons (x : Tri) (B : List Tri) : stC (x :: B) = [.lit (.int .i64 x.a), .lit (.int .i64 x.b), .lit (.int .i64 x.c)] ++ stC B := by simp [stC]
theorem stC_len (A : List Tri) : (stC A).length = 3 * A.length := by
  induction A with
  | nil => rfl
  | cons x A ih => rw [stC_cons, List.length_append, ih]; simp; omega
theorem st_split {st : List Tri} {w : Nat} (h : w < st.length) : ∃ A B, st = A ++ st.getD w ⟨0, 0, 0⟩ :: B ∧ A.length = w := by
  refine ⟨st.take w, st.drop (w + 1), ?_, by rw [List.length_take]; omega⟩
  rw [List.getD_eq_getElem?_getD, List.getElem?_eq_getElem h, Option.getD_some, ← List.drop_eq_getElem_cons h, List.take_append_drop]
theorem st_at {st : List Tri} {w : Nat} (h : w < st.length) : (stC st)[3 * w]? = some (.lit (.int .i64 (st.getD w ⟨0, 0, 0⟩).a)) ∧ (stC st)[3 * w + 1]? = some (.lit (.int .i64 (st.getD w ⟨0, 0, 0⟩).b)) ∧ (stC st)[3 * w + 2]? = some (.lit (.int .i64 (st.getD w ⟨0, 0, 0⟩).c)) := by
  obtain ⟨A, B, e, hA⟩ := st_split h
  generalize st.getD w ⟨0, 0, 0⟩ = x at e
  have hl : (stC A).length = 3 * w := by rw [stC_len, hA]
  subst e
  rw [stC_app, stC_cons]
  refine ⟨?_, ?_, ?_⟩
  · rw [List.getElem?_append_right (by omega), hl, Nat.sub_self]; rfl
  · rw [List.getElem?_append_right (by omega), hl, show 3 * w + 1 - 3 * w = 1 by omega]; rfl
  · rw [List.getElem?_append_right (by omega), hl, show 3 * w + 2 - 3 * w = 2 by omega]; rfl
theorem st_put3 {st : List Tri} {w : Nat} (h : w < st.length) (x y z : Int) : (stC st).take (3 * w) ++ [AV.lit (.int .i64 x), .lit (.int .i64 y), .lit (.int .i64 z)] ++ (stC st).drop (3 * w + [AV.lit (.int .i64 x), .lit (.int .i64 y), .lit (.int .i64 z)].length) = stC (st.set w ⟨x, y, z⟩) := by
  obtain ⟨A, B, e, hA⟩ := st_split h
  generalize st.getD w ⟨0, 0, 0⟩ = o at e
  have hl : (stC A).length = 3 * w := by rw [stC_len, hA]
  subst e
  rw [← hA, set_split, stC_app, stC_app, stC_cons, stC_cons, hA, List.take_left' hl, ← List.drop_drop, List.drop_left' hl]
  simp
theorem st_put1 {st : List Tri} {w : Nat} (h : w < st.length) (x : Int) : (stC st).take (3 * w) ++ [AV.lit (.int .i64 x)] ++ (stC st).drop (3 * w + [AV.lit (.int .i64 x)].length) = stC (st.set w ⟨x, (st.getD w ⟨0, 0, 0⟩).b, (st.getD w ⟨0, 0, 0⟩).c⟩) := by
  obtain ⟨A, B, e, hA⟩ := st_split h
  generalize st.getD w ⟨0, 0, 0⟩ = o at e
  have hl : (stC A).length = 3 * w := by rw [stC_len, hA]
  subst e
  rw [← hA, set_split, stC_app, stC_app, stC_cons, stC_cons, hA, List.take_left' hl, ← List.drop_drop, List.drop_left' hl]
  simp
def busyS (st : List Tri) (t : Int) (n : Nat) : Bool := (List.range n).any fun k : Nat => decide ((sat st k).a = 1) && decide ((sat st k).b = t)
theorem busy_next (st : List Tri) (t : Int) (n : Nat) : busyS st t (n + 1) = (busyS st t n || (decide ((sat st n).a = 1) && decide ((sat st n).b = t))) := by
  unfold busyS
  rw [List.range_succ, List.any_append]; simp
theorem busy_iff {st : List Tri} {t : Int} {b : Bool} (h : b = true ↔ ∀ k, 0 ≤ k → k ≤ 7 → ¬ ((sat st k).a = 1 ∧ (sat st k).b = t)) : (b == busyS st t 8) = false := by
  have e : busyS st t 8 = !b := by
    cases hb : b with
    | true =>
      have h2 := h.1 hb
      unfold busyS
      rw [Bool.not_true, List.any_eq_false]
      intro k hk
      have hk := List.mem_range.1 hk
      have := h2 k (by omega) (by omega)
      simpa using this
    | false =>
      unfold busyS
      rw [Bool.not_false, List.any_eq_true]
      refine Classical.byContradiction fun hn => ?_
      have : b = true := h.2 fun k h0 h7 hk => hn ⟨k.toNat, List.mem_range.2 (by omega), by
        rw [show ((k.toNat : Nat) : Int) = k by omega]
        simpa using hk⟩
      rw [hb] at this
      cases this
  rw [e]
  cases b <;> rfl
theorem many_le (st : List Tri) (b : Int) (n : Nat) : manyS st b n ≤ n := by
  unfold manyS
  have := List.length_filter_le (fun k : Nat => decide ((sat st k).a = 2) && decide ((sat st k).b = b)) (List.range n)
  rw [List.length_range] at this
  exact this
theorem fone_ok {f : List Fill} {st : List Tri} {n : Int} (h : FOne f st n) : FOk f := ⟨h.right, h.who⟩
set_option maxHeartbeats 32000000 in
theorem walkFlightOne (deeds : List Tri) (wd : (∀ y ∈ deeds, y.Wf) ∧ deeds.length ≤ 9223372036854775807) :
    QCall Try.prog 26 [.ro (deeds.map Tri.cells)] [] (.lit (.bool true)) := by
  refine acall_intro (n := 241) (rvs := [.tmp 2]) Try.func26 rfl rfl rfl (Nat.le_of_ble_eq_true rfl) ?_
  refine awp_seq ?_
  refine awp_region ?_
  refine aqs rfl (q_as (by constructor)) rfl ?_
  refine alist_nil ?_
  show AWP _ _ _ _
  refine awp_seq ?_
  refine awp_region ?_
  first | refine aqs rfl (e_callN cb91 (QCall.any _ awake91_c) rfl rfl) rfl ?_ | refine aqs rfl (e_callN cb91 (ACall.arg (QCall.any _ awake91_c) (by repeat (first | exact ArgL.nil | (apply ArgL.cons; (· first | exact .same | exact .cro | exact .nil))))) rfl rfl) rfl ?_
  refine aqs rfl (q_as (by constructor)) rfl ?_
  refine alist_nil ?_
  show AWP _ _ _ _
  refine awp_seq ?_
  refine awp_region ?_
  refine aqs rfl (q_as (by constructor)) rfl ?_
  refine alist_nil ?_
  show AWP _ _ _ _
  refine awp_nilro 4 rfl ?_
  show AWP _ _ _ _
  refine awp_seq ?_
  refine awp_region ?_
  (refine aes rfl (e_al (xs := [.lit (.int .i64 0), .lit (.int .i64 0), .lit (.int .i64 0), .lit (.int .i64 0), .lit (.int .i64 0), .lit (.int .i64 0), .lit (.int .i64 0), .lit (.int .i64 0), .lit (.int .i64 0), .lit (.int .i64 0), .lit (.int .i64 0), .lit (.int .i64 0), .lit (.int .i64 0), .lit (.int .i64 0), .lit (.int .i64 0), .lit (.int .i64 0), .lit (.int .i64 0), .lit (.int .i64 0), .lit (.int .i64 0), .lit (.int .i64 0), .lit (.int .i64 0), .lit (.int .i64 0), .lit (.int .i64 0), .lit (.int .i64 0)]) (k := 24) zr130 (.same _) rfl) rfl ?_; rintro _ _ ⟨u5, rfl, rfl⟩)
  refine alist_nil ?_
  show AWP _ _ _ _
  refine awp_seq ?_
  refine awp_seq ?_
  refine awp_region ?_
  refine aqs rfl (q_as (by constructor)) rfl ?_
  refine alist_nil ?_
  show AWP _ _ _ _
  refine awp_block ?_
  refine awp_loop_inv (fun x : Nat × List Fill × List Tri => ⟨[(6, .lit (.int .i64 x.1)), (4, .ro (x.2.1.map Fill.cells)), (5, .ptr u5 0 0), (3, .lit (.bool true)), (0, .ro (deeds.map Tri.cells))], 241, [(u5, .arr 130 24 [stC x.2.2])]⟩) (fun x => x.1 ≤ deeds.length ∧ x.1 ≤ 30 ∧ FOne x.2.1 x.2.2 x.1) (fun x => 30 - x.1) (0, [], List.replicate 8 ⟨0, 0, 0⟩) ?_ ?_ ?_
  ·exact ⟨Nat.zero_le _, Nat.zero_le _, fone0⟩
  ·exact .mk' (by repeat (first | exact trivial | refine ⟨rfl, ?_⟩)) (by repeat (first | exact .refl _ | apply List.Sublist.cons_cons | apply List.Sublist.cons))
  ·rintro ⟨i, f, st⟩ ⟨hi, hi3, hI⟩
   simp only at hi hi3 hI ⊢
   have hok := fone_ok hI
   have hfl := flen_fok hok
   refine awp_seq ?_
   refine awp_mid [(33, .lit (.bool (decide ((i : Int) < (deeds.map Tri.cells).length) && decide ((i : Int) < 30)))), (4, .ro (f.map Fill.cells)), (6, .lit (.int .i64 i)), (5, .ptr u5 0 0), (3, .lit (.bool true)), (0, .ro (deeds.map Tri.cells))] ?_ ?_
   ·skip
    refine awp_region ?_
    all_goals (refine aqs rfl (q_mv (by constructor)) rfl ?_)
    all_goals (refine aqs rfl (q_mv (by constructor)) rfl ?_)
    all_goals (first | refine aqs rfl (q_len Try.underlying64 .ro) rfl ?_ | refine aqs rfl (q_lenO Try.underlying64 rfl (by repeat (first | exact .here | assumption | (apply HAt.left; assumption) | apply HAt.there | apply HAt.right)) (by first | omega | (simp; done) | (simp; omega) | fail) (by first | exact Nat.sub_zero _ | rfl)) rfl ?_ | refine aqs rfl (q_len Try.underlying64 .nil) rfl ?_ | refine aqs rfl (q_len Try.underlying64 .cro) rfl ?_)
    all_goals (refine aqs rfl (q_lss rfl rfl) rfl ?_)
    all_goals (refine aqs rfl (q_mv (by constructor)) rfl ?_)
    all_goals try (refine acase (fun hb4 => ?_) (fun hb4 => ?_))
    all_goals first | (exfalso; cases hb4; done) | skip
    all_goals (first | refine ans rfl rfl ?_ | refine aqs rfl (q_mv (by constructor)) rfl ?_)
    all_goals (first | refine ans rfl rfl ?_ | refine aqs rfl (q_lss rfl rfl) rfl ?_)
    all_goals (first | refine aqs rfl (q_pickT rfl (by constructor)) rfl ?_ | refine aqs rfl (q_pickF rfl (by constructor)) rfl ?_)
    all_goals (refine alist_nil ?_)
    all_goals (exact ⟨rfl, .mk' (by repeat (first | exact trivial | refine ⟨rfl, ?_⟩ | (refine ⟨?_, ?_⟩; (· first | (rw [hb4]; rfl) | fail)))) (by repeat (first | exact .refl _ | exact List.nil_sublist _ | exact List.sublist_append_left _ _ | apply List.Sublist.cons))⟩)
   refine awp_cond rfl (fun hc0 => ?_) (fun hc0 => ?_)
   ·simp only [Bool.and_eq_true, decide_eq_true_eq, List.length_map] at hc0
    obtain ⟨x, hs, hsm⟩ := get_lt (l := deeds) (i := i) (by omega)
    have hs2 := get_map (f := Tri.cells) hs
    have hwx := wd.1 x hsm
    have p0 := pick_nonneg x.b 8 (by omega)
    have p1 := pick_lt x.b 8 (by omega)
    obtain ⟨w, hw, hw8⟩ : ∃ w : Nat, (w : Int) = pick x.b 8 ∧ w < 8 := ⟨(pick x.b 8).toNat, by omega, by omega⟩
    have hw07 : (0 : Int) ≤ (w : Int) ∧ (w : Int) ≤ 7 := by omega
    have q0 := pick_nonneg x.c 3 (by omega)
    have q1 := pick_lt x.c 3 (by omega)
    obtain ⟨t, ht, ht3⟩ : ∃ t : Int, t = pick x.c 3 ∧ (0 ≤ t ∧ t < 3) := ⟨_, rfl, by omega⟩
    have hll := hI.len
    have hsl : (stC st).length = 24 := by rw [stC_len, hll]
    obtain ⟨hg0, hg1, hg2⟩ : (stC st)[3 * w]? = some (.lit (.int .i64 (sat st w).a)) ∧ (stC st)[3 * w + 1]? = some (.lit (.int .i64 (sat st w).b)) ∧ (stC st)[3 * w + 2]? = some (.lit (.int .i64 (sat st w).c)) := st_at (by omega)
    refine awp_skip ?_
    show AWP _ _ _ _
    refine awp_seq ?_
    refine awp_block ?_
    refine awp_seq ?_
    refine awp_region ?_
    refine aqs rfl (q_mv (by constructor)) rfl ?_
    refine aqs rfl (q_mv (by constructor)) rfl ?_
    first | refine aqs rfl (q_iaN Try.underlying64 sz83 (.inl rfl) rfl (by omega) (by first | rfl | assumption | (simp [*]; done) | fail) (by first | rfl | assumption | (simp [*]; done) | fail) (by decide) (by first | ((repeat constructor); done) | exact .same _)) rfl ?_ | refine aqs rfl (q_iaS Try.underlying64 sz83 rfl (by repeat (first | exact .here | assumption | (apply HAt.left; assumption) | apply HAt.there | apply HAt.right)) rfl (by omega) (by omega) (by first | exact Nat.zero_add _ | rfl)) rfl ?_ | refine aqs rfl (q_iaN Try.underlying64 sz83 (.inr rfl) rfl (by omega) (by first | rfl | assumption | (simp [*]; done) | fail) (by first | rfl | assumption | (simp [*]; done) | fail) (by decide) (by first | ((repeat constructor); done) | exact .same _)) rfl ?_
    first | refine aqs rfl (q_iaA Try.underlying83 sz3 rfl rfl (by omega) (by omega) rfl) rfl ?_ | refine aqs rfl (q_iaI Try.underlying83 sz3 rfl rfl (by omega) (by omega) (by first | ((repeat constructor); done) | exact .same _)) rfl ?_
    first | refine aqs rfl (q_ldpN ag3 rfl (by repeat (first | exact .here | assumption | (apply HAt.left; assumption) | apply HAt.there | apply HAt.right)) (by first | rfl | assumption | (simp [*]; done) | fail) (by first | rfl | assumption | (simp [*]; done) | fail) (by constructor)) rfl ?_ | refine aqs rfl (q_ld1N ag3 rfl (by constructor)) rfl ?_
    first | refine aqs rfl (e_callN cb95 (hw ▸ pick95_c x.b 8 hwx.2.1.1 hwx.2.1.2 (by omega) _) rfl rfl) rfl ?_ | refine aqs rfl (e_callN cb95 (ACall.arg (hw ▸ pick95_c x.b 8 hwx.2.1.1 hwx.2.1.2 (by omega) _) (by repeat (first | exact ArgL.nil | (apply ArgL.cons; (· first | exact .same | exact .cro | exact .nil))))) rfl rfl) rfl ?_
    refine aqs rfl (q_as (by constructor)) rfl ?_
    refine alist_nil ?_
    show AWP _ _ _ _
    refine awp_seq ?_
    refine awp_region ?_
    refine aqs rfl (q_mv (by constructor)) rfl ?_
    refine aqs rfl (q_mv (by constructor)) rfl ?_
    first | refine aqs rfl (q_iaN Try.underlying64 sz83 (.inl rfl) rfl (by omega) (by first | rfl | assumption | (simp [*]; done) | fail) (by first | rfl | assumption | (simp [*]; done) | fail) (by decide) (by first | ((repeat constructor); done) | exact .same _)) rfl ?_ | refine aqs rfl (q_iaS Try.underlying64 sz83 rfl (by repeat (first | exact .here | assumption | (apply HAt.left; assumption) | apply HAt.there | apply HAt.right)) rfl (by omega) (by omega) (by first | exact Nat.zero_add _ | rfl)) rfl ?_ | refine aqs rfl (q_iaN Try.underlying64 sz83 (.inr rfl) rfl (by omega) (by first | rfl | assumption | (simp [*]; done) | fail) (by first | rfl | assumption | (simp [*]; done) | fail) (by decide) (by first | ((repeat constructor); done) | exact .same _)) rfl ?_
    first | refine aqs rfl (q_iaA Try.underlying83 sz3 rfl rfl (by omega) (by omega) rfl) rfl ?_ | refine aqs rfl (q_iaI Try.underlying83 sz3 rfl rfl (by omega) (by omega) (by first | ((repeat constructor); done) | exact .same _)) rfl ?_
    first | refine aqs rfl (q_ldpN ag3 rfl (by repeat (first | exact .here | assumption | (apply HAt.left; assumption) | apply HAt.there | apply HAt.right)) (by first | rfl | assumption | (simp [*]; done) | fail) (by first | rfl | assumption | (simp [*]; done) | fail) (by constructor)) rfl ?_ | refine aqs rfl (q_ld1N ag3 rfl (by constructor)) rfl ?_
    first | refine aqs rfl (e_callN cb95 (ht ▸ pick95_c x.c 3 hwx.2.2.1 hwx.2.2.2 (by omega) _) rfl rfl) rfl ?_ | refine aqs rfl (e_callN cb95 (ACall.arg (ht ▸ pick95_c x.c 3 hwx.2.2.1 hwx.2.2.2 (by omega) _) (by repeat (first | exact ArgL.nil | (apply ArgL.cons; (· first | exact .same | exact .cro | exact .nil))))) rfl rfl) rfl ?_
    refine aqs rfl (q_as (by constructor)) rfl ?_
    refine alist_nil ?_
    show AWP _ _ _ _
    refine awp_seq ?_
    refine awp_region ?_
    refine aqs rfl (q_mv (by constructor)) rfl ?_
    refine aqs rfl (q_mv (by constructor)) rfl ?_
    first | refine aqs rfl (q_iaN Try.underlying64 sz83 (.inl rfl) rfl (by omega) (by first | rfl | assumption | (simp [*]; done) | fail) (by first | rfl | assumption | (simp [*]; done) | fail) (by decide) (by first | ((repeat constructor); done) | exact .same _)) rfl ?_ | refine aqs rfl (q_iaS Try.underlying64 sz83 rfl (by repeat (first | exact .here | assumption | (apply HAt.left; assumption) | apply HAt.there | apply HAt.right)) rfl (by omega) (by omega) (by first | exact Nat.zero_add _ | rfl)) rfl ?_ | refine aqs rfl (q_iaN Try.underlying64 sz83 (.inr rfl) rfl (by omega) (by first | rfl | assumption | (simp [*]; done) | fail) (by first | rfl | assumption | (simp [*]; done) | fail) (by decide) (by first | ((repeat constructor); done) | exact .same _)) rfl ?_
    first | refine aqs rfl (q_iaA Try.underlying83 sz3 rfl rfl (by omega) (by omega) rfl) rfl ?_ | refine aqs rfl (q_iaI Try.underlying83 sz3 rfl rfl (by omega) (by omega) (by first | ((repeat constructor); done) | exact .same _)) rfl ?_
    first | refine aqs rfl (q_ldpN ag3 rfl (by repeat (first | exact .here | assumption | (apply HAt.left; assumption) | apply HAt.there | apply HAt.right)) (by first | rfl | assumption | (simp [*]; done) | fail) (by first | rfl | assumption | (simp [*]; done) | fail) (by constructor)) rfl ?_ | refine aqs rfl (q_ld1N ag3 rfl (by constructor)) rfl ?_
    first | refine aqs rfl (e_callN cb95 (pick95_c x.a 6 hwx.1.1 hwx.1.2 (by omega) _) rfl rfl) rfl ?_ | refine aqs rfl (e_callN cb95 (ACall.arg (pick95_c x.a 6 hwx.1.1 hwx.1.2 (by omega) _) (by repeat (first | exact ArgL.nil | (apply ArgL.cons; (· first | exact .same | exact .cro | exact .nil))))) rfl rfl) rfl ?_
    refine alist_nil ?_
    show AWP _ _ _ _
    refine awp_block ?_
    refine awp_seq ?_
    refine awp_region ?_
    refine aqs rfl (q_eql rfl rfl) rfl ?_
    refine aqs rfl (q_as (by constructor)) rfl ?_
    refine alist_nil ?_
    show AWP _ _ _ _
    refine awp_cond rfl (fun hc1 => ?_) (fun hc1 => ?_)
    ·obtain ⟨told, g, e, hd, hcs⟩ : ∃ told g e, doneS f w = (told, g, e) ∧ ((e = 10 ∧ ¬ (sat st w).a = 1) ∨ (e = 0 ∧ (sat st w).a = 1 ∧ told.length = manyS st (sat st w).b 8 ∧ (w : Int) ∉ told ∧ told.length ≤ 8 ∧
       (∀ v ∈ told, (0 ≤ v ∧ v ≤ 7) ∧ (sat st v).a = 2 ∧ (sat st v).b = (sat st w).b ∧ 0 ≤ (sat st v).c) ∧ told.Pairwise (fun a b => (sat st a).c < (sat st b).c) ∧
       FOne g ((offAll st told).set (w : Int).toNat (offOf (sat (offAll st told) w))) ((i : Int) + 1))) := by
      rcases one_done hI hw07 with ⟨h1, h2⟩ | ⟨h1, told, g, h2, h3⟩
      ·exact ⟨_, _, _, h2, .inl ⟨rfl, h1⟩⟩
      ·exact ⟨_, _, _, h2, .inr ⟨rfl, h1, h3⟩⟩
     refine awp_seq ?_
     refine awp_region ?_
     refine aqs rfl (q_mv (by constructor)) rfl ?_
     refine aqs rfl (q_mv (by constructor)) rfl ?_
     first | refine aqs rfl (e_callN cb100 (hd ▸ done100_c f hfl w _) rfl rfl) rfl ?_ | refine aqs rfl (e_callN cb100 (ACall.arg (hd ▸ done100_c f hfl w _) (by repeat (first | exact ArgL.nil | (apply ArgL.cons; (· first | exact .same | exact .cro | exact .nil))))) rfl rfl) rfl ?_
     refine aqs rfl (q_mv (by constructor)) rfl ?_
     refine aqs rfl (q_ex rfl rfl (by constructor)) rfl ?_
     refine aqs rfl (q_ex rfl rfl (by constructor)) rfl ?_
     refine aqs rfl (q_ex rfl rfl (by constructor)) rfl ?_
     refine aqs rfl (q_as (by constructor)) rfl ?_
     refine aqs rfl (q_as (by constructor)) rfl ?_
     refine aqs rfl (q_as (by constructor)) rfl ?_
     refine alist_nil ?_
     show AWP _ _ _ _
     refine awp_seq ?_
     refine awp_seq ?_
     refine awp_region ?_
     refine aqs rfl (q_mv (by constructor)) rfl ?_
     refine aqs rfl (q_eql rfl rfl) rfl ?_
     refine aqs rfl (q_mv (by constructor)) rfl ?_
     first | refine aqs rfl (castQ (r2 := .ptr u5 0 (3 * w)) (q_iaA Try.underlying130 sz83 rfl rfl (by omega) (by omega) rfl) (by (rw [AV.ptr.injEq]; exact ⟨rfl, rfl, by simp; try omega⟩))) rfl ?_ | refine aqs rfl (castQ (r2 := .ptr u5 0 (3 * w)) (q_iaI Try.underlying130 sz83 rfl rfl (by omega) (by omega) (by first | ((repeat constructor); done) | exact .same _)) (by (rw [AV.ptr.injEq]; exact ⟨rfl, rfl, by simp; try omega⟩))) rfl ?_
     first | refine aqs rfl (castQ (r2 := .ptr u5 0 (3 * w)) (q_iaA Try.underlying83 sz3 rfl rfl (by omega) (by omega) rfl) (by (rw [AV.ptr.injEq]; exact ⟨rfl, rfl, by simp; try omega⟩))) rfl ?_ | refine aqs rfl (castQ (r2 := .ptr u5 0 (3 * w)) (q_iaI Try.underlying83 sz3 rfl rfl (by omega) (by omega) (by first | ((repeat constructor); done) | exact .same _)) (by (rw [AV.ptr.injEq]; exact ⟨rfl, rfl, by simp; try omega⟩))) rfl ?_
     first | refine aqs rfl (q_ldpN ag3 rfl (by repeat (first | exact .here | assumption | (apply HAt.left; assumption) | apply HAt.there | apply HAt.right)) (by first | rfl | assumption | (simp [*]; done) | fail) (by first | rfl | assumption | (simp [*]; done) | fail) (by constructor)) rfl ?_ | refine aqs rfl (q_ld1N ag3 rfl (by constructor)) rfl ?_
     refine aqs rfl (q_eql rfl rfl) rfl ?_
     refine aqs rfl (castF (q_bneq rfl rfl Try.underlying4) (by (rcases hcs with ⟨h1, h2⟩ | ⟨h1, h2, _⟩ <;> simp [h1, h2]))) rfl ?_
     refine alist_nil ?_
     show AWP _ _ _ _
     refine awp_cond rfl (fun hc2 => ?_) (fun hc2 => ?_)
     ·exfalso; first | (simp at hc2; done) | (simp at hc2; omega) | contradiction
     ·try simp only [decide_eq_true_eq, decide_eq_false_iff_not, Bool.not_eq_true', Bool.not_eq_false', Bool.not_eq_eq_eq_not, Bool.not_true, Bool.not_false, beq_iff_eq, beq_eq_false_iff_ne, Int.not_lt, Int.not_le] at hc2
      refine awp_skip ?_
      show AWP _ _ _ _
      refine awp_seq ?_
      refine awp_seq ?_
      refine awp_region ?_
      refine aqs rfl (q_mv (by constructor)) rfl ?_
      refine aqs rfl (q_neq rfl rfl) rfl ?_
      refine alist_nil ?_
      show AWP _ _ _ _
      refine awp_cond rfl (fun hc3 => ?_) (fun hc3 => ?_)
      ·have he : ¬ e = 0 := by simpa using hc3
       refine awp_exit ?_
       show AWP _ _ _ _
       refine awp_region ?_
       refine aqs rfl (q_mv (by constructor)) rfl ?_
       first | refine aqs rfl (q_add64 rfl rfl (by omega) (by omega)) rfl ?_ | refine aqs rfl (q_add rfl rfl) rfl ?_
       refine aqs rfl (q_as (by constructor)) rfl ?_
       refine alist_nil ?_
       show ∃ y, _ ∧ _ ∧ _
       first
        | exact ⟨(i + 1, g, _), ⟨by show i + 1 ≤ deeds.length; omega, by show i + 1 ≤ 30; omega, hI2⟩, by show 30 - (i + 1) < 30 - i; omega, .mk' ⟨by rfl, rfl, rfl, rfl, rfl, trivial⟩ (by repeat (first | exact List.Sublist.refl _ | exact List.nil_sublist _ | exact List.sublist_append_left _ _ | (apply List.Sublist.cons_cons) | (apply List.Sublist.cons)))⟩
        | exact ⟨(i + 1, f, st), ⟨by show i + 1 ≤ deeds.length; omega, by show i + 1 ≤ 30; omega, hI.next⟩, by show 30 - (i + 1) < 30 - i; omega, .mk' ⟨by rfl, rfl, rfl, rfl, rfl, trivial⟩ (by repeat (first | exact List.Sublist.refl _ | exact List.nil_sublist _ | exact List.sublist_append_left _ _ | (apply List.Sublist.cons_cons) | (apply List.Sublist.cons)))⟩
      ·have he : e = 0 := by simpa using hc3
       obtain ⟨_, ha1, hmany, hwn, htl8, hin, hpw, hI2⟩ := hcs.resolve_left (fun h => by omega)
       have htm : (told.map cI).length = told.length := List.length_map ..
       refine awp_skip ?_
       show AWP _ _ _ _
       refine awp_seq ?_
       refine awp_region ?_
       refine aqs rfl (q_mv (by constructor)) rfl ?_
       refine aqs rfl (q_as (by constructor)) rfl ?_
       refine alist_nil ?_
       show AWP _ _ _ _
       refine awp_seq ?_
       refine awp_region ?_
       refine aqs rfl (q_as (by constructor)) rfl ?_
       refine alist_nil ?_
       show AWP _ _ _ _
       refine awp_seq ?_
       refine awp_region ?_
       refine aqs rfl (q_as (by constructor)) rfl ?_
       refine alist_nil ?_
       show AWP _ _ _ _
       refine awp_seq ?_
       refine awp_seq ?_
       refine awp_region ?_
       refine aqs rfl (q_as (by constructor)) rfl ?_
       refine alist_nil ?_
       show AWP _ _ _ _
       refine awp_block ?_
       refine awp_loop_inv (fun k : Nat => ⟨[(14, .lit (.int .i64 k)), (13, .lit (.int .i64 (manyS st (sat st w).b k : Nat))), (12, .lit (.int .i64 (-1))), (9, .ro (told.map cI)), (7, .lit (.int .i64 w)), (4, .ro (g.map Fill.cells)), (6, .lit (.int .i64 i)), (5, .ptr u5 0 0), (3, .lit (.bool true)), (0, .ro (deeds.map Tri.cells))], 241, [(u5, .arr 130 24 [stC st])]⟩) (fun k => k ≤ 8) (fun k => 8 - k) 0 ?_ ?_ ?_
       ·exact Nat.zero_le _
       ·exact .mk' (by repeat (first | exact trivial | refine ⟨rfl, ?_⟩)) (by repeat (first | exact .refl _ | apply List.Sublist.cons_cons | apply List.Sublist.cons))
       ·intro k hk
        have hml := many_le st (sat st w).b k
        refine awp_seq ?_
        refine awp_seq ?_
        refine awp_region ?_
        refine aqs rfl (q_mv (by constructor)) rfl ?_
        refine aqs rfl (q_lss rfl rfl) rfl ?_
        refine alist_nil ?_
        show AWP _ _ _ _
        refine awp_cond rfl (fun hc4 => ?_) (fun hc4 => ?_)
        ·simp only [decide_eq_true_eq] at hc4
         have hk8 : k < 8 := by omega
         obtain ⟨hk0, hk1, hk2⟩ : (stC st)[3 * k]? = some (.lit (.int .i64 (sat st k).a)) ∧ (stC st)[3 * k + 1]? = some (.lit (.int .i64 (sat st k).b)) ∧ (stC st)[3 * k + 2]? = some (.lit (.int .i64 (sat st k).c)) := st_at (by omega)
         have hnx := many_next st (sat st w).b k
         refine awp_skip ?_
         show AWP _ _ _ _
         refine awp_seq ?_
         refine awp_block ?_
         refine awp_mid [(146, .lit (.bool (decide ((sat st k).a = 2) && decide ((sat st k).b = (sat st w).b)))), (14, .lit (.int .i64 k)), (13, .lit (.int .i64 (manyS st (sat st w).b k : Nat))), (12, .lit (.int .i64 (-1))), (9, .ro (told.map cI)), (7, .lit (.int .i64 w)), (4, .ro (g.map Fill.cells)), (6, .lit (.int .i64 i)), (5, .ptr u5 0 0), (3, .lit (.bool true)), (0, .ro (deeds.map Tri.cells))] ?_ ?_
         ·skip
          refine awp_draw 16 [(0, false), (1, false), (2, false), (3, false), (4, false), (5, false), (6, false), (7, false), (8, false), (9, false), (10, false), (11, false), (12, false), (13, false), (14, false), (15, false)] _ ([]) mixed (by kernel_rfl) (perm0 _) ?_
          all_goals (refine glq rfl (.inl ⟨rfl, q_mv (by constructor)⟩) rfl ?_)
          all_goals (first | refine glq rfl (.inl ⟨rfl, castQ (r2 := .ptr u5 0 (3 * k)) (q_iaA Try.underlying130 sz83 rfl rfl (by omega) (by omega) rfl) (by (rw [AV.ptr.injEq]; exact ⟨rfl, rfl, by simp; try omega⟩))⟩) rfl ?_ | refine glq rfl (.inl ⟨rfl, castQ (r2 := .ptr u5 0 (3 * k)) (q_iaI Try.underlying130 sz83 rfl rfl (by omega) (by omega) (by first | ((repeat constructor); done) | exact .same _)) (by (rw [AV.ptr.injEq]; exact ⟨rfl, rfl, by simp; try omega⟩))⟩) rfl ?_)
          all_goals (first | refine glq rfl (.inl ⟨rfl, castQ (r2 := .ptr u5 0 (3 * k)) (q_iaA Try.underlying83 sz3 rfl rfl (by omega) (by omega) rfl) (by (rw [AV.ptr.injEq]; exact ⟨rfl, rfl, by simp; try omega⟩))⟩) rfl ?_ | refine glq rfl (.inl ⟨rfl, castQ (r2 := .ptr u5 0 (3 * k)) (q_iaI Try.underlying83 sz3 rfl rfl (by omega) (by omega) (by first | ((repeat constructor); done) | exact .same _)) (by (rw [AV.ptr.injEq]; exact ⟨rfl, rfl, by simp; try omega⟩))⟩) rfl ?_)
          all_goals (first | refine glq rfl (.inl ⟨rfl, q_ldpN ag3 rfl (by repeat (first | exact .here | assumption | (apply HAt.left; assumption) | apply HAt.there | apply HAt.right)) (by first | rfl | assumption | (simp [*]; done) | fail) (by first | rfl | assumption | (simp [*]; done) | fail) (by constructor)⟩) rfl ?_ | refine glq rfl (.inl ⟨rfl, q_ld1N ag3 rfl (by constructor)⟩) rfl ?_)
          all_goals (refine glq rfl (.inl ⟨rfl, q_eql rfl rfl⟩) rfl ?_)
          all_goals (refine glq rfl (.inl ⟨rfl, q_mv (by constructor)⟩) rfl ?_)
          all_goals try (refine gcase (fun hb5 => ?_) (fun hb5 => ?_))
          all_goals first | (exfalso; cases hb5; done) | skip
          all_goals (first | refine glq rfl (.inl ⟨rfl, q_mv (by constructor)⟩) rfl ?_ | refine glq rfl (.inr ⟨rfl, rfl⟩) rfl ?_)
          all_goals (first | refine glq rfl (.inl ⟨rfl, castQ (r2 := .ptr u5 0 (3 * k)) (q_iaA Try.underlying130 sz83 rfl rfl (by omega) (by omega) rfl) (by (rw [AV.ptr.injEq]; exact ⟨rfl, rfl, by simp; try omega⟩))⟩) rfl ?_ | refine glq rfl (.inl ⟨rfl, castQ (r2 := .ptr u5 0 (3 * k)) (q_iaI Try.underlying130 sz83 rfl rfl (by omega) (by omega) (by first | ((repeat constructor); done) | exact .same _)) (by (rw [AV.ptr.injEq]; exact ⟨rfl, rfl, by simp; try omega⟩))⟩) rfl ?_ | refine glq rfl (.inr ⟨rfl, rfl⟩) rfl ?_)
          all_goals (first | refine glq rfl (.inl ⟨rfl, castQ (r2 := .ptr u5 0 (3 * k + 1)) (q_iaA Try.underlying83 sz3 rfl rfl (by omega) (by omega) rfl) (by (rw [AV.ptr.injEq]; exact ⟨rfl, rfl, by simp; try omega⟩))⟩) rfl ?_ | refine glq rfl (.inl ⟨rfl, castQ (r2 := .ptr u5 0 (3 * k + 1)) (q_iaI Try.underlying83 sz3 rfl rfl (by omega) (by omega) (by first | ((repeat constructor); done) | exact .same _)) (by (rw [AV.ptr.injEq]; exact ⟨rfl, rfl, by simp; try omega⟩))⟩) rfl ?_ | refine glq rfl (.inr ⟨rfl, rfl⟩) rfl ?_)
          all_goals (first | refine glq rfl (.inl ⟨rfl, q_ldpN ag3 rfl (by repeat (first | exact .here | assumption | (apply HAt.left; assumption) | apply HAt.there | apply HAt.right)) (by first | rfl | assumption | (simp [*]; done) | fail) (by first | rfl | assumption | (simp [*]; done) | fail) (by constructor)⟩) rfl ?_ | refine glq rfl (.inl ⟨rfl, q_ld1N ag3 rfl (by constructor)⟩) rfl ?_ | refine glq rfl (.inr ⟨rfl, rfl⟩) rfl ?_)
          all_goals (first | refine glq rfl (.inl ⟨rfl, q_mv (by constructor)⟩) rfl ?_ | refine glq rfl (.inr ⟨rfl, rfl⟩) rfl ?_)
          all_goals (first | refine glq rfl (.inl ⟨rfl, castQ (r2 := .ptr u5 0 (3 * w)) (q_iaA Try.underlying130 sz83 rfl rfl (by omega) (by omega) rfl) (by (rw [AV.ptr.injEq]; exact ⟨rfl, rfl, by simp; try omega⟩))⟩) rfl ?_ | refine glq rfl (.inl ⟨rfl, castQ (r2 := .ptr u5 0 (3 * w)) (q_iaI Try.underlying130 sz83 rfl rfl (by omega) (by omega) (by first | ((repeat constructor); done) | exact .same _)) (by (rw [AV.ptr.injEq]; exact ⟨rfl, rfl, by simp; try omega⟩))⟩) rfl ?_ | refine glq rfl (.inr ⟨rfl, rfl⟩) rfl ?_)
          all_goals (first | refine glq rfl (.inl ⟨rfl, castQ (r2 := .ptr u5 0 (3 * w + 1)) (q_iaA Try.underlying83 sz3 rfl rfl (by omega) (by omega) rfl) (by (rw [AV.ptr.injEq]; exact ⟨rfl, rfl, by simp; try omega⟩))⟩) rfl ?_ | refine glq rfl (.inl ⟨rfl, castQ (r2 := .ptr u5 0 (3 * w + 1)) (q_iaI Try.underlying83 sz3 rfl rfl (by omega) (by omega) (by first | ((repeat constructor); done) | exact .same _)) (by (rw [AV.ptr.injEq]; exact ⟨rfl, rfl, by simp; try omega⟩))⟩) rfl ?_ | refine glq rfl (.inr ⟨rfl, rfl⟩) rfl ?_)
          all_goals (first | refine glq rfl (.inl ⟨rfl, q_ldpN ag3 rfl (by repeat (first | exact .here | assumption | (apply HAt.left; assumption) | apply HAt.there | apply HAt.right)) (by first | rfl | assumption | (simp [*]; done) | fail) (by first | rfl | assumption | (simp [*]; done) | fail) (by constructor)⟩) rfl ?_ | refine glq rfl (.inl ⟨rfl, q_ld1N ag3 rfl (by constructor)⟩) rfl ?_ | refine glq rfl (.inr ⟨rfl, rfl⟩) rfl ?_)
          all_goals (first | refine glq rfl (.inl ⟨rfl, q_eql rfl rfl⟩) rfl ?_ | refine glq rfl (.inr ⟨rfl, rfl⟩) rfl ?_)
          all_goals (first | refine glq rfl (.inl ⟨rfl, q_pickT rfl (by constructor)⟩) rfl ?_ | refine glq rfl (.inl ⟨rfl, q_pickF rfl (by constructor)⟩) rfl ?_)
          all_goals (first | refine gld0 ?_ | refine gldA ?_)
          all_goals (refine alist_nil ?_)
          all_goals (exact ⟨rfl, .mk' (by repeat (first | exact trivial | refine ⟨rfl, ?_⟩ | (refine ⟨?_, ?_⟩; (· first | (rw [hb5]; rfl) | fail)))) (by repeat (first | exact .refl _ | exact List.nil_sublist _ | exact List.sublist_append_left _ _ | apply List.Sublist.cons))⟩)
         refine awp_cond rfl (fun hc5 => ?_) (fun hc5 => ?_)
         ·have hp : (sat st k).a = 2 ∧ (sat st k).b = (sat st w).b := by simpa using hc5
          rw [if_pos hp] at hnx
          refine awp_region ?_
          refine aqs rfl (q_mv (by constructor)) rfl ?_
          first | refine aqs rfl (q_add64 rfl rfl (by omega) (by omega)) rfl ?_ | refine aqs rfl (q_add rfl rfl) rfl ?_
          refine aqs rfl (q_as (by constructor)) rfl ?_
          refine alist_nil ?_
          show AWP _ _ _ _
          refine awp_region ?_
          refine aqs rfl (q_mv (by constructor)) rfl ?_
          first | refine aqs rfl (q_add64 rfl rfl (by omega) (by omega)) rfl ?_ | refine aqs rfl (q_add rfl rfl) rfl ?_
          refine aqs rfl (q_as (by constructor)) rfl ?_
          refine alist_nil ?_
          show ∃ y, _ ∧ _ ∧ _
          exact ⟨k + 1, by omega, by omega, by simp only [hnx]; exact .mk' ⟨by rfl, by rfl, rfl, rfl, rfl, rfl, rfl, rfl, rfl, rfl, trivial⟩ (by repeat (first | exact List.Sublist.refl _ | exact List.nil_sublist _ | exact List.sublist_append_left _ _ | (apply List.Sublist.cons_cons) | (apply List.Sublist.cons)))⟩
         ·have hp : ¬ ((sat st k).a = 2 ∧ (sat st k).b = (sat st w).b) := by simpa using hc5
          rw [if_neg hp] at hnx
          refine awp_skip ?_
          show AWP _ _ _ _
          refine awp_region ?_
          refine aqs rfl (q_mv (by constructor)) rfl ?_
          first | refine aqs rfl (q_add64 rfl rfl (by omega) (by omega)) rfl ?_ | refine aqs rfl (q_add rfl rfl) rfl ?_
          refine aqs rfl (q_as (by constructor)) rfl ?_
          refine alist_nil ?_
          show ∃ y, _ ∧ _ ∧ _
          exact ⟨k + 1, by omega, by omega, by simp only [hnx]; exact .mk' ⟨by rfl, by rfl, rfl, rfl, rfl, rfl, rfl, rfl, rfl, rfl, trivial⟩ (by repeat (first | exact List.Sublist.refl _ | exact List.nil_sublist _ | exact List.sublist_append_left _ _ | (apply List.Sublist.cons_cons) | (apply List.Sublist.cons)))⟩
        ·simp only [decide_eq_false_iff_not] at hc4
         obtain rfl : k = 8 := by omega
         refine awp_exit ?_
         show AWP _ _ _ _
         refine awp_seq ?_
         refine awp_seq ?_
         refine awp_region ?_
         refine aqs rfl (q_mv (by constructor)) rfl ?_
         first | refine aqs rfl (q_len Try.underlying25 .ro) rfl ?_ | refine aqs rfl (q_lenO Try.underlying25 rfl (by repeat (first | exact .here | assumption | (apply HAt.left; assumption) | apply HAt.there | apply HAt.right)) (by first | omega | (simp; done) | (simp; omega) | fail) (by first | exact Nat.sub_zero _ | rfl)) rfl ?_ | refine aqs rfl (q_len Try.underlying25 .nil) rfl ?_ | refine aqs rfl (q_len Try.underlying25 .cro) rfl ?_
         refine aqs rfl (q_mv (by constructor)) rfl ?_
         refine aqs rfl (castF (q_neq rfl rfl) (by (rw [← hmany]; simp))) rfl ?_
         refine alist_nil ?_
         show AWP _ _ _ _
         refine awp_cond rfl (fun hc6 => ?_) (fun hc6 => ?_)
         ·exfalso; first | (simp at hc6; done) | (simp at hc6; omega) | contradiction
         ·try simp only [decide_eq_true_eq, decide_eq_false_iff_not, Bool.not_eq_true', Bool.not_eq_false', Bool.not_eq_eq_eq_not, Bool.not_true, Bool.not_false, beq_iff_eq, beq_eq_false_iff_ne, Int.not_lt, Int.not_le] at hc6
          refine awp_skip ?_
          show AWP _ _ _ _
          refine awp_seq ?_
          refine awp_seq ?_
          refine awp_region ?_
          refine aqs rfl (q_as (by constructor)) rfl ?_
          refine alist_nil ?_
          show AWP _ _ _ _
          refine awp_block ?_
          refine awp_loop_inv (fun y : Nat × Int => ⟨[(15, .lit (.int .i64 y.1)), (12, .lit (.int .i64 y.2)), (9, .ro (told.map cI)), (7, .lit (.int .i64 w)), (4, .ro (g.map Fill.cells)), (6, .lit (.int .i64 i)), (5, .ptr u5 0 0), (3, .lit (.bool true)), (0, .ro (deeds.map Tri.cells))], 241, [(u5, .arr 130 24 [stC st])]⟩) (fun y => y.1 ≤ told.length ∧ ∀ (m : Nat) (v : Int), y.1 ≤ m → told[m]? = some v → y.2 < (sat st v).c) (fun y => told.length - y.1) (0, -1) ?_ ?_ ?_
          ·exact ⟨Nat.zero_le _, fun m v _ hv => by have := (hin v (List.mem_of_getElem? hv)).2.2.2; show (-1 : Int) < _; omega⟩
          ·exact .mk' (by repeat (first | exact trivial | refine ⟨rfl, ?_⟩)) (by repeat (first | exact .refl _ | apply List.Sublist.cons_cons | apply List.Sublist.cons))
          ·rintro ⟨j, last⟩ ⟨hj, hlast⟩
           simp only at hj hlast ⊢
           refine awp_seq ?_
           refine awp_seq ?_
           refine awp_region ?_
           refine aqs rfl (q_mv (by constructor)) rfl ?_
           refine aqs rfl (q_mv (by constructor)) rfl ?_
           first | refine aqs rfl (q_len Try.underlying25 .ro) rfl ?_ | refine aqs rfl (q_lenO Try.underlying25 rfl (by repeat (first | exact .here | assumption | (apply HAt.left; assumption) | apply HAt.there | apply HAt.right)) (by first | omega | (simp; done) | (simp; omega) | fail) (by first | exact Nat.sub_zero _ | rfl)) rfl ?_ | refine aqs rfl (q_len Try.underlying25 .nil) rfl ?_ | refine aqs rfl (q_len Try.underlying25 .cro) rfl ?_
           refine aqs rfl (q_lss rfl rfl) rfl ?_
           refine alist_nil ?_
           show AWP _ _ _ _
           refine awp_cond rfl (fun hc7 => ?_) (fun hc7 => ?_)
           ·simp only [decide_eq_true_eq, List.length_map] at hc7
            obtain ⟨v, hv, hvm⟩ := get_lt (l := told) (i := j) (by omega)
            have hv2 := get_map (f := cI) hv
            obtain ⟨⟨hv0, hv7⟩, hva, hvb, hvc⟩ := hin v hvm
            have hlv := hlast j v (Nat.le_refl _) hv
            obtain ⟨hk0, hk1, hk2⟩ : (stC st)[3 * v.toNat]? = some (.lit (.int .i64 (sat st v).a)) ∧ (stC st)[3 * v.toNat + 1]? = some (.lit (.int .i64 (sat st v).b)) ∧ (stC st)[3 * v.toNat + 2]? = some (.lit (.int .i64 (sat st v).c)) := st_at (by omega)
            have hnl : ∀ (m : Nat) (z : Int), j + 1 ≤ m → told[m]? = some z → (sat st v).c < (sat st z).c := fun m z hm hz => by
             have hml := (List.getElem?_eq_some_iff.1 hz).1
             have h1 := (List.getElem?_eq_some_iff.1 hv)
             have h2 := (List.getElem?_eq_some_iff.1 hz)
             have := List.pairwise_iff_getElem.1 hpw j m h1.1 h2.1 (by omega)
             rw [h1.2, h2.2] at this
             exact this
            refine awp_skip ?_
            show AWP _ _ _ _
            refine awp_seq ?_
            refine awp_block ?_
            refine awp_seq ?_
            refine awp_region ?_
            refine aqs rfl (q_mv (by constructor)) rfl ?_
            refine aqs rfl (q_mv (by constructor)) rfl ?_
            first | refine aqs rfl (q_iaN Try.underlying25 sz3 (.inl rfl) rfl (by omega) (by first | rfl | assumption | (simp [*]; done) | fail) (by first | rfl | assumption | (simp [*]; done) | fail) (by decide) (by first | ((repeat constructor); done) | exact .same _)) rfl ?_ | refine aqs rfl (q_iaS Try.underlying25 sz3 rfl (by repeat (first | exact .here | assumption | (apply HAt.left; assumption) | apply HAt.there | apply HAt.right)) rfl (by omega) (by omega) (by first | exact Nat.zero_add _ | rfl)) rfl ?_ | refine aqs rfl (q_iaN Try.underlying25 sz3 (.inr rfl) rfl (by omega) (by first | rfl | assumption | (simp [*]; done) | fail) (by first | rfl | assumption | (simp [*]; done) | fail) (by decide) (by first | ((repeat constructor); done) | exact .same _)) rfl ?_
            first | refine aqs rfl (q_ldpN ag3 rfl (by repeat (first | exact .here | assumption | (apply HAt.left; assumption) | apply HAt.there | apply HAt.right)) (by first | rfl | assumption | (simp [*]; done) | fail) (by first | rfl | assumption | (simp [*]; done) | fail) (by constructor)) rfl ?_ | refine aqs rfl (q_ld1N ag3 rfl (by constructor)) rfl ?_
            refine aqs rfl (q_as (by constructor)) rfl ?_
            refine alist_nil ?_
            show AWP _ _ _ _
            refine awp_seq ?_
            refine awp_seq ?_
            refine awp_draw 32 [(0, false), (1, false), (2, false), (3, false), (4, false), (5, false), (6, false), (7, false), (8, false), (9, false), (10, false), (11, false), (12, false), (13, false), (14, false), (15, false), (16, false), (17, false), (18, false), (19, false), (20, false), (21, false), (22, false), (23, false), (24, false), (25, false), (26, false), (27, false), (28, false), (29, false), (30, false), (31, false)] _ ([]) mixed (by kernel_rfl) (perm0 _) ?_
            refine glq rfl (.inl ⟨rfl, q_mv (by constructor)⟩) rfl ?_
            refine glq rfl (.inl ⟨rfl, castF (q_lss rfl rfl) (by exact decide_eq_false (by omega))⟩) rfl ?_
            refine glq rfl (.inl ⟨rfl, q_mv (by constructor)⟩) rfl ?_
            first | refine glq rfl (.inl ⟨rfl, q_mv (by constructor)⟩) rfl ?_ | refine glq rfl (.inr ⟨rfl, rfl⟩) rfl ?_
            refine glq rfl (.inl ⟨rfl, castF (q_gtr rfl rfl) (by exact decide_eq_false (by omega))⟩) rfl ?_
            first | refine glq rfl (.inl ⟨rfl, q_pickT rfl (by constructor)⟩) rfl ?_ | refine glq rfl (.inl ⟨rfl, q_pickF rfl (by constructor)⟩) rfl ?_
            refine glq rfl (.inl ⟨rfl, q_mv (by constructor)⟩) rfl ?_
            first | refine glq rfl (.inl ⟨rfl, q_mv (by constructor)⟩) rfl ?_ | refine glq rfl (.inr ⟨rfl, rfl⟩) rfl ?_
            first | refine glq rfl (.inl ⟨rfl, castQ (r2 := .ptr u5 0 (3 * v.toNat)) (q_iaA Try.underlying130 sz83 rfl rfl (by omega) (by omega) rfl) (by (rw [AV.ptr.injEq]; exact ⟨rfl, rfl, by simp; try omega⟩))⟩) rfl ?_ | refine glq rfl (.inl ⟨rfl, castQ (r2 := .ptr u5 0 (3 * v.toNat)) (q_iaI Try.underlying130 sz83 rfl rfl (by omega) (by omega) (by first | ((repeat constructor); done) | exact .same _)) (by (rw [AV.ptr.injEq]; exact ⟨rfl, rfl, by simp; try omega⟩))⟩) rfl ?_
            first | refine glq rfl (.inl ⟨rfl, castQ (r2 := .ptr u5 0 (3 * v.toNat)) (q_iaA Try.underlying83 sz3 rfl rfl (by omega) (by omega) rfl) (by (rw [AV.ptr.injEq]; exact ⟨rfl, rfl, by simp; try omega⟩))⟩) rfl ?_ | refine glq rfl (.inl ⟨rfl, castQ (r2 := .ptr u5 0 (3 * v.toNat)) (q_iaI Try.underlying83 sz3 rfl rfl (by omega) (by omega) (by first | ((repeat constructor); done) | exact .same _)) (by (rw [AV.ptr.injEq]; exact ⟨rfl, rfl, by simp; try omega⟩))⟩) rfl ?_
            first | refine glq rfl (.inl ⟨rfl, q_ldpN ag3 rfl (by repeat (first | exact .here | assumption | (apply HAt.left; assumption) | apply HAt.there | apply HAt.right)) (by first | rfl | assumption | (simp [*]; done) | fail) (by first | rfl | assumption | (simp [*]; done) | fail) (by constructor)⟩) rfl ?_ | refine glq rfl (.inl ⟨rfl, q_ld1N ag3 rfl (by constructor)⟩) rfl ?_ | refine glq rfl (.inr ⟨rfl, rfl⟩) rfl ?_
            refine glq rfl (.inl ⟨rfl, castF (q_neq rfl rfl) (by rw [hva]; simp)⟩) rfl ?_
            first | refine glq rfl (.inl ⟨rfl, q_pickT rfl (by constructor)⟩) rfl ?_ | refine glq rfl (.inl ⟨rfl, q_pickF rfl (by constructor)⟩) rfl ?_
            refine glq rfl (.inl ⟨rfl, q_mv (by constructor)⟩) rfl ?_
            first | refine glq rfl (.inl ⟨rfl, q_mv (by constructor)⟩) rfl ?_ | refine glq rfl (.inr ⟨rfl, rfl⟩) rfl ?_
            first | refine glq rfl (.inl ⟨rfl, castQ (r2 := .ptr u5 0 (3 * v.toNat)) (q_iaA Try.underlying130 sz83 rfl rfl (by omega) (by omega) rfl) (by (rw [AV.ptr.injEq]; exact ⟨rfl, rfl, by simp; try omega⟩))⟩) rfl ?_ | refine glq rfl (.inl ⟨rfl, castQ (r2 := .ptr u5 0 (3 * v.toNat)) (q_iaI Try.underlying130 sz83 rfl rfl (by omega) (by omega) (by first | ((repeat constructor); done) | exact .same _)) (by (rw [AV.ptr.injEq]; exact ⟨rfl, rfl, by simp; try omega⟩))⟩) rfl ?_
            first | refine glq rfl (.inl ⟨rfl, castQ (r2 := .ptr u5 0 (3 * v.toNat + 1)) (q_iaA Try.underlying83 sz3 rfl rfl (by omega) (by omega) rfl) (by (rw [AV.ptr.injEq]; exact ⟨rfl, rfl, by simp; try omega⟩))⟩) rfl ?_ | refine glq rfl (.inl ⟨rfl, castQ (r2 := .ptr u5 0 (3 * v.toNat + 1)) (q_iaI Try.underlying83 sz3 rfl rfl (by omega) (by omega) (by first | ((repeat constructor); done) | exact .same _)) (by (rw [AV.ptr.injEq]; exact ⟨rfl, rfl, by simp; try omega⟩))⟩) rfl ?_
            first | refine glq rfl (.inl ⟨rfl, q_ldpN ag3 rfl (by repeat (first | exact .here | assumption | (apply HAt.left; assumption) | apply HAt.there | apply HAt.right)) (by first | rfl | assumption | (simp [*]; done) | fail) (by first | rfl | assumption | (simp [*]; done) | fail) (by constructor)⟩) rfl ?_ | refine glq rfl (.inl ⟨rfl, q_ld1N ag3 rfl (by constructor)⟩) rfl ?_ | refine glq rfl (.inr ⟨rfl, rfl⟩) rfl ?_
            first | refine glq rfl (.inl ⟨rfl, q_mv (by constructor)⟩) rfl ?_ | refine glq rfl (.inr ⟨rfl, rfl⟩) rfl ?_
            first | refine glq rfl (.inl ⟨rfl, castQ (r2 := .ptr u5 0 (3 * w)) (q_iaA Try.underlying130 sz83 rfl rfl (by omega) (by omega) rfl) (by (rw [AV.ptr.injEq]; exact ⟨rfl, rfl, by simp; try omega⟩))⟩) rfl ?_ | refine glq rfl (.inl ⟨rfl, castQ (r2 := .ptr u5 0 (3 * w)) (q_iaI Try.underlying130 sz83 rfl rfl (by omega) (by omega) (by first | ((repeat constructor); done) | exact .same _)) (by (rw [AV.ptr.injEq]; exact ⟨rfl, rfl, by simp; try omega⟩))⟩) rfl ?_
            first | refine glq rfl (.inl ⟨rfl, castQ (r2 := .ptr u5 0 (3 * w + 1)) (q_iaA Try.underlying83 sz3 rfl rfl (by omega) (by omega) rfl) (by (rw [AV.ptr.injEq]; exact ⟨rfl, rfl, by simp; try omega⟩))⟩) rfl ?_ | refine glq rfl (.inl ⟨rfl, castQ (r2 := .ptr u5 0 (3 * w + 1)) (q_iaI Try.underlying83 sz3 rfl rfl (by omega) (by omega) (by first | ((repeat constructor); done) | exact .same _)) (by (rw [AV.ptr.injEq]; exact ⟨rfl, rfl, by simp; try omega⟩))⟩) rfl ?_
            first | refine glq rfl (.inl ⟨rfl, q_ldpN ag3 rfl (by repeat (first | exact .here | assumption | (apply HAt.left; assumption) | apply HAt.there | apply HAt.right)) (by first | rfl | assumption | (simp [*]; done) | fail) (by first | rfl | assumption | (simp [*]; done) | fail) (by constructor)⟩) rfl ?_ | refine glq rfl (.inl ⟨rfl, q_ld1N ag3 rfl (by constructor)⟩) rfl ?_ | refine glq rfl (.inr ⟨rfl, rfl⟩) rfl ?_
            refine glq rfl (.inl ⟨rfl, castF (q_neq rfl rfl) (by rw [hvb]; simp)⟩) rfl ?_
            first | refine glq rfl (.inl ⟨rfl, q_pickT rfl (by constructor)⟩) rfl ?_ | refine glq rfl (.inl ⟨rfl, q_pickF rfl (by constructor)⟩) rfl ?_
            refine glq rfl (.inl ⟨rfl, q_mv (by constructor)⟩) rfl ?_
            first | refine glq rfl (.inl ⟨rfl, q_mv (by constructor)⟩) rfl ?_ | refine glq rfl (.inr ⟨rfl, rfl⟩) rfl ?_
            first | refine glq rfl (.inl ⟨rfl, castQ (r2 := .ptr u5 0 (3 * v.toNat)) (q_iaA Try.underlying130 sz83 rfl rfl (by omega) (by omega) rfl) (by (rw [AV.ptr.injEq]; exact ⟨rfl, rfl, by simp; try omega⟩))⟩) rfl ?_ | refine glq rfl (.inl ⟨rfl, castQ (r2 := .ptr u5 0 (3 * v.toNat)) (q_iaI Try.underlying130 sz83 rfl rfl (by omega) (by omega) (by first | ((repeat constructor); done) | exact .same _)) (by (rw [AV.ptr.injEq]; exact ⟨rfl, rfl, by simp; try omega⟩))⟩) rfl ?_
            first | refine glq rfl (.inl ⟨rfl, castQ (r2 := .ptr u5 0 (3 * v.toNat + 2)) (q_iaA Try.underlying83 sz3 rfl rfl (by omega) (by omega) rfl) (by (rw [AV.ptr.injEq]; exact ⟨rfl, rfl, by simp; try omega⟩))⟩) rfl ?_ | refine glq rfl (.inl ⟨rfl, castQ (r2 := .ptr u5 0 (3 * v.toNat + 2)) (q_iaI Try.underlying83 sz3 rfl rfl (by omega) (by omega) (by first | ((repeat constructor); done) | exact .same _)) (by (rw [AV.ptr.injEq]; exact ⟨rfl, rfl, by simp; try omega⟩))⟩) rfl ?_
            first | refine glq rfl (.inl ⟨rfl, q_ldpN ag3 rfl (by repeat (first | exact .here | assumption | (apply HAt.left; assumption) | apply HAt.there | apply HAt.right)) (by first | rfl | assumption | (simp [*]; done) | fail) (by first | rfl | assumption | (simp [*]; done) | fail) (by constructor)⟩) rfl ?_ | refine glq rfl (.inl ⟨rfl, q_ld1N ag3 rfl (by constructor)⟩) rfl ?_ | refine glq rfl (.inr ⟨rfl, rfl⟩) rfl ?_
            first | refine glq rfl (.inl ⟨rfl, q_mv (by constructor)⟩) rfl ?_ | refine glq rfl (.inr ⟨rfl, rfl⟩) rfl ?_
            refine glq rfl (.inl ⟨rfl, castF (q_leq rfl rfl) (by exact decide_eq_false (by omega))⟩) rfl ?_
            first | refine glq rfl (.inl ⟨rfl, q_pickT rfl (by constructor)⟩) rfl ?_ | refine glq rfl (.inl ⟨rfl, q_pickF rfl (by constructor)⟩) rfl ?_
            (first | refine gld0 ?_ | refine gldA ?_)
            refine alist_nil ?_
            show AWP _ _ _ _
            refine awp_cond rfl (fun hc8 => ?_) (fun hc8 => ?_)
            ·exfalso; first | (simp at hc8; done) | (simp at hc8; omega) | contradiction
            ·try simp only [decide_eq_true_eq, decide_eq_false_iff_not, Bool.not_eq_true', Bool.not_eq_false', Bool.not_eq_eq_eq_not, Bool.not_true, Bool.not_false, beq_iff_eq, beq_eq_false_iff_ne, Int.not_lt, Int.not_le] at hc8
             refine awp_skip ?_
             show AWP _ _ _ _
             refine awp_region ?_
             refine aqs rfl (q_mv (by constructor)) rfl ?_
             first | refine aqs rfl (castQ (r2 := .ptr u5 0 (3 * v.toNat)) (q_iaA Try.underlying130 sz83 rfl rfl (by omega) (by omega) rfl) (by (rw [AV.ptr.injEq]; exact ⟨rfl, rfl, by simp; try omega⟩))) rfl ?_ | refine aqs rfl (castQ (r2 := .ptr u5 0 (3 * v.toNat)) (q_iaI Try.underlying130 sz83 rfl rfl (by omega) (by omega) (by first | ((repeat constructor); done) | exact .same _)) (by (rw [AV.ptr.injEq]; exact ⟨rfl, rfl, by simp; try omega⟩))) rfl ?_
             first | refine aqs rfl (castQ (r2 := .ptr u5 0 (3 * v.toNat + 2)) (q_iaA Try.underlying83 sz3 rfl rfl (by omega) (by omega) rfl) (by (rw [AV.ptr.injEq]; exact ⟨rfl, rfl, by simp; try omega⟩))) rfl ?_ | refine aqs rfl (castQ (r2 := .ptr u5 0 (3 * v.toNat + 2)) (q_iaI Try.underlying83 sz3 rfl rfl (by omega) (by omega) (by first | ((repeat constructor); done) | exact .same _)) (by (rw [AV.ptr.injEq]; exact ⟨rfl, rfl, by simp; try omega⟩))) rfl ?_
             first | refine aqs rfl (q_ldpN ag3 rfl (by repeat (first | exact .here | assumption | (apply HAt.left; assumption) | apply HAt.there | apply HAt.right)) (by first | rfl | assumption | (simp [*]; done) | fail) (by first | rfl | assumption | (simp [*]; done) | fail) (by constructor)) rfl ?_ | refine aqs rfl (q_ld1N ag3 rfl (by constructor)) rfl ?_
             refine aqs rfl (q_as (by constructor)) rfl ?_
             refine alist_nil ?_
             show AWP _ _ _ _
             refine awp_region ?_
             refine aqs rfl (q_mv (by constructor)) rfl ?_
             first | refine aqs rfl (q_add64 rfl rfl (by omega) (by omega)) rfl ?_ | refine aqs rfl (q_add rfl rfl) rfl ?_
             refine aqs rfl (q_as (by constructor)) rfl ?_
             refine alist_nil ?_
             show ∃ y, _ ∧ _ ∧ _
             exact ⟨(j + 1, (sat st v).c), ⟨by show j + 1 ≤ told.length; omega, hnl⟩, by show told.length - (j + 1) < told.length - j; omega, .mk' ⟨by rfl, rfl, rfl, rfl, rfl, rfl, rfl, rfl, rfl, trivial⟩ (by repeat (first | exact List.Sublist.refl _ | exact List.nil_sublist _ | exact List.sublist_append_left _ _ | (apply List.Sublist.cons_cons) | (apply List.Sublist.cons)))⟩
           ·skip
            refine awp_exit ?_
            show AWP _ _ _ _
            refine awp_seq ?_
            refine awp_seq ?_
            refine awp_region ?_
            refine aqs rfl (q_as (by constructor)) rfl ?_
            refine alist_nil ?_
            show AWP _ _ _ _
            refine awp_block ?_
            refine awp_loop_inv (fun j : Nat => ⟨[(17, .lit (.int .i64 j)), (9, .ro (told.map cI)), (7, .lit (.int .i64 w)), (4, .ro (g.map Fill.cells)), (6, .lit (.int .i64 i)), (5, .ptr u5 0 0), (3, .lit (.bool true)), (0, .ro (deeds.map Tri.cells))], 241, [(u5, .arr 130 24 [stC (offAll st (told.take j))])]⟩) (fun j => j ≤ told.length) (fun j => told.length - j) 0 ?_ ?_ ?_
            ·exact Nat.zero_le _
            ·exact .mk' (by repeat (first | exact trivial | refine ⟨rfl, ?_⟩)) (by repeat (first | exact .refl _ | apply List.Sublist.cons_cons | apply List.Sublist.cons))
            ·intro j hj
             obtain ⟨s2, hs3⟩ : ∃ s2, s2 = offAll st (told.take j) := ⟨_, rfl⟩
             have hs2l : s2.length = 8 := by rw [hs3, off_len, hll]
             have hsl2 : (stC s2).length = 24 := by rw [stC_len, hs2l]
             rw [← hs3]
             refine awp_seq ?_
             refine awp_seq ?_
             refine awp_region ?_
             refine aqs rfl (q_mv (by constructor)) rfl ?_
             refine aqs rfl (q_mv (by constructor)) rfl ?_
             first | refine aqs rfl (q_len Try.underlying25 .ro) rfl ?_ | refine aqs rfl (q_lenO Try.underlying25 rfl (by repeat (first | exact .here | assumption | (apply HAt.left; assumption) | apply HAt.there | apply HAt.right)) (by first | omega | (simp; done) | (simp; omega) | fail) (by first | exact Nat.sub_zero _ | rfl)) rfl ?_ | refine aqs rfl (q_len Try.underlying25 .nil) rfl ?_ | refine aqs rfl (q_len Try.underlying25 .cro) rfl ?_
             refine aqs rfl (q_lss rfl rfl) rfl ?_
             refine alist_nil ?_
             show AWP _ _ _ _
             refine awp_cond rfl (fun hc9 => ?_) (fun hc9 => ?_)
             ·simp only [decide_eq_true_eq, List.length_map] at hc9
              obtain ⟨v, hv, hvm⟩ := get_lt (l := told) (i := j) (by omega)
              have hv2 := get_map (f := cI) hv
              obtain ⟨⟨hv0, hv7⟩, hva, hvb, hvc⟩ := hin v hvm
              have hput := st_put1 (st := s2) (w := v.toNat) (by omega) 0
              have hnx : offAll st (told.take (j + 1)) = s2.set v.toNat (offOf (sat s2 v)) := by rw [take_next hv, off_next, ← hs3]
              have hput : (stC s2).take (3 * v.toNat) ++ [AV.lit (.int .i64 0)] ++ (stC s2).drop (3 * v.toNat + [AV.lit (.int .i64 0)].length) = stC (offAll st (told.take (j + 1))) := by rw [hnx]; exact hput
              refine awp_skip ?_
              show AWP _ _ _ _
              refine awp_seq ?_
              refine awp_block ?_
              refine awp_region ?_
              refine aqs rfl (q_mv (by constructor)) rfl ?_
              refine aqs rfl (q_mv (by constructor)) rfl ?_
              first | refine aqs rfl (q_iaN Try.underlying25 sz3 (.inl rfl) rfl (by omega) (by first | rfl | assumption | (simp [*]; done) | fail) (by first | rfl | assumption | (simp [*]; done) | fail) (by decide) (by first | ((repeat constructor); done) | exact .same _)) rfl ?_ | refine aqs rfl (q_iaS Try.underlying25 sz3 rfl (by repeat (first | exact .here | assumption | (apply HAt.left; assumption) | apply HAt.there | apply HAt.right)) rfl (by omega) (by omega) (by first | exact Nat.zero_add _ | rfl)) rfl ?_ | refine aqs rfl (q_iaN Try.underlying25 sz3 (.inr rfl) rfl (by omega) (by first | rfl | assumption | (simp [*]; done) | fail) (by first | rfl | assumption | (simp [*]; done) | fail) (by decide) (by first | ((repeat constructor); done) | exact .same _)) rfl ?_
              first | refine aqs rfl (q_ldpN ag3 rfl (by repeat (first | exact .here | assumption | (apply HAt.left; assumption) | apply HAt.there | apply HAt.right)) (by first | rfl | assumption | (simp [*]; done) | fail) (by first | rfl | assumption | (simp [*]; done) | fail) (by constructor)) rfl ?_ | refine aqs rfl (q_ld1N ag3 rfl (by constructor)) rfl ?_
              first | refine aqs rfl (castQ (r2 := .ptr u5 0 (3 * v.toNat)) (q_iaA Try.underlying130 sz83 rfl rfl (by omega) (by omega) rfl) (by (rw [AV.ptr.injEq]; exact ⟨rfl, rfl, by simp; try omega⟩))) rfl ?_ | refine aqs rfl (castQ (r2 := .ptr u5 0 (3 * v.toNat)) (q_iaI Try.underlying130 sz83 rfl rfl (by omega) (by omega) (by first | ((repeat constructor); done) | exact .same _)) (by (rw [AV.ptr.injEq]; exact ⟨rfl, rfl, by simp; try omega⟩))) rfl ?_
              first | refine aqs rfl (castQ (r2 := .ptr u5 0 (3 * v.toNat)) (q_iaA Try.underlying83 sz3 rfl rfl (by omega) (by omega) rfl) (by (rw [AV.ptr.injEq]; exact ⟨rfl, rfl, by simp; try omega⟩))) rfl ?_ | refine aqs rfl (castQ (r2 := .ptr u5 0 (3 * v.toNat)) (q_iaI Try.underlying83 sz3 rfl rfl (by omega) (by omega) (by first | ((repeat constructor); done) | exact .same _)) (by (rw [AV.ptr.injEq]; exact ⟨rfl, rfl, by simp; try omega⟩))) rfl ?_
              first | (refine aen rfl (e_stW sz3 rfl (by repeat (first | exact .here | assumption | (apply HAt.left; assumption) | apply HAt.there | apply HAt.right)) (by constructor) (by first | rfl | assumption | (simp [*]; done) | fail) rfl (by repeat (first | exact .here | apply HSet.there))) ?_; rintro _ _ ⟨rfl, rfl⟩) | (refine aen rfl (e_stP sz3 rfl (by repeat (first | exact .here | assumption | (apply HAt.left; assumption) | apply HAt.there | apply HAt.right)) (by first | rfl | assumption | (simp [*]; done) | fail) (by constructor) (by first | rfl | assumption | (simp [*]; done) | fail) rfl (by first | decide | omega) (by first | ((repeat constructor); done) | exact .same _) (by first | exact .one | exact .set) (by repeat (first | exact .here | apply HSet.there))) ?_; rintro _ _ ⟨rfl, rfl⟩)
              refine alist_nil ?_
              show AWP _ _ _ _
              rw [hput]
              show AWP _ _ _ _
              refine awp_region ?_
              refine aqs rfl (q_mv (by constructor)) rfl ?_
              first | refine aqs rfl (q_add64 rfl rfl (by omega) (by omega)) rfl ?_ | refine aqs rfl (q_add rfl rfl) rfl ?_
              refine aqs rfl (q_as (by constructor)) rfl ?_
              refine alist_nil ?_
              show ∃ y, _ ∧ _ ∧ _
              exact ⟨j + 1, by omega, by omega, .mk' ⟨by rfl, rfl, rfl, rfl, rfl, rfl, rfl, rfl, trivial⟩ (by repeat (first | exact List.Sublist.refl _ | exact List.nil_sublist _ | exact List.sublist_append_left _ _ | (apply List.Sublist.cons_cons) | (apply List.Sublist.cons)))⟩
             ·simp only [decide_eq_false_iff_not, List.length_map] at hc9
              have hjt : told.take j = told := List.take_of_length_le (by omega)
              rw [hjt] at hs3
              have hput : (stC s2).take (3 * w) ++ [AV.lit (.int .i64 0)] ++ (stC s2).drop (3 * w + [AV.lit (.int .i64 0)].length) = stC ((offAll st told).set (w : Int).toNat (offOf (sat (offAll st told) w))) := by rw [← hs3]; exact st_put1 (st := s2) (w := w) (by omega) 0
              refine awp_exit ?_
              show AWP _ _ _ _
              refine awp_region ?_
              refine aqs rfl (q_mv (by constructor)) rfl ?_
              first | refine aqs rfl (castQ (r2 := .ptr u5 0 (3 * w)) (q_iaA Try.underlying130 sz83 rfl rfl (by omega) (by omega) rfl) (by (rw [AV.ptr.injEq]; exact ⟨rfl, rfl, by simp; try omega⟩))) rfl ?_ | refine aqs rfl (castQ (r2 := .ptr u5 0 (3 * w)) (q_iaI Try.underlying130 sz83 rfl rfl (by omega) (by omega) (by first | ((repeat constructor); done) | exact .same _)) (by (rw [AV.ptr.injEq]; exact ⟨rfl, rfl, by simp; try omega⟩))) rfl ?_
              first | refine aqs rfl (castQ (r2 := .ptr u5 0 (3 * w)) (q_iaA Try.underlying83 sz3 rfl rfl (by omega) (by omega) rfl) (by (rw [AV.ptr.injEq]; exact ⟨rfl, rfl, by simp; try omega⟩))) rfl ?_ | refine aqs rfl (castQ (r2 := .ptr u5 0 (3 * w)) (q_iaI Try.underlying83 sz3 rfl rfl (by omega) (by omega) (by first | ((repeat constructor); done) | exact .same _)) (by (rw [AV.ptr.injEq]; exact ⟨rfl, rfl, by simp; try omega⟩))) rfl ?_
              first | (refine aen rfl (e_stW sz3 rfl (by repeat (first | exact .here | assumption | (apply HAt.left; assumption) | apply HAt.there | apply HAt.right)) (by constructor) (by first | rfl | assumption | (simp [*]; done) | fail) rfl (by repeat (first | exact .here | apply HSet.there))) ?_; rintro _ _ ⟨rfl, rfl⟩) | (refine aen rfl (e_stP sz3 rfl (by repeat (first | exact .here | assumption | (apply HAt.left; assumption) | apply HAt.there | apply HAt.right)) (by first | rfl | assumption | (simp [*]; done) | fail) (by constructor) (by first | rfl | assumption | (simp [*]; done) | fail) rfl (by first | decide | omega) (by first | ((repeat constructor); done) | exact .same _) (by first | exact .one | exact .set) (by repeat (first | exact .here | apply HSet.there))) ?_; rintro _ _ ⟨rfl, rfl⟩)
              refine alist_nil ?_
              show AWP _ _ _ _
              rw [hput]
              show AWP _ _ _ _
              refine awp_region ?_
              refine aqs rfl (q_mv (by constructor)) rfl ?_
              first | refine aqs rfl (q_add64 rfl rfl (by omega) (by omega)) rfl ?_ | refine aqs rfl (q_add rfl rfl) rfl ?_
              refine aqs rfl (q_as (by constructor)) rfl ?_
              refine alist_nil ?_
              show ∃ y, _ ∧ _ ∧ _
              first
               | exact ⟨(i + 1, g, _), ⟨by show i + 1 ≤ deeds.length; omega, by show i + 1 ≤ 30; omega, hI2⟩, by show 30 - (i + 1) < 30 - i; omega, .mk' ⟨by rfl, rfl, rfl, rfl, rfl, trivial⟩ (by repeat (first | exact List.Sublist.refl _ | exact List.nil_sublist _ | exact List.sublist_append_left _ _ | (apply List.Sublist.cons_cons) | (apply List.Sublist.cons)))⟩
               | exact ⟨(i + 1, f, st), ⟨by show i + 1 ≤ deeds.length; omega, by show i + 1 ≤ 30; omega, hI.next⟩, by show 30 - (i + 1) < 30 - i; omega, .mk' ⟨by rfl, rfl, rfl, rfl, rfl, trivial⟩ (by repeat (first | exact List.Sublist.refl _ | exact List.nil_sublist _ | exact List.sublist_append_left _ _ | (apply List.Sublist.cons_cons) | (apply List.Sublist.cons)))⟩
    ·skip
     refine awp_seq ?_
     refine awp_region ?_
     refine aqs rfl (q_eql rfl rfl) rfl ?_
     refine aqs rfl (q_as (by constructor)) rfl ?_
     refine alist_nil ?_
     show AWP _ _ _ _
     refine awp_cond rfl (fun hc10 => ?_) (fun hc10 => ?_)
     ·obtain ⟨g, e, hd, hcs⟩ : ∃ g e, leaveS f w = (g, e) ∧ ((e = 10 ∧ ¬ (sat st w).a = 2) ∨ (e = 0 ∧ (sat st w).a = 2 ∧ FOne g (st.set (w : Int).toNat (offOf (sat st w))) ((i : Int) + 1))) := by
       rcases one_leave hI hw07 with ⟨h1, h2⟩ | ⟨h1, g, h2, h3⟩
       ·exact ⟨_, _, h2, .inl ⟨rfl, h1⟩⟩
       ·exact ⟨_, _, h2, .inr ⟨rfl, h1, h3⟩⟩
      refine awp_seq ?_
      refine awp_region ?_
      refine aqs rfl (q_mv (by constructor)) rfl ?_
      refine aqs rfl (q_mv (by constructor)) rfl ?_
      first | refine aqs rfl (e_callN cb102 (hd ▸ leave102_c f hfl w _) rfl rfl) rfl ?_ | refine aqs rfl (e_callN cb102 (ACall.arg (hd ▸ leave102_c f hfl w _) (by repeat (first | exact ArgL.nil | (apply ArgL.cons; (· first | exact .same | exact .cro | exact .nil))))) rfl rfl) rfl ?_
      refine aqs rfl (q_mv (by constructor)) rfl ?_
      refine aqs rfl (q_ex rfl rfl (by constructor)) rfl ?_
      refine aqs rfl (q_ex rfl rfl (by constructor)) rfl ?_
      refine aqs rfl (q_as (by constructor)) rfl ?_
      refine aqs rfl (q_as (by constructor)) rfl ?_
      refine alist_nil ?_
      show AWP _ _ _ _
      refine awp_seq ?_
      refine awp_seq ?_
      refine awp_region ?_
      refine aqs rfl (q_mv (by constructor)) rfl ?_
      refine aqs rfl (q_eql rfl rfl) rfl ?_
      refine aqs rfl (q_mv (by constructor)) rfl ?_
      first | refine aqs rfl (castQ (r2 := .ptr u5 0 (3 * w)) (q_iaA Try.underlying130 sz83 rfl rfl (by omega) (by omega) rfl) (by (rw [AV.ptr.injEq]; exact ⟨rfl, rfl, by simp; try omega⟩))) rfl ?_ | refine aqs rfl (castQ (r2 := .ptr u5 0 (3 * w)) (q_iaI Try.underlying130 sz83 rfl rfl (by omega) (by omega) (by first | ((repeat constructor); done) | exact .same _)) (by (rw [AV.ptr.injEq]; exact ⟨rfl, rfl, by simp; try omega⟩))) rfl ?_
      first | refine aqs rfl (castQ (r2 := .ptr u5 0 (3 * w)) (q_iaA Try.underlying83 sz3 rfl rfl (by omega) (by omega) rfl) (by (rw [AV.ptr.injEq]; exact ⟨rfl, rfl, by simp; try omega⟩))) rfl ?_ | refine aqs rfl (castQ (r2 := .ptr u5 0 (3 * w)) (q_iaI Try.underlying83 sz3 rfl rfl (by omega) (by omega) (by first | ((repeat constructor); done) | exact .same _)) (by (rw [AV.ptr.injEq]; exact ⟨rfl, rfl, by simp; try omega⟩))) rfl ?_
      first | refine aqs rfl (q_ldpN ag3 rfl (by repeat (first | exact .here | assumption | (apply HAt.left; assumption) | apply HAt.there | apply HAt.right)) (by first | rfl | assumption | (simp [*]; done) | fail) (by first | rfl | assumption | (simp [*]; done) | fail) (by constructor)) rfl ?_ | refine aqs rfl (q_ld1N ag3 rfl (by constructor)) rfl ?_
      refine aqs rfl (q_eql rfl rfl) rfl ?_
      refine aqs rfl (castF (q_bneq rfl rfl Try.underlying4) (by (rcases hcs with ⟨h1, h2⟩ | ⟨h1, h2, _⟩ <;> simp [h1, h2]))) rfl ?_
      refine alist_nil ?_
      show AWP _ _ _ _
      refine awp_cond rfl (fun hc11 => ?_) (fun hc11 => ?_)
      ·exfalso; first | (simp at hc11; done) | (simp at hc11; omega) | contradiction
      ·try simp only [decide_eq_true_eq, decide_eq_false_iff_not, Bool.not_eq_true', Bool.not_eq_false', Bool.not_eq_eq_eq_not, Bool.not_true, Bool.not_false, beq_iff_eq, beq_eq_false_iff_ne, Int.not_lt, Int.not_le] at hc11
       refine awp_skip ?_
       show AWP _ _ _ _
       refine awp_seq ?_
       refine awp_region ?_
       refine aqs rfl (q_mv (by constructor)) rfl ?_
       refine aqs rfl (q_eql rfl rfl) rfl ?_
       refine alist_nil ?_
       show AWP _ _ _ _
       refine awp_cond rfl (fun hc12 => ?_) (fun hc12 => ?_)
       ·have he : e = 0 := by simpa using hc12
        obtain ⟨_, ha1, hI2⟩ := hcs.resolve_left (fun h => by omega)
        have hput : (stC st).take (3 * w) ++ [AV.lit (.int .i64 0)] ++ (stC st).drop (3 * w + [AV.lit (.int .i64 0)].length) = stC (st.set (w : Int).toNat (offOf (sat st w))) := st_put1 (st := st) (w := w) (by omega) 0
        refine awp_seq ?_
        refine awp_region ?_
        refine aqs rfl (q_mv (by constructor)) rfl ?_
        refine aqs rfl (q_as (by constructor)) rfl ?_
        refine alist_nil ?_
        show AWP _ _ _ _
        refine awp_region ?_
        refine aqs rfl (q_mv (by constructor)) rfl ?_
        first | refine aqs rfl (castQ (r2 := .ptr u5 0 (3 * w)) (q_iaA Try.underlying130 sz83 rfl rfl (by omega) (by omega) rfl) (by (rw [AV.ptr.injEq]; exact ⟨rfl, rfl, by simp; try omega⟩))) rfl ?_ | refine aqs rfl (castQ (r2 := .ptr u5 0 (3 * w)) (q_iaI Try.underlying130 sz83 rfl rfl (by omega) (by omega) (by first | ((repeat constructor); done) | exact .same _)) (by (rw [AV.ptr.injEq]; exact ⟨rfl, rfl, by simp; try omega⟩))) rfl ?_
        first | refine aqs rfl (castQ (r2 := .ptr u5 0 (3 * w)) (q_iaA Try.underlying83 sz3 rfl rfl (by omega) (by omega) rfl) (by (rw [AV.ptr.injEq]; exact ⟨rfl, rfl, by simp; try omega⟩))) rfl ?_ | refine aqs rfl (castQ (r2 := .ptr u5 0 (3 * w)) (q_iaI Try.underlying83 sz3 rfl rfl (by omega) (by omega) (by first | ((repeat constructor); done) | exact .same _)) (by (rw [AV.ptr.injEq]; exact ⟨rfl, rfl, by simp; try omega⟩))) rfl ?_
        first | (refine aen rfl (e_stW sz3 rfl (by repeat (first | exact .here | assumption | (apply HAt.left; assumption) | apply HAt.there | apply HAt.right)) (by constructor) (by first | rfl | assumption | (simp [*]; done) | fail) rfl (by repeat (first | exact .here | apply HSet.there))) ?_; rintro _ _ ⟨rfl, rfl⟩) | (refine aen rfl (e_stP sz3 rfl (by repeat (first | exact .here | assumption | (apply HAt.left; assumption) | apply HAt.there | apply HAt.right)) (by first | rfl | assumption | (simp [*]; done) | fail) (by constructor) (by first | rfl | assumption | (simp [*]; done) | fail) rfl (by first | decide | omega) (by first | ((repeat constructor); done) | exact .same _) (by first | exact .one | exact .set) (by repeat (first | exact .here | apply HSet.there))) ?_; rintro _ _ ⟨rfl, rfl⟩)
        refine alist_nil ?_
        show AWP _ _ _ _
        rw [hput]
        show AWP _ _ _ _
        refine awp_region ?_
        refine aqs rfl (q_mv (by constructor)) rfl ?_
        first | refine aqs rfl (q_add64 rfl rfl (by omega) (by omega)) rfl ?_ | refine aqs rfl (q_add rfl rfl) rfl ?_
        refine aqs rfl (q_as (by constructor)) rfl ?_
        refine alist_nil ?_
        show ∃ y, _ ∧ _ ∧ _
        first
         | exact ⟨(i + 1, g, _), ⟨by show i + 1 ≤ deeds.length; omega, by show i + 1 ≤ 30; omega, hI2⟩, by show 30 - (i + 1) < 30 - i; omega, .mk' ⟨by rfl, rfl, rfl, rfl, rfl, trivial⟩ (by repeat (first | exact List.Sublist.refl _ | exact List.nil_sublist _ | exact List.sublist_append_left _ _ | (apply List.Sublist.cons_cons) | (apply List.Sublist.cons)))⟩
         | exact ⟨(i + 1, f, st), ⟨by show i + 1 ≤ deeds.length; omega, by show i + 1 ≤ 30; omega, hI.next⟩, by show 30 - (i + 1) < 30 - i; omega, .mk' ⟨by rfl, rfl, rfl, rfl, rfl, trivial⟩ (by repeat (first | exact List.Sublist.refl _ | exact List.nil_sublist _ | exact List.sublist_append_left _ _ | (apply List.Sublist.cons_cons) | (apply List.Sublist.cons)))⟩
       ·skip
        refine awp_skip ?_
        show AWP _ _ _ _
        refine awp_region ?_
        refine aqs rfl (q_mv (by constructor)) rfl ?_
        first | refine aqs rfl (q_add64 rfl rfl (by omega) (by omega)) rfl ?_ | refine aqs rfl (q_add rfl rfl) rfl ?_
        refine aqs rfl (q_as (by constructor)) rfl ?_
        refine alist_nil ?_
        show ∃ y, _ ∧ _ ∧ _
        first
         | exact ⟨(i + 1, g, _), ⟨by show i + 1 ≤ deeds.length; omega, by show i + 1 ≤ 30; omega, hI2⟩, by show 30 - (i + 1) < 30 - i; omega, .mk' ⟨by rfl, rfl, rfl, rfl, rfl, trivial⟩ (by repeat (first | exact List.Sublist.refl _ | exact List.nil_sublist _ | exact List.sublist_append_left _ _ | (apply List.Sublist.cons_cons) | (apply List.Sublist.cons)))⟩
         | exact ⟨(i + 1, f, st), ⟨by show i + 1 ≤ deeds.length; omega, by show i + 1 ≤ 30; omega, hI.next⟩, by show 30 - (i + 1) < 30 - i; omega, .mk' ⟨by rfl, rfl, rfl, rfl, rfl, trivial⟩ (by repeat (first | exact List.Sublist.refl _ | exact List.nil_sublist _ | exact List.sublist_append_left _ _ | (apply List.Sublist.cons_cons) | (apply List.Sublist.cons)))⟩
     ·obtain ⟨b, g, e, hd, hcs⟩ : ∃ b g e, beginS f (text6 t) strRr w = (b, g, e) ∧ ((e = 4 ∧ ¬ (sat st w).a = 0) ∨ (e = 0 ∧ (sat st w).a = 0 ∧ (b = true ↔ ∀ k, 0 ≤ k → k ≤ 7 → ¬ ((sat st k).a = 1 ∧ (sat st k).b = t)) ∧
        FOne g (st.set (w : Int).toNat ⟨if b = true then 1 else 2, t, i⟩) ((i : Int) + 1))) := by
       rcases one_begin hI (by omega) hw07 ht3 with ⟨h1, h2⟩ | ⟨h1, b, g, h2, h3⟩
       ·exact ⟨_, _, _, h2, .inl ⟨rfl, h1⟩⟩
       ·exact ⟨_, _, _, h2, .inr ⟨rfl, h1, h3⟩⟩
      have hts : textS t = text6 t := by rw [textS, show pick t 6 = t by unfold pick; rw [if_neg (by omega)]; omega]
      refine awp_seq ?_
      refine awp_region ?_
      refine aqs rfl (q_mv (by constructor)) rfl ?_
      refine aqs rfl (q_mv (by constructor)) rfl ?_
      first | refine aqs rfl (e_callN cb96 (hts ▸ text96_c t (by omega) _) rfl rfl) rfl ?_ | refine aqs rfl (e_callN cb96 (ACall.arg (hts ▸ text96_c t (by omega) _) (by repeat (first | exact ArgL.nil | (apply ArgL.cons; (· first | exact .same | exact .cro | exact .nil))))) rfl rfl) rfl ?_
      refine aqs rfl (q_mv (by constructor)) rfl ?_
      first | refine aqs rfl (e_callN cb97 (hd ▸ begin97_c f hfl (text6 t) strRr w _) rfl rfl) rfl ?_ | refine aqs rfl (e_callN cb97 (ACall.arg (hd ▸ begin97_c f hfl (text6 t) strRr w _) (by repeat (first | exact ArgL.nil | (apply ArgL.cons; (· first | exact .same | exact .cro | exact .nil))))) rfl rfl) rfl ?_
      refine aqs rfl (q_mv (by constructor)) rfl ?_
      refine aqs rfl (q_ex rfl rfl (by constructor)) rfl ?_
      refine aqs rfl (q_ex rfl rfl (by constructor)) rfl ?_
      refine aqs rfl (q_ex rfl rfl (by constructor)) rfl ?_
      refine aqs rfl (q_as (by constructor)) rfl ?_
      refine aqs rfl (q_as (by constructor)) rfl ?_
      refine aqs rfl (q_as (by constructor)) rfl ?_
      refine alist_nil ?_
      show AWP _ _ _ _
      refine awp_seq ?_
      refine awp_seq ?_
      refine awp_region ?_
      refine aqs rfl (q_mv (by constructor)) rfl ?_
      refine aqs rfl (q_eql rfl rfl) rfl ?_
      refine aqs rfl (q_mv (by constructor)) rfl ?_
      first | refine aqs rfl (castQ (r2 := .ptr u5 0 (3 * w)) (q_iaA Try.underlying130 sz83 rfl rfl (by omega) (by omega) rfl) (by (rw [AV.ptr.injEq]; exact ⟨rfl, rfl, by simp; try omega⟩))) rfl ?_ | refine aqs rfl (castQ (r2 := .ptr u5 0 (3 * w)) (q_iaI Try.underlying130 sz83 rfl rfl (by omega) (by omega) (by first | ((repeat constructor); done) | exact .same _)) (by (rw [AV.ptr.injEq]; exact ⟨rfl, rfl, by simp; try omega⟩))) rfl ?_
      first | refine aqs rfl (castQ (r2 := .ptr u5 0 (3 * w)) (q_iaA Try.underlying83 sz3 rfl rfl (by omega) (by omega) rfl) (by (rw [AV.ptr.injEq]; exact ⟨rfl, rfl, by simp; try omega⟩))) rfl ?_ | refine aqs rfl (castQ (r2 := .ptr u5 0 (3 * w)) (q_iaI Try.underlying83 sz3 rfl rfl (by omega) (by omega) (by first | ((repeat constructor); done) | exact .same _)) (by (rw [AV.ptr.injEq]; exact ⟨rfl, rfl, by simp; try omega⟩))) rfl ?_
      first | refine aqs rfl (q_ldpN ag3 rfl (by repeat (first | exact .here | assumption | (apply HAt.left; assumption) | apply HAt.there | apply HAt.right)) (by first | rfl | assumption | (simp [*]; done) | fail) (by first | rfl | assumption | (simp [*]; done) | fail) (by constructor)) rfl ?_ | refine aqs rfl (q_ld1N ag3 rfl (by constructor)) rfl ?_
      refine aqs rfl (q_eql rfl rfl) rfl ?_
      refine aqs rfl (castF (q_bneq rfl rfl Try.underlying4) (by (rcases hcs with ⟨h1, h2⟩ | ⟨h1, h2, _⟩ <;> simp [h1, h2]))) rfl ?_
      refine alist_nil ?_
      show AWP _ _ _ _
      refine awp_cond rfl (fun hc13 => ?_) (fun hc13 => ?_)
      ·exfalso; first | (simp at hc13; done) | (simp at hc13; omega) | contradiction
      ·try simp only [decide_eq_true_eq, decide_eq_false_iff_not, Bool.not_eq_true', Bool.not_eq_false', Bool.not_eq_eq_eq_not, Bool.not_true, Bool.not_false, beq_iff_eq, beq_eq_false_iff_ne, Int.not_lt, Int.not_le] at hc13
       refine awp_skip ?_
       show AWP _ _ _ _
       refine awp_seq ?_
       refine awp_seq ?_
       refine awp_region ?_
       refine aqs rfl (q_mv (by constructor)) rfl ?_
       refine aqs rfl (q_neq rfl rfl) rfl ?_
       refine alist_nil ?_
       show AWP _ _ _ _
       refine awp_cond rfl (fun hc14 => ?_) (fun hc14 => ?_)
       ·have he : ¬ e = 0 := by simpa using hc14
        refine awp_exit ?_
        show AWP _ _ _ _
        refine awp_region ?_
        refine aqs rfl (q_mv (by constructor)) rfl ?_
        first | refine aqs rfl (q_add64 rfl rfl (by omega) (by omega)) rfl ?_ | refine aqs rfl (q_add rfl rfl) rfl ?_
        refine aqs rfl (q_as (by constructor)) rfl ?_
        refine alist_nil ?_
        show ∃ y, _ ∧ _ ∧ _
        first
         | exact ⟨(i + 1, g, _), ⟨by show i + 1 ≤ deeds.length; omega, by show i + 1 ≤ 30; omega, hI2⟩, by show 30 - (i + 1) < 30 - i; omega, .mk' ⟨by rfl, rfl, rfl, rfl, rfl, trivial⟩ (by repeat (first | exact List.Sublist.refl _ | exact List.nil_sublist _ | exact List.sublist_append_left _ _ | (apply List.Sublist.cons_cons) | (apply List.Sublist.cons)))⟩
         | exact ⟨(i + 1, f, st), ⟨by show i + 1 ≤ deeds.length; omega, by show i + 1 ≤ 30; omega, hI.next⟩, by show 30 - (i + 1) < 30 - i; omega, .mk' ⟨by rfl, rfl, rfl, rfl, rfl, trivial⟩ (by repeat (first | exact List.Sublist.refl _ | exact List.nil_sublist _ | exact List.sublist_append_left _ _ | (apply List.Sublist.cons_cons) | (apply List.Sublist.cons)))⟩
       ·have he : e = 0 := by simpa using hc14
        obtain ⟨_, ha0, hbi, hI2⟩ := hcs.resolve_left (fun h => by omega)
        have hbusy := busy_iff hbi
        refine awp_skip ?_
        show AWP _ _ _ _
        refine awp_seq ?_
        refine awp_region ?_
        refine aqs rfl (q_as (by constructor)) rfl ?_
        refine alist_nil ?_
        show AWP _ _ _ _
        refine awp_seq ?_
        refine awp_seq ?_
        refine awp_region ?_
        refine aqs rfl (q_as (by constructor)) rfl ?_
        refine alist_nil ?_
        show AWP _ _ _ _
        refine awp_block ?_
        refine awp_loop_inv (fun k : Nat => ⟨[(24, .lit (.int .i64 k)), (23, .lit (.bool (busyS st t k))), (20, .lit (.bool b)), (21, .ro (g.map Fill.cells)), (8, .lit (.int .i64 t)), (7, .lit (.int .i64 w)), (6, .lit (.int .i64 i)), (5, .ptr u5 0 0), (3, .lit (.bool true)), (0, .ro (deeds.map Tri.cells))], 241, [(u5, .arr 130 24 [stC st])]⟩) (fun k => k ≤ 8) (fun k => 8 - k) 0 ?_ ?_ ?_
        ·exact Nat.zero_le _
        ·exact .mk' (by repeat (first | exact trivial | refine ⟨rfl, ?_⟩)) (by repeat (first | exact .refl _ | apply List.Sublist.cons_cons | apply List.Sublist.cons))
        ·intro k hk
         refine awp_seq ?_
         refine awp_seq ?_
         refine awp_region ?_
         refine aqs rfl (q_mv (by constructor)) rfl ?_
         refine aqs rfl (q_lss rfl rfl) rfl ?_
         refine alist_nil ?_
         show AWP _ _ _ _
         refine awp_cond rfl (fun hc15 => ?_) (fun hc15 => ?_)
         ·simp only [decide_eq_true_eq] at hc15
          have hk8 : k < 8 := by omega
          obtain ⟨hk0, hk1, hk2⟩ : (stC st)[3 * k]? = some (.lit (.int .i64 (sat st k).a)) ∧ (stC st)[3 * k + 1]? = some (.lit (.int .i64 (sat st k).b)) ∧ (stC st)[3 * k + 2]? = some (.lit (.int .i64 (sat st k).c)) := st_at (by omega)
          have hnx := busy_next st t k
          refine awp_skip ?_
          show AWP _ _ _ _
          refine awp_seq ?_
          refine awp_block ?_
          refine awp_mid1 [(23, .lit (.bool (busyS st t k || (decide ((sat st k).a = 1) && decide ((sat st k).b = t))))), (24, .lit (.int .i64 k)), (20, .lit (.bool b)), (21, .ro (g.map Fill.cells)), (8, .lit (.int .i64 t)), (7, .lit (.int .i64 w)), (6, .lit (.int .i64 i)), (5, .ptr u5 0 0), (3, .lit (.bool true)), (0, .ro (deeds.map Tri.cells))] ?_ ?_
          ·skip
           refine awp_region ?_
           all_goals (refine aqs rfl (q_mv (by constructor)) rfl ?_)
           all_goals (refine aqs rfl (q_mv (by constructor)) rfl ?_)
           all_goals try (refine acase (fun hb1 => ?_) (fun hb1 => ?_))
           all_goals first | (exfalso; cases hb1; done) | skip
           all_goals (first | refine ans rfl rfl ?_ | refine aqs rfl (q_mv (by constructor)) rfl ?_)
           all_goals (first | refine ans rfl rfl ?_ | refine aqs rfl (castQ (r2 := .ptr u5 0 (3 * k)) (q_iaA Try.underlying130 sz83 rfl rfl (by omega) (by omega) rfl) (by (rw [AV.ptr.injEq]; exact ⟨rfl, rfl, by simp; try omega⟩))) rfl ?_ | refine aqs rfl (castQ (r2 := .ptr u5 0 (3 * k)) (q_iaI Try.underlying130 sz83 rfl rfl (by omega) (by omega) (by first | ((repeat constructor); done) | exact .same _)) (by (rw [AV.ptr.injEq]; exact ⟨rfl, rfl, by simp; try omega⟩))) rfl ?_)
           all_goals (first | refine ans rfl rfl ?_ | refine aqs rfl (castQ (r2 := .ptr u5 0 (3 * k)) (q_iaA Try.underlying83 sz3 rfl rfl (by omega) (by omega) rfl) (by (rw [AV.ptr.injEq]; exact ⟨rfl, rfl, by simp; try omega⟩))) rfl ?_ | refine aqs rfl (castQ (r2 := .ptr u5 0 (3 * k)) (q_iaI Try.underlying83 sz3 rfl rfl (by omega) (by omega) (by first | ((repeat constructor); done) | exact .same _)) (by (rw [AV.ptr.injEq]; exact ⟨rfl, rfl, by simp; try omega⟩))) rfl ?_)
           all_goals (first | refine ans rfl rfl ?_ | refine aqs rfl (q_ldpN ag3 rfl (by repeat (first | exact .here | assumption | (apply HAt.left; assumption) | apply HAt.there | apply HAt.right)) (by first | rfl | assumption | (simp [*]; done) | fail) (by first | rfl | assumption | (simp [*]; done) | fail) (by constructor)) rfl ?_ | refine aqs rfl (q_ld1N ag3 rfl (by constructor)) rfl ?_)
           all_goals (first | refine ans rfl rfl ?_ | refine aqs rfl (q_eql rfl rfl) rfl ?_)
           all_goals (first | refine ans rfl rfl ?_ | refine aqs rfl (q_mv (by constructor)) rfl ?_)
           all_goals try (refine acase (fun hb7 => ?_) (fun hb7 => ?_))
           all_goals first | (exfalso; cases hb7; done) | skip
           all_goals (first | refine ans rfl rfl ?_ | refine aqs rfl (q_mv (by constructor)) rfl ?_)
           all_goals (first | refine ans rfl rfl ?_ | refine aqs rfl (castQ (r2 := .ptr u5 0 (3 * k)) (q_iaA Try.underlying130 sz83 rfl rfl (by omega) (by omega) rfl) (by (rw [AV.ptr.injEq]; exact ⟨rfl, rfl, by simp; try omega⟩))) rfl ?_ | refine aqs rfl (castQ (r2 := .ptr u5 0 (3 * k)) (q_iaI Try.underlying130 sz83 rfl rfl (by omega) (by omega) (by first | ((repeat constructor); done) | exact .same _)) (by (rw [AV.ptr.injEq]; exact ⟨rfl, rfl, by simp; try omega⟩))) rfl ?_)
           all_goals (first | refine ans rfl rfl ?_ | refine aqs rfl (castQ (r2 := .ptr u5 0 (3 * k + 1)) (q_iaA Try.underlying83 sz3 rfl rfl (by omega) (by omega) rfl) (by (rw [AV.ptr.injEq]; exact ⟨rfl, rfl, by simp; try omega⟩))) rfl ?_ | refine aqs rfl (castQ (r2 := .ptr u5 0 (3 * k + 1)) (q_iaI Try.underlying83 sz3 rfl rfl (by omega) (by omega) (by first | ((repeat constructor); done) | exact .same _)) (by (rw [AV.ptr.injEq]; exact ⟨rfl, rfl, by simp; try omega⟩))) rfl ?_)
           all_goals (first | refine ans rfl rfl ?_ | refine aqs rfl (q_ldpN ag3 rfl (by repeat (first | exact .here | assumption | (apply HAt.left; assumption) | apply HAt.there | apply HAt.right)) (by first | rfl | assumption | (simp [*]; done) | fail) (by first | rfl | assumption | (simp [*]; done) | fail) (by constructor)) rfl ?_ | refine aqs rfl (q_ld1N ag3 rfl (by constructor)) rfl ?_)
           all_goals (first | refine ans rfl rfl ?_ | refine aqs rfl (q_mv (by constructor)) rfl ?_)
           all_goals (first | refine ans rfl rfl ?_ | refine aqs rfl (q_eql rfl rfl) rfl ?_)
           all_goals (first | refine ans rfl rfl ?_ | refine aqs rfl (q_pickT rfl (by constructor)) rfl ?_ | refine aqs rfl (q_pickF rfl (by constructor)) rfl ?_)
           all_goals (first | refine aqs rfl (q_pickT rfl (by constructor)) rfl ?_ | refine aqs rfl (q_pickF rfl (by constructor)) rfl ?_)
           all_goals (refine aqs rfl (q_as (by constructor)) rfl ?_)
           all_goals (refine alist_nil ?_)
           all_goals (exact ⟨rfl, .mk' (by repeat (first | exact trivial | refine ⟨rfl, ?_⟩ | (refine ⟨?_, ?_⟩; (· first | (rw [hb1, hb7]; rfl) | (rw [hb1]; rfl) | fail)))) (by repeat (first | exact .refl _ | exact List.nil_sublist _ | exact List.sublist_append_left _ _ | apply List.Sublist.cons))⟩)
          show AWP _ _ _ _
          refine awp_region ?_
          refine aqs rfl (q_mv (by constructor)) rfl ?_
          first | refine aqs rfl (q_add64 rfl rfl (by omega) (by omega)) rfl ?_ | refine aqs rfl (q_add rfl rfl) rfl ?_
          refine aqs rfl (q_as (by constructor)) rfl ?_
          refine alist_nil ?_
          show ∃ y, _ ∧ _ ∧ _
          exact ⟨k + 1, by omega, by omega, by simp only [hnx]; exact .mk' ⟨by rfl, rfl, rfl, rfl, rfl, rfl, rfl, rfl, rfl, rfl, trivial⟩ (by repeat (first | exact List.Sublist.refl _ | exact List.nil_sublist _ | exact List.sublist_append_left _ _ | (apply List.Sublist.cons_cons) | (apply List.Sublist.cons)))⟩
         ·simp only [decide_eq_false_iff_not] at hc15
          obtain rfl : k = 8 := by omega
          refine awp_exit ?_
          show AWP _ _ _ _
          refine awp_seq ?_
          refine awp_seq ?_
          refine awp_region ?_
          refine aqs rfl (q_mv (by constructor)) rfl ?_
          refine aqs rfl (q_mv (by constructor)) rfl ?_
          refine aqs rfl (castF (q_beql rfl rfl Try.underlying4) (by exact hbusy)) rfl ?_
          refine alist_nil ?_
          show AWP _ _ _ _
          refine awp_cond rfl (fun hc16 => ?_) (fun hc16 => ?_)
          ·exfalso; first | (simp at hc16; done) | (simp at hc16; omega) | contradiction
          ·have hput := st_put3 (st := st) (w := w) (by omega) 1 t i
           have hsl3 : (stC (st.set w ⟨1, t, i⟩)).length = 24 := by rw [stC_len, List.length_set, hll]
           have hput2 := st_put1 (st := st.set w ⟨1, t, i⟩) (w := w) (by rw [List.length_set]; omega) 2
           have hgt : (st.set w ⟨1, t, i⟩).getD w ⟨0, 0, 0⟩ = ⟨1, t, i⟩ := by rw [List.getD_eq_getElem?_getD, List.getElem?_set_self (by omega)]; rfl
           rw [hgt, List.set_set] at hput2
           refine awp_skip ?_
           show AWP _ _ _ _
           refine awp_seq ?_
           refine awp_region ?_
           refine aqs rfl (q_mv (by constructor)) rfl ?_
           refine aqs rfl (q_as (by constructor)) rfl ?_
           refine alist_nil ?_
           show AWP _ _ _ _
           refine awp_seq ?_
           refine awp_region ?_
           refine aqs rfl (q_mv (by constructor)) rfl ?_
           refine aqs rfl (q_mv (by constructor)) rfl ?_
           refine aqs rfl (q_mv (by constructor)) rfl ?_
           refine aqs rfl (q_bd st83 zr83 (by first | ((repeat constructor); done) | exact .same _) (by repeat (first | exact BD.nil | (apply BD.cons; (· rfl); (· constructor); (· rfl); (· rfl); (· exact Nat.le_of_ble_eq_true (by rfl)); (· exact (by first | ((repeat constructor); done) | exact .same _)))))) rfl ?_
           first | refine aqs rfl (castQ (r2 := .ptr u5 0 (3 * w)) (q_iaA Try.underlying130 sz83 rfl rfl (by omega) (by omega) rfl) (by (rw [AV.ptr.injEq]; exact ⟨rfl, rfl, by simp; try omega⟩))) rfl ?_ | refine aqs rfl (castQ (r2 := .ptr u5 0 (3 * w)) (q_iaI Try.underlying130 sz83 rfl rfl (by omega) (by omega) (by first | ((repeat constructor); done) | exact .same _)) (by (rw [AV.ptr.injEq]; exact ⟨rfl, rfl, by simp; try omega⟩))) rfl ?_
           first | (refine aen rfl (e_stW sz83 rfl (by repeat (first | exact .here | assumption | (apply HAt.left; assumption) | apply HAt.there | apply HAt.right)) (by constructor) (by first | rfl | assumption | (simp [*]; done) | fail) rfl (by repeat (first | exact .here | apply HSet.there))) ?_; rintro _ _ ⟨rfl, rfl⟩) | (refine aen rfl (e_stP sz83 rfl (by repeat (first | exact .here | assumption | (apply HAt.left; assumption) | apply HAt.there | apply HAt.right)) (by first | rfl | assumption | (simp [*]; done) | fail) (by constructor) (by first | rfl | assumption | (simp [*]; done) | fail) rfl (by first | decide | omega) (by first | ((repeat constructor); done) | exact .same _) (by first | exact .one | exact .set) (by repeat (first | exact .here | apply HSet.there))) ?_; rintro _ _ ⟨rfl, rfl⟩)
           refine alist_nil ?_
           show AWP _ _ _ _
           rw [hput]
           show AWP _ _ _ _
           refine awp_seq ?_
           refine awp_region ?_
           refine aqs rfl (q_mv (by constructor)) rfl ?_
           refine aqs rfl (q_not rfl) rfl ?_
           refine alist_nil ?_
           show AWP _ _ _ _
           refine awp_cond rfl (fun hc17 => ?_) (fun hc17 => ?_)
           ·have hb : b = false := by simpa using hc17
            rw [hb] at hI2
            refine awp_region ?_
            refine aqs rfl (q_mv (by constructor)) rfl ?_
            first | refine aqs rfl (castQ (r2 := .ptr u5 0 (3 * w)) (q_iaA Try.underlying130 sz83 rfl rfl (by omega) (by omega) rfl) (by (rw [AV.ptr.injEq]; exact ⟨rfl, rfl, by simp; try omega⟩))) rfl ?_ | refine aqs rfl (castQ (r2 := .ptr u5 0 (3 * w)) (q_iaI Try.underlying130 sz83 rfl rfl (by omega) (by omega) (by first | ((repeat constructor); done) | exact .same _)) (by (rw [AV.ptr.injEq]; exact ⟨rfl, rfl, by simp; try omega⟩))) rfl ?_
            first | refine aqs rfl (castQ (r2 := .ptr u5 0 (3 * w)) (q_iaA Try.underlying83 sz3 rfl rfl (by omega) (by omega) rfl) (by (rw [AV.ptr.injEq]; exact ⟨rfl, rfl, by simp; try omega⟩))) rfl ?_ | refine aqs rfl (castQ (r2 := .ptr u5 0 (3 * w)) (q_iaI Try.underlying83 sz3 rfl rfl (by omega) (by omega) (by first | ((repeat constructor); done) | exact .same _)) (by (rw [AV.ptr.injEq]; exact ⟨rfl, rfl, by simp; try omega⟩))) rfl ?_
            first | (refine aen rfl (e_stW sz3 rfl (by repeat (first | exact .here | assumption | (apply HAt.left; assumption) | apply HAt.there | apply HAt.right)) (by constructor) (by first | rfl | assumption | (simp [*]; done) | fail) rfl (by repeat (first | exact .here | apply HSet.there))) ?_; rintro _ _ ⟨rfl, rfl⟩) | (refine aen rfl (e_stP sz3 rfl (by repeat (first | exact .here | assumption | (apply HAt.left; assumption) | apply HAt.there | apply HAt.right)) (by first | rfl | assumption | (simp [*]; done) | fail) (by constructor) (by first | rfl | assumption | (simp [*]; done) | fail) rfl (by first | decide | omega) (by first | ((repeat constructor); done) | exact .same _) (by first | exact .one | exact .set) (by repeat (first | exact .here | apply HSet.there))) ?_; rintro _ _ ⟨rfl, rfl⟩)
            refine alist_nil ?_
            show AWP _ _ _ _
            rw [hput2]
            show AWP _ _ _ _
            refine awp_region ?_
            refine aqs rfl (q_mv (by constructor)) rfl ?_
            first | refine aqs rfl (q_add64 rfl rfl (by omega) (by omega)) rfl ?_ | refine aqs rfl (q_add rfl rfl) rfl ?_
            refine aqs rfl (q_as (by constructor)) rfl ?_
            refine alist_nil ?_
            show ∃ y, _ ∧ _ ∧ _
            first
             | exact ⟨(i + 1, g, _), ⟨by show i + 1 ≤ deeds.length; omega, by show i + 1 ≤ 30; omega, hI2⟩, by show 30 - (i + 1) < 30 - i; omega, .mk' ⟨by rfl, rfl, rfl, rfl, rfl, trivial⟩ (by repeat (first | exact List.Sublist.refl _ | exact List.nil_sublist _ | exact List.sublist_append_left _ _ | (apply List.Sublist.cons_cons) | (apply List.Sublist.cons)))⟩
             | exact ⟨(i + 1, f, st), ⟨by show i + 1 ≤ deeds.length; omega, by show i + 1 ≤ 30; omega, hI.next⟩, by show 30 - (i + 1) < 30 - i; omega, .mk' ⟨by rfl, rfl, rfl, rfl, rfl, trivial⟩ (by repeat (first | exact List.Sublist.refl _ | exact List.nil_sublist _ | exact List.sublist_append_left _ _ | (apply List.Sublist.cons_cons) | (apply List.Sublist.cons)))⟩
           ·have hb : b = true := by simpa using hc17
            rw [hb] at hI2
            refine awp_skip ?_
            show AWP _ _ _ _
            refine awp_region ?_
            refine aqs rfl (q_mv (by constructor)) rfl ?_
            first | refine aqs rfl (q_add64 rfl rfl (by omega) (by omega)) rfl ?_ | refine aqs rfl (q_add rfl rfl) rfl ?_
            refine aqs rfl (q_as (by constructor)) rfl ?_
            refine alist_nil ?_
            show ∃ y, _ ∧ _ ∧ _
            first
             | exact ⟨(i + 1, g, _), ⟨by show i + 1 ≤ deeds.length; omega, by show i + 1 ≤ 30; omega, hI2⟩, by show 30 - (i + 1) < 30 - i; omega, .mk' ⟨by rfl, rfl, rfl, rfl, rfl, trivial⟩ (by repeat (first | exact List.Sublist.refl _ | exact List.nil_sublist _ | exact List.sublist_append_left _ _ | (apply List.Sublist.cons_cons) | (apply List.Sublist.cons)))⟩
             | exact ⟨(i + 1, f, st), ⟨by show i + 1 ≤ deeds.length; omega, by show i + 1 ≤ 30; omega, hI.next⟩, by show 30 - (i + 1) < 30 - i; omega, .mk' ⟨by rfl, rfl, rfl, rfl, rfl, trivial⟩ (by repeat (first | exact List.Sublist.refl _ | exact List.nil_sublist _ | exact List.sublist_append_left _ _ | (apply List.Sublist.cons_cons) | (apply List.Sublist.cons)))⟩
   ·have hr := hI.right
    refine awp_exit ?_
    show AWP _ _ _ _
    refine awp_seq ?_
    refine awp_region ?_
    refine aqs rfl (q_mv (by constructor)) rfl ?_
    refine aqs rfl (q_mv (by constructor)) rfl ?_
    first | refine ans rfl rfl ?_ | refine aqs rfl (q_mv (by constructor)) rfl ?_
    first | refine ans rfl rfl ?_ | refine aqs rfl (e_callN cb93 (hr ▸ right93_c f hfl _) rfl rfl) rfl ?_ | refine aqs rfl (e_callN cb93 (ACall.arg (hr ▸ right93_c f hfl _) (by repeat (first | exact ArgL.nil | (apply ArgL.cons; (· first | exact .same | exact .cro | exact .nil))))) rfl rfl) rfl ?_
    first | refine aqs rfl (q_pickT rfl (by constructor)) rfl ?_ | refine aqs rfl (q_pickF rfl (by constructor)) rfl ?_
    refine aqs rfl (q_as (by constructor)) rfl ?_
    refine alist_nil ?_
    show AWP _ _ _ _
    refine awp_ret ?_
    repeat first | with_reducible refine then_ret ?_ | with_reducible refine blk_ret ?_
    apply retq (.inr rfl) (.cons (rok_t rfl) .nil)
    rotate_left
    ·exact ⟨rfl, rfl⟩
    repeat (first | exact List.Sublist.refl _ | exact List.nil_sublist _ | exact List.sublist_append_left _ _ | apply List.Sublist.cons)
end Go.Proofs.YtdlinfekifnmkaaAm
