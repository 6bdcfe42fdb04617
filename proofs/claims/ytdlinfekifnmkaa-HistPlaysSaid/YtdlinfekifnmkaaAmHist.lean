/- Contracts of the layer 'hist', first part: events and calls. Conditions: the lengths. -/
import Derived.Test.YtdlinfekifnmkaaAmMapOf
import Derived.Test.YtdlinfekifnmkaaAmHistCalls
set_option linter.unusedVariables false
set_option linter.unusedSimpArgs false
set_option maxRecDepth 20000
namespace Go.Proofs.YtdlinfekifnmkaaAm
open Go.Proofs

theorem lenCall (l : List Call) : ∀ c ∈ l.map Call.cells, c.length = 7 := by
  intro c hc
  obtain ⟨s, _, rfl⟩ := List.mem_map.1 hc
  rfl
theorem oneCall (l : List Call) : ∀ c ∈ l.map Call.cells, c.all cell1 = true := by
  intro c hc
  obtain ⟨s, _, rfl⟩ := List.mem_map.1 hc
  rfl
theorem lenEvent (l : List Event) : ∀ c ∈ l.map Event.cells, c.length = 5 := by
  intro c hc
  obtain ⟨s, _, rfl⟩ := List.mem_map.1 hc
  rfl
theorem oneEvent (l : List Event) : ∀ c ∈ l.map Event.cells, c.all cell1 = true := by
  intro c hc
  obtain ⟨s, _, rfl⟩ := List.mem_map.1 hc
  rfl
set_option maxHeartbeats 400000 in
theorem pick84_c (c n : Int) (h1 : -9223372036854775808 ≤ c) (h2 : c ≤ 9223372036854775807) (h3 : 1 ≤ n) (H : Heap) : QCall Try.prog 84 [.lit (.int .i64 c), .lit (.int .i64 n)] H (.lit (.int .i64 (pick c n))) := by
  refine acall_intro (n := 13) (rvs := [.tmp 4]) Try.func84 rfl rfl rfl (Nat.le_of_ble_eq_true rfl) ?_
  refine awp_seq ?_
  refine awp_region ?_
  refine aqs rfl (q_as (by constructor)) rfl ?_
  refine alist_nil ?_
  show AWP _ _ _ _
  refine awp_seq ?_
  refine awp_seq ?_
  refine awp_region ?_
  refine aqs rfl (q_mv (by constructor)) rfl ?_
  refine aqs rfl (q_lss rfl rfl) rfl ?_
  refine alist_nil ?_
  show AWP _ _ _ _
  refine awp_cond rfl (fun hc0 => ?_) (fun hc0 => ?_)
  · simp only [decide_eq_true_eq] at hc0
    have e : pick c n = -(c + 1) % n := by simp [pick, hc0]
    rw [e]
    refine awp_region ?_
    refine aqs rfl (q_mv (by constructor)) rfl ?_
    first | refine aqs rfl (q_add64 rfl rfl (by omega) (by omega)) rfl ?_ | refine aqs rfl (q_add rfl rfl) rfl ?_
    first | refine aqs rfl (q_neg64 rfl (by omega) (by omega)) rfl ?_ | refine aqs rfl (q_neg rfl) rfl ?_
    refine aqs rfl (q_as (by constructor)) rfl ?_
    refine alist_nil ?_
    show AWP _ _ _ _
    refine awp_seq ?_
    refine awp_region ?_
    refine aqs rfl (q_mv (by constructor)) rfl ?_
    refine aqs rfl (q_mv (by constructor)) rfl ?_
    first | refine aqs rfl (q_rem64 rfl rfl (by omega) (by omega)) rfl ?_ | refine aqs rfl (q_rem rfl rfl (by first | decide | omega)) rfl ?_
    refine aqs rfl (q_as (by constructor)) rfl ?_
    refine alist_nil ?_
    show AWP _ _ _ _
    refine awp_ret ?_
    repeat first | with_reducible refine then_ret ?_ | with_reducible refine blk_ret ?_
    apply retq (.inr rfl) (.cons (rok_t rfl) .nil)
    rotate_left
    · exact ⟨rfl, rfl⟩
    repeat (first | exact List.Sublist.refl _ | exact List.nil_sublist _ | exact List.sublist_append_left _ _ | apply List.Sublist.cons)
  · simp only [decide_eq_false_iff_not] at hc0
    have e : pick c n = c % n := by simp [pick, hc0]
    rw [e]
    refine awp_skip ?_
    show AWP _ _ _ _
    refine awp_seq ?_
    refine awp_region ?_
    refine aqs rfl (q_mv (by constructor)) rfl ?_
    refine aqs rfl (q_mv (by constructor)) rfl ?_
    first | refine aqs rfl (q_rem64 rfl rfl (by omega) (by omega)) rfl ?_ | refine aqs rfl (q_rem rfl rfl (by first | decide | omega)) rfl ?_
    refine aqs rfl (q_as (by constructor)) rfl ?_
    refine alist_nil ?_
    show AWP _ _ _ _
    refine awp_ret ?_
    repeat first | with_reducible refine then_ret ?_ | with_reducible refine blk_ret ?_
    apply retq (.inr rfl) (.cons (rok_t rfl) .nil)
    rotate_left
    · exact ⟨rfl, rfl⟩
    repeat (first | exact List.Sublist.refl _ | exact List.nil_sublist _ | exact List.sublist_append_left _ _ | apply List.Sublist.cons)
def eventOf (x : Quad) : Event := ⟨1 + pick x.a 4, pick x.b 4, pick x.c 3, pick x.d 3, decide (pick x.d 6 < 3)⟩
set_option maxHeartbeats 1000000 in
theorem event134_c (x : Quad) (hx : x.Wf) (H : Heap) : QCall Try.prog 134 [.agg x.cells] H (.agg (eventOf x).cells) := by
  obtain ⟨ha, hb, hc, hd⟩ := hx
  have p0 := pick_nonneg x.a 4 (by omega)
  have p1 := pick_lt x.a 4 (by omega)
  refine acall_intro (n := 21) (rvs := [.cell 2 108]) Try.func134 rfl rfl rfl (Nat.le_of_ble_eq_true rfl) ?_
  refine awp_seq ?_
  refine awp_region ?_
  (refine aes rfl (e_bx (by constructor) rfl rfl) rfl ?_; rintro _ _ ⟨u1, rfl, rfl⟩)
  (refine aes rfl (e_al (xs := [.lit (.int .i64 0), .lit (.int .i64 0), .lit (.int .i64 0), .lit (.int .i64 0), .lit (.bool false)]) (k := 5) zr108 (.same _) rfl) rfl ?_; rintro _ _ ⟨u2, rfl, rfl⟩)
  refine alist_nil ?_
  show AWP _ _ _ _
  refine awp_seq ?_
  refine awp_draw 18 [(0, false), (1, false), (2, false), (3, false), (4, false), (5, false), (6, false), (7, false), (8, false), (9, false), (10, false), (11, false), (12, false), (13, false), (14, false), (15, false), (16, false), (17, false)] _ ([]) mixed (by kernel_rfl) (perm0 _) ?_
  refine glq rfl (.inl ⟨rfl, q_iaA Try.underlying155 sz3 rfl rfl (by omega) (by omega) rfl⟩) rfl ?_
  first | refine glq rfl (.inl ⟨rfl, q_ldpN ag3 rfl (by repeat (first | exact .here | assumption | (apply HAt.left; assumption) | apply HAt.there | apply HAt.right)) (by first | rfl | assumption | (simp [*]; done) | fail) (by first | rfl | assumption | (simp [*]; done) | fail) (by constructor)⟩) rfl ?_ | refine glq rfl (.inl ⟨rfl, q_ld1N ag3 rfl (by constructor)⟩) rfl ?_
  first | refine glq rfl (.inl ⟨rfl, e_callN cb84 (pick84_c _ _ ha.1 ha.2 (by omega) _) rfl rfl⟩) rfl ?_ | refine glq rfl (.inl ⟨rfl, e_callN cb84 (ACall.arg (pick84_c _ _ ha.1 ha.2 (by omega) _) (by repeat (first | exact ArgL.nil | (apply ArgL.cons; (· first | exact .same | exact .cro | exact .nil))))) rfl rfl⟩) rfl ?_
  first | refine glq rfl (.inl ⟨rfl, q_add64 rfl rfl (by omega) (by omega)⟩) rfl ?_ | refine glq rfl (.inl ⟨rfl, q_add rfl rfl⟩) rfl ?_
  refine glq rfl (.inl ⟨rfl, q_iaA Try.underlying155 sz3 rfl rfl (by omega) (by omega) rfl⟩) rfl ?_
  first | refine glq rfl (.inl ⟨rfl, q_ldpN ag3 rfl (by repeat (first | exact .here | assumption | (apply HAt.left; assumption) | apply HAt.there | apply HAt.right)) (by first | rfl | assumption | (simp [*]; done) | fail) (by first | rfl | assumption | (simp [*]; done) | fail) (by constructor)⟩) rfl ?_ | refine glq rfl (.inl ⟨rfl, q_ld1N ag3 rfl (by constructor)⟩) rfl ?_
  first | refine glq rfl (.inl ⟨rfl, e_callN cb84 (pick84_c _ _ hb.1 hb.2 (by omega) _) rfl rfl⟩) rfl ?_ | refine glq rfl (.inl ⟨rfl, e_callN cb84 (ACall.arg (pick84_c _ _ hb.1 hb.2 (by omega) _) (by repeat (first | exact ArgL.nil | (apply ArgL.cons; (· first | exact .same | exact .cro | exact .nil))))) rfl rfl⟩) rfl ?_
  refine glq rfl (.inl ⟨rfl, q_iaA Try.underlying155 sz3 rfl rfl (by omega) (by omega) rfl⟩) rfl ?_
  first | refine glq rfl (.inl ⟨rfl, q_ldpN ag3 rfl (by repeat (first | exact .here | assumption | (apply HAt.left; assumption) | apply HAt.there | apply HAt.right)) (by first | rfl | assumption | (simp [*]; done) | fail) (by first | rfl | assumption | (simp [*]; done) | fail) (by constructor)⟩) rfl ?_ | refine glq rfl (.inl ⟨rfl, q_ld1N ag3 rfl (by constructor)⟩) rfl ?_
  first | refine glq rfl (.inl ⟨rfl, e_callN cb84 (pick84_c _ _ hc.1 hc.2 (by omega) _) rfl rfl⟩) rfl ?_ | refine glq rfl (.inl ⟨rfl, e_callN cb84 (ACall.arg (pick84_c _ _ hc.1 hc.2 (by omega) _) (by repeat (first | exact ArgL.nil | (apply ArgL.cons; (· first | exact .same | exact .cro | exact .nil))))) rfl rfl⟩) rfl ?_
  refine glq rfl (.inl ⟨rfl, q_iaA Try.underlying155 sz3 rfl rfl (by omega) (by omega) rfl⟩) rfl ?_
  first | refine glq rfl (.inl ⟨rfl, q_ldpN ag3 rfl (by repeat (first | exact .here | assumption | (apply HAt.left; assumption) | apply HAt.there | apply HAt.right)) (by first | rfl | assumption | (simp [*]; done) | fail) (by first | rfl | assumption | (simp [*]; done) | fail) (by constructor)⟩) rfl ?_ | refine glq rfl (.inl ⟨rfl, q_ld1N ag3 rfl (by constructor)⟩) rfl ?_
  first | refine glq rfl (.inl ⟨rfl, e_callN cb84 (pick84_c _ _ hd.1 hd.2 (by omega) _) rfl rfl⟩) rfl ?_ | refine glq rfl (.inl ⟨rfl, e_callN cb84 (ACall.arg (pick84_c _ _ hd.1 hd.2 (by omega) _) (by repeat (first | exact ArgL.nil | (apply ArgL.cons; (· first | exact .same | exact .cro | exact .nil))))) rfl rfl⟩) rfl ?_
  refine glq rfl (.inl ⟨rfl, q_iaA Try.underlying155 sz3 rfl rfl (by omega) (by omega) rfl⟩) rfl ?_
  first | refine glq rfl (.inl ⟨rfl, q_ldpN ag3 rfl (by repeat (first | exact .here | assumption | (apply HAt.left; assumption) | apply HAt.there | apply HAt.right)) (by first | rfl | assumption | (simp [*]; done) | fail) (by first | rfl | assumption | (simp [*]; done) | fail) (by constructor)⟩) rfl ?_ | refine glq rfl (.inl ⟨rfl, q_ld1N ag3 rfl (by constructor)⟩) rfl ?_
  first | refine glq rfl (.inl ⟨rfl, e_callN cb84 (pick84_c _ _ hd.1 hd.2 (by omega) _) rfl rfl⟩) rfl ?_ | refine glq rfl (.inl ⟨rfl, e_callN cb84 (ACall.arg (pick84_c _ _ hd.1 hd.2 (by omega) _) (by repeat (first | exact ArgL.nil | (apply ArgL.cons; (· first | exact .same | exact .cro | exact .nil))))) rfl rfl⟩) rfl ?_
  refine glq rfl (.inl ⟨rfl, q_lss rfl rfl⟩) rfl ?_
  refine glq rfl (.inl ⟨rfl, q_bd st108 zr108 (by first | ((repeat constructor); done) | exact .same _) (by repeat (first | exact BD.nil | (apply BD.cons; (· rfl); (· constructor); (· rfl); (· rfl); (· exact Nat.le_of_ble_eq_true (by rfl)); (· exact (by first | ((repeat constructor); done) | exact .same _)))))⟩) rfl ?_
  (first | refine gld0 ?_ | refine gldA ?_)
  first | (refine aen rfl (e_stW sz108 rfl (by repeat (first | exact .here | assumption | (apply HAt.left; assumption) | apply HAt.there | apply HAt.right)) (by constructor) (by first | rfl | assumption | (simp [*]; done) | fail) rfl (by repeat (first | exact .here | apply HSet.there))) ?_; rintro _ _ ⟨rfl, rfl⟩) | (refine aen rfl (e_stP sz108 rfl (by repeat (first | exact .here | assumption | (apply HAt.left; assumption) | apply HAt.there | apply HAt.right)) (by first | rfl | assumption | (simp [*]; done) | fail) (by constructor) (by first | rfl | assumption | (simp [*]; done) | fail) rfl (by first | decide | omega) (by first | ((repeat constructor); done) | exact .same _) (by first | exact .one | exact .set) (by repeat (first | exact .here | apply HSet.there))) ?_; rintro _ _ ⟨rfl, rfl⟩)
  refine alist_nil ?_
  show AWP _ _ _ _
  refine awp_ret ?_
  repeat first | with_reducible refine then_ret ?_ | with_reducible refine blk_ret ?_
  apply retq (.inr rfl) (.cons (rok_A ag108 sz108 rfl (by repeat (first | exact .here | assumption | (apply HAt.left; assumption) | apply HAt.there | apply HAt.right)) (by rfl)) .nil)
  rotate_left
  · exact ⟨rfl, rfl⟩
  repeat (first | exact List.Sublist.refl _ | exact List.nil_sublist _ | exact List.sublist_append_left _ _ | apply List.Sublist.cons)
def callOf (x : Quad) : Call :=
  let put := decide (pick x.a 2 = 0)
  let frm := pick x.d 12
  let to := if frm + pick (x.d.tdiv 12) 9 = frm then -1 else frm + pick (x.d.tdiv 12) 9
  let has := !put && (decide (0 < pick (x.c.tdiv 3) 3) && decide (0 ≤ to))
  ⟨put, pick (x.a.tdiv 2) 4, pick x.b 3, if put || has then pick x.c 3 else 0, has, frm, to⟩
set_option maxHeartbeats 2000000 in
theorem call137_c (x : Quad) (hx : x.Wf) (H : Heap) : QCall Try.prog 137 [.agg x.cells] H (.agg (callOf x).cells) := by
  obtain ⟨ha, hb, hc, hd⟩ := hx
  refine QCall.any H ?_
  have d1 := tdiv_range x.a 2 ha.1 ha.2 (by omega)
  have d2 := tdiv_range x.d 12 hd.1 hd.2 (by omega)
  have d3 := tdiv_range x.c 3 hc.1 hc.2 (by omega)
  have p0 := pick_nonneg x.d 12 (by omega)
  have p1 := pick_lt x.d 12 (by omega)
  have p2 := pick_nonneg (x.d.tdiv 12) 9 (by omega)
  have p3 := pick_lt (x.d.tdiv 12) 9 (by omega)
  obtain ⟨put, hput⟩ : ∃ p, p = decide (pick x.a 2 = 0) := ⟨_, rfl⟩
  obtain ⟨frm, hfrm⟩ : ∃ p, p = pick x.d 12 := ⟨_, rfl⟩
  obtain ⟨t0, ht0⟩ : ∃ p, p = frm + pick (x.d.tdiv 12) 9 := ⟨_, rfl⟩
  obtain ⟨to, hto⟩ : ∃ p, p = if t0 = frm then -1 else t0 := ⟨_, rfl⟩
  obtain ⟨has, hhas⟩ : ∃ p, p = (!put && (decide (0 < pick (x.c.tdiv 3) 3) && decide (0 ≤ to))) := ⟨_, rfl⟩
  have e : (callOf x).cells = [.lit (.bool put), .lit (.int .i64 (pick (x.a.tdiv 2) 4)), .lit (.int .i64 (pick x.b 3)), .lit (.int .i64 (if put || has then pick x.c 3 else 0)), .lit (.bool has), .lit (.int .i64 frm), .lit (.int .i64 to)] := by
    rw [hhas, hto, ht0, hfrm, hput]; rfl
  rw [e]
  cases h4 : decide (0 < pick (x.c.tdiv 3) 3) with
  | true =>
    refine acall_intro (n := 55) (rvs := [.cell 2 103]) Try.func137 rfl rfl rfl (Nat.le_of_ble_eq_true rfl) ?_
    refine awp_seq ?_
    refine awp_region ?_
    (refine aes rfl (e_bx (by constructor) rfl rfl) rfl ?_; rintro _ _ ⟨u1, rfl, rfl⟩)
    (refine aes rfl (e_al (xs := [.lit (.bool false), .lit (.int .i64 0), .lit (.int .i64 0), .lit (.int .i64 0), .lit (.bool false), .lit (.int .i64 0), .lit (.int .i64 0)]) (k := 7) zr103 (.same _) rfl) rfl ?_; rintro _ _ ⟨u2, rfl, rfl⟩)
    refine alist_nil ?_
    show AWP _ _ _ _
    refine awp_seq ?_
    refine awp_draw 19 [(0, false), (1, false), (2, false), (3, false), (4, false), (5, false), (6, false), (7, false), (8, false), (9, false), (10, false), (11, false), (12, false), (13, false), (14, false), (15, false), (16, false), (17, false), (18, true)] _ ([]) mixed (by kernel_rfl) (perm0 _) ?_
    refine glq rfl (.inl ⟨rfl, q_iaA Try.underlying155 sz3 rfl rfl (by omega) (by omega) rfl⟩) rfl ?_
    first | refine glq rfl (.inl ⟨rfl, q_ldpN ag3 rfl (by repeat (first | exact .here | assumption | (apply HAt.left; assumption) | apply HAt.there | apply HAt.right)) (by first | rfl | assumption | (simp [*]; done) | fail) (by first | rfl | assumption | (simp [*]; done) | fail) (by constructor)⟩) rfl ?_ | refine glq rfl (.inl ⟨rfl, q_ld1N ag3 rfl (by constructor)⟩) rfl ?_
    first | refine glq rfl (.inl ⟨rfl, e_callN cb84 (pick84_c _ _ ha.1 ha.2 (by omega) _) rfl rfl⟩) rfl ?_ | refine glq rfl (.inl ⟨rfl, e_callN cb84 (ACall.arg (pick84_c _ _ ha.1 ha.2 (by omega) _) (by repeat (first | exact ArgL.nil | (apply ArgL.cons; (· first | exact .same | exact .cro | exact .nil))))) rfl rfl⟩) rfl ?_
    refine glq rfl (.inl ⟨rfl, castQ (r2 := .lit (.bool put)) (q_eql rfl rfl) (by rw [hput])⟩) rfl ?_
    refine glq rfl (.inl ⟨rfl, q_iaA Try.underlying155 sz3 rfl rfl (by omega) (by omega) rfl⟩) rfl ?_
    first | refine glq rfl (.inl ⟨rfl, q_ldpN ag3 rfl (by repeat (first | exact .here | assumption | (apply HAt.left; assumption) | apply HAt.there | apply HAt.right)) (by first | rfl | assumption | (simp [*]; done) | fail) (by first | rfl | assumption | (simp [*]; done) | fail) (by constructor)⟩) rfl ?_ | refine glq rfl (.inl ⟨rfl, q_ld1N ag3 rfl (by constructor)⟩) rfl ?_
    first | refine glq rfl (.inl ⟨rfl, castQ (r2 := .lit (.int .i64 (x.a.tdiv 2))) (q_quo64 rfl rfl (by omega) (by omega) (by omega)) (by rw [wrap_i64 d1.1 d1.2])⟩) rfl ?_ | refine glq rfl (.inl ⟨rfl, castQ (r2 := .lit (.int .i64 (x.a.tdiv 2))) (q_quo rfl rfl (by first | decide | omega)) (by rw [wrap_i64 d1.1 d1.2])⟩) rfl ?_
    first | refine glq rfl (.inl ⟨rfl, e_callN cb84 (pick84_c _ _ d1.1 d1.2 (by omega) _) rfl rfl⟩) rfl ?_ | refine glq rfl (.inl ⟨rfl, e_callN cb84 (ACall.arg (pick84_c _ _ d1.1 d1.2 (by omega) _) (by repeat (first | exact ArgL.nil | (apply ArgL.cons; (· first | exact .same | exact .cro | exact .nil))))) rfl rfl⟩) rfl ?_
    refine glq rfl (.inl ⟨rfl, q_iaA Try.underlying155 sz3 rfl rfl (by omega) (by omega) rfl⟩) rfl ?_
    first | refine glq rfl (.inl ⟨rfl, q_ldpN ag3 rfl (by repeat (first | exact .here | assumption | (apply HAt.left; assumption) | apply HAt.there | apply HAt.right)) (by first | rfl | assumption | (simp [*]; done) | fail) (by first | rfl | assumption | (simp [*]; done) | fail) (by constructor)⟩) rfl ?_ | refine glq rfl (.inl ⟨rfl, q_ld1N ag3 rfl (by constructor)⟩) rfl ?_
    first | refine glq rfl (.inl ⟨rfl, e_callN cb84 (pick84_c _ _ hb.1 hb.2 (by omega) _) rfl rfl⟩) rfl ?_ | refine glq rfl (.inl ⟨rfl, e_callN cb84 (ACall.arg (pick84_c _ _ hb.1 hb.2 (by omega) _) (by repeat (first | exact ArgL.nil | (apply ArgL.cons; (· first | exact .same | exact .cro | exact .nil))))) rfl rfl⟩) rfl ?_
    refine glq rfl (.inl ⟨rfl, q_iaA Try.underlying155 sz3 rfl rfl (by omega) (by omega) rfl⟩) rfl ?_
    first | refine glq rfl (.inl ⟨rfl, q_ldpN ag3 rfl (by repeat (first | exact .here | assumption | (apply HAt.left; assumption) | apply HAt.there | apply HAt.right)) (by first | rfl | assumption | (simp [*]; done) | fail) (by first | rfl | assumption | (simp [*]; done) | fail) (by constructor)⟩) rfl ?_ | refine glq rfl (.inl ⟨rfl, q_ld1N ag3 rfl (by constructor)⟩) rfl ?_
    first | refine glq rfl (.inl ⟨rfl, e_callN cb84 (pick84_c _ _ hc.1 hc.2 (by omega) _) rfl rfl⟩) rfl ?_ | refine glq rfl (.inl ⟨rfl, e_callN cb84 (ACall.arg (pick84_c _ _ hc.1 hc.2 (by omega) _) (by repeat (first | exact ArgL.nil | (apply ArgL.cons; (· first | exact .same | exact .cro | exact .nil))))) rfl rfl⟩) rfl ?_
    refine glq rfl (.inl ⟨rfl, q_iaA Try.underlying155 sz3 rfl rfl (by omega) (by omega) rfl⟩) rfl ?_
    first | refine glq rfl (.inl ⟨rfl, q_ldpN ag3 rfl (by repeat (first | exact .here | assumption | (apply HAt.left; assumption) | apply HAt.there | apply HAt.right)) (by first | rfl | assumption | (simp [*]; done) | fail) (by first | rfl | assumption | (simp [*]; done) | fail) (by constructor)⟩) rfl ?_ | refine glq rfl (.inl ⟨rfl, q_ld1N ag3 rfl (by constructor)⟩) rfl ?_
    first | refine glq rfl (.inl ⟨rfl, e_callN cb84 (hfrm ▸ pick84_c _ _ hd.1 hd.2 (by omega) _) rfl rfl⟩) rfl ?_ | refine glq rfl (.inl ⟨rfl, e_callN cb84 (ACall.arg (hfrm ▸ pick84_c _ _ hd.1 hd.2 (by omega) _) (by repeat (first | exact ArgL.nil | (apply ArgL.cons; (· first | exact .same | exact .cro | exact .nil))))) rfl rfl⟩) rfl ?_
    refine glq rfl (.inl ⟨rfl, q_bd st103 zr103 (by first | ((repeat constructor); done) | exact .same _) (by repeat (first | exact BD.nil | (apply BD.cons; (· rfl); (· constructor); (· rfl); (· rfl); (· exact Nat.le_of_ble_eq_true (by rfl)); (· exact (by first | ((repeat constructor); done) | exact .same _)))))⟩) rfl ?_
    (refine gla rfl rfl (EOp.frame (e_al (xs := [.lit (.bool false), .lit (.int .i64 0), .lit (.int .i64 0), .lit (.int .i64 0), .lit (.bool false), .lit (.int .i64 0), .lit (.int .i64 0)]) (k := 7) zr103 (.same _) rfl)) rfl ?_; rintro _ _ ⟨u3, rfl, rfl⟩)
    refine gldA ?_
    first | (refine aen rfl (e_stW sz103 rfl (by repeat (first | exact .here | assumption | (apply HAt.left; assumption) | apply HAt.there | apply HAt.right)) (by constructor) (by first | rfl | assumption | (simp [*]; done) | fail) rfl (by repeat (first | exact .here | apply HSet.there))) ?_; rintro _ _ ⟨rfl, rfl⟩) | (refine aen rfl (e_stP sz103 rfl (by repeat (first | exact .here | assumption | (apply HAt.left; assumption) | apply HAt.there | apply HAt.right)) (by first | rfl | assumption | (simp [*]; done) | fail) (by constructor) (by first | rfl | assumption | (simp [*]; done) | fail) rfl (by first | decide | omega) (by first | ((repeat constructor); done) | exact .same _) (by first | exact .one | exact .set) (by repeat (first | exact .here | apply HSet.there))) ?_; rintro _ _ ⟨rfl, rfl⟩)
    refine alist_nil ?_
    show AWP _ _ _ _
    refine awp_seq ?_
    refine awp_draw 8 [(0, false), (1, false), (2, false), (3, false), (4, false), (5, false), (6, false), (7, false)] _ ([]) mixed (by kernel_rfl) (perm0 _) ?_
    first | refine glq rfl (.inl ⟨rfl, q_fapP fl103_5 (by decide) rfl rfl⟩) rfl ?_ | refine glq rfl (.inl ⟨rfl, q_faP fl103_5 (by decide) rfl (by first | ((repeat constructor); done) | exact .same _)⟩) rfl ?_
    first | refine glq rfl (.inl ⟨rfl, q_ldpN ag3 rfl (by repeat (first | exact .here | assumption | (apply HAt.left; assumption) | apply HAt.there | apply HAt.right)) (by first | rfl | assumption | (simp [*]; done) | fail) (by first | rfl | assumption | (simp [*]; done) | fail) (by constructor)⟩) rfl ?_ | refine glq rfl (.inl ⟨rfl, q_ld1N ag3 rfl (by constructor)⟩) rfl ?_
    refine glq rfl (.inl ⟨rfl, q_iaA Try.underlying155 sz3 rfl rfl (by omega) (by omega) rfl⟩) rfl ?_
    first | refine glq rfl (.inl ⟨rfl, q_ldpN ag3 rfl (by repeat (first | exact .here | assumption | (apply HAt.left; assumption) | apply HAt.there | apply HAt.right)) (by first | rfl | assumption | (simp [*]; done) | fail) (by first | rfl | assumption | (simp [*]; done) | fail) (by constructor)⟩) rfl ?_ | refine glq rfl (.inl ⟨rfl, q_ld1N ag3 rfl (by constructor)⟩) rfl ?_
    first | refine glq rfl (.inl ⟨rfl, castQ (r2 := .lit (.int .i64 (x.d.tdiv 12))) (q_quo64 rfl rfl (by omega) (by omega) (by omega)) (by rw [wrap_i64 d2.1 d2.2])⟩) rfl ?_ | refine glq rfl (.inl ⟨rfl, castQ (r2 := .lit (.int .i64 (x.d.tdiv 12))) (q_quo rfl rfl (by first | decide | omega)) (by rw [wrap_i64 d2.1 d2.2])⟩) rfl ?_
    first | refine glq rfl (.inl ⟨rfl, e_callN cb84 (pick84_c _ _ d2.1 d2.2 (by omega) _) rfl rfl⟩) rfl ?_ | refine glq rfl (.inl ⟨rfl, e_callN cb84 (ACall.arg (pick84_c _ _ d2.1 d2.2 (by omega) _) (by repeat (first | exact ArgL.nil | (apply ArgL.cons; (· first | exact .same | exact .cro | exact .nil))))) rfl rfl⟩) rfl ?_
    first | refine glq rfl (.inl ⟨rfl, castQ (r2 := .lit (.int .i64 t0)) (q_add64 rfl rfl (by omega) (by omega)) (by rw [ht0])⟩) rfl ?_ | refine glq rfl (.inl ⟨rfl, castQ (r2 := .lit (.int .i64 t0)) (q_add rfl rfl) (by rw [ht0])⟩) rfl ?_
    first | refine glq rfl (.inl ⟨rfl, q_fapP fl103_6 (by decide) rfl rfl⟩) rfl ?_ | refine glq rfl (.inl ⟨rfl, q_faP fl103_6 (by decide) rfl (by first | ((repeat constructor); done) | exact .same _)⟩) rfl ?_
    (first | refine gld0 ?_ | refine gldA ?_)
    first | (refine aen rfl (e_stW sz3 rfl (by repeat (first | exact .here | assumption | (apply HAt.left; assumption) | apply HAt.there | apply HAt.right)) (by constructor) (by first | rfl | assumption | (simp [*]; done) | fail) rfl (by repeat (first | exact .here | apply HSet.there))) ?_; rintro _ _ ⟨rfl, rfl⟩) | (refine aen rfl (e_stP sz3 rfl (by repeat (first | exact .here | assumption | (apply HAt.left; assumption) | apply HAt.there | apply HAt.right)) (by first | rfl | assumption | (simp [*]; done) | fail) (by constructor) (by first | rfl | assumption | (simp [*]; done) | fail) rfl (by first | decide | omega) (by first | ((repeat constructor); done) | exact .same _) (by first | exact .one | exact .set) (by repeat (first | exact .here | apply HSet.there))) ?_; rintro _ _ ⟨rfl, rfl⟩)
    refine alist_nil ?_
    show AWP _ _ _ _
    refine awp_join (fun _ : Unit => ⟨[(1, .ptr u1 0 0), (2, .ptr u2 0 0), (3, .ptr u3 0 0)], 55, [(u2, .arr 103 7 [[.lit (.bool false), .lit (.int .i64 0), .lit (.int .i64 0), .lit (.int .i64 0), .lit (.bool false), .lit (.int .i64 0), .lit (.int .i64 0)]]), (u1, .arr 155 4 [x.cells]), (u3, .arr 103 7 [[.lit (.bool put), .lit (.int .i64 (pick (x.a.tdiv 2) 4)), .lit (.int .i64 (pick x.b 3)), .lit (.int .i64 (pick x.c 3)), .lit (.bool false), .lit (.int .i64 frm), .lit (.int .i64 to)]])]⟩) (fun _ => True) ?_ ?_
    · skip
      refine awp_seq ?_
      refine awp_region ?_
      first | refine aqs rfl (q_fapP fl103_6 (by decide) rfl rfl) rfl ?_ | refine aqs rfl (q_faP fl103_6 (by decide) rfl (by first | ((repeat constructor); done) | exact .same _)) rfl ?_
      first | refine aqs rfl (q_ldpN ag3 rfl (by repeat (first | exact .here | assumption | (apply HAt.left; assumption) | apply HAt.there | apply HAt.right)) (by first | rfl | assumption | (simp [*]; done) | fail) (by first | rfl | assumption | (simp [*]; done) | fail) (by constructor)) rfl ?_ | refine aqs rfl (q_ld1N ag3 rfl (by constructor)) rfl ?_
      first | refine aqs rfl (q_fapP fl103_5 (by decide) rfl rfl) rfl ?_ | refine aqs rfl (q_faP fl103_5 (by decide) rfl (by first | ((repeat constructor); done) | exact .same _)) rfl ?_
      first | refine aqs rfl (q_ldpN ag3 rfl (by repeat (first | exact .here | assumption | (apply HAt.left; assumption) | apply HAt.there | apply HAt.right)) (by first | rfl | assumption | (simp [*]; done) | fail) (by first | rfl | assumption | (simp [*]; done) | fail) (by constructor)) rfl ?_ | refine aqs rfl (q_ld1N ag3 rfl (by constructor)) rfl ?_
      refine aqs rfl (q_eql rfl rfl) rfl ?_
      refine alist_nil ?_
      show AWP _ _ _ _
      refine awp_cond rfl (fun hc0 => ?_) (fun hc0 => ?_)
      · have htf : to = -1 := by rw [hto, if_pos (by simpa using hc0)]
        refine awp_region ?_
        first | refine aqs rfl (q_fapP fl103_6 (by decide) rfl rfl) rfl ?_ | refine aqs rfl (q_faP fl103_6 (by decide) rfl (by first | ((repeat constructor); done) | exact .same _)) rfl ?_
        first | (refine aen rfl (e_stW sz3 rfl (by repeat (first | exact .here | assumption | (apply HAt.left; assumption) | apply HAt.there | apply HAt.right)) (by constructor) (by first | rfl | assumption | (simp [*]; done) | fail) rfl (by repeat (first | exact .here | apply HSet.there))) ?_; rintro _ _ ⟨rfl, rfl⟩) | (refine aen rfl (e_stP sz3 rfl (by repeat (first | exact .here | assumption | (apply HAt.left; assumption) | apply HAt.there | apply HAt.right)) (by first | rfl | assumption | (simp [*]; done) | fail) (by constructor) (by first | rfl | assumption | (simp [*]; done) | fail) rfl (by first | decide | omega) (by first | ((repeat constructor); done) | exact .same _) (by first | exact .one | exact .set) (by repeat (first | exact .here | apply HSet.there))) ?_; rintro _ _ ⟨rfl, rfl⟩)
        refine alist_nil ?_
        show ∃ y, _ ∧ _
        exact ⟨(), trivial, by rw [htf]; exact .mk' ⟨by rfl, rfl, rfl, trivial⟩ (by repeat (first | exact List.Sublist.refl _ | exact List.nil_sublist _ | exact List.sublist_append_left _ _ | (apply List.Sublist.cons_cons) | (apply List.Sublist.cons)))⟩
      · have htf : to = t0 := by rw [hto, if_neg (by simpa using hc0)]
        refine awp_skip ?_
        show ∃ y, _ ∧ _
        exact ⟨(), trivial, by rw [htf]; exact .mk' ⟨by rfl, rfl, rfl, trivial⟩ (by repeat (first | exact List.Sublist.refl _ | exact List.nil_sublist _ | exact List.sublist_append_left _ _ | (apply List.Sublist.cons_cons) | (apply List.Sublist.cons)))⟩
    intro _ _
    refine awp_seq ?_
    refine awp_seq ?_
    refine awp_region ?_
    first | refine aqs rfl (q_fapP fl103_0 (by decide) rfl rfl) rfl ?_ | refine aqs rfl (q_faP fl103_0 (by decide) rfl (by first | ((repeat constructor); done) | exact .same _)) rfl ?_
    first | refine aqs rfl (q_ldpN ag4 rfl (by repeat (first | exact .here | assumption | (apply HAt.left; assumption) | apply HAt.there | apply HAt.right)) (by first | rfl | assumption | (simp [*]; done) | fail) (by first | rfl | assumption | (simp [*]; done) | fail) (by constructor)) rfl ?_ | refine aqs rfl (q_ld1N ag4 rfl (by constructor)) rfl ?_
    refine aqs rfl (castQ (r2 := .lit (.bool (!put))) (q_not rfl) (by rfl)) rfl ?_
    refine alist_nil ?_
    show AWP _ _ _ _
    refine awp_cond rfl (fun hc1 => ?_) (fun hc1 => ?_)
    · have hp : put = false := by simpa using hc1
      have hh : has = (decide (0 < pick (x.c.tdiv 3) 3) && decide (0 ≤ to)) := by rw [hhas, hp]; rfl
      refine awp_seq ?_
      refine awp_region ?_
      refine aqs rfl (q_iaA Try.underlying155 sz3 rfl rfl (by omega) (by omega) rfl) rfl ?_
      first | refine aqs rfl (q_ldpN ag3 rfl (by repeat (first | exact .here | assumption | (apply HAt.left; assumption) | apply HAt.there | apply HAt.right)) (by first | rfl | assumption | (simp [*]; done) | fail) (by first | rfl | assumption | (simp [*]; done) | fail) (by constructor)) rfl ?_ | refine aqs rfl (q_ld1N ag3 rfl (by constructor)) rfl ?_
      first | refine aqs rfl (castQ (r2 := .lit (.int .i64 (x.c.tdiv 3))) (q_quo64 rfl rfl (by omega) (by omega) (by omega)) (by rw [wrap_i64 d3.1 d3.2])) rfl ?_ | refine aqs rfl (castQ (r2 := .lit (.int .i64 (x.c.tdiv 3))) (q_quo rfl rfl (by first | decide | omega)) (by rw [wrap_i64 d3.1 d3.2])) rfl ?_
      first | refine aqs rfl (e_callN cb84 (pick84_c _ _ d3.1 d3.2 (by omega) _) rfl rfl) rfl ?_ | refine aqs rfl (e_callN cb84 (ACall.arg (pick84_c _ _ d3.1 d3.2 (by omega) _) (by repeat (first | exact ArgL.nil | (apply ArgL.cons; (· first | exact .same | exact .cro | exact .nil))))) rfl rfl) rfl ?_
      refine aqs rfl (castT (q_gtr rfl rfl) (by exact h4)) rfl ?_
      refine aqs rfl (q_mv (by constructor)) rfl ?_
      first | refine ans rfl rfl ?_ | refine aqs rfl (q_fapP fl103_6 (by decide) rfl rfl) rfl ?_ | refine aqs rfl (q_faP fl103_6 (by decide) rfl (by first | ((repeat constructor); done) | exact .same _)) rfl ?_
      first | refine ans rfl rfl ?_ | refine aqs rfl (q_ldpN ag3 rfl (by repeat (first | exact .here | assumption | (apply HAt.left; assumption) | apply HAt.there | apply HAt.right)) (by first | rfl | assumption | (simp [*]; done) | fail) (by first | rfl | assumption | (simp [*]; done) | fail) (by constructor)) rfl ?_ | refine aqs rfl (q_ld1N ag3 rfl (by constructor)) rfl ?_
      first | refine ans rfl rfl ?_ | refine aqs rfl (q_geq rfl rfl) rfl ?_
      first | refine aqs rfl (castQ (r2 := .lit (.bool has)) (q_pickT rfl (by constructor)) (by rw [hh, h4, Bool.true_and])) rfl ?_ | refine aqs rfl (castQ (r2 := .lit (.bool has)) (q_pickF rfl (by constructor)) (by rw [hh, h4, Bool.true_and])) rfl ?_
      first | refine aqs rfl (q_fapP fl103_4 (by decide) rfl rfl) rfl ?_ | refine aqs rfl (q_faP fl103_4 (by decide) rfl (by first | ((repeat constructor); done) | exact .same _)) rfl ?_
      first | (refine aen rfl (e_stW sz4 rfl (by repeat (first | exact .here | assumption | (apply HAt.left; assumption) | apply HAt.there | apply HAt.right)) (by constructor) (by first | rfl | assumption | (simp [*]; done) | fail) rfl (by repeat (first | exact .here | apply HSet.there))) ?_; rintro _ _ ⟨rfl, rfl⟩) | (refine aen rfl (e_stP sz4 rfl (by repeat (first | exact .here | assumption | (apply HAt.left; assumption) | apply HAt.there | apply HAt.right)) (by first | rfl | assumption | (simp [*]; done) | fail) (by constructor) (by first | rfl | assumption | (simp [*]; done) | fail) rfl (by first | decide | omega) (by first | ((repeat constructor); done) | exact .same _) (by first | exact .one | exact .set) (by repeat (first | exact .here | apply HSet.there))) ?_; rintro _ _ ⟨rfl, rfl⟩)
      refine alist_nil ?_
      show AWP _ _ _ _
      refine awp_seq ?_
      refine awp_region ?_
      first | refine aqs rfl (q_fapP fl103_4 (by decide) rfl rfl) rfl ?_ | refine aqs rfl (q_faP fl103_4 (by decide) rfl (by first | ((repeat constructor); done) | exact .same _)) rfl ?_
      first | refine aqs rfl (q_ldpN ag4 rfl (by repeat (first | exact .here | assumption | (apply HAt.left; assumption) | apply HAt.there | apply HAt.right)) (by first | rfl | assumption | (simp [*]; done) | fail) (by first | rfl | assumption | (simp [*]; done) | fail) (by constructor)) rfl ?_ | refine aqs rfl (q_ld1N ag4 rfl (by constructor)) rfl ?_
      refine aqs rfl (q_not rfl) rfl ?_
      refine alist_nil ?_
      show AWP _ _ _ _
      refine awp_cond rfl (fun hc2 => ?_) (fun hc2 => ?_)
      · have hf : has = false := by simpa using hc2
        have hv : (if put || has then pick x.c 3 else 0) = 0 := by rw [hp, hf]; rfl
        rw [hv]
        refine awp_region ?_
        first | refine aqs rfl (q_fapP fl103_3 (by decide) rfl rfl) rfl ?_ | refine aqs rfl (q_faP fl103_3 (by decide) rfl (by first | ((repeat constructor); done) | exact .same _)) rfl ?_
        first | (refine aen rfl (e_stW sz3 rfl (by repeat (first | exact .here | assumption | (apply HAt.left; assumption) | apply HAt.there | apply HAt.right)) (by constructor) (by first | rfl | assumption | (simp [*]; done) | fail) rfl (by repeat (first | exact .here | apply HSet.there))) ?_; rintro _ _ ⟨rfl, rfl⟩) | (refine aen rfl (e_stP sz3 rfl (by repeat (first | exact .here | assumption | (apply HAt.left; assumption) | apply HAt.there | apply HAt.right)) (by first | rfl | assumption | (simp [*]; done) | fail) (by constructor) (by first | rfl | assumption | (simp [*]; done) | fail) rfl (by first | decide | omega) (by first | ((repeat constructor); done) | exact .same _) (by first | exact .one | exact .set) (by repeat (first | exact .here | apply HSet.there))) ?_; rintro _ _ ⟨rfl, rfl⟩)
        refine alist_nil ?_
        show AWP _ _ _ _
        refine awp_seq ?_
        refine awp_region ?_
        first | refine aqs rfl (q_ldpW ag103 sz103 rfl (by repeat (first | exact .here | assumption | (apply HAt.left; assumption) | apply HAt.there | apply HAt.right)) (by first | rfl | assumption | (simp [*]; done) | fail) (by first | rfl | assumption | (simp [*]; done) | fail) (by decide)) rfl ?_ | refine aqs rfl (q_ldW ag103 sz103 rfl (by first | rfl | assumption | (simp [*]; done) | fail)) rfl ?_ | refine aqs rfl (q_ldpP ag103 sz103 rfl (by repeat (first | exact .here | assumption | (apply HAt.left; assumption) | apply HAt.there | apply HAt.right)) (by first | rfl | assumption | (simp [*]; done) | fail) (by first | decide | (simp; done) | omega | fail) (by decide) (by first | ((repeat constructor); done) | exact .same _)) rfl ?_ | refine aqs rfl (q_ldP ag103 sz103 rfl (by first | decide | (simp; done) | omega | fail) (by first | ((repeat constructor); done) | exact .same _)) rfl ?_
        first | (refine aen rfl (e_stW sz103 rfl (by repeat (first | exact .here | assumption | (apply HAt.left; assumption) | apply HAt.there | apply HAt.right)) (by constructor) (by first | rfl | assumption | (simp [*]; done) | fail) rfl (by repeat (first | exact .here | apply HSet.there))) ?_; rintro _ _ ⟨rfl, rfl⟩) | (refine aen rfl (e_stP sz103 rfl (by repeat (first | exact .here | assumption | (apply HAt.left; assumption) | apply HAt.there | apply HAt.right)) (by first | rfl | assumption | (simp [*]; done) | fail) (by constructor) (by first | rfl | assumption | (simp [*]; done) | fail) rfl (by first | decide | omega) (by first | ((repeat constructor); done) | exact .same _) (by first | exact .one | exact .set) (by repeat (first | exact .here | apply HSet.there))) ?_; rintro _ _ ⟨rfl, rfl⟩)
        refine alist_nil ?_
        show AWP _ _ _ _
        refine awp_ret ?_
        repeat first | with_reducible refine then_ret ?_ | with_reducible refine blk_ret ?_
        apply retq (.inr rfl) (.cons (rok_A ag103 sz103 rfl (by repeat (first | exact .here | assumption | (apply HAt.left; assumption) | apply HAt.there | apply HAt.right)) (by rfl)) .nil)
        rotate_left
        · exact ⟨rfl, rfl⟩
        repeat (first | exact List.Sublist.refl _ | exact List.nil_sublist _ | exact List.sublist_append_left _ _ | apply List.Sublist.cons)
      · have hf : has = true := by simpa using hc2
        have hv : (if put || has then pick x.c 3 else 0) = pick x.c 3 := by rw [hf]; simp
        rw [hv]
        refine awp_skip ?_
        show AWP _ _ _ _
        refine awp_seq ?_
        refine awp_region ?_
        first | refine aqs rfl (q_ldpW ag103 sz103 rfl (by repeat (first | exact .here | assumption | (apply HAt.left; assumption) | apply HAt.there | apply HAt.right)) (by first | rfl | assumption | (simp [*]; done) | fail) (by first | rfl | assumption | (simp [*]; done) | fail) (by decide)) rfl ?_ | refine aqs rfl (q_ldW ag103 sz103 rfl (by first | rfl | assumption | (simp [*]; done) | fail)) rfl ?_ | refine aqs rfl (q_ldpP ag103 sz103 rfl (by repeat (first | exact .here | assumption | (apply HAt.left; assumption) | apply HAt.there | apply HAt.right)) (by first | rfl | assumption | (simp [*]; done) | fail) (by first | decide | (simp; done) | omega | fail) (by decide) (by first | ((repeat constructor); done) | exact .same _)) rfl ?_ | refine aqs rfl (q_ldP ag103 sz103 rfl (by first | decide | (simp; done) | omega | fail) (by first | ((repeat constructor); done) | exact .same _)) rfl ?_
        first | (refine aen rfl (e_stW sz103 rfl (by repeat (first | exact .here | assumption | (apply HAt.left; assumption) | apply HAt.there | apply HAt.right)) (by constructor) (by first | rfl | assumption | (simp [*]; done) | fail) rfl (by repeat (first | exact .here | apply HSet.there))) ?_; rintro _ _ ⟨rfl, rfl⟩) | (refine aen rfl (e_stP sz103 rfl (by repeat (first | exact .here | assumption | (apply HAt.left; assumption) | apply HAt.there | apply HAt.right)) (by first | rfl | assumption | (simp [*]; done) | fail) (by constructor) (by first | rfl | assumption | (simp [*]; done) | fail) rfl (by first | decide | omega) (by first | ((repeat constructor); done) | exact .same _) (by first | exact .one | exact .set) (by repeat (first | exact .here | apply HSet.there))) ?_; rintro _ _ ⟨rfl, rfl⟩)
        refine alist_nil ?_
        show AWP _ _ _ _
        refine awp_ret ?_
        repeat first | with_reducible refine then_ret ?_ | with_reducible refine blk_ret ?_
        apply retq (.inr rfl) (.cons (rok_A ag103 sz103 rfl (by repeat (first | exact .here | assumption | (apply HAt.left; assumption) | apply HAt.there | apply HAt.right)) (by rfl)) .nil)
        rotate_left
        · exact ⟨rfl, rfl⟩
        repeat (first | exact List.Sublist.refl _ | exact List.nil_sublist _ | exact List.sublist_append_left _ _ | apply List.Sublist.cons)
    · have hp : put = true := by simpa using hc1
      have hf : has = false := by rw [hhas, hp]; rfl
      have hv : (if put || has then pick x.c 3 else 0) = pick x.c 3 := by rw [hp]; rfl
      rw [hv, hf]
      refine awp_skip ?_
      show AWP _ _ _ _
      refine awp_seq ?_
      refine awp_region ?_
      first | refine aqs rfl (q_ldpW ag103 sz103 rfl (by repeat (first | exact .here | assumption | (apply HAt.left; assumption) | apply HAt.there | apply HAt.right)) (by first | rfl | assumption | (simp [*]; done) | fail) (by first | rfl | assumption | (simp [*]; done) | fail) (by decide)) rfl ?_ | refine aqs rfl (q_ldW ag103 sz103 rfl (by first | rfl | assumption | (simp [*]; done) | fail)) rfl ?_ | refine aqs rfl (q_ldpP ag103 sz103 rfl (by repeat (first | exact .here | assumption | (apply HAt.left; assumption) | apply HAt.there | apply HAt.right)) (by first | rfl | assumption | (simp [*]; done) | fail) (by first | decide | (simp; done) | omega | fail) (by decide) (by first | ((repeat constructor); done) | exact .same _)) rfl ?_ | refine aqs rfl (q_ldP ag103 sz103 rfl (by first | decide | (simp; done) | omega | fail) (by first | ((repeat constructor); done) | exact .same _)) rfl ?_
      first | (refine aen rfl (e_stW sz103 rfl (by repeat (first | exact .here | assumption | (apply HAt.left; assumption) | apply HAt.there | apply HAt.right)) (by constructor) (by first | rfl | assumption | (simp [*]; done) | fail) rfl (by repeat (first | exact .here | apply HSet.there))) ?_; rintro _ _ ⟨rfl, rfl⟩) | (refine aen rfl (e_stP sz103 rfl (by repeat (first | exact .here | assumption | (apply HAt.left; assumption) | apply HAt.there | apply HAt.right)) (by first | rfl | assumption | (simp [*]; done) | fail) (by constructor) (by first | rfl | assumption | (simp [*]; done) | fail) rfl (by first | decide | omega) (by first | ((repeat constructor); done) | exact .same _) (by first | exact .one | exact .set) (by repeat (first | exact .here | apply HSet.there))) ?_; rintro _ _ ⟨rfl, rfl⟩)
      refine alist_nil ?_
      show AWP _ _ _ _
      refine awp_ret ?_
      repeat first | with_reducible refine then_ret ?_ | with_reducible refine blk_ret ?_
      apply retq (.inr rfl) (.cons (rok_A ag103 sz103 rfl (by repeat (first | exact .here | assumption | (apply HAt.left; assumption) | apply HAt.there | apply HAt.right)) (by rfl)) .nil)
      rotate_left
      · exact ⟨rfl, rfl⟩
      repeat (first | exact List.Sublist.refl _ | exact List.nil_sublist _ | exact List.sublist_append_left _ _ | apply List.Sublist.cons)
  | false =>
    refine acall_intro (n := 55) (rvs := [.cell 2 103]) Try.func137 rfl rfl rfl (Nat.le_of_ble_eq_true rfl) ?_
    refine awp_seq ?_
    refine awp_region ?_
    (refine aes rfl (e_bx (by constructor) rfl rfl) rfl ?_; rintro _ _ ⟨u1, rfl, rfl⟩)
    (refine aes rfl (e_al (xs := [.lit (.bool false), .lit (.int .i64 0), .lit (.int .i64 0), .lit (.int .i64 0), .lit (.bool false), .lit (.int .i64 0), .lit (.int .i64 0)]) (k := 7) zr103 (.same _) rfl) rfl ?_; rintro _ _ ⟨u2, rfl, rfl⟩)
    refine alist_nil ?_
    show AWP _ _ _ _
    refine awp_seq ?_
    refine awp_draw 19 [(0, false), (1, false), (2, false), (3, false), (4, false), (5, false), (6, false), (7, false), (8, false), (9, false), (10, false), (11, false), (12, false), (13, false), (14, false), (15, false), (16, false), (17, false), (18, true)] _ ([]) mixed (by kernel_rfl) (perm0 _) ?_
    refine glq rfl (.inl ⟨rfl, q_iaA Try.underlying155 sz3 rfl rfl (by omega) (by omega) rfl⟩) rfl ?_
    first | refine glq rfl (.inl ⟨rfl, q_ldpN ag3 rfl (by repeat (first | exact .here | assumption | (apply HAt.left; assumption) | apply HAt.there | apply HAt.right)) (by first | rfl | assumption | (simp [*]; done) | fail) (by first | rfl | assumption | (simp [*]; done) | fail) (by constructor)⟩) rfl ?_ | refine glq rfl (.inl ⟨rfl, q_ld1N ag3 rfl (by constructor)⟩) rfl ?_
    first | refine glq rfl (.inl ⟨rfl, e_callN cb84 (pick84_c _ _ ha.1 ha.2 (by omega) _) rfl rfl⟩) rfl ?_ | refine glq rfl (.inl ⟨rfl, e_callN cb84 (ACall.arg (pick84_c _ _ ha.1 ha.2 (by omega) _) (by repeat (first | exact ArgL.nil | (apply ArgL.cons; (· first | exact .same | exact .cro | exact .nil))))) rfl rfl⟩) rfl ?_
    refine glq rfl (.inl ⟨rfl, castQ (r2 := .lit (.bool put)) (q_eql rfl rfl) (by rw [hput])⟩) rfl ?_
    refine glq rfl (.inl ⟨rfl, q_iaA Try.underlying155 sz3 rfl rfl (by omega) (by omega) rfl⟩) rfl ?_
    first | refine glq rfl (.inl ⟨rfl, q_ldpN ag3 rfl (by repeat (first | exact .here | assumption | (apply HAt.left; assumption) | apply HAt.there | apply HAt.right)) (by first | rfl | assumption | (simp [*]; done) | fail) (by first | rfl | assumption | (simp [*]; done) | fail) (by constructor)⟩) rfl ?_ | refine glq rfl (.inl ⟨rfl, q_ld1N ag3 rfl (by constructor)⟩) rfl ?_
    first | refine glq rfl (.inl ⟨rfl, castQ (r2 := .lit (.int .i64 (x.a.tdiv 2))) (q_quo64 rfl rfl (by omega) (by omega) (by omega)) (by rw [wrap_i64 d1.1 d1.2])⟩) rfl ?_ | refine glq rfl (.inl ⟨rfl, castQ (r2 := .lit (.int .i64 (x.a.tdiv 2))) (q_quo rfl rfl (by first | decide | omega)) (by rw [wrap_i64 d1.1 d1.2])⟩) rfl ?_
    first | refine glq rfl (.inl ⟨rfl, e_callN cb84 (pick84_c _ _ d1.1 d1.2 (by omega) _) rfl rfl⟩) rfl ?_ | refine glq rfl (.inl ⟨rfl, e_callN cb84 (ACall.arg (pick84_c _ _ d1.1 d1.2 (by omega) _) (by repeat (first | exact ArgL.nil | (apply ArgL.cons; (· first | exact .same | exact .cro | exact .nil))))) rfl rfl⟩) rfl ?_
    refine glq rfl (.inl ⟨rfl, q_iaA Try.underlying155 sz3 rfl rfl (by omega) (by omega) rfl⟩) rfl ?_
    first | refine glq rfl (.inl ⟨rfl, q_ldpN ag3 rfl (by repeat (first | exact .here | assumption | (apply HAt.left; assumption) | apply HAt.there | apply HAt.right)) (by first | rfl | assumption | (simp [*]; done) | fail) (by first | rfl | assumption | (simp [*]; done) | fail) (by constructor)⟩) rfl ?_ | refine glq rfl (.inl ⟨rfl, q_ld1N ag3 rfl (by constructor)⟩) rfl ?_
    first | refine glq rfl (.inl ⟨rfl, e_callN cb84 (pick84_c _ _ hb.1 hb.2 (by omega) _) rfl rfl⟩) rfl ?_ | refine glq rfl (.inl ⟨rfl, e_callN cb84 (ACall.arg (pick84_c _ _ hb.1 hb.2 (by omega) _) (by repeat (first | exact ArgL.nil | (apply ArgL.cons; (· first | exact .same | exact .cro | exact .nil))))) rfl rfl⟩) rfl ?_
    refine glq rfl (.inl ⟨rfl, q_iaA Try.underlying155 sz3 rfl rfl (by omega) (by omega) rfl⟩) rfl ?_
    first | refine glq rfl (.inl ⟨rfl, q_ldpN ag3 rfl (by repeat (first | exact .here | assumption | (apply HAt.left; assumption) | apply HAt.there | apply HAt.right)) (by first | rfl | assumption | (simp [*]; done) | fail) (by first | rfl | assumption | (simp [*]; done) | fail) (by constructor)⟩) rfl ?_ | refine glq rfl (.inl ⟨rfl, q_ld1N ag3 rfl (by constructor)⟩) rfl ?_
    first | refine glq rfl (.inl ⟨rfl, e_callN cb84 (pick84_c _ _ hc.1 hc.2 (by omega) _) rfl rfl⟩) rfl ?_ | refine glq rfl (.inl ⟨rfl, e_callN cb84 (ACall.arg (pick84_c _ _ hc.1 hc.2 (by omega) _) (by repeat (first | exact ArgL.nil | (apply ArgL.cons; (· first | exact .same | exact .cro | exact .nil))))) rfl rfl⟩) rfl ?_
    refine glq rfl (.inl ⟨rfl, q_iaA Try.underlying155 sz3 rfl rfl (by omega) (by omega) rfl⟩) rfl ?_
    first | refine glq rfl (.inl ⟨rfl, q_ldpN ag3 rfl (by repeat (first | exact .here | assumption | (apply HAt.left; assumption) | apply HAt.there | apply HAt.right)) (by first | rfl | assumption | (simp [*]; done) | fail) (by first | rfl | assumption | (simp [*]; done) | fail) (by constructor)⟩) rfl ?_ | refine glq rfl (.inl ⟨rfl, q_ld1N ag3 rfl (by constructor)⟩) rfl ?_
    first | refine glq rfl (.inl ⟨rfl, e_callN cb84 (hfrm ▸ pick84_c _ _ hd.1 hd.2 (by omega) _) rfl rfl⟩) rfl ?_ | refine glq rfl (.inl ⟨rfl, e_callN cb84 (ACall.arg (hfrm ▸ pick84_c _ _ hd.1 hd.2 (by omega) _) (by repeat (first | exact ArgL.nil | (apply ArgL.cons; (· first | exact .same | exact .cro | exact .nil))))) rfl rfl⟩) rfl ?_
    refine glq rfl (.inl ⟨rfl, q_bd st103 zr103 (by first | ((repeat constructor); done) | exact .same _) (by repeat (first | exact BD.nil | (apply BD.cons; (· rfl); (· constructor); (· rfl); (· rfl); (· exact Nat.le_of_ble_eq_true (by rfl)); (· exact (by first | ((repeat constructor); done) | exact .same _)))))⟩) rfl ?_
    (refine gla rfl rfl (EOp.frame (e_al (xs := [.lit (.bool false), .lit (.int .i64 0), .lit (.int .i64 0), .lit (.int .i64 0), .lit (.bool false), .lit (.int .i64 0), .lit (.int .i64 0)]) (k := 7) zr103 (.same _) rfl)) rfl ?_; rintro _ _ ⟨u3, rfl, rfl⟩)
    refine gldA ?_
    first | (refine aen rfl (e_stW sz103 rfl (by repeat (first | exact .here | assumption | (apply HAt.left; assumption) | apply HAt.there | apply HAt.right)) (by constructor) (by first | rfl | assumption | (simp [*]; done) | fail) rfl (by repeat (first | exact .here | apply HSet.there))) ?_; rintro _ _ ⟨rfl, rfl⟩) | (refine aen rfl (e_stP sz103 rfl (by repeat (first | exact .here | assumption | (apply HAt.left; assumption) | apply HAt.there | apply HAt.right)) (by first | rfl | assumption | (simp [*]; done) | fail) (by constructor) (by first | rfl | assumption | (simp [*]; done) | fail) rfl (by first | decide | omega) (by first | ((repeat constructor); done) | exact .same _) (by first | exact .one | exact .set) (by repeat (first | exact .here | apply HSet.there))) ?_; rintro _ _ ⟨rfl, rfl⟩)
    refine alist_nil ?_
    show AWP _ _ _ _
    refine awp_seq ?_
    refine awp_draw 8 [(0, false), (1, false), (2, false), (3, false), (4, false), (5, false), (6, false), (7, false)] _ ([]) mixed (by kernel_rfl) (perm0 _) ?_
    first | refine glq rfl (.inl ⟨rfl, q_fapP fl103_5 (by decide) rfl rfl⟩) rfl ?_ | refine glq rfl (.inl ⟨rfl, q_faP fl103_5 (by decide) rfl (by first | ((repeat constructor); done) | exact .same _)⟩) rfl ?_
    first | refine glq rfl (.inl ⟨rfl, q_ldpN ag3 rfl (by repeat (first | exact .here | assumption | (apply HAt.left; assumption) | apply HAt.there | apply HAt.right)) (by first | rfl | assumption | (simp [*]; done) | fail) (by first | rfl | assumption | (simp [*]; done) | fail) (by constructor)⟩) rfl ?_ | refine glq rfl (.inl ⟨rfl, q_ld1N ag3 rfl (by constructor)⟩) rfl ?_
    refine glq rfl (.inl ⟨rfl, q_iaA Try.underlying155 sz3 rfl rfl (by omega) (by omega) rfl⟩) rfl ?_
    first | refine glq rfl (.inl ⟨rfl, q_ldpN ag3 rfl (by repeat (first | exact .here | assumption | (apply HAt.left; assumption) | apply HAt.there | apply HAt.right)) (by first | rfl | assumption | (simp [*]; done) | fail) (by first | rfl | assumption | (simp [*]; done) | fail) (by constructor)⟩) rfl ?_ | refine glq rfl (.inl ⟨rfl, q_ld1N ag3 rfl (by constructor)⟩) rfl ?_
    first | refine glq rfl (.inl ⟨rfl, castQ (r2 := .lit (.int .i64 (x.d.tdiv 12))) (q_quo64 rfl rfl (by omega) (by omega) (by omega)) (by rw [wrap_i64 d2.1 d2.2])⟩) rfl ?_ | refine glq rfl (.inl ⟨rfl, castQ (r2 := .lit (.int .i64 (x.d.tdiv 12))) (q_quo rfl rfl (by first | decide | omega)) (by rw [wrap_i64 d2.1 d2.2])⟩) rfl ?_
    first | refine glq rfl (.inl ⟨rfl, e_callN cb84 (pick84_c _ _ d2.1 d2.2 (by omega) _) rfl rfl⟩) rfl ?_ | refine glq rfl (.inl ⟨rfl, e_callN cb84 (ACall.arg (pick84_c _ _ d2.1 d2.2 (by omega) _) (by repeat (first | exact ArgL.nil | (apply ArgL.cons; (· first | exact .same | exact .cro | exact .nil))))) rfl rfl⟩) rfl ?_
    first | refine glq rfl (.inl ⟨rfl, castQ (r2 := .lit (.int .i64 t0)) (q_add64 rfl rfl (by omega) (by omega)) (by rw [ht0])⟩) rfl ?_ | refine glq rfl (.inl ⟨rfl, castQ (r2 := .lit (.int .i64 t0)) (q_add rfl rfl) (by rw [ht0])⟩) rfl ?_
    first | refine glq rfl (.inl ⟨rfl, q_fapP fl103_6 (by decide) rfl rfl⟩) rfl ?_ | refine glq rfl (.inl ⟨rfl, q_faP fl103_6 (by decide) rfl (by first | ((repeat constructor); done) | exact .same _)⟩) rfl ?_
    (first | refine gld0 ?_ | refine gldA ?_)
    first | (refine aen rfl (e_stW sz3 rfl (by repeat (first | exact .here | assumption | (apply HAt.left; assumption) | apply HAt.there | apply HAt.right)) (by constructor) (by first | rfl | assumption | (simp [*]; done) | fail) rfl (by repeat (first | exact .here | apply HSet.there))) ?_; rintro _ _ ⟨rfl, rfl⟩) | (refine aen rfl (e_stP sz3 rfl (by repeat (first | exact .here | assumption | (apply HAt.left; assumption) | apply HAt.there | apply HAt.right)) (by first | rfl | assumption | (simp [*]; done) | fail) (by constructor) (by first | rfl | assumption | (simp [*]; done) | fail) rfl (by first | decide | omega) (by first | ((repeat constructor); done) | exact .same _) (by first | exact .one | exact .set) (by repeat (first | exact .here | apply HSet.there))) ?_; rintro _ _ ⟨rfl, rfl⟩)
    refine alist_nil ?_
    show AWP _ _ _ _
    refine awp_join (fun _ : Unit => ⟨[(1, .ptr u1 0 0), (2, .ptr u2 0 0), (3, .ptr u3 0 0)], 55, [(u2, .arr 103 7 [[.lit (.bool false), .lit (.int .i64 0), .lit (.int .i64 0), .lit (.int .i64 0), .lit (.bool false), .lit (.int .i64 0), .lit (.int .i64 0)]]), (u1, .arr 155 4 [x.cells]), (u3, .arr 103 7 [[.lit (.bool put), .lit (.int .i64 (pick (x.a.tdiv 2) 4)), .lit (.int .i64 (pick x.b 3)), .lit (.int .i64 (pick x.c 3)), .lit (.bool false), .lit (.int .i64 frm), .lit (.int .i64 to)]])]⟩) (fun _ => True) ?_ ?_
    · skip
      refine awp_seq ?_
      refine awp_region ?_
      first | refine aqs rfl (q_fapP fl103_6 (by decide) rfl rfl) rfl ?_ | refine aqs rfl (q_faP fl103_6 (by decide) rfl (by first | ((repeat constructor); done) | exact .same _)) rfl ?_
      first | refine aqs rfl (q_ldpN ag3 rfl (by repeat (first | exact .here | assumption | (apply HAt.left; assumption) | apply HAt.there | apply HAt.right)) (by first | rfl | assumption | (simp [*]; done) | fail) (by first | rfl | assumption | (simp [*]; done) | fail) (by constructor)) rfl ?_ | refine aqs rfl (q_ld1N ag3 rfl (by constructor)) rfl ?_
      first | refine aqs rfl (q_fapP fl103_5 (by decide) rfl rfl) rfl ?_ | refine aqs rfl (q_faP fl103_5 (by decide) rfl (by first | ((repeat constructor); done) | exact .same _)) rfl ?_
      first | refine aqs rfl (q_ldpN ag3 rfl (by repeat (first | exact .here | assumption | (apply HAt.left; assumption) | apply HAt.there | apply HAt.right)) (by first | rfl | assumption | (simp [*]; done) | fail) (by first | rfl | assumption | (simp [*]; done) | fail) (by constructor)) rfl ?_ | refine aqs rfl (q_ld1N ag3 rfl (by constructor)) rfl ?_
      refine aqs rfl (q_eql rfl rfl) rfl ?_
      refine alist_nil ?_
      show AWP _ _ _ _
      refine awp_cond rfl (fun hc0 => ?_) (fun hc0 => ?_)
      · have htf : to = -1 := by rw [hto, if_pos (by simpa using hc0)]
        refine awp_region ?_
        first | refine aqs rfl (q_fapP fl103_6 (by decide) rfl rfl) rfl ?_ | refine aqs rfl (q_faP fl103_6 (by decide) rfl (by first | ((repeat constructor); done) | exact .same _)) rfl ?_
        first | (refine aen rfl (e_stW sz3 rfl (by repeat (first | exact .here | assumption | (apply HAt.left; assumption) | apply HAt.there | apply HAt.right)) (by constructor) (by first | rfl | assumption | (simp [*]; done) | fail) rfl (by repeat (first | exact .here | apply HSet.there))) ?_; rintro _ _ ⟨rfl, rfl⟩) | (refine aen rfl (e_stP sz3 rfl (by repeat (first | exact .here | assumption | (apply HAt.left; assumption) | apply HAt.there | apply HAt.right)) (by first | rfl | assumption | (simp [*]; done) | fail) (by constructor) (by first | rfl | assumption | (simp [*]; done) | fail) rfl (by first | decide | omega) (by first | ((repeat constructor); done) | exact .same _) (by first | exact .one | exact .set) (by repeat (first | exact .here | apply HSet.there))) ?_; rintro _ _ ⟨rfl, rfl⟩)
        refine alist_nil ?_
        show ∃ y, _ ∧ _
        exact ⟨(), trivial, by rw [htf]; exact .mk' ⟨by rfl, rfl, rfl, trivial⟩ (by repeat (first | exact List.Sublist.refl _ | exact List.nil_sublist _ | exact List.sublist_append_left _ _ | (apply List.Sublist.cons_cons) | (apply List.Sublist.cons)))⟩
      · have htf : to = t0 := by rw [hto, if_neg (by simpa using hc0)]
        refine awp_skip ?_
        show ∃ y, _ ∧ _
        exact ⟨(), trivial, by rw [htf]; exact .mk' ⟨by rfl, rfl, rfl, trivial⟩ (by repeat (first | exact List.Sublist.refl _ | exact List.nil_sublist _ | exact List.sublist_append_left _ _ | (apply List.Sublist.cons_cons) | (apply List.Sublist.cons)))⟩
    intro _ _
    refine awp_seq ?_
    refine awp_seq ?_
    refine awp_region ?_
    first | refine aqs rfl (q_fapP fl103_0 (by decide) rfl rfl) rfl ?_ | refine aqs rfl (q_faP fl103_0 (by decide) rfl (by first | ((repeat constructor); done) | exact .same _)) rfl ?_
    first | refine aqs rfl (q_ldpN ag4 rfl (by repeat (first | exact .here | assumption | (apply HAt.left; assumption) | apply HAt.there | apply HAt.right)) (by first | rfl | assumption | (simp [*]; done) | fail) (by first | rfl | assumption | (simp [*]; done) | fail) (by constructor)) rfl ?_ | refine aqs rfl (q_ld1N ag4 rfl (by constructor)) rfl ?_
    refine aqs rfl (castQ (r2 := .lit (.bool (!put))) (q_not rfl) (by rfl)) rfl ?_
    refine alist_nil ?_
    show AWP _ _ _ _
    refine awp_cond rfl (fun hc1 => ?_) (fun hc1 => ?_)
    · have hp : put = false := by simpa using hc1
      have hh : has = (decide (0 < pick (x.c.tdiv 3) 3) && decide (0 ≤ to)) := by rw [hhas, hp]; rfl
      refine awp_seq ?_
      refine awp_region ?_
      refine aqs rfl (q_iaA Try.underlying155 sz3 rfl rfl (by omega) (by omega) rfl) rfl ?_
      first | refine aqs rfl (q_ldpN ag3 rfl (by repeat (first | exact .here | assumption | (apply HAt.left; assumption) | apply HAt.there | apply HAt.right)) (by first | rfl | assumption | (simp [*]; done) | fail) (by first | rfl | assumption | (simp [*]; done) | fail) (by constructor)) rfl ?_ | refine aqs rfl (q_ld1N ag3 rfl (by constructor)) rfl ?_
      first | refine aqs rfl (castQ (r2 := .lit (.int .i64 (x.c.tdiv 3))) (q_quo64 rfl rfl (by omega) (by omega) (by omega)) (by rw [wrap_i64 d3.1 d3.2])) rfl ?_ | refine aqs rfl (castQ (r2 := .lit (.int .i64 (x.c.tdiv 3))) (q_quo rfl rfl (by first | decide | omega)) (by rw [wrap_i64 d3.1 d3.2])) rfl ?_
      first | refine aqs rfl (e_callN cb84 (pick84_c _ _ d3.1 d3.2 (by omega) _) rfl rfl) rfl ?_ | refine aqs rfl (e_callN cb84 (ACall.arg (pick84_c _ _ d3.1 d3.2 (by omega) _) (by repeat (first | exact ArgL.nil | (apply ArgL.cons; (· first | exact .same | exact .cro | exact .nil))))) rfl rfl) rfl ?_
      refine aqs rfl (castF (q_gtr rfl rfl) (by exact h4)) rfl ?_
      refine aqs rfl (q_mv (by constructor)) rfl ?_
      first | refine ans rfl rfl ?_ | refine aqs rfl (q_fapP fl103_6 (by decide) rfl rfl) rfl ?_ | refine aqs rfl (q_faP fl103_6 (by decide) rfl (by first | ((repeat constructor); done) | exact .same _)) rfl ?_
      first | refine ans rfl rfl ?_ | refine aqs rfl (q_ldpN ag3 rfl (by repeat (first | exact .here | assumption | (apply HAt.left; assumption) | apply HAt.there | apply HAt.right)) (by first | rfl | assumption | (simp [*]; done) | fail) (by first | rfl | assumption | (simp [*]; done) | fail) (by constructor)) rfl ?_ | refine aqs rfl (q_ld1N ag3 rfl (by constructor)) rfl ?_
      first | refine ans rfl rfl ?_ | refine aqs rfl (q_geq rfl rfl) rfl ?_
      first | refine aqs rfl (castQ (r2 := .lit (.bool has)) (q_pickT rfl (by constructor)) (by rw [hh, h4, Bool.false_and])) rfl ?_ | refine aqs rfl (castQ (r2 := .lit (.bool has)) (q_pickF rfl (by constructor)) (by rw [hh, h4, Bool.false_and])) rfl ?_
      first | refine aqs rfl (q_fapP fl103_4 (by decide) rfl rfl) rfl ?_ | refine aqs rfl (q_faP fl103_4 (by decide) rfl (by first | ((repeat constructor); done) | exact .same _)) rfl ?_
      first | (refine aen rfl (e_stW sz4 rfl (by repeat (first | exact .here | assumption | (apply HAt.left; assumption) | apply HAt.there | apply HAt.right)) (by constructor) (by first | rfl | assumption | (simp [*]; done) | fail) rfl (by repeat (first | exact .here | apply HSet.there))) ?_; rintro _ _ ⟨rfl, rfl⟩) | (refine aen rfl (e_stP sz4 rfl (by repeat (first | exact .here | assumption | (apply HAt.left; assumption) | apply HAt.there | apply HAt.right)) (by first | rfl | assumption | (simp [*]; done) | fail) (by constructor) (by first | rfl | assumption | (simp [*]; done) | fail) rfl (by first | decide | omega) (by first | ((repeat constructor); done) | exact .same _) (by first | exact .one | exact .set) (by repeat (first | exact .here | apply HSet.there))) ?_; rintro _ _ ⟨rfl, rfl⟩)
      refine alist_nil ?_
      show AWP _ _ _ _
      refine awp_seq ?_
      refine awp_region ?_
      first | refine aqs rfl (q_fapP fl103_4 (by decide) rfl rfl) rfl ?_ | refine aqs rfl (q_faP fl103_4 (by decide) rfl (by first | ((repeat constructor); done) | exact .same _)) rfl ?_
      first | refine aqs rfl (q_ldpN ag4 rfl (by repeat (first | exact .here | assumption | (apply HAt.left; assumption) | apply HAt.there | apply HAt.right)) (by first | rfl | assumption | (simp [*]; done) | fail) (by first | rfl | assumption | (simp [*]; done) | fail) (by constructor)) rfl ?_ | refine aqs rfl (q_ld1N ag4 rfl (by constructor)) rfl ?_
      refine aqs rfl (q_not rfl) rfl ?_
      refine alist_nil ?_
      show AWP _ _ _ _
      refine awp_cond rfl (fun hc2 => ?_) (fun hc2 => ?_)
      · have hf : has = false := by simpa using hc2
        have hv : (if put || has then pick x.c 3 else 0) = 0 := by rw [hp, hf]; rfl
        rw [hv]
        refine awp_region ?_
        first | refine aqs rfl (q_fapP fl103_3 (by decide) rfl rfl) rfl ?_ | refine aqs rfl (q_faP fl103_3 (by decide) rfl (by first | ((repeat constructor); done) | exact .same _)) rfl ?_
        first | (refine aen rfl (e_stW sz3 rfl (by repeat (first | exact .here | assumption | (apply HAt.left; assumption) | apply HAt.there | apply HAt.right)) (by constructor) (by first | rfl | assumption | (simp [*]; done) | fail) rfl (by repeat (first | exact .here | apply HSet.there))) ?_; rintro _ _ ⟨rfl, rfl⟩) | (refine aen rfl (e_stP sz3 rfl (by repeat (first | exact .here | assumption | (apply HAt.left; assumption) | apply HAt.there | apply HAt.right)) (by first | rfl | assumption | (simp [*]; done) | fail) (by constructor) (by first | rfl | assumption | (simp [*]; done) | fail) rfl (by first | decide | omega) (by first | ((repeat constructor); done) | exact .same _) (by first | exact .one | exact .set) (by repeat (first | exact .here | apply HSet.there))) ?_; rintro _ _ ⟨rfl, rfl⟩)
        refine alist_nil ?_
        show AWP _ _ _ _
        refine awp_seq ?_
        refine awp_region ?_
        first | refine aqs rfl (q_ldpW ag103 sz103 rfl (by repeat (first | exact .here | assumption | (apply HAt.left; assumption) | apply HAt.there | apply HAt.right)) (by first | rfl | assumption | (simp [*]; done) | fail) (by first | rfl | assumption | (simp [*]; done) | fail) (by decide)) rfl ?_ | refine aqs rfl (q_ldW ag103 sz103 rfl (by first | rfl | assumption | (simp [*]; done) | fail)) rfl ?_ | refine aqs rfl (q_ldpP ag103 sz103 rfl (by repeat (first | exact .here | assumption | (apply HAt.left; assumption) | apply HAt.there | apply HAt.right)) (by first | rfl | assumption | (simp [*]; done) | fail) (by first | decide | (simp; done) | omega | fail) (by decide) (by first | ((repeat constructor); done) | exact .same _)) rfl ?_ | refine aqs rfl (q_ldP ag103 sz103 rfl (by first | decide | (simp; done) | omega | fail) (by first | ((repeat constructor); done) | exact .same _)) rfl ?_
        first | (refine aen rfl (e_stW sz103 rfl (by repeat (first | exact .here | assumption | (apply HAt.left; assumption) | apply HAt.there | apply HAt.right)) (by constructor) (by first | rfl | assumption | (simp [*]; done) | fail) rfl (by repeat (first | exact .here | apply HSet.there))) ?_; rintro _ _ ⟨rfl, rfl⟩) | (refine aen rfl (e_stP sz103 rfl (by repeat (first | exact .here | assumption | (apply HAt.left; assumption) | apply HAt.there | apply HAt.right)) (by first | rfl | assumption | (simp [*]; done) | fail) (by constructor) (by first | rfl | assumption | (simp [*]; done) | fail) rfl (by first | decide | omega) (by first | ((repeat constructor); done) | exact .same _) (by first | exact .one | exact .set) (by repeat (first | exact .here | apply HSet.there))) ?_; rintro _ _ ⟨rfl, rfl⟩)
        refine alist_nil ?_
        show AWP _ _ _ _
        refine awp_ret ?_
        repeat first | with_reducible refine then_ret ?_ | with_reducible refine blk_ret ?_
        apply retq (.inr rfl) (.cons (rok_A ag103 sz103 rfl (by repeat (first | exact .here | assumption | (apply HAt.left; assumption) | apply HAt.there | apply HAt.right)) (by rfl)) .nil)
        rotate_left
        · exact ⟨rfl, rfl⟩
        repeat (first | exact List.Sublist.refl _ | exact List.nil_sublist _ | exact List.sublist_append_left _ _ | apply List.Sublist.cons)
      · have hf : has = true := by simpa using hc2
        have hv : (if put || has then pick x.c 3 else 0) = pick x.c 3 := by rw [hf]; simp
        rw [hv]
        refine awp_skip ?_
        show AWP _ _ _ _
        refine awp_seq ?_
        refine awp_region ?_
        first | refine aqs rfl (q_ldpW ag103 sz103 rfl (by repeat (first | exact .here | assumption | (apply HAt.left; assumption) | apply HAt.there | apply HAt.right)) (by first | rfl | assumption | (simp [*]; done) | fail) (by first | rfl | assumption | (simp [*]; done) | fail) (by decide)) rfl ?_ | refine aqs rfl (q_ldW ag103 sz103 rfl (by first | rfl | assumption | (simp [*]; done) | fail)) rfl ?_ | refine aqs rfl (q_ldpP ag103 sz103 rfl (by repeat (first | exact .here | assumption | (apply HAt.left; assumption) | apply HAt.there | apply HAt.right)) (by first | rfl | assumption | (simp [*]; done) | fail) (by first | decide | (simp; done) | omega | fail) (by decide) (by first | ((repeat constructor); done) | exact .same _)) rfl ?_ | refine aqs rfl (q_ldP ag103 sz103 rfl (by first | decide | (simp; done) | omega | fail) (by first | ((repeat constructor); done) | exact .same _)) rfl ?_
        first | (refine aen rfl (e_stW sz103 rfl (by repeat (first | exact .here | assumption | (apply HAt.left; assumption) | apply HAt.there | apply HAt.right)) (by constructor) (by first | rfl | assumption | (simp [*]; done) | fail) rfl (by repeat (first | exact .here | apply HSet.there))) ?_; rintro _ _ ⟨rfl, rfl⟩) | (refine aen rfl (e_stP sz103 rfl (by repeat (first | exact .here | assumption | (apply HAt.left; assumption) | apply HAt.there | apply HAt.right)) (by first | rfl | assumption | (simp [*]; done) | fail) (by constructor) (by first | rfl | assumption | (simp [*]; done) | fail) rfl (by first | decide | omega) (by first | ((repeat constructor); done) | exact .same _) (by first | exact .one | exact .set) (by repeat (first | exact .here | apply HSet.there))) ?_; rintro _ _ ⟨rfl, rfl⟩)
        refine alist_nil ?_
        show AWP _ _ _ _
        refine awp_ret ?_
        repeat first | with_reducible refine then_ret ?_ | with_reducible refine blk_ret ?_
        apply retq (.inr rfl) (.cons (rok_A ag103 sz103 rfl (by repeat (first | exact .here | assumption | (apply HAt.left; assumption) | apply HAt.there | apply HAt.right)) (by rfl)) .nil)
        rotate_left
        · exact ⟨rfl, rfl⟩
        repeat (first | exact List.Sublist.refl _ | exact List.nil_sublist _ | exact List.sublist_append_left _ _ | apply List.Sublist.cons)
    · have hp : put = true := by simpa using hc1
      have hf : has = false := by rw [hhas, hp]; rfl
      have hv : (if put || has then pick x.c 3 else 0) = pick x.c 3 := by rw [hp]; rfl
      rw [hv, hf]
      refine awp_skip ?_
      show AWP _ _ _ _
      refine awp_seq ?_
      refine awp_region ?_
      first | refine aqs rfl (q_ldpW ag103 sz103 rfl (by repeat (first | exact .here | assumption | (apply HAt.left; assumption) | apply HAt.there | apply HAt.right)) (by first | rfl | assumption | (simp [*]; done) | fail) (by first | rfl | assumption | (simp [*]; done) | fail) (by decide)) rfl ?_ | refine aqs rfl (q_ldW ag103 sz103 rfl (by first | rfl | assumption | (simp [*]; done) | fail)) rfl ?_ | refine aqs rfl (q_ldpP ag103 sz103 rfl (by repeat (first | exact .here | assumption | (apply HAt.left; assumption) | apply HAt.there | apply HAt.right)) (by first | rfl | assumption | (simp [*]; done) | fail) (by first | decide | (simp; done) | omega | fail) (by decide) (by first | ((repeat constructor); done) | exact .same _)) rfl ?_ | refine aqs rfl (q_ldP ag103 sz103 rfl (by first | decide | (simp; done) | omega | fail) (by first | ((repeat constructor); done) | exact .same _)) rfl ?_
      first | (refine aen rfl (e_stW sz103 rfl (by repeat (first | exact .here | assumption | (apply HAt.left; assumption) | apply HAt.there | apply HAt.right)) (by constructor) (by first | rfl | assumption | (simp [*]; done) | fail) rfl (by repeat (first | exact .here | apply HSet.there))) ?_; rintro _ _ ⟨rfl, rfl⟩) | (refine aen rfl (e_stP sz103 rfl (by repeat (first | exact .here | assumption | (apply HAt.left; assumption) | apply HAt.there | apply HAt.right)) (by first | rfl | assumption | (simp [*]; done) | fail) (by constructor) (by first | rfl | assumption | (simp [*]; done) | fail) rfl (by first | decide | omega) (by first | ((repeat constructor); done) | exact .same _) (by first | exact .one | exact .set) (by repeat (first | exact .here | apply HSet.there))) ?_; rintro _ _ ⟨rfl, rfl⟩)
      refine alist_nil ?_
      show AWP _ _ _ _
      refine awp_ret ?_
      repeat first | with_reducible refine then_ret ?_ | with_reducible refine blk_ret ?_
      apply retq (.inr rfl) (.cons (rok_A ag103 sz103 rfl (by repeat (first | exact .here | assumption | (apply HAt.left; assumption) | apply HAt.there | apply HAt.right)) (by rfl)) .nil)
      rotate_left
      · exact ⟨rfl, rfl⟩
      repeat (first | exact List.Sublist.refl _ | exact List.nil_sublist _ | exact List.sublist_append_left _ _ | apply List.Sublist.cons)
end Go.Proofs.YtdlinfekifnmkaaAm
