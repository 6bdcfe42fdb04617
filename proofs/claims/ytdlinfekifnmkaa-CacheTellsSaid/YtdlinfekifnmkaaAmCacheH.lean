/- Contracts of the statements' own functions of layer 14: a cache, and one turned. Conditions: none. -/
import Derived.Test.YtdlinfekifnmkaaAmCacheG
set_option linter.unusedVariables false
set_option linter.unusedSimpArgs false
set_option maxRecDepth 20000
namespace Go.Proofs.YtdlinfekifnmkaaAm
open Go.Proofs
theorem cB_at2 {bs : List Bool} {i : Nat} (h : i < bs.length) : (bs.map cB)[i]? = some [.lit (.bool (bs.getD i false))] := by
  rw [List.getElem?_map, List.getElem?_eq_getElem h, List.getD_eq_getElem?_getD, List.getElem?_eq_getElem h]; rfl
theorem text_two (a b : Int) : (textS a).size + (textS b).size ≤ 4 := by
  have h1 := textS_size a
  have h2 := textS_size b
  omega
theorem good_putT {c : Cach} (h : CGood c) (d : Tri) : CGood (putTr c d) := by
  unfold putTr
  have := text_two d.a d.b
  split
  · exact good_put h (by omega) _
  · exact h
theorem good_newT (n : Tri) : CGood (newT n) := by
  have h := (small_new n).1.right
  have a0 := pick_nonneg n.a 4 (by omega)
  refine ⟨h, fun j s hs => ?_⟩
  unfold newT newC at hs
  split at hs
  · have : pt zeroC j = [] := pt_nil (by simp [zeroC])
    rw [this] at hs; simp at hs
  · rw [pt_rep] at hs; simp at hs
theorem good_fold : ∀ (ps : List Tri) {c : Cach}, CGood c → CGood (ps.foldl putTr c)
  | [], c, h => h
  | d :: ps, c, h => good_fold ps (good_putT h d)
theorem good_cach (n : Tri) (ps : List Tri) : CGood (cachS n ps) := good_fold ps (good_newT n)
set_option maxHeartbeats 8000000 in
theorem cache110_c (n : Tri) (puts : List Tri) (wn : n.Wf) (wp : ∀ y ∈ puts, y.Wf) (H : Heap) : QCall Try.prog 110 [.agg n.cells, .ro (puts.map Tri.cells)] H (.agg (cachS n (puts.take 20)).cells) := by
  refine QCall.any H ?_
  have a0 := pick_nonneg n.a 4 (by omega)
  have a1 := pick_lt n.a 4 (by omega)
  have b0 := pick_nonneg n.b 9 (by omega)
  have b1 := pick_lt n.b 9 (by omega)
  have c0 := pick_nonneg n.c 5 (by omega)
  have c1 := pick_lt n.c 5 (by omega)
  have d0 := pick_nonneg (n.c.tdiv 5) 17 (by omega)
  have d1 := pick_lt (n.c.tdiv 5) 17 (by omega)
  have hw0 : 0 ≤ pick n.c 5 * pick (n.c.tdiv 5) 17 := Int.mul_nonneg c0 d0
  have hw1 : pick n.c 5 * pick (n.c.tdiv 5) 17 ≤ 4 * 16 := Int.mul_le_mul (by omega) (by omega) d0 (by omega)
  have hdv := tdiv_range n.c 5 wn.2.2.1 wn.2.2.2 (by omega)
  obtain ⟨e, he⟩ : ∃ e, newC (1 + pick n.a 4) (pick n.b 9) (pick n.c 5 * pick (n.c.tdiv 5) 17) = (newT n, e) := ⟨_, rfl⟩
  refine acall_intro (n := 66) (rvs := [.cell 4 136]) Try.func110 rfl rfl rfl (Nat.le_of_ble_eq_true rfl) ?_
  refine awp_seq ?_
  refine awp_region ?_
  (refine aes rfl (e_bx (by constructor) rfl rfl) rfl ?_; rintro _ _ ⟨u2, rfl, rfl⟩)
  (refine aes rfl (e_al (xs := [.lit (.int .i64 0), .lit (.int .i64 0), .lit (.slice none 0 0), .lit (.int .i64 0), .lit (.int .i64 0), .lit (.int .i64 0), .lit (.int .i64 0)]) (k := 7) zr136 (.same _) rfl) rfl ?_; rintro _ _ ⟨u4, rfl, rfl⟩)
  refine alist_nil ?_
  show AWP _ _ _ _
  refine awp_seq ?_
  refine awp_draw 21 [(0, false), (1, false), (2, false), (3, false), (4, false), (5, false), (6, false), (7, false), (8, false), (9, false), (10, false), (11, false), (12, false), (13, false), (14, false), (15, false), (16, false), (17, false), (18, false), (19, true), (20, true)] _ ([]) mixed (by kernel_rfl) (perm0 _) ?_
  first | refine glq rfl (.inl ⟨rfl, q_iaA Try.underlying83 sz3 rfl rfl (by omega) (by omega) rfl⟩) rfl ?_ | refine glq rfl (.inl ⟨rfl, q_iaI Try.underlying83 sz3 rfl rfl (by omega) (by omega) (by first | ((repeat constructor); done) | exact .same _)⟩) rfl ?_
  first | refine glq rfl (.inl ⟨rfl, q_ldpN ag3 rfl (by repeat (first | exact .here | assumption | (apply HAt.left; assumption) | apply HAt.there | apply HAt.right)) (by first | rfl | assumption | (simp [*]; done) | fail) (by first | rfl | assumption | (simp [*]; done) | fail) (by constructor)⟩) rfl ?_ | refine glq rfl (.inl ⟨rfl, q_ld1N ag3 rfl (by constructor)⟩) rfl ?_
  first | refine glq rfl (.inl ⟨rfl, e_callN cb106 (pick106_c n.a 4 wn.1.1 wn.1.2 (by omega) _) rfl rfl⟩) rfl ?_ | refine glq rfl (.inl ⟨rfl, e_callN cb106 (ACall.arg (pick106_c n.a 4 wn.1.1 wn.1.2 (by omega) _) (by repeat (first | exact ArgL.nil | (apply ArgL.cons; (· first | exact .same | exact .cro | exact .nil))))) rfl rfl⟩) rfl ?_
  first | refine glq rfl (.inl ⟨rfl, q_add64 rfl rfl (by omega) (by omega)⟩) rfl ?_ | refine glq rfl (.inl ⟨rfl, q_add rfl rfl⟩) rfl ?_
  first | refine glq rfl (.inl ⟨rfl, q_iaA Try.underlying83 sz3 rfl rfl (by omega) (by omega) rfl⟩) rfl ?_ | refine glq rfl (.inl ⟨rfl, q_iaI Try.underlying83 sz3 rfl rfl (by omega) (by omega) (by first | ((repeat constructor); done) | exact .same _)⟩) rfl ?_
  first | refine glq rfl (.inl ⟨rfl, q_ldpN ag3 rfl (by repeat (first | exact .here | assumption | (apply HAt.left; assumption) | apply HAt.there | apply HAt.right)) (by first | rfl | assumption | (simp [*]; done) | fail) (by first | rfl | assumption | (simp [*]; done) | fail) (by constructor)⟩) rfl ?_ | refine glq rfl (.inl ⟨rfl, q_ld1N ag3 rfl (by constructor)⟩) rfl ?_
  first | refine glq rfl (.inl ⟨rfl, e_callN cb106 (pick106_c n.b 9 wn.2.1.1 wn.2.1.2 (by omega) _) rfl rfl⟩) rfl ?_ | refine glq rfl (.inl ⟨rfl, e_callN cb106 (ACall.arg (pick106_c n.b 9 wn.2.1.1 wn.2.1.2 (by omega) _) (by repeat (first | exact ArgL.nil | (apply ArgL.cons; (· first | exact .same | exact .cro | exact .nil))))) rfl rfl⟩) rfl ?_
  first | refine glq rfl (.inl ⟨rfl, q_iaA Try.underlying83 sz3 rfl rfl (by omega) (by omega) rfl⟩) rfl ?_ | refine glq rfl (.inl ⟨rfl, q_iaI Try.underlying83 sz3 rfl rfl (by omega) (by omega) (by first | ((repeat constructor); done) | exact .same _)⟩) rfl ?_
  first | refine glq rfl (.inl ⟨rfl, q_ldpN ag3 rfl (by repeat (first | exact .here | assumption | (apply HAt.left; assumption) | apply HAt.there | apply HAt.right)) (by first | rfl | assumption | (simp [*]; done) | fail) (by first | rfl | assumption | (simp [*]; done) | fail) (by constructor)⟩) rfl ?_ | refine glq rfl (.inl ⟨rfl, q_ld1N ag3 rfl (by constructor)⟩) rfl ?_
  first | refine glq rfl (.inl ⟨rfl, e_callN cb106 (pick106_c n.c 5 wn.2.2.1 wn.2.2.2 (by omega) _) rfl rfl⟩) rfl ?_ | refine glq rfl (.inl ⟨rfl, e_callN cb106 (ACall.arg (pick106_c n.c 5 wn.2.2.1 wn.2.2.2 (by omega) _) (by repeat (first | exact ArgL.nil | (apply ArgL.cons; (· first | exact .same | exact .cro | exact .nil))))) rfl rfl⟩) rfl ?_
  first | refine glq rfl (.inl ⟨rfl, q_iaA Try.underlying83 sz3 rfl rfl (by omega) (by omega) rfl⟩) rfl ?_ | refine glq rfl (.inl ⟨rfl, q_iaI Try.underlying83 sz3 rfl rfl (by omega) (by omega) (by first | ((repeat constructor); done) | exact .same _)⟩) rfl ?_
  first | refine glq rfl (.inl ⟨rfl, q_ldpN ag3 rfl (by repeat (first | exact .here | assumption | (apply HAt.left; assumption) | apply HAt.there | apply HAt.right)) (by first | rfl | assumption | (simp [*]; done) | fail) (by first | rfl | assumption | (simp [*]; done) | fail) (by constructor)⟩) rfl ?_ | refine glq rfl (.inl ⟨rfl, q_ld1N ag3 rfl (by constructor)⟩) rfl ?_
  first | refine glq rfl (.inl ⟨rfl, castQ (r2 := .lit (.int .i64 (n.c.tdiv 5))) (q_quo64 rfl rfl (by omega) (by omega) (by omega)) (by rw [wrap_i64 hdv.1 hdv.2])⟩) rfl ?_ | refine glq rfl (.inl ⟨rfl, castQ (r2 := .lit (.int .i64 (n.c.tdiv 5))) (q_quo rfl rfl (by first | decide | omega)) (by rw [wrap_i64 hdv.1 hdv.2])⟩) rfl ?_
  first | refine glq rfl (.inl ⟨rfl, e_callN cb106 (pick106_c (n.c.tdiv 5) 17 hdv.1 hdv.2 (by omega) _) rfl rfl⟩) rfl ?_ | refine glq rfl (.inl ⟨rfl, e_callN cb106 (ACall.arg (pick106_c (n.c.tdiv 5) 17 hdv.1 hdv.2 (by omega) _) (by repeat (first | exact ArgL.nil | (apply ArgL.cons; (· first | exact .same | exact .cro | exact .nil))))) rfl rfl⟩) rfl ?_
  first | refine glq rfl (.inl ⟨rfl, q_mul64 rfl rfl (by omega) (by omega)⟩) rfl ?_ | refine glq rfl (.inl ⟨rfl, q_mul rfl rfl⟩) rfl ?_
  first | refine glq rfl (.inl ⟨rfl, e_callN cb108 (he ▸ new108_c (1 + pick n.a 4) (pick n.b 9) (pick n.c 5 * pick (n.c.tdiv 5) 17) _) rfl rfl⟩) rfl ?_ | refine glq rfl (.inl ⟨rfl, e_callN cb108 (ACall.arg (he ▸ new108_c (1 + pick n.a 4) (pick n.b 9) (pick n.c 5 * pick (n.c.tdiv 5) 17) _) (by repeat (first | exact ArgL.nil | (apply ArgL.cons; (· first | exact .same | exact .cro | exact .nil))))) rfl rfl⟩) rfl ?_
  refine glq rfl (.inl ⟨rfl, q_mv (by constructor)⟩) rfl ?_
  refine glq rfl (.inl ⟨rfl, q_ex rfl rfl (by constructor)⟩) rfl ?_
  refine glq rfl (.inl ⟨rfl, q_ex rfl rfl (by constructor)⟩) rfl ?_
  (refine gla rfl rfl (EOp.frame (e_al (xs := [.lit (.int .i64 0), .lit (.int .i64 0), .lit (.slice none 0 0), .lit (.int .i64 0), .lit (.int .i64 0), .lit (.int .i64 0), .lit (.int .i64 0)]) (k := 7) zr136 (.same _) rfl)) rfl ?_; rintro _ _ ⟨u5, rfl, rfl⟩)
  first | (refine gla rfl rfl (EOp.frame (e_stW sz136 rfl (by repeat (first | exact .here | assumption | (apply HAt.left; assumption) | apply HAt.there | apply HAt.right)) (by constructor) (by first | rfl | assumption | (simp [*]; done) | fail) rfl (by repeat (first | exact .here | apply HSet.there)))) rfl ?_; rintro _ _ ⟨rfl, rfl⟩) | (refine gla rfl rfl (EOp.frame (e_stP sz136 rfl (by repeat (first | exact .here | assumption | (apply HAt.left; assumption) | apply HAt.there | apply HAt.right)) (by first | rfl | assumption | (simp [*]; done) | fail) (by constructor) (by first | rfl | assumption | (simp [*]; done) | fail) rfl (by first | decide | omega) (by first | ((repeat constructor); done) | exact .same _) (by first | exact .one | exact .set) (by repeat (first | exact .here | apply HSet.there)))) rfl ?_; rintro _ _ ⟨rfl, rfl⟩)
  refine gldA ?_
  refine aqs rfl (q_as (by constructor)) rfl ?_
  refine alist_nil ?_
  show AWP _ _ _ _
  refine awp_seq ?_
  refine awp_seq ?_
  refine awp_region ?_
  refine aqs rfl (q_as (by constructor)) rfl ?_
  refine alist_nil ?_
  show AWP _ _ _ _
  refine awp_block ?_
  refine awp_loop_inv (fun i : Nat => ⟨[(7, .lit (.int .i64 i)), (1, .ro (puts.map Tri.cells)), (4, .ptr u4 0 0), (5, .ptr u5 0 0)], 66, [(u4, .arr 136 7 [zeroCells]), (u5, .arr 136 7 [(cachS n (puts.take i)).cells])]⟩) (fun i => i ≤ puts.length ∧ i ≤ 20) (fun i => 20 - i) 0 ?_ ?_ ?_
  ·exact ⟨Nat.zero_le _, Nat.zero_le _⟩
  ·exact .mk' (by repeat (first | exact trivial | refine ⟨rfl, ?_⟩)) (by repeat (first | exact .refl _ | apply List.Sublist.cons_cons | apply List.Sublist.cons))
  ·rintro i ⟨hi, hi2⟩
   have hg := good_cach n (puts.take i)
   have hcl := hg.clen
   obtain ⟨c, hc⟩ : ∃ c, c = cachS n (puts.take i) := ⟨_, rfl⟩
   rw [← hc] at hg hcl ⊢
   refine awp_seq ?_
   refine awp_mid [(36, .lit (.bool (decide ((i : Int) < (puts.map Tri.cells).length) && decide ((i : Int) < 20)))), (7, .lit (.int .i64 i)), (1, .ro (puts.map Tri.cells)), (4, .ptr u4 0 0), (5, .ptr u5 0 0)] ?_ ?_
   ·skip
    refine awp_region ?_
    all_goals (refine aqs rfl (q_mv (by constructor)) rfl ?_)
    all_goals (refine aqs rfl (q_mv (by constructor)) rfl ?_)
    all_goals (first | refine aqs rfl (q_len Try.underlying64 .ro) rfl ?_ | refine aqs rfl (q_lenO Try.underlying64 rfl (by repeat (first | exact .here | assumption | (apply HAt.left; assumption) | apply HAt.there | apply HAt.right)) (by first | omega | (simp; done) | (simp; omega) | fail) (by first | exact Nat.sub_zero _ | rfl)) rfl ?_ | refine aqs rfl (q_len Try.underlying64 .nil) rfl ?_ | refine aqs rfl (q_len Try.underlying64 .cro) rfl ?_)
    all_goals (refine aqs rfl (q_lss rfl rfl) rfl ?_)
    all_goals (refine aqs rfl (q_mv (by constructor)) rfl ?_)
    all_goals try (refine acase (fun hb4 => ?_) (fun hb4 => ?_))
    all_goals first | (exfalso; cases hb4; done) | skip
    all_goals (first | refine ans rfl rfl ?_ | refine aqs rfl (q_mv (by constructor)) rfl ?_)
    all_goals (first | refine ans rfl rfl ?_ | refine aqs rfl (q_lss rfl rfl) rfl ?_)
    all_goals (first | refine aqs rfl (q_pickT rfl (by constructor)) rfl ?_ | refine aqs rfl (q_pickF rfl (by constructor)) rfl ?_)
    all_goals (refine alist_nil ?_)
    all_goals (exact ⟨rfl, .mk' (by repeat (first | exact trivial | refine ⟨rfl, ?_⟩ | (refine ⟨?_, ?_⟩; (· first | (rw [hb4]; rfl) | fail)))) (by repeat (first | exact .refl _ | exact List.nil_sublist _ | exact List.sublist_append_left _ _ | apply List.Sublist.cons))⟩)
   refine awp_cond rfl (fun hc0 => ?_) (fun hc0 => ?_)
   ·simp only [Bool.and_eq_true, decide_eq_true_eq, List.length_map] at hc0
    obtain ⟨x, hs, hsm⟩ := get_lt (l := puts) (i := i) (by omega)
    have hs2 := get_map (f := Tri.cells) hs
    have hwx := wp x hsm
    have hnx := cach_next (n := n) hs
    rw [← hc] at hnx
    have htw := text_two x.a x.b
    obtain ⟨c', e', hp⟩ : ∃ c' e', putC c (textS x.a) (textS x.b) (textS x.c) = (c', e') := ⟨_, _, rfl⟩
    rw [putTr, hp] at hnx
    refine awp_skip ?_
    show AWP _ _ _ _
    refine awp_seq ?_
    refine awp_block ?_
    refine awp_seq ?_
    refine awp_draw 25 [(0, false), (1, false), (2, false), (3, false), (4, false), (5, false), (6, false), (7, false), (8, false), (9, false), (10, false), (11, false), (12, false), (13, false), (14, false), (15, false), (16, false), (17, false), (18, false), (19, false), (20, false), (21, false), (22, false), (23, true), (24, true)] _ ([]) mixed (by kernel_rfl) (perm0 _) ?_
    first | refine glq rfl (.inl ⟨rfl, q_ldpW ag136 sz136 rfl (by repeat (first | exact .here | assumption | (apply HAt.left; assumption) | apply HAt.there | apply HAt.right)) (by first | rfl | assumption | (simp [*]; done) | fail) (by first | rfl | assumption | (simp [*]; done) | fail) (by decide)⟩) rfl ?_ | refine glq rfl (.inl ⟨rfl, q_ldW ag136 sz136 rfl (by first | rfl | assumption | (simp [*]; done) | fail)⟩) rfl ?_ | refine glq rfl (.inl ⟨rfl, q_ldpP ag136 sz136 rfl (by repeat (first | exact .here | assumption | (apply HAt.left; assumption) | apply HAt.there | apply HAt.right)) (by first | rfl | assumption | (simp [*]; done) | fail) (by first | decide | (simp; done) | omega | fail) (by decide) (by first | ((repeat constructor); done) | exact .same _)⟩) rfl ?_ | refine glq rfl (.inl ⟨rfl, q_ldP ag136 sz136 rfl (by first | decide | (simp; done) | omega | fail) (by first | ((repeat constructor); done) | exact .same _)⟩) rfl ?_
    refine glq rfl (.inl ⟨rfl, q_mv (by constructor)⟩) rfl ?_
    refine glq rfl (.inl ⟨rfl, q_mv (by constructor)⟩) rfl ?_
    first | refine glq rfl (.inl ⟨rfl, q_iaN Try.underlying64 sz83 (.inl rfl) rfl (by omega) (by first | rfl | assumption | (simp [*]; done) | fail) (by first | rfl | assumption | (simp [*]; done) | fail) (by decide) (by first | ((repeat constructor); done) | exact .same _)⟩) rfl ?_ | refine glq rfl (.inl ⟨rfl, q_iaS Try.underlying64 sz83 rfl (by repeat (first | exact .here | assumption | (apply HAt.left; assumption) | apply HAt.there | apply HAt.right)) rfl (by omega) (by omega) (by first | exact Nat.zero_add _ | rfl)⟩) rfl ?_ | refine glq rfl (.inl ⟨rfl, q_iaN Try.underlying64 sz83 (.inr rfl) rfl (by omega) (by first | rfl | assumption | (simp [*]; done) | fail) (by first | rfl | assumption | (simp [*]; done) | fail) (by decide) (by first | ((repeat constructor); done) | exact .same _)⟩) rfl ?_
    first | refine glq rfl (.inl ⟨rfl, q_iaA Try.underlying83 sz3 rfl rfl (by omega) (by omega) rfl⟩) rfl ?_ | refine glq rfl (.inl ⟨rfl, q_iaI Try.underlying83 sz3 rfl rfl (by omega) (by omega) (by first | ((repeat constructor); done) | exact .same _)⟩) rfl ?_
    first | refine glq rfl (.inl ⟨rfl, q_ldpN ag3 rfl (by repeat (first | exact .here | assumption | (apply HAt.left; assumption) | apply HAt.there | apply HAt.right)) (by first | rfl | assumption | (simp [*]; done) | fail) (by first | rfl | assumption | (simp [*]; done) | fail) (by constructor)⟩) rfl ?_ | refine glq rfl (.inl ⟨rfl, q_ld1N ag3 rfl (by constructor)⟩) rfl ?_
    first | refine glq rfl (.inl ⟨rfl, e_callN cb96 (text96_c x.a hwx.1 _) rfl rfl⟩) rfl ?_ | refine glq rfl (.inl ⟨rfl, e_callN cb96 (ACall.arg (text96_c x.a hwx.1 _) (by repeat (first | exact ArgL.nil | (apply ArgL.cons; (· first | exact .same | exact .cro | exact .nil))))) rfl rfl⟩) rfl ?_
    refine glq rfl (.inl ⟨rfl, q_mv (by constructor)⟩) rfl ?_
    refine glq rfl (.inl ⟨rfl, q_mv (by constructor)⟩) rfl ?_
    first | refine glq rfl (.inl ⟨rfl, q_iaN Try.underlying64 sz83 (.inl rfl) rfl (by omega) (by first | rfl | assumption | (simp [*]; done) | fail) (by first | rfl | assumption | (simp [*]; done) | fail) (by decide) (by first | ((repeat constructor); done) | exact .same _)⟩) rfl ?_ | refine glq rfl (.inl ⟨rfl, q_iaS Try.underlying64 sz83 rfl (by repeat (first | exact .here | assumption | (apply HAt.left; assumption) | apply HAt.there | apply HAt.right)) rfl (by omega) (by omega) (by first | exact Nat.zero_add _ | rfl)⟩) rfl ?_ | refine glq rfl (.inl ⟨rfl, q_iaN Try.underlying64 sz83 (.inr rfl) rfl (by omega) (by first | rfl | assumption | (simp [*]; done) | fail) (by first | rfl | assumption | (simp [*]; done) | fail) (by decide) (by first | ((repeat constructor); done) | exact .same _)⟩) rfl ?_
    first | refine glq rfl (.inl ⟨rfl, q_iaA Try.underlying83 sz3 rfl rfl (by omega) (by omega) rfl⟩) rfl ?_ | refine glq rfl (.inl ⟨rfl, q_iaI Try.underlying83 sz3 rfl rfl (by omega) (by omega) (by first | ((repeat constructor); done) | exact .same _)⟩) rfl ?_
    first | refine glq rfl (.inl ⟨rfl, q_ldpN ag3 rfl (by repeat (first | exact .here | assumption | (apply HAt.left; assumption) | apply HAt.there | apply HAt.right)) (by first | rfl | assumption | (simp [*]; done) | fail) (by first | rfl | assumption | (simp [*]; done) | fail) (by constructor)⟩) rfl ?_ | refine glq rfl (.inl ⟨rfl, q_ld1N ag3 rfl (by constructor)⟩) rfl ?_
    first | refine glq rfl (.inl ⟨rfl, e_callN cb96 (text96_c x.b hwx.2.1 _) rfl rfl⟩) rfl ?_ | refine glq rfl (.inl ⟨rfl, e_callN cb96 (ACall.arg (text96_c x.b hwx.2.1 _) (by repeat (first | exact ArgL.nil | (apply ArgL.cons; (· first | exact .same | exact .cro | exact .nil))))) rfl rfl⟩) rfl ?_
    refine glq rfl (.inl ⟨rfl, q_mv (by constructor)⟩) rfl ?_
    refine glq rfl (.inl ⟨rfl, q_mv (by constructor)⟩) rfl ?_
    first | refine glq rfl (.inl ⟨rfl, q_iaN Try.underlying64 sz83 (.inl rfl) rfl (by omega) (by first | rfl | assumption | (simp [*]; done) | fail) (by first | rfl | assumption | (simp [*]; done) | fail) (by decide) (by first | ((repeat constructor); done) | exact .same _)⟩) rfl ?_ | refine glq rfl (.inl ⟨rfl, q_iaS Try.underlying64 sz83 rfl (by repeat (first | exact .here | assumption | (apply HAt.left; assumption) | apply HAt.there | apply HAt.right)) rfl (by omega) (by omega) (by first | exact Nat.zero_add _ | rfl)⟩) rfl ?_ | refine glq rfl (.inl ⟨rfl, q_iaN Try.underlying64 sz83 (.inr rfl) rfl (by omega) (by first | rfl | assumption | (simp [*]; done) | fail) (by first | rfl | assumption | (simp [*]; done) | fail) (by decide) (by first | ((repeat constructor); done) | exact .same _)⟩) rfl ?_
    first | refine glq rfl (.inl ⟨rfl, q_iaA Try.underlying83 sz3 rfl rfl (by omega) (by omega) rfl⟩) rfl ?_ | refine glq rfl (.inl ⟨rfl, q_iaI Try.underlying83 sz3 rfl rfl (by omega) (by omega) (by first | ((repeat constructor); done) | exact .same _)⟩) rfl ?_
    first | refine glq rfl (.inl ⟨rfl, q_ldpN ag3 rfl (by repeat (first | exact .here | assumption | (apply HAt.left; assumption) | apply HAt.there | apply HAt.right)) (by first | rfl | assumption | (simp [*]; done) | fail) (by first | rfl | assumption | (simp [*]; done) | fail) (by constructor)⟩) rfl ?_ | refine glq rfl (.inl ⟨rfl, q_ld1N ag3 rfl (by constructor)⟩) rfl ?_
    first | refine glq rfl (.inl ⟨rfl, e_callN cb96 (text96_c x.c hwx.2.2 _) rfl rfl⟩) rfl ?_ | refine glq rfl (.inl ⟨rfl, e_callN cb96 (ACall.arg (text96_c x.c hwx.2.2 _) (by repeat (first | exact ArgL.nil | (apply ArgL.cons; (· first | exact .same | exact .cro | exact .nil))))) rfl rfl⟩) rfl ?_
    first | refine glq rfl (.inl ⟨rfl, e_callN cb119 (hp ▸ put119_c c hcl (textS x.a) (textS x.b) (textS x.c) (by omega) _) rfl rfl⟩) rfl ?_ | refine glq rfl (.inl ⟨rfl, e_callN cb119 (ACall.arg (hp ▸ put119_c c hcl (textS x.a) (textS x.b) (textS x.c) (by omega) _) (by repeat (first | exact ArgL.nil | (apply ArgL.cons; (· first | exact .same | exact .cro | exact .nil))))) rfl rfl⟩) rfl ?_
    refine glq rfl (.inl ⟨rfl, q_mv (by constructor)⟩) rfl ?_
    refine glq rfl (.inl ⟨rfl, q_ex rfl rfl (by constructor)⟩) rfl ?_
    refine glq rfl (.inl ⟨rfl, q_ex rfl rfl (by constructor)⟩) rfl ?_
    (refine gla rfl rfl (EOp.frame (e_al (xs := [.lit (.int .i64 0), .lit (.int .i64 0), .lit (.slice none 0 0), .lit (.int .i64 0), .lit (.int .i64 0), .lit (.int .i64 0), .lit (.int .i64 0)]) (k := 7) zr136 (.same _) rfl)) rfl ?_; rintro _ _ ⟨u8, rfl, rfl⟩)
    first | (refine gla rfl rfl (EOp.frame (e_stW sz136 rfl (by repeat (first | exact .here | assumption | (apply HAt.left; assumption) | apply HAt.there | apply HAt.right)) (by constructor) (by first | rfl | assumption | (simp [*]; done) | fail) rfl (by repeat (first | exact .here | apply HSet.there)))) rfl ?_; rintro _ _ ⟨rfl, rfl⟩) | (refine gla rfl rfl (EOp.frame (e_stP sz136 rfl (by repeat (first | exact .here | assumption | (apply HAt.left; assumption) | apply HAt.there | apply HAt.right)) (by first | rfl | assumption | (simp [*]; done) | fail) (by constructor) (by first | rfl | assumption | (simp [*]; done) | fail) rfl (by first | decide | omega) (by first | ((repeat constructor); done) | exact .same _) (by first | exact .one | exact .set) (by repeat (first | exact .here | apply HSet.there)))) rfl ?_; rintro _ _ ⟨rfl, rfl⟩)
    refine gldA ?_
    refine aqs rfl (q_as (by constructor)) rfl ?_
    refine alist_nil ?_
    show AWP _ _ _ _
    refine awp_seq ?_
    refine awp_region ?_
    refine aqs rfl (q_mv (by constructor)) rfl ?_
    refine aqs rfl (q_eql rfl rfl) rfl ?_
    refine alist_nil ?_
    show AWP _ _ _ _
    refine awp_cond rfl (fun hc1 => ?_) (fun hc1 => ?_)
    ·have he : e' = 0 := by simpa using hc1
     simp only [he, if_true] at hnx
     refine awp_region ?_
     first | refine aqs rfl (q_ldpW ag136 sz136 rfl (by repeat (first | exact .here | assumption | (apply HAt.left; assumption) | apply HAt.there | apply HAt.right)) (by first | rfl | assumption | (simp [*]; done) | fail) (by first | rfl | assumption | (simp [*]; done) | fail) (by decide)) rfl ?_ | refine aqs rfl (q_ldW ag136 sz136 rfl (by first | rfl | assumption | (simp [*]; done) | fail)) rfl ?_ | refine aqs rfl (q_ldpP ag136 sz136 rfl (by repeat (first | exact .here | assumption | (apply HAt.left; assumption) | apply HAt.there | apply HAt.right)) (by first | rfl | assumption | (simp [*]; done) | fail) (by first | decide | (simp; done) | omega | fail) (by decide) (by first | ((repeat constructor); done) | exact .same _)) rfl ?_ | refine aqs rfl (q_ldP ag136 sz136 rfl (by first | decide | (simp; done) | omega | fail) (by first | ((repeat constructor); done) | exact .same _)) rfl ?_
     first | (refine aen rfl (e_stW sz136 rfl (by repeat (first | exact .here | assumption | (apply HAt.left; assumption) | apply HAt.there | apply HAt.right)) (by constructor) (by first | rfl | assumption | (simp [*]; done) | fail) rfl (by repeat (first | exact .here | apply HSet.there))) ?_; rintro _ _ ⟨rfl, rfl⟩) | (refine aen rfl (e_stP sz136 rfl (by repeat (first | exact .here | assumption | (apply HAt.left; assumption) | apply HAt.there | apply HAt.right)) (by first | rfl | assumption | (simp [*]; done) | fail) (by constructor) (by first | rfl | assumption | (simp [*]; done) | fail) rfl (by first | decide | omega) (by first | ((repeat constructor); done) | exact .same _) (by first | exact .one | exact .set) (by repeat (first | exact .here | apply HSet.there))) ?_; rintro _ _ ⟨rfl, rfl⟩)
     refine alist_nil ?_
     show AWP _ _ _ _
     refine awp_region ?_
     refine aqs rfl (q_mv (by constructor)) rfl ?_
     first | refine aqs rfl (q_add64 rfl rfl (by omega) (by omega)) rfl ?_ | refine aqs rfl (q_add rfl rfl) rfl ?_
     refine aqs rfl (q_as (by constructor)) rfl ?_
     refine alist_nil ?_
     show ∃ y, _ ∧ _ ∧ _
     exact ⟨i + 1, ⟨by omega, by omega⟩, by omega, by simp only [hnx]; exact .mk' ⟨by rfl, rfl, rfl, rfl, trivial⟩ (by repeat (first | exact List.Sublist.refl _ | exact List.nil_sublist _ | exact List.sublist_append_left _ _ | (apply List.Sublist.cons_cons) | (apply List.Sublist.cons)))⟩
    ·have he : ¬ e' = 0 := by simpa using hc1
     simp only [if_neg he] at hnx
     refine awp_skip ?_
     show AWP _ _ _ _
     refine awp_region ?_
     refine aqs rfl (q_mv (by constructor)) rfl ?_
     first | refine aqs rfl (q_add64 rfl rfl (by omega) (by omega)) rfl ?_ | refine aqs rfl (q_add rfl rfl) rfl ?_
     refine aqs rfl (q_as (by constructor)) rfl ?_
     refine alist_nil ?_
     show ∃ y, _ ∧ _ ∧ _
     exact ⟨i + 1, ⟨by omega, by omega⟩, by omega, by simp only [hnx]; exact .mk' ⟨by rfl, rfl, rfl, rfl, trivial⟩ (by repeat (first | exact List.Sublist.refl _ | exact List.nil_sublist _ | exact List.sublist_append_left _ _ | (apply List.Sublist.cons_cons) | (apply List.Sublist.cons)))⟩
   ·simp only [Bool.and_eq_false_iff, decide_eq_false_iff_not, List.length_map] at hc0
    have e : c = cachS n (puts.take 20) := by
     rw [hc]
     rcases hc0 with h | h
     ·rw [List.take_of_length_le (show puts.length ≤ i by omega), List.take_of_length_le (show puts.length ≤ 20 by omega)]
     ·rw [show i = 20 by omega]
    rw [← e]
    refine awp_exit ?_
    show AWP _ _ _ _
    refine awp_seq ?_
    refine awp_region ?_
    first | refine aqs rfl (q_ldpW ag136 sz136 rfl (by repeat (first | exact .here | assumption | (apply HAt.left; assumption) | apply HAt.there | apply HAt.right)) (by first | rfl | assumption | (simp [*]; done) | fail) (by first | rfl | assumption | (simp [*]; done) | fail) (by decide)) rfl ?_ | refine aqs rfl (q_ldW ag136 sz136 rfl (by first | rfl | assumption | (simp [*]; done) | fail)) rfl ?_ | refine aqs rfl (q_ldpP ag136 sz136 rfl (by repeat (first | exact .here | assumption | (apply HAt.left; assumption) | apply HAt.there | apply HAt.right)) (by first | rfl | assumption | (simp [*]; done) | fail) (by first | decide | (simp; done) | omega | fail) (by decide) (by first | ((repeat constructor); done) | exact .same _)) rfl ?_ | refine aqs rfl (q_ldP ag136 sz136 rfl (by first | decide | (simp; done) | omega | fail) (by first | ((repeat constructor); done) | exact .same _)) rfl ?_
    first | (refine aen rfl (e_stW sz136 rfl (by repeat (first | exact .here | assumption | (apply HAt.left; assumption) | apply HAt.there | apply HAt.right)) (by constructor) (by first | rfl | assumption | (simp [*]; done) | fail) rfl (by repeat (first | exact .here | apply HSet.there))) ?_; rintro _ _ ⟨rfl, rfl⟩) | (refine aen rfl (e_stP sz136 rfl (by repeat (first | exact .here | assumption | (apply HAt.left; assumption) | apply HAt.there | apply HAt.right)) (by first | rfl | assumption | (simp [*]; done) | fail) (by constructor) (by first | rfl | assumption | (simp [*]; done) | fail) rfl (by first | decide | omega) (by first | ((repeat constructor); done) | exact .same _) (by first | exact .one | exact .set) (by repeat (first | exact .here | apply HSet.there))) ?_; rintro _ _ ⟨rfl, rfl⟩)
    refine alist_nil ?_
    show AWP _ _ _ _
    refine awp_ret ?_
    repeat first | with_reducible refine then_ret ?_ | with_reducible refine blk_ret ?_ | with_reducible refine nogo_ret ?_
    apply retq (.inr rfl) (.cons (rok_A ag136 sz136 rfl (by repeat (first | exact .here | assumption | (apply HAt.left; assumption) | apply HAt.there | apply HAt.right)) (by rfl)) .nil)
    rotate_left
    ·exact ⟨rfl, rfl⟩
    repeat (first | exact List.Sublist.refl _ | exact List.nil_sublist _ | exact List.sublist_append_left _ _ | apply List.Sublist.cons)
end Go.Proofs.YtdlinfekifnmkaaAm
