/- The walk of CacheCounts. Conditions: none. -/
import Derived.Test.YtdlinfekifnmkaaAmCacheH
set_option linter.unusedVariables false
set_option linter.unusedSimpArgs false
set_option maxRecDepth 20000
namespace Go.Proofs.YtdlinfekifnmkaaAm
open Go.Proofs
theorem small_mono {c : Cach} {m k : Int} (h : Small c m) (hm : m ≤ k) : Small c k := ⟨h.right, h.n4, h.r8, by have := h.hits; omega, by have := h.ev; omega⟩
theorem small_size {c : Cach} {m : Int} (h : Small c m) : (sizeC c : Int) ≤ 8 := by
  have h1 := size_le h.right
  have h2 := h.r8
  omega
theorem small_n {c : Cach} {m : Int} (h : Small c m) : 0 ≤ c.hits ∧ 0 ≤ c.misses ∧ 0 ≤ c.clashes ∧ 0 ≤ c.evicted ∧ c.hits + c.misses + c.clashes ≤ m ∧ c.evicted ≤ m := ⟨h.right.hits.1, h.right.misses.1, h.right.clashes.1, h.right.evicted.1, h.hits, h.ev⟩
set_option maxHeartbeats 16000000 in
theorem walkCacheCounts (n : Tri) (puts b : List Tri) (bs : List Bool) (wn : n.Wf) (wp : (∀ y ∈ puts, y.Wf) ∧ puts.length ≤ 9223372036854775807) (wb : (∀ y ∈ b, y.Wf) ∧ b.length ≤ 9223372036854775807) (wbs : (∀ y ∈ bs, True) ∧ bs.length ≤ 9223372036854775807) :
    QCall Try.prog 32 [.agg n.cells, .ro (puts.map Tri.cells), .ro (b.map Tri.cells), .ro (bs.map cB)] [] (.lit (.bool true)) := by
  have hsm := small_cach n (puts.take 20)
  have hl20 : (puts.take 20).length ≤ 20 := by simp; omega
  have hsm := small_mono hsm (k := 20) (by omega)
  have hgd := good_cach n (puts.take 20)
  obtain ⟨c0, hc00⟩ : ∃ c0, c0 = cachS n (puts.take 20) := ⟨_, rfl⟩
  refine acall_intro (n := 172) (rvs := [.tmp 8]) Try.func32 rfl rfl rfl (Nat.le_of_ble_eq_true rfl) ?_
  refine awp_seq ?_
  refine awp_region ?_
  (refine aes rfl (e_bx (by constructor) rfl rfl) rfl ?_; rintro _ _ ⟨u4, rfl, rfl⟩)
  refine aqs rfl (q_as (by constructor)) rfl ?_
  refine alist_nil ?_
  show AWP _ _ _ _
  refine awp_seq ?_
  refine awp_region ?_
  first | refine aqs rfl (e_callN cb105 (QCall.any _ awake105_c) rfl rfl) rfl ?_ | refine aqs rfl (e_callN cb105 (ACall.arg (QCall.any _ awake105_c) (by repeat (first | exact ArgL.nil | (apply ArgL.cons; (· first | exact .same | exact .cro | exact .nil))))) rfl rfl) rfl ?_
  refine aqs rfl (q_as (by constructor)) rfl ?_
  refine alist_nil ?_
  show AWP _ _ _ _
  refine awp_seq ?_
  refine awp_region ?_
  first | refine aqs rfl (q_ldpW ag83 sz83 rfl (by repeat (first | exact .here | assumption | (apply HAt.left; assumption) | apply HAt.there | apply HAt.right)) (by first | rfl | assumption | (simp [*]; done) | fail) (by first | rfl | assumption | (simp [*]; done) | fail) (by decide)) rfl ?_ | refine aqs rfl (q_ldW ag83 sz83 rfl (by first | rfl | assumption | (simp [*]; done) | fail)) rfl ?_ | refine aqs rfl (q_ldpP ag83 sz83 rfl (by repeat (first | exact .here | assumption | (apply HAt.left; assumption) | apply HAt.there | apply HAt.right)) (by first | rfl | assumption | (simp [*]; done) | fail) (by first | decide | (simp; done) | omega | fail) (by decide) (by first | ((repeat constructor); done) | exact .same _)) rfl ?_ | refine aqs rfl (q_ldP ag83 sz83 rfl (by first | decide | (simp; done) | omega | fail) (by first | ((repeat constructor); done) | exact .same _)) rfl ?_
  refine aqs rfl (q_mv (by constructor)) rfl ?_
  first | refine aqs rfl (e_callN cb110 (hc00 ▸ cache110_c n puts wn wp.1 _) rfl rfl) rfl ?_ | refine aqs rfl (e_callN cb110 (ACall.arg (hc00 ▸ cache110_c n puts wn wp.1 _) (by repeat (first | exact ArgL.nil | (apply ArgL.cons; (· first | exact .same | exact .cro | exact .nil))))) rfl rfl) rfl ?_
  (refine aes rfl (e_al (xs := [.lit (.int .i64 0), .lit (.int .i64 0), .lit (.slice none 0 0), .lit (.int .i64 0), .lit (.int .i64 0), .lit (.int .i64 0), .lit (.int .i64 0)]) (k := 7) zr136 (.same _) rfl) rfl ?_; rintro _ _ ⟨u10, rfl, rfl⟩)
  first | (refine aen rfl (e_stW sz136 rfl (by repeat (first | exact .here | assumption | (apply HAt.left; assumption) | apply HAt.there | apply HAt.right)) (by constructor) (by first | rfl | assumption | (simp [*]; done) | fail) rfl (by repeat (first | exact .here | apply HSet.there))) ?_; rintro _ _ ⟨rfl, rfl⟩) | (refine aen rfl (e_stP sz136 rfl (by repeat (first | exact .here | assumption | (apply HAt.left; assumption) | apply HAt.there | apply HAt.right)) (by first | rfl | assumption | (simp [*]; done) | fail) (by constructor) (by first | rfl | assumption | (simp [*]; done) | fail) rfl (by first | decide | omega) (by first | ((repeat constructor); done) | exact .same _) (by first | exact .one | exact .set) (by repeat (first | exact .here | apply HSet.there))) ?_; rintro _ _ ⟨rfl, rfl⟩)
  refine alist_nil ?_
  show AWP _ _ _ _
  refine awp_seq ?_
  refine awp_seq ?_
  refine awp_region ?_
  refine aqs rfl (q_as (by constructor)) rfl ?_
  refine alist_nil ?_
  show AWP _ _ _ _
  refine awp_block ?_
  refine awp_loop_inv (fun x : Nat × Cach => ⟨[(11, .lit (.int .i64 x.1)), (2, .ro (b.map Tri.cells)), (3, .ro (bs.map cB)), (9, .lit (.bool true)), (10, .ptr u10 0 0)], 172, [(u10, .arr 136 7 [x.2.cells])]⟩) (fun x => x.1 ≤ b.length ∧ x.1 ≤ 30 ∧ Small x.2 (20 + x.1) ∧ CGood x.2) (fun x => 30 - x.1) (0, c0) ?_ ?_ ?_
  ·exact ⟨Nat.zero_le _, Nat.zero_le _, hc00 ▸ small_mono hsm (by simp), hc00 ▸ hgd⟩
  ·exact .mk' (by repeat (first | exact trivial | refine ⟨rfl, ?_⟩)) (by repeat (first | exact .refl _ | apply List.Sublist.cons_cons | apply List.Sublist.cons))
  ·rintro ⟨i, c⟩ ⟨hi, hi30, hs, hg⟩
   simp only at hi hi30 hs hg ⊢
   have hcl := hg.clen
   have hzc := small_size hs
   have hnc := small_n hs
   refine awp_seq ?_
   refine awp_mid [(30, .lit (.bool (decide ((i : Int) < (b.map Tri.cells).length) && decide ((i : Int) < 30)))), (11, .lit (.int .i64 i)), (2, .ro (b.map Tri.cells)), (3, .ro (bs.map cB)), (9, .lit (.bool true)), (10, .ptr u10 0 0)] ?_ ?_
   ·skip
    refine awp_region ?_
    all_goals (refine aqs rfl (q_mv (by constructor)) rfl ?_)
    all_goals (refine aqs rfl (q_mv (by constructor)) rfl ?_)
    all_goals (first | refine aqs rfl (q_len Try.underlying64 .ro) rfl ?_ | refine aqs rfl (q_lenO Try.underlying64 rfl (by repeat (first | exact .here | assumption | (apply HAt.left; assumption) | apply HAt.there | apply HAt.right)) (by first | omega | (simp; done) | (simp; omega) | fail) (by first | exact Nat.sub_zero _ | rfl)) rfl ?_ | refine aqs rfl (q_len Try.underlying64 .nil) rfl ?_ | refine aqs rfl (q_len Try.underlying64 .cro) rfl ?_)
    all_goals (refine aqs rfl (q_lss rfl rfl) rfl ?_)
    all_goals (refine aqs rfl (q_mv (by constructor)) rfl ?_)
    all_goals try (refine acase (fun hb4 => ?_) (fun hb4 => ?_))
    all_goals first | (exfalso; cases hb4; done) | skip
    all_goals (first | refine ans rfl rfl ?_ | refine aqs rfl (q_mv (by constructor)) rfl ?_)
    all_goals (first | refine ans rfl rfl ?_ | refine aqs rfl (q_lss rfl rfl) rfl ?_)
    all_goals (first | refine aqs rfl (q_pickT rfl (by constructor)) rfl ?_ | refine aqs rfl (q_pickF rfl (by constructor)) rfl ?_)
    all_goals (refine alist_nil ?_)
    all_goals (exact ⟨rfl, .mk' (by repeat (first | exact trivial | refine ⟨rfl, ?_⟩ | (refine ⟨?_, ?_⟩; (· first | (rw [hb4]; rfl) | fail)))) (by repeat (first | exact .refl _ | exact List.nil_sublist _ | exact List.sublist_append_left _ _ | apply List.Sublist.cons))⟩)
   refine awp_cond rfl (fun hc0 => ?_) (fun hc0 => ?_)
   ·simp only [Bool.and_eq_true, decide_eq_true_eq, List.length_map] at hc0
    obtain ⟨x, hsx, hsm2⟩ := get_lt (l := b) (i := i) (by omega)
    have hs2 := get_map (f := Tri.cells) hsx
    have hwx := wb.1 x hsm2
    have htw := text_two x.a x.b
    obtain ⟨l, hl⟩ : ∃ l, l = textS x.a := ⟨_, rfl⟩
    obtain ⟨r, hr⟩ : ∃ r, r = textS x.b := ⟨_, rfl⟩
    rw [← hl, ← hr] at htw
    refine awp_skip ?_
    show AWP _ _ _ _
    refine awp_seq ?_
    refine awp_block ?_
    refine awp_seq ?_
    refine awp_region ?_
    refine aqs rfl (q_mv (by constructor)) rfl ?_
    refine aqs rfl (q_mv (by constructor)) rfl ?_
    first | refine aqs rfl (q_iaN Try.underlying64 sz83 (.inl rfl) rfl (by omega) (by first | rfl | assumption | (simp [*]; done) | fail) (by first | rfl | assumption | (simp [*]; done) | fail) (by decide) (by first | ((repeat constructor); done) | exact .same _)) rfl ?_ | refine aqs rfl (q_iaS Try.underlying64 sz83 rfl (by repeat (first | exact .here | assumption | (apply HAt.left; assumption) | apply HAt.there | apply HAt.right)) rfl (by omega) (by omega) (by first | exact Nat.zero_add _ | rfl)) rfl ?_ | refine aqs rfl (q_iaN Try.underlying64 sz83 (.inr rfl) rfl (by omega) (by first | rfl | assumption | (simp [*]; done) | fail) (by first | rfl | assumption | (simp [*]; done) | fail) (by decide) (by first | ((repeat constructor); done) | exact .same _)) rfl ?_
    first | refine aqs rfl (q_iaA Try.underlying83 sz3 rfl rfl (by omega) (by omega) rfl) rfl ?_ | refine aqs rfl (q_iaI Try.underlying83 sz3 rfl rfl (by omega) (by omega) (by first | ((repeat constructor); done) | exact .same _)) rfl ?_
    first | refine aqs rfl (q_ldpN ag3 rfl (by repeat (first | exact .here | assumption | (apply HAt.left; assumption) | apply HAt.there | apply HAt.right)) (by first | rfl | assumption | (simp [*]; done) | fail) (by first | rfl | assumption | (simp [*]; done) | fail) (by constructor)) rfl ?_ | refine aqs rfl (q_ld1N ag3 rfl (by constructor)) rfl ?_
    first | refine aqs rfl (e_callN cb96 (hl ▸ text96_c x.a hwx.1 _) rfl rfl) rfl ?_ | refine aqs rfl (e_callN cb96 (ACall.arg (hl ▸ text96_c x.a hwx.1 _) (by repeat (first | exact ArgL.nil | (apply ArgL.cons; (· first | exact .same | exact .cro | exact .nil))))) rfl rfl) rfl ?_
    refine aqs rfl (q_as (by constructor)) rfl ?_
    refine alist_nil ?_
    show AWP _ _ _ _
    refine awp_seq ?_
    refine awp_region ?_
    refine aqs rfl (q_mv (by constructor)) rfl ?_
    refine aqs rfl (q_mv (by constructor)) rfl ?_
    first | refine aqs rfl (q_iaN Try.underlying64 sz83 (.inl rfl) rfl (by omega) (by first | rfl | assumption | (simp [*]; done) | fail) (by first | rfl | assumption | (simp [*]; done) | fail) (by decide) (by first | ((repeat constructor); done) | exact .same _)) rfl ?_ | refine aqs rfl (q_iaS Try.underlying64 sz83 rfl (by repeat (first | exact .here | assumption | (apply HAt.left; assumption) | apply HAt.there | apply HAt.right)) rfl (by omega) (by omega) (by first | exact Nat.zero_add _ | rfl)) rfl ?_ | refine aqs rfl (q_iaN Try.underlying64 sz83 (.inr rfl) rfl (by omega) (by first | rfl | assumption | (simp [*]; done) | fail) (by first | rfl | assumption | (simp [*]; done) | fail) (by decide) (by first | ((repeat constructor); done) | exact .same _)) rfl ?_
    first | refine aqs rfl (q_iaA Try.underlying83 sz3 rfl rfl (by omega) (by omega) rfl) rfl ?_ | refine aqs rfl (q_iaI Try.underlying83 sz3 rfl rfl (by omega) (by omega) (by first | ((repeat constructor); done) | exact .same _)) rfl ?_
    first | refine aqs rfl (q_ldpN ag3 rfl (by repeat (first | exact .here | assumption | (apply HAt.left; assumption) | apply HAt.there | apply HAt.right)) (by first | rfl | assumption | (simp [*]; done) | fail) (by first | rfl | assumption | (simp [*]; done) | fail) (by constructor)) rfl ?_ | refine aqs rfl (q_ld1N ag3 rfl (by constructor)) rfl ?_
    first | refine aqs rfl (e_callN cb96 (hr ▸ text96_c x.b hwx.2.1 _) rfl rfl) rfl ?_ | refine aqs rfl (e_callN cb96 (ACall.arg (hr ▸ text96_c x.b hwx.2.1 _) (by repeat (first | exact ArgL.nil | (apply ArgL.cons; (· first | exact .same | exact .cro | exact .nil))))) rfl rfl) rfl ?_
    refine aqs rfl (q_as (by constructor)) rfl ?_
    refine alist_nil ?_
    show AWP _ _ _ _
    refine awp_seq ?_
    refine awp_mid [(54, .lit (.bool (decide ((i : Int) < (bs.map cB).length) && bs.getD i false))), (11, .lit (.int .i64 i)), (2, .ro (b.map Tri.cells)), (3, .ro (bs.map cB)), (9, .lit (.bool true)), (10, .ptr u10 0 0), (12, .lit (.string l)), (13, .lit (.string r))] ?_ ?_
    ·skip
     refine awp_region ?_
     all_goals (refine aqs rfl (q_mv (by constructor)) rfl ?_)
     all_goals (refine aqs rfl (q_mv (by constructor)) rfl ?_)
     all_goals (first | refine aqs rfl (q_len Try.underlying54 .ro) rfl ?_ | refine aqs rfl (q_lenO Try.underlying54 rfl (by repeat (first | exact .here | assumption | (apply HAt.left; assumption) | apply HAt.there | apply HAt.right)) (by first | omega | (simp; done) | (simp; omega) | fail) (by first | exact Nat.sub_zero _ | rfl)) rfl ?_ | refine aqs rfl (q_len Try.underlying54 .nil) rfl ?_ | refine aqs rfl (q_len Try.underlying54 .cro) rfl ?_)
     all_goals (refine aqs rfl (q_lss rfl rfl) rfl ?_)
     all_goals (refine aqs rfl (q_mv (by constructor)) rfl ?_)
     all_goals try (refine acase (fun hb4 => ?_) (fun hb4 => ?_))
     all_goals first | (exfalso; cases hb4; done) | skip
     all_goals try (have hbs2 := cB_at2 (bs := bs) (i := i) (by simpa using hb4))
     all_goals (first | refine ans rfl rfl ?_ | refine aqs rfl (q_mv (by constructor)) rfl ?_)
     all_goals (first | refine ans rfl rfl ?_ | refine aqs rfl (q_mv (by constructor)) rfl ?_)
     all_goals (first | refine ans rfl rfl ?_ | refine aqs rfl (q_iaN Try.underlying54 sz4 (.inl rfl) rfl (by omega) (by first | rfl | assumption | (simp [*]; done) | fail) (by first | rfl | assumption | (simp [*]; done) | fail) (by decide) (by first | ((repeat constructor); done) | exact .same _)) rfl ?_ | refine aqs rfl (q_iaS Try.underlying54 sz4 rfl (by repeat (first | exact .here | assumption | (apply HAt.left; assumption) | apply HAt.there | apply HAt.right)) rfl (by omega) (by omega) (by first | exact Nat.zero_add _ | rfl)) rfl ?_ | refine aqs rfl (q_iaN Try.underlying54 sz4 (.inr rfl) rfl (by omega) (by first | rfl | assumption | (simp [*]; done) | fail) (by first | rfl | assumption | (simp [*]; done) | fail) (by decide) (by first | ((repeat constructor); done) | exact .same _)) rfl ?_)
     all_goals (first | refine ans rfl rfl ?_ | refine aqs rfl (q_ldpN ag4 rfl (by repeat (first | exact .here | assumption | (apply HAt.left; assumption) | apply HAt.there | apply HAt.right)) (by first | rfl | assumption | (simp [*]; done) | fail) (by first | rfl | assumption | (simp [*]; done) | fail) (by constructor)) rfl ?_ | refine aqs rfl (q_ld1N ag4 rfl (by constructor)) rfl ?_)
     all_goals (first | refine aqs rfl (q_pickT rfl (by constructor)) rfl ?_ | refine aqs rfl (q_pickF rfl (by constructor)) rfl ?_)
     all_goals (refine alist_nil ?_)
     all_goals (exact ⟨rfl, .mk' (by repeat (first | exact trivial | refine ⟨rfl, ?_⟩ | (refine ⟨?_, ?_⟩; (· first | (rw [hb4]; rfl) | fail)))) (by repeat (first | exact .refl _ | exact List.nil_sublist _ | exact List.sublist_append_left _ _ | apply List.Sublist.cons))⟩)
    refine awp_cond rfl (fun hc1 => ?_) (fun hc1 => ?_)
    ·have h1 := put_parts hg.right l r (textS x.c)
     have h2 := counts_put hs (by omega) l r (textS x.c)
     have h3 := small_put hs l r (textS x.c)
     have h4 := good_put hg (l := l) (r := r) (by omega) (textS x.c)
     obtain ⟨c', e', hp⟩ : ∃ c' e', putC c l r (textS x.c) = (c', e') := ⟨_, _, rfl⟩
     rw [hp] at h1 h2 h3 h4
     simp only at h1 h2 h3 h4
     have hcl' := h4.clen
     have hzc' := small_size h3
     have hnc' := small_n h3
     refine awp_seq ?_
     refine awp_draw 15 [(0, false), (1, false), (2, false), (3, false), (4, false), (5, false), (6, false), (7, false), (8, false), (9, false), (10, false), (11, false), (12, false), (13, true), (14, true)] _ ([]) mixed (by kernel_rfl) (perm0 _) ?_
     first | refine glq rfl (.inl ⟨rfl, q_ldpW ag136 sz136 rfl (by repeat (first | exact .here | assumption | (apply HAt.left; assumption) | apply HAt.there | apply HAt.right)) (by first | rfl | assumption | (simp [*]; done) | fail) (by first | rfl | assumption | (simp [*]; done) | fail) (by decide)⟩) rfl ?_ | refine glq rfl (.inl ⟨rfl, q_ldW ag136 sz136 rfl (by first | rfl | assumption | (simp [*]; done) | fail)⟩) rfl ?_ | refine glq rfl (.inl ⟨rfl, q_ldpP ag136 sz136 rfl (by repeat (first | exact .here | assumption | (apply HAt.left; assumption) | apply HAt.there | apply HAt.right)) (by first | rfl | assumption | (simp [*]; done) | fail) (by first | decide | (simp; done) | omega | fail) (by decide) (by first | ((repeat constructor); done) | exact .same _)⟩) rfl ?_ | refine glq rfl (.inl ⟨rfl, q_ldP ag136 sz136 rfl (by first | decide | (simp; done) | omega | fail) (by first | ((repeat constructor); done) | exact .same _)⟩) rfl ?_
     refine glq rfl (.inl ⟨rfl, q_mv (by constructor)⟩) rfl ?_
     refine glq rfl (.inl ⟨rfl, q_mv (by constructor)⟩) rfl ?_
     refine glq rfl (.inl ⟨rfl, q_mv (by constructor)⟩) rfl ?_
     refine glq rfl (.inl ⟨rfl, q_mv (by constructor)⟩) rfl ?_
     first | refine glq rfl (.inl ⟨rfl, q_iaN Try.underlying64 sz83 (.inl rfl) rfl (by omega) (by first | rfl | assumption | (simp [*]; done) | fail) (by first | rfl | assumption | (simp [*]; done) | fail) (by decide) (by first | ((repeat constructor); done) | exact .same _)⟩) rfl ?_ | refine glq rfl (.inl ⟨rfl, q_iaS Try.underlying64 sz83 rfl (by repeat (first | exact .here | assumption | (apply HAt.left; assumption) | apply HAt.there | apply HAt.right)) rfl (by omega) (by omega) (by first | exact Nat.zero_add _ | rfl)⟩) rfl ?_ | refine glq rfl (.inl ⟨rfl, q_iaN Try.underlying64 sz83 (.inr rfl) rfl (by omega) (by first | rfl | assumption | (simp [*]; done) | fail) (by first | rfl | assumption | (simp [*]; done) | fail) (by decide) (by first | ((repeat constructor); done) | exact .same _)⟩) rfl ?_
     first | refine glq rfl (.inl ⟨rfl, q_iaA Try.underlying83 sz3 rfl rfl (by omega) (by omega) rfl⟩) rfl ?_ | refine glq rfl (.inl ⟨rfl, q_iaI Try.underlying83 sz3 rfl rfl (by omega) (by omega) (by first | ((repeat constructor); done) | exact .same _)⟩) rfl ?_
     first | refine glq rfl (.inl ⟨rfl, q_ldpN ag3 rfl (by repeat (first | exact .here | assumption | (apply HAt.left; assumption) | apply HAt.there | apply HAt.right)) (by first | rfl | assumption | (simp [*]; done) | fail) (by first | rfl | assumption | (simp [*]; done) | fail) (by constructor)⟩) rfl ?_ | refine glq rfl (.inl ⟨rfl, q_ld1N ag3 rfl (by constructor)⟩) rfl ?_
     first | refine glq rfl (.inl ⟨rfl, e_callN cb96 (text96_c x.c hwx.2.2 _) rfl rfl⟩) rfl ?_ | refine glq rfl (.inl ⟨rfl, e_callN cb96 (ACall.arg (text96_c x.c hwx.2.2 _) (by repeat (first | exact ArgL.nil | (apply ArgL.cons; (· first | exact .same | exact .cro | exact .nil))))) rfl rfl⟩) rfl ?_
     first | refine glq rfl (.inl ⟨rfl, e_callN cb118 (put118_p hcl (by omega) hp) rfl rfl⟩) rfl ?_ | refine glq rfl (.inl ⟨rfl, e_callN cb118 (ACall.arg (put118_p hcl (by omega) hp) (by repeat (first | exact ArgL.nil | (apply ArgL.cons; (· first | exact .same | exact .cro | exact .nil))))) rfl rfl⟩) rfl ?_
     refine glq rfl (.inl ⟨rfl, q_mv (by constructor)⟩) rfl ?_
     refine glq rfl (.inl ⟨rfl, q_ex rfl rfl (by constructor)⟩) rfl ?_
     refine glq rfl (.inl ⟨rfl, q_ex rfl rfl (by constructor)⟩) rfl ?_
     (refine gla rfl rfl (EOp.frame (e_al (xs := [.lit (.int .i64 0), .lit (.int .i64 0), .lit (.slice none 0 0), .lit (.int .i64 0), .lit (.int .i64 0), .lit (.int .i64 0), .lit (.int .i64 0)]) (k := 7) zr136 (.same _) rfl)) rfl ?_; rintro _ _ ⟨u14, rfl, rfl⟩)
     first | (refine gla rfl rfl (EOp.frame (e_stW sz136 rfl (by repeat (first | exact .here | assumption | (apply HAt.left; assumption) | apply HAt.there | apply HAt.right)) (by constructor) (by first | rfl | assumption | (simp [*]; done) | fail) rfl (by repeat (first | exact .here | apply HSet.there)))) rfl ?_; rintro _ _ ⟨rfl, rfl⟩) | (refine gla rfl rfl (EOp.frame (e_stP sz136 rfl (by repeat (first | exact .here | assumption | (apply HAt.left; assumption) | apply HAt.there | apply HAt.right)) (by first | rfl | assumption | (simp [*]; done) | fail) (by constructor) (by first | rfl | assumption | (simp [*]; done) | fail) rfl (by first | decide | omega) (by first | ((repeat constructor); done) | exact .same _) (by first | exact .one | exact .set) (by repeat (first | exact .here | apply HSet.there)))) rfl ?_; rintro _ _ ⟨rfl, rfl⟩)
     refine gldA ?_
     refine aqs rfl (q_as (by constructor)) rfl ?_
     refine alist_nil ?_
     show AWP _ _ _ _
     refine awp_seq ?_
     refine awp_seq ?_
     refine awp_draw 57 [(0, false), (1, false), (2, false), (3, false), (4, false), (5, false), (6, false), (7, false), (8, false), (9, false), (10, false), (11, false), (12, false), (13, false), (14, false), (15, false), (16, false), (17, false), (18, false), (19, false), (20, false), (21, false), (22, false), (23, false), (24, false), (25, false), (26, false), (27, false), (28, false), (29, false), (30, false), (31, false), (32, false), (33, false), (34, false), (35, false), (36, false), (37, false), (38, false), (39, false), (40, false), (41, false), (42, false), (43, false), (44, false), (45, false), (46, false), (47, false), (48, false), (49, false), (50, false), (51, false), (52, false), (53, false), (54, false), (55, false), (56, false)] _ ([]) mixed (by kernel_rfl) (perm0 _) ?_
     refine glq rfl (.inl ⟨rfl, q_mv (by constructor)⟩) rfl ?_
     refine glq rfl (.inl ⟨rfl, castF (q_neq rfl rfl) (by simp [h1])⟩) rfl ?_
     refine glq rfl (.inl ⟨rfl, q_mv (by constructor)⟩) rfl ?_
     first | refine glq rfl (.inl ⟨rfl, q_fapP fl136_3 (by decide) rfl rfl⟩) rfl ?_ | refine glq rfl (.inl ⟨rfl, q_faP fl136_3 (by decide) rfl (by first | ((repeat constructor); done) | exact .same _)⟩) rfl ?_ | refine glq rfl (.inr ⟨rfl, rfl⟩) rfl ?_
     first | refine glq rfl (.inl ⟨rfl, q_ldpN ag3 rfl (by repeat (first | exact .here | assumption | (apply HAt.left; assumption) | apply HAt.there | apply HAt.right)) (by first | rfl | assumption | (simp [*]; done) | fail) (by first | rfl | assumption | (simp [*]; done) | fail) (by constructor)⟩) rfl ?_ | refine glq rfl (.inl ⟨rfl, q_ld1N ag3 rfl (by constructor)⟩) rfl ?_ | refine glq rfl (.inr ⟨rfl, rfl⟩) rfl ?_
     first | refine glq rfl (.inl ⟨rfl, q_fapP fl136_3 (by decide) rfl rfl⟩) rfl ?_ | refine glq rfl (.inl ⟨rfl, q_faP fl136_3 (by decide) rfl (by first | ((repeat constructor); done) | exact .same _)⟩) rfl ?_ | refine glq rfl (.inr ⟨rfl, rfl⟩) rfl ?_
     first | refine glq rfl (.inl ⟨rfl, q_ldpN ag3 rfl (by repeat (first | exact .here | assumption | (apply HAt.left; assumption) | apply HAt.there | apply HAt.right)) (by first | rfl | assumption | (simp [*]; done) | fail) (by first | rfl | assumption | (simp [*]; done) | fail) (by constructor)⟩) rfl ?_ | refine glq rfl (.inl ⟨rfl, q_ld1N ag3 rfl (by constructor)⟩) rfl ?_ | refine glq rfl (.inr ⟨rfl, rfl⟩) rfl ?_
     refine glq rfl (.inl ⟨rfl, castF (q_neq rfl rfl) (by simp [h1])⟩) rfl ?_
     first | refine glq rfl (.inl ⟨rfl, q_pickT rfl (by constructor)⟩) rfl ?_ | refine glq rfl (.inl ⟨rfl, q_pickF rfl (by constructor)⟩) rfl ?_
     refine glq rfl (.inl ⟨rfl, q_mv (by constructor)⟩) rfl ?_
     first | refine glq rfl (.inl ⟨rfl, q_fapP fl136_4 (by decide) rfl rfl⟩) rfl ?_ | refine glq rfl (.inl ⟨rfl, q_faP fl136_4 (by decide) rfl (by first | ((repeat constructor); done) | exact .same _)⟩) rfl ?_ | refine glq rfl (.inr ⟨rfl, rfl⟩) rfl ?_
     first | refine glq rfl (.inl ⟨rfl, q_ldpN ag3 rfl (by repeat (first | exact .here | assumption | (apply HAt.left; assumption) | apply HAt.there | apply HAt.right)) (by first | rfl | assumption | (simp [*]; done) | fail) (by first | rfl | assumption | (simp [*]; done) | fail) (by constructor)⟩) rfl ?_ | refine glq rfl (.inl ⟨rfl, q_ld1N ag3 rfl (by constructor)⟩) rfl ?_ | refine glq rfl (.inr ⟨rfl, rfl⟩) rfl ?_
     first | refine glq rfl (.inl ⟨rfl, q_fapP fl136_4 (by decide) rfl rfl⟩) rfl ?_ | refine glq rfl (.inl ⟨rfl, q_faP fl136_4 (by decide) rfl (by first | ((repeat constructor); done) | exact .same _)⟩) rfl ?_ | refine glq rfl (.inr ⟨rfl, rfl⟩) rfl ?_
     first | refine glq rfl (.inl ⟨rfl, q_ldpN ag3 rfl (by repeat (first | exact .here | assumption | (apply HAt.left; assumption) | apply HAt.there | apply HAt.right)) (by first | rfl | assumption | (simp [*]; done) | fail) (by first | rfl | assumption | (simp [*]; done) | fail) (by constructor)⟩) rfl ?_ | refine glq rfl (.inl ⟨rfl, q_ld1N ag3 rfl (by constructor)⟩) rfl ?_ | refine glq rfl (.inr ⟨rfl, rfl⟩) rfl ?_
     refine glq rfl (.inl ⟨rfl, castF (q_neq rfl rfl) (by simp [h1])⟩) rfl ?_
     first | refine glq rfl (.inl ⟨rfl, q_pickT rfl (by constructor)⟩) rfl ?_ | refine glq rfl (.inl ⟨rfl, q_pickF rfl (by constructor)⟩) rfl ?_
     refine glq rfl (.inl ⟨rfl, q_mv (by constructor)⟩) rfl ?_
     first | refine glq rfl (.inl ⟨rfl, q_fapP fl136_5 (by decide) rfl rfl⟩) rfl ?_ | refine glq rfl (.inl ⟨rfl, q_faP fl136_5 (by decide) rfl (by first | ((repeat constructor); done) | exact .same _)⟩) rfl ?_ | refine glq rfl (.inr ⟨rfl, rfl⟩) rfl ?_
     first | refine glq rfl (.inl ⟨rfl, q_ldpN ag3 rfl (by repeat (first | exact .here | assumption | (apply HAt.left; assumption) | apply HAt.there | apply HAt.right)) (by first | rfl | assumption | (simp [*]; done) | fail) (by first | rfl | assumption | (simp [*]; done) | fail) (by constructor)⟩) rfl ?_ | refine glq rfl (.inl ⟨rfl, q_ld1N ag3 rfl (by constructor)⟩) rfl ?_ | refine glq rfl (.inr ⟨rfl, rfl⟩) rfl ?_
     first | refine glq rfl (.inl ⟨rfl, q_fapP fl136_5 (by decide) rfl rfl⟩) rfl ?_ | refine glq rfl (.inl ⟨rfl, q_faP fl136_5 (by decide) rfl (by first | ((repeat constructor); done) | exact .same _)⟩) rfl ?_ | refine glq rfl (.inr ⟨rfl, rfl⟩) rfl ?_
     first | refine glq rfl (.inl ⟨rfl, q_ldpN ag3 rfl (by repeat (first | exact .here | assumption | (apply HAt.left; assumption) | apply HAt.there | apply HAt.right)) (by first | rfl | assumption | (simp [*]; done) | fail) (by first | rfl | assumption | (simp [*]; done) | fail) (by constructor)⟩) rfl ?_ | refine glq rfl (.inl ⟨rfl, q_ld1N ag3 rfl (by constructor)⟩) rfl ?_ | refine glq rfl (.inr ⟨rfl, rfl⟩) rfl ?_
     refine glq rfl (.inl ⟨rfl, castF (q_neq rfl rfl) (by simp [h1])⟩) rfl ?_
     first | refine glq rfl (.inl ⟨rfl, q_pickT rfl (by constructor)⟩) rfl ?_ | refine glq rfl (.inl ⟨rfl, q_pickF rfl (by constructor)⟩) rfl ?_
     refine glq rfl (.inl ⟨rfl, q_mv (by constructor)⟩) rfl ?_
     first | refine glq rfl (.inl ⟨rfl, q_fapP fl136_6 (by decide) rfl rfl⟩) rfl ?_ | refine glq rfl (.inl ⟨rfl, q_faP fl136_6 (by decide) rfl (by first | ((repeat constructor); done) | exact .same _)⟩) rfl ?_ | refine glq rfl (.inr ⟨rfl, rfl⟩) rfl ?_
     first | refine glq rfl (.inl ⟨rfl, q_ldpN ag3 rfl (by repeat (first | exact .here | assumption | (apply HAt.left; assumption) | apply HAt.there | apply HAt.right)) (by first | rfl | assumption | (simp [*]; done) | fail) (by first | rfl | assumption | (simp [*]; done) | fail) (by constructor)⟩) rfl ?_ | refine glq rfl (.inl ⟨rfl, q_ld1N ag3 rfl (by constructor)⟩) rfl ?_ | refine glq rfl (.inr ⟨rfl, rfl⟩) rfl ?_
     first | refine glq rfl (.inl ⟨rfl, q_fapP fl136_6 (by decide) rfl rfl⟩) rfl ?_ | refine glq rfl (.inl ⟨rfl, q_faP fl136_6 (by decide) rfl (by first | ((repeat constructor); done) | exact .same _)⟩) rfl ?_ | refine glq rfl (.inr ⟨rfl, rfl⟩) rfl ?_
     first | refine glq rfl (.inl ⟨rfl, q_ldpN ag3 rfl (by repeat (first | exact .here | assumption | (apply HAt.left; assumption) | apply HAt.there | apply HAt.right)) (by first | rfl | assumption | (simp [*]; done) | fail) (by first | rfl | assumption | (simp [*]; done) | fail) (by constructor)⟩) rfl ?_ | refine glq rfl (.inl ⟨rfl, q_ld1N ag3 rfl (by constructor)⟩) rfl ?_ | refine glq rfl (.inr ⟨rfl, rfl⟩) rfl ?_
     refine glq rfl (.inl ⟨rfl, castF (q_lss rfl rfl) (by exact decide_eq_false (by omega))⟩) rfl ?_
     first | refine glq rfl (.inl ⟨rfl, q_pickT rfl (by constructor)⟩) rfl ?_ | refine glq rfl (.inl ⟨rfl, q_pickF rfl (by constructor)⟩) rfl ?_
     refine glq rfl (.inl ⟨rfl, q_mv (by constructor)⟩) rfl ?_
     first | refine glq rfl (.inl ⟨rfl, q_ldpW ag136 sz136 rfl (by repeat (first | exact .here | assumption | (apply HAt.left; assumption) | apply HAt.there | apply HAt.right)) (by first | rfl | assumption | (simp [*]; done) | fail) (by first | rfl | assumption | (simp [*]; done) | fail) (by decide)⟩) rfl ?_ | refine glq rfl (.inl ⟨rfl, q_ldW ag136 sz136 rfl (by first | rfl | assumption | (simp [*]; done) | fail)⟩) rfl ?_ | refine glq rfl (.inl ⟨rfl, q_ldpP ag136 sz136 rfl (by repeat (first | exact .here | assumption | (apply HAt.left; assumption) | apply HAt.there | apply HAt.right)) (by first | rfl | assumption | (simp [*]; done) | fail) (by first | decide | (simp; done) | omega | fail) (by decide) (by first | ((repeat constructor); done) | exact .same _)⟩) rfl ?_ | refine glq rfl (.inl ⟨rfl, q_ldP ag136 sz136 rfl (by first | decide | (simp; done) | omega | fail) (by first | ((repeat constructor); done) | exact .same _)⟩) rfl ?_ | refine glq rfl (.inr ⟨rfl, rfl⟩) rfl ?_
     first | refine glq rfl (.inl ⟨rfl, e_callN cb114 (size114_c c' hcl' _) rfl rfl⟩) rfl ?_ | refine glq rfl (.inl ⟨rfl, e_callN cb114 (ACall.arg (size114_c c' hcl' _) (by repeat (first | exact ArgL.nil | (apply ArgL.cons; (· first | exact .same | exact .cro | exact .nil))))) rfl rfl⟩) rfl ?_ | refine glq rfl (.inr ⟨rfl, rfl⟩) rfl ?_
     first | refine glq rfl (.inl ⟨rfl, q_fapP fl136_6 (by decide) rfl rfl⟩) rfl ?_ | refine glq rfl (.inl ⟨rfl, q_faP fl136_6 (by decide) rfl (by first | ((repeat constructor); done) | exact .same _)⟩) rfl ?_ | refine glq rfl (.inr ⟨rfl, rfl⟩) rfl ?_
     first | refine glq rfl (.inl ⟨rfl, q_ldpN ag3 rfl (by repeat (first | exact .here | assumption | (apply HAt.left; assumption) | apply HAt.there | apply HAt.right)) (by first | rfl | assumption | (simp [*]; done) | fail) (by first | rfl | assumption | (simp [*]; done) | fail) (by constructor)⟩) rfl ?_ | refine glq rfl (.inl ⟨rfl, q_ld1N ag3 rfl (by constructor)⟩) rfl ?_ | refine glq rfl (.inr ⟨rfl, rfl⟩) rfl ?_
     first | refine glq rfl (.inl ⟨rfl, q_add64 rfl rfl (by omega) (by omega)⟩) rfl ?_ | refine glq rfl (.inl ⟨rfl, q_add rfl rfl⟩) rfl ?_ | refine glq rfl (.inr ⟨rfl, rfl⟩) rfl ?_
     first | refine glq rfl (.inl ⟨rfl, q_fapP fl136_6 (by decide) rfl rfl⟩) rfl ?_ | refine glq rfl (.inl ⟨rfl, q_faP fl136_6 (by decide) rfl (by first | ((repeat constructor); done) | exact .same _)⟩) rfl ?_ | refine glq rfl (.inr ⟨rfl, rfl⟩) rfl ?_
     first | refine glq rfl (.inl ⟨rfl, q_ldpN ag3 rfl (by repeat (first | exact .here | assumption | (apply HAt.left; assumption) | apply HAt.there | apply HAt.right)) (by first | rfl | assumption | (simp [*]; done) | fail) (by first | rfl | assumption | (simp [*]; done) | fail) (by constructor)⟩) rfl ?_ | refine glq rfl (.inl ⟨rfl, q_ld1N ag3 rfl (by constructor)⟩) rfl ?_ | refine glq rfl (.inr ⟨rfl, rfl⟩) rfl ?_
     first | refine glq rfl (.inl ⟨rfl, q_sub64 rfl rfl (by omega) (by omega)⟩) rfl ?_ | refine glq rfl (.inl ⟨rfl, q_sub rfl rfl⟩) rfl ?_ | refine glq rfl (.inr ⟨rfl, rfl⟩) rfl ?_
     first | refine glq rfl (.inl ⟨rfl, q_ldpW ag136 sz136 rfl (by repeat (first | exact .here | assumption | (apply HAt.left; assumption) | apply HAt.there | apply HAt.right)) (by first | rfl | assumption | (simp [*]; done) | fail) (by first | rfl | assumption | (simp [*]; done) | fail) (by decide)⟩) rfl ?_ | refine glq rfl (.inl ⟨rfl, q_ldW ag136 sz136 rfl (by first | rfl | assumption | (simp [*]; done) | fail)⟩) rfl ?_ | refine glq rfl (.inl ⟨rfl, q_ldpP ag136 sz136 rfl (by repeat (first | exact .here | assumption | (apply HAt.left; assumption) | apply HAt.there | apply HAt.right)) (by first | rfl | assumption | (simp [*]; done) | fail) (by first | decide | (simp; done) | omega | fail) (by decide) (by first | ((repeat constructor); done) | exact .same _)⟩) rfl ?_ | refine glq rfl (.inl ⟨rfl, q_ldP ag136 sz136 rfl (by first | decide | (simp; done) | omega | fail) (by first | ((repeat constructor); done) | exact .same _)⟩) rfl ?_ | refine glq rfl (.inr ⟨rfl, rfl⟩) rfl ?_
     first | refine glq rfl (.inl ⟨rfl, e_callN cb114 (size114_c c hcl _) rfl rfl⟩) rfl ?_ | refine glq rfl (.inl ⟨rfl, e_callN cb114 (ACall.arg (size114_c c hcl _) (by repeat (first | exact ArgL.nil | (apply ArgL.cons; (· first | exact .same | exact .cro | exact .nil))))) rfl rfl⟩) rfl ?_ | refine glq rfl (.inr ⟨rfl, rfl⟩) rfl ?_
     refine glq rfl (.inl ⟨rfl, castF (q_lss rfl rfl) (by exact decide_eq_false (by omega))⟩) rfl ?_
     first | refine glq rfl (.inl ⟨rfl, q_pickT rfl (by constructor)⟩) rfl ?_ | refine glq rfl (.inl ⟨rfl, q_pickF rfl (by constructor)⟩) rfl ?_
     refine glq rfl (.inl ⟨rfl, q_mv (by constructor)⟩) rfl ?_
     first | refine glq rfl (.inl ⟨rfl, q_ldpW ag136 sz136 rfl (by repeat (first | exact .here | assumption | (apply HAt.left; assumption) | apply HAt.there | apply HAt.right)) (by first | rfl | assumption | (simp [*]; done) | fail) (by first | rfl | assumption | (simp [*]; done) | fail) (by decide)⟩) rfl ?_ | refine glq rfl (.inl ⟨rfl, q_ldW ag136 sz136 rfl (by first | rfl | assumption | (simp [*]; done) | fail)⟩) rfl ?_ | refine glq rfl (.inl ⟨rfl, q_ldpP ag136 sz136 rfl (by repeat (first | exact .here | assumption | (apply HAt.left; assumption) | apply HAt.there | apply HAt.right)) (by first | rfl | assumption | (simp [*]; done) | fail) (by first | decide | (simp; done) | omega | fail) (by decide) (by first | ((repeat constructor); done) | exact .same _)⟩) rfl ?_ | refine glq rfl (.inl ⟨rfl, q_ldP ag136 sz136 rfl (by first | decide | (simp; done) | omega | fail) (by first | ((repeat constructor); done) | exact .same _)⟩) rfl ?_ | refine glq rfl (.inr ⟨rfl, rfl⟩) rfl ?_
     first | refine glq rfl (.inl ⟨rfl, e_callN cb114 (size114_c c' hcl' _) rfl rfl⟩) rfl ?_ | refine glq rfl (.inl ⟨rfl, e_callN cb114 (ACall.arg (size114_c c' hcl' _) (by repeat (first | exact ArgL.nil | (apply ArgL.cons; (· first | exact .same | exact .cro | exact .nil))))) rfl rfl⟩) rfl ?_ | refine glq rfl (.inr ⟨rfl, rfl⟩) rfl ?_
     first | refine glq rfl (.inl ⟨rfl, q_fapP fl136_6 (by decide) rfl rfl⟩) rfl ?_ | refine glq rfl (.inl ⟨rfl, q_faP fl136_6 (by decide) rfl (by first | ((repeat constructor); done) | exact .same _)⟩) rfl ?_ | refine glq rfl (.inr ⟨rfl, rfl⟩) rfl ?_
     first | refine glq rfl (.inl ⟨rfl, q_ldpN ag3 rfl (by repeat (first | exact .here | assumption | (apply HAt.left; assumption) | apply HAt.there | apply HAt.right)) (by first | rfl | assumption | (simp [*]; done) | fail) (by first | rfl | assumption | (simp [*]; done) | fail) (by constructor)⟩) rfl ?_ | refine glq rfl (.inl ⟨rfl, q_ld1N ag3 rfl (by constructor)⟩) rfl ?_ | refine glq rfl (.inr ⟨rfl, rfl⟩) rfl ?_
     first | refine glq rfl (.inl ⟨rfl, q_add64 rfl rfl (by omega) (by omega)⟩) rfl ?_ | refine glq rfl (.inl ⟨rfl, q_add rfl rfl⟩) rfl ?_ | refine glq rfl (.inr ⟨rfl, rfl⟩) rfl ?_
     first | refine glq rfl (.inl ⟨rfl, q_fapP fl136_6 (by decide) rfl rfl⟩) rfl ?_ | refine glq rfl (.inl ⟨rfl, q_faP fl136_6 (by decide) rfl (by first | ((repeat constructor); done) | exact .same _)⟩) rfl ?_ | refine glq rfl (.inr ⟨rfl, rfl⟩) rfl ?_
     first | refine glq rfl (.inl ⟨rfl, q_ldpN ag3 rfl (by repeat (first | exact .here | assumption | (apply HAt.left; assumption) | apply HAt.there | apply HAt.right)) (by first | rfl | assumption | (simp [*]; done) | fail) (by first | rfl | assumption | (simp [*]; done) | fail) (by constructor)⟩) rfl ?_ | refine glq rfl (.inl ⟨rfl, q_ld1N ag3 rfl (by constructor)⟩) rfl ?_ | refine glq rfl (.inr ⟨rfl, rfl⟩) rfl ?_
     first | refine glq rfl (.inl ⟨rfl, q_sub64 rfl rfl (by omega) (by omega)⟩) rfl ?_ | refine glq rfl (.inl ⟨rfl, q_sub rfl rfl⟩) rfl ?_ | refine glq rfl (.inr ⟨rfl, rfl⟩) rfl ?_
     first | refine glq rfl (.inl ⟨rfl, q_ldpW ag136 sz136 rfl (by repeat (first | exact .here | assumption | (apply HAt.left; assumption) | apply HAt.there | apply HAt.right)) (by first | rfl | assumption | (simp [*]; done) | fail) (by first | rfl | assumption | (simp [*]; done) | fail) (by decide)⟩) rfl ?_ | refine glq rfl (.inl ⟨rfl, q_ldW ag136 sz136 rfl (by first | rfl | assumption | (simp [*]; done) | fail)⟩) rfl ?_ | refine glq rfl (.inl ⟨rfl, q_ldpP ag136 sz136 rfl (by repeat (first | exact .here | assumption | (apply HAt.left; assumption) | apply HAt.there | apply HAt.right)) (by first | rfl | assumption | (simp [*]; done) | fail) (by first | decide | (simp; done) | omega | fail) (by decide) (by first | ((repeat constructor); done) | exact .same _)⟩) rfl ?_ | refine glq rfl (.inl ⟨rfl, q_ldP ag136 sz136 rfl (by first | decide | (simp; done) | omega | fail) (by first | ((repeat constructor); done) | exact .same _)⟩) rfl ?_ | refine glq rfl (.inr ⟨rfl, rfl⟩) rfl ?_
     first | refine glq rfl (.inl ⟨rfl, e_callN cb114 (size114_c c hcl _) rfl rfl⟩) rfl ?_ | refine glq rfl (.inl ⟨rfl, e_callN cb114 (ACall.arg (size114_c c hcl _) (by repeat (first | exact ArgL.nil | (apply ArgL.cons; (· first | exact .same | exact .cro | exact .nil))))) rfl rfl⟩) rfl ?_ | refine glq rfl (.inr ⟨rfl, rfl⟩) rfl ?_
     first | refine glq rfl (.inl ⟨rfl, q_add64 rfl rfl (by omega) (by omega)⟩) rfl ?_ | refine glq rfl (.inl ⟨rfl, q_add rfl rfl⟩) rfl ?_ | refine glq rfl (.inr ⟨rfl, rfl⟩) rfl ?_
     refine glq rfl (.inl ⟨rfl, castF (q_gtr rfl rfl) (by exact decide_eq_false (by omega))⟩) rfl ?_
     first | refine glq rfl (.inl ⟨rfl, q_pickT rfl (by constructor)⟩) rfl ?_ | refine glq rfl (.inl ⟨rfl, q_pickF rfl (by constructor)⟩) rfl ?_
     (first | refine gld0 ?_ | refine gldA ?_)
     refine alist_nil ?_
     show AWP _ _ _ _
     refine awp_cond rfl (fun hc2 => ?_) (fun hc2 => ?_)
     ·exfalso; first | (simp at hc2; done) | (simp at hc2; omega) | contradiction
     ·try simp only [decide_eq_true_eq, decide_eq_false_iff_not, Bool.not_eq_true', Bool.not_eq_false', Bool.not_eq_eq_eq_not, Bool.not_true, Bool.not_false, beq_iff_eq, beq_eq_false_iff_ne, Int.not_lt, Int.not_le] at hc2
      refine awp_skip ?_
      show AWP _ _ _ _
      refine awp_seq ?_
      refine awp_region ?_
      first | refine aqs rfl (q_ldpW ag136 sz136 rfl (by repeat (first | exact .here | assumption | (apply HAt.left; assumption) | apply HAt.there | apply HAt.right)) (by first | rfl | assumption | (simp [*]; done) | fail) (by first | rfl | assumption | (simp [*]; done) | fail) (by decide)) rfl ?_ | refine aqs rfl (q_ldW ag136 sz136 rfl (by first | rfl | assumption | (simp [*]; done) | fail)) rfl ?_ | refine aqs rfl (q_ldpP ag136 sz136 rfl (by repeat (first | exact .here | assumption | (apply HAt.left; assumption) | apply HAt.there | apply HAt.right)) (by first | rfl | assumption | (simp [*]; done) | fail) (by first | decide | (simp; done) | omega | fail) (by decide) (by first | ((repeat constructor); done) | exact .same _)) rfl ?_ | refine aqs rfl (q_ldP ag136 sz136 rfl (by first | decide | (simp; done) | omega | fail) (by first | ((repeat constructor); done) | exact .same _)) rfl ?_
      first | (refine aen rfl (e_stW sz136 rfl (by repeat (first | exact .here | assumption | (apply HAt.left; assumption) | apply HAt.there | apply HAt.right)) (by constructor) (by first | rfl | assumption | (simp [*]; done) | fail) rfl (by repeat (first | exact .here | apply HSet.there))) ?_; rintro _ _ ⟨rfl, rfl⟩) | (refine aen rfl (e_stP sz136 rfl (by repeat (first | exact .here | assumption | (apply HAt.left; assumption) | apply HAt.there | apply HAt.right)) (by first | rfl | assumption | (simp [*]; done) | fail) (by constructor) (by first | rfl | assumption | (simp [*]; done) | fail) rfl (by first | decide | omega) (by first | ((repeat constructor); done) | exact .same _) (by first | exact .one | exact .set) (by repeat (first | exact .here | apply HSet.there))) ?_; rintro _ _ ⟨rfl, rfl⟩)
      refine alist_nil ?_
      show AWP _ _ _ _
      refine awp_exit ?_
      show AWP _ _ _ _
      refine awp_region ?_
      refine aqs rfl (q_mv (by constructor)) rfl ?_
      first | refine aqs rfl (q_add64 rfl rfl (by omega) (by omega)) rfl ?_ | refine aqs rfl (q_add rfl rfl) rfl ?_
      refine aqs rfl (q_as (by constructor)) rfl ?_
      refine alist_nil ?_
      show ∃ y, _ ∧ _ ∧ _
      exact ⟨(i + 1, c'), ⟨by show i + 1 ≤ b.length; omega, by show i + 1 ≤ 30; omega, small_mono h3 (by simp; omega), h4⟩, by show 30 - (i + 1) < 30 - i; omega, .mk' ⟨by rfl, rfl, rfl, rfl, rfl, trivial⟩ (by repeat (first | exact List.Sublist.refl _ | exact List.nil_sublist _ | exact List.sublist_append_left _ _ | (apply List.Sublist.cons_cons) | (apply List.Sublist.cons)))⟩
    ·have h2 := counts_get hs (by omega) l r
     have h3 := small_get hs (by unfold maxCount; omega) l r
     have h4 := good_get hg l r
     obtain ⟨g, c', e', hp⟩ : ∃ g c' e', getC c l r = (g, c', e') := ⟨_, _, _, rfl⟩
     rw [hp] at h2 h3 h4
     simp only at h2 h3 h4
     have hcl' := h4.clen
     have hzc' := small_size h3
     have hnc' := small_n h3
     refine awp_skip ?_
     show AWP _ _ _ _
     refine awp_seq ?_
     refine awp_region ?_
     first | refine aqs rfl (q_ldpW ag136 sz136 rfl (by repeat (first | exact .here | assumption | (apply HAt.left; assumption) | apply HAt.there | apply HAt.right)) (by first | rfl | assumption | (simp [*]; done) | fail) (by first | rfl | assumption | (simp [*]; done) | fail) (by decide)) rfl ?_ | refine aqs rfl (q_ldW ag136 sz136 rfl (by first | rfl | assumption | (simp [*]; done) | fail)) rfl ?_ | refine aqs rfl (q_ldpP ag136 sz136 rfl (by repeat (first | exact .here | assumption | (apply HAt.left; assumption) | apply HAt.there | apply HAt.right)) (by first | rfl | assumption | (simp [*]; done) | fail) (by first | decide | (simp; done) | omega | fail) (by decide) (by first | ((repeat constructor); done) | exact .same _)) rfl ?_ | refine aqs rfl (q_ldP ag136 sz136 rfl (by first | decide | (simp; done) | omega | fail) (by first | ((repeat constructor); done) | exact .same _)) rfl ?_
     refine aqs rfl (q_mv (by constructor)) rfl ?_
     refine aqs rfl (q_mv (by constructor)) rfl ?_
     first | refine aqs rfl (e_callN cb116 (get116_p hcl (by omega) hp) rfl rfl) rfl ?_ | refine aqs rfl (e_callN cb116 (ACall.arg (get116_p hcl (by omega) hp) (by repeat (first | exact ArgL.nil | (apply ArgL.cons; (· first | exact .same | exact .cro | exact .nil))))) rfl rfl) rfl ?_
     refine aqs rfl (q_mv (by constructor)) rfl ?_
     refine aqs rfl (q_ex rfl rfl (by constructor)) rfl ?_
     refine aqs rfl (q_ex rfl rfl (by constructor)) rfl ?_
     refine aqs rfl (q_ex rfl rfl (by constructor)) rfl ?_
     (refine aes rfl (e_al (xs := [.lit (.int .i64 0), .lit (.int .i64 0), .lit (.slice none 0 0), .lit (.int .i64 0), .lit (.int .i64 0), .lit (.int .i64 0), .lit (.int .i64 0)]) (k := 7) zr136 (.same _) rfl) rfl ?_; rintro _ _ ⟨u17, rfl, rfl⟩)
     refine aqs rfl (q_as (by constructor)) rfl ?_
     first | (refine aen rfl (e_stW sz136 rfl (by repeat (first | exact .here | assumption | (apply HAt.left; assumption) | apply HAt.there | apply HAt.right)) (by constructor) (by first | rfl | assumption | (simp [*]; done) | fail) rfl (by repeat (first | exact .here | apply HSet.there))) ?_; rintro _ _ ⟨rfl, rfl⟩) | (refine aen rfl (e_stP sz136 rfl (by repeat (first | exact .here | assumption | (apply HAt.left; assumption) | apply HAt.there | apply HAt.right)) (by first | rfl | assumption | (simp [*]; done) | fail) (by constructor) (by first | rfl | assumption | (simp [*]; done) | fail) rfl (by first | decide | omega) (by first | ((repeat constructor); done) | exact .same _) (by first | exact .one | exact .set) (by repeat (first | exact .here | apply HSet.there))) ?_; rintro _ _ ⟨rfl, rfl⟩)
     refine aqs rfl (q_as (by constructor)) rfl ?_
     refine alist_nil ?_
     show AWP _ _ _ _
     refine awp_seq ?_
     refine awp_seq ?_
     refine awp_region ?_
     first | refine aqs rfl (q_fapP fl136_3 (by decide) rfl rfl) rfl ?_ | refine aqs rfl (q_faP fl136_3 (by decide) rfl (by first | ((repeat constructor); done) | exact .same _)) rfl ?_
     first | refine aqs rfl (q_ldpN ag3 rfl (by repeat (first | exact .here | assumption | (apply HAt.left; assumption) | apply HAt.there | apply HAt.right)) (by first | rfl | assumption | (simp [*]; done) | fail) (by first | rfl | assumption | (simp [*]; done) | fail) (by constructor)) rfl ?_ | refine aqs rfl (q_ld1N ag3 rfl (by constructor)) rfl ?_
     first | refine aqs rfl (q_fapP fl136_4 (by decide) rfl rfl) rfl ?_ | refine aqs rfl (q_faP fl136_4 (by decide) rfl (by first | ((repeat constructor); done) | exact .same _)) rfl ?_
     first | refine aqs rfl (q_ldpN ag3 rfl (by repeat (first | exact .here | assumption | (apply HAt.left; assumption) | apply HAt.there | apply HAt.right)) (by first | rfl | assumption | (simp [*]; done) | fail) (by first | rfl | assumption | (simp [*]; done) | fail) (by constructor)) rfl ?_ | refine aqs rfl (q_ld1N ag3 rfl (by constructor)) rfl ?_
     first | refine aqs rfl (q_add64 rfl rfl (by omega) (by omega)) rfl ?_ | refine aqs rfl (q_add rfl rfl) rfl ?_
     first | refine aqs rfl (q_fapP fl136_5 (by decide) rfl rfl) rfl ?_ | refine aqs rfl (q_faP fl136_5 (by decide) rfl (by first | ((repeat constructor); done) | exact .same _)) rfl ?_
     first | refine aqs rfl (q_ldpN ag3 rfl (by repeat (first | exact .here | assumption | (apply HAt.left; assumption) | apply HAt.there | apply HAt.right)) (by first | rfl | assumption | (simp [*]; done) | fail) (by first | rfl | assumption | (simp [*]; done) | fail) (by constructor)) rfl ?_ | refine aqs rfl (q_ld1N ag3 rfl (by constructor)) rfl ?_
     first | refine aqs rfl (q_add64 rfl rfl (by omega) (by omega)) rfl ?_ | refine aqs rfl (q_add rfl rfl) rfl ?_
     first | refine aqs rfl (q_fapP fl136_3 (by decide) rfl rfl) rfl ?_ | refine aqs rfl (q_faP fl136_3 (by decide) rfl (by first | ((repeat constructor); done) | exact .same _)) rfl ?_
     first | refine aqs rfl (q_ldpN ag3 rfl (by repeat (first | exact .here | assumption | (apply HAt.left; assumption) | apply HAt.there | apply HAt.right)) (by first | rfl | assumption | (simp [*]; done) | fail) (by first | rfl | assumption | (simp [*]; done) | fail) (by constructor)) rfl ?_ | refine aqs rfl (q_ld1N ag3 rfl (by constructor)) rfl ?_
     first | refine aqs rfl (q_fapP fl136_4 (by decide) rfl rfl) rfl ?_ | refine aqs rfl (q_faP fl136_4 (by decide) rfl (by first | ((repeat constructor); done) | exact .same _)) rfl ?_
     first | refine aqs rfl (q_ldpN ag3 rfl (by repeat (first | exact .here | assumption | (apply HAt.left; assumption) | apply HAt.there | apply HAt.right)) (by first | rfl | assumption | (simp [*]; done) | fail) (by first | rfl | assumption | (simp [*]; done) | fail) (by constructor)) rfl ?_ | refine aqs rfl (q_ld1N ag3 rfl (by constructor)) rfl ?_
     first | refine aqs rfl (q_add64 rfl rfl (by omega) (by omega)) rfl ?_ | refine aqs rfl (q_add rfl rfl) rfl ?_
     first | refine aqs rfl (q_fapP fl136_5 (by decide) rfl rfl) rfl ?_ | refine aqs rfl (q_faP fl136_5 (by decide) rfl (by first | ((repeat constructor); done) | exact .same _)) rfl ?_
     first | refine aqs rfl (q_ldpN ag3 rfl (by repeat (first | exact .here | assumption | (apply HAt.left; assumption) | apply HAt.there | apply HAt.right)) (by first | rfl | assumption | (simp [*]; done) | fail) (by first | rfl | assumption | (simp [*]; done) | fail) (by constructor)) rfl ?_ | refine aqs rfl (q_ld1N ag3 rfl (by constructor)) rfl ?_
     first | refine aqs rfl (q_add64 rfl rfl (by omega) (by omega)) rfl ?_ | refine aqs rfl (q_add rfl rfl) rfl ?_
     first | refine aqs rfl (q_add64 rfl rfl (by omega) (by omega)) rfl ?_ | refine aqs rfl (q_add rfl rfl) rfl ?_
     refine aqs rfl (castF (q_neq rfl rfl) (by simp only [Bool.not_eq_false', decide_eq_true_eq]; omega)) rfl ?_
     refine aqs rfl (q_mv (by constructor)) rfl ?_
     first | refine ans rfl rfl ?_ | refine aqs rfl (q_mv (by constructor)) rfl ?_
     first | refine ans rfl rfl ?_ | refine aqs rfl (q_eql rfl rfl) rfl ?_
     first | refine ans rfl rfl ?_ | refine aqs rfl (q_fapP fl136_3 (by decide) rfl rfl) rfl ?_ | refine aqs rfl (q_faP fl136_3 (by decide) rfl (by first | ((repeat constructor); done) | exact .same _)) rfl ?_
     first | refine ans rfl rfl ?_ | refine aqs rfl (q_ldpN ag3 rfl (by repeat (first | exact .here | assumption | (apply HAt.left; assumption) | apply HAt.there | apply HAt.right)) (by first | rfl | assumption | (simp [*]; done) | fail) (by first | rfl | assumption | (simp [*]; done) | fail) (by constructor)) rfl ?_ | refine aqs rfl (q_ld1N ag3 rfl (by constructor)) rfl ?_
     first | refine ans rfl rfl ?_ | refine aqs rfl (q_fapP fl136_3 (by decide) rfl rfl) rfl ?_ | refine aqs rfl (q_faP fl136_3 (by decide) rfl (by first | ((repeat constructor); done) | exact .same _)) rfl ?_
     first | refine ans rfl rfl ?_ | refine aqs rfl (q_ldpN ag3 rfl (by repeat (first | exact .here | assumption | (apply HAt.left; assumption) | apply HAt.there | apply HAt.right)) (by first | rfl | assumption | (simp [*]; done) | fail) (by first | rfl | assumption | (simp [*]; done) | fail) (by constructor)) rfl ?_ | refine aqs rfl (q_ld1N ag3 rfl (by constructor)) rfl ?_
     first | refine ans rfl rfl ?_ | refine aqs rfl (q_add64 rfl rfl (by omega) (by omega)) rfl ?_ | refine aqs rfl (q_add rfl rfl) rfl ?_
     first | refine ans rfl rfl ?_ | refine aqs rfl (q_eql rfl rfl) rfl ?_
     refine aqs rfl (castF (q_bneq rfl rfl Try.underlying4) (by simp [h2.2.1])) rfl ?_
     first | refine aqs rfl (q_pickT rfl (by constructor)) rfl ?_ | refine aqs rfl (q_pickF rfl (by constructor)) rfl ?_
     refine aqs rfl (q_mv (by constructor)) rfl ?_
     first | refine ans rfl rfl ?_ | refine aqs rfl (q_fapP fl136_6 (by decide) rfl rfl) rfl ?_ | refine aqs rfl (q_faP fl136_6 (by decide) rfl (by first | ((repeat constructor); done) | exact .same _)) rfl ?_
     first | refine ans rfl rfl ?_ | refine aqs rfl (q_ldpN ag3 rfl (by repeat (first | exact .here | assumption | (apply HAt.left; assumption) | apply HAt.there | apply HAt.right)) (by first | rfl | assumption | (simp [*]; done) | fail) (by first | rfl | assumption | (simp [*]; done) | fail) (by constructor)) rfl ?_ | refine aqs rfl (q_ld1N ag3 rfl (by constructor)) rfl ?_
     first | refine ans rfl rfl ?_ | refine aqs rfl (q_fapP fl136_6 (by decide) rfl rfl) rfl ?_ | refine aqs rfl (q_faP fl136_6 (by decide) rfl (by first | ((repeat constructor); done) | exact .same _)) rfl ?_
     first | refine ans rfl rfl ?_ | refine aqs rfl (q_ldpN ag3 rfl (by repeat (first | exact .here | assumption | (apply HAt.left; assumption) | apply HAt.there | apply HAt.right)) (by first | rfl | assumption | (simp [*]; done) | fail) (by first | rfl | assumption | (simp [*]; done) | fail) (by constructor)) rfl ?_ | refine aqs rfl (q_ld1N ag3 rfl (by constructor)) rfl ?_
     refine aqs rfl (castF (q_neq rfl rfl) (by simp [h2.2.2])) rfl ?_
     first | refine aqs rfl (q_pickT rfl (by constructor)) rfl ?_ | refine aqs rfl (q_pickF rfl (by constructor)) rfl ?_
     refine alist_nil ?_
     show AWP _ _ _ _
     refine awp_cond rfl (fun hc3 => ?_) (fun hc3 => ?_)
     ·exfalso; first | (simp at hc3; done) | (simp at hc3; omega) | contradiction
     ·try simp only [decide_eq_true_eq, decide_eq_false_iff_not, Bool.not_eq_true', Bool.not_eq_false', Bool.not_eq_eq_eq_not, Bool.not_true, Bool.not_false, beq_iff_eq, beq_eq_false_iff_ne, Int.not_lt, Int.not_le] at hc3
      refine awp_skip ?_
      show AWP _ _ _ _
      refine awp_region ?_
      first | refine aqs rfl (q_ldpW ag136 sz136 rfl (by repeat (first | exact .here | assumption | (apply HAt.left; assumption) | apply HAt.there | apply HAt.right)) (by first | rfl | assumption | (simp [*]; done) | fail) (by first | rfl | assumption | (simp [*]; done) | fail) (by decide)) rfl ?_ | refine aqs rfl (q_ldW ag136 sz136 rfl (by first | rfl | assumption | (simp [*]; done) | fail)) rfl ?_ | refine aqs rfl (q_ldpP ag136 sz136 rfl (by repeat (first | exact .here | assumption | (apply HAt.left; assumption) | apply HAt.there | apply HAt.right)) (by first | rfl | assumption | (simp [*]; done) | fail) (by first | decide | (simp; done) | omega | fail) (by decide) (by first | ((repeat constructor); done) | exact .same _)) rfl ?_ | refine aqs rfl (q_ldP ag136 sz136 rfl (by first | decide | (simp; done) | omega | fail) (by first | ((repeat constructor); done) | exact .same _)) rfl ?_
      first | (refine aen rfl (e_stW sz136 rfl (by repeat (first | exact .here | assumption | (apply HAt.left; assumption) | apply HAt.there | apply HAt.right)) (by constructor) (by first | rfl | assumption | (simp [*]; done) | fail) rfl (by repeat (first | exact .here | apply HSet.there))) ?_; rintro _ _ ⟨rfl, rfl⟩) | (refine aen rfl (e_stP sz136 rfl (by repeat (first | exact .here | assumption | (apply HAt.left; assumption) | apply HAt.there | apply HAt.right)) (by first | rfl | assumption | (simp [*]; done) | fail) (by constructor) (by first | rfl | assumption | (simp [*]; done) | fail) rfl (by first | decide | omega) (by first | ((repeat constructor); done) | exact .same _) (by first | exact .one | exact .set) (by repeat (first | exact .here | apply HSet.there))) ?_; rintro _ _ ⟨rfl, rfl⟩)
      refine alist_nil ?_
      show AWP _ _ _ _
      refine awp_region ?_
      refine aqs rfl (q_mv (by constructor)) rfl ?_
      first | refine aqs rfl (q_add64 rfl rfl (by omega) (by omega)) rfl ?_ | refine aqs rfl (q_add rfl rfl) rfl ?_
      refine aqs rfl (q_as (by constructor)) rfl ?_
      refine alist_nil ?_
      show ∃ y, _ ∧ _ ∧ _
      exact ⟨(i + 1, c'), ⟨by show i + 1 ≤ b.length; omega, by show i + 1 ≤ 30; omega, small_mono h3 (by simp; omega), h4⟩, by show 30 - (i + 1) < 30 - i; omega, .mk' ⟨by rfl, rfl, rfl, rfl, rfl, trivial⟩ (by repeat (first | exact List.Sublist.refl _ | exact List.nil_sublist _ | exact List.sublist_append_left _ _ | (apply List.Sublist.cons_cons) | (apply List.Sublist.cons)))⟩
   ·skip
    refine awp_exit ?_
    show AWP _ _ _ _
    refine awp_seq ?_
    refine awp_region ?_
    refine aqs rfl (q_mv (by constructor)) rfl ?_
    refine aqs rfl (q_as (by constructor)) rfl ?_
    refine alist_nil ?_
    show AWP _ _ _ _
    refine awp_ret ?_
    repeat first | with_reducible refine then_ret ?_ | with_reducible refine blk_ret ?_ | with_reducible refine nogo_ret ?_
    apply retq (.inr rfl) (.cons (rok_t rfl) .nil)
    rotate_left
    ·exact ⟨rfl, rfl⟩
    repeat (first | exact List.Sublist.refl _ | exact List.nil_sublist _ | exact List.sublist_append_left _ _ | apply List.Sublist.cons)
end Go.Proofs.YtdlinfekifnmkaaAm
