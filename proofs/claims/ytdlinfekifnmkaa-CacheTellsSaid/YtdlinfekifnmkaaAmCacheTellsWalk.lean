/- The walk of CacheTells. Conditions: none. -/
import Derived.Test.YtdlinfekifnmkaaAmCacheJ
set_option linter.unusedVariables false
set_option linter.unusedSimpArgs false
set_option maxRecDepth 20000
namespace Go.Proofs.YtdlinfekifnmkaaAm
open Go.Proofs
set_option maxHeartbeats 32000000 in
theorem walkCacheTells (a b c : Int) (n : Tri) (puts : List Tri) (wh by_ : Int) (left right val : ByteArray) (k : Tri) (wa : -9223372036854775808 ≤ a ∧ a ≤ 9223372036854775807) (wb : -9223372036854775808 ≤ b ∧ b ≤ 9223372036854775807) (wc : -9223372036854775808 ≤ c ∧ c ≤ 9223372036854775807) (wn : n.Wf) (wp : (∀ y ∈ puts, y.Wf) ∧ puts.length ≤ 9223372036854775807) (ww : -9223372036854775808 ≤ wh ∧ wh ≤ 9223372036854775807) (wy : -9223372036854775808 ≤ by_ ∧ by_ ≤ 9223372036854775807) (wl : left.size ≤ 9223372036854775807) (wr : right.size ≤ 9223372036854775807) (wv : val.size ≤ 9223372036854775807) (wk : k.Wf) :
    QCall Try.prog 30 [.lit (.int .i64 a), .lit (.int .i64 b), .lit (.int .i64 c), .agg n.cells, .ro (puts.map Tri.cells), .lit (.int .i64 wh), .lit (.int .i64 by_), .lit (.string left), .lit (.string right), .lit (.string val), .agg k.cells] [] (.lit (.bool true)) := by
  obtain ⟨Ns, hNs⟩ : ∃ Ns, Ns = [(⟨a, b, c⟩ : Tri), ⟨pick a 18, pick b 20, pick c 66⟩] := ⟨_, rfl⟩
  have hN : ([[.lit (.int .i64 a), .lit (.int .i64 b), .lit (.int .i64 c)], [.lit (.int .i64 (pick a 18)), .lit (.int .i64 (pick b 20)), .lit (.int .i64 (pick c 66))]] : List (List AV)) = Ns.map Tri.cells := by rw [hNs]; rfl
  have hNl : Ns.length = 2 := by rw [hNs]; rfl
  have hgd := good_cach n (puts.take 20)
  obtain ⟨own, hown⟩ : ∃ c0, c0 = cachS n (puts.take 20) := ⟨_, rfl⟩
  have hg : CGood own := hown ▸ hgd
  have h1 := hg.right.n1
  have h16 := hg.right.n16
  obtain ⟨odd, hodd⟩ : ∃ o, o = turnC own (pick wh 8) by_ := ⟨_, rfl⟩
  have hos : CSm odd := hodd ▸ csm_turn hg _ _
  obtain ⟨Cs, hCs⟩ : ∃ Cs, Cs = [own, odd] := ⟨_, rfl⟩
  have hC : ([own.cells, odd.cells] : List (List AV)) = Cs.map Cach.cells := by rw [hCs]; rfl
  have hCb : ∀ x ∈ Cs, CSm x := by
    intro f hf
    rw [hCs] at hf
    rcases two_of3 hf with h | h
    · rw [h]; exact csm_good hg
    · rw [h]; exact hos
  have hCl : Cs.length = 2 := by rw [hCs]; rfl
  have hl40 := cut40_size left
  have hr40 := cut40_size right
  have hka := textS_size k.a
  have hkb := textS_size k.b
  obtain ⟨Ts, hTs⟩ : ∃ Ts, Ts = [(cut40 left, cut40 right, cut40 val), (textS k.a, textS k.b, textS k.c)] := ⟨_, rfl⟩
  have hT : ([[.lit (.string (cut40 left)), .lit (.string (cut40 right)), .lit (.string (cut40 val))], [.lit (.string (textS k.a)), .lit (.string (textS k.b)), .lit (.string (textS k.c))]] : List (List AV)) = Ts.map sRow3 := by rw [hTs]; rfl
  have hTl : Ts.length = 2 := by rw [hTs]; rfl
  have hTb : ∀ t ∈ Ts, t.1.size + t.2.1.size ≤ 1000 := by
    intro t ht
    rw [hTs] at ht
    rcases two_of3 ht with h | h
    · rw [h]; show (cut40 left).size + (cut40 right).size ≤ 1000; omega
    · rw [h]; show (textS k.a).size + (textS k.b).size ≤ 1000; omega
  refine acall_intro (n := 221) (rvs := [.tmp 22]) Try.func30 rfl rfl rfl (Nat.le_of_ble_eq_true rfl) ?_
  refine awp_seq ?_
  refine awp_region ?_
  (refine aes rfl (e_bx (by constructor) rfl rfl) rfl ?_; rintro _ _ ⟨u14, rfl, rfl⟩)
  (refine aes rfl (e_bx (by constructor) rfl rfl) rfl ?_; rintro _ _ ⟨u21, rfl, rfl⟩)
  refine aqs rfl (q_as (by constructor)) rfl ?_
  refine alist_nil ?_
  show AWP _ _ _ _
  refine awp_seq ?_
  refine awp_region ?_
  first | refine aqs rfl (e_callN cb105 (QCall.any _ awake105_c) rfl rfl) rfl ?_ | refine aqs rfl (e_callN cb105 (ACall.arg (QCall.any _ awake105_c) (by repeat (first | exact ArgL.nil | (apply ArgL.cons; (· first | exact .same | exact .cro | exact .nil))))) rfl rfl) rfl ?_
  refine aqs rfl (q_as (by constructor)) rfl ?_
  refine alist_nil ?_
  show AWP _ _ _ _
  refine awp_seq ?_
  refine awp_seq ?_
  refine awp_region ?_
  refine aqs rfl (q_mv (by constructor)) rfl ?_
  refine aqs rfl (q_mv (by constructor)) rfl ?_
  refine aqs rfl (q_mv (by constructor)) rfl ?_
  refine aqs rfl (q_bd st83 zr83 (by first | ((repeat constructor); done) | exact .same _) (by repeat (first | exact BD.nil | (apply BD.cons; (· rfl); (· constructor); (· rfl); (· rfl); (· exact Nat.le_of_ble_eq_true (by rfl)); (· exact (by first | ((repeat constructor); done) | exact .same _)))))) rfl ?_
  refine aqs rfl (q_mv (by constructor)) rfl ?_
  first | refine aqs rfl (e_callN cb106 (pick106_c a 18 wa.1 wa.2 (by omega) _) rfl rfl) rfl ?_ | refine aqs rfl (e_callN cb106 (ACall.arg (pick106_c a 18 wa.1 wa.2 (by omega) _) (by repeat (first | exact ArgL.nil | (apply ArgL.cons; (· first | exact .same | exact .cro | exact .nil))))) rfl rfl) rfl ?_
  refine aqs rfl (q_mv (by constructor)) rfl ?_
  first | refine aqs rfl (e_callN cb106 (pick106_c b 20 wb.1 wb.2 (by omega) _) rfl rfl) rfl ?_ | refine aqs rfl (e_callN cb106 (ACall.arg (pick106_c b 20 wb.1 wb.2 (by omega) _) (by repeat (first | exact ArgL.nil | (apply ArgL.cons; (· first | exact .same | exact .cro | exact .nil))))) rfl rfl) rfl ?_
  refine aqs rfl (q_mv (by constructor)) rfl ?_
  first | refine aqs rfl (e_callN cb106 (pick106_c c 66 wc.1 wc.2 (by omega) _) rfl rfl) rfl ?_ | refine aqs rfl (e_callN cb106 (ACall.arg (pick106_c c 66 wc.1 wc.2 (by omega) _) (by repeat (first | exact ArgL.nil | (apply ArgL.cons; (· first | exact .same | exact .cro | exact .nil))))) rfl rfl) rfl ?_
  refine aqs rfl (q_bd st83 zr83 (by first | ((repeat constructor); done) | exact .same _) (by repeat (first | exact BD.nil | (apply BD.cons; (· rfl); (· constructor); (· rfl); (· rfl); (· exact Nat.le_of_ble_eq_true (by rfl)); (· exact (by first | ((repeat constructor); done) | exact .same _)))))) rfl ?_
  first | refine aqs rfl (castQ (r2 := .cro (Ns.map Tri.cells)) (q_bs Try.underlying64 sz83 zr83 rfl (by first | ((repeat constructor); done) | exact .same _) rfl (by decide) (by repeat (first | exact BS.nil | (apply BS.cons; (· constructor); (· rfl); (· rfl); (· rfl); (· exact (by first | ((repeat constructor); done) | exact .same _)))))) (by exact congrArg AV.cro hN)) rfl ?_ | (refine aes rfl (e_bs Try.underlying64 sz83 zr83 rfl (by first | ((repeat constructor); done) | exact .same _) rfl (by decide) (by repeat (first | exact BS.nil | (apply BS.cons; (· constructor); (· rfl); (· rfl); (· rfl); (· exact (by first | ((repeat constructor); done) | exact .same _)))))) rfl ?_; rintro _ _ ⟨u57, rfl, rfl⟩)
  first | refine aqs rfl (castQ (r2 := .lit (.int .i64 2)) (q_len Try.underlying64 .ro) (by rw [List.length_map, hNl]; rfl)) rfl ?_ | refine aqs rfl (castQ (r2 := .lit (.int .i64 2)) (q_lenO Try.underlying64 rfl (by repeat (first | exact .here | assumption | (apply HAt.left; assumption) | apply HAt.there | apply HAt.right)) (by first | omega | (simp; done) | (simp; omega) | fail) (by first | exact Nat.sub_zero _ | rfl)) (by rw [List.length_map, hNl]; rfl)) rfl ?_ | refine aqs rfl (castQ (r2 := .lit (.int .i64 2)) (q_len Try.underlying64 .nil) (by rw [List.length_map, hNl]; rfl)) rfl ?_ | refine aqs rfl (castQ (r2 := .lit (.int .i64 2)) (q_len Try.underlying64 .cro) (by rw [List.length_map, hNl]; rfl)) rfl ?_
  refine aqs rfl (q_mv (by constructor)) rfl ?_
  refine alist_nil ?_
  show AWP _ _ _ _
  refine awp_block ?_
  refine awp_loop_inv (fun i : Nat => ⟨[(59, .lit (.int .i64 i)), (58, .lit (.int .i64 2)), (57, .cro (Ns.map Tri.cells)), (4, .ro (puts.map Tri.cells)), (5, .lit (.int .i64 wh)), (6, .lit (.int .i64 by_)), (7, .lit (.string left)), (8, .lit (.string right)), (9, .lit (.string val)), (14, .ptr u14 0 0), (21, .ptr u21 0 0), (23, .lit (.bool true))], 221, [(u21, .arr 83 3 [k.cells]), (u14, .arr 83 3 [n.cells])]⟩) (fun i => i ≤ 2) (fun i => 2 - i) 0 ?_ ?_ ?_
  ·exact Nat.zero_le _
  ·exact .mk' (by repeat (first | exact trivial | refine ⟨rfl, ?_⟩)) (by repeat (first | exact .refl _ | apply List.Sublist.cons_cons | apply List.Sublist.cons))
  ·intro i hi
   refine awp_seq ?_
   refine awp_region ?_
   refine aqs rfl (q_lss rfl rfl) rfl ?_
   refine alist_nil ?_
   show AWP _ _ _ _
   refine awp_seq ?_
   refine awp_cond rfl (fun hc0 => ?_) (fun hc0 => ?_)
   ·simp only [decide_eq_true_eq] at hc0
    obtain ⟨x, hx, hxm⟩ := get_lt (l := Ns) (i := i) (by omega)
    have hx2 := get_map (f := Tri.cells) hx
    have hln := clen_new x.a x.b x.c
    obtain ⟨c', e', hnw⟩ : ∃ c' e', newC x.a x.b x.c = (c', e') := ⟨_, _, rfl⟩
    rw [hnw] at hln
    simp only at hln
    refine awp_skip ?_
    show AWP _ _ _ _
    refine awp_seq ?_
    refine awp_block ?_
    refine awp_seq ?_
    refine awp_region ?_
    first | refine aqs rfl (q_iaN Try.underlying64 sz83 (.inl rfl) rfl (by omega) (by first | rfl | assumption | (simp [*]; done) | fail) (by first | rfl | assumption | (simp [*]; done) | fail) (by decide) (by first | ((repeat constructor); done) | exact .same _)) rfl ?_ | refine aqs rfl (q_iaS Try.underlying64 sz83 rfl (by repeat (first | exact .here | assumption | (apply HAt.left; assumption) | apply HAt.there | apply HAt.right)) rfl (by omega) (by omega) (by first | exact Nat.zero_add _ | rfl)) rfl ?_ | refine aqs rfl (q_iaN Try.underlying64 sz83 (.inr rfl) rfl (by omega) (by first | rfl | assumption | (simp [*]; done) | fail) (by first | rfl | assumption | (simp [*]; done) | fail) (by decide) (by first | ((repeat constructor); done) | exact .same _)) rfl ?_
    first | refine aqs rfl (q_ldpW ag83 sz83 rfl (by repeat (first | exact .here | assumption | (apply HAt.left; assumption) | apply HAt.there | apply HAt.right)) (by first | rfl | assumption | (simp [*]; done) | fail) (by first | rfl | assumption | (simp [*]; done) | fail) (by decide)) rfl ?_ | refine aqs rfl (q_ldW ag83 sz83 rfl (by first | rfl | assumption | (simp [*]; done) | fail)) rfl ?_ | refine aqs rfl (q_ldpP ag83 sz83 rfl (by repeat (first | exact .here | assumption | (apply HAt.left; assumption) | apply HAt.there | apply HAt.right)) (by first | rfl | assumption | (simp [*]; done) | fail) (by first | decide | (simp; done) | omega | fail) (by decide) (by first | ((repeat constructor); done) | exact .same _)) rfl ?_ | refine aqs rfl (q_ldP ag83 sz83 rfl (by first | decide | (simp; done) | omega | fail) (by first | ((repeat constructor); done) | exact .same _)) rfl ?_
    (refine aes rfl (e_al (xs := [.lit (.int .i64 0), .lit (.int .i64 0), .lit (.int .i64 0)]) (k := 3) zr83 (.same _) rfl) rfl ?_; rintro _ _ ⟨u25, rfl, rfl⟩)
    first | (refine aen rfl (e_stW sz83 rfl (by repeat (first | exact .here | assumption | (apply HAt.left; assumption) | apply HAt.there | apply HAt.right)) (by constructor) (by first | rfl | assumption | (simp [*]; done) | fail) rfl (by repeat (first | exact .here | apply HSet.there))) ?_; rintro _ _ ⟨rfl, rfl⟩) | (refine aen rfl (e_stP sz83 rfl (by repeat (first | exact .here | assumption | (apply HAt.left; assumption) | apply HAt.there | apply HAt.right)) (by first | rfl | assumption | (simp [*]; done) | fail) (by constructor) (by first | rfl | assumption | (simp [*]; done) | fail) rfl (by first | decide | omega) (by first | ((repeat constructor); done) | exact .same _) (by first | exact .one | exact .set) (by repeat (first | exact .here | apply HSet.there))) ?_; rintro _ _ ⟨rfl, rfl⟩)
    refine alist_nil ?_
    show AWP _ _ _ _
    refine awp_seq ?_
    refine awp_region ?_
    first | refine aqs rfl (q_iaA Try.underlying83 sz3 rfl rfl (by omega) (by omega) rfl) rfl ?_ | refine aqs rfl (q_iaI Try.underlying83 sz3 rfl rfl (by omega) (by omega) (by first | ((repeat constructor); done) | exact .same _)) rfl ?_
    first | refine aqs rfl (q_ldpN ag3 rfl (by repeat (first | exact .here | assumption | (apply HAt.left; assumption) | apply HAt.there | apply HAt.right)) (by first | rfl | assumption | (simp [*]; done) | fail) (by first | rfl | assumption | (simp [*]; done) | fail) (by constructor)) rfl ?_ | refine aqs rfl (q_ld1N ag3 rfl (by constructor)) rfl ?_
    first | refine aqs rfl (q_iaA Try.underlying83 sz3 rfl rfl (by omega) (by omega) rfl) rfl ?_ | refine aqs rfl (q_iaI Try.underlying83 sz3 rfl rfl (by omega) (by omega) (by first | ((repeat constructor); done) | exact .same _)) rfl ?_
    first | refine aqs rfl (q_ldpN ag3 rfl (by repeat (first | exact .here | assumption | (apply HAt.left; assumption) | apply HAt.there | apply HAt.right)) (by first | rfl | assumption | (simp [*]; done) | fail) (by first | rfl | assumption | (simp [*]; done) | fail) (by constructor)) rfl ?_ | refine aqs rfl (q_ld1N ag3 rfl (by constructor)) rfl ?_
    first | refine aqs rfl (q_iaA Try.underlying83 sz3 rfl rfl (by omega) (by omega) rfl) rfl ?_ | refine aqs rfl (q_iaI Try.underlying83 sz3 rfl rfl (by omega) (by omega) (by first | ((repeat constructor); done) | exact .same _)) rfl ?_
    first | refine aqs rfl (q_ldpN ag3 rfl (by repeat (first | exact .here | assumption | (apply HAt.left; assumption) | apply HAt.there | apply HAt.right)) (by first | rfl | assumption | (simp [*]; done) | fail) (by first | rfl | assumption | (simp [*]; done) | fail) (by constructor)) rfl ?_ | refine aqs rfl (q_ld1N ag3 rfl (by constructor)) rfl ?_
    first | refine aqs rfl (e_callN cb107 (new107_p hnw) rfl rfl) rfl ?_ | refine aqs rfl (e_callN cb107 (ACall.arg (new107_p hnw) (by repeat (first | exact ArgL.nil | (apply ArgL.cons; (· first | exact .same | exact .cro | exact .nil))))) rfl rfl) rfl ?_
    refine aqs rfl (q_mv (by constructor)) rfl ?_
    refine aqs rfl (q_ex rfl rfl (by constructor)) rfl ?_
    refine aqs rfl (q_ex rfl rfl (by constructor)) rfl ?_
    (refine aes rfl (e_al (xs := [.lit (.int .i64 0), .lit (.int .i64 0), .lit (.slice none 0 0), .lit (.int .i64 0), .lit (.int .i64 0), .lit (.int .i64 0), .lit (.int .i64 0)]) (k := 7) zr136 (.same _) rfl) rfl ?_; rintro _ _ ⟨u26, rfl, rfl⟩)
    first | (refine aen rfl (e_stW sz136 rfl (by repeat (first | exact .here | assumption | (apply HAt.left; assumption) | apply HAt.there | apply HAt.right)) (by constructor) (by first | rfl | assumption | (simp [*]; done) | fail) rfl (by repeat (first | exact .here | apply HSet.there))) ?_; rintro _ _ ⟨rfl, rfl⟩) | (refine aen rfl (e_stP sz136 rfl (by repeat (first | exact .here | assumption | (apply HAt.left; assumption) | apply HAt.there | apply HAt.right)) (by first | rfl | assumption | (simp [*]; done) | fail) (by constructor) (by first | rfl | assumption | (simp [*]; done) | fail) rfl (by first | decide | omega) (by first | ((repeat constructor); done) | exact .same _) (by first | exact .one | exact .set) (by repeat (first | exact .here | apply HSet.there))) ?_; rintro _ _ ⟨rfl, rfl⟩)
    refine aqs rfl (q_as (by constructor)) rfl ?_
    refine alist_nil ?_
    show AWP _ _ _ _
    refine awp_seq ?_
    refine awp_region ?_
    first | refine aqs rfl (q_iaA Try.underlying83 sz3 rfl rfl (by omega) (by omega) rfl) rfl ?_ | refine aqs rfl (q_iaI Try.underlying83 sz3 rfl rfl (by omega) (by omega) (by first | ((repeat constructor); done) | exact .same _)) rfl ?_
    first | refine aqs rfl (q_ldpN ag3 rfl (by repeat (first | exact .here | assumption | (apply HAt.left; assumption) | apply HAt.there | apply HAt.right)) (by first | rfl | assumption | (simp [*]; done) | fail) (by first | rfl | assumption | (simp [*]; done) | fail) (by constructor)) rfl ?_ | refine aqs rfl (q_ld1N ag3 rfl (by constructor)) rfl ?_
    first | refine aqs rfl (q_iaA Try.underlying83 sz3 rfl rfl (by omega) (by omega) rfl) rfl ?_ | refine aqs rfl (q_iaI Try.underlying83 sz3 rfl rfl (by omega) (by omega) (by first | ((repeat constructor); done) | exact .same _)) rfl ?_
    first | refine aqs rfl (q_ldpN ag3 rfl (by repeat (first | exact .here | assumption | (apply HAt.left; assumption) | apply HAt.there | apply HAt.right)) (by first | rfl | assumption | (simp [*]; done) | fail) (by first | rfl | assumption | (simp [*]; done) | fail) (by constructor)) rfl ?_ | refine aqs rfl (q_ld1N ag3 rfl (by constructor)) rfl ?_
    first | refine aqs rfl (q_iaA Try.underlying83 sz3 rfl rfl (by omega) (by omega) rfl) rfl ?_ | refine aqs rfl (q_iaI Try.underlying83 sz3 rfl rfl (by omega) (by omega) (by first | ((repeat constructor); done) | exact .same _)) rfl ?_
    first | refine aqs rfl (q_ldpN ag3 rfl (by repeat (first | exact .here | assumption | (apply HAt.left; assumption) | apply HAt.there | apply HAt.right)) (by first | rfl | assumption | (simp [*]; done) | fail) (by first | rfl | assumption | (simp [*]; done) | fail) (by constructor)) rfl ?_ | refine aqs rfl (q_ld1N ag3 rfl (by constructor)) rfl ?_
    first | refine aqs rfl (e_callN cb108 (new108_p hnw) rfl rfl) rfl ?_ | refine aqs rfl (e_callN cb108 (ACall.arg (new108_p hnw) (by repeat (first | exact ArgL.nil | (apply ArgL.cons; (· first | exact .same | exact .cro | exact .nil))))) rfl rfl) rfl ?_
    refine aqs rfl (q_mv (by constructor)) rfl ?_
    refine aqs rfl (q_ex rfl rfl (by constructor)) rfl ?_
    refine aqs rfl (q_ex rfl rfl (by constructor)) rfl ?_
    (refine aes rfl (e_al (xs := [.lit (.int .i64 0), .lit (.int .i64 0), .lit (.slice none 0 0), .lit (.int .i64 0), .lit (.int .i64 0), .lit (.int .i64 0), .lit (.int .i64 0)]) (k := 7) zr136 (.same _) rfl) rfl ?_; rintro _ _ ⟨u28, rfl, rfl⟩)
    first | (refine aen rfl (e_stW sz136 rfl (by repeat (first | exact .here | assumption | (apply HAt.left; assumption) | apply HAt.there | apply HAt.right)) (by constructor) (by first | rfl | assumption | (simp [*]; done) | fail) rfl (by repeat (first | exact .here | apply HSet.there))) ?_; rintro _ _ ⟨rfl, rfl⟩) | (refine aen rfl (e_stP sz136 rfl (by repeat (first | exact .here | assumption | (apply HAt.left; assumption) | apply HAt.there | apply HAt.right)) (by first | rfl | assumption | (simp [*]; done) | fail) (by constructor) (by first | rfl | assumption | (simp [*]; done) | fail) rfl (by first | decide | omega) (by first | ((repeat constructor); done) | exact .same _) (by first | exact .one | exact .set) (by repeat (first | exact .here | apply HSet.there))) ?_; rintro _ _ ⟨rfl, rfl⟩)
    refine aqs rfl (q_as (by constructor)) rfl ?_
    refine alist_nil ?_
    show AWP _ _ _ _
    refine awp_seq ?_
    refine awp_region ?_
    refine aqs rfl (q_mv (by constructor)) rfl ?_
    refine aqs rfl (q_mv (by constructor)) rfl ?_
    refine aqs rfl (castF (q_neq rfl rfl) (by simp)) rfl ?_
    refine aqs rfl (q_mv (by constructor)) rfl ?_
    first | refine ans rfl rfl ?_ | refine aqs rfl (q_ldpW ag136 sz136 rfl (by repeat (first | exact .here | assumption | (apply HAt.left; assumption) | apply HAt.there | apply HAt.right)) (by first | rfl | assumption | (simp [*]; done) | fail) (by first | rfl | assumption | (simp [*]; done) | fail) (by decide)) rfl ?_ | refine aqs rfl (q_ldW ag136 sz136 rfl (by first | rfl | assumption | (simp [*]; done) | fail)) rfl ?_ | refine aqs rfl (q_ldpP ag136 sz136 rfl (by repeat (first | exact .here | assumption | (apply HAt.left; assumption) | apply HAt.there | apply HAt.right)) (by first | rfl | assumption | (simp [*]; done) | fail) (by first | decide | (simp; done) | omega | fail) (by decide) (by first | ((repeat constructor); done) | exact .same _)) rfl ?_ | refine aqs rfl (q_ldP ag136 sz136 rfl (by first | decide | (simp; done) | omega | fail) (by first | ((repeat constructor); done) | exact .same _)) rfl ?_
    first | refine ans rfl rfl ?_ | refine aqs rfl (q_ldpW ag136 sz136 rfl (by repeat (first | exact .here | assumption | (apply HAt.left; assumption) | apply HAt.there | apply HAt.right)) (by first | rfl | assumption | (simp [*]; done) | fail) (by first | rfl | assumption | (simp [*]; done) | fail) (by decide)) rfl ?_ | refine aqs rfl (q_ldW ag136 sz136 rfl (by first | rfl | assumption | (simp [*]; done) | fail)) rfl ?_ | refine aqs rfl (q_ldpP ag136 sz136 rfl (by repeat (first | exact .here | assumption | (apply HAt.left; assumption) | apply HAt.there | apply HAt.right)) (by first | rfl | assumption | (simp [*]; done) | fail) (by first | decide | (simp; done) | omega | fail) (by decide) (by first | ((repeat constructor); done) | exact .same _)) rfl ?_ | refine aqs rfl (q_ldP ag136 sz136 rfl (by first | decide | (simp; done) | omega | fail) (by first | ((repeat constructor); done) | exact .same _)) rfl ?_
    first | refine ans rfl rfl ?_ | refine aqs rfl (e_callN cb109 (same109_c c' c' hln hln _) rfl rfl) rfl ?_ | refine aqs rfl (e_callN cb109 (ACall.arg (same109_c c' c' hln hln _) (by repeat (first | exact ArgL.nil | (apply ArgL.cons; (· first | exact .same | exact .cro | exact .nil))))) rfl rfl) rfl ?_
    refine aqs rfl (castF (q_not rfl) (by simp)) rfl ?_
    first | refine aqs rfl (q_pickT rfl (by constructor)) rfl ?_ | refine aqs rfl (q_pickF rfl (by constructor)) rfl ?_
    refine alist_nil ?_
    show AWP _ _ _ _
    refine awp_cond rfl (fun hc1 => ?_) (fun hc1 => ?_)
    ·exfalso; first | (simp at hc1; done) | (simp at hc1; omega) | contradiction
    ·try simp only [decide_eq_true_eq, decide_eq_false_iff_not, Bool.not_eq_true', Bool.not_eq_false', Bool.not_eq_eq_eq_not, Bool.not_true, Bool.not_false, beq_iff_eq, beq_eq_false_iff_ne, Int.not_lt, Int.not_le] at hc1
     refine awp_skip ?_
     show AWP _ _ _ _
     refine awp_region ?_
     first | refine aqs rfl (q_add64 rfl rfl (by omega) (by omega)) rfl ?_ | refine aqs rfl (q_add rfl rfl) rfl ?_
     refine aqs rfl (q_mv (by constructor)) rfl ?_
     refine alist_nil ?_
     show ∃ y, _ ∧ _ ∧ _
     exact ⟨i + 1, by omega, by omega, .mk' ⟨by rfl, rfl, rfl, rfl, rfl, rfl, rfl, rfl, rfl, rfl, rfl, rfl, trivial⟩ (by repeat (first | exact List.Sublist.refl _ | exact List.nil_sublist _ | exact List.sublist_append_left _ _ | (apply List.Sublist.cons_cons) | (apply List.Sublist.cons)))⟩
   ·skip
    refine awp_exit ?_
    show AWP _ _ _ _
    refine awp_seq ?_
    refine awp_region ?_
    first | refine aqs rfl (q_ldpW ag83 sz83 rfl (by repeat (first | exact .here | assumption | (apply HAt.left; assumption) | apply HAt.there | apply HAt.right)) (by first | rfl | assumption | (simp [*]; done) | fail) (by first | rfl | assumption | (simp [*]; done) | fail) (by decide)) rfl ?_ | refine aqs rfl (q_ldW ag83 sz83 rfl (by first | rfl | assumption | (simp [*]; done) | fail)) rfl ?_ | refine aqs rfl (q_ldpP ag83 sz83 rfl (by repeat (first | exact .here | assumption | (apply HAt.left; assumption) | apply HAt.there | apply HAt.right)) (by first | rfl | assumption | (simp [*]; done) | fail) (by first | decide | (simp; done) | omega | fail) (by decide) (by first | ((repeat constructor); done) | exact .same _)) rfl ?_ | refine aqs rfl (q_ldP ag83 sz83 rfl (by first | decide | (simp; done) | omega | fail) (by first | ((repeat constructor); done) | exact .same _)) rfl ?_
    refine aqs rfl (q_mv (by constructor)) rfl ?_
    first | refine aqs rfl (e_callN cb110 (hown ▸ cache110_c n puts wn wp.1 _) rfl rfl) rfl ?_ | refine aqs rfl (e_callN cb110 (ACall.arg (hown ▸ cache110_c n puts wn wp.1 _) (by repeat (first | exact ArgL.nil | (apply ArgL.cons; (· first | exact .same | exact .cro | exact .nil))))) rfl rfl) rfl ?_
    (refine aes rfl (e_al (xs := [.lit (.int .i64 0), .lit (.int .i64 0), .lit (.slice none 0 0), .lit (.int .i64 0), .lit (.int .i64 0), .lit (.int .i64 0), .lit (.int .i64 0)]) (k := 7) zr136 (.same _) rfl) rfl ?_; rintro _ _ ⟨u30, rfl, rfl⟩)
    first | (refine aen rfl (e_stW sz136 rfl (by repeat (first | exact .here | assumption | (apply HAt.left; assumption) | apply HAt.there | apply HAt.right)) (by constructor) (by first | rfl | assumption | (simp [*]; done) | fail) rfl (by repeat (first | exact .here | apply HSet.there))) ?_; rintro _ _ ⟨rfl, rfl⟩) | (refine aen rfl (e_stP sz136 rfl (by repeat (first | exact .here | assumption | (apply HAt.left; assumption) | apply HAt.there | apply HAt.right)) (by first | rfl | assumption | (simp [*]; done) | fail) (by constructor) (by first | rfl | assumption | (simp [*]; done) | fail) rfl (by first | decide | omega) (by first | ((repeat constructor); done) | exact .same _) (by first | exact .one | exact .set) (by repeat (first | exact .here | apply HSet.there))) ?_; rintro _ _ ⟨rfl, rfl⟩)
    refine alist_nil ?_
    show AWP _ _ _ _
    refine awp_seq ?_
    refine awp_seq ?_
    refine awp_draw 8 [(0, false), (1, false), (2, false), (3, false), (4, false), (5, false), (6, false), (7, false)] _ ([]) mixed (by kernel_rfl) (perm0 _) ?_
    first | refine glq rfl (.inl ⟨rfl, q_ldpW ag136 sz136 rfl (by repeat (first | exact .here | assumption | (apply HAt.left; assumption) | apply HAt.there | apply HAt.right)) (by first | rfl | assumption | (simp [*]; done) | fail) (by first | rfl | assumption | (simp [*]; done) | fail) (by decide)⟩) rfl ?_ | refine glq rfl (.inl ⟨rfl, q_ldW ag136 sz136 rfl (by first | rfl | assumption | (simp [*]; done) | fail)⟩) rfl ?_ | refine glq rfl (.inl ⟨rfl, q_ldpP ag136 sz136 rfl (by repeat (first | exact .here | assumption | (apply HAt.left; assumption) | apply HAt.there | apply HAt.right)) (by first | rfl | assumption | (simp [*]; done) | fail) (by first | decide | (simp; done) | omega | fail) (by decide) (by first | ((repeat constructor); done) | exact .same _)⟩) rfl ?_ | refine glq rfl (.inl ⟨rfl, q_ldP ag136 sz136 rfl (by first | decide | (simp; done) | omega | fail) (by first | ((repeat constructor); done) | exact .same _)⟩) rfl ?_
    first | refine glq rfl (.inl ⟨rfl, q_ldpW ag136 sz136 rfl (by repeat (first | exact .here | assumption | (apply HAt.left; assumption) | apply HAt.there | apply HAt.right)) (by first | rfl | assumption | (simp [*]; done) | fail) (by first | rfl | assumption | (simp [*]; done) | fail) (by decide)⟩) rfl ?_ | refine glq rfl (.inl ⟨rfl, q_ldW ag136 sz136 rfl (by first | rfl | assumption | (simp [*]; done) | fail)⟩) rfl ?_ | refine glq rfl (.inl ⟨rfl, q_ldpP ag136 sz136 rfl (by repeat (first | exact .here | assumption | (apply HAt.left; assumption) | apply HAt.there | apply HAt.right)) (by first | rfl | assumption | (simp [*]; done) | fail) (by first | decide | (simp; done) | omega | fail) (by decide) (by first | ((repeat constructor); done) | exact .same _)⟩) rfl ?_ | refine glq rfl (.inl ⟨rfl, q_ldP ag136 sz136 rfl (by first | decide | (simp; done) | omega | fail) (by first | ((repeat constructor); done) | exact .same _)⟩) rfl ?_
    refine glq rfl (.inl ⟨rfl, q_mv (by constructor)⟩) rfl ?_
    refine glq rfl (.inl ⟨rfl, q_mv (by constructor)⟩) rfl ?_
    first | refine glq rfl (.inl ⟨rfl, e_callN cb111 (hodd ▸ turned111_c own h1 (by omega) wh by_ ww wy _) rfl rfl⟩) rfl ?_ | refine glq rfl (.inl ⟨rfl, e_callN cb111 (ACall.arg (hodd ▸ turned111_c own h1 (by omega) wh by_ ww wy _) (by repeat (first | exact ArgL.nil | (apply ArgL.cons; (· first | exact .same | exact .cro | exact .nil))))) rfl rfl⟩) rfl ?_
    refine glq rfl (.inl ⟨rfl, castQ (r2 := .cro (Cs.map Cach.cells)) (q_bs Try.underlying142 sz136 zr136 rfl (by first | ((repeat constructor); done) | exact .same _) rfl (by decide) (by repeat (first | exact BS.nil | (apply BS.cons; (· constructor); (· rfl); (· rfl); (· rfl); (· exact (by first | ((repeat constructor); done) | exact .same _)))))) (by exact congrArg AV.cro hC)⟩) rfl ?_
    first | refine glq rfl (.inl ⟨rfl, castQ (r2 := .lit (.int .i64 2)) (q_len Try.underlying142 .ro) (by rw [List.length_map, hCl]; rfl)⟩) rfl ?_ | refine glq rfl (.inl ⟨rfl, castQ (r2 := .lit (.int .i64 2)) (q_lenO Try.underlying142 rfl (by repeat (first | exact .here | assumption | (apply HAt.left; assumption) | apply HAt.there | apply HAt.right)) (by first | omega | (simp; done) | (simp; omega) | fail) (by first | exact Nat.sub_zero _ | rfl)) (by rw [List.length_map, hCl]; rfl)⟩) rfl ?_ | refine glq rfl (.inl ⟨rfl, castQ (r2 := .lit (.int .i64 2)) (q_len Try.underlying142 .nil) (by rw [List.length_map, hCl]; rfl)⟩) rfl ?_ | refine glq rfl (.inl ⟨rfl, castQ (r2 := .lit (.int .i64 2)) (q_len Try.underlying142 .cro) (by rw [List.length_map, hCl]; rfl)⟩) rfl ?_
    refine glq rfl (.inl ⟨rfl, q_mv (by constructor)⟩) rfl ?_
    (first | refine gld0 ?_ | refine gldA ?_)
    refine alist_nil ?_
    show AWP _ _ _ _
    refine awp_block ?_
    refine awp_loop_inv (fun i : Nat => ⟨[(103, .lit (.int .i64 i)), (102, .lit (.int .i64 2)), (101, .cro (Cs.map Cach.cells)), (7, .lit (.string left)), (8, .lit (.string right)), (9, .lit (.string val)), (21, .ptr u21 0 0), (23, .lit (.bool true))], 221, [(u21, .arr 83 3 [k.cells])]⟩) (fun i => i ≤ 2) (fun i => 2 - i) 0 ?_ ?_ ?_
    ·exact Nat.zero_le _
    ·exact .mk' (by repeat (first | exact trivial | refine ⟨rfl, ?_⟩)) (by repeat (first | exact .refl _ | apply List.Sublist.cons_cons | apply List.Sublist.cons))
    ·intro i hi
     refine awp_seq ?_
     refine awp_region ?_
     refine aqs rfl (q_lss rfl rfl) rfl ?_
     refine alist_nil ?_
     show AWP _ _ _ _
     refine awp_seq ?_
     refine awp_cond rfl (fun hc2 => ?_) (fun hc2 => ?_)
     ·simp only [decide_eq_true_eq] at hc2
      obtain ⟨x, hx, hxm⟩ := get_lt (l := Cs) (i := i) (by omega)
      have hx2 := get_map (f := Cach.cells) hx
      have hxs := hCb x hxm
      have hxl := hxs.clen
      refine awp_skip ?_
      show AWP _ _ _ _
      refine awp_seq ?_
      refine awp_block ?_
      refine awp_seq ?_
      refine awp_region ?_
      first | refine aqs rfl (q_iaN Try.underlying142 sz136 (.inl rfl) rfl (by omega) (by first | rfl | assumption | (simp [*]; done) | fail) (by first | rfl | assumption | (simp [*]; done) | fail) (by decide) (by first | ((repeat constructor); done) | exact .same _)) rfl ?_ | refine aqs rfl (q_iaS Try.underlying142 sz136 rfl (by repeat (first | exact .here | assumption | (apply HAt.left; assumption) | apply HAt.there | apply HAt.right)) rfl (by omega) (by omega) (by first | exact Nat.zero_add _ | rfl)) rfl ?_ | refine aqs rfl (q_iaN Try.underlying142 sz136 (.inr rfl) rfl (by omega) (by first | rfl | assumption | (simp [*]; done) | fail) (by first | rfl | assumption | (simp [*]; done) | fail) (by decide) (by first | ((repeat constructor); done) | exact .same _)) rfl ?_
      first | refine aqs rfl (q_ldpW ag136 sz136 rfl (by repeat (first | exact .here | assumption | (apply HAt.left; assumption) | apply HAt.there | apply HAt.right)) (by first | rfl | assumption | (simp [*]; done) | fail) (by first | rfl | assumption | (simp [*]; done) | fail) (by decide)) rfl ?_ | refine aqs rfl (q_ldW ag136 sz136 rfl (by first | rfl | assumption | (simp [*]; done) | fail)) rfl ?_ | refine aqs rfl (q_ldpP ag136 sz136 rfl (by repeat (first | exact .here | assumption | (apply HAt.left; assumption) | apply HAt.there | apply HAt.right)) (by first | rfl | assumption | (simp [*]; done) | fail) (by first | decide | (simp; done) | omega | fail) (by decide) (by first | ((repeat constructor); done) | exact .same _)) rfl ?_ | refine aqs rfl (q_ldP ag136 sz136 rfl (by first | decide | (simp; done) | omega | fail) (by first | ((repeat constructor); done) | exact .same _)) rfl ?_
      (refine aes rfl (e_al (xs := [.lit (.int .i64 0), .lit (.int .i64 0), .lit (.slice none 0 0), .lit (.int .i64 0), .lit (.int .i64 0), .lit (.int .i64 0), .lit (.int .i64 0)]) (k := 7) zr136 (.same _) rfl) rfl ?_; rintro _ _ ⟨u32, rfl, rfl⟩)
      first | (refine aen rfl (e_stW sz136 rfl (by repeat (first | exact .here | assumption | (apply HAt.left; assumption) | apply HAt.there | apply HAt.right)) (by constructor) (by first | rfl | assumption | (simp [*]; done) | fail) rfl (by repeat (first | exact .here | apply HSet.there))) ?_; rintro _ _ ⟨rfl, rfl⟩) | (refine aen rfl (e_stP sz136 rfl (by repeat (first | exact .here | assumption | (apply HAt.left; assumption) | apply HAt.there | apply HAt.right)) (by first | rfl | assumption | (simp [*]; done) | fail) (by constructor) (by first | rfl | assumption | (simp [*]; done) | fail) rfl (by first | decide | omega) (by first | ((repeat constructor); done) | exact .same _) (by first | exact .one | exact .set) (by repeat (first | exact .here | apply HSet.there))) ?_; rintro _ _ ⟨rfl, rfl⟩)
      refine alist_nil ?_
      show AWP _ _ _ _
      refine awp_seq ?_
      refine awp_seq ?_
      refine awp_draw 12 [(0, false), (1, false), (2, false), (3, false), (4, false), (5, false), (6, false), (7, false), (8, false), (9, false), (10, false), (11, false)] _ ([]) mixed (by kernel_rfl) (perm0 _) ?_
      first | refine glq rfl (.inl ⟨rfl, q_ldpW ag136 sz136 rfl (by repeat (first | exact .here | assumption | (apply HAt.left; assumption) | apply HAt.there | apply HAt.right)) (by first | rfl | assumption | (simp [*]; done) | fail) (by first | rfl | assumption | (simp [*]; done) | fail) (by decide)⟩) rfl ?_ | refine glq rfl (.inl ⟨rfl, q_ldW ag136 sz136 rfl (by first | rfl | assumption | (simp [*]; done) | fail)⟩) rfl ?_ | refine glq rfl (.inl ⟨rfl, q_ldpP ag136 sz136 rfl (by repeat (first | exact .here | assumption | (apply HAt.left; assumption) | apply HAt.there | apply HAt.right)) (by first | rfl | assumption | (simp [*]; done) | fail) (by first | decide | (simp; done) | omega | fail) (by decide) (by first | ((repeat constructor); done) | exact .same _)⟩) rfl ?_ | refine glq rfl (.inl ⟨rfl, q_ldP ag136 sz136 rfl (by first | decide | (simp; done) | omega | fail) (by first | ((repeat constructor); done) | exact .same _)⟩) rfl ?_
      first | refine glq rfl (.inl ⟨rfl, e_callN cb112 (right112_c x hxl _) rfl rfl⟩) rfl ?_ | refine glq rfl (.inl ⟨rfl, e_callN cb112 (ACall.arg (right112_c x hxl _) (by repeat (first | exact ArgL.nil | (apply ArgL.cons; (· first | exact .same | exact .cro | exact .nil))))) rfl rfl⟩) rfl ?_
      first | refine glq rfl (.inl ⟨rfl, q_ldpW ag136 sz136 rfl (by repeat (first | exact .here | assumption | (apply HAt.left; assumption) | apply HAt.there | apply HAt.right)) (by first | rfl | assumption | (simp [*]; done) | fail) (by first | rfl | assumption | (simp [*]; done) | fail) (by decide)⟩) rfl ?_ | refine glq rfl (.inl ⟨rfl, q_ldW ag136 sz136 rfl (by first | rfl | assumption | (simp [*]; done) | fail)⟩) rfl ?_ | refine glq rfl (.inl ⟨rfl, q_ldpP ag136 sz136 rfl (by repeat (first | exact .here | assumption | (apply HAt.left; assumption) | apply HAt.there | apply HAt.right)) (by first | rfl | assumption | (simp [*]; done) | fail) (by first | decide | (simp; done) | omega | fail) (by decide) (by first | ((repeat constructor); done) | exact .same _)⟩) rfl ?_ | refine glq rfl (.inl ⟨rfl, q_ldP ag136 sz136 rfl (by first | decide | (simp; done) | omega | fail) (by first | ((repeat constructor); done) | exact .same _)⟩) rfl ?_
      first | refine glq rfl (.inl ⟨rfl, e_callN cb113 (right113_c x hxl _) rfl rfl⟩) rfl ?_ | refine glq rfl (.inl ⟨rfl, e_callN cb113 (ACall.arg (right113_c x hxl _) (by repeat (first | exact ArgL.nil | (apply ArgL.cons; (· first | exact .same | exact .cro | exact .nil))))) rfl rfl⟩) rfl ?_
      refine glq rfl (.inl ⟨rfl, castF (q_bneq rfl rfl Try.underlying4) (by simp)⟩) rfl ?_
      refine glq rfl (.inl ⟨rfl, q_mv (by constructor)⟩) rfl ?_
      first | refine glq rfl (.inl ⟨rfl, q_ldpW ag136 sz136 rfl (by repeat (first | exact .here | assumption | (apply HAt.left; assumption) | apply HAt.there | apply HAt.right)) (by first | rfl | assumption | (simp [*]; done) | fail) (by first | rfl | assumption | (simp [*]; done) | fail) (by decide)⟩) rfl ?_ | refine glq rfl (.inl ⟨rfl, q_ldW ag136 sz136 rfl (by first | rfl | assumption | (simp [*]; done) | fail)⟩) rfl ?_ | refine glq rfl (.inl ⟨rfl, q_ldpP ag136 sz136 rfl (by repeat (first | exact .here | assumption | (apply HAt.left; assumption) | apply HAt.there | apply HAt.right)) (by first | rfl | assumption | (simp [*]; done) | fail) (by first | decide | (simp; done) | omega | fail) (by decide) (by first | ((repeat constructor); done) | exact .same _)⟩) rfl ?_ | refine glq rfl (.inl ⟨rfl, q_ldP ag136 sz136 rfl (by first | decide | (simp; done) | omega | fail) (by first | ((repeat constructor); done) | exact .same _)⟩) rfl ?_ | refine glq rfl (.inr ⟨rfl, rfl⟩) rfl ?_
      first | refine glq rfl (.inl ⟨rfl, e_callN cb114 (size114_c x hxl _) rfl rfl⟩) rfl ?_ | refine glq rfl (.inl ⟨rfl, e_callN cb114 (ACall.arg (size114_c x hxl _) (by repeat (first | exact ArgL.nil | (apply ArgL.cons; (· first | exact .same | exact .cro | exact .nil))))) rfl rfl⟩) rfl ?_ | refine glq rfl (.inr ⟨rfl, rfl⟩) rfl ?_
      first | refine glq rfl (.inl ⟨rfl, q_ldpW ag136 sz136 rfl (by repeat (first | exact .here | assumption | (apply HAt.left; assumption) | apply HAt.there | apply HAt.right)) (by first | rfl | assumption | (simp [*]; done) | fail) (by first | rfl | assumption | (simp [*]; done) | fail) (by decide)⟩) rfl ?_ | refine glq rfl (.inl ⟨rfl, q_ldW ag136 sz136 rfl (by first | rfl | assumption | (simp [*]; done) | fail)⟩) rfl ?_ | refine glq rfl (.inl ⟨rfl, q_ldpP ag136 sz136 rfl (by repeat (first | exact .here | assumption | (apply HAt.left; assumption) | apply HAt.there | apply HAt.right)) (by first | rfl | assumption | (simp [*]; done) | fail) (by first | decide | (simp; done) | omega | fail) (by decide) (by first | ((repeat constructor); done) | exact .same _)⟩) rfl ?_ | refine glq rfl (.inl ⟨rfl, q_ldP ag136 sz136 rfl (by first | decide | (simp; done) | omega | fail) (by first | ((repeat constructor); done) | exact .same _)⟩) rfl ?_ | refine glq rfl (.inr ⟨rfl, rfl⟩) rfl ?_
      first | refine glq rfl (.inl ⟨rfl, e_callN cb115 (size115_c x hxl _) rfl rfl⟩) rfl ?_ | refine glq rfl (.inl ⟨rfl, e_callN cb115 (ACall.arg (size115_c x hxl _) (by repeat (first | exact ArgL.nil | (apply ArgL.cons; (· first | exact .same | exact .cro | exact .nil))))) rfl rfl⟩) rfl ?_ | refine glq rfl (.inr ⟨rfl, rfl⟩) rfl ?_
      refine glq rfl (.inl ⟨rfl, castF (q_neq rfl rfl) (by simp)⟩) rfl ?_
      first | refine glq rfl (.inl ⟨rfl, q_pickT rfl (by constructor)⟩) rfl ?_ | refine glq rfl (.inl ⟨rfl, q_pickF rfl (by constructor)⟩) rfl ?_
      (first | refine gld0 ?_ | refine gldA ?_)
      refine alist_nil ?_
      show AWP _ _ _ _
      refine awp_cond rfl (fun hc3 => ?_) (fun hc3 => ?_)
      ·exfalso; first | (simp at hc3; done) | (simp at hc3; omega) | contradiction
      ·try simp only [decide_eq_true_eq, decide_eq_false_iff_not, Bool.not_eq_true', Bool.not_eq_false', Bool.not_eq_eq_eq_not, Bool.not_true, Bool.not_false, beq_iff_eq, beq_eq_false_iff_ne, Int.not_lt, Int.not_le] at hc3
       refine awp_skip ?_
       show AWP _ _ _ _
       refine awp_seq ?_
       refine awp_draw 29 [(0, false), (1, false), (2, false), (3, false), (4, false), (5, false), (6, false), (7, false), (8, false), (9, false), (10, false), (11, false), (12, false), (13, false), (14, false), (15, false), (16, false), (17, false), (18, false), (19, false), (20, false), (21, false), (22, false), (23, false), (24, false), (25, false), (26, false), (27, false), (28, false)] _ ([]) mixed (by kernel_rfl) (perm0 _) ?_
       refine glq rfl (.inl ⟨rfl, q_mv (by constructor)⟩) rfl ?_
       refine glq rfl (.inl ⟨rfl, q_mv (by constructor)⟩) rfl ?_
       refine glq rfl (.inl ⟨rfl, q_lenS Try.underlying9 rfl⟩) rfl ?_
       refine glq rfl (.inl ⟨rfl, q_min rfl rfl⟩) rfl ?_
       refine glq rfl (.inl ⟨rfl, castQ (r2 := .lit (.string (cut40 left))) (q_slS Try.underlying9 rfl rfl (by first | (refine ⟨_, _, rfl, ?_⟩; with_reducible rfl) | exact bnd_int rfl (by omega)) (by omega) (by omega)) (by rfl)⟩) rfl ?_
       refine glq rfl (.inl ⟨rfl, q_mv (by constructor)⟩) rfl ?_
       refine glq rfl (.inl ⟨rfl, q_mv (by constructor)⟩) rfl ?_
       refine glq rfl (.inl ⟨rfl, q_lenS Try.underlying9 rfl⟩) rfl ?_
       refine glq rfl (.inl ⟨rfl, q_min rfl rfl⟩) rfl ?_
       refine glq rfl (.inl ⟨rfl, castQ (r2 := .lit (.string (cut40 right))) (q_slS Try.underlying9 rfl rfl (by first | (refine ⟨_, _, rfl, ?_⟩; with_reducible rfl) | exact bnd_int rfl (by omega)) (by omega) (by omega)) (by rfl)⟩) rfl ?_
       refine glq rfl (.inl ⟨rfl, q_mv (by constructor)⟩) rfl ?_
       refine glq rfl (.inl ⟨rfl, q_mv (by constructor)⟩) rfl ?_
       refine glq rfl (.inl ⟨rfl, q_lenS Try.underlying9 rfl⟩) rfl ?_
       refine glq rfl (.inl ⟨rfl, q_min rfl rfl⟩) rfl ?_
       refine glq rfl (.inl ⟨rfl, castQ (r2 := .lit (.string (cut40 val))) (q_slS Try.underlying9 rfl rfl (by first | (refine ⟨_, _, rfl, ?_⟩; with_reducible rfl) | exact bnd_int rfl (by omega)) (by omega) (by omega)) (by rfl)⟩) rfl ?_
       refine glq rfl (.inl ⟨rfl, q_bd st145 zr145 (by first | ((repeat constructor); done) | exact .same _) (by repeat (first | exact BD.nil | (apply BD.cons; (· rfl); (· constructor); (· rfl); (· rfl); (· exact Nat.le_of_ble_eq_true (by rfl)); (· exact (by first | ((repeat constructor); done) | exact .same _)))))⟩) rfl ?_
       first | refine glq rfl (.inl ⟨rfl, q_iaA Try.underlying83 sz3 rfl rfl (by omega) (by omega) rfl⟩) rfl ?_ | refine glq rfl (.inl ⟨rfl, q_iaI Try.underlying83 sz3 rfl rfl (by omega) (by omega) (by first | ((repeat constructor); done) | exact .same _)⟩) rfl ?_
       first | refine glq rfl (.inl ⟨rfl, q_ldpN ag3 rfl (by repeat (first | exact .here | assumption | (apply HAt.left; assumption) | apply HAt.there | apply HAt.right)) (by first | rfl | assumption | (simp [*]; done) | fail) (by first | rfl | assumption | (simp [*]; done) | fail) (by constructor)⟩) rfl ?_ | refine glq rfl (.inl ⟨rfl, q_ld1N ag3 rfl (by constructor)⟩) rfl ?_
       first | refine glq rfl (.inl ⟨rfl, e_callN cb96 (text96_c k.a wk.1 _) rfl rfl⟩) rfl ?_ | refine glq rfl (.inl ⟨rfl, e_callN cb96 (ACall.arg (text96_c k.a wk.1 _) (by repeat (first | exact ArgL.nil | (apply ArgL.cons; (· first | exact .same | exact .cro | exact .nil))))) rfl rfl⟩) rfl ?_
       first | refine glq rfl (.inl ⟨rfl, q_iaA Try.underlying83 sz3 rfl rfl (by omega) (by omega) rfl⟩) rfl ?_ | refine glq rfl (.inl ⟨rfl, q_iaI Try.underlying83 sz3 rfl rfl (by omega) (by omega) (by first | ((repeat constructor); done) | exact .same _)⟩) rfl ?_
       first | refine glq rfl (.inl ⟨rfl, q_ldpN ag3 rfl (by repeat (first | exact .here | assumption | (apply HAt.left; assumption) | apply HAt.there | apply HAt.right)) (by first | rfl | assumption | (simp [*]; done) | fail) (by first | rfl | assumption | (simp [*]; done) | fail) (by constructor)⟩) rfl ?_ | refine glq rfl (.inl ⟨rfl, q_ld1N ag3 rfl (by constructor)⟩) rfl ?_
       first | refine glq rfl (.inl ⟨rfl, e_callN cb96 (text96_c k.b wk.2.1 _) rfl rfl⟩) rfl ?_ | refine glq rfl (.inl ⟨rfl, e_callN cb96 (ACall.arg (text96_c k.b wk.2.1 _) (by repeat (first | exact ArgL.nil | (apply ArgL.cons; (· first | exact .same | exact .cro | exact .nil))))) rfl rfl⟩) rfl ?_
       first | refine glq rfl (.inl ⟨rfl, q_iaA Try.underlying83 sz3 rfl rfl (by omega) (by omega) rfl⟩) rfl ?_ | refine glq rfl (.inl ⟨rfl, q_iaI Try.underlying83 sz3 rfl rfl (by omega) (by omega) (by first | ((repeat constructor); done) | exact .same _)⟩) rfl ?_
       first | refine glq rfl (.inl ⟨rfl, q_ldpN ag3 rfl (by repeat (first | exact .here | assumption | (apply HAt.left; assumption) | apply HAt.there | apply HAt.right)) (by first | rfl | assumption | (simp [*]; done) | fail) (by first | rfl | assumption | (simp [*]; done) | fail) (by constructor)⟩) rfl ?_ | refine glq rfl (.inl ⟨rfl, q_ld1N ag3 rfl (by constructor)⟩) rfl ?_
       first | refine glq rfl (.inl ⟨rfl, e_callN cb96 (text96_c k.c wk.2.2 _) rfl rfl⟩) rfl ?_ | refine glq rfl (.inl ⟨rfl, e_callN cb96 (ACall.arg (text96_c k.c wk.2.2 _) (by repeat (first | exact ArgL.nil | (apply ArgL.cons; (· first | exact .same | exact .cro | exact .nil))))) rfl rfl⟩) rfl ?_
       refine glq rfl (.inl ⟨rfl, q_bd st145 zr145 (by first | ((repeat constructor); done) | exact .same _) (by repeat (first | exact BD.nil | (apply BD.cons; (· rfl); (· constructor); (· rfl); (· rfl); (· exact Nat.le_of_ble_eq_true (by rfl)); (· exact (by first | ((repeat constructor); done) | exact .same _)))))⟩) rfl ?_
       refine glq rfl (.inl ⟨rfl, castQ (r2 := .cro (Ts.map sRow3)) (q_bs Try.underlying146 sz145 zr145 rfl (by first | ((repeat constructor); done) | exact .same _) rfl (by decide) (by repeat (first | exact BS.nil | (apply BS.cons; (· constructor); (· rfl); (· rfl); (· rfl); (· exact (by first | ((repeat constructor); done) | exact .same _)))))) (by exact congrArg AV.cro hT)⟩) rfl ?_
       first | refine glq rfl (.inl ⟨rfl, castQ (r2 := .lit (.int .i64 2)) (q_len Try.underlying146 .ro) (by rw [List.length_map, hTl]; rfl)⟩) rfl ?_ | refine glq rfl (.inl ⟨rfl, castQ (r2 := .lit (.int .i64 2)) (q_lenO Try.underlying146 rfl (by repeat (first | exact .here | assumption | (apply HAt.left; assumption) | apply HAt.there | apply HAt.right)) (by first | omega | (simp; done) | (simp; omega) | fail) (by first | exact Nat.sub_zero _ | rfl)) (by rw [List.length_map, hTl]; rfl)⟩) rfl ?_ | refine glq rfl (.inl ⟨rfl, castQ (r2 := .lit (.int .i64 2)) (q_len Try.underlying146 .nil) (by rw [List.length_map, hTl]; rfl)⟩) rfl ?_ | refine glq rfl (.inl ⟨rfl, castQ (r2 := .lit (.int .i64 2)) (q_len Try.underlying146 .cro) (by rw [List.length_map, hTl]; rfl)⟩) rfl ?_
       refine glq rfl (.inl ⟨rfl, q_mv (by constructor)⟩) rfl ?_
       (first | refine gld0 ?_ | refine gldA ?_)
       refine alist_nil ?_
       show AWP _ _ _ _
       refine awp_block ?_
       refine awp_loop_inv (fun j : Nat => ⟨[(147, .lit (.int .i64 j)), (146, .lit (.int .i64 2)), (145, .cro (Ts.map sRow3)), (32, .ptr u32 0 0), (103, .lit (.int .i64 i)), (102, .lit (.int .i64 2)), (101, .cro (Cs.map Cach.cells)), (7, .lit (.string left)), (8, .lit (.string right)), (9, .lit (.string val)), (21, .ptr u21 0 0), (23, .lit (.bool true))], 221, [(u32, .arr 136 7 [x.cells]), (u21, .arr 83 3 [k.cells])]⟩) (fun j => j ≤ 2) (fun j => 2 - j) 0 ?_ ?_ ?_
       ·exact Nat.zero_le _
       ·exact .mk' (by repeat (first | exact trivial | refine ⟨rfl, ?_⟩)) (by repeat (first | exact .refl _ | apply List.Sublist.cons_cons | apply List.Sublist.cons))
       ·intro j hj
        refine awp_seq ?_
        refine awp_region ?_
        refine aqs rfl (q_lss rfl rfl) rfl ?_
        refine alist_nil ?_
        show AWP _ _ _ _
        refine awp_seq ?_
        refine awp_cond rfl (fun hc4 => ?_) (fun hc4 => ?_)
        ·simp only [decide_eq_true_eq] at hc4
         obtain ⟨⟨l, r, v⟩, ht, htm⟩ := get_lt (l := Ts) (i := j) (by omega)
         have ht2 : (Ts.map sRow3)[j]? = some [.lit (.string l), .lit (.string r), .lit (.string v)] := get_map (f := sRow3) ht
         have hsz : l.size + r.size ≤ 1000 := hTb _ htm
         have hgl := csm_get hxs l r
         have hpl := csm_put hxs hsz v
         obtain ⟨g1, g2, g3, hge⟩ : ∃ g c' e, getC x l r = (g, c', e) := ⟨_, _, _, rfl⟩
         obtain ⟨p1, p2, hpe⟩ : ∃ c' e, putC x l r v = (c', e) := ⟨_, _, rfl⟩
         rw [hge] at hgl
         rw [hpe] at hpl
         simp only at hgl hpl
         refine awp_skip ?_
         show AWP _ _ _ _
         refine awp_seq ?_
         refine awp_block ?_
         refine awp_seq ?_
         refine awp_region ?_
         first | refine aqs rfl (q_iaN Try.underlying146 sz145 (.inl rfl) rfl (by omega) (by first | rfl | assumption | (simp [*]; done) | fail) (by first | rfl | assumption | (simp [*]; done) | fail) (by decide) (by first | ((repeat constructor); done) | exact .same _)) rfl ?_ | refine aqs rfl (q_iaS Try.underlying146 sz145 rfl (by repeat (first | exact .here | assumption | (apply HAt.left; assumption) | apply HAt.there | apply HAt.right)) rfl (by omega) (by omega) (by first | exact Nat.zero_add _ | rfl)) rfl ?_ | refine aqs rfl (q_iaN Try.underlying146 sz145 (.inr rfl) rfl (by omega) (by first | rfl | assumption | (simp [*]; done) | fail) (by first | rfl | assumption | (simp [*]; done) | fail) (by decide) (by first | ((repeat constructor); done) | exact .same _)) rfl ?_
         first | refine aqs rfl (q_ldpW ag145 sz145 rfl (by repeat (first | exact .here | assumption | (apply HAt.left; assumption) | apply HAt.there | apply HAt.right)) (by first | rfl | assumption | (simp [*]; done) | fail) (by first | rfl | assumption | (simp [*]; done) | fail) (by decide)) rfl ?_ | refine aqs rfl (q_ldW ag145 sz145 rfl (by first | rfl | assumption | (simp [*]; done) | fail)) rfl ?_ | refine aqs rfl (q_ldpP ag145 sz145 rfl (by repeat (first | exact .here | assumption | (apply HAt.left; assumption) | apply HAt.there | apply HAt.right)) (by first | rfl | assumption | (simp [*]; done) | fail) (by first | decide | (simp; done) | omega | fail) (by decide) (by first | ((repeat constructor); done) | exact .same _)) rfl ?_ | refine aqs rfl (q_ldP ag145 sz145 rfl (by first | decide | (simp; done) | omega | fail) (by first | ((repeat constructor); done) | exact .same _)) rfl ?_
         (refine aes rfl (e_al (xs := [.lit (.string ⟨#[]⟩), .lit (.string ⟨#[]⟩), .lit (.string ⟨#[]⟩)]) (k := 3) zr145 (.same _) rfl) rfl ?_; rintro _ _ ⟨u34, rfl, rfl⟩)
         first | (refine aen rfl (e_stW sz145 rfl (by repeat (first | exact .here | assumption | (apply HAt.left; assumption) | apply HAt.there | apply HAt.right)) (by constructor) (by first | rfl | assumption | (simp [*]; done) | fail) rfl (by repeat (first | exact .here | apply HSet.there))) ?_; rintro _ _ ⟨rfl, rfl⟩) | (refine aen rfl (e_stP sz145 rfl (by repeat (first | exact .here | assumption | (apply HAt.left; assumption) | apply HAt.there | apply HAt.right)) (by first | rfl | assumption | (simp [*]; done) | fail) (by constructor) (by first | rfl | assumption | (simp [*]; done) | fail) rfl (by first | decide | omega) (by first | ((repeat constructor); done) | exact .same _) (by first | exact .one | exact .set) (by repeat (first | exact .here | apply HSet.there))) ?_; rintro _ _ ⟨rfl, rfl⟩)
         refine alist_nil ?_
         show AWP _ _ _ _
         refine awp_seq ?_
         refine awp_region ?_
         first | refine aqs rfl (q_ldpW ag136 sz136 rfl (by repeat (first | exact .here | assumption | (apply HAt.left; assumption) | apply HAt.there | apply HAt.right)) (by first | rfl | assumption | (simp [*]; done) | fail) (by first | rfl | assumption | (simp [*]; done) | fail) (by decide)) rfl ?_ | refine aqs rfl (q_ldW ag136 sz136 rfl (by first | rfl | assumption | (simp [*]; done) | fail)) rfl ?_ | refine aqs rfl (q_ldpP ag136 sz136 rfl (by repeat (first | exact .here | assumption | (apply HAt.left; assumption) | apply HAt.there | apply HAt.right)) (by first | rfl | assumption | (simp [*]; done) | fail) (by first | decide | (simp; done) | omega | fail) (by decide) (by first | ((repeat constructor); done) | exact .same _)) rfl ?_ | refine aqs rfl (q_ldP ag136 sz136 rfl (by first | decide | (simp; done) | omega | fail) (by first | ((repeat constructor); done) | exact .same _)) rfl ?_
         first | refine aqs rfl (q_iaA Try.underlying145 sz9 rfl rfl (by omega) (by omega) rfl) rfl ?_ | refine aqs rfl (q_iaI Try.underlying145 sz9 rfl rfl (by omega) (by omega) (by first | ((repeat constructor); done) | exact .same _)) rfl ?_
         first | refine aqs rfl (q_ldpN ag9 rfl (by repeat (first | exact .here | assumption | (apply HAt.left; assumption) | apply HAt.there | apply HAt.right)) (by first | rfl | assumption | (simp [*]; done) | fail) (by first | rfl | assumption | (simp [*]; done) | fail) (by constructor)) rfl ?_ | refine aqs rfl (q_ld1N ag9 rfl (by constructor)) rfl ?_
         first | refine aqs rfl (q_iaA Try.underlying145 sz9 rfl rfl (by omega) (by omega) rfl) rfl ?_ | refine aqs rfl (q_iaI Try.underlying145 sz9 rfl rfl (by omega) (by omega) (by first | ((repeat constructor); done) | exact .same _)) rfl ?_
         first | refine aqs rfl (q_ldpN ag9 rfl (by repeat (first | exact .here | assumption | (apply HAt.left; assumption) | apply HAt.there | apply HAt.right)) (by first | rfl | assumption | (simp [*]; done) | fail) (by first | rfl | assumption | (simp [*]; done) | fail) (by constructor)) rfl ?_ | refine aqs rfl (q_ld1N ag9 rfl (by constructor)) rfl ?_
         first | refine aqs rfl (e_callN cb116 (get116_p hxl (by omega) hge) rfl rfl) rfl ?_ | refine aqs rfl (e_callN cb116 (ACall.arg (get116_p hxl (by omega) hge) (by repeat (first | exact ArgL.nil | (apply ArgL.cons; (· first | exact .same | exact .cro | exact .nil))))) rfl rfl) rfl ?_
         refine aqs rfl (q_mv (by constructor)) rfl ?_
         refine aqs rfl (q_ex rfl rfl (by constructor)) rfl ?_
         refine aqs rfl (q_ex rfl rfl (by constructor)) rfl ?_
         refine aqs rfl (q_ex rfl rfl (by constructor)) rfl ?_
         (refine aes rfl (e_al (xs := [.lit (.int .i64 0), .lit (.int .i64 0), .lit (.slice none 0 0), .lit (.int .i64 0), .lit (.int .i64 0), .lit (.int .i64 0), .lit (.int .i64 0)]) (k := 7) zr136 (.same _) rfl) rfl ?_; rintro _ _ ⟨u36, rfl, rfl⟩)
         refine aqs rfl (q_as (by constructor)) rfl ?_
         first | (refine aen rfl (e_stW sz136 rfl (by repeat (first | exact .here | assumption | (apply HAt.left; assumption) | apply HAt.there | apply HAt.right)) (by constructor) (by first | rfl | assumption | (simp [*]; done) | fail) rfl (by repeat (first | exact .here | apply HSet.there))) ?_; rintro _ _ ⟨rfl, rfl⟩) | (refine aen rfl (e_stP sz136 rfl (by repeat (first | exact .here | assumption | (apply HAt.left; assumption) | apply HAt.there | apply HAt.right)) (by first | rfl | assumption | (simp [*]; done) | fail) (by constructor) (by first | rfl | assumption | (simp [*]; done) | fail) rfl (by first | decide | omega) (by first | ((repeat constructor); done) | exact .same _) (by first | exact .one | exact .set) (by repeat (first | exact .here | apply HSet.there))) ?_; rintro _ _ ⟨rfl, rfl⟩)
         refine aqs rfl (q_as (by constructor)) rfl ?_
         refine alist_nil ?_
         show AWP _ _ _ _
         refine awp_seq ?_
         refine awp_region ?_
         first | refine aqs rfl (q_ldpW ag136 sz136 rfl (by repeat (first | exact .here | assumption | (apply HAt.left; assumption) | apply HAt.there | apply HAt.right)) (by first | rfl | assumption | (simp [*]; done) | fail) (by first | rfl | assumption | (simp [*]; done) | fail) (by decide)) rfl ?_ | refine aqs rfl (q_ldW ag136 sz136 rfl (by first | rfl | assumption | (simp [*]; done) | fail)) rfl ?_ | refine aqs rfl (q_ldpP ag136 sz136 rfl (by repeat (first | exact .here | assumption | (apply HAt.left; assumption) | apply HAt.there | apply HAt.right)) (by first | rfl | assumption | (simp [*]; done) | fail) (by first | decide | (simp; done) | omega | fail) (by decide) (by first | ((repeat constructor); done) | exact .same _)) rfl ?_ | refine aqs rfl (q_ldP ag136 sz136 rfl (by first | decide | (simp; done) | omega | fail) (by first | ((repeat constructor); done) | exact .same _)) rfl ?_
         first | refine aqs rfl (q_iaA Try.underlying145 sz9 rfl rfl (by omega) (by omega) rfl) rfl ?_ | refine aqs rfl (q_iaI Try.underlying145 sz9 rfl rfl (by omega) (by omega) (by first | ((repeat constructor); done) | exact .same _)) rfl ?_
         first | refine aqs rfl (q_ldpN ag9 rfl (by repeat (first | exact .here | assumption | (apply HAt.left; assumption) | apply HAt.there | apply HAt.right)) (by first | rfl | assumption | (simp [*]; done) | fail) (by first | rfl | assumption | (simp [*]; done) | fail) (by constructor)) rfl ?_ | refine aqs rfl (q_ld1N ag9 rfl (by constructor)) rfl ?_
         first | refine aqs rfl (q_iaA Try.underlying145 sz9 rfl rfl (by omega) (by omega) rfl) rfl ?_ | refine aqs rfl (q_iaI Try.underlying145 sz9 rfl rfl (by omega) (by omega) (by first | ((repeat constructor); done) | exact .same _)) rfl ?_
         first | refine aqs rfl (q_ldpN ag9 rfl (by repeat (first | exact .here | assumption | (apply HAt.left; assumption) | apply HAt.there | apply HAt.right)) (by first | rfl | assumption | (simp [*]; done) | fail) (by first | rfl | assumption | (simp [*]; done) | fail) (by constructor)) rfl ?_ | refine aqs rfl (q_ld1N ag9 rfl (by constructor)) rfl ?_
         first | refine aqs rfl (e_callN cb117 (get117_p hxl (by omega) hge) rfl rfl) rfl ?_ | refine aqs rfl (e_callN cb117 (ACall.arg (get117_p hxl (by omega) hge) (by repeat (first | exact ArgL.nil | (apply ArgL.cons; (· first | exact .same | exact .cro | exact .nil))))) rfl rfl) rfl ?_
         refine aqs rfl (q_mv (by constructor)) rfl ?_
         refine aqs rfl (q_ex rfl rfl (by constructor)) rfl ?_
         refine aqs rfl (q_ex rfl rfl (by constructor)) rfl ?_
         refine aqs rfl (q_ex rfl rfl (by constructor)) rfl ?_
         (refine aes rfl (e_al (xs := [.lit (.int .i64 0), .lit (.int .i64 0), .lit (.slice none 0 0), .lit (.int .i64 0), .lit (.int .i64 0), .lit (.int .i64 0), .lit (.int .i64 0)]) (k := 7) zr136 (.same _) rfl) rfl ?_; rintro _ _ ⟨u39, rfl, rfl⟩)
         refine aqs rfl (q_as (by constructor)) rfl ?_
         first | (refine aen rfl (e_stW sz136 rfl (by repeat (first | exact .here | assumption | (apply HAt.left; assumption) | apply HAt.there | apply HAt.right)) (by constructor) (by first | rfl | assumption | (simp [*]; done) | fail) rfl (by repeat (first | exact .here | apply HSet.there))) ?_; rintro _ _ ⟨rfl, rfl⟩) | (refine aen rfl (e_stP sz136 rfl (by repeat (first | exact .here | assumption | (apply HAt.left; assumption) | apply HAt.there | apply HAt.right)) (by first | rfl | assumption | (simp [*]; done) | fail) (by constructor) (by first | rfl | assumption | (simp [*]; done) | fail) rfl (by first | decide | omega) (by first | ((repeat constructor); done) | exact .same _) (by first | exact .one | exact .set) (by repeat (first | exact .here | apply HSet.there))) ?_; rintro _ _ ⟨rfl, rfl⟩)
         refine aqs rfl (q_as (by constructor)) rfl ?_
         refine alist_nil ?_
         show AWP _ _ _ _
         refine awp_seq ?_
         refine awp_region ?_
         first | refine aqs rfl (q_ldpW ag136 sz136 rfl (by repeat (first | exact .here | assumption | (apply HAt.left; assumption) | apply HAt.there | apply HAt.right)) (by first | rfl | assumption | (simp [*]; done) | fail) (by first | rfl | assumption | (simp [*]; done) | fail) (by decide)) rfl ?_ | refine aqs rfl (q_ldW ag136 sz136 rfl (by first | rfl | assumption | (simp [*]; done) | fail)) rfl ?_ | refine aqs rfl (q_ldpP ag136 sz136 rfl (by repeat (first | exact .here | assumption | (apply HAt.left; assumption) | apply HAt.there | apply HAt.right)) (by first | rfl | assumption | (simp [*]; done) | fail) (by first | decide | (simp; done) | omega | fail) (by decide) (by first | ((repeat constructor); done) | exact .same _)) rfl ?_ | refine aqs rfl (q_ldP ag136 sz136 rfl (by first | decide | (simp; done) | omega | fail) (by first | ((repeat constructor); done) | exact .same _)) rfl ?_
         first | refine aqs rfl (q_iaA Try.underlying145 sz9 rfl rfl (by omega) (by omega) rfl) rfl ?_ | refine aqs rfl (q_iaI Try.underlying145 sz9 rfl rfl (by omega) (by omega) (by first | ((repeat constructor); done) | exact .same _)) rfl ?_
         first | refine aqs rfl (q_ldpN ag9 rfl (by repeat (first | exact .here | assumption | (apply HAt.left; assumption) | apply HAt.there | apply HAt.right)) (by first | rfl | assumption | (simp [*]; done) | fail) (by first | rfl | assumption | (simp [*]; done) | fail) (by constructor)) rfl ?_ | refine aqs rfl (q_ld1N ag9 rfl (by constructor)) rfl ?_
         first | refine aqs rfl (q_iaA Try.underlying145 sz9 rfl rfl (by omega) (by omega) rfl) rfl ?_ | refine aqs rfl (q_iaI Try.underlying145 sz9 rfl rfl (by omega) (by omega) (by first | ((repeat constructor); done) | exact .same _)) rfl ?_
         first | refine aqs rfl (q_ldpN ag9 rfl (by repeat (first | exact .here | assumption | (apply HAt.left; assumption) | apply HAt.there | apply HAt.right)) (by first | rfl | assumption | (simp [*]; done) | fail) (by first | rfl | assumption | (simp [*]; done) | fail) (by constructor)) rfl ?_ | refine aqs rfl (q_ld1N ag9 rfl (by constructor)) rfl ?_
         first | refine aqs rfl (q_iaA Try.underlying145 sz9 rfl rfl (by omega) (by omega) rfl) rfl ?_ | refine aqs rfl (q_iaI Try.underlying145 sz9 rfl rfl (by omega) (by omega) (by first | ((repeat constructor); done) | exact .same _)) rfl ?_
         first | refine aqs rfl (q_ldpN ag9 rfl (by repeat (first | exact .here | assumption | (apply HAt.left; assumption) | apply HAt.there | apply HAt.right)) (by first | rfl | assumption | (simp [*]; done) | fail) (by first | rfl | assumption | (simp [*]; done) | fail) (by constructor)) rfl ?_ | refine aqs rfl (q_ld1N ag9 rfl (by constructor)) rfl ?_
         first | refine aqs rfl (e_callN cb118 (put118_p hxl (by omega) hpe) rfl rfl) rfl ?_ | refine aqs rfl (e_callN cb118 (ACall.arg (put118_p hxl (by omega) hpe) (by repeat (first | exact ArgL.nil | (apply ArgL.cons; (· first | exact .same | exact .cro | exact .nil))))) rfl rfl) rfl ?_
         refine aqs rfl (q_mv (by constructor)) rfl ?_
         refine aqs rfl (q_ex rfl rfl (by constructor)) rfl ?_
         refine aqs rfl (q_ex rfl rfl (by constructor)) rfl ?_
         (refine aes rfl (e_al (xs := [.lit (.int .i64 0), .lit (.int .i64 0), .lit (.slice none 0 0), .lit (.int .i64 0), .lit (.int .i64 0), .lit (.int .i64 0), .lit (.int .i64 0)]) (k := 7) zr136 (.same _) rfl) rfl ?_; rintro _ _ ⟨u41, rfl, rfl⟩)
         first | (refine aen rfl (e_stW sz136 rfl (by repeat (first | exact .here | assumption | (apply HAt.left; assumption) | apply HAt.there | apply HAt.right)) (by constructor) (by first | rfl | assumption | (simp [*]; done) | fail) rfl (by repeat (first | exact .here | apply HSet.there))) ?_; rintro _ _ ⟨rfl, rfl⟩) | (refine aen rfl (e_stP sz136 rfl (by repeat (first | exact .here | assumption | (apply HAt.left; assumption) | apply HAt.there | apply HAt.right)) (by first | rfl | assumption | (simp [*]; done) | fail) (by constructor) (by first | rfl | assumption | (simp [*]; done) | fail) rfl (by first | decide | omega) (by first | ((repeat constructor); done) | exact .same _) (by first | exact .one | exact .set) (by repeat (first | exact .here | apply HSet.there))) ?_; rintro _ _ ⟨rfl, rfl⟩)
         refine aqs rfl (q_as (by constructor)) rfl ?_
         refine alist_nil ?_
         show AWP _ _ _ _
         refine awp_seq ?_
         refine awp_region ?_
         first | refine aqs rfl (q_ldpW ag136 sz136 rfl (by repeat (first | exact .here | assumption | (apply HAt.left; assumption) | apply HAt.there | apply HAt.right)) (by first | rfl | assumption | (simp [*]; done) | fail) (by first | rfl | assumption | (simp [*]; done) | fail) (by decide)) rfl ?_ | refine aqs rfl (q_ldW ag136 sz136 rfl (by first | rfl | assumption | (simp [*]; done) | fail)) rfl ?_ | refine aqs rfl (q_ldpP ag136 sz136 rfl (by repeat (first | exact .here | assumption | (apply HAt.left; assumption) | apply HAt.there | apply HAt.right)) (by first | rfl | assumption | (simp [*]; done) | fail) (by first | decide | (simp; done) | omega | fail) (by decide) (by first | ((repeat constructor); done) | exact .same _)) rfl ?_ | refine aqs rfl (q_ldP ag136 sz136 rfl (by first | decide | (simp; done) | omega | fail) (by first | ((repeat constructor); done) | exact .same _)) rfl ?_
         first | refine aqs rfl (q_iaA Try.underlying145 sz9 rfl rfl (by omega) (by omega) rfl) rfl ?_ | refine aqs rfl (q_iaI Try.underlying145 sz9 rfl rfl (by omega) (by omega) (by first | ((repeat constructor); done) | exact .same _)) rfl ?_
         first | refine aqs rfl (q_ldpN ag9 rfl (by repeat (first | exact .here | assumption | (apply HAt.left; assumption) | apply HAt.there | apply HAt.right)) (by first | rfl | assumption | (simp [*]; done) | fail) (by first | rfl | assumption | (simp [*]; done) | fail) (by constructor)) rfl ?_ | refine aqs rfl (q_ld1N ag9 rfl (by constructor)) rfl ?_
         first | refine aqs rfl (q_iaA Try.underlying145 sz9 rfl rfl (by omega) (by omega) rfl) rfl ?_ | refine aqs rfl (q_iaI Try.underlying145 sz9 rfl rfl (by omega) (by omega) (by first | ((repeat constructor); done) | exact .same _)) rfl ?_
         first | refine aqs rfl (q_ldpN ag9 rfl (by repeat (first | exact .here | assumption | (apply HAt.left; assumption) | apply HAt.there | apply HAt.right)) (by first | rfl | assumption | (simp [*]; done) | fail) (by first | rfl | assumption | (simp [*]; done) | fail) (by constructor)) rfl ?_ | refine aqs rfl (q_ld1N ag9 rfl (by constructor)) rfl ?_
         first | refine aqs rfl (q_iaA Try.underlying145 sz9 rfl rfl (by omega) (by omega) rfl) rfl ?_ | refine aqs rfl (q_iaI Try.underlying145 sz9 rfl rfl (by omega) (by omega) (by first | ((repeat constructor); done) | exact .same _)) rfl ?_
         first | refine aqs rfl (q_ldpN ag9 rfl (by repeat (first | exact .here | assumption | (apply HAt.left; assumption) | apply HAt.there | apply HAt.right)) (by first | rfl | assumption | (simp [*]; done) | fail) (by first | rfl | assumption | (simp [*]; done) | fail) (by constructor)) rfl ?_ | refine aqs rfl (q_ld1N ag9 rfl (by constructor)) rfl ?_
         first | refine aqs rfl (e_callN cb119 (put119_p hxl (by omega) hpe) rfl rfl) rfl ?_ | refine aqs rfl (e_callN cb119 (ACall.arg (put119_p hxl (by omega) hpe) (by repeat (first | exact ArgL.nil | (apply ArgL.cons; (· first | exact .same | exact .cro | exact .nil))))) rfl rfl) rfl ?_
         refine aqs rfl (q_mv (by constructor)) rfl ?_
         refine aqs rfl (q_ex rfl rfl (by constructor)) rfl ?_
         refine aqs rfl (q_ex rfl rfl (by constructor)) rfl ?_
         (refine aes rfl (e_al (xs := [.lit (.int .i64 0), .lit (.int .i64 0), .lit (.slice none 0 0), .lit (.int .i64 0), .lit (.int .i64 0), .lit (.int .i64 0), .lit (.int .i64 0)]) (k := 7) zr136 (.same _) rfl) rfl ?_; rintro _ _ ⟨u43, rfl, rfl⟩)
         first | (refine aen rfl (e_stW sz136 rfl (by repeat (first | exact .here | assumption | (apply HAt.left; assumption) | apply HAt.there | apply HAt.right)) (by constructor) (by first | rfl | assumption | (simp [*]; done) | fail) rfl (by repeat (first | exact .here | apply HSet.there))) ?_; rintro _ _ ⟨rfl, rfl⟩) | (refine aen rfl (e_stP sz136 rfl (by repeat (first | exact .here | assumption | (apply HAt.left; assumption) | apply HAt.there | apply HAt.right)) (by first | rfl | assumption | (simp [*]; done) | fail) (by constructor) (by first | rfl | assumption | (simp [*]; done) | fail) rfl (by first | decide | omega) (by first | ((repeat constructor); done) | exact .same _) (by first | exact .one | exact .set) (by repeat (first | exact .here | apply HSet.there))) ?_; rintro _ _ ⟨rfl, rfl⟩)
         refine aqs rfl (q_as (by constructor)) rfl ?_
         refine alist_nil ?_
         show AWP _ _ _ _
         refine awp_seq ?_
         refine awp_region ?_
         refine aqs rfl (q_mv (by constructor)) rfl ?_
         refine aqs rfl (q_mv (by constructor)) rfl ?_
         refine aqs rfl (castF (q_sneq rfl rfl) (by simp)) rfl ?_
         refine aqs rfl (q_mv (by constructor)) rfl ?_
         first | refine ans rfl rfl ?_ | refine aqs rfl (q_mv (by constructor)) rfl ?_
         first | refine ans rfl rfl ?_ | refine aqs rfl (q_mv (by constructor)) rfl ?_
         refine aqs rfl (castF (q_neq rfl rfl) (by simp)) rfl ?_
         first | refine aqs rfl (q_pickT rfl (by constructor)) rfl ?_ | refine aqs rfl (q_pickF rfl (by constructor)) rfl ?_
         refine aqs rfl (q_mv (by constructor)) rfl ?_
         first | refine ans rfl rfl ?_ | refine aqs rfl (q_ldpW ag136 sz136 rfl (by repeat (first | exact .here | assumption | (apply HAt.left; assumption) | apply HAt.there | apply HAt.right)) (by first | rfl | assumption | (simp [*]; done) | fail) (by first | rfl | assumption | (simp [*]; done) | fail) (by decide)) rfl ?_ | refine aqs rfl (q_ldW ag136 sz136 rfl (by first | rfl | assumption | (simp [*]; done) | fail)) rfl ?_ | refine aqs rfl (q_ldpP ag136 sz136 rfl (by repeat (first | exact .here | assumption | (apply HAt.left; assumption) | apply HAt.there | apply HAt.right)) (by first | rfl | assumption | (simp [*]; done) | fail) (by first | decide | (simp; done) | omega | fail) (by decide) (by first | ((repeat constructor); done) | exact .same _)) rfl ?_ | refine aqs rfl (q_ldP ag136 sz136 rfl (by first | decide | (simp; done) | omega | fail) (by first | ((repeat constructor); done) | exact .same _)) rfl ?_
         first | refine ans rfl rfl ?_ | refine aqs rfl (q_ldpW ag136 sz136 rfl (by repeat (first | exact .here | assumption | (apply HAt.left; assumption) | apply HAt.there | apply HAt.right)) (by first | rfl | assumption | (simp [*]; done) | fail) (by first | rfl | assumption | (simp [*]; done) | fail) (by decide)) rfl ?_ | refine aqs rfl (q_ldW ag136 sz136 rfl (by first | rfl | assumption | (simp [*]; done) | fail)) rfl ?_ | refine aqs rfl (q_ldpP ag136 sz136 rfl (by repeat (first | exact .here | assumption | (apply HAt.left; assumption) | apply HAt.there | apply HAt.right)) (by first | rfl | assumption | (simp [*]; done) | fail) (by first | decide | (simp; done) | omega | fail) (by decide) (by first | ((repeat constructor); done) | exact .same _)) rfl ?_ | refine aqs rfl (q_ldP ag136 sz136 rfl (by first | decide | (simp; done) | omega | fail) (by first | ((repeat constructor); done) | exact .same _)) rfl ?_
         first | refine ans rfl rfl ?_ | refine aqs rfl (e_callN cb109 (same109_c g2 g2 hgl hgl _) rfl rfl) rfl ?_ | refine aqs rfl (e_callN cb109 (ACall.arg (same109_c g2 g2 hgl hgl _) (by repeat (first | exact ArgL.nil | (apply ArgL.cons; (· first | exact .same | exact .cro | exact .nil))))) rfl rfl) rfl ?_
         refine aqs rfl (castF (q_not rfl) (by simp)) rfl ?_
         first | refine aqs rfl (q_pickT rfl (by constructor)) rfl ?_ | refine aqs rfl (q_pickF rfl (by constructor)) rfl ?_
         refine aqs rfl (q_mv (by constructor)) rfl ?_
         first | refine ans rfl rfl ?_ | refine aqs rfl (q_mv (by constructor)) rfl ?_
         first | refine ans rfl rfl ?_ | refine aqs rfl (q_mv (by constructor)) rfl ?_
         refine aqs rfl (castF (q_neq rfl rfl) (by simp)) rfl ?_
         first | refine aqs rfl (q_pickT rfl (by constructor)) rfl ?_ | refine aqs rfl (q_pickF rfl (by constructor)) rfl ?_
         refine aqs rfl (q_mv (by constructor)) rfl ?_
         first | refine ans rfl rfl ?_ | refine aqs rfl (q_ldpW ag136 sz136 rfl (by repeat (first | exact .here | assumption | (apply HAt.left; assumption) | apply HAt.there | apply HAt.right)) (by first | rfl | assumption | (simp [*]; done) | fail) (by first | rfl | assumption | (simp [*]; done) | fail) (by decide)) rfl ?_ | refine aqs rfl (q_ldW ag136 sz136 rfl (by first | rfl | assumption | (simp [*]; done) | fail)) rfl ?_ | refine aqs rfl (q_ldpP ag136 sz136 rfl (by repeat (first | exact .here | assumption | (apply HAt.left; assumption) | apply HAt.there | apply HAt.right)) (by first | rfl | assumption | (simp [*]; done) | fail) (by first | decide | (simp; done) | omega | fail) (by decide) (by first | ((repeat constructor); done) | exact .same _)) rfl ?_ | refine aqs rfl (q_ldP ag136 sz136 rfl (by first | decide | (simp; done) | omega | fail) (by first | ((repeat constructor); done) | exact .same _)) rfl ?_
         first | refine ans rfl rfl ?_ | refine aqs rfl (q_ldpW ag136 sz136 rfl (by repeat (first | exact .here | assumption | (apply HAt.left; assumption) | apply HAt.there | apply HAt.right)) (by first | rfl | assumption | (simp [*]; done) | fail) (by first | rfl | assumption | (simp [*]; done) | fail) (by decide)) rfl ?_ | refine aqs rfl (q_ldW ag136 sz136 rfl (by first | rfl | assumption | (simp [*]; done) | fail)) rfl ?_ | refine aqs rfl (q_ldpP ag136 sz136 rfl (by repeat (first | exact .here | assumption | (apply HAt.left; assumption) | apply HAt.there | apply HAt.right)) (by first | rfl | assumption | (simp [*]; done) | fail) (by first | decide | (simp; done) | omega | fail) (by decide) (by first | ((repeat constructor); done) | exact .same _)) rfl ?_ | refine aqs rfl (q_ldP ag136 sz136 rfl (by first | decide | (simp; done) | omega | fail) (by first | ((repeat constructor); done) | exact .same _)) rfl ?_
         first | refine ans rfl rfl ?_ | refine aqs rfl (e_callN cb109 (same109_c p1 p1 hpl hpl _) rfl rfl) rfl ?_ | refine aqs rfl (e_callN cb109 (ACall.arg (same109_c p1 p1 hpl hpl _) (by repeat (first | exact ArgL.nil | (apply ArgL.cons; (· first | exact .same | exact .cro | exact .nil))))) rfl rfl) rfl ?_
         refine aqs rfl (castF (q_not rfl) (by simp)) rfl ?_
         first | refine aqs rfl (q_pickT rfl (by constructor)) rfl ?_ | refine aqs rfl (q_pickF rfl (by constructor)) rfl ?_
         refine alist_nil ?_
         show AWP _ _ _ _
         refine awp_cond rfl (fun hc5 => ?_) (fun hc5 => ?_)
         ·exfalso; first | (simp at hc5; done) | (simp at hc5; omega) | contradiction
         ·try simp only [decide_eq_true_eq, decide_eq_false_iff_not, Bool.not_eq_true', Bool.not_eq_false', Bool.not_eq_eq_eq_not, Bool.not_true, Bool.not_false, beq_iff_eq, beq_eq_false_iff_ne, Int.not_lt, Int.not_le] at hc5
          refine awp_skip ?_
          show AWP _ _ _ _
          refine awp_region ?_
          first | refine aqs rfl (q_add64 rfl rfl (by omega) (by omega)) rfl ?_ | refine aqs rfl (q_add rfl rfl) rfl ?_
          refine aqs rfl (q_mv (by constructor)) rfl ?_
          refine alist_nil ?_
          show ∃ y, _ ∧ _ ∧ _
          exact ⟨j + 1, by omega, by omega, .mk' ⟨by rfl, rfl, rfl, rfl, rfl, rfl, rfl, rfl, rfl, rfl, rfl, rfl, trivial⟩ (by repeat (first | exact List.Sublist.refl _ | exact List.nil_sublist _ | exact List.sublist_append_left _ _ | (apply List.Sublist.cons_cons) | (apply List.Sublist.cons)))⟩
        ·skip
         refine awp_exit ?_
         show AWP _ _ _ _
         refine awp_region ?_
         first | refine aqs rfl (q_add64 rfl rfl (by omega) (by omega)) rfl ?_ | refine aqs rfl (q_add rfl rfl) rfl ?_
         refine aqs rfl (q_mv (by constructor)) rfl ?_
         refine alist_nil ?_
         show ∃ y, _ ∧ _ ∧ _
         exact ⟨i + 1, by omega, by omega, .mk' ⟨by rfl, rfl, rfl, rfl, rfl, rfl, rfl, rfl, trivial⟩ (by repeat (first | exact List.Sublist.refl _ | exact List.nil_sublist _ | exact List.sublist_append_left _ _ | (apply List.Sublist.cons_cons) | (apply List.Sublist.cons)))⟩
     ·skip
      refine awp_exit ?_
      show AWP _ _ _ _
      refine awp_seq ?_
      refine awp_region ?_
      refine aqs rfl (q_mv (by constructor)) rfl ?_
      refine aqs rfl (q_as (by constructor)) rfl ?_
      refine alist_nil ?_
      show AWP _ _ _ _
      refine awp_ret ?_
      repeat first | with_reducible refine then_ret ?_ | with_reducible refine blk_ret ?_ | with_reducible refine nogo_ret ?_
      apply retq (.inr rfl) (.cons (rok_t rfl) .nil)
      rotate_left
      ·exact ⟨rfl, rfl⟩
      repeat (first | exact List.Sublist.refl _ | exact List.nil_sublist _ | exact List.sublist_append_left _ _ | apply List.Sublist.cons)
end Go.Proofs.YtdlinfekifnmkaaAm
