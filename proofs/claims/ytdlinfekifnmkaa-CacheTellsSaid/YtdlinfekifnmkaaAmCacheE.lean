/- Contracts of the layer 'cache', fifth part: the program's Get. Conditions: the lengths. -/
import Derived.Test.YtdlinfekifnmkaaAmCacheD
set_option linter.unusedVariables false
set_option linter.unusedSimpArgs false
set_option maxRecDepth 20000
namespace Go.Proofs.YtdlinfekifnmkaaAm
open Go.Proofs
theorem map_setC (ps : List (List Slot)) (i : Nat) (l : List Slot) : (ps.map partCells).set i [.ro (l.map Slot.cells)] = (ps.set i l).map partCells := by
  rw [List.map_set]; rfl
theorem pub_cach {u : Nat} (c : Cach) (n : Nat) (hn : n = c.parts.length) {es : List (List AV)} (he : es = c.parts.map partCells) : PubE u es [[.lit (.int .i64 c.width), .lit (.int .i64 c.room), .sl u 0 n, .lit (.int .i64 c.hits), .lit (.int .i64 c.misses), .lit (.int .i64 c.clashes), .lit (.int .i64 c.evicted)]] [c.cells] := by
  subst he; subst hn
  exact .cons (.cons .same (.cons .same (.cons (pub_all (by simp)) .same))) .nil
set_option maxHeartbeats 8000000 in
theorem get116_c (c : Cach) (hl : CLen c) (l r : ByteArray) (hsz : l.size + r.size ≤ 1000000000) (H : Heap) : QCall Try.prog 116 [.agg c.cells, .lit (.string l), .lit (.string r)] H (getCA (getC c l r)) := by
  refine QCall.any H ?_
  have hn := hl.n
  have hkr := both_range l r c.width
  have hk0 : 0 ≤ (keyOf c l r).sum ∧ (keyOf c l r).sum ≤ 18446744073709551615 := hkr
  obtain ⟨at_, hat⟩ : ∃ at_, at_ = atOfC c l r := ⟨_, rfl⟩
  refine acall_intro (n := 75) (rvs := [.tmp 6, .cell 7 136, .tmp 8]) Try.func116 rfl rfl rfl (Nat.le_of_ble_eq_true rfl) ?_
  refine awp_seq ?_
  refine awp_region ?_
  (refine aes rfl (e_bx (by constructor) rfl rfl) rfl ?_; rintro _ _ ⟨u3, rfl, rfl⟩)
  refine aqs rfl (q_as (by constructor)) rfl ?_
  (refine aes rfl (e_al (xs := [.lit (.int .i64 0), .lit (.int .i64 0), .lit (.slice none 0 0), .lit (.int .i64 0), .lit (.int .i64 0), .lit (.int .i64 0), .lit (.int .i64 0)]) (k := 7) zr136 (.same _) rfl) rfl ?_; rintro _ _ ⟨u7, rfl, rfl⟩)
  refine aqs rfl (q_as (by constructor)) rfl ?_
  refine alist_nil ?_
  show AWP _ _ _ _
  refine awp_seq ?_
  refine awp_seq ?_
  refine awp_region ?_
  first | refine aqs rfl (q_ldpW ag136 sz136 rfl (by repeat (first | exact .here | assumption | (apply HAt.left; assumption) | apply HAt.there | apply HAt.right)) (by first | rfl | assumption | (simp [*]; done) | fail) (by first | rfl | assumption | (simp [*]; done) | fail) (by decide)) rfl ?_ | refine aqs rfl (q_ldW ag136 sz136 rfl (by first | rfl | assumption | (simp [*]; done) | fail)) rfl ?_ | refine aqs rfl (q_ldpP ag136 sz136 rfl (by repeat (first | exact .here | assumption | (apply HAt.left; assumption) | apply HAt.there | apply HAt.right)) (by first | rfl | assumption | (simp [*]; done) | fail) (by first | decide | (simp; done) | omega | fail) (by decide) (by first | ((repeat constructor); done) | exact .same _)) rfl ?_ | refine aqs rfl (q_ldP ag136 sz136 rfl (by first | decide | (simp; done) | omega | fail) (by first | ((repeat constructor); done) | exact .same _)) rfl ?_
  first | refine aqs rfl (e_callN cb112 (right112_c c hl _) rfl rfl) rfl ?_ | refine aqs rfl (e_callN cb112 (ACall.arg (right112_c c hl _) (by repeat (first | exact ArgL.nil | (apply ArgL.cons; (· first | exact .same | exact .cro | exact .nil))))) rfl rfl) rfl ?_
  refine aqs rfl (q_not rfl) rfl ?_
  refine alist_nil ?_
  show AWP _ _ _ _
  refine awp_cond rfl (fun hc0 => ?_) (fun hc0 => ?_)
  ·have hb : cRight c = false := by simpa using hc0
   rw [getC_bad hb]
   refine awp_seq ?_
   refine awp_region ?_
   refine aqs rfl (q_bd st136 zr136 (by first | ((repeat constructor); done) | exact .same _) (by repeat (first | exact BD.nil | (apply BD.cons; (· rfl); (· constructor); (· rfl); (· rfl); (· exact Nat.le_of_ble_eq_true (by rfl)); (· exact (by first | ((repeat constructor); done) | exact .same _)))))) rfl ?_
   refine aqs rfl (q_as (by constructor)) rfl ?_
   first | (refine aen rfl (e_stW sz136 rfl (by repeat (first | exact .here | assumption | (apply HAt.left; assumption) | apply HAt.there | apply HAt.right)) (by constructor) (by first | rfl | assumption | (simp [*]; done) | fail) rfl (by repeat (first | exact .here | apply HSet.there))) ?_; rintro _ _ ⟨rfl, rfl⟩) | (refine aen rfl (e_stP sz136 rfl (by repeat (first | exact .here | assumption | (apply HAt.left; assumption) | apply HAt.there | apply HAt.right)) (by first | rfl | assumption | (simp [*]; done) | fail) (by constructor) (by first | rfl | assumption | (simp [*]; done) | fail) rfl (by first | decide | omega) (by first | ((repeat constructor); done) | exact .same _) (by first | exact .one | exact .set) (by repeat (first | exact .here | apply HSet.there))) ?_; rintro _ _ ⟨rfl, rfl⟩)
   refine aqs rfl (q_as (by constructor)) rfl ?_
   refine alist_nil ?_
   show AWP _ _ _ _
   refine awp_nil (by repeat (first | exact NilT.nil | (apply NilT.cons; (· first | exact .one .nil | exact .agg (by repeat (first | exact NilL.nil | (apply NilL.cons; (· first | exact .nil | exact .same)) | exact NilL.same)) | exact .one .same)) | exact NilT.same)) (by repeat (first | exact NilH.nil | (apply NilH.cons; (· first | exact .arr (by repeat (first | exact NilE.nil | (apply NilE.cons; (· exact (by repeat (first | exact NilL.nil | (apply NilL.cons; (· first | exact .nil | exact .same)) | exact NilL.same)))) | exact NilE.same)) | exact .same)) | exact NilH.same)) ?_
   show AWP _ _ _ _
   refine awp_ret ?_
   repeat first | with_reducible refine then_ret ?_ | with_reducible refine blk_ret ?_ | with_reducible refine nogo_ret ?_
   apply retq (.inr rfl) (.cons (rok_t rfl) (.cons (rok_A ag136 sz136 rfl (by repeat (first | exact .here | assumption | (apply HAt.left; assumption) | apply HAt.there | apply HAt.right)) (by rfl)) (.cons (rok_t rfl) .nil)))
   rotate_left
   ·exact ⟨rfl, rfl⟩
   repeat (first | exact List.Sublist.refl _ | exact List.nil_sublist _ | exact List.sublist_append_left _ _ | apply List.Sublist.cons)
  ·have hb : cRight c = true := by simpa using hc0
   have hC := cright_iff.1 hb
   have hnp := hC.n1
   have hal := at_lt hC l r
   rw [← hat] at hal
   have hs2 := pt_row hal.1
   have hpl := hl.l at_
   obtain ⟨s, l2, e, hg⟩ : ∃ s l2 e, getS (pt c at_) (keyOf c l r) = (s, l2, e) := ⟨_, _, _, rfl⟩
   have hg2 : getS (pt c (atOfC c l r)) (keyOf c l r) = (s, l2, e) := hat ▸ hg
   have hm1 : 0 ≤ c.misses ∧ c.misses ≤ 1099511627776 := hC.misses
   have hm2 : 0 ≤ c.hits ∧ c.hits ≤ 1099511627776 := hC.hits
   have hm3 : 0 ≤ c.clashes ∧ c.clashes ≤ 1099511627776 := hC.clashes
   have hrl : (c.parts.map partCells).length = c.parts.length := List.length_map ..
   refine awp_skip ?_
   show AWP _ _ _ _
   refine awp_seq ?_
   refine awp_region ?_
   first | refine aqs rfl (q_ldpW ag136 sz136 rfl (by repeat (first | exact .here | assumption | (apply HAt.left; assumption) | apply HAt.there | apply HAt.right)) (by first | rfl | assumption | (simp [*]; done) | fail) (by first | rfl | assumption | (simp [*]; done) | fail) (by decide)) rfl ?_ | refine aqs rfl (q_ldW ag136 sz136 rfl (by first | rfl | assumption | (simp [*]; done) | fail)) rfl ?_ | refine aqs rfl (q_ldpP ag136 sz136 rfl (by repeat (first | exact .here | assumption | (apply HAt.left; assumption) | apply HAt.there | apply HAt.right)) (by first | rfl | assumption | (simp [*]; done) | fail) (by first | decide | (simp; done) | omega | fail) (by decide) (by first | ((repeat constructor); done) | exact .same _)) rfl ?_ | refine aqs rfl (q_ldP ag136 sz136 rfl (by first | decide | (simp; done) | omega | fail) (by first | ((repeat constructor); done) | exact .same _)) rfl ?_
   first | (refine aes rfl (e_callN cb166 (ACall.frame [_, _] (owned166_c c hl)) rfl rfl) rfl ?_; rintro _ _ ⟨Hv, rfl, u, rfl, rfl⟩) | (refine aes rfl (e_callN cb166 (ACall.arg (ACall.frame [_, _] (owned166_c c hl)) (by repeat (first | exact ArgL.nil | (apply ArgL.cons; (· first | exact .same | exact .cro | exact .nil))))) rfl rfl) rfl ?_; rintro _ _ ⟨Hv, rfl, u, rfl, rfl⟩)
   first | (refine aen rfl (e_stW sz136 rfl (by repeat (first | exact .here | assumption | (apply HAt.left; assumption) | apply HAt.there | apply HAt.right)) (by constructor) (by first | rfl | assumption | (simp [*]; done) | fail) rfl (by repeat (first | exact .here | apply HSet.there))) ?_; rintro _ _ ⟨rfl, rfl⟩) | (refine aen rfl (e_stP sz136 rfl (by repeat (first | exact .here | assumption | (apply HAt.left; assumption) | apply HAt.there | apply HAt.right)) (by first | rfl | assumption | (simp [*]; done) | fail) (by constructor) (by first | rfl | assumption | (simp [*]; done) | fail) rfl (by first | decide | omega) (by first | ((repeat constructor); done) | exact .same _) (by first | exact .one | exact .set) (by repeat (first | exact .here | apply HSet.there))) ?_; rintro _ _ ⟨rfl, rfl⟩)
   refine alist_nil ?_
   show AWP _ _ _ _
   refine awp_seq ?_
   refine awp_region ?_
   refine aqs rfl (q_mv (by constructor)) rfl ?_
   refine aqs rfl (q_mv (by constructor)) rfl ?_
   first | refine aqs rfl (q_fapP fl136_0 (by decide) rfl rfl) rfl ?_ | refine aqs rfl (q_faP fl136_0 (by decide) rfl (by first | ((repeat constructor); done) | exact .same _)) rfl ?_
   first | refine aqs rfl (q_ldpN ag3 rfl (by repeat (first | exact .here | assumption | (apply HAt.left; assumption) | apply HAt.there | apply HAt.right)) (by first | rfl | assumption | (simp [*]; done) | fail) (by first | rfl | assumption | (simp [*]; done) | fail) (by constructor)) rfl ?_ | refine aqs rfl (q_ld1N ag3 rfl (by constructor)) rfl ?_
   first | refine aqs rfl (e_callN cb45 (both45_c c.width l r (by omega) _) rfl rfl) rfl ?_ | refine aqs rfl (e_callN cb45 (ACall.arg (both45_c c.width l r (by omega) _) (by repeat (first | exact ArgL.nil | (apply ArgL.cons; (· first | exact .same | exact .cro | exact .nil))))) rfl rfl) rfl ?_
   (refine aes rfl (e_al (xs := [.lit (.int .u64 0), .lit (.int .i64 0)]) (k := 2) zr29 (.same _) rfl) rfl ?_; rintro _ _ ⟨u9, rfl, rfl⟩)
   first | (refine aen rfl (e_stW sz29 rfl (by repeat (first | exact .here | assumption | (apply HAt.left; assumption) | apply HAt.there | apply HAt.right)) (by constructor) (by first | rfl | assumption | (simp [*]; done) | fail) rfl (by repeat (first | exact .here | apply HSet.there))) ?_; rintro _ _ ⟨rfl, rfl⟩) | (refine aen rfl (e_stP sz29 rfl (by repeat (first | exact .here | assumption | (apply HAt.left; assumption) | apply HAt.there | apply HAt.right)) (by first | rfl | assumption | (simp [*]; done) | fail) (by constructor) (by first | rfl | assumption | (simp [*]; done) | fail) rfl (by first | decide | omega) (by first | ((repeat constructor); done) | exact .same _) (by first | exact .one | exact .set) (by repeat (first | exact .here | apply HSet.there))) ?_; rintro _ _ ⟨rfl, rfl⟩)
   refine alist_nil ?_
   show AWP _ _ _ _
   refine awp_seq ?_
   refine awp_region ?_
   first | refine aqs rfl (q_ldpW ag136 sz136 rfl (by repeat (first | exact .here | assumption | (apply HAt.left; assumption) | apply HAt.there | apply HAt.right)) (by first | rfl | assumption | (simp [*]; done) | fail) (by first | rfl | assumption | (simp [*]; done) | fail) (by decide)) rfl ?_ | refine aqs rfl (q_ldW ag136 sz136 rfl (by first | rfl | assumption | (simp [*]; done) | fail)) rfl ?_ | refine aqs rfl (q_ldpP ag136 sz136 rfl (by repeat (first | exact .here | assumption | (apply HAt.left; assumption) | apply HAt.there | apply HAt.right)) (by first | rfl | assumption | (simp [*]; done) | fail) (by first | decide | (simp; done) | omega | fail) (by decide) (by first | ((repeat constructor); done) | exact .same _)) rfl ?_ | refine aqs rfl (q_ldP ag136 sz136 rfl (by first | decide | (simp; done) | omega | fail) (by first | ((repeat constructor); done) | exact .same _)) rfl ?_
   first | refine aqs rfl (q_ldpW ag29 sz29 rfl (by repeat (first | exact .here | assumption | (apply HAt.left; assumption) | apply HAt.there | apply HAt.right)) (by first | rfl | assumption | (simp [*]; done) | fail) (by first | rfl | assumption | (simp [*]; done) | fail) (by decide)) rfl ?_ | refine aqs rfl (q_ldW ag29 sz29 rfl (by first | rfl | assumption | (simp [*]; done) | fail)) rfl ?_ | refine aqs rfl (q_ldpP ag29 sz29 rfl (by repeat (first | exact .here | assumption | (apply HAt.left; assumption) | apply HAt.there | apply HAt.right)) (by first | rfl | assumption | (simp [*]; done) | fail) (by first | decide | (simp; done) | omega | fail) (by decide) (by first | ((repeat constructor); done) | exact .same _)) rfl ?_ | refine aqs rfl (q_ldP ag29 sz29 rfl (by first | decide | (simp; done) | omega | fail) (by first | ((repeat constructor); done) | exact .same _)) rfl ?_
   first | refine aqs rfl (castQ (r2 := .lit (.int .i64 (at_ : Nat))) (e_callN cb162 (partOf162_c c hnp hn (keyOf c l r) hk0 _) rfl rfl) (by rw [hal.2])) rfl ?_ | refine aqs rfl (castQ (r2 := .lit (.int .i64 (at_ : Nat))) (e_callN cb162 (ACall.arg (partOf162_c c hnp hn (keyOf c l r) hk0 _) (by repeat (first | exact ArgL.nil | (apply ArgL.cons; (· first | exact .same | exact .cro | exact .nil))))) rfl rfl) (by rw [hal.2])) rfl ?_
   refine aqs rfl (q_as (by constructor)) rfl ?_
   refine alist_nil ?_
   show AWP _ _ _ _
   refine awp_seq ?_
   refine awp_draw 14 [(0, false), (1, false), (2, false), (3, false), (4, false), (5, false), (6, false), (7, false), (8, false), (9, false), (10, false), (11, true), (12, true), (13, false)] _ ([]) mixed (by kernel_rfl) (perm0 _) ?_
   first | refine glq rfl (.inl ⟨rfl, q_fapP fl136_2 (by decide) rfl rfl⟩) rfl ?_ | refine glq rfl (.inl ⟨rfl, q_faP fl136_2 (by decide) rfl (by first | ((repeat constructor); done) | exact .same _)⟩) rfl ?_
   first | refine glq rfl (.inl ⟨rfl, q_ldpN ag42 rfl (by repeat (first | exact .here | assumption | (apply HAt.left; assumption) | apply HAt.there | apply HAt.right)) (by first | rfl | assumption | (simp [*]; done) | fail) (by first | rfl | assumption | (simp [*]; done) | fail) (by constructor)⟩) rfl ?_ | refine glq rfl (.inl ⟨rfl, q_ld1N ag42 rfl (by constructor)⟩) rfl ?_
   refine glq rfl (.inl ⟨rfl, q_mv (by constructor)⟩) rfl ?_
   first | refine glq rfl (.inl ⟨rfl, q_iaN Try.underlying42 sz38 (.inl rfl) rfl (by omega) (by first | rfl | assumption | (simp [*]; done) | fail) (by first | rfl | assumption | (simp [*]; done) | fail) (by decide) (by first | ((repeat constructor); done) | exact .same _)⟩) rfl ?_ | refine glq rfl (.inl ⟨rfl, q_iaS Try.underlying42 sz38 rfl (by repeat (first | exact .here | assumption | (apply HAt.left; assumption) | apply HAt.there | apply HAt.right)) rfl (by omega) (by omega) (by first | exact Nat.zero_add _ | rfl)⟩) rfl ?_ | refine glq rfl (.inl ⟨rfl, q_iaN Try.underlying42 sz38 (.inr rfl) rfl (by omega) (by first | rfl | assumption | (simp [*]; done) | fail) (by first | rfl | assumption | (simp [*]; done) | fail) (by decide) (by first | ((repeat constructor); done) | exact .same _)⟩) rfl ?_
   first | refine glq rfl (.inl ⟨rfl, q_ldpN ag38 rfl (by repeat (first | exact .here | assumption | (apply HAt.left; assumption) | apply HAt.there | apply HAt.right)) (by first | rfl | assumption | (simp [*]; done) | fail) (by first | rfl | assumption | (simp [*]; done) | fail) (by constructor)⟩) rfl ?_ | refine glq rfl (.inl ⟨rfl, q_ld1N ag38 rfl (by constructor)⟩) rfl ?_
   first | refine glq rfl (.inl ⟨rfl, q_ldpW ag29 sz29 rfl (by repeat (first | exact .here | assumption | (apply HAt.left; assumption) | apply HAt.there | apply HAt.right)) (by first | rfl | assumption | (simp [*]; done) | fail) (by first | rfl | assumption | (simp [*]; done) | fail) (by decide)⟩) rfl ?_ | refine glq rfl (.inl ⟨rfl, q_ldW ag29 sz29 rfl (by first | rfl | assumption | (simp [*]; done) | fail)⟩) rfl ?_ | refine glq rfl (.inl ⟨rfl, q_ldpP ag29 sz29 rfl (by repeat (first | exact .here | assumption | (apply HAt.left; assumption) | apply HAt.there | apply HAt.right)) (by first | rfl | assumption | (simp [*]; done) | fail) (by first | decide | (simp; done) | omega | fail) (by decide) (by first | ((repeat constructor); done) | exact .same _)⟩) rfl ?_ | refine glq rfl (.inl ⟨rfl, q_ldP ag29 sz29 rfl (by first | decide | (simp; done) | omega | fail) (by first | ((repeat constructor); done) | exact .same _)⟩) rfl ?_
   first | refine glq rfl (.inl ⟨rfl, e_callN cb54 (hg ▸ get54_c (pt c at_) (by omega) (keyOf c l r) _) rfl rfl⟩) rfl ?_ | refine glq rfl (.inl ⟨rfl, e_callN cb54 (ACall.arg (hg ▸ get54_c (pt c at_) (by omega) (keyOf c l r) _) (by repeat (first | exact ArgL.nil | (apply ArgL.cons; (· first | exact .same | exact .cro | exact .nil))))) rfl rfl⟩) rfl ?_
   refine glq rfl (.inl ⟨rfl, q_mv (by constructor)⟩) rfl ?_
   refine glq rfl (.inl ⟨rfl, q_ex rfl rfl (by constructor)⟩) rfl ?_
   refine glq rfl (.inl ⟨rfl, q_ex rfl rfl (by constructor)⟩) rfl ?_
   refine glq rfl (.inl ⟨rfl, q_ex rfl rfl (by constructor)⟩) rfl ?_
   (refine gla rfl rfl (EOp.frame (e_al (xs := [.lit (.int .u64 0), .lit (.int .i64 0), .lit (.string ⟨#[]⟩), .lit (.string ⟨#[]⟩), .lit (.string ⟨#[]⟩)]) (k := 5) zr40 (.same _) rfl)) rfl ?_; rintro _ _ ⟨u11, rfl, rfl⟩)
   first | (refine gla rfl rfl (EOp.frame (e_stW sz40 rfl (by repeat (first | exact .here | assumption | (apply HAt.left; assumption) | apply HAt.there | apply HAt.right)) (by constructor) (by first | rfl | assumption | (simp [*]; done) | fail) rfl (by repeat (first | exact .here | apply HSet.there)))) rfl ?_; rintro _ _ ⟨rfl, rfl⟩) | (refine gla rfl rfl (EOp.frame (e_stP sz40 rfl (by repeat (first | exact .here | assumption | (apply HAt.left; assumption) | apply HAt.there | apply HAt.right)) (by first | rfl | assumption | (simp [*]; done) | fail) (by constructor) (by first | rfl | assumption | (simp [*]; done) | fail) rfl (by first | decide | omega) (by first | ((repeat constructor); done) | exact .same _) (by first | exact .one | exact .set) (by repeat (first | exact .here | apply HSet.there)))) rfl ?_; rintro _ _ ⟨rfl, rfl⟩)
   refine glq rfl (.inl ⟨rfl, q_as (by constructor)⟩) rfl ?_
   refine gldA ?_
   refine aqs rfl (q_as (by constructor)) rfl ?_
   refine alist_nil ?_
   show AWP _ _ _ _
   refine awp_seq ?_
   refine awp_region ?_
   refine aqs rfl (q_as (by constructor)) rfl ?_
   refine alist_nil ?_
   show AWP _ _ _ _
   refine awp_seq ?_
   refine awp_region ?_
   first | refine aqs rfl (q_fapP fl136_3 (by decide) rfl rfl) rfl ?_ | refine aqs rfl (q_faP fl136_3 (by decide) rfl (by first | ((repeat constructor); done) | exact .same _)) rfl ?_
   refine aqs rfl (q_bd st201 zr201 (by first | ((repeat constructor); done) | exact .same _) (by repeat (first | exact BD.nil | (apply BD.cons; (· rfl); (· constructor); (· rfl); (· rfl); (· exact Nat.le_of_ble_eq_true (by rfl)); (· exact (by first | ((repeat constructor); done) | exact .same _)))))) rfl ?_
   refine aqs rfl (q_fn (by first | ((repeat constructor); done) | exact .same _) (by first | ((repeat constructor); done) | exact .same _)) rfl ?_
   refine aqs rfl (q_as (by constructor)) rfl ?_
   refine alist_nil ?_
   show AWP _ _ _ _
   refine awp_seq ?_
   refine awp_block ?_
   refine awp_seq ?_
   refine awp_region ?_
   refine aqs rfl (q_mv (by constructor)) rfl ?_
   refine aqs rfl (q_neq rfl rfl) rfl ?_
   refine aqs rfl (q_as (by constructor)) rfl ?_
   refine alist_nil ?_
   show AWP _ _ _ _
   refine awp_cond rfl (fun hc1 => ?_) (fun hc1 => ?_)
   ·have he : ¬ e = 0 := by simpa using hc1
    rw [getC_miss hb hg2 he]
    refine awp_region ?_
    first | refine aqs rfl (q_fapP fl136_4 (by decide) rfl rfl) rfl ?_ | refine aqs rfl (q_faP fl136_4 (by decide) rfl (by first | ((repeat constructor); done) | exact .same _)) rfl ?_
    refine aqs rfl (q_bd st201 zr201 (by first | ((repeat constructor); done) | exact .same _) (by repeat (first | exact BD.nil | (apply BD.cons; (· rfl); (· constructor); (· rfl); (· rfl); (· exact Nat.le_of_ble_eq_true (by rfl)); (· exact (by first | ((repeat constructor); done) | exact .same _)))))) rfl ?_
    refine aqs rfl (q_fn (by first | ((repeat constructor); done) | exact .same _) (by first | ((repeat constructor); done) | exact .same _)) rfl ?_
    refine aqs rfl (q_as (by constructor)) rfl ?_
    refine alist_nil ?_
    show AWP _ _ _ _
    refine awp_seq ?_
    refine awp_region ?_
    refine aqs rfl (q_mv (by constructor)) rfl ?_
    first | (refine aes rfl (e_callC cb167 (up167_c u7 4 _ _ c.misses _ _ (by repeat (first | exact .here | assumption | (apply HAt.left; assumption) | apply HAt.there | apply HAt.right)) (by decide) rfl hm1 rfl (by repeat (first | exact .here | apply HSet.there))) rfl rfl) rfl ?_; rintro _ _ rfl) | (refine aes rfl (e_callC cb167 (up167_c u7 5 _ _ c.clashes _ _ (by repeat (first | exact .here | assumption | (apply HAt.left; assumption) | apply HAt.there | apply HAt.right)) (by decide) rfl hm3 rfl (by repeat (first | exact .here | apply HSet.there))) rfl rfl) rfl ?_; rintro _ _ rfl) | (refine aes rfl (e_callC cb167 (up167_c u7 3 _ _ c.hits _ _ (by repeat (first | exact .here | assumption | (apply HAt.left; assumption) | apply HAt.there | apply HAt.right)) (by decide) rfl hm2 rfl (by repeat (first | exact .here | apply HSet.there))) rfl rfl) rfl ?_; rintro _ _ rfl)
    refine alist_nil ?_
    show AWP _ _ _ _
    first | (have _ := (he : ¬ e = 0); refine awp_weak ⟨[(6, .lit (.string ⟨#[]⟩)), (7, .ptr u7 0 0), (8, .lit (.int .i64 10))], 75, [(u7, .arr 136 7 [[.lit (.int .i64 c.width), .lit (.int .i64 c.room), .sl u 0 c.parts.length, .lit (.int .i64 c.hits), .lit (.int .i64 (countUp c.misses)), .lit (.int .i64 c.clashes), .lit (.int .i64 c.evicted)]]), (u, .arr 38 1 (c.parts.map partCells))]⟩ (.mk' ⟨by rfl, by rfl, by rfl, trivial⟩ (by (repeat (first | exact List.Sublist.refl _ | exact List.nil_sublist _ | exact List.sublist_append_left _ _ | (apply List.Sublist.cons_cons) | (apply List.Sublist.cons))); done)) ?_; refine awp_pub (u := u) (H2 := [(u7, .arr 136 7 [(⟨c.width, c.room, c.parts, c.hits, countUp c.misses, c.clashes, c.evicted⟩ : Cach).cells])]) (.there .here) PubT.same (.cons (.arr (pub_cach ⟨c.width, c.room, c.parts, c.hits, countUp c.misses, c.clashes, c.evicted⟩ _ rfl rfl)) (.drop .same)) ?_) | (refine awp_weak ⟨[(6, .lit (.string ⟨#[]⟩)), (7, .ptr u7 0 0), (8, .lit (.int .i64 10))], 75, [(u7, .arr 136 7 [[.lit (.int .i64 c.width), .lit (.int .i64 c.room), .sl u 0 c.parts.length, .lit (.int .i64 c.hits), .lit (.int .i64 c.misses), .lit (.int .i64 (countUp c.clashes)), .lit (.int .i64 c.evicted)]]), (u, .arr 38 1 (c.parts.map partCells))]⟩ (.mk' ⟨by rfl, by rfl, by rfl, trivial⟩ (by (repeat (first | exact List.Sublist.refl _ | exact List.nil_sublist _ | exact List.sublist_append_left _ _ | (apply List.Sublist.cons_cons) | (apply List.Sublist.cons))); done)) ?_; refine awp_pub (u := u) (H2 := [(u7, .arr 136 7 [(⟨c.width, c.room, c.parts, c.hits, c.misses, countUp c.clashes, c.evicted⟩ : Cach).cells])]) (.there .here) PubT.same (.cons (.arr (pub_cach ⟨c.width, c.room, c.parts, c.hits, c.misses, countUp c.clashes, c.evicted⟩ _ rfl rfl)) (.drop .same)) ?_) | (refine awp_weak ⟨[(6, .lit (.string s.val)), (7, .ptr u7 0 0), (8, .lit (.int .i64 0))], 75, [(u7, .arr 136 7 [[.lit (.int .i64 c.width), .lit (.int .i64 c.room), .sl u 0 c.parts.length, .lit (.int .i64 (countUp c.hits)), .lit (.int .i64 c.misses), .lit (.int .i64 c.clashes), .lit (.int .i64 c.evicted)]]), (u, .arr 38 1 ((c.parts.set at_ l2).map partCells))]⟩ (.mk' ⟨by rfl, by rfl, by rfl, trivial⟩ (by (repeat (first | exact List.Sublist.refl _ | exact List.nil_sublist _ | exact List.sublist_append_left _ _ | (apply List.Sublist.cons_cons) | (apply List.Sublist.cons))); done)) ?_; refine awp_pub (u := u) (H2 := [(u7, .arr 136 7 [(⟨c.width, c.room, c.parts.set at_ l2, countUp c.hits, c.misses, c.clashes, c.evicted⟩ : Cach).cells])]) (.there .here) PubT.same (.cons (.arr (pub_cach ⟨c.width, c.room, c.parts.set at_ l2, countUp c.hits, c.misses, c.clashes, c.evicted⟩ _ (List.length_set ..).symm rfl)) (.drop .same)) ?_)
    show AWP _ _ _ _
    refine awp_seq ?_
    refine awp_draw 5 [(0, false), (2, false), (3, false), (1, true), (4, true)] [] ([_]) mixed (by kernel_rfl) (.refl _) ?_
    refine glq rfl (.inl ⟨rfl, q_mv (by constructor)⟩) rfl ?_
    refine glq rfl (.inl ⟨rfl, q_mv (by constructor)⟩) rfl ?_
    refine glq rfl (.inl ⟨rfl, q_as (by constructor)⟩) rfl ?_
    (refine gla rfl rfl (EOp.frame (q_ldpW ag136 sz136 rfl (by repeat (first | exact .here | assumption | (apply HAt.left; assumption) | apply HAt.there | apply HAt.right)) rfl rfl (by decide))) rfl ?_; rintro _ _ ⟨rfl, rfl⟩)
    first | (refine gla rfl rfl (EOp.frame (e_stW sz136 rfl (by repeat (first | exact .here | assumption | (apply HAt.left; assumption) | apply HAt.there | apply HAt.right)) (by constructor) (by first | rfl | assumption | (simp [*]; done) | fail) rfl (by repeat (first | exact .here | apply HSet.there)))) rfl ?_; rintro _ _ ⟨rfl, rfl⟩) | (refine gla rfl rfl (EOp.frame (e_stP sz136 rfl (by repeat (first | exact .here | assumption | (apply HAt.left; assumption) | apply HAt.there | apply HAt.right)) (by first | rfl | assumption | (simp [*]; done) | fail) (by constructor) (by first | rfl | assumption | (simp [*]; done) | fail) rfl (by first | decide | omega) (by first | ((repeat constructor); done) | exact .same _) (by first | exact .one | exact .set) (by repeat (first | exact .here | apply HSet.there)))) rfl ?_; rintro _ _ ⟨rfl, rfl⟩)
    refine gldA ?_
    refine aqs rfl (q_as (by constructor)) rfl ?_
    refine alist_nil ?_
    show AWP _ _ _ _
    refine awp_ret ?_
    repeat first | with_reducible refine then_ret ?_ | with_reducible refine blk_ret ?_ | with_reducible refine nogo_ret ?_
    apply retq (.inr rfl) (.cons (rok_t rfl) (.cons (rok_A ag136 sz136 rfl (by repeat (first | exact .here | assumption | (apply HAt.left; assumption) | apply HAt.there | apply HAt.right)) (by rfl)) (.cons (rok_t rfl) .nil)))
    rotate_left
    ·exact ⟨rfl, rfl⟩
    repeat (first | exact List.Sublist.refl _ | exact List.nil_sublist _ | exact List.sublist_append_left _ _ | apply List.Sublist.cons)
   ·have he : e = 0 := by simpa using hc1
    refine awp_mid [(56, .lit (.bool (!(s.left.toList == l.toList) || !(s.right.toList == r.toList)))), (1, .lit (.string l)), (2, .lit (.string r)), (3, .ptr u3 0 0), (6, .lit (.string ⟨#[]⟩)), (7, .ptr u7 0 0), (8, .lit (.int .i64 10)), (10, .lit (.int .i64 (at_ : Nat))), (11, .ptr u11 0 0), (12, .ro (l2.map Slot.cells)), (14, .clo (.func 167) [.agg [.ptr u7 0 3]] [])] ?_ ?_
    ·skip
     refine awp_region ?_
     all_goals (first | refine aqs rfl (q_fapP fl40_1 (by decide) rfl rfl) rfl ?_ | refine aqs rfl (q_faP fl40_1 (by decide) rfl (by first | ((repeat constructor); done) | exact .same _)) rfl ?_)
     all_goals (first | refine aqs rfl (q_ldpN ag9 rfl (by repeat (first | exact .here | assumption | (apply HAt.left; assumption) | apply HAt.there | apply HAt.right)) (by first | rfl | assumption | (simp [*]; done) | fail) (by first | rfl | assumption | (simp [*]; done) | fail) (by constructor)) rfl ?_ | refine aqs rfl (q_ld1N ag9 rfl (by constructor)) rfl ?_)
     all_goals (refine aqs rfl (q_mv (by constructor)) rfl ?_)
     all_goals (refine aqs rfl (q_sneq rfl rfl) rfl ?_)
     all_goals (refine aqs rfl (q_mv (by constructor)) rfl ?_)
     all_goals try (refine acase (fun hb4 => ?_) (fun hb4 => ?_))
     all_goals first | (exfalso; cases hb4; done) | skip
     all_goals (first | refine ans rfl rfl ?_ | refine aqs rfl (q_fapP fl40_2 (by decide) rfl rfl) rfl ?_ | refine aqs rfl (q_faP fl40_2 (by decide) rfl (by first | ((repeat constructor); done) | exact .same _)) rfl ?_)
     all_goals (first | refine ans rfl rfl ?_ | refine aqs rfl (q_ldpN ag9 rfl (by repeat (first | exact .here | assumption | (apply HAt.left; assumption) | apply HAt.there | apply HAt.right)) (by first | rfl | assumption | (simp [*]; done) | fail) (by first | rfl | assumption | (simp [*]; done) | fail) (by constructor)) rfl ?_ | refine aqs rfl (q_ld1N ag9 rfl (by constructor)) rfl ?_)
     all_goals (first | refine ans rfl rfl ?_ | refine aqs rfl (q_mv (by constructor)) rfl ?_)
     all_goals (first | refine ans rfl rfl ?_ | refine aqs rfl (q_sneq rfl rfl) rfl ?_)
     all_goals (first | refine aqs rfl (q_pickT rfl (by constructor)) rfl ?_ | refine aqs rfl (q_pickF rfl (by constructor)) rfl ?_)
     all_goals (refine aqs rfl (q_as (by constructor)) rfl ?_)
     all_goals (refine alist_nil ?_)
     all_goals (exact ⟨rfl, .mk' (by repeat (first | exact trivial | refine ⟨rfl, ?_⟩ | (refine ⟨?_, ?_⟩; (· first | (rw [hb4]; rfl) | fail)))) (by repeat (first | exact .refl _ | exact List.nil_sublist _ | exact List.sublist_append_left _ _ | apply List.Sublist.cons))⟩)
    refine awp_cond rfl (fun hc2 => ?_) (fun hc2 => ?_)
    ·have hc2 : (!(s.left.toList == l.toList) || !(s.right.toList == r.toList)) = true := hc2
     rw [str_eq, str_eq, not_nand, Bool.not_eq_true', Bool.and_eq_false_iff, decide_eq_false_iff_not, decide_eq_false_iff_not] at hc2
     have hm : ¬ (s.left = l ∧ s.right = r) := fun h => by
      rcases hc2 with h2 | h2
      ·exact h2 h.1
      ·exact h2 h.2
     rw [getC_clash hb hg2 he hm]
     refine awp_region ?_
     first | refine aqs rfl (q_fapP fl136_5 (by decide) rfl rfl) rfl ?_ | refine aqs rfl (q_faP fl136_5 (by decide) rfl (by first | ((repeat constructor); done) | exact .same _)) rfl ?_
     refine aqs rfl (q_bd st201 zr201 (by first | ((repeat constructor); done) | exact .same _) (by repeat (first | exact BD.nil | (apply BD.cons; (· rfl); (· constructor); (· rfl); (· rfl); (· exact Nat.le_of_ble_eq_true (by rfl)); (· exact (by first | ((repeat constructor); done) | exact .same _)))))) rfl ?_
     refine aqs rfl (q_fn (by first | ((repeat constructor); done) | exact .same _) (by first | ((repeat constructor); done) | exact .same _)) rfl ?_
     refine aqs rfl (q_as (by constructor)) rfl ?_
     refine alist_nil ?_
     show AWP _ _ _ _
     refine awp_seq ?_
     refine awp_region ?_
     refine aqs rfl (q_mv (by constructor)) rfl ?_
     first | (refine aes rfl (e_callC cb167 (up167_c u7 4 _ _ c.misses _ _ (by repeat (first | exact .here | assumption | (apply HAt.left; assumption) | apply HAt.there | apply HAt.right)) (by decide) rfl hm1 rfl (by repeat (first | exact .here | apply HSet.there))) rfl rfl) rfl ?_; rintro _ _ rfl) | (refine aes rfl (e_callC cb167 (up167_c u7 5 _ _ c.clashes _ _ (by repeat (first | exact .here | assumption | (apply HAt.left; assumption) | apply HAt.there | apply HAt.right)) (by decide) rfl hm3 rfl (by repeat (first | exact .here | apply HSet.there))) rfl rfl) rfl ?_; rintro _ _ rfl) | (refine aes rfl (e_callC cb167 (up167_c u7 3 _ _ c.hits _ _ (by repeat (first | exact .here | assumption | (apply HAt.left; assumption) | apply HAt.there | apply HAt.right)) (by decide) rfl hm2 rfl (by repeat (first | exact .here | apply HSet.there))) rfl rfl) rfl ?_; rintro _ _ rfl)
     refine alist_nil ?_
     show AWP _ _ _ _
     first | (have _ := (he : ¬ e = 0); refine awp_weak ⟨[(6, .lit (.string ⟨#[]⟩)), (7, .ptr u7 0 0), (8, .lit (.int .i64 10))], 75, [(u7, .arr 136 7 [[.lit (.int .i64 c.width), .lit (.int .i64 c.room), .sl u 0 c.parts.length, .lit (.int .i64 c.hits), .lit (.int .i64 (countUp c.misses)), .lit (.int .i64 c.clashes), .lit (.int .i64 c.evicted)]]), (u, .arr 38 1 (c.parts.map partCells))]⟩ (.mk' ⟨by rfl, by rfl, by rfl, trivial⟩ (by (repeat (first | exact List.Sublist.refl _ | exact List.nil_sublist _ | exact List.sublist_append_left _ _ | (apply List.Sublist.cons_cons) | (apply List.Sublist.cons))); done)) ?_; refine awp_pub (u := u) (H2 := [(u7, .arr 136 7 [(⟨c.width, c.room, c.parts, c.hits, countUp c.misses, c.clashes, c.evicted⟩ : Cach).cells])]) (.there .here) PubT.same (.cons (.arr (pub_cach ⟨c.width, c.room, c.parts, c.hits, countUp c.misses, c.clashes, c.evicted⟩ _ rfl rfl)) (.drop .same)) ?_) | (refine awp_weak ⟨[(6, .lit (.string ⟨#[]⟩)), (7, .ptr u7 0 0), (8, .lit (.int .i64 10))], 75, [(u7, .arr 136 7 [[.lit (.int .i64 c.width), .lit (.int .i64 c.room), .sl u 0 c.parts.length, .lit (.int .i64 c.hits), .lit (.int .i64 c.misses), .lit (.int .i64 (countUp c.clashes)), .lit (.int .i64 c.evicted)]]), (u, .arr 38 1 (c.parts.map partCells))]⟩ (.mk' ⟨by rfl, by rfl, by rfl, trivial⟩ (by (repeat (first | exact List.Sublist.refl _ | exact List.nil_sublist _ | exact List.sublist_append_left _ _ | (apply List.Sublist.cons_cons) | (apply List.Sublist.cons))); done)) ?_; refine awp_pub (u := u) (H2 := [(u7, .arr 136 7 [(⟨c.width, c.room, c.parts, c.hits, c.misses, countUp c.clashes, c.evicted⟩ : Cach).cells])]) (.there .here) PubT.same (.cons (.arr (pub_cach ⟨c.width, c.room, c.parts, c.hits, c.misses, countUp c.clashes, c.evicted⟩ _ rfl rfl)) (.drop .same)) ?_) | (refine awp_weak ⟨[(6, .lit (.string s.val)), (7, .ptr u7 0 0), (8, .lit (.int .i64 0))], 75, [(u7, .arr 136 7 [[.lit (.int .i64 c.width), .lit (.int .i64 c.room), .sl u 0 c.parts.length, .lit (.int .i64 (countUp c.hits)), .lit (.int .i64 c.misses), .lit (.int .i64 c.clashes), .lit (.int .i64 c.evicted)]]), (u, .arr 38 1 ((c.parts.set at_ l2).map partCells))]⟩ (.mk' ⟨by rfl, by rfl, by rfl, trivial⟩ (by (repeat (first | exact List.Sublist.refl _ | exact List.nil_sublist _ | exact List.sublist_append_left _ _ | (apply List.Sublist.cons_cons) | (apply List.Sublist.cons))); done)) ?_; refine awp_pub (u := u) (H2 := [(u7, .arr 136 7 [(⟨c.width, c.room, c.parts.set at_ l2, countUp c.hits, c.misses, c.clashes, c.evicted⟩ : Cach).cells])]) (.there .here) PubT.same (.cons (.arr (pub_cach ⟨c.width, c.room, c.parts.set at_ l2, countUp c.hits, c.misses, c.clashes, c.evicted⟩ _ (List.length_set ..).symm rfl)) (.drop .same)) ?_)
     show AWP _ _ _ _
     refine awp_seq ?_
     refine awp_draw 5 [(0, false), (2, false), (3, false), (1, true), (4, true)] [] ([_]) mixed (by kernel_rfl) (.refl _) ?_
     refine glq rfl (.inl ⟨rfl, q_mv (by constructor)⟩) rfl ?_
     refine glq rfl (.inl ⟨rfl, q_mv (by constructor)⟩) rfl ?_
     refine glq rfl (.inl ⟨rfl, q_as (by constructor)⟩) rfl ?_
     (refine gla rfl rfl (EOp.frame (q_ldpW ag136 sz136 rfl (by repeat (first | exact .here | assumption | (apply HAt.left; assumption) | apply HAt.there | apply HAt.right)) rfl rfl (by decide))) rfl ?_; rintro _ _ ⟨rfl, rfl⟩)
     first | (refine gla rfl rfl (EOp.frame (e_stW sz136 rfl (by repeat (first | exact .here | assumption | (apply HAt.left; assumption) | apply HAt.there | apply HAt.right)) (by constructor) (by first | rfl | assumption | (simp [*]; done) | fail) rfl (by repeat (first | exact .here | apply HSet.there)))) rfl ?_; rintro _ _ ⟨rfl, rfl⟩) | (refine gla rfl rfl (EOp.frame (e_stP sz136 rfl (by repeat (first | exact .here | assumption | (apply HAt.left; assumption) | apply HAt.there | apply HAt.right)) (by first | rfl | assumption | (simp [*]; done) | fail) (by constructor) (by first | rfl | assumption | (simp [*]; done) | fail) rfl (by first | decide | omega) (by first | ((repeat constructor); done) | exact .same _) (by first | exact .one | exact .set) (by repeat (first | exact .here | apply HSet.there)))) rfl ?_; rintro _ _ ⟨rfl, rfl⟩)
     refine gldA ?_
     refine aqs rfl (q_as (by constructor)) rfl ?_
     refine alist_nil ?_
     show AWP _ _ _ _
     refine awp_ret ?_
     repeat first | with_reducible refine then_ret ?_ | with_reducible refine blk_ret ?_ | with_reducible refine nogo_ret ?_
     apply retq (.inr rfl) (.cons (rok_t rfl) (.cons (rok_A ag136 sz136 rfl (by repeat (first | exact .here | assumption | (apply HAt.left; assumption) | apply HAt.there | apply HAt.right)) (by rfl)) (.cons (rok_t rfl) .nil)))
     rotate_left
     ·exact ⟨rfl, rfl⟩
     repeat (first | exact List.Sublist.refl _ | exact List.nil_sublist _ | exact List.sublist_append_left _ _ | apply List.Sublist.cons)
    ·have hc2 : (!(s.left.toList == l.toList) || !(s.right.toList == r.toList)) = false := hc2
     rw [str_eq, str_eq, not_nand, Bool.not_eq_false', Bool.and_eq_true, decide_eq_true_eq, decide_eq_true_eq] at hc2
     rw [getC_hit hb hg2 he hc2, ← hat]
     refine awp_draw 8 [(0, false), (1, false), (2, false), (3, false), (4, false), (5, false), (6, false), (7, false)] _ ([]) mixed (by kernel_rfl) (perm0 _) ?_
     first | refine glq rfl (.inl ⟨rfl, q_fapP fl136_2 (by decide) rfl rfl⟩) rfl ?_ | refine glq rfl (.inl ⟨rfl, q_faP fl136_2 (by decide) rfl (by first | ((repeat constructor); done) | exact .same _)⟩) rfl ?_
     first | refine glq rfl (.inl ⟨rfl, q_ldpN ag42 rfl (by repeat (first | exact .here | assumption | (apply HAt.left; assumption) | apply HAt.there | apply HAt.right)) (by first | rfl | assumption | (simp [*]; done) | fail) (by first | rfl | assumption | (simp [*]; done) | fail) (by constructor)⟩) rfl ?_ | refine glq rfl (.inl ⟨rfl, q_ld1N ag42 rfl (by constructor)⟩) rfl ?_
     refine glq rfl (.inl ⟨rfl, q_mv (by constructor)⟩) rfl ?_
     first | refine glq rfl (.inl ⟨rfl, q_fapP fl40_3 (by decide) rfl rfl⟩) rfl ?_ | refine glq rfl (.inl ⟨rfl, q_faP fl40_3 (by decide) rfl (by first | ((repeat constructor); done) | exact .same _)⟩) rfl ?_
     first | refine glq rfl (.inl ⟨rfl, q_ldpN ag9 rfl (by repeat (first | exact .here | assumption | (apply HAt.left; assumption) | apply HAt.there | apply HAt.right)) (by first | rfl | assumption | (simp [*]; done) | fail) (by first | rfl | assumption | (simp [*]; done) | fail) (by constructor)⟩) rfl ?_ | refine glq rfl (.inl ⟨rfl, q_ld1N ag9 rfl (by constructor)⟩) rfl ?_
     refine glq rfl (.inl ⟨rfl, q_mv (by constructor)⟩) rfl ?_
     refine glq rfl (.inl ⟨rfl, q_as (by constructor)⟩) rfl ?_
     first | refine glq rfl (.inl ⟨rfl, q_iaN Try.underlying42 sz38 (.inl rfl) rfl (by omega) (by first | rfl | assumption | (simp [*]; done) | fail) (by first | rfl | assumption | (simp [*]; done) | fail) (by decide) (by first | ((repeat constructor); done) | exact .same _)⟩) rfl ?_ | refine glq rfl (.inl ⟨rfl, q_iaS Try.underlying42 sz38 rfl (by repeat (first | exact .here | assumption | (apply HAt.left; assumption) | apply HAt.there | apply HAt.right)) rfl (by omega) (by omega) (by first | exact Nat.zero_add _ | rfl)⟩) rfl ?_ | refine glq rfl (.inl ⟨rfl, q_iaN Try.underlying42 sz38 (.inr rfl) rfl (by omega) (by first | rfl | assumption | (simp [*]; done) | fail) (by first | rfl | assumption | (simp [*]; done) | fail) (by decide) (by first | ((repeat constructor); done) | exact .same _)⟩) rfl ?_
     (first | refine gld0 ?_ | refine gldA ?_)
     first | (refine aen rfl (e_stW sz38 rfl (by repeat (first | exact .here | assumption | (apply HAt.left; assumption) | apply HAt.there | apply HAt.right)) (by constructor) (by first | rfl | assumption | (simp [*]; done) | fail) rfl (by repeat (first | exact .here | apply HSet.there))) ?_; rintro _ _ ⟨rfl, rfl⟩) | (refine aen rfl (e_stP sz38 rfl (by repeat (first | exact .here | assumption | (apply HAt.left; assumption) | apply HAt.there | apply HAt.right)) (by first | rfl | assumption | (simp [*]; done) | fail) (by constructor) (by first | rfl | assumption | (simp [*]; done) | fail) rfl (by first | decide | omega) (by first | ((repeat constructor); done) | exact .same _) (by first | exact .one | exact .set) (by repeat (first | exact .here | apply HSet.there))) ?_; rintro _ _ ⟨rfl, rfl⟩)
     refine aqs rfl (q_as (by constructor)) rfl ?_
     refine alist_nil ?_
     show AWP _ _ _ _
     rw [show ((at_ : Int).toNat) = at_ from rfl, map_setC]
     show AWP _ _ _ _
     refine awp_seq ?_
     refine awp_region ?_
     refine aqs rfl (q_mv (by constructor)) rfl ?_
     first | (refine aes rfl (e_callC cb167 (up167_c u7 4 _ _ c.misses _ _ (by repeat (first | exact .here | assumption | (apply HAt.left; assumption) | apply HAt.there | apply HAt.right)) (by decide) rfl hm1 rfl (by repeat (first | exact .here | apply HSet.there))) rfl rfl) rfl ?_; rintro _ _ rfl) | (refine aes rfl (e_callC cb167 (up167_c u7 5 _ _ c.clashes _ _ (by repeat (first | exact .here | assumption | (apply HAt.left; assumption) | apply HAt.there | apply HAt.right)) (by decide) rfl hm3 rfl (by repeat (first | exact .here | apply HSet.there))) rfl rfl) rfl ?_; rintro _ _ rfl) | (refine aes rfl (e_callC cb167 (up167_c u7 3 _ _ c.hits _ _ (by repeat (first | exact .here | assumption | (apply HAt.left; assumption) | apply HAt.there | apply HAt.right)) (by decide) rfl hm2 rfl (by repeat (first | exact .here | apply HSet.there))) rfl rfl) rfl ?_; rintro _ _ rfl)
     refine alist_nil ?_
     show AWP _ _ _ _
     first | (have _ := (he : ¬ e = 0); refine awp_weak ⟨[(6, .lit (.string ⟨#[]⟩)), (7, .ptr u7 0 0), (8, .lit (.int .i64 10))], 75, [(u7, .arr 136 7 [[.lit (.int .i64 c.width), .lit (.int .i64 c.room), .sl u 0 c.parts.length, .lit (.int .i64 c.hits), .lit (.int .i64 (countUp c.misses)), .lit (.int .i64 c.clashes), .lit (.int .i64 c.evicted)]]), (u, .arr 38 1 (c.parts.map partCells))]⟩ (.mk' ⟨by rfl, by rfl, by rfl, trivial⟩ (by (repeat (first | exact List.Sublist.refl _ | exact List.nil_sublist _ | exact List.sublist_append_left _ _ | (apply List.Sublist.cons_cons) | (apply List.Sublist.cons))); done)) ?_; refine awp_pub (u := u) (H2 := [(u7, .arr 136 7 [(⟨c.width, c.room, c.parts, c.hits, countUp c.misses, c.clashes, c.evicted⟩ : Cach).cells])]) (.there .here) PubT.same (.cons (.arr (pub_cach ⟨c.width, c.room, c.parts, c.hits, countUp c.misses, c.clashes, c.evicted⟩ _ rfl rfl)) (.drop .same)) ?_) | (refine awp_weak ⟨[(6, .lit (.string ⟨#[]⟩)), (7, .ptr u7 0 0), (8, .lit (.int .i64 10))], 75, [(u7, .arr 136 7 [[.lit (.int .i64 c.width), .lit (.int .i64 c.room), .sl u 0 c.parts.length, .lit (.int .i64 c.hits), .lit (.int .i64 c.misses), .lit (.int .i64 (countUp c.clashes)), .lit (.int .i64 c.evicted)]]), (u, .arr 38 1 (c.parts.map partCells))]⟩ (.mk' ⟨by rfl, by rfl, by rfl, trivial⟩ (by (repeat (first | exact List.Sublist.refl _ | exact List.nil_sublist _ | exact List.sublist_append_left _ _ | (apply List.Sublist.cons_cons) | (apply List.Sublist.cons))); done)) ?_; refine awp_pub (u := u) (H2 := [(u7, .arr 136 7 [(⟨c.width, c.room, c.parts, c.hits, c.misses, countUp c.clashes, c.evicted⟩ : Cach).cells])]) (.there .here) PubT.same (.cons (.arr (pub_cach ⟨c.width, c.room, c.parts, c.hits, c.misses, countUp c.clashes, c.evicted⟩ _ rfl rfl)) (.drop .same)) ?_) | (refine awp_weak ⟨[(6, .lit (.string s.val)), (7, .ptr u7 0 0), (8, .lit (.int .i64 0))], 75, [(u7, .arr 136 7 [[.lit (.int .i64 c.width), .lit (.int .i64 c.room), .sl u 0 c.parts.length, .lit (.int .i64 (countUp c.hits)), .lit (.int .i64 c.misses), .lit (.int .i64 c.clashes), .lit (.int .i64 c.evicted)]]), (u, .arr 38 1 ((c.parts.set at_ l2).map partCells))]⟩ (.mk' ⟨by rfl, by rfl, by rfl, trivial⟩ (by (repeat (first | exact List.Sublist.refl _ | exact List.nil_sublist _ | exact List.sublist_append_left _ _ | (apply List.Sublist.cons_cons) | (apply List.Sublist.cons))); done)) ?_; refine awp_pub (u := u) (H2 := [(u7, .arr 136 7 [(⟨c.width, c.room, c.parts.set at_ l2, countUp c.hits, c.misses, c.clashes, c.evicted⟩ : Cach).cells])]) (.there .here) PubT.same (.cons (.arr (pub_cach ⟨c.width, c.room, c.parts.set at_ l2, countUp c.hits, c.misses, c.clashes, c.evicted⟩ _ (List.length_set ..).symm rfl)) (.drop .same)) ?_)
     show AWP _ _ _ _
     refine awp_seq ?_
     refine awp_draw 5 [(0, false), (2, false), (3, false), (1, true), (4, true)] [] ([_]) mixed (by kernel_rfl) (.refl _) ?_
     refine glq rfl (.inl ⟨rfl, q_mv (by constructor)⟩) rfl ?_
     refine glq rfl (.inl ⟨rfl, q_mv (by constructor)⟩) rfl ?_
     refine glq rfl (.inl ⟨rfl, q_as (by constructor)⟩) rfl ?_
     (refine gla rfl rfl (EOp.frame (q_ldpW ag136 sz136 rfl (by repeat (first | exact .here | assumption | (apply HAt.left; assumption) | apply HAt.there | apply HAt.right)) rfl rfl (by decide))) rfl ?_; rintro _ _ ⟨rfl, rfl⟩)
     first | (refine gla rfl rfl (EOp.frame (e_stW sz136 rfl (by repeat (first | exact .here | assumption | (apply HAt.left; assumption) | apply HAt.there | apply HAt.right)) (by constructor) (by first | rfl | assumption | (simp [*]; done) | fail) rfl (by repeat (first | exact .here | apply HSet.there)))) rfl ?_; rintro _ _ ⟨rfl, rfl⟩) | (refine gla rfl rfl (EOp.frame (e_stP sz136 rfl (by repeat (first | exact .here | assumption | (apply HAt.left; assumption) | apply HAt.there | apply HAt.right)) (by first | rfl | assumption | (simp [*]; done) | fail) (by constructor) (by first | rfl | assumption | (simp [*]; done) | fail) rfl (by first | decide | omega) (by first | ((repeat constructor); done) | exact .same _) (by first | exact .one | exact .set) (by repeat (first | exact .here | apply HSet.there)))) rfl ?_; rintro _ _ ⟨rfl, rfl⟩)
     refine gldA ?_
     refine aqs rfl (q_as (by constructor)) rfl ?_
     refine alist_nil ?_
     show AWP _ _ _ _
     refine awp_ret ?_
     repeat first | with_reducible refine then_ret ?_ | with_reducible refine blk_ret ?_ | with_reducible refine nogo_ret ?_
     apply retq (.inr rfl) (.cons (rok_t rfl) (.cons (rok_A ag136 sz136 rfl (by repeat (first | exact .here | assumption | (apply HAt.left; assumption) | apply HAt.there | apply HAt.right)) (by rfl)) (.cons (rok_t rfl) .nil)))
     rotate_left
     ·exact ⟨rfl, rfl⟩
     repeat (first | exact List.Sublist.refl _ | exact List.nil_sublist _ | exact List.sublist_append_left _ _ | apply List.Sublist.cons)
end Go.Proofs.YtdlinfekifnmkaaAm
