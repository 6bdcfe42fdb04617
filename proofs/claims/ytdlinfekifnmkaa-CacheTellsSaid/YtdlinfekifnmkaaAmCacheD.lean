/- Contracts of the layer 'cache', fourth part: the reference's Get and Put. Conditions: the lengths. -/
import Derived.Test.YtdlinfekifnmkaaAmCacheC
set_option linter.unusedVariables false
set_option linter.unusedSimpArgs false
set_option maxRecDepth 20000
namespace Go.Proofs.YtdlinfekifnmkaaAm
open Go.Proofs
def getCA (g : ByteArray × Cach × Int) : AV := .tup [.lit (.string g.1), .agg g.2.1.cells, .lit (.int .i64 g.2.2)]
theorem getC_bad {c : Cach} {l r : ByteArray} (h : cRight c = false) : getC c l r = (⟨#[]⟩, zeroC, 1) := by rw [getC, if_pos h]
theorem putC_bad {c : Cach} {l r v : ByteArray} (h : cRight c = false) : putC c l r v = (zeroC, 1) := by rw [putC, if_pos h]
section
variable {c : Cach} {l r : ByteArray} {s : Slot} {l2 : List Slot} {e : Int}
theorem getC_miss (h : cRight c = true) (hg : getS (pt c (atOfC c l r)) (keyOf c l r) = (s, l2, e)) (he : ¬ e = 0) : getC c l r = (⟨#[]⟩, ⟨c.width, c.room, c.parts, c.hits, countUp c.misses, c.clashes, c.evicted⟩, 10) := by
  rw [getC, if_neg (by rw [h]; simp), hg, if_pos he]
theorem getC_clash (h : cRight c = true) (hg : getS (pt c (atOfC c l r)) (keyOf c l r) = (s, l2, e)) (he : e = 0) (hm : ¬ (s.left = l ∧ s.right = r)) : getC c l r = (⟨#[]⟩, ⟨c.width, c.room, c.parts, c.hits, c.misses, countUp c.clashes, c.evicted⟩, 10) := by
  rw [getC, if_neg (by rw [h]; simp), hg, if_neg (by simpa using he), if_pos hm]
theorem getC_hit (h : cRight c = true) (hg : getS (pt c (atOfC c l r)) (keyOf c l r) = (s, l2, e)) (he : e = 0) (hm : s.left = l ∧ s.right = r) : getC c l r = (s.val, ⟨c.width, c.room, c.parts.set (atOfC c l r) l2, countUp c.hits, c.misses, c.clashes, c.evicted⟩, 0) := by
  rw [getC, if_neg (by rw [h]; simp), hg, if_neg (by simpa using he), if_neg (by simpa using hm)]
theorem putC_ok {v : ByteArray} {A o : List Slot} (h : cRight c = true) (hp : putP c l r v = (A, o, e)) : putC c l r v = (⟨c.width, c.room, c.parts.set (atOfC c l r) A, c.hits, c.misses, c.clashes, min (c.evicted + o.length) maxCount⟩, 0) := by
  rw [putC, if_neg (by rw [h]; simp), hp]
end
theorem both_range (l r : ByteArray) (w : Int) : 0 ≤ (bothS l r w).sum ∧ (bothS l r w).sum ≤ 18446744073709551615 := by
  have h0 := Int.emod_nonneg (37 * sum l 64 + sum r 64) (show (18446744073709551616 : Int) ≠ 0 by omega)
  have h1 := Int.emod_lt_of_pos (37 * sum l 64 + sum r 64) (show (0 : Int) < 18446744073709551616 by omega)
  exact cut_range _ _ h0 (by omega)
theorem getS_len2 {l : List Slot} {k : Key} (h : (getS l k).2.2 = 0) (hr : rightB l = true) : (getS l k).2.1.length = l.length := (keys_get hr h).2.1
theorem not_nand {a b : Bool} : (!a || !b) = !(a && b) := by cases a <;> cases b <;> rfl
set_option maxHeartbeats 4000000 in
theorem get117_c (c : Cach) (hl : CLen c) (l r : ByteArray) (hsz : l.size + r.size ≤ 1000000000) (H : Heap) : QCall Try.prog 117 [.agg c.cells, .lit (.string l), .lit (.string r)] H (getCA (getC c l r)) := by
  refine QCall.any H ?_
  have hn := hl.n
  have hkr := both_range l r c.width
  have hk0 : 0 ≤ (keyOf c l r).sum ∧ (keyOf c l r).sum ≤ 18446744073709551615 := hkr
  obtain ⟨at_, hat⟩ : ∃ at_, at_ = atOfC c l r := ⟨_, rfl⟩
  refine acall_intro (n := 79) (rvs := [.tmp 6, .cell 7 136, .tmp 8]) Try.func117 rfl rfl rfl (Nat.le_of_ble_eq_true rfl) ?_
  refine awp_seq ?_
  refine awp_region ?_
  (refine aes rfl (e_bx (by constructor) rfl rfl) rfl ?_; rintro _ _ ⟨u3, rfl, rfl⟩)
  refine aqs rfl (q_as (by constructor)) rfl ?_
  (refine aes rfl (e_al (xs := [.lit (.int .i64 0), .lit (.int .i64 0), .lit (.slice none 0 0), .lit (.int .i64 0), .lit (.int .i64 0), .lit (.int .i64 0), .lit (.int .i64 0)]) (k := 7) zr136 (.same _) rfl) rfl ?_; rintro _ _ ⟨u7, rfl, rfl⟩)
  refine aqs rfl (q_as (by constructor)) rfl ?_
  refine alist_nil ?_
  show AWP _ _ _ _
  refine awp_seq ?_
  refine awp_region ?_
  first | refine aqs rfl (q_ldpW ag136 sz136 rfl (by repeat (first | exact .here | assumption | (apply HAt.left; assumption) | apply HAt.there | apply HAt.right)) (by first | rfl | assumption | (simp [*]; done) | fail) (by first | rfl | assumption | (simp [*]; done) | fail) (by decide)) rfl ?_ | refine aqs rfl (q_ldW ag136 sz136 rfl (by first | rfl | assumption | (simp [*]; done) | fail)) rfl ?_ | refine aqs rfl (q_ldpP ag136 sz136 rfl (by repeat (first | exact .here | assumption | (apply HAt.left; assumption) | apply HAt.there | apply HAt.right)) (by first | rfl | assumption | (simp [*]; done) | fail) (by first | decide | (simp; done) | omega | fail) (by decide) (by first | ((repeat constructor); done) | exact .same _)) rfl ?_ | refine aqs rfl (q_ldP ag136 sz136 rfl (by first | decide | (simp; done) | omega | fail) (by first | ((repeat constructor); done) | exact .same _)) rfl ?_
  first | refine aqs rfl (e_callN cb113 (right113_c c hl _) rfl rfl) rfl ?_ | refine aqs rfl (e_callN cb113 (ACall.arg (right113_c c hl _) (by repeat (first | exact ArgL.nil | (apply ArgL.cons; (· first | exact .same | exact .cro | exact .nil))))) rfl rfl) rfl ?_
  refine aqs rfl (q_as (by constructor)) rfl ?_
  refine alist_nil ?_
  show AWP _ _ _ _
  refine awp_seq ?_
  refine awp_seq ?_
  refine awp_region ?_
  refine aqs rfl (q_mv (by constructor)) rfl ?_
  refine aqs rfl (q_not rfl) rfl ?_
  refine alist_nil ?_
  show AWP _ _ _ _
  refine awp_cond rfl (fun hc0 => ?_) (fun hc0 => ?_)
  ·have hb : cRight c = false := by simpa using hc0
   rw [getC_bad hb]
   refine awp_seq ?_
   refine awp_region ?_
   refine aqs rfl (q_bd st136 zr136 (by first | ((repeat constructor); done) | exact .same _) (by repeat (first | exact BD.nil | (apply BD.cons; (· rfl); (· constructor); (· rfl); (· rfl); (· exact Nat.le_of_ble_eq_true (by rfl)); (· exact (by first | ((repeat constructor); done) | exact .same _)))))) rfl ?_
   refine aqs rfl (q_as (by constructor)) rfl ?_
   first | (refine aen rfl (e_stW sz136 rfl (by repeat (first | exact .here | assumption | (apply HAt.left; assumption) | apply HAt.there | apply HAt.right)) (by constructor) (by first | rfl | assumption | (simp [*]; done) | fail) rfl (by repeat (first | exact .here | apply HSet.there))) ?_; rintro _ _ ⟨rfl, rfl⟩) | (refine aen rfl (e_stP sz136 rfl (by repeat (first | exact .here | assumption | (apply HAt.left; assumption) | apply HAt.there | apply HAt.right)) (by first | rfl | assumption | (simp [*]; done) | fail) (by constructor) (by first | rfl | assumption | (simp [*]; done) | fail) rfl (by first | decide | omega) (by first | ((repeat constructor); done) | exact .same _) (by first | exact .one | exact .set) (by repeat (first | exact .here | apply HSet.there))) ?_; rintro _ _ ⟨rfl, rfl⟩)
   refine aqs rfl (q_as (by constructor)) rfl ?_
   refine alist_nil ?_
   show AWP _ _ _ _
   refine awp_nil (by repeat (first | exact NilT.nil | (apply NilT.cons; (· first | exact .one .nil | exact .agg (by repeat (first | exact NilL.nil | (apply NilL.cons; (· first | exact .nil | exact .same)) | exact NilL.same)) | exact .one .same)) | exact NilT.same)) (by repeat (first | exact NilH.nil | (apply NilH.cons; (· first | exact .arr (by repeat (first | exact NilE.nil | (apply NilE.cons; (· exact (by repeat (first | exact NilL.nil | (apply NilL.cons; (· first | exact .nil | exact .same)) | exact NilL.same)))) | exact NilE.same)) | exact .same)) | exact NilH.same)) ?_
   show AWP _ _ _ _
   refine awp_ret ?_
   repeat first | with_reducible refine then_ret ?_ | with_reducible refine blk_ret ?_ | with_reducible refine nogo_ret ?_
   apply retq (.inr rfl) (.cons (rok_t rfl) (.cons (rok_A ag136 sz136 rfl (by repeat (first | exact .here | assumption | (apply HAt.left; assumption) | apply HAt.there | apply HAt.right)) (by rfl)) (.cons (rok_t rfl) .nil)))
   rotate_left
   ·exact ⟨rfl, rfl⟩
   repeat (first | exact List.Sublist.refl _ | exact List.nil_sublist _ | exact List.sublist_append_left _ _ | apply List.Sublist.cons)
  ·have hb : cRight c = true := by simpa using hc0
   have hC := cright_iff.1 hb
   have hnp := hC.n1
   have hal := at_lt hC l r
   rw [← hat] at hal
   have hs2 := pt_row hal.1
   have hpl := hl.l at_
   obtain ⟨s, l2, e, hg⟩ : ∃ s l2 e, getS (pt c at_) (keyOf c l r) = (s, l2, e) := ⟨_, _, _, rfl⟩
   have hg2 : getS (pt c (atOfC c l r)) (keyOf c l r) = (s, l2, e) := hat ▸ hg
   have hm1 : 0 ≤ c.misses ∧ c.misses ≤ 1099511627776 := hC.misses
   have hm2 : 0 ≤ c.hits ∧ c.hits ≤ 1099511627776 := hC.hits
   have hm3 : 0 ≤ c.clashes ∧ c.clashes ≤ 1099511627776 := hC.clashes
   refine awp_skip ?_
   show AWP _ _ _ _
   refine awp_seq ?_
   refine awp_region ?_
   first | refine aqs rfl (q_ldpW ag136 sz136 rfl (by repeat (first | exact .here | assumption | (apply HAt.left; assumption) | apply HAt.there | apply HAt.right)) (by first | rfl | assumption | (simp [*]; done) | fail) (by first | rfl | assumption | (simp [*]; done) | fail) (by decide)) rfl ?_ | refine aqs rfl (q_ldW ag136 sz136 rfl (by first | rfl | assumption | (simp [*]; done) | fail)) rfl ?_ | refine aqs rfl (q_ldpP ag136 sz136 rfl (by repeat (first | exact .here | assumption | (apply HAt.left; assumption) | apply HAt.there | apply HAt.right)) (by first | rfl | assumption | (simp [*]; done) | fail) (by first | decide | (simp; done) | omega | fail) (by decide) (by first | ((repeat constructor); done) | exact .same _)) rfl ?_ | refine aqs rfl (q_ldP ag136 sz136 rfl (by first | decide | (simp; done) | omega | fail) (by first | ((repeat constructor); done) | exact .same _)) rfl ?_
   (refine aes rfl (e_al (xs := [.lit (.int .i64 0), .lit (.int .i64 0), .lit (.slice none 0 0), .lit (.int .i64 0), .lit (.int .i64 0), .lit (.int .i64 0), .lit (.int .i64 0)]) (k := 7) zr136 (.same _) rfl) rfl ?_; rintro _ _ ⟨u10, rfl, rfl⟩)
   first | (refine aen rfl (e_stW sz136 rfl (by repeat (first | exact .here | assumption | (apply HAt.left; assumption) | apply HAt.there | apply HAt.right)) (by constructor) (by first | rfl | assumption | (simp [*]; done) | fail) rfl (by repeat (first | exact .here | apply HSet.there))) ?_; rintro _ _ ⟨rfl, rfl⟩) | (refine aen rfl (e_stP sz136 rfl (by repeat (first | exact .here | assumption | (apply HAt.left; assumption) | apply HAt.there | apply HAt.right)) (by first | rfl | assumption | (simp [*]; done) | fail) (by constructor) (by first | rfl | assumption | (simp [*]; done) | fail) rfl (by first | decide | omega) (by first | ((repeat constructor); done) | exact .same _) (by first | exact .one | exact .set) (by repeat (first | exact .here | apply HSet.there))) ?_; rintro _ _ ⟨rfl, rfl⟩)
   refine alist_nil ?_
   show AWP _ _ _ _
   refine awp_seq ?_
   refine awp_region ?_
   refine aqs rfl (q_mv (by constructor)) rfl ?_
   refine aqs rfl (q_mv (by constructor)) rfl ?_
   first | refine aqs rfl (q_fapP fl136_0 (by decide) rfl rfl) rfl ?_ | refine aqs rfl (q_faP fl136_0 (by decide) rfl (by first | ((repeat constructor); done) | exact .same _)) rfl ?_
   first | refine aqs rfl (q_ldpN ag3 rfl (by repeat (first | exact .here | assumption | (apply HAt.left; assumption) | apply HAt.there | apply HAt.right)) (by first | rfl | assumption | (simp [*]; done) | fail) (by first | rfl | assumption | (simp [*]; done) | fail) (by constructor)) rfl ?_ | refine aqs rfl (q_ld1N ag3 rfl (by constructor)) rfl ?_
   first | refine aqs rfl (e_callN cb46 (both46_c c.width l r (by omega) _) rfl rfl) rfl ?_ | refine aqs rfl (e_callN cb46 (ACall.arg (both46_c c.width l r (by omega) _) (by repeat (first | exact ArgL.nil | (apply ArgL.cons; (· first | exact .same | exact .cro | exact .nil))))) rfl rfl) rfl ?_
   (refine aes rfl (e_al (xs := [.lit (.int .u64 0), .lit (.int .i64 0)]) (k := 2) zr29 (.same _) rfl) rfl ?_; rintro _ _ ⟨u11, rfl, rfl⟩)
   first | (refine aen rfl (e_stW sz29 rfl (by repeat (first | exact .here | assumption | (apply HAt.left; assumption) | apply HAt.there | apply HAt.right)) (by constructor) (by first | rfl | assumption | (simp [*]; done) | fail) rfl (by repeat (first | exact .here | apply HSet.there))) ?_; rintro _ _ ⟨rfl, rfl⟩) | (refine aen rfl (e_stP sz29 rfl (by repeat (first | exact .here | assumption | (apply HAt.left; assumption) | apply HAt.there | apply HAt.right)) (by first | rfl | assumption | (simp [*]; done) | fail) (by constructor) (by first | rfl | assumption | (simp [*]; done) | fail) rfl (by first | decide | omega) (by first | ((repeat constructor); done) | exact .same _) (by first | exact .one | exact .set) (by repeat (first | exact .here | apply HSet.there))) ?_; rintro _ _ ⟨rfl, rfl⟩)
   refine alist_nil ?_
   show AWP _ _ _ _
   refine awp_seq ?_
   refine awp_draw 16 [(0, false), (1, false), (2, false), (3, false), (4, false), (5, false), (6, false), (7, false), (8, false), (9, false), (10, false), (11, false), (12, false), (13, true), (14, true), (15, false)] _ ([]) mixed (by kernel_rfl) (perm0 _) ?_
   first | refine glq rfl (.inl ⟨rfl, q_fapP fl136_2 (by decide) rfl rfl⟩) rfl ?_ | refine glq rfl (.inl ⟨rfl, q_faP fl136_2 (by decide) rfl (by first | ((repeat constructor); done) | exact .same _)⟩) rfl ?_
   first | refine glq rfl (.inl ⟨rfl, q_ldpN ag42 rfl (by repeat (first | exact .here | assumption | (apply HAt.left; assumption) | apply HAt.there | apply HAt.right)) (by first | rfl | assumption | (simp [*]; done) | fail) (by first | rfl | assumption | (simp [*]; done) | fail) (by constructor)⟩) rfl ?_ | refine glq rfl (.inl ⟨rfl, q_ld1N ag42 rfl (by constructor)⟩) rfl ?_
   first | refine glq rfl (.inl ⟨rfl, q_ldpW ag136 sz136 rfl (by repeat (first | exact .here | assumption | (apply HAt.left; assumption) | apply HAt.there | apply HAt.right)) (by first | rfl | assumption | (simp [*]; done) | fail) (by first | rfl | assumption | (simp [*]; done) | fail) (by decide)⟩) rfl ?_ | refine glq rfl (.inl ⟨rfl, q_ldW ag136 sz136 rfl (by first | rfl | assumption | (simp [*]; done) | fail)⟩) rfl ?_ | refine glq rfl (.inl ⟨rfl, q_ldpP ag136 sz136 rfl (by repeat (first | exact .here | assumption | (apply HAt.left; assumption) | apply HAt.there | apply HAt.right)) (by first | rfl | assumption | (simp [*]; done) | fail) (by first | decide | (simp; done) | omega | fail) (by decide) (by first | ((repeat constructor); done) | exact .same _)⟩) rfl ?_ | refine glq rfl (.inl ⟨rfl, q_ldP ag136 sz136 rfl (by first | decide | (simp; done) | omega | fail) (by first | ((repeat constructor); done) | exact .same _)⟩) rfl ?_
   first | refine glq rfl (.inl ⟨rfl, q_ldpW ag29 sz29 rfl (by repeat (first | exact .here | assumption | (apply HAt.left; assumption) | apply HAt.there | apply HAt.right)) (by first | rfl | assumption | (simp [*]; done) | fail) (by first | rfl | assumption | (simp [*]; done) | fail) (by decide)⟩) rfl ?_ | refine glq rfl (.inl ⟨rfl, q_ldW ag29 sz29 rfl (by first | rfl | assumption | (simp [*]; done) | fail)⟩) rfl ?_ | refine glq rfl (.inl ⟨rfl, q_ldpP ag29 sz29 rfl (by repeat (first | exact .here | assumption | (apply HAt.left; assumption) | apply HAt.there | apply HAt.right)) (by first | rfl | assumption | (simp [*]; done) | fail) (by first | decide | (simp; done) | omega | fail) (by decide) (by first | ((repeat constructor); done) | exact .same _)⟩) rfl ?_ | refine glq rfl (.inl ⟨rfl, q_ldP ag29 sz29 rfl (by first | decide | (simp; done) | omega | fail) (by first | ((repeat constructor); done) | exact .same _)⟩) rfl ?_
   first | refine glq rfl (.inl ⟨rfl, castQ (r2 := .lit (.int .i64 (at_ : Nat))) (e_callN cb165 (part165_c c hnp hn (keyOf c l r) hk0 _) rfl rfl) (by rw [hal.2])⟩) rfl ?_ | refine glq rfl (.inl ⟨rfl, castQ (r2 := .lit (.int .i64 (at_ : Nat))) (e_callN cb165 (ACall.arg (part165_c c hnp hn (keyOf c l r) hk0 _) (by repeat (first | exact ArgL.nil | (apply ArgL.cons; (· first | exact .same | exact .cro | exact .nil))))) rfl rfl) (by rw [hal.2])⟩) rfl ?_
   first | refine glq rfl (.inl ⟨rfl, q_iaN Try.underlying42 sz38 (.inl rfl) rfl (by omega) (by first | rfl | assumption | (simp [*]; done) | fail) (by first | rfl | assumption | (simp [*]; done) | fail) (by decide) (by first | ((repeat constructor); done) | exact .same _)⟩) rfl ?_ | refine glq rfl (.inl ⟨rfl, q_iaS Try.underlying42 sz38 rfl (by repeat (first | exact .here | assumption | (apply HAt.left; assumption) | apply HAt.there | apply HAt.right)) rfl (by omega) (by omega) (by first | exact Nat.zero_add _ | rfl)⟩) rfl ?_ | refine glq rfl (.inl ⟨rfl, q_iaN Try.underlying42 sz38 (.inr rfl) rfl (by omega) (by first | rfl | assumption | (simp [*]; done) | fail) (by first | rfl | assumption | (simp [*]; done) | fail) (by decide) (by first | ((repeat constructor); done) | exact .same _)⟩) rfl ?_
   first | refine glq rfl (.inl ⟨rfl, q_ldpN ag38 rfl (by repeat (first | exact .here | assumption | (apply HAt.left; assumption) | apply HAt.there | apply HAt.right)) (by first | rfl | assumption | (simp [*]; done) | fail) (by first | rfl | assumption | (simp [*]; done) | fail) (by constructor)⟩) rfl ?_ | refine glq rfl (.inl ⟨rfl, q_ld1N ag38 rfl (by constructor)⟩) rfl ?_
   first | refine glq rfl (.inl ⟨rfl, q_ldpW ag29 sz29 rfl (by repeat (first | exact .here | assumption | (apply HAt.left; assumption) | apply HAt.there | apply HAt.right)) (by first | rfl | assumption | (simp [*]; done) | fail) (by first | rfl | assumption | (simp [*]; done) | fail) (by decide)⟩) rfl ?_ | refine glq rfl (.inl ⟨rfl, q_ldW ag29 sz29 rfl (by first | rfl | assumption | (simp [*]; done) | fail)⟩) rfl ?_ | refine glq rfl (.inl ⟨rfl, q_ldpP ag29 sz29 rfl (by repeat (first | exact .here | assumption | (apply HAt.left; assumption) | apply HAt.there | apply HAt.right)) (by first | rfl | assumption | (simp [*]; done) | fail) (by first | decide | (simp; done) | omega | fail) (by decide) (by first | ((repeat constructor); done) | exact .same _)⟩) rfl ?_ | refine glq rfl (.inl ⟨rfl, q_ldP ag29 sz29 rfl (by first | decide | (simp; done) | omega | fail) (by first | ((repeat constructor); done) | exact .same _)⟩) rfl ?_
   first | refine glq rfl (.inl ⟨rfl, e_callN cb55 (hg ▸ get55_c (pt c at_) (by omega) (keyOf c l r) _) rfl rfl⟩) rfl ?_ | refine glq rfl (.inl ⟨rfl, e_callN cb55 (ACall.arg (hg ▸ get55_c (pt c at_) (by omega) (keyOf c l r) _) (by repeat (first | exact ArgL.nil | (apply ArgL.cons; (· first | exact .same | exact .cro | exact .nil))))) rfl rfl⟩) rfl ?_
   refine glq rfl (.inl ⟨rfl, q_mv (by constructor)⟩) rfl ?_
   refine glq rfl (.inl ⟨rfl, q_ex rfl rfl (by constructor)⟩) rfl ?_
   refine glq rfl (.inl ⟨rfl, q_ex rfl rfl (by constructor)⟩) rfl ?_
   refine glq rfl (.inl ⟨rfl, q_ex rfl rfl (by constructor)⟩) rfl ?_
   (refine gla rfl rfl (EOp.frame (e_al (xs := [.lit (.int .u64 0), .lit (.int .i64 0), .lit (.string ⟨#[]⟩), .lit (.string ⟨#[]⟩), .lit (.string ⟨#[]⟩)]) (k := 5) zr40 (.same _) rfl)) rfl ?_; rintro _ _ ⟨u12, rfl, rfl⟩)
   first | (refine gla rfl rfl (EOp.frame (e_stW sz40 rfl (by repeat (first | exact .here | assumption | (apply HAt.left; assumption) | apply HAt.there | apply HAt.right)) (by constructor) (by first | rfl | assumption | (simp [*]; done) | fail) rfl (by repeat (first | exact .here | apply HSet.there)))) rfl ?_; rintro _ _ ⟨rfl, rfl⟩) | (refine gla rfl rfl (EOp.frame (e_stP sz40 rfl (by repeat (first | exact .here | assumption | (apply HAt.left; assumption) | apply HAt.there | apply HAt.right)) (by first | rfl | assumption | (simp [*]; done) | fail) (by constructor) (by first | rfl | assumption | (simp [*]; done) | fail) rfl (by first | decide | omega) (by first | ((repeat constructor); done) | exact .same _) (by first | exact .one | exact .set) (by repeat (first | exact .here | apply HSet.there)))) rfl ?_; rintro _ _ ⟨rfl, rfl⟩)
   refine glq rfl (.inl ⟨rfl, q_as (by constructor)⟩) rfl ?_
   refine gldA ?_
   refine aqs rfl (q_as (by constructor)) rfl ?_
   refine alist_nil ?_
   show AWP _ _ _ _
   refine awp_seq ?_
   refine awp_seq ?_
   refine awp_region ?_
   refine aqs rfl (q_mv (by constructor)) rfl ?_
   refine aqs rfl (q_neq rfl rfl) rfl ?_
   refine alist_nil ?_
   show AWP _ _ _ _
   refine awp_cond rfl (fun hc1 => ?_) (fun hc1 => ?_)
   ·have he : ¬ e = 0 := by simpa using hc1
    rw [getC_miss hb hg2 he]
    refine awp_seq ?_
    refine awp_region ?_
    first | refine aqs rfl (q_fapP fl136_4 (by decide) rfl rfl) rfl ?_ | refine aqs rfl (q_faP fl136_4 (by decide) rfl (by first | ((repeat constructor); done) | exact .same _)) rfl ?_
    first | refine aqs rfl (q_ldpN ag3 rfl (by repeat (first | exact .here | assumption | (apply HAt.left; assumption) | apply HAt.there | apply HAt.right)) (by first | rfl | assumption | (simp [*]; done) | fail) (by first | rfl | assumption | (simp [*]; done) | fail) (by constructor)) rfl ?_ | refine aqs rfl (q_ld1N ag3 rfl (by constructor)) rfl ?_
    first | refine aqs rfl (q_add64 rfl rfl (by omega) (by omega)) rfl ?_ | refine aqs rfl (q_add rfl rfl) rfl ?_
    refine aqs rfl (castQ (r2 := .lit (.int .i64 (countUp c.misses))) (q_min rfl rfl) (by rfl)) rfl ?_
    first | refine aqs rfl (q_fapP fl136_4 (by decide) rfl rfl) rfl ?_ | refine aqs rfl (q_faP fl136_4 (by decide) rfl (by first | ((repeat constructor); done) | exact .same _)) rfl ?_
    first | (refine aen rfl (e_stW sz3 rfl (by repeat (first | exact .here | assumption | (apply HAt.left; assumption) | apply HAt.there | apply HAt.right)) (by constructor) (by first | rfl | assumption | (simp [*]; done) | fail) rfl (by repeat (first | exact .here | apply HSet.there))) ?_; rintro _ _ ⟨rfl, rfl⟩) | (refine aen rfl (e_stP sz3 rfl (by repeat (first | exact .here | assumption | (apply HAt.left; assumption) | apply HAt.there | apply HAt.right)) (by first | rfl | assumption | (simp [*]; done) | fail) (by constructor) (by first | rfl | assumption | (simp [*]; done) | fail) rfl (by first | decide | omega) (by first | ((repeat constructor); done) | exact .same _) (by first | exact .one | exact .set) (by repeat (first | exact .here | apply HSet.there))) ?_; rintro _ _ ⟨rfl, rfl⟩)
    refine alist_nil ?_
    show AWP _ _ _ _
    refine awp_seq ?_
    refine awp_draw 2 [(0, false), (1, false)] _ ([]) mixed (by kernel_rfl) (perm0 _) ?_
    first | refine glq rfl (.inl ⟨rfl, q_ldpW ag136 sz136 rfl (by repeat (first | exact .here | assumption | (apply HAt.left; assumption) | apply HAt.there | apply HAt.right)) (by first | rfl | assumption | (simp [*]; done) | fail) (by first | rfl | assumption | (simp [*]; done) | fail) (by decide)⟩) rfl ?_ | refine glq rfl (.inl ⟨rfl, q_ldW ag136 sz136 rfl (by first | rfl | assumption | (simp [*]; done) | fail)⟩) rfl ?_ | refine glq rfl (.inl ⟨rfl, q_ldpP ag136 sz136 rfl (by repeat (first | exact .here | assumption | (apply HAt.left; assumption) | apply HAt.there | apply HAt.right)) (by first | rfl | assumption | (simp [*]; done) | fail) (by first | decide | (simp; done) | omega | fail) (by decide) (by first | ((repeat constructor); done) | exact .same _)⟩) rfl ?_ | refine glq rfl (.inl ⟨rfl, q_ldP ag136 sz136 rfl (by first | decide | (simp; done) | omega | fail) (by first | ((repeat constructor); done) | exact .same _)⟩) rfl ?_
    refine glq rfl (.inl ⟨rfl, q_as (by constructor)⟩) rfl ?_
    (first | refine gld0 ?_ | refine gldA ?_)
    first | (refine aen rfl (e_stW sz136 rfl (by repeat (first | exact .here | assumption | (apply HAt.left; assumption) | apply HAt.there | apply HAt.right)) (by constructor) (by first | rfl | assumption | (simp [*]; done) | fail) rfl (by repeat (first | exact .here | apply HSet.there))) ?_; rintro _ _ ⟨rfl, rfl⟩) | (refine aen rfl (e_stP sz136 rfl (by repeat (first | exact .here | assumption | (apply HAt.left; assumption) | apply HAt.there | apply HAt.right)) (by first | rfl | assumption | (simp [*]; done) | fail) (by constructor) (by first | rfl | assumption | (simp [*]; done) | fail) rfl (by first | decide | omega) (by first | ((repeat constructor); done) | exact .same _) (by first | exact .one | exact .set) (by repeat (first | exact .here | apply HSet.there))) ?_; rintro _ _ ⟨rfl, rfl⟩)
    refine aqs rfl (q_as (by constructor)) rfl ?_
    refine alist_nil ?_
    show AWP _ _ _ _
    refine awp_ret ?_
    repeat first | with_reducible refine then_ret ?_ | with_reducible refine blk_ret ?_ | with_reducible refine nogo_ret ?_
    apply retq (.inr rfl) (.cons (rok_t rfl) (.cons (rok_A ag136 sz136 rfl (by repeat (first | exact .here | assumption | (apply HAt.left; assumption) | apply HAt.there | apply HAt.right)) (by rfl)) (.cons (rok_t rfl) .nil)))
    rotate_left
    ·exact ⟨rfl, rfl⟩
    repeat (first | exact List.Sublist.refl _ | exact List.nil_sublist _ | exact List.sublist_append_left _ _ | apply List.Sublist.cons)
   ·have he : e = 0 := by simpa using hc1
    refine awp_skip ?_
    show AWP _ _ _ _
    refine awp_seq ?_
    refine awp_mid [(56, .lit (.bool (!(s.left.toList == l.toList) || !(s.right.toList == r.toList)))), (1, .lit (.string l)), (2, .lit (.string r)), (3, .ptr u3 0 0), (7, .ptr u7 0 0), (10, .ptr u10 0 0), (11, .ptr u11 0 0), (12, .ptr u12 0 0), (13, .ro (l2.map Slot.cells))] ?_ ?_
    ·skip
     refine awp_region ?_
     all_goals (first | refine aqs rfl (q_fapP fl40_1 (by decide) rfl rfl) rfl ?_ | refine aqs rfl (q_faP fl40_1 (by decide) rfl (by first | ((repeat constructor); done) | exact .same _)) rfl ?_)
     all_goals (first | refine aqs rfl (q_ldpN ag9 rfl (by repeat (first | exact .here | assumption | (apply HAt.left; assumption) | apply HAt.there | apply HAt.right)) (by first | rfl | assumption | (simp [*]; done) | fail) (by first | rfl | assumption | (simp [*]; done) | fail) (by constructor)) rfl ?_ | refine aqs rfl (q_ld1N ag9 rfl (by constructor)) rfl ?_)
     all_goals (refine aqs rfl (q_mv (by constructor)) rfl ?_)
     all_goals (refine aqs rfl (q_sneq rfl rfl) rfl ?_)
     all_goals (refine aqs rfl (q_mv (by constructor)) rfl ?_)
     all_goals try (refine acase (fun hb4 => ?_) (fun hb4 => ?_))
     all_goals first | (exfalso; cases hb4; done) | skip
     all_goals (first | refine ans rfl rfl ?_ | refine aqs rfl (q_fapP fl40_2 (by decide) rfl rfl) rfl ?_ | refine aqs rfl (q_faP fl40_2 (by decide) rfl (by first | ((repeat constructor); done) | exact .same _)) rfl ?_)
     all_goals (first | refine ans rfl rfl ?_ | refine aqs rfl (q_ldpN ag9 rfl (by repeat (first | exact .here | assumption | (apply HAt.left; assumption) | apply HAt.there | apply HAt.right)) (by first | rfl | assumption | (simp [*]; done) | fail) (by first | rfl | assumption | (simp [*]; done) | fail) (by constructor)) rfl ?_ | refine aqs rfl (q_ld1N ag9 rfl (by constructor)) rfl ?_)
     all_goals (first | refine ans rfl rfl ?_ | refine aqs rfl (q_mv (by constructor)) rfl ?_)
     all_goals (first | refine ans rfl rfl ?_ | refine aqs rfl (q_sneq rfl rfl) rfl ?_)
     all_goals (first | refine aqs rfl (q_pickT rfl (by constructor)) rfl ?_ | refine aqs rfl (q_pickF rfl (by constructor)) rfl ?_)
     all_goals (refine alist_nil ?_)
     all_goals (exact ⟨rfl, .mk' (by repeat (first | exact trivial | refine ⟨rfl, ?_⟩ | (refine ⟨?_, ?_⟩; (· first | (rw [hb4]; rfl) | fail)))) (by repeat (first | exact .refl _ | exact List.nil_sublist _ | exact List.sublist_append_left _ _ | apply List.Sublist.cons))⟩)
    refine awp_cond rfl (fun hc2 => ?_) (fun hc2 => ?_)
    ·have hc2 : (!(s.left.toList == l.toList) || !(s.right.toList == r.toList)) = true := hc2
     rw [str_eq, str_eq, not_nand, Bool.not_eq_true', Bool.and_eq_false_iff, decide_eq_false_iff_not, decide_eq_false_iff_not] at hc2
     have hm : ¬ (s.left = l ∧ s.right = r) := fun h => by
      rcases hc2 with h2 | h2
      ·exact h2 h.1
      ·exact h2 h.2
     rw [getC_clash hb hg2 he hm]
     refine awp_seq ?_
     refine awp_region ?_
     first | refine aqs rfl (q_fapP fl136_5 (by decide) rfl rfl) rfl ?_ | refine aqs rfl (q_faP fl136_5 (by decide) rfl (by first | ((repeat constructor); done) | exact .same _)) rfl ?_
     first | refine aqs rfl (q_ldpN ag3 rfl (by repeat (first | exact .here | assumption | (apply HAt.left; assumption) | apply HAt.there | apply HAt.right)) (by first | rfl | assumption | (simp [*]; done) | fail) (by first | rfl | assumption | (simp [*]; done) | fail) (by constructor)) rfl ?_ | refine aqs rfl (q_ld1N ag3 rfl (by constructor)) rfl ?_
     first | refine aqs rfl (q_add64 rfl rfl (by omega) (by omega)) rfl ?_ | refine aqs rfl (q_add rfl rfl) rfl ?_
     refine aqs rfl (castQ (r2 := .lit (.int .i64 (countUp c.clashes))) (q_min rfl rfl) (by rfl)) rfl ?_
     first | refine aqs rfl (q_fapP fl136_5 (by decide) rfl rfl) rfl ?_ | refine aqs rfl (q_faP fl136_5 (by decide) rfl (by first | ((repeat constructor); done) | exact .same _)) rfl ?_
     first | (refine aen rfl (e_stW sz3 rfl (by repeat (first | exact .here | assumption | (apply HAt.left; assumption) | apply HAt.there | apply HAt.right)) (by constructor) (by first | rfl | assumption | (simp [*]; done) | fail) rfl (by repeat (first | exact .here | apply HSet.there))) ?_; rintro _ _ ⟨rfl, rfl⟩) | (refine aen rfl (e_stP sz3 rfl (by repeat (first | exact .here | assumption | (apply HAt.left; assumption) | apply HAt.there | apply HAt.right)) (by first | rfl | assumption | (simp [*]; done) | fail) (by constructor) (by first | rfl | assumption | (simp [*]; done) | fail) rfl (by first | decide | omega) (by first | ((repeat constructor); done) | exact .same _) (by first | exact .one | exact .set) (by repeat (first | exact .here | apply HSet.there))) ?_; rintro _ _ ⟨rfl, rfl⟩)
     refine alist_nil ?_
     show AWP _ _ _ _
     refine awp_seq ?_
     refine awp_draw 2 [(0, false), (1, false)] _ ([]) mixed (by kernel_rfl) (perm0 _) ?_
     first | refine glq rfl (.inl ⟨rfl, q_ldpW ag136 sz136 rfl (by repeat (first | exact .here | assumption | (apply HAt.left; assumption) | apply HAt.there | apply HAt.right)) (by first | rfl | assumption | (simp [*]; done) | fail) (by first | rfl | assumption | (simp [*]; done) | fail) (by decide)⟩) rfl ?_ | refine glq rfl (.inl ⟨rfl, q_ldW ag136 sz136 rfl (by first | rfl | assumption | (simp [*]; done) | fail)⟩) rfl ?_ | refine glq rfl (.inl ⟨rfl, q_ldpP ag136 sz136 rfl (by repeat (first | exact .here | assumption | (apply HAt.left; assumption) | apply HAt.there | apply HAt.right)) (by first | rfl | assumption | (simp [*]; done) | fail) (by first | decide | (simp; done) | omega | fail) (by decide) (by first | ((repeat constructor); done) | exact .same _)⟩) rfl ?_ | refine glq rfl (.inl ⟨rfl, q_ldP ag136 sz136 rfl (by first | decide | (simp; done) | omega | fail) (by first | ((repeat constructor); done) | exact .same _)⟩) rfl ?_
     refine glq rfl (.inl ⟨rfl, q_as (by constructor)⟩) rfl ?_
     (first | refine gld0 ?_ | refine gldA ?_)
     first | (refine aen rfl (e_stW sz136 rfl (by repeat (first | exact .here | assumption | (apply HAt.left; assumption) | apply HAt.there | apply HAt.right)) (by constructor) (by first | rfl | assumption | (simp [*]; done) | fail) rfl (by repeat (first | exact .here | apply HSet.there))) ?_; rintro _ _ ⟨rfl, rfl⟩) | (refine aen rfl (e_stP sz136 rfl (by repeat (first | exact .here | assumption | (apply HAt.left; assumption) | apply HAt.there | apply HAt.right)) (by first | rfl | assumption | (simp [*]; done) | fail) (by constructor) (by first | rfl | assumption | (simp [*]; done) | fail) rfl (by first | decide | omega) (by first | ((repeat constructor); done) | exact .same _) (by first | exact .one | exact .set) (by repeat (first | exact .here | apply HSet.there))) ?_; rintro _ _ ⟨rfl, rfl⟩)
     refine aqs rfl (q_as (by constructor)) rfl ?_
     refine alist_nil ?_
     show AWP _ _ _ _
     refine awp_ret ?_
     repeat first | with_reducible refine then_ret ?_ | with_reducible refine blk_ret ?_ | with_reducible refine nogo_ret ?_
     apply retq (.inr rfl) (.cons (rok_t rfl) (.cons (rok_A ag136 sz136 rfl (by repeat (first | exact .here | assumption | (apply HAt.left; assumption) | apply HAt.there | apply HAt.right)) (by rfl)) (.cons (rok_t rfl) .nil)))
     rotate_left
     ·exact ⟨rfl, rfl⟩
     repeat (first | exact List.Sublist.refl _ | exact List.nil_sublist _ | exact List.sublist_append_left _ _ | apply List.Sublist.cons)
    ·have hc2 : (!(s.left.toList == l.toList) || !(s.right.toList == r.toList)) = false := hc2
     rw [str_eq, str_eq, not_nand, Bool.not_eq_false', Bool.and_eq_true, decide_eq_true_eq, decide_eq_true_eq] at hc2
     rw [getC_hit hb hg2 he hc2, ← hat]
     refine awp_skip ?_
     show AWP _ _ _ _
     refine awp_seq ?_
     refine awp_draw 8 [(0, false), (1, false), (2, false), (3, false), (4, false), (5, false), (6, false), (7, false)] _ ([]) mixed (by kernel_rfl) (perm0 _) ?_
     first | refine glq rfl (.inl ⟨rfl, q_fapP fl136_2 (by decide) rfl rfl⟩) rfl ?_ | refine glq rfl (.inl ⟨rfl, q_faP fl136_2 (by decide) rfl (by first | ((repeat constructor); done) | exact .same _)⟩) rfl ?_
     first | refine glq rfl (.inl ⟨rfl, q_ldpN ag42 rfl (by repeat (first | exact .here | assumption | (apply HAt.left; assumption) | apply HAt.there | apply HAt.right)) (by first | rfl | assumption | (simp [*]; done) | fail) (by first | rfl | assumption | (simp [*]; done) | fail) (by constructor)⟩) rfl ?_ | refine glq rfl (.inl ⟨rfl, q_ld1N ag42 rfl (by constructor)⟩) rfl ?_
     first | refine glq rfl (.inl ⟨rfl, q_ldpW ag136 sz136 rfl (by repeat (first | exact .here | assumption | (apply HAt.left; assumption) | apply HAt.there | apply HAt.right)) (by first | rfl | assumption | (simp [*]; done) | fail) (by first | rfl | assumption | (simp [*]; done) | fail) (by decide)⟩) rfl ?_ | refine glq rfl (.inl ⟨rfl, q_ldW ag136 sz136 rfl (by first | rfl | assumption | (simp [*]; done) | fail)⟩) rfl ?_ | refine glq rfl (.inl ⟨rfl, q_ldpP ag136 sz136 rfl (by repeat (first | exact .here | assumption | (apply HAt.left; assumption) | apply HAt.there | apply HAt.right)) (by first | rfl | assumption | (simp [*]; done) | fail) (by first | decide | (simp; done) | omega | fail) (by decide) (by first | ((repeat constructor); done) | exact .same _)⟩) rfl ?_ | refine glq rfl (.inl ⟨rfl, q_ldP ag136 sz136 rfl (by first | decide | (simp; done) | omega | fail) (by first | ((repeat constructor); done) | exact .same _)⟩) rfl ?_
     first | refine glq rfl (.inl ⟨rfl, q_ldpW ag29 sz29 rfl (by repeat (first | exact .here | assumption | (apply HAt.left; assumption) | apply HAt.there | apply HAt.right)) (by first | rfl | assumption | (simp [*]; done) | fail) (by first | rfl | assumption | (simp [*]; done) | fail) (by decide)⟩) rfl ?_ | refine glq rfl (.inl ⟨rfl, q_ldW ag29 sz29 rfl (by first | rfl | assumption | (simp [*]; done) | fail)⟩) rfl ?_ | refine glq rfl (.inl ⟨rfl, q_ldpP ag29 sz29 rfl (by repeat (first | exact .here | assumption | (apply HAt.left; assumption) | apply HAt.there | apply HAt.right)) (by first | rfl | assumption | (simp [*]; done) | fail) (by first | decide | (simp; done) | omega | fail) (by decide) (by first | ((repeat constructor); done) | exact .same _)⟩) rfl ?_ | refine glq rfl (.inl ⟨rfl, q_ldP ag29 sz29 rfl (by first | decide | (simp; done) | omega | fail) (by first | ((repeat constructor); done) | exact .same _)⟩) rfl ?_
     first | refine glq rfl (.inl ⟨rfl, castQ (r2 := .lit (.int .i64 (at_ : Nat))) (e_callN cb165 (part165_c c hnp hn (keyOf c l r) hk0 _) rfl rfl) (by rw [hal.2])⟩) rfl ?_ | refine glq rfl (.inl ⟨rfl, castQ (r2 := .lit (.int .i64 (at_ : Nat))) (e_callN cb165 (ACall.arg (part165_c c hnp hn (keyOf c l r) hk0 _) (by repeat (first | exact ArgL.nil | (apply ArgL.cons; (· first | exact .same | exact .cro | exact .nil))))) rfl rfl) (by rw [hal.2])⟩) rfl ?_
     refine glq rfl (.inl ⟨rfl, q_mv (by constructor)⟩) rfl ?_
     first | refine glq rfl (.inl ⟨rfl, e_callN cb168 (with168_c c.parts hn at_ hal.1 l2 _) rfl rfl⟩) rfl ?_ | refine glq rfl (.inl ⟨rfl, e_callN cb168 (ACall.arg (with168_c c.parts hn at_ hal.1 l2 _) (by repeat (first | exact ArgL.nil | (apply ArgL.cons; (· first | exact .same | exact .cro | exact .nil))))) rfl rfl⟩) rfl ?_
     first | refine glq rfl (.inl ⟨rfl, q_fapP fl136_2 (by decide) rfl rfl⟩) rfl ?_ | refine glq rfl (.inl ⟨rfl, q_faP fl136_2 (by decide) rfl (by first | ((repeat constructor); done) | exact .same _)⟩) rfl ?_
     (first | refine gld0 ?_ | refine gldA ?_)
     first | (refine aen rfl (e_stW sz42 rfl (by repeat (first | exact .here | assumption | (apply HAt.left; assumption) | apply HAt.there | apply HAt.right)) (by constructor) (by first | rfl | assumption | (simp [*]; done) | fail) rfl (by repeat (first | exact .here | apply HSet.there))) ?_; rintro _ _ ⟨rfl, rfl⟩) | (refine aen rfl (e_stP sz42 rfl (by repeat (first | exact .here | assumption | (apply HAt.left; assumption) | apply HAt.there | apply HAt.right)) (by first | rfl | assumption | (simp [*]; done) | fail) (by constructor) (by first | rfl | assumption | (simp [*]; done) | fail) rfl (by first | decide | omega) (by first | ((repeat constructor); done) | exact .same _) (by first | exact .one | exact .set) (by repeat (first | exact .here | apply HSet.there))) ?_; rintro _ _ ⟨rfl, rfl⟩)
     refine alist_nil ?_
     show AWP _ _ _ _
     refine awp_seq ?_
     refine awp_region ?_
     first | refine aqs rfl (q_fapP fl136_3 (by decide) rfl rfl) rfl ?_ | refine aqs rfl (q_faP fl136_3 (by decide) rfl (by first | ((repeat constructor); done) | exact .same _)) rfl ?_
     first | refine aqs rfl (q_ldpN ag3 rfl (by repeat (first | exact .here | assumption | (apply HAt.left; assumption) | apply HAt.there | apply HAt.right)) (by first | rfl | assumption | (simp [*]; done) | fail) (by first | rfl | assumption | (simp [*]; done) | fail) (by constructor)) rfl ?_ | refine aqs rfl (q_ld1N ag3 rfl (by constructor)) rfl ?_
     first | refine aqs rfl (q_add64 rfl rfl (by omega) (by omega)) rfl ?_ | refine aqs rfl (q_add rfl rfl) rfl ?_
     refine aqs rfl (castQ (r2 := .lit (.int .i64 (countUp c.hits))) (q_min rfl rfl) (by rfl)) rfl ?_
     first | refine aqs rfl (q_fapP fl136_3 (by decide) rfl rfl) rfl ?_ | refine aqs rfl (q_faP fl136_3 (by decide) rfl (by first | ((repeat constructor); done) | exact .same _)) rfl ?_
     first | (refine aen rfl (e_stW sz3 rfl (by repeat (first | exact .here | assumption | (apply HAt.left; assumption) | apply HAt.there | apply HAt.right)) (by constructor) (by first | rfl | assumption | (simp [*]; done) | fail) rfl (by repeat (first | exact .here | apply HSet.there))) ?_; rintro _ _ ⟨rfl, rfl⟩) | (refine aen rfl (e_stP sz3 rfl (by repeat (first | exact .here | assumption | (apply HAt.left; assumption) | apply HAt.there | apply HAt.right)) (by first | rfl | assumption | (simp [*]; done) | fail) (by constructor) (by first | rfl | assumption | (simp [*]; done) | fail) rfl (by first | decide | omega) (by first | ((repeat constructor); done) | exact .same _) (by first | exact .one | exact .set) (by repeat (first | exact .here | apply HSet.there))) ?_; rintro _ _ ⟨rfl, rfl⟩)
     refine alist_nil ?_
     show AWP _ _ _ _
     refine awp_seq ?_
     refine awp_draw 4 [(0, false), (1, false), (2, false), (3, false)] _ ([]) mixed (by kernel_rfl) (perm0 _) ?_
     first | refine glq rfl (.inl ⟨rfl, q_fapP fl40_3 (by decide) rfl rfl⟩) rfl ?_ | refine glq rfl (.inl ⟨rfl, q_faP fl40_3 (by decide) rfl (by first | ((repeat constructor); done) | exact .same _)⟩) rfl ?_
     first | refine glq rfl (.inl ⟨rfl, q_ldpN ag9 rfl (by repeat (first | exact .here | assumption | (apply HAt.left; assumption) | apply HAt.there | apply HAt.right)) (by first | rfl | assumption | (simp [*]; done) | fail) (by first | rfl | assumption | (simp [*]; done) | fail) (by constructor)⟩) rfl ?_ | refine glq rfl (.inl ⟨rfl, q_ld1N ag9 rfl (by constructor)⟩) rfl ?_
     first | refine glq rfl (.inl ⟨rfl, q_ldpW ag136 sz136 rfl (by repeat (first | exact .here | assumption | (apply HAt.left; assumption) | apply HAt.there | apply HAt.right)) (by first | rfl | assumption | (simp [*]; done) | fail) (by first | rfl | assumption | (simp [*]; done) | fail) (by decide)⟩) rfl ?_ | refine glq rfl (.inl ⟨rfl, q_ldW ag136 sz136 rfl (by first | rfl | assumption | (simp [*]; done) | fail)⟩) rfl ?_ | refine glq rfl (.inl ⟨rfl, q_ldpP ag136 sz136 rfl (by repeat (first | exact .here | assumption | (apply HAt.left; assumption) | apply HAt.there | apply HAt.right)) (by first | rfl | assumption | (simp [*]; done) | fail) (by first | decide | (simp; done) | omega | fail) (by decide) (by first | ((repeat constructor); done) | exact .same _)⟩) rfl ?_ | refine glq rfl (.inl ⟨rfl, q_ldP ag136 sz136 rfl (by first | decide | (simp; done) | omega | fail) (by first | ((repeat constructor); done) | exact .same _)⟩) rfl ?_
     refine glq rfl (.inl ⟨rfl, q_as (by constructor)⟩) rfl ?_
     (first | refine gld0 ?_ | refine gldA ?_)
     first | (refine aen rfl (e_stW sz136 rfl (by repeat (first | exact .here | assumption | (apply HAt.left; assumption) | apply HAt.there | apply HAt.right)) (by constructor) (by first | rfl | assumption | (simp [*]; done) | fail) rfl (by repeat (first | exact .here | apply HSet.there))) ?_; rintro _ _ ⟨rfl, rfl⟩) | (refine aen rfl (e_stP sz136 rfl (by repeat (first | exact .here | assumption | (apply HAt.left; assumption) | apply HAt.there | apply HAt.right)) (by first | rfl | assumption | (simp [*]; done) | fail) (by constructor) (by first | rfl | assumption | (simp [*]; done) | fail) rfl (by first | decide | omega) (by first | ((repeat constructor); done) | exact .same _) (by first | exact .one | exact .set) (by repeat (first | exact .here | apply HSet.there))) ?_; rintro _ _ ⟨rfl, rfl⟩)
     refine aqs rfl (q_as (by constructor)) rfl ?_
     refine alist_nil ?_
     show AWP _ _ _ _
     refine awp_ret ?_
     repeat first | with_reducible refine then_ret ?_ | with_reducible refine blk_ret ?_ | with_reducible refine nogo_ret ?_
     apply retq (.inr rfl) (.cons (rok_t rfl) (.cons (rok_A ag136 sz136 rfl (by repeat (first | exact .here | assumption | (apply HAt.left; assumption) | apply HAt.there | apply HAt.right)) (by rfl)) (.cons (rok_t rfl) .nil)))
     rotate_left
     ·exact ⟨rfl, rfl⟩
     repeat (first | exact List.Sublist.refl _ | exact List.nil_sublist _ | exact List.sublist_append_left _ _ | apply List.Sublist.cons)
set_option maxHeartbeats 4000000 in
theorem put119_c (c : Cach) (hl : CLen c) (l r v : ByteArray) (hsz : l.size + r.size ≤ 1000000000) (H : Heap) : QCall Try.prog 119 [.agg c.cells, .lit (.string l), .lit (.string r), .lit (.string v)] H (newA (putC c l r v)) := by
  refine QCall.any H ?_
  have hn := hl.n
  have hkr := both_range l r c.width
  have hk0 : 0 ≤ (keyOf c l r).sum ∧ (keyOf c l r).sum ≤ 18446744073709551615 := hkr
  obtain ⟨at_, hat⟩ : ∃ at_, at_ = atOfC c l r := ⟨_, rfl⟩
  refine acall_intro (n := 63) (rvs := [.cell 8 136, .tmp 9]) Try.func119 rfl rfl rfl (Nat.le_of_ble_eq_true rfl) ?_
  refine awp_seq ?_
  refine awp_region ?_
  (refine aes rfl (e_bx (by constructor) rfl rfl) rfl ?_; rintro _ _ ⟨u4, rfl, rfl⟩)
  (refine aes rfl (e_al (xs := [.lit (.int .i64 0), .lit (.int .i64 0), .lit (.slice none 0 0), .lit (.int .i64 0), .lit (.int .i64 0), .lit (.int .i64 0), .lit (.int .i64 0)]) (k := 7) zr136 (.same _) rfl) rfl ?_; rintro _ _ ⟨u8, rfl, rfl⟩)
  refine aqs rfl (q_as (by constructor)) rfl ?_
  refine alist_nil ?_
  show AWP _ _ _ _
  refine awp_seq ?_
  refine awp_region ?_
  first | refine aqs rfl (q_ldpW ag136 sz136 rfl (by repeat (first | exact .here | assumption | (apply HAt.left; assumption) | apply HAt.there | apply HAt.right)) (by first | rfl | assumption | (simp [*]; done) | fail) (by first | rfl | assumption | (simp [*]; done) | fail) (by decide)) rfl ?_ | refine aqs rfl (q_ldW ag136 sz136 rfl (by first | rfl | assumption | (simp [*]; done) | fail)) rfl ?_ | refine aqs rfl (q_ldpP ag136 sz136 rfl (by repeat (first | exact .here | assumption | (apply HAt.left; assumption) | apply HAt.there | apply HAt.right)) (by first | rfl | assumption | (simp [*]; done) | fail) (by first | decide | (simp; done) | omega | fail) (by decide) (by first | ((repeat constructor); done) | exact .same _)) rfl ?_ | refine aqs rfl (q_ldP ag136 sz136 rfl (by first | decide | (simp; done) | omega | fail) (by first | ((repeat constructor); done) | exact .same _)) rfl ?_
  first | refine aqs rfl (e_callN cb113 (right113_c c hl _) rfl rfl) rfl ?_ | refine aqs rfl (e_callN cb113 (ACall.arg (right113_c c hl _) (by repeat (first | exact ArgL.nil | (apply ArgL.cons; (· first | exact .same | exact .cro | exact .nil))))) rfl rfl) rfl ?_
  refine aqs rfl (q_as (by constructor)) rfl ?_
  refine alist_nil ?_
  show AWP _ _ _ _
  refine awp_seq ?_
  refine awp_seq ?_
  refine awp_region ?_
  refine aqs rfl (q_mv (by constructor)) rfl ?_
  refine aqs rfl (q_not rfl) rfl ?_
  refine alist_nil ?_
  show AWP _ _ _ _
  refine awp_cond rfl (fun hc0 => ?_) (fun hc0 => ?_)
  ·have hb : cRight c = false := by simpa using hc0
   rw [putC_bad hb]
   refine awp_seq ?_
   refine awp_region ?_
   refine aqs rfl (q_bd st136 zr136 (by first | ((repeat constructor); done) | exact .same _) (by repeat (first | exact BD.nil | (apply BD.cons; (· rfl); (· constructor); (· rfl); (· rfl); (· exact Nat.le_of_ble_eq_true (by rfl)); (· exact (by first | ((repeat constructor); done) | exact .same _)))))) rfl ?_
   first | (refine aen rfl (e_stW sz136 rfl (by repeat (first | exact .here | assumption | (apply HAt.left; assumption) | apply HAt.there | apply HAt.right)) (by constructor) (by first | rfl | assumption | (simp [*]; done) | fail) rfl (by repeat (first | exact .here | apply HSet.there))) ?_; rintro _ _ ⟨rfl, rfl⟩) | (refine aen rfl (e_stP sz136 rfl (by repeat (first | exact .here | assumption | (apply HAt.left; assumption) | apply HAt.there | apply HAt.right)) (by first | rfl | assumption | (simp [*]; done) | fail) (by constructor) (by first | rfl | assumption | (simp [*]; done) | fail) rfl (by first | decide | omega) (by first | ((repeat constructor); done) | exact .same _) (by first | exact .one | exact .set) (by repeat (first | exact .here | apply HSet.there))) ?_; rintro _ _ ⟨rfl, rfl⟩)
   refine aqs rfl (q_as (by constructor)) rfl ?_
   refine alist_nil ?_
   show AWP _ _ _ _
   refine awp_nil (by repeat (first | exact NilT.nil | (apply NilT.cons; (· first | exact .one .nil | exact .agg (by repeat (first | exact NilL.nil | (apply NilL.cons; (· first | exact .nil | exact .same)) | exact NilL.same)) | exact .one .same)) | exact NilT.same)) (by repeat (first | exact NilH.nil | (apply NilH.cons; (· first | exact .arr (by repeat (first | exact NilE.nil | (apply NilE.cons; (· exact (by repeat (first | exact NilL.nil | (apply NilL.cons; (· first | exact .nil | exact .same)) | exact NilL.same)))) | exact NilE.same)) | exact .same)) | exact NilH.same)) ?_
   show AWP _ _ _ _
   refine awp_ret ?_
   repeat first | with_reducible refine then_ret ?_ | with_reducible refine blk_ret ?_ | with_reducible refine nogo_ret ?_
   apply retq (.inr rfl) (.cons (rok_A ag136 sz136 rfl (by repeat (first | exact .here | assumption | (apply HAt.left; assumption) | apply HAt.there | apply HAt.right)) (by rfl)) (.cons (rok_t rfl) .nil))
   rotate_left
   ·exact ⟨rfl, rfl⟩
   repeat (first | exact List.Sublist.refl _ | exact List.nil_sublist _ | exact List.sublist_append_left _ _ | apply List.Sublist.cons)
  ·have hb : cRight c = true := by simpa using hc0
   have hC := cright_iff.1 hb
   have hnp := hC.n1
   have hal := at_lt hC l r
   rw [← hat] at hal
   have hs2 := pt_row hal.1
   have hpl := hl.l at_
   obtain ⟨A, o, e, hg⟩ : ∃ A o e, putS (pt c at_) (roomOf c at_) ⟨keyOf c l r, l, r, v⟩ = (A, o, e) := ⟨_, _, _, rfl⟩
   have hg2 : putP c l r v = (A, o, e) := by rw [putP, ← hat]; exact hg
   have hol := putP_len hC l r v
   have hwl := without_len2 hC l r
   rw [hg2] at hol
   rw [← hat] at hol hwl
   simp only at hol
   have hm1 : 0 ≤ c.evicted ∧ c.evicted ≤ 1099511627776 := hC.evicted
   have hom : (List.map Slot.cells ((A, o, e) : List Slot × List Slot × Int).2.1).length = o.length := List.length_map ..
   rw [putC_ok hb hg2, ← hat]
   refine awp_skip ?_
   show AWP _ _ _ _
   refine awp_seq ?_
   refine awp_region ?_
   first | refine aqs rfl (q_ldpW ag136 sz136 rfl (by repeat (first | exact .here | assumption | (apply HAt.left; assumption) | apply HAt.there | apply HAt.right)) (by first | rfl | assumption | (simp [*]; done) | fail) (by first | rfl | assumption | (simp [*]; done) | fail) (by decide)) rfl ?_ | refine aqs rfl (q_ldW ag136 sz136 rfl (by first | rfl | assumption | (simp [*]; done) | fail)) rfl ?_ | refine aqs rfl (q_ldpP ag136 sz136 rfl (by repeat (first | exact .here | assumption | (apply HAt.left; assumption) | apply HAt.there | apply HAt.right)) (by first | rfl | assumption | (simp [*]; done) | fail) (by first | decide | (simp; done) | omega | fail) (by decide) (by first | ((repeat constructor); done) | exact .same _)) rfl ?_ | refine aqs rfl (q_ldP ag136 sz136 rfl (by first | decide | (simp; done) | omega | fail) (by first | ((repeat constructor); done) | exact .same _)) rfl ?_
   (refine aes rfl (e_al (xs := [.lit (.int .i64 0), .lit (.int .i64 0), .lit (.slice none 0 0), .lit (.int .i64 0), .lit (.int .i64 0), .lit (.int .i64 0), .lit (.int .i64 0)]) (k := 7) zr136 (.same _) rfl) rfl ?_; rintro _ _ ⟨u11, rfl, rfl⟩)
   first | (refine aen rfl (e_stW sz136 rfl (by repeat (first | exact .here | assumption | (apply HAt.left; assumption) | apply HAt.there | apply HAt.right)) (by constructor) (by first | rfl | assumption | (simp [*]; done) | fail) rfl (by repeat (first | exact .here | apply HSet.there))) ?_; rintro _ _ ⟨rfl, rfl⟩) | (refine aen rfl (e_stP sz136 rfl (by repeat (first | exact .here | assumption | (apply HAt.left; assumption) | apply HAt.there | apply HAt.right)) (by first | rfl | assumption | (simp [*]; done) | fail) (by constructor) (by first | rfl | assumption | (simp [*]; done) | fail) rfl (by first | decide | omega) (by first | ((repeat constructor); done) | exact .same _) (by first | exact .one | exact .set) (by repeat (first | exact .here | apply HSet.there))) ?_; rintro _ _ ⟨rfl, rfl⟩)
   refine alist_nil ?_
   show AWP _ _ _ _
   refine awp_seq ?_
   refine awp_region ?_
   refine aqs rfl (q_mv (by constructor)) rfl ?_
   refine aqs rfl (q_mv (by constructor)) rfl ?_
   first | refine aqs rfl (q_fapP fl136_0 (by decide) rfl rfl) rfl ?_ | refine aqs rfl (q_faP fl136_0 (by decide) rfl (by first | ((repeat constructor); done) | exact .same _)) rfl ?_
   first | refine aqs rfl (q_ldpN ag3 rfl (by repeat (first | exact .here | assumption | (apply HAt.left; assumption) | apply HAt.there | apply HAt.right)) (by first | rfl | assumption | (simp [*]; done) | fail) (by first | rfl | assumption | (simp [*]; done) | fail) (by constructor)) rfl ?_ | refine aqs rfl (q_ld1N ag3 rfl (by constructor)) rfl ?_
   first | refine aqs rfl (e_callN cb46 (both46_c c.width l r (by omega) _) rfl rfl) rfl ?_ | refine aqs rfl (e_callN cb46 (ACall.arg (both46_c c.width l r (by omega) _) (by repeat (first | exact ArgL.nil | (apply ArgL.cons; (· first | exact .same | exact .cro | exact .nil))))) rfl rfl) rfl ?_
   (refine aes rfl (e_al (xs := [.lit (.int .u64 0), .lit (.int .i64 0)]) (k := 2) zr29 (.same _) rfl) rfl ?_; rintro _ _ ⟨u12, rfl, rfl⟩)
   first | (refine aen rfl (e_stW sz29 rfl (by repeat (first | exact .here | assumption | (apply HAt.left; assumption) | apply HAt.there | apply HAt.right)) (by constructor) (by first | rfl | assumption | (simp [*]; done) | fail) rfl (by repeat (first | exact .here | apply HSet.there))) ?_; rintro _ _ ⟨rfl, rfl⟩) | (refine aen rfl (e_stP sz29 rfl (by repeat (first | exact .here | assumption | (apply HAt.left; assumption) | apply HAt.there | apply HAt.right)) (by first | rfl | assumption | (simp [*]; done) | fail) (by constructor) (by first | rfl | assumption | (simp [*]; done) | fail) rfl (by first | decide | omega) (by first | ((repeat constructor); done) | exact .same _) (by first | exact .one | exact .set) (by repeat (first | exact .here | apply HSet.there))) ?_; rintro _ _ ⟨rfl, rfl⟩)
   refine alist_nil ?_
   show AWP _ _ _ _
   refine awp_seq ?_
   refine awp_region ?_
   first | refine aqs rfl (q_ldpW ag136 sz136 rfl (by repeat (first | exact .here | assumption | (apply HAt.left; assumption) | apply HAt.there | apply HAt.right)) (by first | rfl | assumption | (simp [*]; done) | fail) (by first | rfl | assumption | (simp [*]; done) | fail) (by decide)) rfl ?_ | refine aqs rfl (q_ldW ag136 sz136 rfl (by first | rfl | assumption | (simp [*]; done) | fail)) rfl ?_ | refine aqs rfl (q_ldpP ag136 sz136 rfl (by repeat (first | exact .here | assumption | (apply HAt.left; assumption) | apply HAt.there | apply HAt.right)) (by first | rfl | assumption | (simp [*]; done) | fail) (by first | decide | (simp; done) | omega | fail) (by decide) (by first | ((repeat constructor); done) | exact .same _)) rfl ?_ | refine aqs rfl (q_ldP ag136 sz136 rfl (by first | decide | (simp; done) | omega | fail) (by first | ((repeat constructor); done) | exact .same _)) rfl ?_
   first | refine aqs rfl (q_ldpW ag29 sz29 rfl (by repeat (first | exact .here | assumption | (apply HAt.left; assumption) | apply HAt.there | apply HAt.right)) (by first | rfl | assumption | (simp [*]; done) | fail) (by first | rfl | assumption | (simp [*]; done) | fail) (by decide)) rfl ?_ | refine aqs rfl (q_ldW ag29 sz29 rfl (by first | rfl | assumption | (simp [*]; done) | fail)) rfl ?_ | refine aqs rfl (q_ldpP ag29 sz29 rfl (by repeat (first | exact .here | assumption | (apply HAt.left; assumption) | apply HAt.there | apply HAt.right)) (by first | rfl | assumption | (simp [*]; done) | fail) (by first | decide | (simp; done) | omega | fail) (by decide) (by first | ((repeat constructor); done) | exact .same _)) rfl ?_ | refine aqs rfl (q_ldP ag29 sz29 rfl (by first | decide | (simp; done) | omega | fail) (by first | ((repeat constructor); done) | exact .same _)) rfl ?_
   first | refine aqs rfl (castQ (r2 := .lit (.int .i64 (at_ : Nat))) (e_callN cb165 (part165_c c hnp hn (keyOf c l r) hk0 _) rfl rfl) (by rw [hal.2])) rfl ?_ | refine aqs rfl (castQ (r2 := .lit (.int .i64 (at_ : Nat))) (e_callN cb165 (ACall.arg (part165_c c hnp hn (keyOf c l r) hk0 _) (by repeat (first | exact ArgL.nil | (apply ArgL.cons; (· first | exact .same | exact .cro | exact .nil))))) rfl rfl) (by rw [hal.2])) rfl ?_
   refine aqs rfl (q_as (by constructor)) rfl ?_
   refine alist_nil ?_
   show AWP _ _ _ _
   refine awp_seq ?_
   refine awp_draw 21 [(0, false), (1, false), (2, false), (3, false), (4, false), (5, false), (6, false), (7, false), (8, false), (9, false), (10, false), (11, false), (12, false), (13, false), (14, false), (15, false), (16, false), (17, false), (18, false), (19, false), (20, false)] _ ([]) mixed (by kernel_rfl) (perm0 _) ?_
   first | refine glq rfl (.inl ⟨rfl, q_fapP fl136_2 (by decide) rfl rfl⟩) rfl ?_ | refine glq rfl (.inl ⟨rfl, q_faP fl136_2 (by decide) rfl (by first | ((repeat constructor); done) | exact .same _)⟩) rfl ?_
   first | refine glq rfl (.inl ⟨rfl, q_ldpN ag42 rfl (by repeat (first | exact .here | assumption | (apply HAt.left; assumption) | apply HAt.there | apply HAt.right)) (by first | rfl | assumption | (simp [*]; done) | fail) (by first | rfl | assumption | (simp [*]; done) | fail) (by constructor)⟩) rfl ?_ | refine glq rfl (.inl ⟨rfl, q_ld1N ag42 rfl (by constructor)⟩) rfl ?_
   refine glq rfl (.inl ⟨rfl, q_mv (by constructor)⟩) rfl ?_
   first | refine glq rfl (.inl ⟨rfl, q_iaN Try.underlying42 sz38 (.inl rfl) rfl (by omega) (by first | rfl | assumption | (simp [*]; done) | fail) (by first | rfl | assumption | (simp [*]; done) | fail) (by decide) (by first | ((repeat constructor); done) | exact .same _)⟩) rfl ?_ | refine glq rfl (.inl ⟨rfl, q_iaS Try.underlying42 sz38 rfl (by repeat (first | exact .here | assumption | (apply HAt.left; assumption) | apply HAt.there | apply HAt.right)) rfl (by omega) (by omega) (by first | exact Nat.zero_add _ | rfl)⟩) rfl ?_ | refine glq rfl (.inl ⟨rfl, q_iaN Try.underlying42 sz38 (.inr rfl) rfl (by omega) (by first | rfl | assumption | (simp [*]; done) | fail) (by first | rfl | assumption | (simp [*]; done) | fail) (by decide) (by first | ((repeat constructor); done) | exact .same _)⟩) rfl ?_
   first | refine glq rfl (.inl ⟨rfl, q_ldpN ag38 rfl (by repeat (first | exact .here | assumption | (apply HAt.left; assumption) | apply HAt.there | apply HAt.right)) (by first | rfl | assumption | (simp [*]; done) | fail) (by first | rfl | assumption | (simp [*]; done) | fail) (by constructor)⟩) rfl ?_ | refine glq rfl (.inl ⟨rfl, q_ld1N ag38 rfl (by constructor)⟩) rfl ?_
   first | refine glq rfl (.inl ⟨rfl, q_ldpW ag136 sz136 rfl (by repeat (first | exact .here | assumption | (apply HAt.left; assumption) | apply HAt.there | apply HAt.right)) (by first | rfl | assumption | (simp [*]; done) | fail) (by first | rfl | assumption | (simp [*]; done) | fail) (by decide)⟩) rfl ?_ | refine glq rfl (.inl ⟨rfl, q_ldW ag136 sz136 rfl (by first | rfl | assumption | (simp [*]; done) | fail)⟩) rfl ?_ | refine glq rfl (.inl ⟨rfl, q_ldpP ag136 sz136 rfl (by repeat (first | exact .here | assumption | (apply HAt.left; assumption) | apply HAt.there | apply HAt.right)) (by first | rfl | assumption | (simp [*]; done) | fail) (by first | decide | (simp; done) | omega | fail) (by decide) (by first | ((repeat constructor); done) | exact .same _)⟩) rfl ?_ | refine glq rfl (.inl ⟨rfl, q_ldP ag136 sz136 rfl (by first | decide | (simp; done) | omega | fail) (by first | ((repeat constructor); done) | exact .same _)⟩) rfl ?_
   refine glq rfl (.inl ⟨rfl, q_mv (by constructor)⟩) rfl ?_
   first | refine glq rfl (.inl ⟨rfl, e_callN cb164 (room164_c c hnp hn hC.room at_ _) rfl rfl⟩) rfl ?_ | refine glq rfl (.inl ⟨rfl, e_callN cb164 (ACall.arg (room164_c c hnp hn hC.room at_ _) (by repeat (first | exact ArgL.nil | (apply ArgL.cons; (· first | exact .same | exact .cro | exact .nil))))) rfl rfl⟩) rfl ?_
   first | refine glq rfl (.inl ⟨rfl, q_ldpW ag29 sz29 rfl (by repeat (first | exact .here | assumption | (apply HAt.left; assumption) | apply HAt.there | apply HAt.right)) (by first | rfl | assumption | (simp [*]; done) | fail) (by first | rfl | assumption | (simp [*]; done) | fail) (by decide)⟩) rfl ?_ | refine glq rfl (.inl ⟨rfl, q_ldW ag29 sz29 rfl (by first | rfl | assumption | (simp [*]; done) | fail)⟩) rfl ?_ | refine glq rfl (.inl ⟨rfl, q_ldpP ag29 sz29 rfl (by repeat (first | exact .here | assumption | (apply HAt.left; assumption) | apply HAt.there | apply HAt.right)) (by first | rfl | assumption | (simp [*]; done) | fail) (by first | decide | (simp; done) | omega | fail) (by decide) (by first | ((repeat constructor); done) | exact .same _)⟩) rfl ?_ | refine glq rfl (.inl ⟨rfl, q_ldP ag29 sz29 rfl (by first | decide | (simp; done) | omega | fail) (by first | ((repeat constructor); done) | exact .same _)⟩) rfl ?_
   refine glq rfl (.inl ⟨rfl, q_mv (by constructor)⟩) rfl ?_
   refine glq rfl (.inl ⟨rfl, q_mv (by constructor)⟩) rfl ?_
   refine glq rfl (.inl ⟨rfl, q_mv (by constructor)⟩) rfl ?_
   refine glq rfl (.inl ⟨rfl, q_bd st40 zr40 (by first | ((repeat constructor); done) | exact .same _) (by repeat (first | exact BD.nil | (apply BD.cons; (· rfl); (· constructor); (· rfl); (· rfl); (· exact Nat.le_of_ble_eq_true (by rfl)); (· exact (by first | ((repeat constructor); done) | exact .same _)))))⟩) rfl ?_
   first | refine glq rfl (.inl ⟨rfl, e_callN cb59 (hg ▸ put59_c (pt c at_) (by omega) (roomOf c at_) ⟨keyOf c l r, l, r, v⟩ _) rfl rfl⟩) rfl ?_ | refine glq rfl (.inl ⟨rfl, e_callN cb59 (ACall.arg (hg ▸ put59_c (pt c at_) (by omega) (roomOf c at_) ⟨keyOf c l r, l, r, v⟩ _) (by repeat (first | exact ArgL.nil | (apply ArgL.cons; (· first | exact .same | exact .cro | exact .nil))))) rfl rfl⟩) rfl ?_
   refine glq rfl (.inl ⟨rfl, q_mv (by constructor)⟩) rfl ?_
   refine glq rfl (.inl ⟨rfl, q_ex rfl rfl (by constructor)⟩) rfl ?_
   refine glq rfl (.inl ⟨rfl, q_ex rfl rfl (by constructor)⟩) rfl ?_
   refine glq rfl (.inl ⟨rfl, q_ex rfl rfl (by constructor)⟩) rfl ?_
   refine glq rfl (.inl ⟨rfl, q_as (by constructor)⟩) rfl ?_
   refine glq rfl (.inl ⟨rfl, q_as (by constructor)⟩) rfl ?_
   refine glq rfl (.inl ⟨rfl, q_as (by constructor)⟩) rfl ?_
   (first | refine gld0 ?_ | refine gldA ?_)
   refine alist_nil ?_
   show AWP _ _ _ _
   refine awp_seq ?_
   refine awp_region ?_
   first | refine aqs rfl (q_fapP fl136_2 (by decide) rfl rfl) rfl ?_ | refine aqs rfl (q_faP fl136_2 (by decide) rfl (by first | ((repeat constructor); done) | exact .same _)) rfl ?_
   first | refine aqs rfl (q_ldpN ag42 rfl (by repeat (first | exact .here | assumption | (apply HAt.left; assumption) | apply HAt.there | apply HAt.right)) (by first | rfl | assumption | (simp [*]; done) | fail) (by first | rfl | assumption | (simp [*]; done) | fail) (by constructor)) rfl ?_ | refine aqs rfl (q_ld1N ag42 rfl (by constructor)) rfl ?_
   refine aqs rfl (q_mv (by constructor)) rfl ?_
   refine aqs rfl (q_mv (by constructor)) rfl ?_
   first | refine aqs rfl (e_callN cb168 (with168_c c.parts hn at_ hal.1 A _) rfl rfl) rfl ?_ | refine aqs rfl (e_callN cb168 (ACall.arg (with168_c c.parts hn at_ hal.1 A _) (by repeat (first | exact ArgL.nil | (apply ArgL.cons; (· first | exact .same | exact .cro | exact .nil))))) rfl rfl) rfl ?_
   first | refine aqs rfl (q_fapP fl136_2 (by decide) rfl rfl) rfl ?_ | refine aqs rfl (q_faP fl136_2 (by decide) rfl (by first | ((repeat constructor); done) | exact .same _)) rfl ?_
   first | (refine aen rfl (e_stW sz42 rfl (by repeat (first | exact .here | assumption | (apply HAt.left; assumption) | apply HAt.there | apply HAt.right)) (by constructor) (by first | rfl | assumption | (simp [*]; done) | fail) rfl (by repeat (first | exact .here | apply HSet.there))) ?_; rintro _ _ ⟨rfl, rfl⟩) | (refine aen rfl (e_stP sz42 rfl (by repeat (first | exact .here | assumption | (apply HAt.left; assumption) | apply HAt.there | apply HAt.right)) (by first | rfl | assumption | (simp [*]; done) | fail) (by constructor) (by first | rfl | assumption | (simp [*]; done) | fail) rfl (by first | decide | omega) (by first | ((repeat constructor); done) | exact .same _) (by first | exact .one | exact .set) (by repeat (first | exact .here | apply HSet.there))) ?_; rintro _ _ ⟨rfl, rfl⟩)
   refine alist_nil ?_
   show AWP _ _ _ _
   refine awp_seq ?_
   refine awp_region ?_
   first | refine aqs rfl (q_fapP fl136_6 (by decide) rfl rfl) rfl ?_ | refine aqs rfl (q_faP fl136_6 (by decide) rfl (by first | ((repeat constructor); done) | exact .same _)) rfl ?_
   first | refine aqs rfl (q_ldpN ag3 rfl (by repeat (first | exact .here | assumption | (apply HAt.left; assumption) | apply HAt.there | apply HAt.right)) (by first | rfl | assumption | (simp [*]; done) | fail) (by first | rfl | assumption | (simp [*]; done) | fail) (by constructor)) rfl ?_ | refine aqs rfl (q_ld1N ag3 rfl (by constructor)) rfl ?_
   refine aqs rfl (q_mv (by constructor)) rfl ?_
   first | refine aqs rfl (castQ (r2 := .lit (.int .i64 (o.length : Nat))) (q_len Try.underlying38 .ro) (by rw [hom])) rfl ?_ | refine aqs rfl (castQ (r2 := .lit (.int .i64 (o.length : Nat))) (q_lenO Try.underlying38 rfl (by repeat (first | exact .here | assumption | (apply HAt.left; assumption) | apply HAt.there | apply HAt.right)) (by first | omega | (simp; done) | (simp; omega) | fail) (by first | exact Nat.sub_zero _ | rfl)) (by rw [hom])) rfl ?_ | refine aqs rfl (castQ (r2 := .lit (.int .i64 (o.length : Nat))) (q_len Try.underlying38 .nil) (by rw [hom])) rfl ?_ | refine aqs rfl (castQ (r2 := .lit (.int .i64 (o.length : Nat))) (q_len Try.underlying38 .cro) (by rw [hom])) rfl ?_
   first | refine aqs rfl (q_add64 rfl rfl (by omega) (by omega)) rfl ?_ | refine aqs rfl (q_add rfl rfl) rfl ?_
   refine aqs rfl (castQ (r2 := .lit (.int .i64 (min (c.evicted + (o.length : Nat)) maxCount))) (q_min rfl rfl) (by rfl)) rfl ?_
   first | refine aqs rfl (q_fapP fl136_6 (by decide) rfl rfl) rfl ?_ | refine aqs rfl (q_faP fl136_6 (by decide) rfl (by first | ((repeat constructor); done) | exact .same _)) rfl ?_
   first | (refine aen rfl (e_stW sz3 rfl (by repeat (first | exact .here | assumption | (apply HAt.left; assumption) | apply HAt.there | apply HAt.right)) (by constructor) (by first | rfl | assumption | (simp [*]; done) | fail) rfl (by repeat (first | exact .here | apply HSet.there))) ?_; rintro _ _ ⟨rfl, rfl⟩) | (refine aen rfl (e_stP sz3 rfl (by repeat (first | exact .here | assumption | (apply HAt.left; assumption) | apply HAt.there | apply HAt.right)) (by first | rfl | assumption | (simp [*]; done) | fail) (by constructor) (by first | rfl | assumption | (simp [*]; done) | fail) rfl (by first | decide | omega) (by first | ((repeat constructor); done) | exact .same _) (by first | exact .one | exact .set) (by repeat (first | exact .here | apply HSet.there))) ?_; rintro _ _ ⟨rfl, rfl⟩)
   refine alist_nil ?_
   show AWP _ _ _ _
   refine awp_seq ?_
   refine awp_region ?_
   first | refine aqs rfl (q_ldpW ag136 sz136 rfl (by repeat (first | exact .here | assumption | (apply HAt.left; assumption) | apply HAt.there | apply HAt.right)) (by first | rfl | assumption | (simp [*]; done) | fail) (by first | rfl | assumption | (simp [*]; done) | fail) (by decide)) rfl ?_ | refine aqs rfl (q_ldW ag136 sz136 rfl (by first | rfl | assumption | (simp [*]; done) | fail)) rfl ?_ | refine aqs rfl (q_ldpP ag136 sz136 rfl (by repeat (first | exact .here | assumption | (apply HAt.left; assumption) | apply HAt.there | apply HAt.right)) (by first | rfl | assumption | (simp [*]; done) | fail) (by first | decide | (simp; done) | omega | fail) (by decide) (by first | ((repeat constructor); done) | exact .same _)) rfl ?_ | refine aqs rfl (q_ldP ag136 sz136 rfl (by first | decide | (simp; done) | omega | fail) (by first | ((repeat constructor); done) | exact .same _)) rfl ?_
   first | (refine aen rfl (e_stW sz136 rfl (by repeat (first | exact .here | assumption | (apply HAt.left; assumption) | apply HAt.there | apply HAt.right)) (by constructor) (by first | rfl | assumption | (simp [*]; done) | fail) rfl (by repeat (first | exact .here | apply HSet.there))) ?_; rintro _ _ ⟨rfl, rfl⟩) | (refine aen rfl (e_stP sz136 rfl (by repeat (first | exact .here | assumption | (apply HAt.left; assumption) | apply HAt.there | apply HAt.right)) (by first | rfl | assumption | (simp [*]; done) | fail) (by constructor) (by first | rfl | assumption | (simp [*]; done) | fail) rfl (by first | decide | omega) (by first | ((repeat constructor); done) | exact .same _) (by first | exact .one | exact .set) (by repeat (first | exact .here | apply HSet.there))) ?_; rintro _ _ ⟨rfl, rfl⟩)
   refine aqs rfl (q_as (by constructor)) rfl ?_
   refine alist_nil ?_
   show AWP _ _ _ _
   refine awp_ret ?_
   repeat first | with_reducible refine then_ret ?_ | with_reducible refine blk_ret ?_ | with_reducible refine nogo_ret ?_
   apply retq (.inr rfl) (.cons (rok_A ag136 sz136 rfl (by repeat (first | exact .here | assumption | (apply HAt.left; assumption) | apply HAt.there | apply HAt.right)) (by rfl)) (.cons (rok_t rfl) .nil))
   rotate_left
   ·exact ⟨rfl, rfl⟩
   repeat (first | exact List.Sublist.refl _ | exact List.nil_sublist _ | exact List.sublist_append_left _ _ | apply List.Sublist.cons)
end Go.Proofs.YtdlinfekifnmkaaAm
