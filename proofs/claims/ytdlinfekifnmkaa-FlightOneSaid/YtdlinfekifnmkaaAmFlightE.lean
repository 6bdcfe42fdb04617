/- Contracts of the layer 'flight', fifth part: which fills may be. Conditions: the lengths. -/
import Derived.Test.YtdlinfekifnmkaaAmFlightD
import Derived.Test.YtdlinfekifnmkaaAmKeys2
set_option linter.unusedVariables false
set_option linter.unusedSimpArgs false
set_option maxRecDepth 20000
namespace Go.Proofs.YtdlinfekifnmkaaAm
open Go.Proofs
def inL {α : Type} [DecidableEq α] (L : List α) (w : α) : Option Unit := if w ∈ L then some () else none
theorem inL_some {α : Type} [DecidableEq α] (L : List α) (w : α) : (inL L w).isSome = decide (w ∈ L) := by unfold inL; by_cases h : w ∈ L <;> simp [h]
theorem inL_mem {α : Type} [DecidableEq α] {L : List α} {w : α} : (inL L w).isSome = true ↔ w ∈ L := by rw [inL_some]; simp
theorem inL_not {α : Type} [DecidableEq α] {L : List α} {w : α} : (inL L w).isSome = false ↔ w ∉ L := by rw [inL_some]; simp
theorem inL_nil {α : Type} [DecidableEq α] (w : α) : inL ([] : List α) w = none := by simp [inL]
theorem inL_add {α : Type} [DecidableEq α] (L : List α) (v w : α) : (if w = v then some () else inL L w) = inL (L ++ [v]) w := by
  unfold inL
  by_cases h : w = v <;> simp [h]
theorem mo_two {V : Type} {vv : V → AV} {kvs : List (Value × AV)} {f : ByteArray × ByteArray → Option V} (h : MapOf ssV vv kvs f) : ∀ p ∈ kvs, D55 p.1 := fun p hp => by
  obtain ⟨k, v, e, _⟩ := h.all p hp
  exact ⟨k, by rw [e]⟩
theorem mo_inS {kvs : List (Value × AV)} {f : ByteArray × ByteArray → Option Unit} (h : MapOf ssV bvv kvs f) {k : ByteArray × ByteArray} {r : AV} (hl : lkR kvs (ssV k) (ofV (.bool false)) r) : r = .lit (.bool (f k).isSome) := by
  rcases mo_lk ssV_inj h hl with ⟨v, h1, h2⟩ | ⟨h1, h2⟩
  · rw [h1, h2]; rfl
  · rw [h1, h2]; rfl
set_option maxHeartbeats 1000000 in
theorem once144_c (w : Int) (kvs : List (Value × AV)) (L : List Int) (hm : MapOf ikv bvv kvs (inL L)) (u4 um : Nat) (R : Heap) : ACall Try.prog 144 [.lit (.int .i64 w), .ptr u4 0 0] ((u4, .arr 174 1 [[.mp um]]) :: (um, .map kvs) :: R)
    (fun r H' => r = .lit (.bool (!decide (w ∈ L))) ∧ ∃ kvs', H' = (u4, .arr 174 1 [[.mp um]]) :: (um, .map kvs') :: R ∧ MapOf ikv bvv kvs' (inL (L ++ [w]))) := by
  have hD := mo_int hm
  refine acall_intro (n := 12) (rvs := [.tmp 3]) Try.func144 rfl rfl rfl (Nat.le_of_ble_eq_true rfl) ?_
  refine awp_seq ?_
  refine awp_region ?_
  refine aqs rfl (q_as (by constructor)) rfl ?_
  refine alist_nil ?_
  show AWP _ _ _ _
  refine awp_seq ?_
  refine awp_region ?_
  first | refine aqs rfl (q_ldpN ag174 rfl (by repeat (first | exact .here | assumption | (apply HAt.left; assumption) | apply HAt.there | apply HAt.right)) (by first | rfl | assumption | (simp [*]; done) | fail) (by first | rfl | assumption | (simp [*]; done) | fail) (by constructor)) rfl ?_ | refine aqs rfl (q_ld1N ag174 rfl (by constructor)) rfl ?_
  refine aqs rfl (q_mv (by constructor)) rfl ?_
  (refine aes rfl (e_lk Try.underlying174 KL3 zv4 rfl (by repeat (first | exact .here | assumption | (apply HAt.left; assumption) | apply HAt.there | apply HAt.right)) (by first | exact kv29 | exact kvSS | exact .lit) ⟨_, rfl⟩ (by first | assumption | (intro p hp; cases hp; done))) rfl ?_; rintro rlk _ ⟨hlk, rfl⟩)
  obtain rfl := mo_in hm hlk
  rw [inL_some]
  refine aqs rfl (q_as (by constructor)) rfl ?_
  refine alist_nil ?_
  show AWP _ _ _ _
  refine awp_seq ?_
  refine awp_region ?_
  first | refine aqs rfl (q_ldpN ag174 rfl (by repeat (first | exact .here | assumption | (apply HAt.left; assumption) | apply HAt.there | apply HAt.right)) (by first | rfl | assumption | (simp [*]; done) | fail) (by first | rfl | assumption | (simp [*]; done) | fail) (by constructor)) rfl ?_ | refine aqs rfl (q_ld1N ag174 rfl (by constructor)) rfl ?_
  refine aqs rfl (q_mv (by constructor)) rfl ?_
  (refine aen rfl (e_mu Try.underlying174 KL3 rfl (by repeat (first | exact .here | assumption | (apply HAt.left; assumption) | apply HAt.there | apply HAt.right)) (by first | exact kv29 | exact kvSS | exact .lit) ⟨_, rfl⟩ (by first | assumption | (intro p hp; cases hp; done)) (by constructor) (fun kvs' => (by repeat (first | exact .here | apply HSet.there)))) ?_; rintro _ _ ⟨kvs', hup, rfl⟩)
  have hup2 := mo_ext (mo_up ikv_inj hm (k := w) (v := ()) hup) (inL_add L w)
  refine alist_nil ?_
  show AWP _ _ _ _
  refine awp_seq ?_
  refine awp_region ?_
  refine aqs rfl (q_mv (by constructor)) rfl ?_
  refine aqs rfl (q_not rfl) rfl ?_
  refine aqs rfl (q_as (by constructor)) rfl ?_
  refine alist_nil ?_
  show AWP _ _ _ _
  refine awp_ret ?_
  repeat first | with_reducible refine then_ret ?_ | with_reducible refine blk_ret ?_
  apply retq (.inr rfl) (.cons (rok_t rfl) .nil)
  rotate_left
  ·exact ⟨rfl, _, rfl, hup2⟩
  repeat (first | exact List.Sublist.refl _ | exact List.nil_sublist _ | exact List.sublist_append_left _ _ | apply List.Sublist.cons)
theorem all_at {f : List Fill} {i : Nat} {x : Fill} (h : f[i]? = some x) : allOf f = allOf (f.take i) ++ x.by_ :: (x.waiting ++ allOf (f.drop (i + 1))) := by
  have e : f = f.take i ++ x :: f.drop (i + 1) := by rw [← drop_at h, List.take_append_drop]
  conv => lhs; rw [e]
  rw [all_app, all_cons]; simp [whoOf]
theorem dup_false {f : List Fill} {L R : List Int} {w : Int} (he : allOf f = L ++ w :: R) (hm : w ∈ L) : fRight f = false := by
  rw [fRight, Bool.and_eq_false_iff]
  refine .inr (decide_eq_false fun hn => ?_)
  rw [he, List.nodup_append] at hn
  exact hn.2.2 w hm w (by simp) rfl
theorem text_mem_dup {f : List Fill} {i : Nat} {x : Fill} (hx : f[i]? = some x) (hm : (x.left, x.right) ∈ textsOf (f.take i)) : fRight f = false := by
  obtain ⟨y, hy, he⟩ := List.mem_map.1 hm
  obtain ⟨j, hj⟩ := List.mem_iff_getElem?.1 hy
  have hjl := (List.getElem?_eq_some_iff.1 hj).1
  rw [List.length_take] at hjl
  rw [List.getElem?_take_of_lt (by omega)] at hj
  simp only [Prod.mk.injEq] at he
  exact ftexts_dup hx hj (by omega) ⟨he.1.symm, he.2.symm⟩
theorem nodup_snoc {L : List Int} {w : Int} (hn : L.Nodup) (hm : w ∉ L) : (L ++ [w]).Nodup := by
  rw [List.nodup_append]
  exact ⟨hn, by simp, fun a ha b hb e => by simp at hb; subst hb; subst e; exact hm ha⟩
theorem texts_take {f : List Fill} {i : Nat} {x : Fill} (hx : f[i]? = some x) : textsOf (f.take (i + 1)) = textsOf (f.take i) ++ [(x.left, x.right)] := by rw [take_next hx]; simp [textsOf]
theorem texts_nodup {f : List Fill} {i : Nat} {x : Fill} (hx : f[i]? = some x) (hn : (textsOf (f.take i)).Nodup) (hm : (x.left, x.right) ∉ textsOf (f.take i)) : (textsOf (f.take (i + 1))).Nodup := by
  rw [texts_take hx, List.nodup_append]
  exact ⟨hn, by simp, fun a ha b hb e => by simp at hb; subst hb; subst e; exact hm ha⟩
def hp93 (u8 u7 u4 u12 u11 : Nat) (x : Fill) (kv1 kv2 : List (Value × AV)) : Heap := [(u8, .arr 55 2 [[.lit (.string x.left), .lit (.string x.right)]]), (u7, .arr 115 4 [x.cells]), (u4, .arr 174 1 [[.mp u12]]), (u12, .map kv2), (u11, .map kv1)]
set_option maxHeartbeats 4000000 in
theorem right93_c (f : List Fill) (hf : FLen f) (H : Heap) : QCall Try.prog 93 [.ro (f.map Fill.cells)] H (.lit (.bool (fRight f))) := by
  refine QCall.any H ?_
  have hfn := hf.n
  refine acall_intro (n := 50) (rvs := [.tmp 2]) Try.func93 rfl rfl rfl (Nat.le_of_ble_eq_true rfl) ?_
  refine awp_seq ?_
  refine awp_region ?_
  refine aqs rfl (q_as (by constructor)) rfl ?_
  refine alist_nil ?_
  show AWP _ _ _ _
  refine awp_seq ?_
  refine awp_region ?_
  (refine aes rfl (e_mm) rfl ?_; rintro _ _ ⟨u11, rfl, rfl⟩)
  (refine aes rfl (e_mm) rfl ?_; rintro _ _ ⟨u12, rfl, rfl⟩)
  (refine aes rfl (e_al (xs := [.lit (.map none)]) (k := 1) zr174 (.same _) rfl) rfl ?_; rintro _ _ ⟨u4, rfl, rfl⟩)
  refine aqs rfl (q_as (by constructor)) rfl ?_
  first | (refine aen rfl (e_stW sz174 rfl (by repeat (first | exact .here | assumption | (apply HAt.left; assumption) | apply HAt.there | apply HAt.right)) (by constructor) (by first | rfl | assumption | (simp [*]; done) | fail) rfl (by repeat (first | exact .here | apply HSet.there))) ?_; rintro _ _ ⟨rfl, rfl⟩) | (refine aen rfl (e_stP sz174 rfl (by repeat (first | exact .here | assumption | (apply HAt.left; assumption) | apply HAt.there | apply HAt.right)) (by first | rfl | assumption | (simp [*]; done) | fail) (by constructor) (by first | rfl | assumption | (simp [*]; done) | fail) rfl (by first | decide | omega) (by first | ((repeat constructor); done) | exact .same _) (by first | exact .one | exact .set) (by repeat (first | exact .here | apply HSet.there))) ?_; rintro _ _ ⟨rfl, rfl⟩)
  refine alist_nil ?_
  show AWP _ _ _ _
  refine awp_seq ?_
  refine awp_region ?_
  refine aqs rfl (q_fn (by first | ((repeat constructor); done) | exact .same _) (by first | ((repeat constructor); done) | exact .same _)) rfl ?_
  refine aqs rfl (q_as (by constructor)) rfl ?_
  refine alist_nil ?_
  show AWP _ _ _ _
  refine awp_seq ?_
  refine awp_seq ?_
  refine awp_region ?_
  refine aqs rfl (q_mv (by constructor)) rfl ?_
  first | refine aqs rfl (q_len Try.underlying112 .ro) rfl ?_ | refine aqs rfl (q_lenO Try.underlying112 rfl (by repeat (first | exact .here | assumption | (apply HAt.left; assumption) | apply HAt.there | apply HAt.right)) (by first | omega | (simp; done) | (simp; omega) | fail) (by first | exact Nat.sub_zero _ | rfl)) rfl ?_ | refine aqs rfl (q_len Try.underlying112 .nil) rfl ?_ | refine aqs rfl (q_len Try.underlying112 .cro) rfl ?_
  refine aqs rfl (q_mv (by constructor)) rfl ?_
  refine alist_nil ?_
  show AWP _ _ _ _
  refine awp_block ?_
  rw [List.length_map]
  refine awp_loop_inv (fun x : Nat × List (Value × AV) × List (Value × AV) => ⟨[(16, .lit (.int .i64 x.1)), (15, .lit (.int .i64 f.length)), (14, .ro (f.map Fill.cells)), (3, .mp u11), (4, .ptr u4 0 0), (5, .clo (.func 144) [] [.ptr u4 0 0])], 50, [(u4, .arr 174 1 [[.mp u12]]), (u12, .map x.2.2), (u11, .map x.2.1)]⟩) (fun x => x.1 ≤ f.length ∧ (textsOf (f.take x.1)).Nodup ∧ (allOf (f.take x.1)).Nodup ∧ MapOf ssV bvv x.2.1 (inL (textsOf (f.take x.1))) ∧ MapOf ikv bvv x.2.2 (inL (allOf (f.take x.1)))) (fun x => f.length - x.1) (0, [], []) ?_ ?_ ?_
  ·exact ⟨Nat.zero_le _, by simp [textsOf], by simp [allOf], mo_ext mo_nil fun k => (inL_nil k).symm, mo_ext mo_nil fun k => (inL_nil k).symm⟩
  ·exact .mk' (by repeat (first | exact trivial | refine ⟨rfl, ?_⟩)) (by repeat (first | exact .refl _ | apply List.Sublist.cons_cons | apply List.Sublist.cons))
  ·rintro ⟨i, kv1, kv2⟩ ⟨hi, ht, ha, hm1, hm2⟩
   simp only at hi ht ha hm1 hm2 ⊢
   have hD1 := mo_two hm1
   have hD2 := mo_int hm2
   refine awp_seq ?_
   refine awp_region ?_
   refine aqs rfl (q_lss rfl rfl) rfl ?_
   refine alist_nil ?_
   show AWP _ _ _ _
   refine awp_seq ?_
   refine awp_cond rfl (fun hc0 => ?_) (fun hc0 => ?_)
   ·simp only [decide_eq_true_eq] at hc0
    obtain ⟨x, hs, hsm⟩ := get_lt (l := f) (i := i) (by omega)
    have hs2 := get_map (f := Fill.cells) hs
    have hxw := hf.w x hsm
    have hall := all_at hs
    refine awp_skip ?_
    show AWP _ _ _ _
    refine awp_seq ?_
    refine awp_block ?_
    refine awp_seq ?_
    refine awp_region ?_
    first | refine aqs rfl (q_iaN Try.underlying112 sz115 (.inl rfl) rfl (by omega) (by first | rfl | assumption | (simp [*]; done) | fail) (by first | rfl | assumption | (simp [*]; done) | fail) (by decide) (by first | ((repeat constructor); done) | exact .same _)) rfl ?_ | refine aqs rfl (q_iaS Try.underlying112 sz115 rfl (by repeat (first | exact .here | assumption | (apply HAt.left; assumption) | apply HAt.there | apply HAt.right)) rfl (by omega) (by omega) (by first | exact Nat.zero_add _ | rfl)) rfl ?_ | refine aqs rfl (q_iaN Try.underlying112 sz115 (.inr rfl) rfl (by omega) (by first | rfl | assumption | (simp [*]; done) | fail) (by first | rfl | assumption | (simp [*]; done) | fail) (by decide) (by first | ((repeat constructor); done) | exact .same _)) rfl ?_
    first | refine aqs rfl (q_ldpW ag115 sz115 rfl (by repeat (first | exact .here | assumption | (apply HAt.left; assumption) | apply HAt.there | apply HAt.right)) (by first | rfl | assumption | (simp [*]; done) | fail) (by first | rfl | assumption | (simp [*]; done) | fail) (by decide)) rfl ?_ | refine aqs rfl (q_ldW ag115 sz115 rfl (by first | rfl | assumption | (simp [*]; done) | fail)) rfl ?_ | refine aqs rfl (q_ldpP ag115 sz115 rfl (by repeat (first | exact .here | assumption | (apply HAt.left; assumption) | apply HAt.there | apply HAt.right)) (by first | rfl | assumption | (simp [*]; done) | fail) (by first | decide | (simp; done) | omega | fail) (by decide) (by first | ((repeat constructor); done) | exact .same _)) rfl ?_ | refine aqs rfl (q_ldP ag115 sz115 rfl (by first | decide | (simp; done) | omega | fail) (by first | ((repeat constructor); done) | exact .same _)) rfl ?_
    (refine aes rfl (e_al (xs := [.lit (.string ⟨#[]⟩), .lit (.string ⟨#[]⟩), .lit (.int .i64 0), .lit (.slice none 0 0)]) (k := 4) zr115 (.same _) rfl) rfl ?_; rintro _ _ ⟨u7, rfl, rfl⟩)
    first | (refine aen rfl (e_stW sz115 rfl (by repeat (first | exact .here | assumption | (apply HAt.left; assumption) | apply HAt.there | apply HAt.right)) (by constructor) (by first | rfl | assumption | (simp [*]; done) | fail) rfl (by repeat (first | exact .here | apply HSet.there))) ?_; rintro _ _ ⟨rfl, rfl⟩) | (refine aen rfl (e_stP sz115 rfl (by repeat (first | exact .here | assumption | (apply HAt.left; assumption) | apply HAt.there | apply HAt.right)) (by first | rfl | assumption | (simp [*]; done) | fail) (by constructor) (by first | rfl | assumption | (simp [*]; done) | fail) rfl (by first | decide | omega) (by first | ((repeat constructor); done) | exact .same _) (by first | exact .one | exact .set) (by repeat (first | exact .here | apply HSet.there))) ?_; rintro _ _ ⟨rfl, rfl⟩)
    refine alist_nil ?_
    show AWP _ _ _ _
    refine awp_seq ?_
    refine awp_region ?_
    first | refine aqs rfl (q_fapP fl115_0 (by decide) rfl rfl) rfl ?_ | refine aqs rfl (q_faP fl115_0 (by decide) rfl (by first | ((repeat constructor); done) | exact .same _)) rfl ?_
    first | refine aqs rfl (q_ldpN ag9 rfl (by repeat (first | exact .here | assumption | (apply HAt.left; assumption) | apply HAt.there | apply HAt.right)) (by first | rfl | assumption | (simp [*]; done) | fail) (by first | rfl | assumption | (simp [*]; done) | fail) (by constructor)) rfl ?_ | refine aqs rfl (q_ld1N ag9 rfl (by constructor)) rfl ?_
    first | refine aqs rfl (q_fapP fl115_1 (by decide) rfl rfl) rfl ?_ | refine aqs rfl (q_faP fl115_1 (by decide) rfl (by first | ((repeat constructor); done) | exact .same _)) rfl ?_
    first | refine aqs rfl (q_ldpN ag9 rfl (by repeat (first | exact .here | assumption | (apply HAt.left; assumption) | apply HAt.there | apply HAt.right)) (by first | rfl | assumption | (simp [*]; done) | fail) (by first | rfl | assumption | (simp [*]; done) | fail) (by constructor)) rfl ?_ | refine aqs rfl (q_ld1N ag9 rfl (by constructor)) rfl ?_
    refine aqs rfl (q_bd st55 zr55 (by first | ((repeat constructor); done) | exact .same _) (by repeat (first | exact BD.nil | (apply BD.cons; (· rfl); (· constructor); (· rfl); (· rfl); (· exact Nat.le_of_ble_eq_true (by rfl)); (· exact (by first | ((repeat constructor); done) | exact .same _)))))) rfl ?_
    (refine aes rfl (e_al (xs := [.lit (.string ⟨#[]⟩), .lit (.string ⟨#[]⟩)]) (k := 2) zr55 (.same _) rfl) rfl ?_; rintro _ _ ⟨u8, rfl, rfl⟩)
    first | (refine aen rfl (e_stW sz55 rfl (by repeat (first | exact .here | assumption | (apply HAt.left; assumption) | apply HAt.there | apply HAt.right)) (by constructor) (by first | rfl | assumption | (simp [*]; done) | fail) rfl (by repeat (first | exact .here | apply HSet.there))) ?_; rintro _ _ ⟨rfl, rfl⟩) | (refine aen rfl (e_stP sz55 rfl (by repeat (first | exact .here | assumption | (apply HAt.left; assumption) | apply HAt.there | apply HAt.right)) (by first | rfl | assumption | (simp [*]; done) | fail) (by constructor) (by first | rfl | assumption | (simp [*]; done) | fail) rfl (by first | decide | omega) (by first | ((repeat constructor); done) | exact .same _) (by first | exact .one | exact .set) (by repeat (first | exact .here | apply HSet.there))) ?_; rintro _ _ ⟨rfl, rfl⟩)
    refine alist_nil ?_
    show AWP _ _ _ _
    refine awp_seq ?_
    refine awp_join (fun y : Bool × List (Value × AV) => ⟨[(34, .lit (.bool y.1)), (16, .lit (.int .i64 i)), (15, .lit (.int .i64 f.length)), (14, .ro (f.map Fill.cells)), (3, .mp u11), (4, .ptr u4 0 0), (5, .clo (.func 144) [] [.ptr u4 0 0]), (7, .ptr u7 0 0), (8, .ptr u8 0 0)], 50, hp93 u8 u7 u4 u12 u11 x kv1 y.2⟩) (fun y => y.1 = ((inL (textsOf (f.take i)) (x.left, x.right)).isSome || decide (x.by_ ∈ allOf (f.take i))) ∧ (y.1 = false → MapOf ikv bvv y.2 (inL (allOf (f.take i) ++ [x.by_])))) ?_ ?_
    ·skip
     refine awp_region ?_
     all_goals (refine aqs rfl (q_mv (by constructor)) rfl ?_)
     all_goals (first | refine aqs rfl (q_ldpW ag55 sz55 rfl (by repeat (first | exact .here | assumption | (apply HAt.left; assumption) | apply HAt.there | apply HAt.right)) (by first | rfl | assumption | (simp [*]; done) | fail) (by first | rfl | assumption | (simp [*]; done) | fail) (by decide)) rfl ?_ | refine aqs rfl (q_ldW ag55 sz55 rfl (by first | rfl | assumption | (simp [*]; done) | fail)) rfl ?_ | refine aqs rfl (q_ldpP ag55 sz55 rfl (by repeat (first | exact .here | assumption | (apply HAt.left; assumption) | apply HAt.there | apply HAt.right)) (by first | rfl | assumption | (simp [*]; done) | fail) (by first | decide | (simp; done) | omega | fail) (by decide) (by first | ((repeat constructor); done) | exact .same _)) rfl ?_ | refine aqs rfl (q_ldP ag55 sz55 rfl (by first | decide | (simp; done) | omega | fail) (by first | ((repeat constructor); done) | exact .same _)) rfl ?_)
     all_goals ((refine aes rfl (e_lk Try.underlying186 KL55 zv4 rfl (by repeat (first | exact .here | assumption | (apply HAt.left; assumption) | apply HAt.there | apply HAt.right)) (by first | exact kv29 | exact kvSS | exact .lit) ⟨_, rfl⟩ (by first | assumption | (intro p hp; cases hp; done))) rfl ?_; rintro rlk _ ⟨hlk, rfl⟩))
     obtain rfl := mo_inS hm1 hlk
     all_goals (refine aqs rfl (q_mv (by constructor)) rfl ?_)
     all_goals try (refine acase (fun hb3 => ?_) (fun hb3 => ?_))
     all_goals first | (exfalso; cases hb3; done) | skip
     all_goals (first | refine ans rfl rfl ?_ | refine aqs rfl (q_mv (by constructor)) rfl ?_)
     all_goals (first | refine ans rfl rfl ?_ | refine aqs rfl (q_fapP fl115_2 (by decide) rfl rfl) rfl ?_ | refine aqs rfl (q_faP fl115_2 (by decide) rfl (by first | ((repeat constructor); done) | exact .same _)) rfl ?_)
     all_goals (first | refine ans rfl rfl ?_ | refine aqs rfl (q_ldpN ag3 rfl (by repeat (first | exact .here | assumption | (apply HAt.left; assumption) | apply HAt.there | apply HAt.right)) (by first | rfl | assumption | (simp [*]; done) | fail) (by first | rfl | assumption | (simp [*]; done) | fail) (by constructor)) rfl ?_ | refine aqs rfl (q_ld1N ag3 rfl (by constructor)) rfl ?_)
     all_goals (first | refine ans rfl rfl ?_ | (refine aes rfl (e_callC cb144 (ACall.frame [_, _] (once144_c x.by_ kv2 (allOf (f.take i)) hm2 u4 u12 _)) rfl rfl) rfl ?_; rintro _ _ ⟨Hv, rfl, rfl, kv2', rfl, hm2'⟩))
     all_goals (first | refine ans rfl rfl ?_ | refine aqs rfl (q_not rfl) rfl ?_)
     all_goals (first | refine aqs rfl (q_pickT rfl (by constructor)) rfl ?_ | refine aqs rfl (q_pickF rfl (by constructor)) rfl ?_)
     all_goals (refine alist_nil ?_)
     all_goals (show ∃ y, _ ∧ _)
     all_goals first
      | exact ⟨(!!decide (x.by_ ∈ allOf (f.take i)), kv2'), ⟨by show _ = (_ || _); rw [hb3]; simp, fun _ => hm2'⟩, .mk' ⟨by rfl, rfl, rfl, rfl, rfl, rfl, rfl, rfl, rfl, trivial⟩ (by repeat (first | exact List.Sublist.refl _ | exact List.nil_sublist _ | exact List.sublist_append_left _ _ | (apply List.Sublist.cons_cons) | (apply List.Sublist.cons)))⟩
      | exact ⟨(true, kv2), ⟨by show _ = (_ || _); rw [hb3]; rfl, fun h => (by cases h)⟩, .mk' ⟨by rfl, rfl, rfl, rfl, rfl, rfl, rfl, rfl, rfl, trivial⟩ (by repeat (first | exact List.Sublist.refl _ | exact List.nil_sublist _ | exact List.sublist_append_left _ _ | (apply List.Sublist.cons_cons) | (apply List.Sublist.cons)))⟩
    rintro ⟨b, kv3⟩ ⟨hb, hm3⟩
    simp only at hb hm3 ⊢
    refine awp_cond rfl (fun hc1 => ?_) (fun hc1 => ?_)
    ·have e : fRight f = false := by
      have hc1 : b = true := hc1
      rw [hb, Bool.or_eq_true, inL_mem, decide_eq_true_eq] at hc1
      rcases hc1 with h | h
      ·exact text_mem_dup hs h
      ·exact dup_false hall h
     rw [e]
     refine awp_seq ?_
     refine awp_region ?_
     refine aqs rfl (q_as (by constructor)) rfl ?_
     refine alist_nil ?_
     show AWP _ _ _ _
     refine awp_ret ?_
     repeat first | with_reducible refine then_ret ?_ | with_reducible refine blk_ret ?_
     apply retq (.inr rfl) (.cons (rok_t rfl) .nil)
     rotate_left
     ·exact ⟨rfl, rfl⟩
     repeat (first | exact List.Sublist.refl _ | exact List.nil_sublist _ | exact List.sublist_append_left _ _ | apply List.Sublist.cons)
    ·have hc1 : b = false := hc1
     have hm3 := hm3 hc1
     rw [hb, Bool.or_eq_false_iff, inL_not, decide_eq_false_iff_not] at hc1
     have hD3 := mo_int hm3
     have ht2 := texts_nodup hs ht hc1.1
     have ha2 := nodup_snoc ha hc1.2
     have hnx := all_next hs
     unfold hp93
     refine awp_skip ?_
     show AWP _ _ _ _
     refine awp_seq ?_
     refine awp_region ?_
     refine aqs rfl (q_mv (by constructor)) rfl ?_
     first | refine aqs rfl (q_ldpW ag55 sz55 rfl (by repeat (first | exact .here | assumption | (apply HAt.left; assumption) | apply HAt.there | apply HAt.right)) (by first | rfl | assumption | (simp [*]; done) | fail) (by first | rfl | assumption | (simp [*]; done) | fail) (by decide)) rfl ?_ | refine aqs rfl (q_ldW ag55 sz55 rfl (by first | rfl | assumption | (simp [*]; done) | fail)) rfl ?_ | refine aqs rfl (q_ldpP ag55 sz55 rfl (by repeat (first | exact .here | assumption | (apply HAt.left; assumption) | apply HAt.there | apply HAt.right)) (by first | rfl | assumption | (simp [*]; done) | fail) (by first | decide | (simp; done) | omega | fail) (by decide) (by first | ((repeat constructor); done) | exact .same _)) rfl ?_ | refine aqs rfl (q_ldP ag55 sz55 rfl (by first | decide | (simp; done) | omega | fail) (by first | ((repeat constructor); done) | exact .same _)) rfl ?_
     (refine aen rfl (e_mu Try.underlying186 KL55 rfl (by repeat (first | exact .here | assumption | (apply HAt.left; assumption) | apply HAt.there | apply HAt.right)) (by first | exact kv29 | exact kvSS | exact .lit) ⟨_, rfl⟩ (by first | assumption | (intro p hp; cases hp; done)) (by constructor) (fun kvs' => (by repeat (first | exact .here | apply HSet.there)))) ?_; rintro _ _ ⟨kvs', hup, rfl⟩)
     have hup2 := mo_ext (mo_up ssV_inj hm1 (k := (x.left, x.right)) (v := ()) hup) (inL_add _ (x.left, x.right))
     rw [← texts_take hs] at hup2
     refine alist_nil ?_
     show AWP _ _ _ _
     refine awp_seq ?_
     refine awp_region ?_
     first | refine aqs rfl (q_fapP fl115_3 (by decide) rfl rfl) rfl ?_ | refine aqs rfl (q_faP fl115_3 (by decide) rfl (by first | ((repeat constructor); done) | exact .same _)) rfl ?_
     first | refine aqs rfl (q_ldpN ag25 rfl (by repeat (first | exact .here | assumption | (apply HAt.left; assumption) | apply HAt.there | apply HAt.right)) (by first | rfl | assumption | (simp [*]; done) | fail) (by first | rfl | assumption | (simp [*]; done) | fail) (by constructor)) rfl ?_ | refine aqs rfl (q_ld1N ag25 rfl (by constructor)) rfl ?_
     first | refine aqs rfl (q_len Try.underlying25 .ro) rfl ?_ | refine aqs rfl (q_lenO Try.underlying25 rfl (by repeat (first | exact .here | assumption | (apply HAt.left; assumption) | apply HAt.there | apply HAt.right)) (by first | omega | (simp; done) | (simp; omega) | fail) (by first | exact Nat.sub_zero _ | rfl)) rfl ?_ | refine aqs rfl (q_len Try.underlying25 .nil) rfl ?_ | refine aqs rfl (q_len Try.underlying25 .cro) rfl ?_
     refine aqs rfl (q_mv (by constructor)) rfl ?_
     refine alist_nil ?_
     show AWP _ _ _ _
     refine awp_block ?_
     rw [List.length_map]
     refine awp_loop_inv (fun y : Nat × List (Value × AV) => ⟨[(40, .lit (.int .i64 y.1)), (39, .lit (.int .i64 x.waiting.length)), (38, .ro (x.waiting.map cI)), (16, .lit (.int .i64 i)), (15, .lit (.int .i64 f.length)), (14, .ro (f.map Fill.cells)), (3, .mp u11), (4, .ptr u4 0 0), (5, .clo (.func 144) [] [.ptr u4 0 0])], 50, hp93 u8 u7 u4 u12 u11 x kvs' y.2⟩) (fun y => y.1 ≤ x.waiting.length ∧ (allOf (f.take i) ++ [x.by_] ++ x.waiting.take y.1).Nodup ∧ MapOf ikv bvv y.2 (inL (allOf (f.take i) ++ [x.by_] ++ x.waiting.take y.1))) (fun y => x.waiting.length - y.1) (0, kv3) ?_ ?_ ?_
     ·exact ⟨Nat.zero_le _, by simpa using ha2, by simpa using hm3⟩
     ·exact .mk' (by repeat (first | exact trivial | refine ⟨rfl, ?_⟩)) (by repeat (first | exact .refl _ | apply List.Sublist.cons_cons | apply List.Sublist.cons))
     ·rintro ⟨k, kv4⟩ ⟨hk, ha4, hm4⟩
      simp only at hk ha4 hm4 ⊢
      unfold hp93
      refine awp_seq ?_
      refine awp_region ?_
      refine aqs rfl (q_lss rfl rfl) rfl ?_
      refine alist_nil ?_
      show AWP _ _ _ _
      refine awp_seq ?_
      refine awp_cond rfl (fun hc2 => ?_) (fun hc2 => ?_)
      ·simp only [decide_eq_true_eq] at hc2
       obtain ⟨w, hw, hwm⟩ := get_lt (l := x.waiting) (i := k) (by omega)
       have hw2 := get_map (f := cI) hw
       refine awp_skip ?_
       show AWP _ _ _ _
       refine awp_seq ?_
       refine awp_block ?_
       refine awp_seq ?_
       refine awp_region ?_
       first | refine aqs rfl (q_iaN Try.underlying25 sz3 (.inl rfl) rfl (by omega) (by first | rfl | assumption | (simp [*]; done) | fail) (by first | rfl | assumption | (simp [*]; done) | fail) (by decide) (by first | ((repeat constructor); done) | exact .same _)) rfl ?_ | refine aqs rfl (q_iaS Try.underlying25 sz3 rfl (by repeat (first | exact .here | assumption | (apply HAt.left; assumption) | apply HAt.there | apply HAt.right)) rfl (by omega) (by omega) (by first | exact Nat.zero_add _ | rfl)) rfl ?_ | refine aqs rfl (q_iaN Try.underlying25 sz3 (.inr rfl) rfl (by omega) (by first | rfl | assumption | (simp [*]; done) | fail) (by first | rfl | assumption | (simp [*]; done) | fail) (by decide) (by first | ((repeat constructor); done) | exact .same _)) rfl ?_
       first | refine aqs rfl (q_ldpN ag3 rfl (by repeat (first | exact .here | assumption | (apply HAt.left; assumption) | apply HAt.there | apply HAt.right)) (by first | rfl | assumption | (simp [*]; done) | fail) (by first | rfl | assumption | (simp [*]; done) | fail) (by constructor)) rfl ?_ | refine aqs rfl (q_ld1N ag3 rfl (by constructor)) rfl ?_
       refine aqs rfl (q_as (by constructor)) rfl ?_
       refine alist_nil ?_
       show AWP _ _ _ _
       refine awp_seq ?_
       refine awp_region ?_
       refine aqs rfl (q_mv (by constructor)) rfl ?_
       refine aqs rfl (q_mv (by constructor)) rfl ?_
       (refine aes rfl (e_callC cb144 (ACall.frame [_, _] (once144_c w kv4 _ hm4 u4 u12 _)) rfl rfl) rfl ?_; rintro _ _ ⟨Hv, rfl, rfl, kv5, rfl, hm5⟩)
       refine aqs rfl (q_not rfl) rfl ?_
       refine alist_nil ?_
       show AWP _ _ _ _
       refine awp_cond rfl (fun hc3 => ?_) (fun hc3 => ?_)
       ·have hwm2 : w ∈ allOf (f.take i) ++ [x.by_] ++ x.waiting.take k := by simpa using hc3
        have e : fRight f = false := by
         refine dup_false (R := x.waiting.drop (k + 1) ++ allOf (f.drop (i + 1))) ?_ hwm2
         rw [hall]
         have e2 : x.waiting = x.waiting.take k ++ w :: x.waiting.drop (k + 1) := by rw [← drop_at hw, List.take_append_drop]
         conv => lhs; rw [e2]
         simp
        rw [e]
        refine awp_seq ?_
        refine awp_region ?_
        refine aqs rfl (q_as (by constructor)) rfl ?_
        refine alist_nil ?_
        show AWP _ _ _ _
        refine awp_ret ?_
        repeat first | with_reducible refine then_ret ?_ | with_reducible refine blk_ret ?_
        apply retq (.inr rfl) (.cons (rok_t rfl) .nil)
        rotate_left
        ·exact ⟨rfl, rfl⟩
        repeat (first | exact List.Sublist.refl _ | exact List.nil_sublist _ | exact List.sublist_append_left _ _ | apply List.Sublist.cons)
       ·have hwm2 : w ∉ allOf (f.take i) ++ [x.by_] ++ x.waiting.take k := by simpa using hc3
        have ha5 := nodup_snoc ha4 hwm2
        have e5 : allOf (f.take i) ++ [x.by_] ++ x.waiting.take k ++ [w] = allOf (f.take i) ++ [x.by_] ++ x.waiting.take (k + 1) := by rw [take_next hw]; simp
        rw [e5] at ha5 hm5
        refine awp_skip ?_
        show AWP _ _ _ _
        refine awp_region ?_
        first | refine aqs rfl (q_add64 rfl rfl (by omega) (by omega)) rfl ?_ | refine aqs rfl (q_add rfl rfl) rfl ?_
        refine aqs rfl (q_mv (by constructor)) rfl ?_
        refine alist_nil ?_
        show ∃ y, _ ∧ _ ∧ _
        exact ⟨(k + 1, kv5), ⟨by show k + 1 ≤ x.waiting.length; omega, ha5, hm5⟩, by show x.waiting.length - (k + 1) < x.waiting.length - k; omega, .mk' ⟨by rfl, rfl, rfl, rfl, rfl, rfl, rfl, rfl, rfl, trivial⟩ (by repeat (first | exact List.Sublist.refl _ | exact List.nil_sublist _ | exact List.sublist_append_left _ _ | (apply List.Sublist.cons_cons) | (apply List.Sublist.cons)))⟩
      ·simp only [decide_eq_false_iff_not] at hc2
       have hkw : x.waiting.take k = x.waiting := List.take_of_length_le (by omega)
       rw [hkw, ← hnx] at ha4 hm4
       refine awp_exit ?_
       show AWP _ _ _ _
       refine awp_region ?_
       first | refine aqs rfl (q_add64 rfl rfl (by omega) (by omega)) rfl ?_ | refine aqs rfl (q_add rfl rfl) rfl ?_
       refine aqs rfl (q_mv (by constructor)) rfl ?_
       refine alist_nil ?_
       show ∃ y, _ ∧ _ ∧ _
       exact ⟨(i + 1, kvs', kv4), ⟨by show i + 1 ≤ f.length; omega, ht2, ha4, hup2, hm4⟩, by show f.length - (i + 1) < f.length - i; omega, .mk' ⟨by rfl, rfl, rfl, rfl, rfl, rfl, trivial⟩ (by repeat (first | exact List.Sublist.refl _ | exact List.nil_sublist _ | exact List.sublist_append_left _ _ | (apply List.Sublist.cons_cons) | (apply List.Sublist.cons)))⟩
   ·simp only [decide_eq_false_iff_not] at hc0
    have hif : i = f.length := by omega
    subst hif
    rw [List.take_length] at ht ha
    have e : fRight f = true := right_f.2 ⟨ht, ha⟩
    rw [e]
    refine awp_exit ?_
    show AWP _ _ _ _
    refine awp_seq ?_
    refine awp_region ?_
    refine aqs rfl (q_as (by constructor)) rfl ?_
    refine alist_nil ?_
    show AWP _ _ _ _
    refine awp_ret ?_
    repeat first | with_reducible refine then_ret ?_ | with_reducible refine blk_ret ?_
    apply retq (.inr rfl) (.cons (rok_t rfl) .nil)
    rotate_left
    ·exact ⟨rfl, rfl⟩
    repeat (first | exact List.Sublist.refl _ | exact List.nil_sublist _ | exact List.sublist_append_left _ _ | apply List.Sublist.cons)
end Go.Proofs.YtdlinfekifnmkaaAm
