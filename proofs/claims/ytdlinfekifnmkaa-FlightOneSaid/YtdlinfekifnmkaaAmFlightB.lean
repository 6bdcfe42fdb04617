/- Contracts of the layer 'flight', second part: the reference's deeds. Conditions: the lengths. -/
import Derived.Test.YtdlinfekifnmkaaAmFlight
set_option linter.unusedVariables false
set_option linter.unusedSimpArgs false
set_option maxRecDepth 20000
namespace Go.Proofs.YtdlinfekifnmkaaAm
open Go.Proofs
def beginA (g : Bool × List Fill × Int) : AV := .tup [.lit (.bool g.1), .ro (g.2.1.map Fill.cells), .lit (.int .i64 g.2.2)]
def doneA (g : List Int × List Fill × Int) : AV := .tup [.ro (g.1.map cI), .ro (g.2.1.map Fill.cells), .lit (.int .i64 g.2.2)]
def leaveA (g : List Fill × Int) : AV := .tup [.ro (g.1.map Fill.cells), .lit (.int .i64 g.2)]
theorem find_first {α : Type} {p : α → Bool} {f : List α} {i : Nat} {x : α} (hx : f[i]? = some x) (hp : p x = true) (hall : ∀ (j : Nat) (y : α), j < i → f[j]? = some y → p y = false) : f.findIdx? p = some i := by
  have hi := (List.getElem?_eq_some_iff.1 hx).1
  refine List.findIdx?_eq_some_iff_getElem.2 ⟨hi, ?_, fun j hj => ?_⟩
  · rw [List.getElem?_eq_getElem hi] at hx
    injection hx with hx
    rw [hx]; exact hp
  · have := hall j f[j] hj (List.getElem?_eq_getElem (by omega))
    rw [this]; simp
theorem find_no {α : Type} {p : α → Bool} {f : List α} (hall : ∀ (j : Nat) (y : α), f[j]? = some y → p y = false) : f.findIdx? p = none :=
  List.findIdx?_eq_none_iff.2 fun x hx => by
    obtain ⟨j, hj⟩ := List.mem_iff_getElem?.1 hx
    exact hall j x hj
theorem begin_bad {f : List Fill} {l r : ByteArray} {who : Int} (h : fRight f = false) : beginS f l r who = (false, [], 1) := by rw [beginS, if_pos h]
theorem begin_hit {f : List Fill} {l r : ByteArray} {who : Int} {i : Nat} {x : Fill} (h : ¬ fRight f = false) (hw : who ∉ allOf f) (hx : f[i]? = some x) (hp : isTexts l r x = true) (hall : ∀ (j : Nat) (y : Fill), j < i → f[j]? = some y → isTexts l r y = false) :
    beginS f l r who = (false, f.set i (moreW x who), 0) := by
  rw [beginS, if_neg h, if_neg hw, find_first hx hp hall]
  simp only [fth_of hx]
theorem begin_miss {f : List Fill} {l r : ByteArray} {who : Int} (h : ¬ fRight f = false) (hw : who ∉ allOf f) (hall : ∀ (j : Nat) (y : Fill), f[j]? = some y → isTexts l r y = false) :
    beginS f l r who = (true, f ++ [⟨l, r, who, []⟩], 0) := by
  rw [beginS, if_neg h, if_neg hw, find_no hall]
theorem done_bad {f : List Fill} {who : Int} (h : fRight f = false) : doneS f who = ([], [], 1) := by rw [doneS, if_pos h]
theorem done_hit {f : List Fill} {who : Int} {i : Nat} {x : Fill} (h : ¬ fRight f = false) (hx : f[i]? = some x) (hp : isBy who x = true) (hall : ∀ (j : Nat) (y : Fill), j < i → f[j]? = some y → isBy who y = false) :
    doneS f who = (x.waiting, f.take i ++ f.drop (i + 1), 0) := by
  rw [doneS, if_neg h, find_first hx hp hall]
  simp only [fth_of hx, List.eraseIdx_eq_take_drop_succ]
theorem done_miss {f : List Fill} {who : Int} (h : ¬ fRight f = false) (hall : ∀ (j : Nat) (y : Fill), f[j]? = some y → isBy who y = false) : doneS f who = ([], [], 10) := by
  rw [doneS, if_neg h, find_no hall]
theorem leave_bad {f : List Fill} {who : Int} (h : fRight f = false) : leaveS f who = ([], 1) := by rw [leaveS, if_pos h]
theorem leave_hit {f : List Fill} {who : Int} {i : Nat} {x : Fill} (h : ¬ fRight f = false) (hx : f[i]? = some x) (hp : isWaiting who x = true) (hall : ∀ (j : Nat) (y : Fill), j < i → f[j]? = some y → isWaiting who y = false) :
    leaveS f who = (f.set i (lessW x who), 0) := by
  rw [leaveS, if_neg h, find_first hx hp hall]
  simp only [fth_of hx]
theorem leave_miss {f : List Fill} {who : Int} (h : ¬ fRight f = false) (hall : ∀ (j : Nat) (y : Fill), f[j]? = some y → isWaiting who y = false) : leaveS f who = ([], 10) := by
  rw [leaveS, if_neg h, find_no hall]
theorem before_next {α : Type} {p : α → Bool} {f : List α} {i : Nat} {x : α} (h : ∀ (j : Nat) (y : α), j < i → f[j]? = some y → p y = false) (hx : f[i]? = some x) (hp : p x = false) : ∀ (j : Nat) (y : α), j < i + 1 → f[j]? = some y → p y = false := by
  intro j y hj hy
  by_cases e : j = i
  · subst e
    rw [hx] at hy
    injection hy with hy
    subst hy
    exact hp
  · exact h j y (by omega) hy
theorem fill_app (f : List Fill) (x : Fill) : ((f.map Fill.cells).take (f.map Fill.cells).length).drop 0 ++ [x.cells] = (f ++ [x]).map Fill.cells := by
  rw [List.take_length]; simp
theorem int_app3 (l : List Int) (x : Int) : ((l.map cI).take (l.map cI).length).drop 0 ++ [[AV.lit (.int .i64 x)]] = (l ++ [x]).map cI := by
  rw [List.take_length]; simp
set_option maxHeartbeats 2000000 in
theorem with152_c (f : List Fill) (hf : f.length ≤ 1000) (i : Nat) (hi : i < f.length) (x : Fill) (H : Heap) : QCall Try.prog 152 [.ro (f.map Fill.cells), .lit (.int .i64 i), .agg x.cells] H (.ro ((f.set i x).map Fill.cells)) := by
  refine QCall.any H ?_
  have hlen := lenFill f
  have hone := oneFill f
  have hat := get_map (f := Fill.cells) (fth_get hi)
  have hfl : (f.map Fill.cells).length = f.length := List.length_map ..
  have hset : (f.map Fill.cells).set i [AV.lit (.string x.left), .lit (.string x.right), .lit (.int .i64 x.by_), .ro (x.waiting.map cI)] = (f.set i x).map Fill.cells := by rw [List.map_set]
  refine acall_intro (n := 15) (rvs := [.tmp 6]) Try.func152 rfl rfl rfl (Nat.le_of_ble_eq_true rfl) ?_
  refine awp_seq ?_
  refine awp_region ?_
  (refine aes rfl (e_bx (by constructor) rfl rfl) rfl ?_; rintro _ _ ⟨u5, rfl, rfl⟩)
  refine aqs rfl (q_as (by constructor)) rfl ?_
  refine alist_nil ?_
  show AWP _ _ _ _
  refine awp_seq ?_
  refine awp_region ?_
  refine aqs rfl (q_mv (by constructor)) rfl ?_
  (refine aes rfl (e_apN Try.underlying112 sz115 by115 zr115 rfl (by first | exact .ro | exact .cro | exact .nil | exact SV.slA (by repeat (first | exact .here | assumption | (apply HAt.left; assumption) | apply HAt.there | apply HAt.right)) (by first | rfl | (simp; done) | (simp; omega) | (simp [*]; done) | fail)) (by first | assumption | (intro c hc; simp at hc; subst hc; rfl) | (simp; done) | fail) (by first | assumption | (intro c hc; simp at hc; subst hc; rfl) | (simp; done) | fail) (by simp; omega) (by decide) (by decide) rfl rfl) rfl ?_; rintro _ _ ⟨u9, rfl, rfl⟩)
  refine aqs rfl (q_as (by constructor)) rfl ?_
  refine alist_nil ?_
  show AWP _ _ _ _
  refine awp_seq ?_
  refine awp_region ?_
  refine aqs rfl (q_mv (by constructor)) rfl ?_
  refine aqs rfl (q_mv (by constructor)) rfl ?_
  first | refine aqs rfl (q_ldpW ag115 sz115 rfl (by repeat (first | exact .here | assumption | (apply HAt.left; assumption) | apply HAt.there | apply HAt.right)) (by first | rfl | assumption | (simp [*]; done) | fail) (by first | rfl | assumption | (simp [*]; done) | fail) (by decide)) rfl ?_ | refine aqs rfl (q_ldW ag115 sz115 rfl (by first | rfl | assumption | (simp [*]; done) | fail)) rfl ?_ | refine aqs rfl (q_ldpP ag115 sz115 rfl (by repeat (first | exact .here | assumption | (apply HAt.left; assumption) | apply HAt.there | apply HAt.right)) (by first | rfl | assumption | (simp [*]; done) | fail) (by first | decide | (simp; done) | omega | fail) (by decide) (by first | ((repeat constructor); done) | exact .same _)) rfl ?_ | refine aqs rfl (q_ldP ag115 sz115 rfl (by first | decide | (simp; done) | omega | fail) (by first | ((repeat constructor); done) | exact .same _)) rfl ?_
  first | refine aqs rfl (q_iaN Try.underlying112 sz115 (.inl rfl) rfl (by omega) (by first | rfl | assumption | (simp [*]; done) | fail) (by first | rfl | assumption | (simp [*]; done) | fail) (by decide) (by first | ((repeat constructor); done) | exact .same _)) rfl ?_ | refine aqs rfl (q_iaS Try.underlying112 sz115 rfl (by repeat (first | exact .here | assumption | (apply HAt.left; assumption) | apply HAt.there | apply HAt.right)) rfl (by omega) (by omega) (by first | exact Nat.zero_add _ | rfl)) rfl ?_ | refine aqs rfl (q_iaN Try.underlying112 sz115 (.inr rfl) rfl (by omega) (by first | rfl | assumption | (simp [*]; done) | fail) (by first | rfl | assumption | (simp [*]; done) | fail) (by decide) (by first | ((repeat constructor); done) | exact .same _)) rfl ?_
  first | (refine aen rfl (e_stW sz115 rfl (by repeat (first | exact .here | assumption | (apply HAt.left; assumption) | apply HAt.there | apply HAt.right)) (by constructor) (by first | rfl | assumption | (simp [*]; done) | fail) rfl (by repeat (first | exact .here | apply HSet.there))) ?_; rintro _ _ ⟨rfl, rfl⟩) | (refine aen rfl (e_stP sz115 rfl (by repeat (first | exact .here | assumption | (apply HAt.left; assumption) | apply HAt.there | apply HAt.right)) (by first | rfl | assumption | (simp [*]; done) | fail) (by constructor) (by first | rfl | assumption | (simp [*]; done) | fail) rfl (by first | decide | omega) (by first | ((repeat constructor); done) | exact .same _) (by first | exact .one | exact .set) (by repeat (first | exact .here | apply HSet.there))) ?_; rintro _ _ ⟨rfl, rfl⟩)
  refine alist_nil ?_
  show AWP _ _ _ _
  rw [show ((i : Int).toNat) = i from rfl, hset]
  show AWP _ _ _ _
  refine awp_seq ?_
  refine awp_region ?_
  refine aqs rfl (q_mv (by constructor)) rfl ?_
  refine aqs rfl (q_as (by constructor)) rfl ?_
  refine alist_nil ?_
  show AWP _ _ _ _
  refine awp_pub (u := u9) (by repeat (first | exact .here | assumption | (apply HAt.left; assumption) | apply HAt.there | apply HAt.right)) (by repeat (first | exact PubT.nil | (apply PubT.cons; (· first | exact .one (pub_all (by first | rfl | (simp; done) | (simp; omega) | (simp [*]; done) | fail)) | exact .one .same)) | exact PubT.same)) (by repeat (first | exact PubH.drop .same | (apply PubH.cons; (· exact .same)))) ?_
  show AWP _ _ _ _
  refine awp_ret ?_
  repeat first | with_reducible refine then_ret ?_ | with_reducible refine blk_ret ?_
  apply retq (.inr rfl) (.cons (rok_t rfl) .nil)
  rotate_left
  ·exact ⟨rfl, rfl⟩
  repeat (first | exact List.Sublist.refl _ | exact List.nil_sublist _ | exact List.sublist_append_left _ _ | apply List.Sublist.cons)
set_option maxHeartbeats 4000000 in
theorem begin98_c (f : List Fill) (hf : FLen f) (l r : ByteArray) (who : Int) (H : Heap) : QCall Try.prog 98 [.ro (f.map Fill.cells), .lit (.string l), .lit (.string r), .lit (.int .i64 who)] H (beginA (beginS f l r who)) := by
  refine QCall.any H ?_
  have hfn := hf.n
  have hlf := lenFill f
  have hof := oneFill f
  have hal := flen_take hf f.length
  rw [List.take_length] at hal
  refine acall_intro (n := 61) (rvs := [.tmp 8, .tmp 9, .tmp 10]) Try.func98 rfl rfl rfl (Nat.le_of_ble_eq_true rfl) ?_
  refine awp_seq ?_
  refine awp_region ?_
  refine aqs rfl (q_as (by constructor)) rfl ?_
  refine aqs rfl (q_as (by constructor)) rfl ?_
  refine aqs rfl (q_as (by constructor)) rfl ?_
  refine alist_nil ?_
  show AWP _ _ _ _
  refine awp_seq ?_
  refine awp_region ?_
  refine aqs rfl (q_mv (by constructor)) rfl ?_
  first | refine aqs rfl (e_callN cb94 (right94_c f hf _) rfl rfl) rfl ?_ | refine aqs rfl (e_callN cb94 (ACall.arg (right94_c f hf _) (by repeat (first | exact ArgL.nil | (apply ArgL.cons; (· first | exact .same | exact .cro | exact .nil))))) rfl rfl) rfl ?_
  refine aqs rfl (q_as (by constructor)) rfl ?_
  refine alist_nil ?_
  show AWP _ _ _ _
  refine awp_seq ?_
  refine awp_seq ?_
  refine awp_region ?_
  refine aqs rfl (q_mv (by constructor)) rfl ?_
  refine aqs rfl (q_not rfl) rfl ?_
  refine alist_nil ?_
  show AWP _ _ _ _
  refine awp_cond rfl (fun hc0 => ?_) (fun hc0 => ?_)
  ·have hr : fRight f = false := by simpa using hc0
   rw [begin_bad hr]
   refine awp_seq ?_
   refine awp_region ?_
   refine aqs rfl (q_as (by constructor)) rfl ?_
   refine aqs rfl (q_as (by constructor)) rfl ?_
   refine aqs rfl (q_as (by constructor)) rfl ?_
   refine alist_nil ?_
   show AWP _ _ _ _
   refine awp_nilro 9 rfl ?_
   show AWP _ _ _ _
   refine awp_ret ?_
   repeat first | with_reducible refine then_ret ?_ | with_reducible refine blk_ret ?_
   apply retq (.inr rfl) (.cons (rok_t rfl) (.cons (rok_t rfl) (.cons (rok_t rfl) .nil)))
   rotate_left
   ·exact ⟨rfl, rfl⟩
   repeat (first | exact List.Sublist.refl _ | exact List.nil_sublist _ | exact List.sublist_append_left _ _ | apply List.Sublist.cons)
  ·have hr : ¬ fRight f = false := by simpa using hc0
   refine awp_skip ?_
   show AWP _ _ _ _
   refine awp_seq ?_
   refine awp_seq ?_
   refine awp_region ?_
   refine aqs rfl (q_mv (by constructor)) rfl ?_
   first | refine aqs rfl (e_callN cb145 (all145_c f hf _) rfl rfl) rfl ?_ | refine aqs rfl (e_callN cb145 (ACall.arg (all145_c f hf _) (by repeat (first | exact ArgL.nil | (apply ArgL.cons; (· first | exact .same | exact .cro | exact .nil))))) rfl rfl) rfl ?_
   refine aqs rfl (q_mv (by constructor)) rfl ?_
   first | refine aqs rfl (e_callN cb146 (in146_c (allOf f) who (by omega) _) rfl rfl) rfl ?_ | refine aqs rfl (e_callN cb146 (ACall.arg (in146_c (allOf f) who (by omega) _) (by repeat (first | exact ArgL.nil | (apply ArgL.cons; (· first | exact .same | exact .cro | exact .nil))))) rfl rfl) rfl ?_
   refine alist_nil ?_
   show AWP _ _ _ _
   refine awp_cond rfl (fun hc1 => ?_) (fun hc1 => ?_)
   ·have hw : who ∈ allOf f := by simpa using hc1
    rw [begin_twice (by simpa using hr) hw]
    refine awp_seq ?_
    refine awp_region ?_
    refine aqs rfl (q_as (by constructor)) rfl ?_
    refine aqs rfl (q_as (by constructor)) rfl ?_
    refine aqs rfl (q_as (by constructor)) rfl ?_
    refine alist_nil ?_
    show AWP _ _ _ _
    refine awp_nilro 9 rfl ?_
    show AWP _ _ _ _
    refine awp_ret ?_
    repeat first | with_reducible refine then_ret ?_ | with_reducible refine blk_ret ?_
    apply retq (.inr rfl) (.cons (rok_t rfl) (.cons (rok_t rfl) (.cons (rok_t rfl) .nil)))
    rotate_left
    ·exact ⟨rfl, rfl⟩
    repeat (first | exact List.Sublist.refl _ | exact List.nil_sublist _ | exact List.sublist_append_left _ _ | apply List.Sublist.cons)
   ·have hw : who ∉ allOf f := by simpa using hc1
    refine awp_skip ?_
    show AWP _ _ _ _
    refine awp_seq ?_
    refine awp_seq ?_
    refine awp_region ?_
    refine aqs rfl (q_as (by constructor)) rfl ?_
    refine alist_nil ?_
    show AWP _ _ _ _
    refine awp_block ?_
    refine awp_loop_inv (fun i : Nat => ⟨[(12, .lit (.int .i64 i)), (0, .ro (f.map Fill.cells)), (1, .lit (.string l)), (2, .lit (.string r)), (3, .lit (.int .i64 who))], 61, []⟩) (fun i => i ≤ f.length ∧ ∀ (j : Nat) (y : Fill), j < i → f[j]? = some y → isTexts l r y = false) (fun i => f.length - i) 0 ?_ ?_ ?_
    ·exact ⟨Nat.zero_le _, fun j y h => absurd h (Nat.not_lt_zero _)⟩
    ·exact .mk' (by repeat (first | exact trivial | refine ⟨rfl, ?_⟩)) (by repeat (first | exact .refl _ | apply List.Sublist.cons_cons | apply List.Sublist.cons))
    ·rintro i ⟨hi, hall⟩
     refine awp_seq ?_
     refine awp_seq ?_
     refine awp_region ?_
     refine aqs rfl (q_mv (by constructor)) rfl ?_
     refine aqs rfl (q_mv (by constructor)) rfl ?_
     first | refine aqs rfl (q_len Try.underlying112 .ro) rfl ?_ | refine aqs rfl (q_lenO Try.underlying112 rfl (by repeat (first | exact .here | assumption | (apply HAt.left; assumption) | apply HAt.there | apply HAt.right)) (by first | omega | (simp; done) | (simp; omega) | fail) (by first | exact Nat.sub_zero _ | rfl)) rfl ?_ | refine aqs rfl (q_len Try.underlying112 .nil) rfl ?_ | refine aqs rfl (q_len Try.underlying112 .cro) rfl ?_
     refine aqs rfl (q_lss rfl rfl) rfl ?_
     refine alist_nil ?_
     show AWP _ _ _ _
     refine awp_cond rfl (fun hc2 => ?_) (fun hc2 => ?_)
     ·simp only [decide_eq_true_eq, List.length_map] at hc2
      obtain ⟨x, hs, hsm⟩ := get_lt (l := f) (i := i) (by omega)
      have hs2 := get_map (f := Fill.cells) hs
      have hxw := hf.w x hsm
      have hlw := lenInt3 x.waiting
      have how := oneInt3 x.waiting
      refine awp_skip ?_
      show AWP _ _ _ _
      refine awp_seq ?_
      refine awp_block ?_
      refine awp_seq ?_
      refine awp_region ?_
      refine aqs rfl (q_mv (by constructor)) rfl ?_
      refine aqs rfl (q_mv (by constructor)) rfl ?_
      first | refine aqs rfl (q_iaN Try.underlying112 sz115 (.inl rfl) rfl (by omega) (by first | rfl | assumption | (simp [*]; done) | fail) (by first | rfl | assumption | (simp [*]; done) | fail) (by decide) (by first | ((repeat constructor); done) | exact .same _)) rfl ?_ | refine aqs rfl (q_iaS Try.underlying112 sz115 rfl (by repeat (first | exact .here | assumption | (apply HAt.left; assumption) | apply HAt.there | apply HAt.right)) rfl (by omega) (by omega) (by first | exact Nat.zero_add _ | rfl)) rfl ?_ | refine aqs rfl (q_iaN Try.underlying112 sz115 (.inr rfl) rfl (by omega) (by first | rfl | assumption | (simp [*]; done) | fail) (by first | rfl | assumption | (simp [*]; done) | fail) (by decide) (by first | ((repeat constructor); done) | exact .same _)) rfl ?_
      first | refine aqs rfl (q_ldpW ag115 sz115 rfl (by repeat (first | exact .here | assumption | (apply HAt.left; assumption) | apply HAt.there | apply HAt.right)) (by first | rfl | assumption | (simp [*]; done) | fail) (by first | rfl | assumption | (simp [*]; done) | fail) (by decide)) rfl ?_ | refine aqs rfl (q_ldW ag115 sz115 rfl (by first | rfl | assumption | (simp [*]; done) | fail)) rfl ?_ | refine aqs rfl (q_ldpP ag115 sz115 rfl (by repeat (first | exact .here | assumption | (apply HAt.left; assumption) | apply HAt.there | apply HAt.right)) (by first | rfl | assumption | (simp [*]; done) | fail) (by first | decide | (simp; done) | omega | fail) (by decide) (by first | ((repeat constructor); done) | exact .same _)) rfl ?_ | refine aqs rfl (q_ldP ag115 sz115 rfl (by first | decide | (simp; done) | omega | fail) (by first | ((repeat constructor); done) | exact .same _)) rfl ?_
      (refine aes rfl (e_al (xs := [.lit (.string ⟨#[]⟩), .lit (.string ⟨#[]⟩), .lit (.int .i64 0), .lit (.slice none 0 0)]) (k := 4) zr115 (.same _) rfl) rfl ?_; rintro _ _ ⟨u13, rfl, rfl⟩)
      first | (refine aen rfl (e_stW sz115 rfl (by repeat (first | exact .here | assumption | (apply HAt.left; assumption) | apply HAt.there | apply HAt.right)) (by constructor) (by first | rfl | assumption | (simp [*]; done) | fail) rfl (by repeat (first | exact .here | apply HSet.there))) ?_; rintro _ _ ⟨rfl, rfl⟩) | (refine aen rfl (e_stP sz115 rfl (by repeat (first | exact .here | assumption | (apply HAt.left; assumption) | apply HAt.there | apply HAt.right)) (by first | rfl | assumption | (simp [*]; done) | fail) (by constructor) (by first | rfl | assumption | (simp [*]; done) | fail) rfl (by first | decide | omega) (by first | ((repeat constructor); done) | exact .same _) (by first | exact .one | exact .set) (by repeat (first | exact .here | apply HSet.there))) ?_; rintro _ _ ⟨rfl, rfl⟩)
      refine alist_nil ?_
      show AWP _ _ _ _
      refine awp_mid [(41, .lit (.bool ((x.left.toList == l.toList) && (x.right.toList == r.toList)))), (12, .lit (.int .i64 i)), (13, .ptr u13 0 0), (0, .ro (f.map Fill.cells)), (1, .lit (.string l)), (2, .lit (.string r)), (3, .lit (.int .i64 who))] ?_ ?_
      ·skip
       refine awp_region ?_
       all_goals (first | refine aqs rfl (q_fapP fl115_0 (by decide) rfl rfl) rfl ?_ | refine aqs rfl (q_faP fl115_0 (by decide) rfl (by first | ((repeat constructor); done) | exact .same _)) rfl ?_)
       all_goals (first | refine aqs rfl (q_ldpN ag9 rfl (by repeat (first | exact .here | assumption | (apply HAt.left; assumption) | apply HAt.there | apply HAt.right)) (by first | rfl | assumption | (simp [*]; done) | fail) (by first | rfl | assumption | (simp [*]; done) | fail) (by constructor)) rfl ?_ | refine aqs rfl (q_ld1N ag9 rfl (by constructor)) rfl ?_)
       all_goals (refine aqs rfl (q_mv (by constructor)) rfl ?_)
       all_goals (refine aqs rfl (q_seql rfl rfl) rfl ?_)
       all_goals (refine aqs rfl (q_mv (by constructor)) rfl ?_)
       all_goals try (refine acase (fun hb4 => ?_) (fun hb4 => ?_))
       all_goals first | (exfalso; cases hb4; done) | skip
       all_goals (first | refine ans rfl rfl ?_ | refine aqs rfl (q_fapP fl115_1 (by decide) rfl rfl) rfl ?_ | refine aqs rfl (q_faP fl115_1 (by decide) rfl (by first | ((repeat constructor); done) | exact .same _)) rfl ?_)
       all_goals (first | refine ans rfl rfl ?_ | refine aqs rfl (q_ldpN ag9 rfl (by repeat (first | exact .here | assumption | (apply HAt.left; assumption) | apply HAt.there | apply HAt.right)) (by first | rfl | assumption | (simp [*]; done) | fail) (by first | rfl | assumption | (simp [*]; done) | fail) (by constructor)) rfl ?_ | refine aqs rfl (q_ld1N ag9 rfl (by constructor)) rfl ?_)
       all_goals (first | refine ans rfl rfl ?_ | refine aqs rfl (q_mv (by constructor)) rfl ?_)
       all_goals (first | refine ans rfl rfl ?_ | refine aqs rfl (q_seql rfl rfl) rfl ?_)
       all_goals (first | refine aqs rfl (q_pickT rfl (by constructor)) rfl ?_ | refine aqs rfl (q_pickF rfl (by constructor)) rfl ?_)
       all_goals (refine alist_nil ?_)
       all_goals (exact ⟨rfl, .mk' (by repeat (first | exact trivial | refine ⟨rfl, ?_⟩ | (refine ⟨?_, ?_⟩; (· first | (rw [hb4]; rfl) | fail)))) (by repeat (first | exact .refl _ | exact List.nil_sublist _ | exact List.sublist_append_left _ _ | apply List.Sublist.cons))⟩)
      refine awp_cond rfl (fun hc3 => ?_) (fun hc3 => ?_)
      ·have hp : isTexts l r x = true := by
        rw [isTexts, ← str_eq, ← str_eq]; exact hc3
       rw [begin_hit hr hw hs hp hall]
       have hesA := int_app3 x.waiting who
       have hmlA : (x.waiting.map cI).length - 0 + 1 = (x.waiting ++ [who]).length := by simp
       refine awp_seq ?_
       refine awp_region ?_
       first | refine aqs rfl (q_fapP fl115_3 (by decide) rfl rfl) rfl ?_ | refine aqs rfl (q_faP fl115_3 (by decide) rfl (by first | ((repeat constructor); done) | exact .same _)) rfl ?_
       first | refine aqs rfl (q_ldpN ag25 rfl (by repeat (first | exact .here | assumption | (apply HAt.left; assumption) | apply HAt.there | apply HAt.right)) (by first | rfl | assumption | (simp [*]; done) | fail) (by first | rfl | assumption | (simp [*]; done) | fail) (by constructor)) rfl ?_ | refine aqs rfl (q_ld1N ag25 rfl (by constructor)) rfl ?_
       (refine aes rfl (e_apN Try.underlying25 sz3 by3 zr3 rfl (by first | exact .ro | exact .cro | exact .nil | exact SV.slA (by repeat (first | exact .here | assumption | (apply HAt.left; assumption) | apply HAt.there | apply HAt.right)) (by first | rfl | (simp; done) | (simp; omega) | (simp [*]; done) | fail)) (by first | assumption | (intro c hc; simp at hc; subst hc; rfl) | (simp; done) | fail) (by first | assumption | (intro c hc; simp at hc; subst hc; rfl) | (simp; done) | fail) (by first | (simp; done) | (simp; omega) | omega | fail) (by decide) (by decide) rfl rfl) rfl ?_; rintro _ _ ⟨u44, rfl, rfl⟩)
       refine aqs rfl (q_mv (by constructor)) rfl ?_
       first | refine aqs rfl (q_bs Try.underlying25 sz3 zr3 rfl (by first | ((repeat constructor); done) | exact .same _) rfl (by decide) (by repeat (first | exact BS.nil | (apply BS.cons; (· constructor); (· rfl); (· rfl); (· rfl); (· exact (by first | ((repeat constructor); done) | exact .same _)))))) rfl ?_ | (refine aes rfl (e_bs Try.underlying25 sz3 zr3 rfl (by first | ((repeat constructor); done) | exact .same _) rfl (by decide) (by repeat (first | exact BS.nil | (apply BS.cons; (· constructor); (· rfl); (· rfl); (· rfl); (· exact (by first | ((repeat constructor); done) | exact .same _)))))) rfl ?_; rintro _ _ ⟨u46, rfl, rfl⟩)
       first | refine aqs rfl (q_apC Try.underlying25 sz3 by3 zr3 (.inl rfl) (by first | exact .ro | exact .cro | exact .nil | exact SV.slA (by repeat (first | exact .here | assumption | (apply HAt.left; assumption) | apply HAt.there | apply HAt.right)) (by first | rfl | (simp; done) | (simp; omega) | (simp [*]; done) | fail)) (by first | assumption | (intro c hc; simp at hc; subst hc; rfl) | (simp; done) | fail) (by first | assumption | (intro c hc; simp at hc; subst hc; rfl) | (simp; done) | fail) (by first | omega | decide | (simp; omega) | assumption | fail) (by decide) (by decide) rfl (by first | rfl | (simp; done) | fail)) rfl ?_ | refine aqs rfl (q_apC Try.underlying25 sz3 by3 zr3 (.inr ⟨rfl, rfl⟩) (by first | exact .ro | exact .cro | exact .nil | exact SV.slA (by repeat (first | exact .here | assumption | (apply HAt.left; assumption) | apply HAt.there | apply HAt.right)) (by first | rfl | (simp; done) | (simp; omega) | (simp [*]; done) | fail)) (by first | assumption | (intro c hc; simp at hc; subst hc; rfl) | (simp; done) | fail) (by first | assumption | (intro c hc; simp at hc; subst hc; rfl) | (simp; done) | fail) (by first | omega | decide | (simp; omega) | assumption | fail) (by decide) (by decide) rfl (by first | rfl | (simp; done) | fail)) rfl ?_ | (refine aes rfl (e_apO Try.underlying25 sz3 by3 zr3 rfl (by repeat (first | exact .here | assumption | (apply HAt.left; assumption) | apply HAt.there | apply HAt.right)) (by first | exact Nat.le_refl _ | (simp; done) | fail) (by first | exact .ro | exact .cro | exact .nil | exact SV.slA (by repeat (first | exact .here | assumption | (apply HAt.left; assumption) | apply HAt.there | apply HAt.right)) (by first | rfl | (simp; done) | (simp; omega) | (simp [*]; done) | fail)) (by first | assumption | (intro c hc; simp at hc; subst hc; rfl) | (simp; done) | fail) (by first | assumption | (intro c hc; simp at hc; subst hc; rfl) | (simp; done) | fail) (by first | assumption | (intro c hc; simp at hc; subst hc; rfl) | (simp; done) | fail) (by first | (simp; done) | (simp; omega) | omega | fail) (by decide) (by decide) rfl (by first | exact hmlA | exact hmlB | (simp; done) | rfl | fail) (by first | exact hesA | exact hesB | fail) (fun v => (by repeat (first | exact .here | apply HSet.there)))) rfl ?_; rintro _ _ ⟨u47, rfl, rfl⟩) | (refine aes rfl (e_apN Try.underlying25 sz3 by3 zr3 rfl (by first | exact .ro | exact .cro | exact .nil | exact SV.slA (by repeat (first | exact .here | assumption | (apply HAt.left; assumption) | apply HAt.there | apply HAt.right)) (by first | rfl | (simp; done) | (simp; omega) | (simp [*]; done) | fail)) (by first | assumption | (intro c hc; simp at hc; subst hc; rfl) | (simp; done) | fail) (by first | assumption | (intro c hc; simp at hc; subst hc; rfl) | (simp; done) | fail) (by first | (simp; done) | (simp; omega) | omega | fail) (by decide) (by decide) rfl rfl) rfl ?_; rintro _ _ ⟨u47, rfl, rfl⟩)
       first | refine aqs rfl (q_fapP fl115_3 (by decide) rfl rfl) rfl ?_ | refine aqs rfl (q_faP fl115_3 (by decide) rfl (by first | ((repeat constructor); done) | exact .same _)) rfl ?_
       first | (refine aen rfl (e_stW sz25 rfl (by repeat (first | exact .here | assumption | (apply HAt.left; assumption) | apply HAt.there | apply HAt.right)) (by constructor) (by first | rfl | assumption | (simp [*]; done) | fail) rfl (by repeat (first | exact .here | apply HSet.there))) ?_; rintro _ _ ⟨rfl, rfl⟩) | (refine aen rfl (e_stP sz25 rfl (by repeat (first | exact .here | assumption | (apply HAt.left; assumption) | apply HAt.there | apply HAt.right)) (by first | rfl | assumption | (simp [*]; done) | fail) (by constructor) (by first | rfl | assumption | (simp [*]; done) | fail) rfl (by first | decide | omega) (by first | ((repeat constructor); done) | exact .same _) (by first | exact .one | exact .set) (by repeat (first | exact .here | apply HSet.there))) ?_; rintro _ _ ⟨rfl, rfl⟩)
       refine alist_nil ?_
       show AWP _ _ _ _
       refine awp_pub (u := u47) (by repeat (first | exact .here | assumption | (apply HAt.left; assumption) | apply HAt.there | apply HAt.right)) (by repeat (first | exact PubT.nil | (apply PubT.cons; (· first | exact .one (pub_all (by first | rfl | (simp; done) | (simp; omega) | (simp [*]; done) | fail)) | exact .agg (by repeat (first | exact PubL.nil | (apply PubL.cons; (· first | exact pub_all (by first | rfl | (simp; done) | (simp; omega) | (simp [*]; done) | fail) | exact .same)) | exact PubL.same)) | exact .one .same)) | exact PubT.same)) (by repeat (first | exact PubH.drop (by repeat (first | (apply PubR.cons; (· first | exact .arr (by repeat (first | exact PubE.nil | (apply PubE.cons; (· exact (by repeat (first | exact PubL.nil | (apply PubL.cons; (· first | exact pub_all (by first | rfl | (simp; done) | (simp; omega) | (simp [*]; done) | fail) | exact .same)) | exact PubL.same)))) | exact PubE.same)) | exact .same)) | exact PubR.same)) | (apply PubH.cons; (· first | exact .arr (by repeat (first | exact PubE.nil | (apply PubE.cons; (· exact (by repeat (first | exact PubL.nil | (apply PubL.cons; (· first | exact pub_all (by first | rfl | (simp; done) | (simp; omega) | (simp [*]; done) | fail) | exact .same)) | exact PubL.same)))) | exact PubE.same)) | exact .same)))) ?_
       show AWP _ _ _ _
       refine awp_seq ?_
       refine awp_region ?_
       refine aqs rfl (q_mv (by constructor)) rfl ?_
       refine aqs rfl (q_mv (by constructor)) rfl ?_
       first | refine aqs rfl (q_ldpW ag115 sz115 rfl (by repeat (first | exact .here | assumption | (apply HAt.left; assumption) | apply HAt.there | apply HAt.right)) (by first | rfl | assumption | (simp [*]; done) | fail) (by first | rfl | assumption | (simp [*]; done) | fail) (by decide)) rfl ?_ | refine aqs rfl (q_ldW ag115 sz115 rfl (by first | rfl | assumption | (simp [*]; done) | fail)) rfl ?_ | refine aqs rfl (q_ldpP ag115 sz115 rfl (by repeat (first | exact .here | assumption | (apply HAt.left; assumption) | apply HAt.there | apply HAt.right)) (by first | rfl | assumption | (simp [*]; done) | fail) (by first | decide | (simp; done) | omega | fail) (by decide) (by first | ((repeat constructor); done) | exact .same _)) rfl ?_ | refine aqs rfl (q_ldP ag115 sz115 rfl (by first | decide | (simp; done) | omega | fail) (by first | ((repeat constructor); done) | exact .same _)) rfl ?_
       first | refine aqs rfl (e_callN cb152 (with152_c f hfn i (by omega) (moreW x who) _) rfl rfl) rfl ?_ | refine aqs rfl (e_callN cb152 (ACall.arg (with152_c f hfn i (by omega) (moreW x who) _) (by repeat (first | exact ArgL.nil | (apply ArgL.cons; (· first | exact .same | exact .cro | exact .nil))))) rfl rfl) rfl ?_
       refine aqs rfl (q_as (by constructor)) rfl ?_
       refine aqs rfl (q_as (by constructor)) rfl ?_
       refine aqs rfl (q_as (by constructor)) rfl ?_
       refine alist_nil ?_
       show AWP _ _ _ _
       refine awp_ret ?_
       repeat first | with_reducible refine then_ret ?_ | with_reducible refine blk_ret ?_
       apply retq (.inr rfl) (.cons (rok_t rfl) (.cons (rok_t rfl) (.cons (rok_t rfl) .nil)))
       rotate_left
       ·exact ⟨rfl, rfl⟩
       repeat (first | exact List.Sublist.refl _ | exact List.nil_sublist _ | exact List.sublist_append_left _ _ | apply List.Sublist.cons)
      ·have hp : isTexts l r x = false := by
        rw [isTexts, ← str_eq, ← str_eq]; exact hc3
       refine awp_skip ?_
       show AWP _ _ _ _
       refine awp_region ?_
       refine aqs rfl (q_mv (by constructor)) rfl ?_
       first | refine aqs rfl (q_add64 rfl rfl (by omega) (by omega)) rfl ?_ | refine aqs rfl (q_add rfl rfl) rfl ?_
       refine aqs rfl (q_as (by constructor)) rfl ?_
       refine alist_nil ?_
       show ∃ y, _ ∧ _ ∧ _
       exact ⟨i + 1, ⟨by omega, before_next hall hs hp⟩, by omega, .mk' ⟨by rfl, rfl, rfl, rfl, rfl, trivial⟩ (by repeat (first | exact List.Sublist.refl _ | exact List.nil_sublist _ | exact List.sublist_append_left _ _ | (apply List.Sublist.cons_cons) | (apply List.Sublist.cons)))⟩
     ·simp only [decide_eq_false_iff_not, List.length_map] at hc2
      have hn : ∀ (j : Nat) (y : Fill), f[j]? = some y → isTexts l r y = false := fun j y hy => hall j y (by have := (List.getElem?_eq_some_iff.1 hy).1; omega) hy
      rw [begin_miss hr hw hn]
      have hesB := fill_app f ⟨l, r, who, []⟩
      have hmlB : (f.map Fill.cells).length - 0 + 1 = (f ++ [(⟨l, r, who, []⟩ : Fill)]).length := by simp
      refine awp_exit ?_
      show AWP _ _ _ _
      refine awp_seq ?_
      refine awp_region ?_
      refine aqs rfl (q_mv (by constructor)) rfl ?_
      (refine aes rfl (e_apN Try.underlying112 sz115 by115 zr115 rfl (by first | exact .ro | exact .cro | exact .nil | exact SV.slA (by repeat (first | exact .here | assumption | (apply HAt.left; assumption) | apply HAt.there | apply HAt.right)) (by first | rfl | (simp; done) | (simp; omega) | (simp [*]; done) | fail)) (by first | assumption | (intro c hc; simp at hc; subst hc; rfl) | (simp; done) | fail) (by first | assumption | (intro c hc; simp at hc; subst hc; rfl) | (simp; done) | fail) (by first | (simp; done) | (simp; omega) | omega | fail) (by decide) (by decide) rfl rfl) rfl ?_; rintro _ _ ⟨u54, rfl, rfl⟩)
      refine aqs rfl (q_mv (by constructor)) rfl ?_
      refine aqs rfl (q_mv (by constructor)) rfl ?_
      refine aqs rfl (q_mv (by constructor)) rfl ?_
      refine aqs rfl (q_bd st115 zr115 (by first | ((repeat constructor); done) | exact .same _) (by repeat (first | exact BD.nil | (apply BD.cons; (· rfl); (· constructor); (· rfl); (· rfl); (· exact Nat.le_of_ble_eq_true (by rfl)); (· exact (by first | ((repeat constructor); done) | exact .same _)))))) rfl ?_
      refine alist_niltmp (cs2 := [.lit (.string l), .lit (.string r), .lit (.int .i64 who), .ro []]) 58 rfl (.cons .same (.cons .same (.cons .same (.cons .nil .nil)))) ?_
      first | refine aqs rfl (q_bs Try.underlying112 sz115 zr115 rfl (by first | ((repeat constructor); done) | exact .same _) rfl (by decide) (by repeat (first | exact BS.nil | (apply BS.cons; (· constructor); (· rfl); (· rfl); (· rfl); (· exact (by first | ((repeat constructor); done) | exact .same _)))))) rfl ?_ | (refine aes rfl (e_bs Try.underlying112 sz115 zr115 rfl (by first | ((repeat constructor); done) | exact .same _) rfl (by decide) (by repeat (first | exact BS.nil | (apply BS.cons; (· constructor); (· rfl); (· rfl); (· rfl); (· exact (by first | ((repeat constructor); done) | exact .same _)))))) rfl ?_; rintro _ _ ⟨u59, rfl, rfl⟩)
      first | refine aqs rfl (q_apC Try.underlying112 sz115 by115 zr115 (.inl rfl) (by first | exact .ro | exact .cro | exact .nil | exact SV.slA (by repeat (first | exact .here | assumption | (apply HAt.left; assumption) | apply HAt.there | apply HAt.right)) (by first | rfl | (simp; done) | (simp; omega) | (simp [*]; done) | fail)) (by first | assumption | (intro c hc; simp at hc; subst hc; rfl) | (simp; done) | fail) (by first | assumption | (intro c hc; simp at hc; subst hc; rfl) | (simp; done) | fail) (by first | omega | decide | (simp; omega) | assumption | fail) (by decide) (by decide) rfl (by first | rfl | (simp; done) | fail)) rfl ?_ | refine aqs rfl (q_apC Try.underlying112 sz115 by115 zr115 (.inr ⟨rfl, rfl⟩) (by first | exact .ro | exact .cro | exact .nil | exact SV.slA (by repeat (first | exact .here | assumption | (apply HAt.left; assumption) | apply HAt.there | apply HAt.right)) (by first | rfl | (simp; done) | (simp; omega) | (simp [*]; done) | fail)) (by first | assumption | (intro c hc; simp at hc; subst hc; rfl) | (simp; done) | fail) (by first | assumption | (intro c hc; simp at hc; subst hc; rfl) | (simp; done) | fail) (by first | omega | decide | (simp; omega) | assumption | fail) (by decide) (by decide) rfl (by first | rfl | (simp; done) | fail)) rfl ?_ | (refine aes rfl (e_apO Try.underlying112 sz115 by115 zr115 rfl (by repeat (first | exact .here | assumption | (apply HAt.left; assumption) | apply HAt.there | apply HAt.right)) (by first | exact Nat.le_refl _ | (simp; done) | fail) (by first | exact .ro | exact .cro | exact .nil | exact SV.slA (by repeat (first | exact .here | assumption | (apply HAt.left; assumption) | apply HAt.there | apply HAt.right)) (by first | rfl | (simp; done) | (simp; omega) | (simp [*]; done) | fail)) (by first | assumption | (intro c hc; simp at hc; subst hc; rfl) | (simp; done) | fail) (by first | assumption | (intro c hc; simp at hc; subst hc; rfl) | (simp; done) | fail) (by first | assumption | (intro c hc; simp at hc; subst hc; rfl) | (simp; done) | fail) (by first | (simp; done) | (simp; omega) | omega | fail) (by decide) (by decide) rfl (by first | exact hmlA | exact hmlB | (simp; done) | rfl | fail) (by first | exact hesA | exact hesB | fail) (fun v => (by repeat (first | exact .here | apply HSet.there)))) rfl ?_; rintro _ _ ⟨u60, rfl, rfl⟩) | (refine aes rfl (e_apN Try.underlying112 sz115 by115 zr115 rfl (by first | exact .ro | exact .cro | exact .nil | exact SV.slA (by repeat (first | exact .here | assumption | (apply HAt.left; assumption) | apply HAt.there | apply HAt.right)) (by first | rfl | (simp; done) | (simp; omega) | (simp [*]; done) | fail)) (by first | assumption | (intro c hc; simp at hc; subst hc; rfl) | (simp; done) | fail) (by first | assumption | (intro c hc; simp at hc; subst hc; rfl) | (simp; done) | fail) (by first | (simp; done) | (simp; omega) | omega | fail) (by decide) (by decide) rfl rfl) rfl ?_; rintro _ _ ⟨u60, rfl, rfl⟩)
      refine aqs rfl (q_as (by constructor)) rfl ?_
      refine aqs rfl (q_as (by constructor)) rfl ?_
      refine aqs rfl (q_as (by constructor)) rfl ?_
      refine alist_nil ?_
      show AWP _ _ _ _
      refine awp_pub (u := u60) (by repeat (first | exact .here | assumption | (apply HAt.left; assumption) | apply HAt.there | apply HAt.right)) (by repeat (first | exact PubT.nil | (apply PubT.cons; (· first | exact .one (pub_all (by first | rfl | (simp; done) | (simp; omega) | (simp [*]; done) | fail)) | exact .one .same)) | exact PubT.same)) (by repeat (first | exact PubH.drop .same | (apply PubH.cons; (· exact .same)))) ?_
      show AWP _ _ _ _
      refine awp_ret ?_
      repeat first | with_reducible refine then_ret ?_ | with_reducible refine blk_ret ?_
      apply retq (.inr rfl) (.cons (rok_t rfl) (.cons (rok_t rfl) (.cons (rok_t rfl) .nil)))
      rotate_left
      ·exact ⟨rfl, rfl⟩
      repeat (first | exact List.Sublist.refl _ | exact List.nil_sublist _ | exact List.sublist_append_left _ _ | apply List.Sublist.cons)
set_option maxHeartbeats 4000000 in
theorem done101_c (f : List Fill) (hf : FLen f) (who : Int) (H : Heap) : QCall Try.prog 101 [.ro (f.map Fill.cells), .lit (.int .i64 who)] H (doneA (doneS f who)) := by
  refine QCall.any H ?_
  have hfn := hf.n
  refine acall_intro (n := 40) (rvs := [.tmp 4, .tmp 5, .tmp 6]) Try.func101 rfl rfl rfl (Nat.le_of_ble_eq_true rfl) ?_
  refine awp_seq ?_
  refine awp_region ?_
  refine aqs rfl (q_as (by constructor)) rfl ?_
  refine aqs rfl (q_as (by constructor)) rfl ?_
  refine aqs rfl (q_as (by constructor)) rfl ?_
  refine alist_nil ?_
  show AWP _ _ _ _
  refine awp_seq ?_
  refine awp_region ?_
  refine aqs rfl (q_mv (by constructor)) rfl ?_
  first | refine aqs rfl (e_callN cb94 (right94_c f hf _) rfl rfl) rfl ?_ | refine aqs rfl (e_callN cb94 (ACall.arg (right94_c f hf _) (by repeat (first | exact ArgL.nil | (apply ArgL.cons; (· first | exact .same | exact .cro | exact .nil))))) rfl rfl) rfl ?_
  refine aqs rfl (q_as (by constructor)) rfl ?_
  refine alist_nil ?_
  show AWP _ _ _ _
  refine awp_seq ?_
  refine awp_seq ?_
  refine awp_region ?_
  refine aqs rfl (q_mv (by constructor)) rfl ?_
  refine aqs rfl (q_not rfl) rfl ?_
  refine alist_nil ?_
  show AWP _ _ _ _
  refine awp_cond rfl (fun hc0 => ?_) (fun hc0 => ?_)
  ·have hr : fRight f = false := by simpa using hc0
   rw [done_bad hr]
   refine awp_seq ?_
   refine awp_region ?_
   refine aqs rfl (q_as (by constructor)) rfl ?_
   refine aqs rfl (q_as (by constructor)) rfl ?_
   refine aqs rfl (q_as (by constructor)) rfl ?_
   refine alist_nil ?_
   show AWP _ _ _ _
   refine awp_nilro 4 rfl ?_
   refine awp_nilro 5 rfl ?_
   show AWP _ _ _ _
   refine awp_ret ?_
   repeat first | with_reducible refine then_ret ?_ | with_reducible refine blk_ret ?_
   apply retq (.inr rfl) (.cons (rok_t rfl) (.cons (rok_t rfl) (.cons (rok_t rfl) .nil)))
   rotate_left
   ·exact ⟨rfl, rfl⟩
   repeat (first | exact List.Sublist.refl _ | exact List.nil_sublist _ | exact List.sublist_append_left _ _ | apply List.Sublist.cons)
  ·have hr : ¬ fRight f = false := by simpa using hc0
   refine awp_skip ?_
   show AWP _ _ _ _
   refine awp_seq ?_
   refine awp_seq ?_
   refine awp_region ?_
   refine aqs rfl (q_as (by constructor)) rfl ?_
   refine alist_nil ?_
   show AWP _ _ _ _
   refine awp_block ?_
   refine awp_loop_inv (fun i : Nat => ⟨[(8, .lit (.int .i64 i)), (0, .ro (f.map Fill.cells)), (1, .lit (.int .i64 who))], 40, []⟩) (fun i => i ≤ f.length ∧ ∀ (j : Nat) (y : Fill), j < i → f[j]? = some y → isBy who y = false) (fun i => f.length - i) 0 ?_ ?_ ?_
   ·exact ⟨Nat.zero_le _, fun j y h => absurd h (Nat.not_lt_zero _)⟩
   ·exact .mk' (by repeat (first | exact trivial | refine ⟨rfl, ?_⟩)) (by repeat (first | exact .refl _ | apply List.Sublist.cons_cons | apply List.Sublist.cons))
   ·rintro i ⟨hi, hall⟩
    refine awp_seq ?_
    refine awp_seq ?_
    refine awp_region ?_
    refine aqs rfl (q_mv (by constructor)) rfl ?_
    refine aqs rfl (q_mv (by constructor)) rfl ?_
    first | refine aqs rfl (q_len Try.underlying112 .ro) rfl ?_ | refine aqs rfl (q_lenO Try.underlying112 rfl (by repeat (first | exact .here | assumption | (apply HAt.left; assumption) | apply HAt.there | apply HAt.right)) (by first | omega | (simp; done) | (simp; omega) | fail) (by first | exact Nat.sub_zero _ | rfl)) rfl ?_ | refine aqs rfl (q_len Try.underlying112 .nil) rfl ?_ | refine aqs rfl (q_len Try.underlying112 .cro) rfl ?_
    refine aqs rfl (q_lss rfl rfl) rfl ?_
    refine alist_nil ?_
    show AWP _ _ _ _
    refine awp_cond rfl (fun hc1 => ?_) (fun hc1 => ?_)
    ·simp only [decide_eq_true_eq, List.length_map] at hc1
     obtain ⟨x, hs, hsm⟩ := get_lt (l := f) (i := i) (by omega)
     have hs2 := get_map (f := Fill.cells) hs
     refine awp_skip ?_
     show AWP _ _ _ _
     refine awp_seq ?_
     refine awp_block ?_
     refine awp_seq ?_
     refine awp_region ?_
     refine aqs rfl (q_mv (by constructor)) rfl ?_
     refine aqs rfl (q_mv (by constructor)) rfl ?_
     first | refine aqs rfl (q_iaN Try.underlying112 sz115 (.inl rfl) rfl (by omega) (by first | rfl | assumption | (simp [*]; done) | fail) (by first | rfl | assumption | (simp [*]; done) | fail) (by decide) (by first | ((repeat constructor); done) | exact .same _)) rfl ?_ | refine aqs rfl (q_iaS Try.underlying112 sz115 rfl (by repeat (first | exact .here | assumption | (apply HAt.left; assumption) | apply HAt.there | apply HAt.right)) rfl (by omega) (by omega) (by first | exact Nat.zero_add _ | rfl)) rfl ?_ | refine aqs rfl (q_iaN Try.underlying112 sz115 (.inr rfl) rfl (by omega) (by first | rfl | assumption | (simp [*]; done) | fail) (by first | rfl | assumption | (simp [*]; done) | fail) (by decide) (by first | ((repeat constructor); done) | exact .same _)) rfl ?_
     first | refine aqs rfl (q_fapP fl115_2 (by decide) rfl rfl) rfl ?_ | refine aqs rfl (q_faP fl115_2 (by decide) rfl (by first | ((repeat constructor); done) | exact .same _)) rfl ?_
     first | refine aqs rfl (q_ldpN ag3 rfl (by repeat (first | exact .here | assumption | (apply HAt.left; assumption) | apply HAt.there | apply HAt.right)) (by first | rfl | assumption | (simp [*]; done) | fail) (by first | rfl | assumption | (simp [*]; done) | fail) (by constructor)) rfl ?_ | refine aqs rfl (q_ld1N ag3 rfl (by constructor)) rfl ?_
     refine aqs rfl (q_mv (by constructor)) rfl ?_
     refine aqs rfl (q_eql rfl rfl) rfl ?_
     refine alist_nil ?_
     show AWP _ _ _ _
     refine awp_cond rfl (fun hc2 => ?_) (fun hc2 => ?_)
     ·have hp : isBy who x = true := hc2
      rw [done_hit hr hs hp hall]
      have hl1 := lenFill (f.take i)
      have ho1 := oneFill (f.take i)
      have hl2 := lenFill (f.drop (i + 1))
      have ho2 := oneFill (f.drop (i + 1))
      have hfl : (f.map Fill.cells).length = f.length := List.length_map ..
      have hes : (((f.take i).map Fill.cells).take ((f.take i).map Fill.cells).length).drop 0 ++ (f.drop (i + 1)).map Fill.cells = (f.take i ++ f.drop (i + 1)).map Fill.cells := by rw [List.take_length]; simp
      have hml : ((f.take i).map Fill.cells).length - 0 + ((f.drop (i + 1)).map Fill.cells).length = (f.take i ++ f.drop (i + 1)).length := by simp
      have hby : (((f.take i).map Fill.cells).length - 0 + ((f.drop (i + 1)).map Fill.cells).length) * 64 ≤ 140737488355328 := by rw [hml]; simp; omega
      refine awp_seq ?_
      refine awp_draw 14 [(0, false), (1, false), (2, false), (3, false), (4, false), (5, false), (6, false), (7, false), (9, false), (10, false), (11, false), (12, false), (8, true), (13, true)] _ ([]) mixed (by kernel_rfl) (perm0 _) ?_
      refine glq rfl (.inl ⟨rfl, q_mv (by constructor)⟩) rfl ?_
      refine glq rfl (.inl ⟨rfl, q_mv (by constructor)⟩) rfl ?_
      first | refine glq rfl (.inl ⟨rfl, q_iaN Try.underlying112 sz115 (.inl rfl) rfl (by omega) (by first | rfl | assumption | (simp [*]; done) | fail) (by first | rfl | assumption | (simp [*]; done) | fail) (by decide) (by first | ((repeat constructor); done) | exact .same _)⟩) rfl ?_ | refine glq rfl (.inl ⟨rfl, q_iaS Try.underlying112 sz115 rfl (by repeat (first | exact .here | assumption | (apply HAt.left; assumption) | apply HAt.there | apply HAt.right)) rfl (by omega) (by omega) (by first | exact Nat.zero_add _ | rfl)⟩) rfl ?_ | refine glq rfl (.inl ⟨rfl, q_iaN Try.underlying112 sz115 (.inr rfl) rfl (by omega) (by first | rfl | assumption | (simp [*]; done) | fail) (by first | rfl | assumption | (simp [*]; done) | fail) (by decide) (by first | ((repeat constructor); done) | exact .same _)⟩) rfl ?_
      first | refine glq rfl (.inl ⟨rfl, q_fapP fl115_3 (by decide) rfl rfl⟩) rfl ?_ | refine glq rfl (.inl ⟨rfl, q_faP fl115_3 (by decide) rfl (by first | ((repeat constructor); done) | exact .same _)⟩) rfl ?_
      first | refine glq rfl (.inl ⟨rfl, q_ldpN ag25 rfl (by repeat (first | exact .here | assumption | (apply HAt.left; assumption) | apply HAt.there | apply HAt.right)) (by first | rfl | assumption | (simp [*]; done) | fail) (by first | rfl | assumption | (simp [*]; done) | fail) (by constructor)⟩) rfl ?_ | refine glq rfl (.inl ⟨rfl, q_ld1N ag25 rfl (by constructor)⟩) rfl ?_
      refine glq rfl (.inl ⟨rfl, q_mv (by constructor)⟩) rfl ?_
      refine glq rfl (.inl ⟨rfl, q_mv (by constructor)⟩) rfl ?_
      first | refine glq rfl (.inl ⟨rfl, castQ (r2 := .ro ((f.take i).map Fill.cells)) (q_slR Try.underlying112 sz115 (.inl rfl) rfl (by first | (refine ⟨_, _, rfl, ?_⟩; with_reducible rfl) | exact bnd_int rfl (by omega)) (by first | omega | (simp; done) | (simp; omega) | fail) (by first | omega | (simp; done) | (simp; omega) | fail) (by first | rfl | assumption | (simp [*]; done) | fail)) (by simp)⟩) rfl ?_ | refine glq rfl (.inl ⟨rfl, castQ (r2 := .ro ((f.take i).map Fill.cells)) (q_slO Try.underlying112 sz115 rfl (by repeat (first | exact .here | assumption | (apply HAt.left; assumption) | apply HAt.there | apply HAt.right)) rfl (by first | (refine ⟨_, _, rfl, ?_⟩; with_reducible rfl) | exact bnd_int rfl (by omega)) (by first | omega | (simp; done) | (simp; omega) | fail) (by first | omega | (simp; done) | (simp; omega) | fail) (by first | exact Nat.zero_add _ | rfl) (by first | exact Nat.zero_add _ | rfl)) (by simp)⟩) rfl ?_
      refine glq rfl (.inl ⟨rfl, q_mv (by constructor)⟩) rfl ?_
      refine glq rfl (.inl ⟨rfl, q_mv (by constructor)⟩) rfl ?_
      first | refine glq rfl (.inl ⟨rfl, q_add64 rfl rfl (by omega) (by omega)⟩) rfl ?_ | refine glq rfl (.inl ⟨rfl, q_add rfl rfl⟩) rfl ?_
      first | refine glq rfl (.inl ⟨rfl, castQ (r2 := .ro ((f.drop (i + 1)).map Fill.cells)) (q_slR Try.underlying112 sz115 (.inl rfl) (by first | (refine ⟨_, _, rfl, ?_⟩; with_reducible rfl) | exact bnd_int rfl (by omega)) rfl (by first | omega | (simp; done) | (simp; omega) | fail) (by first | omega | (simp; done) | (simp; omega) | fail) (by first | rfl | assumption | (simp [*]; done) | fail)) (by (show AV.ro _ = AV.ro _; congr 1; rw [show ((i : Int) + 1).toNat = i + 1 by omega, List.take_of_length_le (by rw [List.length_drop]; exact Nat.le_refl _), List.map_drop]))⟩) rfl ?_ | refine glq rfl (.inl ⟨rfl, castQ (r2 := .ro ((f.drop (i + 1)).map Fill.cells)) (q_slO Try.underlying112 sz115 rfl (by repeat (first | exact .here | assumption | (apply HAt.left; assumption) | apply HAt.there | apply HAt.right)) (by first | (refine ⟨_, _, rfl, ?_⟩; with_reducible rfl) | exact bnd_int rfl (by omega)) rfl (by first | omega | (simp; done) | (simp; omega) | fail) (by first | omega | (simp; done) | (simp; omega) | fail) (by first | exact Nat.zero_add _ | rfl) (by first | exact Nat.zero_add _ | rfl)) (by (show AV.ro _ = AV.ro _; congr 1; rw [show ((i : Int) + 1).toNat = i + 1 by omega, List.take_of_length_le (by rw [List.length_drop]; exact Nat.le_refl _), List.map_drop]))⟩) rfl ?_
      (refine gla rfl rfl (EOp.frame (e_apN Try.underlying112 sz115 by115 zr115 rfl (by first | exact .ro | exact .cro | exact .nil | exact SV.slA (by repeat (first | exact .here | assumption | (apply HAt.left; assumption) | apply HAt.there | apply HAt.right)) (by first | rfl | (simp; done) | (simp; omega) | (simp [*]; done) | fail)) (by first | assumption | (intro c hc; simp at hc; subst hc; rfl) | (simp; done) | fail) (by first | assumption | (intro c hc; simp at hc; subst hc; rfl) | (simp; done) | fail) (by first | (simp; done) | (simp; omega) | omega | exact hby | fail) (by decide) (by decide) rfl rfl)) rfl ?_; rintro _ _ ⟨u34, rfl, rfl⟩)
      first | (refine gla rfl rfl (EOp.frame (e_apO Try.underlying112 sz115 by115 zr115 rfl (by repeat (first | exact .here | assumption | (apply HAt.left; assumption) | apply HAt.there | apply HAt.right)) (by first | exact Nat.le_refl _ | (simp; done) | fail) (by first | exact .ro | exact .cro | exact .nil | exact SV.slA (by repeat (first | exact .here | assumption | (apply HAt.left; assumption) | apply HAt.there | apply HAt.right)) (by first | rfl | (simp; done) | (simp; omega) | (simp [*]; done) | fail)) (by first | assumption | (intro c hc; simp at hc; subst hc; rfl) | (simp; done) | fail) (by first | assumption | (intro c hc; simp at hc; subst hc; rfl) | (simp; done) | fail) (by first | assumption | (intro c hc; simp at hc; subst hc; rfl) | (simp; done) | fail) (by first | (simp; done) | (simp; omega) | omega | exact hby | fail) (by decide) (by decide) rfl (by first | exact hml | rfl | fail) hes (fun v => (by repeat (first | exact .here | apply HSet.there))))) rfl ?_; rintro _ _ ⟨u39, rfl, rfl⟩) | (refine gla rfl rfl (EOp.frame (e_apN Try.underlying112 sz115 by115 zr115 rfl (by first | exact .ro | exact .cro | exact .nil | exact SV.slA (by repeat (first | exact .here | assumption | (apply HAt.left; assumption) | apply HAt.there | apply HAt.right)) (by first | rfl | (simp; done) | (simp; omega) | (simp [*]; done) | fail)) (by first | assumption | (intro c hc; simp at hc; subst hc; rfl) | (simp; done) | fail) (by first | assumption | (intro c hc; simp at hc; subst hc; rfl) | (simp; done) | fail) (by first | (simp; done) | (simp; omega) | omega | exact hby | fail) (by decide) (by decide) rfl rfl)) rfl ?_; rintro _ _ ⟨u39, rfl, rfl⟩)
      refine gldA ?_
      refine aqs rfl (q_as (by constructor)) rfl ?_
      refine aqs rfl (q_as (by constructor)) rfl ?_
      refine aqs rfl (q_as (by constructor)) rfl ?_
      refine alist_nil ?_
      show AWP _ _ _ _
      refine awp_pub (u := u39) (by repeat (first | exact .here | assumption | (apply HAt.left; assumption) | apply HAt.there | apply HAt.right)) (by repeat (first | exact PubT.nil | (apply PubT.cons; (· first | exact .one (pub_all (by first | rfl | (simp; done) | (simp; omega) | (simp [*]; done) | fail)) | exact .one .same)) | exact PubT.same)) (by repeat (first | exact PubH.drop .same | (apply PubH.cons; (· exact .same)))) ?_
      show AWP _ _ _ _
      refine awp_ret ?_
      repeat first | with_reducible refine then_ret ?_ | with_reducible refine blk_ret ?_
      apply retq (.inr rfl) (.cons (rok_t rfl) (.cons (rok_t rfl) (.cons (rok_t rfl) .nil)))
      rotate_left
      ·exact ⟨rfl, rfl⟩
      repeat (first | exact List.Sublist.refl _ | exact List.nil_sublist _ | exact List.sublist_append_left _ _ | apply List.Sublist.cons)
     ·have hp : isBy who x = false := hc2
      refine awp_skip ?_
      show AWP _ _ _ _
      refine awp_region ?_
      refine aqs rfl (q_mv (by constructor)) rfl ?_
      first | refine aqs rfl (q_add64 rfl rfl (by omega) (by omega)) rfl ?_ | refine aqs rfl (q_add rfl rfl) rfl ?_
      refine aqs rfl (q_as (by constructor)) rfl ?_
      refine alist_nil ?_
      show ∃ y, _ ∧ _ ∧ _
      exact ⟨i + 1, ⟨by omega, before_next hall hs hp⟩, by omega, .mk' ⟨by rfl, rfl, rfl, trivial⟩ (by repeat (first | exact List.Sublist.refl _ | exact List.nil_sublist _ | exact List.sublist_append_left _ _ | (apply List.Sublist.cons_cons) | (apply List.Sublist.cons)))⟩
    ·simp only [decide_eq_false_iff_not, List.length_map] at hc1
     have hn : ∀ (j : Nat) (y : Fill), f[j]? = some y → isBy who y = false := fun j y hy => hall j y (by have := (List.getElem?_eq_some_iff.1 hy).1; omega) hy
     rw [done_miss hr hn]
     refine awp_exit ?_
     show AWP _ _ _ _
     refine awp_seq ?_
     refine awp_region ?_
     refine aqs rfl (q_as (by constructor)) rfl ?_
     refine aqs rfl (q_as (by constructor)) rfl ?_
     refine aqs rfl (q_as (by constructor)) rfl ?_
     refine alist_nil ?_
     show AWP _ _ _ _
     refine awp_nilro 4 rfl ?_
     refine awp_nilro 5 rfl ?_
     show AWP _ _ _ _
     refine awp_ret ?_
     repeat first | with_reducible refine then_ret ?_ | with_reducible refine blk_ret ?_
     apply retq (.inr rfl) (.cons (rok_t rfl) (.cons (rok_t rfl) (.cons (rok_t rfl) .nil)))
     rotate_left
     ·exact ⟨rfl, rfl⟩
     repeat (first | exact List.Sublist.refl _ | exact List.nil_sublist _ | exact List.sublist_append_left _ _ | apply List.Sublist.cons)
end Go.Proofs.YtdlinfekifnmkaaAm
