/- Contracts of the layer 'flight', first part: the reference. Conditions: the lengths. -/
import Derived.Test.YtdlinfekifnmkaaAmSlicesFill
import Derived.Test.YtdlinfekifnmkaaAmSlicesInt3
import Derived.Test.YtdlinfekifnmkaaAmFlightLaws
import Derived.Test.YtdlinfekifnmkaaAmMapOf
set_option linter.unusedVariables false
set_option linter.unusedSimpArgs false
set_option maxRecDepth 20000
namespace Go.Proofs.YtdlinfekifnmkaaAm
open Go.Proofs
theorem alist_niltmp {P : Program} {ops : Array Oper} {l : List Oper} {Q : Exit → St → Prop} {t : List (Nat × AV)} {n : Nat} {H : Heap} (k : Nat) {cs cs2 : List AV} (hk : look t k = .agg cs) (hn : NilL cs cs2) (h : AList P ops Q l ⟨(k, .agg cs2) :: t, n, H⟩) : AList P ops Q l ⟨t, n, H⟩ := by
  intro C a hr
  refine h C a ⟨hr.ok, hr.h, hr.n, fun i => ?_, hr.d⟩
  rw [look_cons]
  cases hik : k == i with
  | false => exact hr.t i
  | true =>
    have hki : k = i := by simpa using hik
    subst hki
    have := hr.t k
    rw [hk] at this
    exact nilV_rv (.agg hn) this
structure FLen (f : List Fill) : Prop where
  n : f.length ≤ 1000
  w : ∀ x ∈ f, x.waiting.length ≤ 1000
theorem flen_fok {f : List Fill} (h : FOk f) : FLen f := by
  obtain ⟨h1, h2⟩ := fok_len h
  exact ⟨by omega, fun x hx => by have := h2 x hx; omega⟩
theorem flen_all {f : List Fill} (h : ∀ x ∈ f, x.waiting.length ≤ 1000) : (allOf f).length ≤ 1001 * f.length := by
  induction f with
  | nil => simp [allOf]
  | cons x f ih =>
    have h1 := ih fun y hy => h y (by simp [hy])
    have h2 := h x (by simp)
    rw [all_cons, List.length_append, List.length_cons]
    simp only [whoOf, List.length_cons]
    omega
theorem flen_take {f : List Fill} (h : FLen f) (i : Nat) : (allOf (f.take i)).length ≤ 1001000 := by
  have h1 := flen_all (f := f.take i) fun x hx => h.w x (List.mem_of_mem_take hx)
  have h2 := h.n
  have h3 : (f.take i).length ≤ f.length := by rw [List.length_take]; omega
  have : 1001 * (f.take i).length ≤ 1001 * 1000 := Nat.mul_le_mul_left _ (by omega)
  omega
theorem all_next {f : List Fill} {i : Nat} {x : Fill} (h : f[i]? = some x) : allOf (f.take (i + 1)) = (allOf (f.take i) ++ [x.by_]) ++ x.waiting := by rw [take_next h, all_app]; simp [allOf, whoOf]
theorem int_app (l : List Int) (x : Int) : ((l.map cI).take l.length).drop 0 ++ [[AV.lit (.int .i64 x)]] = (l ++ [x]).map cI := by
  rw [List.take_of_length_le (by simp)]; simp
theorem int_app2 (l m : List Int) : ((l.map cI).take l.length).drop 0 ++ m.map cI = (l ++ m).map cI := by
  rw [List.take_of_length_le (by simp)]; simp
set_option maxHeartbeats 1000000 in
theorem in146_c (l : List Int) (n : Int) (hl : l.length ≤ 10000000) (H : Heap) : QCall Try.prog 146 [.ro (l.map cI), .lit (.int .i64 n)] H (.lit (.bool (decide (n ∈ l)))) := by
  refine acall_intro (n := 18) (rvs := [.tmp 4]) Try.func146 rfl rfl rfl (Nat.le_of_ble_eq_true rfl) ?_
  refine awp_seq ?_
  refine awp_region ?_
  refine aqs rfl (q_as (by constructor)) rfl ?_
  refine alist_nil ?_
  show AWP _ _ _ _
  refine awp_seq ?_
  refine awp_seq ?_
  refine awp_region ?_
  refine aqs rfl (q_as (by constructor)) rfl ?_
  refine alist_nil ?_
  show AWP _ _ _ _
  refine awp_block ?_
  refine awp_loop_inv (fun i : Nat => ⟨[(5, .lit (.int .i64 i)), (0, .ro (l.map cI)), (1, .lit (.int .i64 n))], 18, H⟩) (fun i => i ≤ l.length ∧ n ∉ l.take i) (fun i => l.length - i) 0 ?_ ?_ ?_
  ·exact ⟨Nat.zero_le _, by simp⟩
  ·exact .mk' (by repeat (first | exact trivial | refine ⟨rfl, ?_⟩)) (by repeat (first | exact .refl _ | apply List.Sublist.cons_cons | apply List.Sublist.cons))
  ·rintro i ⟨hi, hall⟩
   refine awp_seq ?_
   refine awp_seq ?_
   refine awp_region ?_
   refine aqs rfl (q_mv (by constructor)) rfl ?_
   refine aqs rfl (q_mv (by constructor)) rfl ?_
   first | refine aqs rfl (q_len Try.underlying25 .ro) rfl ?_ | refine aqs rfl (q_lenO Try.underlying25 rfl (by repeat (first | exact .here | assumption | (apply HAt.left; assumption) | apply HAt.there | apply HAt.right)) (by first | omega | (simp; done) | (simp; omega) | fail) (by first | exact Nat.sub_zero _ | rfl)) rfl ?_ | refine aqs rfl (q_len Try.underlying25 .nil) rfl ?_ | refine aqs rfl (q_len Try.underlying25 .cro) rfl ?_
   refine aqs rfl (q_lss rfl rfl) rfl ?_
   refine alist_nil ?_
   show AWP _ _ _ _
   refine awp_cond rfl (fun hc0 => ?_) (fun hc0 => ?_)
   ·simp only [decide_eq_true_eq, List.length_map] at hc0
    obtain ⟨s, hs, hsm⟩ := get_lt (l := l) (i := i) (by omega)
    have hs2 := get_map (f := cI) hs
    refine awp_skip ?_
    show AWP _ _ _ _
    refine awp_seq ?_
    refine awp_block ?_
    refine awp_seq ?_
    refine awp_region ?_
    refine aqs rfl (q_mv (by constructor)) rfl ?_
    refine aqs rfl (q_mv (by constructor)) rfl ?_
    first | refine aqs rfl (q_iaN Try.underlying25 sz3 (.inl rfl) rfl (by omega) (by first | rfl | assumption | (simp [*]; done) | fail) (by first | rfl | assumption | (simp [*]; done) | fail) (by decide) (by first | ((repeat constructor); done) | exact .same _)) rfl ?_ | refine aqs rfl (q_iaS Try.underlying25 sz3 rfl (by repeat (first | exact .here | assumption | (apply HAt.left; assumption) | apply HAt.there | apply HAt.right)) rfl (by omega) (by omega) (by first | exact Nat.zero_add _ | rfl)) rfl ?_ | refine aqs rfl (q_iaN Try.underlying25 sz3 (.inr rfl) rfl (by omega) (by first | rfl | assumption | (simp [*]; done) | fail) (by first | rfl | assumption | (simp [*]; done) | fail) (by decide) (by first | ((repeat constructor); done) | exact .same _)) rfl ?_
    first | refine aqs rfl (q_ldpN ag3 rfl (by repeat (first | exact .here | assumption | (apply HAt.left; assumption) | apply HAt.there | apply HAt.right)) (by first | rfl | assumption | (simp [*]; done) | fail) (by first | rfl | assumption | (simp [*]; done) | fail) (by constructor)) rfl ?_ | refine aqs rfl (q_ld1N ag3 rfl (by constructor)) rfl ?_
    refine aqs rfl (q_mv (by constructor)) rfl ?_
    refine aqs rfl (q_eql rfl rfl) rfl ?_
    refine alist_nil ?_
    show AWP _ _ _ _
    refine awp_cond rfl (fun hc1 => ?_) (fun hc1 => ?_)
    ·have hsn : s = n := by simpa using hc1
     have e : decide (n ∈ l) = true := decide_eq_true (hsn ▸ hsm)
     rw [e]
     refine awp_seq ?_
     refine awp_region ?_
     refine aqs rfl (q_as (by constructor)) rfl ?_
     refine alist_nil ?_
     show AWP _ _ _ _
     refine awp_ret ?_
     repeat first | with_reducible refine then_ret ?_ | with_reducible refine blk_ret ?_
     apply retq (.inr rfl) (.cons (rok_t rfl) .nil)
     rotate_left
     ·exact ⟨rfl, rfl⟩
     repeat (first | exact List.Sublist.refl _ | exact List.nil_sublist _ | exact List.sublist_append_left _ _ | apply List.Sublist.cons)
    ·have hsn : ¬ s = n := by simpa using hc1
     refine awp_skip ?_
     show AWP _ _ _ _
     refine awp_region ?_
     refine aqs rfl (q_mv (by constructor)) rfl ?_
     first | refine aqs rfl (q_add64 rfl rfl (by omega) (by omega)) rfl ?_ | refine aqs rfl (q_add rfl rfl) rfl ?_
     refine aqs rfl (q_as (by constructor)) rfl ?_
     refine alist_nil ?_
     show ∃ y, _ ∧ _ ∧ _
     refine ⟨i + 1, ⟨by omega, ?_⟩, by omega, .mk' ⟨by rfl, rfl, rfl, trivial⟩ (.refl _)⟩
     rw [take_next hs, List.mem_append]
     rintro (h | h)
     ·exact hall h
     ·simp at h; exact hsn h.symm
   ·simp only [decide_eq_false_iff_not, List.length_map] at hc0
    have hin : i = l.length := by omega
    subst hin
    rw [List.take_length] at hall
    have e : decide (n ∈ l) = false := decide_eq_false hall
    rw [e]
    refine awp_exit ?_
    show AWP _ _ _ _
    refine awp_seq ?_
    refine awp_region ?_
    refine aqs rfl (q_as (by constructor)) rfl ?_
    refine alist_nil ?_
    show AWP _ _ _ _
    refine awp_ret ?_
    repeat first | with_reducible refine then_ret ?_ | with_reducible refine blk_ret ?_
    apply retq (.inr rfl) (.cons (rok_t rfl) .nil)
    rotate_left
    ·exact ⟨rfl, rfl⟩
    repeat (first | exact List.Sublist.refl _ | exact List.nil_sublist _ | exact List.sublist_append_left _ _ | apply List.Sublist.cons)
set_option maxHeartbeats 2000000 in
theorem all145_c (f : List Fill) (hf : FLen f) (H : Heap) : QCall Try.prog 145 [.ro (f.map Fill.cells)] H (.ro ((allOf f).map cI)) := by
  refine QCall.any H ?_
  have hfn := hf.n
  refine acall_intro (n := 26) (rvs := [.tmp 2]) Try.func145 rfl rfl rfl (Nat.le_of_ble_eq_true rfl) ?_
  refine awp_seq ?_
  refine awp_region ?_
  refine aqs rfl (q_as (by constructor)) rfl ?_
  refine alist_nil ?_
  show AWP _ _ _ _
  refine awp_seq ?_
  refine awp_region ?_
  refine aqs rfl (q_as (by constructor)) rfl ?_
  refine alist_nil ?_
  show AWP _ _ _ _
  refine awp_adopt 3 3 1 rfl fun u0 => ?_
  show AWP _ _ _ _
  refine awp_seq ?_
  refine awp_seq ?_
  refine awp_region ?_
  refine aqs rfl (q_as (by constructor)) rfl ?_
  refine alist_nil ?_
  show AWP _ _ _ _
  refine awp_block ?_
  refine awp_loop_inv (fun x : Nat × Nat => ⟨[(4, .lit (.int .i64 x.1)), (3, .sl x.2 0 (allOf (f.take x.1)).length), (0, .ro (f.map Fill.cells))], 26, [(x.2, .arr 3 1 ((allOf (f.take x.1)).map cI))]⟩) (fun x => x.1 ≤ f.length) (fun x => f.length - x.1) (0, u0) ?_ ?_ ?_
  ·exact Nat.zero_le _
  ·exact .mk' (by repeat (first | exact trivial | refine ⟨rfl, ?_⟩)) (by repeat (first | exact .refl _ | apply List.Sublist.cons_cons | apply List.Sublist.cons))
  ·rintro ⟨i, u⟩ hi
   simp only at hi ⊢
   have hal := flen_take hf i
   obtain ⟨a, ha⟩ : ∃ a, a = allOf (f.take i) := ⟨_, rfl⟩
   rw [← ha] at hal ⊢
   have hlen := lenInt3 a
   have hone := oneInt3 a
   refine awp_seq ?_
   refine awp_seq ?_
   refine awp_region ?_
   refine aqs rfl (q_mv (by constructor)) rfl ?_
   refine aqs rfl (q_mv (by constructor)) rfl ?_
   first | refine aqs rfl (q_len Try.underlying112 .ro) rfl ?_ | refine aqs rfl (q_lenO Try.underlying112 rfl (by repeat (first | exact .here | assumption | (apply HAt.left; assumption) | apply HAt.there | apply HAt.right)) (by first | omega | (simp; done) | (simp; omega) | fail) (by first | exact Nat.sub_zero _ | rfl)) rfl ?_ | refine aqs rfl (q_len Try.underlying112 .nil) rfl ?_ | refine aqs rfl (q_len Try.underlying112 .cro) rfl ?_
   refine aqs rfl (q_lss rfl rfl) rfl ?_
   refine alist_nil ?_
   show AWP _ _ _ _
   refine awp_cond rfl (fun hc0 => ?_) (fun hc0 => ?_)
   ·simp only [decide_eq_true_eq, List.length_map] at hc0
    obtain ⟨x, hs, hsm⟩ := get_lt (l := f) (i := i) (by omega)
    have hs2 := get_map (f := Fill.cells) hs
    have hxw := hf.w x hsm
    have hnx := all_next hs
    rw [← ha] at hnx
    have hlen2 := lenInt3 (a ++ [x.by_])
    have hone2 := oneInt3 (a ++ [x.by_])
    have hlw := lenInt3 x.waiting
    have how := oneInt3 x.waiting
    have hes1 := int_app a x.by_
    have hes2 := int_app2 (a ++ [x.by_]) x.waiting
    rw [← hnx] at hes2
    have hml1 : a.length - 0 + 1 = (a ++ [x.by_]).length := by simp
    have hml2 : (a ++ [x.by_]).length - 0 + (x.waiting.map cI).length = (allOf (f.take (i + 1))).length := by rw [hnx]; simp; omega
    have hby2 : ((a ++ [x.by_]).length - 0 + (x.waiting.map cI).length) * 8 ≤ 140737488355328 := by simp; omega
    refine awp_skip ?_
    show AWP _ _ _ _
    refine awp_seq ?_
    refine awp_block ?_
    refine awp_draw 14 [(0, false), (1, false), (2, false), (3, false), (4, false), (5, false), (6, false), (8, false), (9, false), (10, false), (11, false), (12, false), (7, true), (13, true)] [] ([_]) mixed (by kernel_rfl) (.refl _) ?_
    refine glq rfl (.inl ⟨rfl, q_mv (by constructor)⟩) rfl ?_
    refine glq rfl (.inl ⟨rfl, q_mv (by constructor)⟩) rfl ?_
    refine glq rfl (.inl ⟨rfl, q_mv (by constructor)⟩) rfl ?_
    first | refine glq rfl (.inl ⟨rfl, q_iaN Try.underlying112 sz115 (.inl rfl) rfl (by omega) (by first | rfl | assumption | (simp [*]; done) | fail) (by first | rfl | assumption | (simp [*]; done) | fail) (by decide) (by first | ((repeat constructor); done) | exact .same _)⟩) rfl ?_ | refine glq rfl (.inl ⟨rfl, q_iaS Try.underlying112 sz115 rfl (by repeat (first | exact .here | assumption | (apply HAt.left; assumption) | apply HAt.there | apply HAt.right)) rfl (by omega) (by omega) (by first | exact Nat.zero_add _ | rfl)⟩) rfl ?_ | refine glq rfl (.inl ⟨rfl, q_iaN Try.underlying112 sz115 (.inr rfl) rfl (by omega) (by first | rfl | assumption | (simp [*]; done) | fail) (by first | rfl | assumption | (simp [*]; done) | fail) (by decide) (by first | ((repeat constructor); done) | exact .same _)⟩) rfl ?_
    first | refine glq rfl (.inl ⟨rfl, q_fapP fl115_2 (by decide) rfl rfl⟩) rfl ?_ | refine glq rfl (.inl ⟨rfl, q_faP fl115_2 (by decide) rfl (by first | ((repeat constructor); done) | exact .same _)⟩) rfl ?_
    first | refine glq rfl (.inl ⟨rfl, q_ldpN ag3 rfl (by repeat (first | exact .here | assumption | (apply HAt.left; assumption) | apply HAt.there | apply HAt.right)) (by first | rfl | assumption | (simp [*]; done) | fail) (by first | rfl | assumption | (simp [*]; done) | fail) (by constructor)⟩) rfl ?_ | refine glq rfl (.inl ⟨rfl, q_ld1N ag3 rfl (by constructor)⟩) rfl ?_
    refine glq rfl (.inl ⟨rfl, q_bs Try.underlying25 sz3 zr3 rfl (by first | ((repeat constructor); done) | exact .same _) rfl (by decide) (by repeat (first | exact BS.nil | (apply BS.cons; (· constructor); (· rfl); (· rfl); (· rfl); (· exact (by first | ((repeat constructor); done) | exact .same _)))))⟩) rfl ?_
    refine glq rfl (.inl ⟨rfl, q_mv (by constructor)⟩) rfl ?_
    refine glq rfl (.inl ⟨rfl, q_mv (by constructor)⟩) rfl ?_
    first | refine glq rfl (.inl ⟨rfl, q_iaN Try.underlying112 sz115 (.inl rfl) rfl (by omega) (by first | rfl | assumption | (simp [*]; done) | fail) (by first | rfl | assumption | (simp [*]; done) | fail) (by decide) (by first | ((repeat constructor); done) | exact .same _)⟩) rfl ?_ | refine glq rfl (.inl ⟨rfl, q_iaS Try.underlying112 sz115 rfl (by repeat (first | exact .here | assumption | (apply HAt.left; assumption) | apply HAt.there | apply HAt.right)) rfl (by omega) (by omega) (by first | exact Nat.zero_add _ | rfl)⟩) rfl ?_ | refine glq rfl (.inl ⟨rfl, q_iaN Try.underlying112 sz115 (.inr rfl) rfl (by omega) (by first | rfl | assumption | (simp [*]; done) | fail) (by first | rfl | assumption | (simp [*]; done) | fail) (by decide) (by first | ((repeat constructor); done) | exact .same _)⟩) rfl ?_
    first | refine glq rfl (.inl ⟨rfl, q_fapP fl115_3 (by decide) rfl rfl⟩) rfl ?_ | refine glq rfl (.inl ⟨rfl, q_faP fl115_3 (by decide) rfl (by first | ((repeat constructor); done) | exact .same _)⟩) rfl ?_
    first | refine glq rfl (.inl ⟨rfl, q_ldpN ag25 rfl (by repeat (first | exact .here | assumption | (apply HAt.left; assumption) | apply HAt.there | apply HAt.right)) (by first | rfl | assumption | (simp [*]; done) | fail) (by first | rfl | assumption | (simp [*]; done) | fail) (by constructor)⟩) rfl ?_ | refine glq rfl (.inl ⟨rfl, q_ld1N ag25 rfl (by constructor)⟩) rfl ?_
    first | (refine gla rfl rfl (EOp.frame (e_apO Try.underlying25 sz3 by3 zr3 rfl (by repeat (first | exact .here | assumption | (apply HAt.left; assumption) | apply HAt.there | apply HAt.right)) (by rw [List.length_map]; exact Nat.le_refl _) (by first | exact .ro | exact .cro | exact .nil | exact SV.slA (by repeat (first | exact .here | assumption | (apply HAt.left; assumption) | apply HAt.there | apply HAt.right)) (by first | rfl | (simp; done) | (simp; omega) | (simp [*]; done) | fail)) (by first | assumption | (intro c hc; simp at hc; subst hc; rfl) | (simp; done) | fail) (by first | assumption | (intro c hc; simp at hc; subst hc; rfl) | (simp; done) | fail) (by first | assumption | (intro c hc; simp at hc; subst hc; rfl) | (simp; done) | fail) (by first | (simp; done) | (simp; omega) | omega | exact hby2 | fail) (by decide) (by decide) rfl (by first | exact hml1 | exact hml2 | fail) (by first | exact hes1 | exact hes2 | fail) (fun v => (by repeat (first | exact .here | apply HSet.there))))) rfl ?_; rintro _ _ ⟨u18, rfl, rfl⟩) | (refine gla rfl rfl (EOp.frame (e_apN Try.underlying25 sz3 by3 zr3 rfl (by first | exact .ro | exact .cro | exact .nil | exact SV.slA (by repeat (first | exact .here | assumption | (apply HAt.left; assumption) | apply HAt.there | apply HAt.right)) (by first | rfl | (simp; done) | (simp; omega) | (simp [*]; done) | fail)) (by first | assumption | (intro c hc; simp at hc; subst hc; rfl) | (simp; done) | fail) (by first | assumption | (intro c hc; simp at hc; subst hc; rfl) | (simp; done) | fail) (by first | (simp; done) | (simp; omega) | omega | exact hby2 | fail) (by decide) (by decide) rfl rfl)) rfl ?_; rintro _ _ ⟨u18, rfl, rfl⟩)
    first | (refine gla rfl rfl (EOp.frame (e_apO Try.underlying25 sz3 by3 zr3 rfl (by repeat (first | exact .here | assumption | (apply HAt.left; assumption) | apply HAt.there | apply HAt.right)) (by rw [List.length_map]; exact Nat.le_refl _) (by first | exact .ro | exact .cro | exact .nil | exact SV.slA (by repeat (first | exact .here | assumption | (apply HAt.left; assumption) | apply HAt.there | apply HAt.right)) (by first | rfl | (simp; done) | (simp; omega) | (simp [*]; done) | fail)) (by first | assumption | (intro c hc; simp at hc; subst hc; rfl) | (simp; done) | fail) (by first | assumption | (intro c hc; simp at hc; subst hc; rfl) | (simp; done) | fail) (by first | assumption | (intro c hc; simp at hc; subst hc; rfl) | (simp; done) | fail) (by first | (simp; done) | (simp; omega) | omega | exact hby2 | fail) (by decide) (by decide) rfl (by first | exact hml1 | exact hml2 | fail) (by first | exact hes1 | exact hes2 | fail) (fun v => (by repeat (first | exact .here | apply HSet.there))))) rfl ?_; rintro _ _ ⟨u24, rfl, rfl⟩) | (refine gla rfl rfl (EOp.frame (e_apN Try.underlying25 sz3 by3 zr3 rfl (by first | exact .ro | exact .cro | exact .nil | exact SV.slA (by repeat (first | exact .here | assumption | (apply HAt.left; assumption) | apply HAt.there | apply HAt.right)) (by first | rfl | (simp; done) | (simp; omega) | (simp [*]; done) | fail)) (by first | assumption | (intro c hc; simp at hc; subst hc; rfl) | (simp; done) | fail) (by first | assumption | (intro c hc; simp at hc; subst hc; rfl) | (simp; done) | fail) (by first | (simp; done) | (simp; omega) | omega | exact hby2 | fail) (by decide) (by decide) rfl rfl)) rfl ?_; rintro _ _ ⟨u24, rfl, rfl⟩)
    refine gldA ?_
    refine aqs rfl (q_as (by constructor)) rfl ?_
    refine alist_nil ?_
    show AWP _ _ _ _
    refine awp_region ?_
    refine aqs rfl (q_mv (by constructor)) rfl ?_
    first | refine aqs rfl (q_add64 rfl rfl (by omega) (by omega)) rfl ?_ | refine aqs rfl (q_add rfl rfl) rfl ?_
    refine aqs rfl (q_as (by constructor)) rfl ?_
    refine alist_nil ?_
    show ∃ y, _ ∧ _ ∧ _
    exact ⟨(i + 1, _), by show i + 1 ≤ f.length; omega, by show f.length - (i + 1) < f.length - i; omega, .mk' ⟨by rfl, rfl, rfl, trivial⟩ (by repeat (first | exact List.Sublist.refl _ | exact List.nil_sublist _ | exact List.sublist_append_left _ _ | (apply List.Sublist.cons_cons) | (apply List.Sublist.cons)))⟩
   ·simp only [decide_eq_false_iff_not, List.length_map] at hc0
    have e : f.take i = f := List.take_of_length_le (by omega)
    rw [e] at ha
    subst ha
    refine awp_exit ?_
    show AWP _ _ _ _
    refine awp_seq ?_
    refine awp_region ?_
    refine aqs rfl (q_mv (by constructor)) rfl ?_
    refine aqs rfl (q_as (by constructor)) rfl ?_
    refine alist_nil ?_
    show AWP _ _ _ _
    refine awp_pub (u := u) (by repeat (first | exact .here | assumption | (apply HAt.left; assumption) | apply HAt.there | apply HAt.right)) (by repeat (first | exact PubT.nil | (apply PubT.cons; (· first | exact .one (pub_all (by first | rfl | (simp; done) | (simp; omega) | (simp [*]; done) | fail)) | exact .one .same)) | exact PubT.same)) (by repeat (first | exact PubH.drop .same | (apply PubH.cons; (· exact .same)))) ?_
    show AWP _ _ _ _
    refine awp_ret ?_
    repeat first | with_reducible refine then_ret ?_ | with_reducible refine blk_ret ?_
    apply retq (.inr rfl) (.cons (rok_t rfl) .nil)
    rotate_left
    ·exact ⟨rfl, rfl⟩
    repeat (first | exact List.Sublist.refl _ | exact List.nil_sublist _ | exact List.sublist_append_left _ _ | apply List.Sublist.cons)

theorem ftexts_dup {f : List Fill} {i j : Nat} {x y : Fill} (hx : f[i]? = some x) (hy : f[j]? = some y) (hj : j < i) (he : x.left = y.left ∧ x.right = y.right) : fRight f = false := by
  rw [fRight, Bool.and_eq_false_iff]
  refine .inl (decide_eq_false fun hn => ?_)
  have t1 : (textsOf f)[i]? = some (x.left, x.right) := by rw [textsOf, List.getElem?_map, hx]; rfl
  have t2 : (textsOf f)[j]? = some (x.left, x.right) := by rw [textsOf, List.getElem?_map, hy, he.1, he.2]; rfl
  have := (List.getElem?_inj (by rw [textsOf, List.length_map]; exact (List.getElem?_eq_some_iff.1 hx).1) hn).1 (t1.trans t2.symm)
  omega
theorem ftexts_next {f : List Fill} {i : Nat} {x : Fill} (hx : f[i]? = some x) (hn : (textsOf (f.take i)).Nodup) (h : ∀ (m : Nat) (t : Fill), m < i → f[m]? = some t → ¬ (x.left = t.left ∧ x.right = t.right)) : (textsOf (f.take (i + 1))).Nodup := by
  rw [take_next hx, textsOf, List.map_append, List.nodup_append]
  refine ⟨hn, by simp, fun a ha b hb e => ?_⟩
  obtain ⟨t, ht, rfl⟩ := List.mem_map.1 ha
  simp at hb
  rw [hb] at e
  simp only [Prod.mk.injEq] at e
  obtain ⟨m, hm⟩ := List.mem_iff_getElem?.1 ht
  have hml := (List.getElem?_eq_some_iff.1 hm).1
  rw [List.length_take] at hml
  rw [List.getElem?_take_of_lt (by omega)] at hm
  exact h m t (by omega) hm ⟨e.1.symm, e.2.symm⟩
theorem int_dup {l : List Int} {i : Nat} {n : Int} (h : l[i]? = some n) (hm : n ∈ l.take i) : ¬ l.Nodup := fun hn => by
  obtain ⟨j, hj⟩ := List.mem_iff_getElem?.1 hm
  have hjl := (List.getElem?_eq_some_iff.1 hj).1
  rw [List.length_take] at hjl
  rw [List.getElem?_take_of_lt (by omega)] at hj
  have := (List.getElem?_inj (List.getElem?_eq_some_iff.1 h).1 hn).1 (h.trans hj.symm)
  omega
theorem int_nodup {l : List Int} {i : Nat} {n : Int} (h : l[i]? = some n) (hn : (l.take i).Nodup) (hm : n ∉ l.take i) : (l.take (i + 1)).Nodup := by
  rw [take_next h, List.nodup_append]
  exact ⟨hn, by simp, fun a ha b hb e => by simp at hb; subst hb; subst e; exact hm ha⟩
set_option maxHeartbeats 4000000 in
theorem right94_c (f : List Fill) (hf : FLen f) (H : Heap) : QCall Try.prog 94 [.ro (f.map Fill.cells)] H (.lit (.bool (fRight f))) := by
  have hfn := hf.n
  have hal := flen_take hf f.length
  rw [List.take_length] at hal
  refine acall_intro (n := 60) (rvs := [.tmp 2]) Try.func94 rfl rfl rfl (Nat.le_of_ble_eq_true rfl) ?_
  refine awp_seq ?_
  refine awp_region ?_
  refine aqs rfl (q_as (by constructor)) rfl ?_
  refine alist_nil ?_
  show AWP _ _ _ _
  refine awp_seq ?_
  refine awp_seq ?_
  refine awp_region ?_
  refine aqs rfl (q_as (by constructor)) rfl ?_
  refine alist_nil ?_
  show AWP _ _ _ _
  refine awp_block ?_
  refine awp_loop_inv (fun i : Nat => ⟨[(3, .lit (.int .i64 i)), (0, .ro (f.map Fill.cells))], 60, H⟩) (fun i => i ≤ f.length ∧ (textsOf (f.take i)).Nodup) (fun i => f.length - i) 0 ?_ ?_ ?_
  ·exact ⟨Nat.zero_le _, by simp [textsOf]⟩
  ·exact .mk' (by repeat (first | exact trivial | refine ⟨rfl, ?_⟩)) (by repeat (first | exact .refl _ | apply List.Sublist.cons_cons | apply List.Sublist.cons))
  ·rintro i ⟨hi, hnd⟩
   refine awp_seq ?_
   refine awp_seq ?_
   refine awp_region ?_
   refine aqs rfl (q_mv (by constructor)) rfl ?_
   refine aqs rfl (q_mv (by constructor)) rfl ?_
   first | refine aqs rfl (q_len Try.underlying112 .ro) rfl ?_ | refine aqs rfl (q_lenO Try.underlying112 rfl (by repeat (first | exact .here | assumption | (apply HAt.left; assumption) | apply HAt.there | apply HAt.right)) (by first | omega | (simp; done) | (simp; omega) | fail) (by first | exact Nat.sub_zero _ | rfl)) rfl ?_ | refine aqs rfl (q_len Try.underlying112 .nil) rfl ?_ | refine aqs rfl (q_len Try.underlying112 .cro) rfl ?_
   refine aqs rfl (q_lss rfl rfl) rfl ?_
   refine alist_nil ?_
   show AWP _ _ _ _
   refine awp_cond rfl (fun hc0 => ?_) (fun hc0 => ?_)
   ·simp only [decide_eq_true_eq, List.length_map] at hc0
    obtain ⟨x, hs, hsm⟩ := get_lt (l := f) (i := i) (by omega)
    have hs2 := get_map (f := Fill.cells) hs
    refine awp_skip ?_
    show AWP _ _ _ _
    refine awp_seq ?_
    refine awp_block ?_
    refine awp_seq ?_
    refine awp_region ?_
    refine aqs rfl (q_as (by constructor)) rfl ?_
    refine alist_nil ?_
    show AWP _ _ _ _
    refine awp_block ?_
    refine awp_loop_inv (fun j : Nat => ⟨[(4, .lit (.int .i64 j)), (3, .lit (.int .i64 i)), (0, .ro (f.map Fill.cells))], 60, H⟩) (fun j => j ≤ i ∧ ∀ (m : Nat) (t : Fill), m < j → f[m]? = some t → ¬ (x.left = t.left ∧ x.right = t.right)) (fun j => i - j) 0 ?_ ?_ ?_
    ·exact ⟨Nat.zero_le _, fun m t h => absurd h (Nat.not_lt_zero _)⟩
    ·exact .mk' (by repeat (first | exact trivial | refine ⟨rfl, ?_⟩)) (by repeat (first | exact .refl _ | apply List.Sublist.cons_cons | apply List.Sublist.cons))
    ·rintro j ⟨hj, hall⟩
     refine awp_seq ?_
     refine awp_seq ?_
     refine awp_region ?_
     refine aqs rfl (q_mv (by constructor)) rfl ?_
     refine aqs rfl (q_mv (by constructor)) rfl ?_
     refine aqs rfl (q_lss rfl rfl) rfl ?_
     refine alist_nil ?_
     show AWP _ _ _ _
     refine awp_cond rfl (fun hc1 => ?_) (fun hc1 => ?_)
     ·simp only [decide_eq_true_eq] at hc1
      obtain ⟨y, ht, htm⟩ := get_lt (l := f) (i := j) (by omega)
      have ht2 := get_map (f := Fill.cells) ht
      refine awp_skip ?_
      show AWP _ _ _ _
      refine awp_seq ?_
      refine awp_block ?_
      refine awp_mid [(42, .lit (.bool ((x.left.toList == y.left.toList) && (x.right.toList == y.right.toList)))), (4, .lit (.int .i64 j)), (3, .lit (.int .i64 i)), (0, .ro (f.map Fill.cells))] ?_ ?_
      ·skip
       refine awp_draw 24 [(0, false), (1, false), (2, false), (3, false), (4, false), (5, false), (6, false), (7, false), (8, false), (9, false), (10, false), (11, false), (12, false), (13, false), (14, false), (15, false), (16, false), (17, false), (18, false), (19, false), (20, false), (21, false), (22, false), (23, false)] _ ([]) mixed (by kernel_rfl) (perm0 _) ?_
       all_goals (refine glq rfl (.inl ⟨rfl, q_mv (by constructor)⟩) rfl ?_)
       all_goals (refine glq rfl (.inl ⟨rfl, q_mv (by constructor)⟩) rfl ?_)
       all_goals (first | refine glq rfl (.inl ⟨rfl, q_iaN Try.underlying112 sz115 (.inl rfl) rfl (by omega) (by first | rfl | assumption | (simp [*]; done) | fail) (by first | rfl | assumption | (simp [*]; done) | fail) (by decide) (by first | ((repeat constructor); done) | exact .same _)⟩) rfl ?_ | refine glq rfl (.inl ⟨rfl, q_iaS Try.underlying112 sz115 rfl (by repeat (first | exact .here | assumption | (apply HAt.left; assumption) | apply HAt.there | apply HAt.right)) rfl (by omega) (by omega) (by first | exact Nat.zero_add _ | rfl)⟩) rfl ?_ | refine glq rfl (.inl ⟨rfl, q_iaN Try.underlying112 sz115 (.inr rfl) rfl (by omega) (by first | rfl | assumption | (simp [*]; done) | fail) (by first | rfl | assumption | (simp [*]; done) | fail) (by decide) (by first | ((repeat constructor); done) | exact .same _)⟩) rfl ?_)
       all_goals (first | refine glq rfl (.inl ⟨rfl, q_fapP fl115_0 (by decide) rfl rfl⟩) rfl ?_ | refine glq rfl (.inl ⟨rfl, q_faP fl115_0 (by decide) rfl (by first | ((repeat constructor); done) | exact .same _)⟩) rfl ?_)
       all_goals (first | refine glq rfl (.inl ⟨rfl, q_ldpN ag9 rfl (by repeat (first | exact .here | assumption | (apply HAt.left; assumption) | apply HAt.there | apply HAt.right)) (by first | rfl | assumption | (simp [*]; done) | fail) (by first | rfl | assumption | (simp [*]; done) | fail) (by constructor)⟩) rfl ?_ | refine glq rfl (.inl ⟨rfl, q_ld1N ag9 rfl (by constructor)⟩) rfl ?_)
       all_goals (refine glq rfl (.inl ⟨rfl, q_mv (by constructor)⟩) rfl ?_)
       all_goals (refine glq rfl (.inl ⟨rfl, q_mv (by constructor)⟩) rfl ?_)
       all_goals (first | refine glq rfl (.inl ⟨rfl, q_iaN Try.underlying112 sz115 (.inl rfl) rfl (by omega) (by first | rfl | assumption | (simp [*]; done) | fail) (by first | rfl | assumption | (simp [*]; done) | fail) (by decide) (by first | ((repeat constructor); done) | exact .same _)⟩) rfl ?_ | refine glq rfl (.inl ⟨rfl, q_iaS Try.underlying112 sz115 rfl (by repeat (first | exact .here | assumption | (apply HAt.left; assumption) | apply HAt.there | apply HAt.right)) rfl (by omega) (by omega) (by first | exact Nat.zero_add _ | rfl)⟩) rfl ?_ | refine glq rfl (.inl ⟨rfl, q_iaN Try.underlying112 sz115 (.inr rfl) rfl (by omega) (by first | rfl | assumption | (simp [*]; done) | fail) (by first | rfl | assumption | (simp [*]; done) | fail) (by decide) (by first | ((repeat constructor); done) | exact .same _)⟩) rfl ?_)
       all_goals (first | refine glq rfl (.inl ⟨rfl, q_fapP fl115_0 (by decide) rfl rfl⟩) rfl ?_ | refine glq rfl (.inl ⟨rfl, q_faP fl115_0 (by decide) rfl (by first | ((repeat constructor); done) | exact .same _)⟩) rfl ?_)
       all_goals (first | refine glq rfl (.inl ⟨rfl, q_ldpN ag9 rfl (by repeat (first | exact .here | assumption | (apply HAt.left; assumption) | apply HAt.there | apply HAt.right)) (by first | rfl | assumption | (simp [*]; done) | fail) (by first | rfl | assumption | (simp [*]; done) | fail) (by constructor)⟩) rfl ?_ | refine glq rfl (.inl ⟨rfl, q_ld1N ag9 rfl (by constructor)⟩) rfl ?_)
       all_goals (refine glq rfl (.inl ⟨rfl, q_seql rfl rfl⟩) rfl ?_)
       all_goals (refine glq rfl (.inl ⟨rfl, q_mv (by constructor)⟩) rfl ?_)
       all_goals try (refine gcase (fun hb11 => ?_) (fun hb11 => ?_))
       all_goals first | (exfalso; cases hb11; done) | skip
       all_goals (first | refine glq rfl (.inl ⟨rfl, q_mv (by constructor)⟩) rfl ?_ | refine glq rfl (.inr ⟨rfl, rfl⟩) rfl ?_)
       all_goals (first | refine glq rfl (.inl ⟨rfl, q_mv (by constructor)⟩) rfl ?_ | refine glq rfl (.inr ⟨rfl, rfl⟩) rfl ?_)
       all_goals (first | refine glq rfl (.inl ⟨rfl, q_iaN Try.underlying112 sz115 (.inl rfl) rfl (by omega) (by first | rfl | assumption | (simp [*]; done) | fail) (by first | rfl | assumption | (simp [*]; done) | fail) (by decide) (by first | ((repeat constructor); done) | exact .same _)⟩) rfl ?_ | refine glq rfl (.inl ⟨rfl, q_iaS Try.underlying112 sz115 rfl (by repeat (first | exact .here | assumption | (apply HAt.left; assumption) | apply HAt.there | apply HAt.right)) rfl (by omega) (by omega) (by first | exact Nat.zero_add _ | rfl)⟩) rfl ?_ | refine glq rfl (.inl ⟨rfl, q_iaN Try.underlying112 sz115 (.inr rfl) rfl (by omega) (by first | rfl | assumption | (simp [*]; done) | fail) (by first | rfl | assumption | (simp [*]; done) | fail) (by decide) (by first | ((repeat constructor); done) | exact .same _)⟩) rfl ?_ | refine glq rfl (.inr ⟨rfl, rfl⟩) rfl ?_)
       all_goals (first | refine glq rfl (.inl ⟨rfl, q_fapP fl115_1 (by decide) rfl rfl⟩) rfl ?_ | refine glq rfl (.inl ⟨rfl, q_faP fl115_1 (by decide) rfl (by first | ((repeat constructor); done) | exact .same _)⟩) rfl ?_ | refine glq rfl (.inr ⟨rfl, rfl⟩) rfl ?_)
       all_goals (first | refine glq rfl (.inl ⟨rfl, q_ldpN ag9 rfl (by repeat (first | exact .here | assumption | (apply HAt.left; assumption) | apply HAt.there | apply HAt.right)) (by first | rfl | assumption | (simp [*]; done) | fail) (by first | rfl | assumption | (simp [*]; done) | fail) (by constructor)⟩) rfl ?_ | refine glq rfl (.inl ⟨rfl, q_ld1N ag9 rfl (by constructor)⟩) rfl ?_ | refine glq rfl (.inr ⟨rfl, rfl⟩) rfl ?_)
       all_goals (first | refine glq rfl (.inl ⟨rfl, q_mv (by constructor)⟩) rfl ?_ | refine glq rfl (.inr ⟨rfl, rfl⟩) rfl ?_)
       all_goals (first | refine glq rfl (.inl ⟨rfl, q_mv (by constructor)⟩) rfl ?_ | refine glq rfl (.inr ⟨rfl, rfl⟩) rfl ?_)
       all_goals (first | refine glq rfl (.inl ⟨rfl, q_iaN Try.underlying112 sz115 (.inl rfl) rfl (by omega) (by first | rfl | assumption | (simp [*]; done) | fail) (by first | rfl | assumption | (simp [*]; done) | fail) (by decide) (by first | ((repeat constructor); done) | exact .same _)⟩) rfl ?_ | refine glq rfl (.inl ⟨rfl, q_iaS Try.underlying112 sz115 rfl (by repeat (first | exact .here | assumption | (apply HAt.left; assumption) | apply HAt.there | apply HAt.right)) rfl (by omega) (by omega) (by first | exact Nat.zero_add _ | rfl)⟩) rfl ?_ | refine glq rfl (.inl ⟨rfl, q_iaN Try.underlying112 sz115 (.inr rfl) rfl (by omega) (by first | rfl | assumption | (simp [*]; done) | fail) (by first | rfl | assumption | (simp [*]; done) | fail) (by decide) (by first | ((repeat constructor); done) | exact .same _)⟩) rfl ?_ | refine glq rfl (.inr ⟨rfl, rfl⟩) rfl ?_)
       all_goals (first | refine glq rfl (.inl ⟨rfl, q_fapP fl115_1 (by decide) rfl rfl⟩) rfl ?_ | refine glq rfl (.inl ⟨rfl, q_faP fl115_1 (by decide) rfl (by first | ((repeat constructor); done) | exact .same _)⟩) rfl ?_ | refine glq rfl (.inr ⟨rfl, rfl⟩) rfl ?_)
       all_goals (first | refine glq rfl (.inl ⟨rfl, q_ldpN ag9 rfl (by repeat (first | exact .here | assumption | (apply HAt.left; assumption) | apply HAt.there | apply HAt.right)) (by first | rfl | assumption | (simp [*]; done) | fail) (by first | rfl | assumption | (simp [*]; done) | fail) (by constructor)⟩) rfl ?_ | refine glq rfl (.inl ⟨rfl, q_ld1N ag9 rfl (by constructor)⟩) rfl ?_ | refine glq rfl (.inr ⟨rfl, rfl⟩) rfl ?_)
       all_goals (first | refine glq rfl (.inl ⟨rfl, q_seql rfl rfl⟩) rfl ?_ | refine glq rfl (.inr ⟨rfl, rfl⟩) rfl ?_)
       all_goals (first | refine glq rfl (.inl ⟨rfl, q_pickT rfl (by constructor)⟩) rfl ?_ | refine glq rfl (.inl ⟨rfl, q_pickF rfl (by constructor)⟩) rfl ?_)
       all_goals (first | refine gld0 ?_ | refine gldA ?_)
       all_goals (refine alist_nil ?_)
       all_goals (exact ⟨rfl, .mk' (by repeat (first | exact trivial | refine ⟨rfl, ?_⟩ | (refine ⟨?_, ?_⟩; (· first | (rw [hb11]; rfl) | fail)))) (by repeat (first | exact .refl _ | exact List.nil_sublist _ | exact List.sublist_append_left _ _ | apply List.Sublist.cons))⟩)
      refine awp_cond rfl (fun hc2 => ?_) (fun hc2 => ?_)
      ·have he : x.left = y.left ∧ x.right = y.right := by simpa [str_eq] using hc2
       have e := ftexts_dup hs ht (by omega) he
       rw [e]
       refine awp_seq ?_
       refine awp_region ?_
       refine aqs rfl (q_as (by constructor)) rfl ?_
       refine alist_nil ?_
       show AWP _ _ _ _
       refine awp_ret ?_
       repeat first | with_reducible refine then_ret ?_ | with_reducible refine blk_ret ?_
       apply retq (.inr rfl) (.cons (rok_t rfl) .nil)
       rotate_left
       ·exact ⟨rfl, rfl⟩
       repeat (first | exact List.Sublist.refl _ | exact List.nil_sublist _ | exact List.sublist_append_left _ _ | apply List.Sublist.cons)
      ·have he : ¬ (x.left = y.left ∧ x.right = y.right) := by simpa [str_eq] using hc2
       refine awp_skip ?_
       show AWP _ _ _ _
       refine awp_region ?_
       refine aqs rfl (q_mv (by constructor)) rfl ?_
       first | refine aqs rfl (q_add64 rfl rfl (by omega) (by omega)) rfl ?_ | refine aqs rfl (q_add rfl rfl) rfl ?_
       refine aqs rfl (q_as (by constructor)) rfl ?_
       refine alist_nil ?_
       show ∃ y, _ ∧ _ ∧ _
       refine ⟨j + 1, ⟨by omega, fun m t' hm ht' => ?_⟩, by omega, .mk' ⟨by rfl, rfl, rfl, trivial⟩ (.refl _)⟩
       by_cases hmj : m = j
       ·subst hmj
        rw [ht] at ht'
        injection ht' with ht'
        subst ht'
        exact he
       ·exact hall m t' (by omega) ht'
     ·simp only [decide_eq_false_iff_not] at hc1
      have hji : j = i := by omega
      subst hji
      refine awp_exit ?_
      show AWP _ _ _ _
      refine awp_region ?_
      refine aqs rfl (q_mv (by constructor)) rfl ?_
      first | refine aqs rfl (q_add64 rfl rfl (by omega) (by omega)) rfl ?_ | refine aqs rfl (q_add rfl rfl) rfl ?_
      refine aqs rfl (q_as (by constructor)) rfl ?_
      refine alist_nil ?_
      show ∃ y, _ ∧ _ ∧ _
      exact ⟨j + 1, ⟨by omega, ftexts_next hs hnd hall⟩, by omega, .mk' ⟨by rfl, rfl, trivial⟩ (.refl _)⟩
   ·simp only [decide_eq_false_iff_not, List.length_map] at hc0
    have hil : i = f.length := by omega
    subst hil
    rw [List.take_length] at hnd
    refine awp_exit ?_
    show AWP _ _ _ _
    refine awp_seq ?_
    refine awp_region ?_
    refine aqs rfl (q_mv (by constructor)) rfl ?_
    first | refine aqs rfl (e_callN cb145 (all145_c f hf _) rfl rfl) rfl ?_ | refine aqs rfl (e_callN cb145 (ACall.arg (all145_c f hf _) (by repeat (first | exact ArgL.nil | (apply ArgL.cons; (· first | exact .same | exact .cro | exact .nil))))) rfl rfl) rfl ?_
    refine aqs rfl (q_as (by constructor)) rfl ?_
    refine alist_nil ?_
    show AWP _ _ _ _
    refine awp_seq ?_
    refine awp_seq ?_
    refine awp_region ?_
    refine aqs rfl (q_as (by constructor)) rfl ?_
    refine alist_nil ?_
    show AWP _ _ _ _
    refine awp_block ?_
    refine awp_loop_inv (fun k : Nat => ⟨[(6, .lit (.int .i64 k)), (5, .ro ((allOf f).map cI))], 60, H⟩) (fun k => k ≤ (allOf f).length ∧ ((allOf f).take k).Nodup) (fun k => (allOf f).length - k) 0 ?_ ?_ ?_
    ·exact ⟨Nat.zero_le _, by simp⟩
    ·exact .mk' (by repeat (first | exact trivial | refine ⟨rfl, ?_⟩)) (by repeat (first | exact .refl _ | apply List.Sublist.cons_cons | apply List.Sublist.cons))
    ·rintro k ⟨hk, hnk⟩
     refine awp_seq ?_
     refine awp_seq ?_
     refine awp_region ?_
     refine aqs rfl (q_mv (by constructor)) rfl ?_
     refine aqs rfl (q_mv (by constructor)) rfl ?_
     first | refine aqs rfl (q_len Try.underlying25 .ro) rfl ?_ | refine aqs rfl (q_lenO Try.underlying25 rfl (by repeat (first | exact .here | assumption | (apply HAt.left; assumption) | apply HAt.there | apply HAt.right)) (by first | omega | (simp; done) | (simp; omega) | fail) (by first | exact Nat.sub_zero _ | rfl)) rfl ?_ | refine aqs rfl (q_len Try.underlying25 .nil) rfl ?_ | refine aqs rfl (q_len Try.underlying25 .cro) rfl ?_
     refine aqs rfl (q_lss rfl rfl) rfl ?_
     refine alist_nil ?_
     show AWP _ _ _ _
     refine awp_cond rfl (fun hc3 => ?_) (fun hc3 => ?_)
     ·simp only [decide_eq_true_eq, List.length_map] at hc3
      obtain ⟨n, hn, hnm⟩ := get_lt (l := allOf f) (i := k) (by omega)
      have hn2 := get_map (f := cI) hn
      refine awp_skip ?_
      show AWP _ _ _ _
      refine awp_seq ?_
      refine awp_block ?_
      refine awp_seq ?_
      refine awp_draw 9 [(0, false), (1, false), (2, false), (3, false), (4, false), (5, false), (6, false), (7, false), (8, false)] _ ([]) mixed (by kernel_rfl) (perm0 _) ?_
      refine glq rfl (.inl ⟨rfl, q_mv (by constructor)⟩) rfl ?_
      refine glq rfl (.inl ⟨rfl, q_mv (by constructor)⟩) rfl ?_
      first | refine glq rfl (.inl ⟨rfl, castQ (r2 := .ro (((allOf f).take k).map cI)) (q_slR Try.underlying25 sz3 (.inl rfl) rfl (by first | (refine ⟨_, _, rfl, ?_⟩; with_reducible rfl) | exact bnd_int rfl (by omega)) (by first | omega | (simp; done) | (simp; omega) | fail) (by first | omega | (simp; done) | (simp; omega) | fail) (by first | rfl | assumption | (simp [*]; done) | fail)) (by rw [List.map_take]; rfl)⟩) rfl ?_ | refine glq rfl (.inl ⟨rfl, castQ (r2 := .ro (((allOf f).take k).map cI)) (q_slO Try.underlying25 sz3 rfl (by repeat (first | exact .here | assumption | (apply HAt.left; assumption) | apply HAt.there | apply HAt.right)) rfl (by first | (refine ⟨_, _, rfl, ?_⟩; with_reducible rfl) | exact bnd_int rfl (by omega)) (by first | omega | (simp; done) | (simp; omega) | fail) (by first | omega | (simp; done) | (simp; omega) | fail) (by first | exact Nat.zero_add _ | rfl) (by first | exact Nat.zero_add _ | rfl)) (by rw [List.map_take]; rfl)⟩) rfl ?_
      refine glq rfl (.inl ⟨rfl, q_mv (by constructor)⟩) rfl ?_
      refine glq rfl (.inl ⟨rfl, q_mv (by constructor)⟩) rfl ?_
      first | refine glq rfl (.inl ⟨rfl, q_iaN Try.underlying25 sz3 (.inl rfl) rfl (by omega) (by first | rfl | assumption | (simp [*]; done) | fail) (by first | rfl | assumption | (simp [*]; done) | fail) (by decide) (by first | ((repeat constructor); done) | exact .same _)⟩) rfl ?_ | refine glq rfl (.inl ⟨rfl, q_iaS Try.underlying25 sz3 rfl (by repeat (first | exact .here | assumption | (apply HAt.left; assumption) | apply HAt.there | apply HAt.right)) rfl (by omega) (by omega) (by first | exact Nat.zero_add _ | rfl)⟩) rfl ?_ | refine glq rfl (.inl ⟨rfl, q_iaN Try.underlying25 sz3 (.inr rfl) rfl (by omega) (by first | rfl | assumption | (simp [*]; done) | fail) (by first | rfl | assumption | (simp [*]; done) | fail) (by decide) (by first | ((repeat constructor); done) | exact .same _)⟩) rfl ?_
      first | refine glq rfl (.inl ⟨rfl, q_ldpN ag3 rfl (by repeat (first | exact .here | assumption | (apply HAt.left; assumption) | apply HAt.there | apply HAt.right)) (by first | rfl | assumption | (simp [*]; done) | fail) (by first | rfl | assumption | (simp [*]; done) | fail) (by constructor)⟩) rfl ?_ | refine glq rfl (.inl ⟨rfl, q_ld1N ag3 rfl (by constructor)⟩) rfl ?_
      first | refine glq rfl (.inl ⟨rfl, e_callN cb146 (in146_c ((allOf f).take k) n (by rw [List.length_take]; omega) _) rfl rfl⟩) rfl ?_ | refine glq rfl (.inl ⟨rfl, e_callN cb146 (ACall.arg (in146_c ((allOf f).take k) n (by rw [List.length_take]; omega) _) (by repeat (first | exact ArgL.nil | (apply ArgL.cons; (· first | exact .same | exact .cro | exact .nil))))) rfl rfl⟩) rfl ?_
      refine glq rfl (.inl ⟨rfl, q_as (by constructor)⟩) rfl ?_
      (first | refine gld0 ?_ | refine gldA ?_)
      refine alist_nil ?_
      show AWP _ _ _ _
      refine awp_seq ?_
      refine awp_region ?_
      refine aqs rfl (q_mv (by constructor)) rfl ?_
      refine alist_nil ?_
      show AWP _ _ _ _
      refine awp_cond rfl (fun hc4 => ?_) (fun hc4 => ?_)
      ·have hm : n ∈ (allOf f).take k := by simpa using hc4
       have e : fRight f = false := by rw [fRight, decide_eq_false (int_dup hn hm), Bool.and_false]
       rw [e]
       refine awp_seq ?_
       refine awp_region ?_
       refine aqs rfl (q_as (by constructor)) rfl ?_
       refine alist_nil ?_
       show AWP _ _ _ _
       refine awp_ret ?_
       repeat first | with_reducible refine then_ret ?_ | with_reducible refine blk_ret ?_
       apply retq (.inr rfl) (.cons (rok_t rfl) .nil)
       rotate_left
       ·exact ⟨rfl, rfl⟩
       repeat (first | exact List.Sublist.refl _ | exact List.nil_sublist _ | exact List.sublist_append_left _ _ | apply List.Sublist.cons)
      ·have hm : n ∉ (allOf f).take k := by simpa using hc4
       refine awp_skip ?_
       show AWP _ _ _ _
       refine awp_region ?_
       refine aqs rfl (q_mv (by constructor)) rfl ?_
       first | refine aqs rfl (q_add64 rfl rfl (by omega) (by omega)) rfl ?_ | refine aqs rfl (q_add rfl rfl) rfl ?_
       refine aqs rfl (q_as (by constructor)) rfl ?_
       refine alist_nil ?_
       show ∃ y, _ ∧ _ ∧ _
       exact ⟨k + 1, ⟨by omega, int_nodup hn hnk hm⟩, by omega, .mk' ⟨by rfl, rfl, trivial⟩ (.refl _)⟩
     ·simp only [decide_eq_false_iff_not, List.length_map] at hc3
      have hkl : k = (allOf f).length := by omega
      subst hkl
      rw [List.take_length] at hnk
      have e : fRight f = true := right_f.2 ⟨hnd, hnk⟩
      rw [e]
      refine awp_exit ?_
      show AWP _ _ _ _
      refine awp_seq ?_
      refine awp_region ?_
      refine aqs rfl (q_as (by constructor)) rfl ?_
      refine alist_nil ?_
      show AWP _ _ _ _
      refine awp_ret ?_
      repeat first | with_reducible refine then_ret ?_ | with_reducible refine blk_ret ?_
      apply retq (.inr rfl) (.cons (rok_t rfl) .nil)
      rotate_left
      ·exact ⟨rfl, rfl⟩
      repeat (first | exact List.Sublist.refl _ | exact List.nil_sublist _ | exact List.sublist_append_left _ _ | apply List.Sublist.cons)
end Go.Proofs.YtdlinfekifnmkaaAm
