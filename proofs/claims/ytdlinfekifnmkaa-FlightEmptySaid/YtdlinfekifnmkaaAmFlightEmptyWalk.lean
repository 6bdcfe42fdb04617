/- The walk of FlightEmpty. Conditions: none. -/
import Derived.Test.YtdlinfekifnmkaaAmFlightAwake
set_option linter.unusedVariables false
set_option linter.unusedSimpArgs false
set_option maxRecDepth 20000
namespace Go.Proofs.YtdlinfekifnmkaaAm
open Go.Proofs
theorem sumW_next {f : List Fill} {i : Nat} {x : Fill} (h : f[i]? = some x) : sumW (f.take (i + 1)) = sumW (f.take i) + x.waiting.length := by rw [take_next h, sumW_app, sumW_cons]; simp [sumW]
theorem sumW_le (f : List Fill) : sumW f ≤ (allOf f).length := by
  induction f with
  | nil => simp [sumW]
  | cons x f ih =>
    rw [sumW_cons, all_cons, List.length_append]
    simp only [whoOf, List.length_cons]
    omega
theorem sumW_ok {f : List Fill} (h : FOk f) : sumW f ≤ 8 := by
  have h1 := sumW_le f
  have h2 := all_len h
  omega
theorem sumW_take {f : List Fill} (h : FOk f) (i : Nat) : sumW (f.take i) ≤ 8 := by
  have h1 := sumW_ok h
  have h2 : sumW f = sumW (f.take i) + sumW (f.drop i) := by rw [← sumW_app, List.take_append_drop]
  omega
set_option maxHeartbeats 8000000 in
theorem walkFlightEmpty (deeds : List Tri) (leave : Bool) (wd : (∀ y ∈ deeds, y.Wf) ∧ deeds.length ≤ 9223372036854775807) (wl : True) :
    QCall Try.prog 29 [.ro (deeds.map Tri.cells), .lit (.bool leave)] [] (.lit (.bool true)) := by
  obtain ⟨f, hf⟩ : ∃ f, f = fillsS (deeds.take 20) := ⟨_, rfl⟩
  have hok : FOk f := hf ▸ fok_fills _
  have hfl := flen_fok hok
  have hfn := hfl.n
  refine acall_intro (n := 81) (rvs := [.tmp 4]) Try.func29 rfl rfl rfl (Nat.le_of_ble_eq_true rfl) ?_
  refine awp_seq ?_
  refine awp_region ?_
  refine aqs rfl (q_as (by constructor)) rfl ?_
  refine alist_nil ?_
  show AWP _ _ _ _
  refine awp_seq ?_
  refine awp_region ?_
  first | refine aqs rfl (e_callN cb91 (QCall.any _ awake91_c) rfl rfl) rfl ?_ | refine aqs rfl (e_callN cb91 (ACall.arg (QCall.any _ awake91_c) (by repeat (first | exact ArgL.nil | (apply ArgL.cons; (· first | exact .same | exact .cro | exact .nil))))) rfl rfl) rfl ?_
  refine aqs rfl (q_as (by constructor)) rfl ?_
  refine alist_nil ?_
  show AWP _ _ _ _
  refine awp_seq ?_
  refine awp_region ?_
  refine aqs rfl (q_mv (by constructor)) rfl ?_
  first | refine aqs rfl (e_callN cb92 (hf ▸ fills92_c deeds wd.1 _) rfl rfl) rfl ?_ | refine aqs rfl (e_callN cb92 (ACall.arg (hf ▸ fills92_c deeds wd.1 _) (by repeat (first | exact ArgL.nil | (apply ArgL.cons; (· first | exact .same | exact .cro | exact .nil))))) rfl rfl) rfl ?_
  refine aqs rfl (q_as (by constructor)) rfl ?_
  refine alist_nil ?_
  show AWP _ _ _ _
  refine awp_seq ?_
  refine awp_region ?_
  refine aqs rfl (q_as (by constructor)) rfl ?_
  refine alist_nil ?_
  show AWP _ _ _ _
  refine awp_seq ?_
  refine awp_seq ?_
  refine awp_region ?_
  refine aqs rfl (q_as (by constructor)) rfl ?_
  refine alist_nil ?_
  show AWP _ _ _ _
  refine awp_block ?_
  refine awp_loop_inv (fun i : Nat => ⟨[(8, .lit (.int .i64 i)), (7, .lit (.int .i64 (sumW (f.take i) : Nat))), (6, .ro (f.map Fill.cells)), (5, .lit (.bool true)), (1, .lit (.bool leave))], 81, []⟩) (fun i => i ≤ f.length) (fun i => f.length - i) 0 ?_ ?_ ?_
  ·exact Nat.zero_le _
  ·exact .mk' (by repeat (first | exact trivial | refine ⟨rfl, ?_⟩)) (by repeat (first | exact .refl _ | apply List.Sublist.cons_cons | apply List.Sublist.cons))
  ·intro i hi
   have hsw := sumW_take hok i
   refine awp_seq ?_
   refine awp_seq ?_
   refine awp_region ?_
   refine aqs rfl (q_mv (by constructor)) rfl ?_
   refine aqs rfl (q_mv (by constructor)) rfl ?_
   first | refine aqs rfl (q_len Try.underlying112 .ro) rfl ?_ | refine aqs rfl (q_lenO Try.underlying112 rfl (by repeat (first | exact .here | assumption | (apply HAt.left; assumption) | apply HAt.there | apply HAt.right)) (by first | omega | (simp; done) | (simp; omega) | fail) (by first | exact Nat.sub_zero _ | rfl)) rfl ?_ | refine aqs rfl (q_len Try.underlying112 .nil) rfl ?_ | refine aqs rfl (q_len Try.underlying112 .cro) rfl ?_
   refine aqs rfl (q_lss rfl rfl) rfl ?_
   refine alist_nil ?_
   show AWP _ _ _ _
   refine awp_cond rfl (fun hc0 => ?_) (fun hc0 => ?_)
   ·simp only [decide_eq_true_eq, List.length_map] at hc0
    obtain ⟨x, hs, hsm⟩ := get_lt (l := f) (i := i) (by omega)
    have hs2 := get_map (f := Fill.cells) hs
    have hxw := hfl.w x hsm
    have hxl : (x.waiting.map cI).length = x.waiting.length := List.length_map ..
    have hnx := sumW_next hs
    refine awp_skip ?_
    show AWP _ _ _ _
    refine awp_seq ?_
    refine awp_block ?_
    refine awp_region ?_
    refine aqs rfl (q_mv (by constructor)) rfl ?_
    refine aqs rfl (q_mv (by constructor)) rfl ?_
    refine aqs rfl (q_mv (by constructor)) rfl ?_
    first | refine aqs rfl (q_iaN Try.underlying112 sz115 (.inl rfl) rfl (by omega) (by first | rfl | assumption | (simp [*]; done) | fail) (by first | rfl | assumption | (simp [*]; done) | fail) (by decide) (by first | ((repeat constructor); done) | exact .same _)) rfl ?_ | refine aqs rfl (q_iaS Try.underlying112 sz115 rfl (by repeat (first | exact .here | assumption | (apply HAt.left; assumption) | apply HAt.there | apply HAt.right)) rfl (by omega) (by omega) (by first | exact Nat.zero_add _ | rfl)) rfl ?_ | refine aqs rfl (q_iaN Try.underlying112 sz115 (.inr rfl) rfl (by omega) (by first | rfl | assumption | (simp [*]; done) | fail) (by first | rfl | assumption | (simp [*]; done) | fail) (by decide) (by first | ((repeat constructor); done) | exact .same _)) rfl ?_
    first | refine aqs rfl (q_fapP fl115_3 (by decide) rfl rfl) rfl ?_ | refine aqs rfl (q_faP fl115_3 (by decide) rfl (by first | ((repeat constructor); done) | exact .same _)) rfl ?_
    first | refine aqs rfl (q_ldpN ag25 rfl (by repeat (first | exact .here | assumption | (apply HAt.left; assumption) | apply HAt.there | apply HAt.right)) (by first | rfl | assumption | (simp [*]; done) | fail) (by first | rfl | assumption | (simp [*]; done) | fail) (by constructor)) rfl ?_ | refine aqs rfl (q_ld1N ag25 rfl (by constructor)) rfl ?_
    first | refine aqs rfl (q_len Try.underlying25 .ro) rfl ?_ | refine aqs rfl (q_lenO Try.underlying25 rfl (by repeat (first | exact .here | assumption | (apply HAt.left; assumption) | apply HAt.there | apply HAt.right)) (by first | omega | (simp; done) | (simp; omega) | fail) (by first | exact Nat.sub_zero _ | rfl)) rfl ?_ | refine aqs rfl (q_len Try.underlying25 .nil) rfl ?_ | refine aqs rfl (q_len Try.underlying25 .cro) rfl ?_
    first | refine aqs rfl (q_add64 rfl rfl (by omega) (by omega)) rfl ?_ | refine aqs rfl (q_add rfl rfl) rfl ?_
    refine aqs rfl (q_as (by constructor)) rfl ?_
    refine alist_nil ?_
    show AWP _ _ _ _
    refine awp_region ?_
    refine aqs rfl (q_mv (by constructor)) rfl ?_
    first | refine aqs rfl (q_add64 rfl rfl (by omega) (by omega)) rfl ?_ | refine aqs rfl (q_add rfl rfl) rfl ?_
    refine aqs rfl (q_as (by constructor)) rfl ?_
    refine alist_nil ?_
    show ∃ y, _ ∧ _ ∧ _
    exact ⟨i + 1, by omega, by omega, by simp only [hnx, ← hxl]; exact .mk' ⟨by rfl, rfl, rfl, rfl, rfl, trivial⟩ (by repeat (first | exact List.Sublist.refl _ | exact List.nil_sublist _ | exact List.sublist_append_left _ _ | (apply List.Sublist.cons_cons) | (apply List.Sublist.cons)))⟩
   ·simp only [decide_eq_false_iff_not, List.length_map] at hc0
    have e : f.take i = f := List.take_of_length_le (by omega)
    rw [e]
    refine awp_exit ?_
    show AWP _ _ _ _
    refine awp_join (fun x : List Fill => ⟨[(7, .lit (.int .i64 (sumW x : Nat))), (6, .ro (x.map Fill.cells)), (5, .lit (.bool true))], 81, []⟩) (fun x => FOk x) ?_ ?_
    ·skip
     refine awp_seq ?_
     refine awp_region ?_
     refine aqs rfl (q_mv (by constructor)) rfl ?_
     refine alist_nil ?_
     show AWP _ _ _ _
     refine awp_cond rfl (fun hc1 => ?_) (fun hc1 => ?_)
     ·skip
      refine awp_seq ?_
      refine awp_seq ?_
      refine awp_region ?_
      refine aqs rfl (q_as (by constructor)) rfl ?_
      refine alist_nil ?_
      show AWP _ _ _ _
      refine awp_block ?_
      refine awp_loop_inv (fun x : Nat × List Fill => ⟨[(9, .lit (.int .i64 x.1)), (7, .lit (.int .i64 (sumW x.2 : Nat))), (6, .ro (x.2.map Fill.cells)), (5, .lit (.bool true))], 81, []⟩) (fun x => x.1 ≤ 8 ∧ ELeave x.2 x.1) (fun x => 8 - x.1) (0, f) ?_ ?_ ?_
      ·exact ⟨Nat.zero_le _, eleave0 hok⟩
      ·exact .mk' (by repeat (first | exact trivial | refine ⟨rfl, ?_⟩)) (by repeat (first | exact .refl _ | apply List.Sublist.cons_cons | apply List.Sublist.cons))
      ·rintro ⟨w, h⟩ ⟨hw, hE⟩
       simp only at hw hE ⊢
       have hhl := flen_fok hE.ok
       have hsw2 := sumW_ok hE.ok
       refine awp_seq ?_
       refine awp_seq ?_
       refine awp_region ?_
       refine aqs rfl (q_mv (by constructor)) rfl ?_
       refine aqs rfl (q_lss rfl rfl) rfl ?_
       refine alist_nil ?_
       show AWP _ _ _ _
       refine awp_cond rfl (fun hc2 => ?_) (fun hc2 => ?_)
       ·simp only [decide_eq_true_eq] at hc2
        obtain ⟨g, e, hge, hcs⟩ : ∃ g e, leaveS h w = (g, e) ∧ ((e = 10 ∧ ELeave h ((w : Int) + 1)) ∨ (e = 0 ∧ ELeave g ((w : Int) + 1) ∧ sumW g + 1 = sumW h)) := by
         rcases eleave_step hE with ⟨e1, e2⟩ | ⟨g, e1, e2, e3⟩
         ·exact ⟨_, _, e1, .inl ⟨rfl, e2⟩⟩
         ·exact ⟨_, _, e1, .inr ⟨rfl, e2, e3⟩⟩
        refine awp_skip ?_
        show AWP _ _ _ _
        refine awp_seq ?_
        refine awp_block ?_
        refine awp_seq ?_
        refine awp_region ?_
        refine aqs rfl (q_mv (by constructor)) rfl ?_
        refine aqs rfl (q_mv (by constructor)) rfl ?_
        first | refine aqs rfl (e_callN cb102 (hge ▸ leave102_c h hhl w _) rfl rfl) rfl ?_ | refine aqs rfl (e_callN cb102 (ACall.arg (hge ▸ leave102_c h hhl w _) (by repeat (first | exact ArgL.nil | (apply ArgL.cons; (· first | exact .same | exact .cro | exact .nil))))) rfl rfl) rfl ?_
        refine aqs rfl (q_mv (by constructor)) rfl ?_
        refine aqs rfl (q_ex rfl rfl (by constructor)) rfl ?_
        refine aqs rfl (q_ex rfl rfl (by constructor)) rfl ?_
        refine aqs rfl (q_as (by constructor)) rfl ?_
        refine aqs rfl (q_as (by constructor)) rfl ?_
        refine alist_nil ?_
        show AWP _ _ _ _
        refine awp_seq ?_
        refine awp_region ?_
        refine aqs rfl (q_mv (by constructor)) rfl ?_
        refine aqs rfl (q_eql rfl rfl) rfl ?_
        refine alist_nil ?_
        show AWP _ _ _ _
        refine awp_cond rfl (fun hc3 => ?_) (fun hc3 => ?_)
        ·have he : e = 0 := by simpa using hc3
         have hcs : ELeave g ((w : Int) + 1) ∧ sumW g + 1 = sumW h := by
          rcases hcs with ⟨h1, _⟩ | ⟨_, h2⟩
          ·omega
          ·exact h2
         have hsub : (sumW h : Int) - 1 = (sumW g : Nat) := by omega
         refine awp_seq ?_
         refine awp_region ?_
         refine aqs rfl (q_mv (by constructor)) rfl ?_
         refine aqs rfl (q_as (by constructor)) rfl ?_
         refine alist_nil ?_
         show AWP _ _ _ _
         refine awp_region ?_
         refine aqs rfl (q_mv (by constructor)) rfl ?_
         first | refine aqs rfl (castQ (r2 := .lit (.int .i64 (sumW g : Nat))) (q_sub64 rfl rfl (by omega) (by omega)) (by rw [hsub])) rfl ?_ | refine aqs rfl (castQ (r2 := .lit (.int .i64 (sumW g : Nat))) (q_sub rfl rfl) (by rw [hsub])) rfl ?_
         refine aqs rfl (q_as (by constructor)) rfl ?_
         refine alist_nil ?_
         show AWP _ _ _ _
         refine awp_region ?_
         refine aqs rfl (q_mv (by constructor)) rfl ?_
         first | refine aqs rfl (q_add64 rfl rfl (by omega) (by omega)) rfl ?_ | refine aqs rfl (q_add rfl rfl) rfl ?_
         refine aqs rfl (q_as (by constructor)) rfl ?_
         refine alist_nil ?_
         show ∃ y, _ ∧ _ ∧ _
         first
          | exact ⟨(w + 1, g), ⟨by show w + 1 ≤ 8; omega, hcs.1⟩, by show 8 - (w + 1) < 8 - w; omega, .mk' ⟨by rfl, rfl, rfl, rfl, trivial⟩ (by repeat (first | exact List.Sublist.refl _ | exact List.nil_sublist _ | exact List.sublist_append_left _ _ | (apply List.Sublist.cons_cons) | (apply List.Sublist.cons)))⟩
          | exact ⟨(w + 1, h), ⟨by show w + 1 ≤ 8; omega, hcs⟩, by show 8 - (w + 1) < 8 - w; omega, .mk' ⟨by rfl, rfl, rfl, rfl, trivial⟩ (by repeat (first | exact List.Sublist.refl _ | exact List.nil_sublist _ | exact List.sublist_append_left _ _ | (apply List.Sublist.cons_cons) | (apply List.Sublist.cons)))⟩
        ·have he : ¬ e = 0 := by simpa using hc3
         have hcs : ELeave h ((w : Int) + 1) := by
          rcases hcs with ⟨_, h2⟩ | ⟨h1, _⟩
          ·exact h2
          ·exact absurd h1 he
         refine awp_skip ?_
         show AWP _ _ _ _
         refine awp_region ?_
         refine aqs rfl (q_mv (by constructor)) rfl ?_
         first | refine aqs rfl (q_add64 rfl rfl (by omega) (by omega)) rfl ?_ | refine aqs rfl (q_add rfl rfl) rfl ?_
         refine aqs rfl (q_as (by constructor)) rfl ?_
         refine alist_nil ?_
         show ∃ y, _ ∧ _ ∧ _
         first
          | exact ⟨(w + 1, g), ⟨by show w + 1 ≤ 8; omega, hcs.1⟩, by show 8 - (w + 1) < 8 - w; omega, .mk' ⟨by rfl, rfl, rfl, rfl, trivial⟩ (by repeat (first | exact List.Sublist.refl _ | exact List.nil_sublist _ | exact List.sublist_append_left _ _ | (apply List.Sublist.cons_cons) | (apply List.Sublist.cons)))⟩
          | exact ⟨(w + 1, h), ⟨by show w + 1 ≤ 8; omega, hcs⟩, by show 8 - (w + 1) < 8 - w; omega, .mk' ⟨by rfl, rfl, rfl, rfl, trivial⟩ (by repeat (first | exact List.Sublist.refl _ | exact List.nil_sublist _ | exact List.sublist_append_left _ _ | (apply List.Sublist.cons_cons) | (apply List.Sublist.cons)))⟩
       ·simp only [decide_eq_false_iff_not] at hc2
        obtain rfl : w = 8 := by omega
        have hz := eleave_end hE
        refine awp_exit ?_
        show AWP _ _ _ _
        refine awp_seq ?_
        refine awp_region ?_
        refine aqs rfl (q_mv (by constructor)) rfl ?_
        refine aqs rfl (castF (q_neq rfl rfl) (by rw [hz]; rfl)) rfl ?_
        refine alist_nil ?_
        show AWP _ _ _ _
        refine awp_cond rfl (fun hc4 => ?_) (fun hc4 => ?_)
        ·exfalso; first | (simp at hc4; done) | (simp at hc4; omega) | contradiction
        ·try simp only [decide_eq_true_eq, decide_eq_false_iff_not, Bool.not_eq_true', Bool.not_eq_false', Bool.not_eq_eq_eq_not, Bool.not_true, Bool.not_false, beq_iff_eq, beq_eq_false_iff_ne, Int.not_lt, Int.not_le] at hc4
         refine awp_skip ?_
         show ∃ y, _ ∧ _
         first
          | exact ⟨h, hE.ok, .mk' ⟨by rfl, rfl, rfl, trivial⟩ (by repeat (first | exact List.Sublist.refl _ | exact List.nil_sublist _ | exact List.sublist_append_left _ _ | (apply List.Sublist.cons_cons) | (apply List.Sublist.cons)))⟩
          | exact ⟨f, hok, .mk' ⟨by rfl, rfl, rfl, trivial⟩ (by repeat (first | exact List.Sublist.refl _ | exact List.nil_sublist _ | exact List.sublist_append_left _ _ | (apply List.Sublist.cons_cons) | (apply List.Sublist.cons)))⟩
     ·try simp only [decide_eq_true_eq, decide_eq_false_iff_not, Bool.not_eq_true', Bool.not_eq_false', Bool.not_eq_eq_eq_not, Bool.not_true, Bool.not_false, beq_iff_eq, beq_eq_false_iff_ne, Int.not_lt, Int.not_le] at hc1
      refine awp_skip ?_
      show ∃ y, _ ∧ _
      first
       | exact ⟨h, hE.ok, .mk' ⟨by rfl, rfl, rfl, trivial⟩ (by repeat (first | exact List.Sublist.refl _ | exact List.nil_sublist _ | exact List.sublist_append_left _ _ | (apply List.Sublist.cons_cons) | (apply List.Sublist.cons)))⟩
       | exact ⟨f, hok, .mk' ⟨by rfl, rfl, rfl, trivial⟩ (by repeat (first | exact List.Sublist.refl _ | exact List.nil_sublist _ | exact List.sublist_append_left _ _ | (apply List.Sublist.cons_cons) | (apply List.Sublist.cons)))⟩
    intro f2 hok2
    obtain ⟨m, hm⟩ : ∃ m, m = sumW f2 := ⟨_, rfl⟩
    have hm8 := sumW_ok hok2
    show AWP _ _ _ ⟨[(7, .lit (.int .i64 (sumW f2 : Nat))), _, _], _, _⟩
    rw [← hm] at hm8 ⊢
    refine awp_seq ?_
    refine awp_region ?_
    refine aqs rfl (q_as (by constructor)) rfl ?_
    refine alist_nil ?_
    show AWP _ _ _ _
    refine awp_seq ?_
    refine awp_seq ?_
    refine awp_region ?_
    refine aqs rfl (q_as (by constructor)) rfl ?_
    refine alist_nil ?_
    show AWP _ _ _ _
    refine awp_block ?_
    refine awp_loop_inv (fun x : Nat × List Fill × Nat => ⟨[(13, .lit (.int .i64 x.1)), (12, .lit (.int .i64 x.2.2)), (7, .lit (.int .i64 m)), (6, .ro (x.2.1.map Fill.cells)), (5, .lit (.bool true))], 81, []⟩) (fun x => x.1 ≤ 8 ∧ EDone x.2.1 x.1 ∧ x.2.2 + sumW x.2.1 = m) (fun x => 8 - x.1) (0, f2, 0) ?_ ?_ ?_
    ·exact ⟨Nat.zero_le _, edone0 hok2, by show 0 + sumW f2 = m; omega⟩
    ·exact .mk' (by repeat (first | exact trivial | refine ⟨rfl, ?_⟩)) (by repeat (first | exact .refl _ | apply List.Sublist.cons_cons | apply List.Sublist.cons))
    ·rintro ⟨w, h, td⟩ ⟨hw, hE, hsum⟩
     simp only at hw hE hsum ⊢
     have hhl := flen_fok hE.ok
     refine awp_seq ?_
     refine awp_seq ?_
     refine awp_region ?_
     refine aqs rfl (q_mv (by constructor)) rfl ?_
     refine aqs rfl (q_lss rfl rfl) rfl ?_
     refine alist_nil ?_
     show AWP _ _ _ _
     refine awp_cond rfl (fun hc5 => ?_) (fun hc5 => ?_)
     ·simp only [decide_eq_true_eq] at hc5
      obtain ⟨told, g, e, hge, hcs⟩ : ∃ told g e, doneS h w = (told, g, e) ∧ ((e = 10 ∧ EDone h ((w : Int) + 1)) ∨ (e = 0 ∧ EDone g ((w : Int) + 1) ∧ told.length + sumW g = sumW h)) := by
       rcases edone_step hE with ⟨e1, e2⟩ | ⟨told, g, e1, e2, e3⟩
       ·exact ⟨_, _, _, e1, .inl ⟨rfl, e2⟩⟩
       ·exact ⟨_, _, _, e1, .inr ⟨rfl, e2, e3⟩⟩
      refine awp_skip ?_
      show AWP _ _ _ _
      refine awp_seq ?_
      refine awp_block ?_
      refine awp_seq ?_
      refine awp_region ?_
      refine aqs rfl (q_mv (by constructor)) rfl ?_
      refine aqs rfl (q_mv (by constructor)) rfl ?_
      first | refine aqs rfl (e_callN cb100 (hge ▸ done100_c h hhl w _) rfl rfl) rfl ?_ | refine aqs rfl (e_callN cb100 (ACall.arg (hge ▸ done100_c h hhl w _) (by repeat (first | exact ArgL.nil | (apply ArgL.cons; (· first | exact .same | exact .cro | exact .nil))))) rfl rfl) rfl ?_
      refine aqs rfl (q_mv (by constructor)) rfl ?_
      refine aqs rfl (q_ex rfl rfl (by constructor)) rfl ?_
      refine aqs rfl (q_ex rfl rfl (by constructor)) rfl ?_
      refine aqs rfl (q_ex rfl rfl (by constructor)) rfl ?_
      refine aqs rfl (q_as (by constructor)) rfl ?_
      refine aqs rfl (q_as (by constructor)) rfl ?_
      refine aqs rfl (q_as (by constructor)) rfl ?_
      refine alist_nil ?_
      show AWP _ _ _ _
      refine awp_seq ?_
      refine awp_region ?_
      refine aqs rfl (q_mv (by constructor)) rfl ?_
      refine aqs rfl (q_eql rfl rfl) rfl ?_
      refine alist_nil ?_
      show AWP _ _ _ _
      refine awp_cond rfl (fun hc6 => ?_) (fun hc6 => ?_)
      ·have he : e = 0 := by simpa using hc6
       have hcs : EDone g ((w : Int) + 1) ∧ told.length + sumW g = sumW h := by
        rcases hcs with ⟨h1, _⟩ | ⟨_, h2⟩
        ·omega
        ·exact h2
       have htl : (List.map cI ((told, g, e) : List Int × List Fill × Int).1).length = told.length := List.length_map ..
       refine awp_seq ?_
       refine awp_region ?_
       refine aqs rfl (q_mv (by constructor)) rfl ?_
       refine aqs rfl (q_as (by constructor)) rfl ?_
       refine alist_nil ?_
       show AWP _ _ _ _
       refine awp_region ?_
       refine aqs rfl (q_mv (by constructor)) rfl ?_
       refine aqs rfl (q_mv (by constructor)) rfl ?_
       first | refine aqs rfl (q_len Try.underlying25 .ro) rfl ?_ | refine aqs rfl (q_lenO Try.underlying25 rfl (by repeat (first | exact .here | assumption | (apply HAt.left; assumption) | apply HAt.there | apply HAt.right)) (by first | omega | (simp; done) | (simp; omega) | fail) (by first | exact Nat.sub_zero _ | rfl)) rfl ?_ | refine aqs rfl (q_len Try.underlying25 .nil) rfl ?_ | refine aqs rfl (q_len Try.underlying25 .cro) rfl ?_
       first | refine aqs rfl (q_add64 rfl rfl (by omega) (by omega)) rfl ?_ | refine aqs rfl (q_add rfl rfl) rfl ?_
       refine aqs rfl (q_as (by constructor)) rfl ?_
       refine alist_nil ?_
       show AWP _ _ _ _
       refine awp_region ?_
       refine aqs rfl (q_mv (by constructor)) rfl ?_
       first | refine aqs rfl (q_add64 rfl rfl (by omega) (by omega)) rfl ?_ | refine aqs rfl (q_add rfl rfl) rfl ?_
       refine aqs rfl (q_as (by constructor)) rfl ?_
       refine alist_nil ?_
       show ∃ y, _ ∧ _ ∧ _
       first
        | exact ⟨(w + 1, g, td + (List.map cI ((told, g, e) : List Int × List Fill × Int).1).length), ⟨by show w + 1 ≤ 8; omega, hcs.1, by show td + (List.map cI ((told, g, e) : List Int × List Fill × Int).1).length + sumW g = m; omega⟩, by show 8 - (w + 1) < 8 - w; omega, .mk' ⟨by rfl, rfl, rfl, rfl, rfl, trivial⟩ (by repeat (first | exact List.Sublist.refl _ | exact List.nil_sublist _ | exact List.sublist_append_left _ _ | (apply List.Sublist.cons_cons) | (apply List.Sublist.cons)))⟩
        | exact ⟨(w + 1, h, td), ⟨by show w + 1 ≤ 8; omega, hcs, hsum⟩, by show 8 - (w + 1) < 8 - w; omega, .mk' ⟨by rfl, rfl, rfl, rfl, rfl, trivial⟩ (by repeat (first | exact List.Sublist.refl _ | exact List.nil_sublist _ | exact List.sublist_append_left _ _ | (apply List.Sublist.cons_cons) | (apply List.Sublist.cons)))⟩
      ·have he : ¬ e = 0 := by simpa using hc6
       have hcs : EDone h ((w : Int) + 1) := by
        rcases hcs with ⟨_, h2⟩ | ⟨h1, _⟩
        ·exact h2
        ·exact absurd h1 he
       refine awp_skip ?_
       show AWP _ _ _ _
       refine awp_region ?_
       refine aqs rfl (q_mv (by constructor)) rfl ?_
       first | refine aqs rfl (q_add64 rfl rfl (by omega) (by omega)) rfl ?_ | refine aqs rfl (q_add rfl rfl) rfl ?_
       refine aqs rfl (q_as (by constructor)) rfl ?_
       refine alist_nil ?_
       show ∃ y, _ ∧ _ ∧ _
       first
        | exact ⟨(w + 1, g, td + (List.map cI ((told, g, e) : List Int × List Fill × Int).1).length), ⟨by show w + 1 ≤ 8; omega, hcs.1, by show td + (List.map cI ((told, g, e) : List Int × List Fill × Int).1).length + sumW g = m; omega⟩, by show 8 - (w + 1) < 8 - w; omega, .mk' ⟨by rfl, rfl, rfl, rfl, rfl, trivial⟩ (by repeat (first | exact List.Sublist.refl _ | exact List.nil_sublist _ | exact List.sublist_append_left _ _ | (apply List.Sublist.cons_cons) | (apply List.Sublist.cons)))⟩
        | exact ⟨(w + 1, h, td), ⟨by show w + 1 ≤ 8; omega, hcs, hsum⟩, by show 8 - (w + 1) < 8 - w; omega, .mk' ⟨by rfl, rfl, rfl, rfl, rfl, trivial⟩ (by repeat (first | exact List.Sublist.refl _ | exact List.nil_sublist _ | exact List.sublist_append_left _ _ | (apply List.Sublist.cons_cons) | (apply List.Sublist.cons)))⟩
     ·simp only [decide_eq_false_iff_not] at hc5
      obtain rfl : w = 8 := by omega
      have hz := edone_end hE
      subst hz
      have hsum : td = m := by simpa [sumW] using hsum
      refine awp_exit ?_
      show AWP _ _ _ _
      refine awp_seq ?_
      refine awp_region ?_
      refine aqs rfl (q_mv (by constructor)) rfl ?_
      refine aqs rfl (q_mv (by constructor)) rfl ?_
      first | refine ans rfl rfl ?_ | refine aqs rfl (q_mv (by constructor)) rfl ?_
      first | refine ans rfl rfl ?_ | refine aqs rfl (q_len Try.underlying112 .ro) rfl ?_ | refine aqs rfl (q_lenO Try.underlying112 rfl (by repeat (first | exact .here | assumption | (apply HAt.left; assumption) | apply HAt.there | apply HAt.right)) (by first | omega | (simp; done) | (simp; omega) | fail) (by first | exact Nat.sub_zero _ | rfl)) rfl ?_ | refine aqs rfl (q_len Try.underlying112 .nil) rfl ?_ | refine aqs rfl (q_len Try.underlying112 .cro) rfl ?_
      refine aqs rfl (castT (q_eql rfl rfl) (by rfl)) rfl ?_
      first | refine aqs rfl (q_pickT rfl (by constructor)) rfl ?_ | refine aqs rfl (q_pickF rfl (by constructor)) rfl ?_
      refine aqs rfl (q_mv (by constructor)) rfl ?_
      first | refine ans rfl rfl ?_ | refine aqs rfl (q_mv (by constructor)) rfl ?_
      first | refine ans rfl rfl ?_ | refine aqs rfl (q_mv (by constructor)) rfl ?_
      refine aqs rfl (castT (q_eql rfl rfl) (by rw [hsum]; simp)) rfl ?_
      first | refine aqs rfl (q_pickT rfl (by constructor)) rfl ?_ | refine aqs rfl (q_pickF rfl (by constructor)) rfl ?_
      refine aqs rfl (q_as (by constructor)) rfl ?_
      refine alist_nil ?_
      show AWP _ _ _ _
      refine awp_ret ?_
      repeat first | with_reducible refine then_ret ?_ | with_reducible refine blk_ret ?_
      apply retq (.inr rfl) (.cons (rok_t rfl) .nil)
      rotate_left
      ·exact ⟨rfl, rfl⟩
      repeat (first | exact List.Sublist.refl _ | exact List.nil_sublist _ | exact List.sublist_append_left _ _ | apply List.Sublist.cons)
end Go.Proofs.YtdlinfekifnmkaaAm
