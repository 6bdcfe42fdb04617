/- The walk of FlightTells. Conditions: none. -/
import Derived.Test.YtdlinfekifnmkaaAmFlightAwake
set_option linter.unusedVariables false
set_option linter.unusedSimpArgs false
set_option maxRecDepth 20000
namespace Go.Proofs.YtdlinfekifnmkaaAm
open Go.Proofs
def cutF (x : Fill) : Fill := ⟨x.left, x.right, x.by_, x.waiting.take (min x.waiting.length 6)⟩
structure FSm (f : List Fill) : Prop where
  n : f.length ≤ 100
  w : ∀ x ∈ f, x.waiting.length ≤ 100
theorem FSm.fl {f : List Fill} (h : FSm f) : FLen f := ⟨by have := h.n; omega, fun x hx => by have := h.w x hx; omega⟩
theorem fsm_begin {f : List Fill} (h : FSm f) (l r : ByteArray) (who : Int) : FLen (beginS f l r who).2.1 := by
  have hn := h.n
  by_cases hr : fRight f = false
  · rw [begin_bad hr]; exact ⟨by simp, by simp⟩
  · by_cases hw : who ∈ allOf f
    · rw [begin_twice (by simpa using hr) hw]; exact ⟨by simp, by simp⟩
    · rcases begin_cases (l := l) (r := r) (by simpa using hr) hw with ⟨e, _⟩ | ⟨A, x, B, rfl, _, _, e⟩
      · rw [e]
        refine ⟨by simp; omega, fun x hx => ?_⟩
        rcases List.mem_append.1 hx with hx | hx
        · have := h.w x hx; omega
        · simp at hx; subst hx; simp
      · rw [e]
        refine ⟨by simp at hn ⊢; omega, fun y hy => ?_⟩
        rcases mid_or (x := x) hy with rfl | ⟨hy, _⟩
        · have := h.w x mid_self
          simp [moreW]
          omega
        · have := h.w y hy; omega
theorem fsm_done {f : List Fill} (h : FSm f) (who : Int) : FLen (doneS f who).2.1 ∧ (doneS f who).1.length ≤ 1000 := by
  have hn := h.n
  by_cases hr : fRight f = false
  · rw [done_bad hr]; exact ⟨⟨by simp, by simp⟩, by simp⟩
  · rcases done_cases (who := who) (by simpa using hr) with ⟨e, _⟩ | ⟨A, x, B, rfl, _, e⟩
    · rw [e]; exact ⟨⟨by simp, by simp⟩, by simp⟩
    · rw [e]
      refine ⟨⟨by simp at hn ⊢; omega, fun y hy => ?_⟩, ?_⟩
      · have := h.w y (mid_mem (List.mem_append.1 hy)); omega
      · have := h.w x mid_self
        show x.waiting.length ≤ 1000
        omega
theorem fsm_leave {f : List Fill} (h : FSm f) (who : Int) : FLen (leaveS f who).1 := by
  have hn := h.n
  by_cases hr : fRight f = false
  · rw [leave_bad hr]; exact ⟨by simp, by simp⟩
  · rcases leave_cases (who := who) (by simpa using hr) with ⟨e, _⟩ | ⟨A, x, B, rfl, _, e⟩
    · rw [e]; exact ⟨by simp, by simp⟩
    · rw [e]
      refine ⟨by simp at hn ⊢; omega, fun y hy => ?_⟩
      rcases mid_or (x := x) hy with rfl | ⟨hy, _⟩
      · have h1 := h.w x mid_self
        have h2 := notW_len who x.waiting
        show (notW who x.waiting).length ≤ 1000
        omega
      · have := h.w y hy; omega
def fRow (f : List Fill) : List AV := [.ro (f.map Fill.cells)]
def sRow (p : ByteArray × ByteArray) : List AV := [.lit (.string p.1), .lit (.string p.2)]
theorem two_of {α : Type} {a b x : α} (h : x ∈ [a, b]) : x = a ∨ x = b := by simpa using h
set_option maxHeartbeats 16000000 in
theorem walkFlightTells (some_ : List Fill) (deeds : List Tri) (left right : ByteArray) (k : Two) (who : Int) (ws : (∀ y ∈ some_, y.Wf) ∧ some_.length ≤ 9223372036854775807) (wd : (∀ y ∈ deeds, y.Wf) ∧ deeds.length ≤ 9223372036854775807) (wl : left.size ≤ 9223372036854775807) (wr : right.size ≤ 9223372036854775807) (wk : k.Wf) (ww : -9223372036854775808 ≤ who ∧ who ≤ 9223372036854775807) :
    QCall Try.prog 25 [.ro (some_.map Fill.cells), .ro (deeds.map Tri.cells), .lit (.string left), .lit (.string right), .agg k.cells, .lit (.int .i64 who)] [] (.lit (.bool true)) := by
  obtain ⟨own, hown⟩ : ∃ own, own = fillsS (deeds.take 20) := ⟨_, rfl⟩
  have hok : FOk own := hown ▸ fok_fills _
  have hok8 := fok_len hok
  obtain ⟨odd, hodd⟩ : ∃ odd, odd = (some_.take 6).map cutF := ⟨_, rfl⟩
  have hos : FSm odd := by
    rw [hodd]
    refine ⟨by simp; omega, fun x hx => ?_⟩
    obtain ⟨z, _, rfl⟩ := List.mem_map.1 hx
    simp [cutF]
    omega
  obtain ⟨Fs, hFs⟩ : ∃ Fs, Fs = [odd, own] := ⟨_, rfl⟩
  have hF : ([[.ro (odd.map Fill.cells)], [.ro (own.map Fill.cells)]] : List (List AV)) = Fs.map fRow := by rw [hFs]; rfl
  have hFb : ∀ f ∈ Fs, FSm f := by
    intro f hf
    rw [hFs] at hf
    rcases two_of hf with h | h
    · rw [h]; exact hos
    · rw [h]; exact ⟨by omega, fun x hx => by have := hok8.2 x hx; omega⟩
  have hFl : Fs.length = 2 := by rw [hFs]; rfl
  obtain ⟨p, hp⟩ : ∃ p, p = pick who 9 := ⟨_, rfl⟩
  obtain ⟨Ts, hTs⟩ : ∃ Ts, Ts = [(left, right), (textS k.a, textS k.b)] := ⟨_, rfl⟩
  have hT : ([[.lit (.string left), .lit (.string right)], [.lit (.string (textS k.a)), .lit (.string (textS k.b))]] : List (List AV)) = Ts.map sRow := by rw [hTs]; rfl
  have hTl : Ts.length = 2 := by rw [hTs]; rfl
  refine acall_intro (n := 197) (rvs := [.tmp 12]) Try.func25 rfl rfl rfl (Nat.le_of_ble_eq_true rfl) ?_
  refine awp_seq ?_
  refine awp_region ?_
  (refine aes rfl (e_bx (by constructor) rfl rfl) rfl ?_; rintro _ _ ⟨u10, rfl, rfl⟩)
  refine aqs rfl (q_as (by constructor)) rfl ?_
  refine alist_nil ?_
  show AWP _ _ _ _
  refine awp_seq ?_
  refine awp_region ?_
  first | refine aqs rfl (e_callN cb91 (QCall.any _ awake91_c) rfl rfl) rfl ?_ | refine aqs rfl (e_callN cb91 (ACall.arg (QCall.any _ awake91_c) (by repeat (first | exact ArgL.nil | (apply ArgL.cons; (· first | exact .same | exact .cro | exact .nil))))) rfl rfl) rfl ?_
  refine aqs rfl (q_as (by constructor)) rfl ?_
  refine alist_nil ?_
  show AWP _ _ _ _
  refine awp_seq ?_
  refine awp_region ?_
  refine aqs rfl (q_as (by constructor)) rfl ?_
  refine alist_nil ?_
  show AWP _ _ _ _
  refine awp_adopt 14 115 4 rfl fun w0 => ?_
  show AWP _ _ _ _
  refine awp_seq ?_
  refine awp_seq ?_
  refine awp_region ?_
  refine aqs rfl (q_as (by constructor)) rfl ?_
  refine alist_nil ?_
  show AWP _ _ _ _
  refine awp_block ?_
  refine awp_loop_inv (fun x : Nat × Nat => ⟨[(15, .lit (.int .i64 x.1)), (14, .sl x.2 0 ((some_.take x.1).map cutF).length), (0, .ro (some_.map Fill.cells)), (1, .ro (deeds.map Tri.cells)), (2, .lit (.string left)), (3, .lit (.string right)), (5, .lit (.int .i64 who)), (10, .ptr u10 0 0), (13, .lit (.bool true))], 197, [(x.2, .arr 115 4 (((some_.take x.1).map cutF).map Fill.cells)), (u10, .arr 113 2 [k.cells])]⟩) (fun x => x.1 ≤ some_.length ∧ x.1 ≤ 6) (fun x => 6 - x.1) (0, w0) ?_ ?_ ?_
  ·exact ⟨Nat.zero_le _, Nat.zero_le _⟩
  ·exact .mk' (by repeat (first | exact trivial | refine ⟨rfl, ?_⟩)) (by repeat (first | exact .refl _ | apply List.Sublist.cons_cons | apply List.Sublist.cons))
  ·rintro ⟨i, u⟩ ⟨hi, hi6⟩
   simp only at hi hi6 ⊢
   obtain ⟨a, ha⟩ : ∃ a, a = (some_.take i).map cutF := ⟨_, rfl⟩
   have hal : a.length = i := by rw [ha, List.length_map, List.length_take]; omega
   rw [← ha]
   have hlen := lenFill a
   have hone := oneFill a
   refine awp_seq ?_
   refine awp_mid [(47, .lit (.bool (decide ((i : Int) < (some_.map Fill.cells).length) && decide ((i : Int) < 6)))), (15, .lit (.int .i64 i)), (14, .sl u 0 a.length), (0, .ro (some_.map Fill.cells)), (1, .ro (deeds.map Tri.cells)), (2, .lit (.string left)), (3, .lit (.string right)), (5, .lit (.int .i64 who)), (10, .ptr u10 0 0), (13, .lit (.bool true))] ?_ ?_
   ·skip
    refine awp_region ?_
    all_goals (refine aqs rfl (q_mv (by constructor)) rfl ?_)
    all_goals (refine aqs rfl (q_mv (by constructor)) rfl ?_)
    all_goals (first | refine aqs rfl (q_len Try.underlying112 .ro) rfl ?_ | refine aqs rfl (q_lenO Try.underlying112 rfl (by repeat (first | exact .here | assumption | (apply HAt.left; assumption) | apply HAt.there | apply HAt.right)) (by first | omega | (simp; done) | (simp; omega) | fail) (by first | exact Nat.sub_zero _ | rfl)) rfl ?_ | refine aqs rfl (q_len Try.underlying112 .nil) rfl ?_ | refine aqs rfl (q_len Try.underlying112 .cro) rfl ?_)
    all_goals (refine aqs rfl (q_lss rfl rfl) rfl ?_)
    all_goals (refine aqs rfl (q_mv (by constructor)) rfl ?_)
    all_goals try (refine acase (fun hb4 => ?_) (fun hb4 => ?_))
    all_goals first | (exfalso; cases hb4; done) | skip
    all_goals (first | refine ans rfl rfl ?_ | refine aqs rfl (q_mv (by constructor)) rfl ?_)
    all_goals (first | refine ans rfl rfl ?_ | refine aqs rfl (q_lss rfl rfl) rfl ?_)
    all_goals (first | refine aqs rfl (q_pickT rfl (by constructor)) rfl ?_ | refine aqs rfl (q_pickF rfl (by constructor)) rfl ?_)
    all_goals (refine alist_nil ?_)
    all_goals (exact ⟨rfl, .mk' (by repeat (first | exact trivial | refine ⟨rfl, ?_⟩ | (refine ⟨?_, ?_⟩; (· first | (rw [hb4]; rfl) | fail)))) (by repeat (first | exact .refl _ | exact List.nil_sublist _ | exact List.sublist_append_left _ _ | apply List.Sublist.cons))⟩)
   refine awp_cond rfl (fun hc0 => ?_) (fun hc0 => ?_)
   ·simp only [Bool.and_eq_true, decide_eq_true_eq, List.length_map] at hc0
    obtain ⟨x, hs, hsm⟩ := get_lt (l := some_) (i := i) (by omega)
    have hs2 := get_map (f := Fill.cells) hs
    have hxl : (x.waiting.map cI).length = x.waiting.length := List.length_map ..
    have hes : ((a.map Fill.cells).take a.length).drop 0 ++ [(cutF x).cells] = ((some_.take (i + 1)).map cutF).map Fill.cells := by
     rw [List.take_of_length_le (by simp), take_next hs, ha]; simp
    have hml : a.length - 0 + 1 = ((some_.take (i + 1)).map cutF).length := by rw [take_next hs, ha]; simp
    refine awp_skip ?_
    show AWP _ _ _ _
    refine awp_seq ?_
    refine awp_block ?_
    refine awp_seq ?_
    refine awp_region ?_
    refine aqs rfl (q_mv (by constructor)) rfl ?_
    refine aqs rfl (q_mv (by constructor)) rfl ?_
    first | refine aqs rfl (q_iaN Try.underlying112 sz115 (.inl rfl) rfl (by omega) (by first | rfl | assumption | (simp [*]; done) | fail) (by first | rfl | assumption | (simp [*]; done) | fail) (by decide) (by first | ((repeat constructor); done) | exact .same _)) rfl ?_ | refine aqs rfl (q_iaS Try.underlying112 sz115 rfl (by repeat (first | exact .here | assumption | (apply HAt.left; assumption) | apply HAt.there | apply HAt.right)) rfl (by omega) (by omega) (by first | exact Nat.zero_add _ | rfl)) rfl ?_ | refine aqs rfl (q_iaN Try.underlying112 sz115 (.inr rfl) rfl (by omega) (by first | rfl | assumption | (simp [*]; done) | fail) (by first | rfl | assumption | (simp [*]; done) | fail) (by decide) (by first | ((repeat constructor); done) | exact .same _)) rfl ?_
    first | refine aqs rfl (q_ldpW ag115 sz115 rfl (by repeat (first | exact .here | assumption | (apply HAt.left; assumption) | apply HAt.there | apply HAt.right)) (by first | rfl | assumption | (simp [*]; done) | fail) (by first | rfl | assumption | (simp [*]; done) | fail) (by decide)) rfl ?_ | refine aqs rfl (q_ldW ag115 sz115 rfl (by first | rfl | assumption | (simp [*]; done) | fail)) rfl ?_ | refine aqs rfl (q_ldpP ag115 sz115 rfl (by repeat (first | exact .here | assumption | (apply HAt.left; assumption) | apply HAt.there | apply HAt.right)) (by first | rfl | assumption | (simp [*]; done) | fail) (by first | decide | (simp; done) | omega | fail) (by decide) (by first | ((repeat constructor); done) | exact .same _)) rfl ?_ | refine aqs rfl (q_ldP ag115 sz115 rfl (by first | decide | (simp; done) | omega | fail) (by first | ((repeat constructor); done) | exact .same _)) rfl ?_
    (refine aes rfl (e_al (xs := [.lit (.string ⟨#[]⟩), .lit (.string ⟨#[]⟩), .lit (.int .i64 0), .lit (.slice none 0 0)]) (k := 4) zr115 (.same _) rfl) rfl ?_; rintro _ _ ⟨u16, rfl, rfl⟩)
    first | (refine aen rfl (e_stW sz115 rfl (by repeat (first | exact .here | assumption | (apply HAt.left; assumption) | apply HAt.there | apply HAt.right)) (by constructor) (by first | rfl | assumption | (simp [*]; done) | fail) rfl (by repeat (first | exact .here | apply HSet.there))) ?_; rintro _ _ ⟨rfl, rfl⟩) | (refine aen rfl (e_stP sz115 rfl (by repeat (first | exact .here | assumption | (apply HAt.left; assumption) | apply HAt.there | apply HAt.right)) (by first | rfl | assumption | (simp [*]; done) | fail) (by constructor) (by first | rfl | assumption | (simp [*]; done) | fail) rfl (by first | decide | omega) (by first | ((repeat constructor); done) | exact .same _) (by first | exact .one | exact .set) (by repeat (first | exact .here | apply HSet.there))) ?_; rintro _ _ ⟨rfl, rfl⟩)
    refine alist_nil ?_
    show AWP _ _ _ _
    refine awp_seq ?_
    refine awp_region ?_
    first | refine aqs rfl (q_fapP fl115_3 (by decide) rfl rfl) rfl ?_ | refine aqs rfl (q_faP fl115_3 (by decide) rfl (by first | ((repeat constructor); done) | exact .same _)) rfl ?_
    first | refine aqs rfl (q_ldpN ag25 rfl (by repeat (first | exact .here | assumption | (apply HAt.left; assumption) | apply HAt.there | apply HAt.right)) (by first | rfl | assumption | (simp [*]; done) | fail) (by first | rfl | assumption | (simp [*]; done) | fail) (by constructor)) rfl ?_ | refine aqs rfl (q_ld1N ag25 rfl (by constructor)) rfl ?_
    first | refine aqs rfl (q_fapP fl115_3 (by decide) rfl rfl) rfl ?_ | refine aqs rfl (q_faP fl115_3 (by decide) rfl (by first | ((repeat constructor); done) | exact .same _)) rfl ?_
    first | refine aqs rfl (q_ldpN ag25 rfl (by repeat (first | exact .here | assumption | (apply HAt.left; assumption) | apply HAt.there | apply HAt.right)) (by first | rfl | assumption | (simp [*]; done) | fail) (by first | rfl | assumption | (simp [*]; done) | fail) (by constructor)) rfl ?_ | refine aqs rfl (q_ld1N ag25 rfl (by constructor)) rfl ?_
    first | refine aqs rfl (q_len Try.underlying25 .ro) rfl ?_ | refine aqs rfl (q_lenO Try.underlying25 rfl (by repeat (first | exact .here | assumption | (apply HAt.left; assumption) | apply HAt.there | apply HAt.right)) (by first | omega | (simp; done) | (simp; omega) | fail) (by first | exact Nat.sub_zero _ | rfl)) rfl ?_ | refine aqs rfl (q_len Try.underlying25 .nil) rfl ?_ | refine aqs rfl (q_len Try.underlying25 .cro) rfl ?_
    refine aqs rfl (castQ (r2 := .lit (.int .i64 (min x.waiting.length 6 : Nat))) (q_min rfl rfl) (by exact congrArg (fun z : Int => AV.lit (.int .i64 z)) (by rw [hxl]; omega))) rfl ?_
    first | refine aqs rfl (castQ (r2 := .ro ((x.waiting.take (min x.waiting.length 6)).map cI)) (q_slR Try.underlying25 sz3 (.inl rfl) rfl (by first | (refine ⟨_, _, rfl, ?_⟩; with_reducible rfl) | exact bnd_int rfl (by omega)) (by first | omega | (simp; done) | (simp; omega) | fail) (by first | omega | (simp; done) | (simp; omega) | fail) (by first | rfl | assumption | (simp [*]; done) | fail)) (by rw [List.map_take]; rfl)) rfl ?_ | refine aqs rfl (castQ (r2 := .ro ((x.waiting.take (min x.waiting.length 6)).map cI)) (q_slO Try.underlying25 sz3 rfl (by repeat (first | exact .here | assumption | (apply HAt.left; assumption) | apply HAt.there | apply HAt.right)) rfl (by first | (refine ⟨_, _, rfl, ?_⟩; with_reducible rfl) | exact bnd_int rfl (by omega)) (by first | omega | (simp; done) | (simp; omega) | fail) (by first | omega | (simp; done) | (simp; omega) | fail) (by first | exact Nat.zero_add _ | rfl) (by first | exact Nat.zero_add _ | rfl)) (by rw [List.map_take]; rfl)) rfl ?_
    first | refine aqs rfl (q_fapP fl115_3 (by decide) rfl rfl) rfl ?_ | refine aqs rfl (q_faP fl115_3 (by decide) rfl (by first | ((repeat constructor); done) | exact .same _)) rfl ?_
    first | (refine aen rfl (e_stW sz25 rfl (by repeat (first | exact .here | assumption | (apply HAt.left; assumption) | apply HAt.there | apply HAt.right)) (by constructor) (by first | rfl | assumption | (simp [*]; done) | fail) rfl (by repeat (first | exact .here | apply HSet.there))) ?_; rintro _ _ ⟨rfl, rfl⟩) | (refine aen rfl (e_stP sz25 rfl (by repeat (first | exact .here | assumption | (apply HAt.left; assumption) | apply HAt.there | apply HAt.right)) (by first | rfl | assumption | (simp [*]; done) | fail) (by constructor) (by first | rfl | assumption | (simp [*]; done) | fail) rfl (by first | decide | omega) (by first | ((repeat constructor); done) | exact .same _) (by first | exact .one | exact .set) (by repeat (first | exact .here | apply HSet.there))) ?_; rintro _ _ ⟨rfl, rfl⟩)
    refine alist_nil ?_
    show AWP _ _ _ _
    refine awp_region ?_
    refine aqs rfl (q_mv (by constructor)) rfl ?_
    first | refine aqs rfl (q_ldpW ag115 sz115 rfl (by repeat (first | exact .here | assumption | (apply HAt.left; assumption) | apply HAt.there | apply HAt.right)) (by first | rfl | assumption | (simp [*]; done) | fail) (by first | rfl | assumption | (simp [*]; done) | fail) (by decide)) rfl ?_ | refine aqs rfl (q_ldW ag115 sz115 rfl (by first | rfl | assumption | (simp [*]; done) | fail)) rfl ?_ | refine aqs rfl (q_ldpP ag115 sz115 rfl (by repeat (first | exact .here | assumption | (apply HAt.left; assumption) | apply HAt.there | apply HAt.right)) (by first | rfl | assumption | (simp [*]; done) | fail) (by first | decide | (simp; done) | omega | fail) (by decide) (by first | ((repeat constructor); done) | exact .same _)) rfl ?_ | refine aqs rfl (q_ldP ag115 sz115 rfl (by first | decide | (simp; done) | omega | fail) (by first | ((repeat constructor); done) | exact .same _)) rfl ?_
    first | refine aqs rfl (q_bs Try.underlying112 sz115 zr115 rfl (by first | ((repeat constructor); done) | exact .same _) rfl (by decide) (by repeat (first | exact BS.nil | (apply BS.cons; (· constructor); (· rfl); (· rfl); (· rfl); (· exact (by first | ((repeat constructor); done) | exact .same _)))))) rfl ?_ | (refine aes rfl (e_bs Try.underlying112 sz115 zr115 rfl (by first | ((repeat constructor); done) | exact .same _) rfl (by decide) (by repeat (first | exact BS.nil | (apply BS.cons; (· constructor); (· rfl); (· rfl); (· rfl); (· exact (by first | ((repeat constructor); done) | exact .same _)))))) rfl ?_; rintro _ _ ⟨u64, rfl, rfl⟩)
    first | refine aqs rfl (q_apC Try.underlying112 sz115 by115 zr115 (.inl rfl) (by first | exact .ro | exact .cro | exact .nil | exact SV.slA (by repeat (first | exact .here | assumption | (apply HAt.left; assumption) | apply HAt.there | apply HAt.right)) (by first | rfl | (simp; done) | (simp; omega) | (simp [*]; done) | fail)) (by first | assumption | (intro c hc; simp at hc; subst hc; rfl) | (simp; done) | fail) (by first | assumption | (intro c hc; simp at hc; subst hc; rfl) | (simp; done) | fail) (by first | omega | decide | (simp; omega) | assumption | fail) (by decide) (by decide) rfl (by first | rfl | (simp; done) | fail)) rfl ?_ | refine aqs rfl (q_apC Try.underlying112 sz115 by115 zr115 (.inr ⟨rfl, rfl⟩) (by first | exact .ro | exact .cro | exact .nil | exact SV.slA (by repeat (first | exact .here | assumption | (apply HAt.left; assumption) | apply HAt.there | apply HAt.right)) (by first | rfl | (simp; done) | (simp; omega) | (simp [*]; done) | fail)) (by first | assumption | (intro c hc; simp at hc; subst hc; rfl) | (simp; done) | fail) (by first | assumption | (intro c hc; simp at hc; subst hc; rfl) | (simp; done) | fail) (by first | omega | decide | (simp; omega) | assumption | fail) (by decide) (by decide) rfl (by first | rfl | (simp; done) | fail)) rfl ?_ | (refine aes rfl (e_apO Try.underlying112 sz115 by115 zr115 rfl (by repeat (first | exact .here | assumption | (apply HAt.left; assumption) | apply HAt.there | apply HAt.right)) (by rw [List.length_map]; exact Nat.le_refl _) (by first | exact .ro | exact .cro | exact .nil | exact SV.slA (by repeat (first | exact .here | assumption | (apply HAt.left; assumption) | apply HAt.there | apply HAt.right)) (by first | rfl | (simp; done) | (simp; omega) | (simp [*]; done) | fail)) (by first | assumption | (intro c hc; simp at hc; subst hc; rfl) | (simp; done) | fail) (by first | assumption | (intro c hc; simp at hc; subst hc; rfl) | (simp; done) | fail) (by first | assumption | (intro c hc; simp at hc; subst hc; rfl) | (simp; done) | fail) (by first | (simp; done) | (simp; omega) | omega | fail) (by decide) (by decide) rfl (by exact hml) hes (fun v => (by repeat (first | exact .here | apply HSet.there)))) rfl ?_; rintro _ _ ⟨u65, rfl, rfl⟩) | (refine aes rfl (e_apN Try.underlying112 sz115 by115 zr115 rfl (by first | exact .ro | exact .cro | exact .nil | exact SV.slA (by repeat (first | exact .here | assumption | (apply HAt.left; assumption) | apply HAt.there | apply HAt.right)) (by first | rfl | (simp; done) | (simp; omega) | (simp [*]; done) | fail)) (by first | assumption | (intro c hc; simp at hc; subst hc; rfl) | (simp; done) | fail) (by first | assumption | (intro c hc; simp at hc; subst hc; rfl) | (simp; done) | fail) (by first | (simp; done) | (simp; omega) | omega | fail) (by decide) (by decide) rfl rfl) rfl ?_; rintro _ _ ⟨u65, rfl, rfl⟩)
    refine aqs rfl (q_as (by constructor)) rfl ?_
    refine alist_nil ?_
    show AWP _ _ _ _
    refine awp_region ?_
    refine aqs rfl (q_mv (by constructor)) rfl ?_
    first | refine aqs rfl (q_add64 rfl rfl (by omega) (by omega)) rfl ?_ | refine aqs rfl (q_add rfl rfl) rfl ?_
    refine aqs rfl (q_as (by constructor)) rfl ?_
    refine alist_nil ?_
    show ∃ y, _ ∧ _ ∧ _
    exact ⟨(i + 1, _), ⟨by show i + 1 ≤ some_.length; omega, by show i + 1 ≤ 6; omega⟩, by show 6 - (i + 1) < 6 - i; omega, .mk' ⟨by rfl, rfl, rfl, rfl, rfl, rfl, rfl, rfl, rfl, trivial⟩ (by repeat (first | exact List.Sublist.refl _ | exact List.nil_sublist _ | exact List.sublist_append_left _ _ | (apply List.Sublist.cons_cons) | (apply List.Sublist.cons)))⟩
   ·simp only [Bool.and_eq_false_iff, decide_eq_false_iff_not, List.length_map] at hc0
    have e : a = odd := by
     rw [ha, hodd]
     rcases hc0 with h | h
     ·rw [List.take_of_length_le (show some_.length ≤ i by omega), List.take_of_length_le (show some_.length ≤ 6 by omega)]
     ·rw [show i = 6 by omega]
    rw [e]
    refine awp_pub (u := u) (by repeat (first | exact .here | assumption | (apply HAt.left; assumption) | apply HAt.there | apply HAt.right)) (by repeat (first | exact PubT.nil | (apply PubT.cons; (· first | exact .one (pub_all (by first | rfl | (simp; done) | (simp; omega) | (simp [*]; done) | fail)) | exact .one .same)) | exact PubT.same)) (by repeat (first | exact PubH.drop .same | (apply PubH.cons; (· exact .same)))) ?_
    refine awp_exit ?_
    show AWP _ _ _ _
    refine awp_seq ?_
    refine awp_seq ?_
    refine awp_region ?_
    refine aqs rfl (q_mv (by constructor)) rfl ?_
    refine aqs rfl (q_mv (by constructor)) rfl ?_
    first | refine aqs rfl (e_callN cb92 (hown ▸ fills92_c deeds wd.1 _) rfl rfl) rfl ?_ | refine aqs rfl (e_callN cb92 (ACall.arg (hown ▸ fills92_c deeds wd.1 _) (by repeat (first | exact ArgL.nil | (apply ArgL.cons; (· first | exact .same | exact .cro | exact .nil))))) rfl rfl) rfl ?_
    first | refine aqs rfl (castQ (r2 := .cro (Fs.map fRow)) (q_bs Try.underlying117 sz112 zr112 rfl (by first | ((repeat constructor); done) | exact .same _) rfl (by decide) (by repeat (first | exact BS.nil | (apply BS.cons; (· constructor); (· rfl); (· rfl); (· rfl); (· exact (by first | ((repeat constructor); done) | exact .same _)))))) (by exact congrArg AV.cro hF)) rfl ?_ | (refine aes rfl (e_bs Try.underlying117 sz112 zr112 rfl (by first | ((repeat constructor); done) | exact .same _) rfl (by decide) (by repeat (first | exact BS.nil | (apply BS.cons; (· constructor); (· rfl); (· rfl); (· rfl); (· exact (by first | ((repeat constructor); done) | exact .same _)))))) rfl ?_; rintro _ _ ⟨u69, rfl, rfl⟩)
    first | refine aqs rfl (castQ (r2 := .lit (.int .i64 2)) (q_len Try.underlying117 .ro) (by rw [List.length_map, hFl]; rfl)) rfl ?_ | refine aqs rfl (castQ (r2 := .lit (.int .i64 2)) (q_lenO Try.underlying117 rfl (by repeat (first | exact .here | assumption | (apply HAt.left; assumption) | apply HAt.there | apply HAt.right)) (by first | omega | (simp; done) | (simp; omega) | fail) (by first | exact Nat.sub_zero _ | rfl)) (by rw [List.length_map, hFl]; rfl)) rfl ?_ | refine aqs rfl (castQ (r2 := .lit (.int .i64 2)) (q_len Try.underlying117 .nil) (by rw [List.length_map, hFl]; rfl)) rfl ?_ | refine aqs rfl (castQ (r2 := .lit (.int .i64 2)) (q_len Try.underlying117 .cro) (by rw [List.length_map, hFl]; rfl)) rfl ?_
    refine aqs rfl (q_mv (by constructor)) rfl ?_
    refine alist_nil ?_
    show AWP _ _ _ _
    refine awp_block ?_
    refine awp_loop_inv (fun i : Nat => ⟨[(71, .lit (.int .i64 i)), (70, .lit (.int .i64 2)), (69, .cro (Fs.map fRow)), (2, .lit (.string left)), (3, .lit (.string right)), (5, .lit (.int .i64 who)), (10, .ptr u10 0 0), (13, .lit (.bool true))], 197, [(u10, .arr 113 2 [k.cells])]⟩) (fun i => i ≤ 2) (fun i => 2 - i) 0 ?_ ?_ ?_
    ·exact Nat.zero_le _
    ·exact .mk' (by repeat (first | exact trivial | refine ⟨rfl, ?_⟩)) (by repeat (first | exact .refl _ | apply List.Sublist.cons_cons | apply List.Sublist.cons))
    ·intro i hi
     refine awp_seq ?_
     refine awp_region ?_
     refine aqs rfl (q_lss rfl rfl) rfl ?_
     refine alist_nil ?_
     show AWP _ _ _ _
     refine awp_seq ?_
     refine awp_cond rfl (fun hc1 => ?_) (fun hc1 => ?_)
     ·simp only [decide_eq_true_eq] at hc1
      obtain ⟨f, hf, hfm⟩ := get_lt (l := Fs) (i := i) (by omega)
      have hfs := hFb f hfm
      have hfl := hfs.fl
      have hf2 : (Fs.map fRow)[i]? = some [.ro (f.map Fill.cells)] := get_map (f := fRow) hf
      have hR : ([[.lit (.int .i64 who)], [.lit (.int .i64 p)]] : List (List AV)) = [who, p].map cI := rfl
      refine awp_skip ?_
      show AWP _ _ _ _
      refine awp_seq ?_
      refine awp_block ?_
      refine awp_seq ?_
      refine awp_region ?_
      first | refine aqs rfl (q_iaN Try.underlying117 sz112 (.inl rfl) rfl (by omega) (by first | rfl | assumption | (simp [*]; done) | fail) (by first | rfl | assumption | (simp [*]; done) | fail) (by decide) (by first | ((repeat constructor); done) | exact .same _)) rfl ?_ | refine aqs rfl (q_iaS Try.underlying117 sz112 rfl (by repeat (first | exact .here | assumption | (apply HAt.left; assumption) | apply HAt.there | apply HAt.right)) rfl (by omega) (by omega) (by first | exact Nat.zero_add _ | rfl)) rfl ?_ | refine aqs rfl (q_iaN Try.underlying117 sz112 (.inr rfl) rfl (by omega) (by first | rfl | assumption | (simp [*]; done) | fail) (by first | rfl | assumption | (simp [*]; done) | fail) (by decide) (by first | ((repeat constructor); done) | exact .same _)) rfl ?_
      first | refine aqs rfl (q_ldpN ag112 rfl (by repeat (first | exact .here | assumption | (apply HAt.left; assumption) | apply HAt.there | apply HAt.right)) (by first | rfl | assumption | (simp [*]; done) | fail) (by first | rfl | assumption | (simp [*]; done) | fail) (by constructor)) rfl ?_ | refine aqs rfl (q_ld1N ag112 rfl (by constructor)) rfl ?_
      refine aqs rfl (q_as (by constructor)) rfl ?_
      refine alist_nil ?_
      show AWP _ _ _ _
      refine awp_seq ?_
      refine awp_seq ?_
      refine awp_region ?_
      refine aqs rfl (q_mv (by constructor)) rfl ?_
      first | refine aqs rfl (e_callN cb93 (right93_c f hfl _) rfl rfl) rfl ?_ | refine aqs rfl (e_callN cb93 (ACall.arg (right93_c f hfl _) (by repeat (first | exact ArgL.nil | (apply ArgL.cons; (· first | exact .same | exact .cro | exact .nil))))) rfl rfl) rfl ?_
      refine aqs rfl (q_mv (by constructor)) rfl ?_
      first | refine aqs rfl (e_callN cb94 (right94_c f hfl _) rfl rfl) rfl ?_ | refine aqs rfl (e_callN cb94 (ACall.arg (right94_c f hfl _) (by repeat (first | exact ArgL.nil | (apply ArgL.cons; (· first | exact .same | exact .cro | exact .nil))))) rfl rfl) rfl ?_
      refine aqs rfl (castF (q_bneq rfl rfl Try.underlying4) (by simp)) rfl ?_
      refine alist_nil ?_
      show AWP _ _ _ _
      refine awp_cond rfl (fun hc2 => ?_) (fun hc2 => ?_)
      ·exfalso; first | (simp at hc2; done) | (simp at hc2; omega) | contradiction
      ·try simp only [decide_eq_true_eq, decide_eq_false_iff_not, Bool.not_eq_true', Bool.not_eq_false', Bool.not_eq_eq_eq_not, Bool.not_true, Bool.not_false, beq_iff_eq, beq_eq_false_iff_ne, Int.not_lt, Int.not_le] at hc2
       refine awp_skip ?_
       show AWP _ _ _ _
       refine awp_seq ?_
       refine awp_region ?_
       refine aqs rfl (q_mv (by constructor)) rfl ?_
       refine aqs rfl (q_mv (by constructor)) rfl ?_
       first | refine aqs rfl (e_callN cb95 (hp ▸ pick95_c _ _ ww.1 ww.2 (by omega) _) rfl rfl) rfl ?_ | refine aqs rfl (e_callN cb95 (ACall.arg (hp ▸ pick95_c _ _ ww.1 ww.2 (by omega) _) (by repeat (first | exact ArgL.nil | (apply ArgL.cons; (· first | exact .same | exact .cro | exact .nil))))) rfl rfl) rfl ?_
       first | refine aqs rfl (q_bs Try.underlying25 sz3 zr3 rfl (by first | ((repeat constructor); done) | exact .same _) rfl (by decide) (by repeat (first | exact BS.nil | (apply BS.cons; (· constructor); (· rfl); (· rfl); (· rfl); (· exact (by first | ((repeat constructor); done) | exact .same _)))))) rfl ?_ | (refine aes rfl (e_bs Try.underlying25 sz3 zr3 rfl (by first | ((repeat constructor); done) | exact .same _) rfl (by decide) (by repeat (first | exact BS.nil | (apply BS.cons; (· constructor); (· rfl); (· rfl); (· rfl); (· exact (by first | ((repeat constructor); done) | exact .same _)))))) rfl ?_; rintro _ _ ⟨u83, rfl, rfl⟩)
       first | refine aqs rfl (castQ (r2 := .lit (.int .i64 2)) (q_len Try.underlying25 .ro) (by rfl)) rfl ?_ | refine aqs rfl (castQ (r2 := .lit (.int .i64 2)) (q_lenO Try.underlying25 rfl (by repeat (first | exact .here | assumption | (apply HAt.left; assumption) | apply HAt.there | apply HAt.right)) (by first | omega | (simp; done) | (simp; omega) | fail) (by first | exact Nat.sub_zero _ | rfl)) (by rfl)) rfl ?_ | refine aqs rfl (castQ (r2 := .lit (.int .i64 2)) (q_len Try.underlying25 .nil) (by rfl)) rfl ?_ | refine aqs rfl (castQ (r2 := .lit (.int .i64 2)) (q_len Try.underlying25 .cro) (by rfl)) rfl ?_
       refine aqs rfl (q_mv (by constructor)) rfl ?_
       refine alist_nil ?_
       show AWP _ _ _ _
       refine awp_block ?_
       refine awp_loop_inv (fun a : Nat => ⟨[(85, .lit (.int .i64 a)), (84, .lit (.int .i64 2)), (83, .cro ([who, p].map cI)), (18, .ro (f.map Fill.cells)), (71, .lit (.int .i64 i)), (70, .lit (.int .i64 2)), (69, .cro (Fs.map fRow)), (2, .lit (.string left)), (3, .lit (.string right)), (5, .lit (.int .i64 who)), (10, .ptr u10 0 0), (13, .lit (.bool true))], 197, [(u10, .arr 113 2 [k.cells])]⟩) (fun a => a ≤ 2) (fun a => 2 - a) 0 ?_ ?_ ?_
       ·exact Nat.zero_le _
       ·exact .mk' (by repeat (first | exact trivial | refine ⟨rfl, ?_⟩)) (by repeat (first | exact .refl _ | apply List.Sublist.cons_cons | apply List.Sublist.cons))
       ·intro a ha
        refine awp_seq ?_
        refine awp_region ?_
        refine aqs rfl (q_lss rfl rfl) rfl ?_
        refine alist_nil ?_
        show AWP _ _ _ _
        refine awp_seq ?_
        refine awp_cond rfl (fun hc3 => ?_) (fun hc3 => ?_)
        ·simp only [decide_eq_true_eq] at hc3
         have ha2 := cI_at (ks := [who, p]) (i := a) (by show a < 2; omega)
         obtain ⟨w, hw⟩ : ∃ w, w = [who, p].getD a 0 := ⟨_, rfl⟩
         rw [← hw] at ha2
         have hdn := fsm_done hfs w
         have hlv := fsm_leave hfs w
         refine awp_skip ?_
         show AWP _ _ _ _
         refine awp_seq ?_
         refine awp_block ?_
         refine awp_seq ?_
         refine awp_region ?_
         first | refine aqs rfl (q_iaN Try.underlying25 sz3 (.inl rfl) rfl (by omega) (by first | rfl | assumption | (simp [*]; done) | fail) (by first | rfl | assumption | (simp [*]; done) | fail) (by decide) (by first | ((repeat constructor); done) | exact .same _)) rfl ?_ | refine aqs rfl (q_iaS Try.underlying25 sz3 rfl (by repeat (first | exact .here | assumption | (apply HAt.left; assumption) | apply HAt.there | apply HAt.right)) rfl (by omega) (by omega) (by first | exact Nat.zero_add _ | rfl)) rfl ?_ | refine aqs rfl (q_iaN Try.underlying25 sz3 (.inr rfl) rfl (by omega) (by first | rfl | assumption | (simp [*]; done) | fail) (by first | rfl | assumption | (simp [*]; done) | fail) (by decide) (by first | ((repeat constructor); done) | exact .same _)) rfl ?_
         first | refine aqs rfl (q_ldpN ag3 rfl (by repeat (first | exact .here | assumption | (apply HAt.left; assumption) | apply HAt.there | apply HAt.right)) (by first | rfl | assumption | (simp [*]; done) | fail) (by first | rfl | assumption | (simp [*]; done) | fail) (by constructor)) rfl ?_ | refine aqs rfl (q_ld1N ag3 rfl (by constructor)) rfl ?_
         refine aqs rfl (q_as (by constructor)) rfl ?_
         refine alist_nil ?_
         show AWP _ _ _ _
         refine awp_seq ?_
         refine awp_seq ?_
         refine awp_draw 13 [(0, false), (1, false), (2, false), (3, false), (4, false), (5, false), (6, false), (7, false), (8, false), (9, false), (10, false), (11, false), (12, false)] _ ([]) mixed (by kernel_rfl) (perm0 _) ?_
         refine glq rfl (.inl ⟨rfl, q_mv (by constructor)⟩) rfl ?_
         refine glq rfl (.inl ⟨rfl, q_mv (by constructor)⟩) rfl ?_
         refine glq rfl (.inl ⟨rfl, q_bd st55 zr55 (by first | ((repeat constructor); done) | exact .same _) (by repeat (first | exact BD.nil | (apply BD.cons; (· rfl); (· constructor); (· rfl); (· rfl); (· exact Nat.le_of_ble_eq_true (by rfl)); (· exact (by first | ((repeat constructor); done) | exact .same _)))))⟩) rfl ?_
         first | refine glq rfl (.inl ⟨rfl, q_iaA Try.underlying113 sz3 rfl rfl (by omega) (by omega) rfl⟩) rfl ?_ | refine glq rfl (.inl ⟨rfl, q_iaI Try.underlying113 sz3 rfl rfl (by omega) (by omega) (by first | ((repeat constructor); done) | exact .same _)⟩) rfl ?_
         first | refine glq rfl (.inl ⟨rfl, q_ldpN ag3 rfl (by repeat (first | exact .here | assumption | (apply HAt.left; assumption) | apply HAt.there | apply HAt.right)) (by first | rfl | assumption | (simp [*]; done) | fail) (by first | rfl | assumption | (simp [*]; done) | fail) (by constructor)⟩) rfl ?_ | refine glq rfl (.inl ⟨rfl, q_ld1N ag3 rfl (by constructor)⟩) rfl ?_
         first | refine glq rfl (.inl ⟨rfl, e_callN cb96 (text96_c k.a wk.1 _) rfl rfl⟩) rfl ?_ | refine glq rfl (.inl ⟨rfl, e_callN cb96 (ACall.arg (text96_c k.a wk.1 _) (by repeat (first | exact ArgL.nil | (apply ArgL.cons; (· first | exact .same | exact .cro | exact .nil))))) rfl rfl⟩) rfl ?_
         first | refine glq rfl (.inl ⟨rfl, q_iaA Try.underlying113 sz3 rfl rfl (by omega) (by omega) rfl⟩) rfl ?_ | refine glq rfl (.inl ⟨rfl, q_iaI Try.underlying113 sz3 rfl rfl (by omega) (by omega) (by first | ((repeat constructor); done) | exact .same _)⟩) rfl ?_
         first | refine glq rfl (.inl ⟨rfl, q_ldpN ag3 rfl (by repeat (first | exact .here | assumption | (apply HAt.left; assumption) | apply HAt.there | apply HAt.right)) (by first | rfl | assumption | (simp [*]; done) | fail) (by first | rfl | assumption | (simp [*]; done) | fail) (by constructor)⟩) rfl ?_ | refine glq rfl (.inl ⟨rfl, q_ld1N ag3 rfl (by constructor)⟩) rfl ?_
         first | refine glq rfl (.inl ⟨rfl, e_callN cb96 (text96_c k.b wk.2 _) rfl rfl⟩) rfl ?_ | refine glq rfl (.inl ⟨rfl, e_callN cb96 (ACall.arg (text96_c k.b wk.2 _) (by repeat (first | exact ArgL.nil | (apply ArgL.cons; (· first | exact .same | exact .cro | exact .nil))))) rfl rfl⟩) rfl ?_
         refine glq rfl (.inl ⟨rfl, q_bd st55 zr55 (by first | ((repeat constructor); done) | exact .same _) (by repeat (first | exact BD.nil | (apply BD.cons; (· rfl); (· constructor); (· rfl); (· rfl); (· exact Nat.le_of_ble_eq_true (by rfl)); (· exact (by first | ((repeat constructor); done) | exact .same _)))))⟩) rfl ?_
         refine glq rfl (.inl ⟨rfl, castQ (r2 := .cro (Ts.map sRow)) (q_bs Try.underlying120 sz55 zr55 rfl (by first | ((repeat constructor); done) | exact .same _) rfl (by decide) (by repeat (first | exact BS.nil | (apply BS.cons; (· constructor); (· rfl); (· rfl); (· rfl); (· exact (by first | ((repeat constructor); done) | exact .same _)))))) (by exact congrArg AV.cro hT)⟩) rfl ?_
         first | refine glq rfl (.inl ⟨rfl, castQ (r2 := .lit (.int .i64 2)) (q_len Try.underlying120 .ro) (by rw [List.length_map, hTl]; rfl)⟩) rfl ?_ | refine glq rfl (.inl ⟨rfl, castQ (r2 := .lit (.int .i64 2)) (q_lenO Try.underlying120 rfl (by repeat (first | exact .here | assumption | (apply HAt.left; assumption) | apply HAt.there | apply HAt.right)) (by first | omega | (simp; done) | (simp; omega) | fail) (by first | exact Nat.sub_zero _ | rfl)) (by rw [List.length_map, hTl]; rfl)⟩) rfl ?_ | refine glq rfl (.inl ⟨rfl, castQ (r2 := .lit (.int .i64 2)) (q_len Try.underlying120 .nil) (by rw [List.length_map, hTl]; rfl)⟩) rfl ?_ | refine glq rfl (.inl ⟨rfl, castQ (r2 := .lit (.int .i64 2)) (q_len Try.underlying120 .cro) (by rw [List.length_map, hTl]; rfl)⟩) rfl ?_
         refine glq rfl (.inl ⟨rfl, q_mv (by constructor)⟩) rfl ?_
         (first | refine gld0 ?_ | refine gldA ?_)
         refine alist_nil ?_
         show AWP _ _ _ _
         refine awp_block ?_
         refine awp_loop_inv (fun b : Nat => ⟨[(101, .lit (.int .i64 b)), (100, .lit (.int .i64 2)), (99, .cro (Ts.map sRow)), (20, .lit (.int .i64 w)), (85, .lit (.int .i64 a)), (84, .lit (.int .i64 2)), (83, .cro ([who, p].map cI)), (18, .ro (f.map Fill.cells)), (71, .lit (.int .i64 i)), (70, .lit (.int .i64 2)), (69, .cro (Fs.map fRow)), (2, .lit (.string left)), (3, .lit (.string right)), (5, .lit (.int .i64 who)), (10, .ptr u10 0 0), (13, .lit (.bool true))], 197, [(u10, .arr 113 2 [k.cells])]⟩) (fun b => b ≤ 2) (fun b => 2 - b) 0 ?_ ?_ ?_
         ·exact Nat.zero_le _
         ·exact .mk' (by repeat (first | exact trivial | refine ⟨rfl, ?_⟩)) (by repeat (first | exact .refl _ | apply List.Sublist.cons_cons | apply List.Sublist.cons))
         ·intro b hb
          refine awp_seq ?_
          refine awp_region ?_
          refine aqs rfl (q_lss rfl rfl) rfl ?_
          refine alist_nil ?_
          show AWP _ _ _ _
          refine awp_seq ?_
          refine awp_cond rfl (fun hc4 => ?_) (fun hc4 => ?_)
          ·simp only [decide_eq_true_eq] at hc4
           obtain ⟨⟨x, y⟩, ht, htm⟩ := get_lt (l := Ts) (i := b) (by omega)
           have ht2 : (Ts.map sRow)[b]? = some [.lit (.string x), .lit (.string y)] := get_map (f := sRow) ht
           have hbg := fsm_begin hfs x y w
           refine awp_skip ?_
           show AWP _ _ _ _
           refine awp_seq ?_
           refine awp_block ?_
           refine awp_seq ?_
           refine awp_region ?_
           first | refine aqs rfl (q_iaN Try.underlying120 sz55 (.inl rfl) rfl (by omega) (by first | rfl | assumption | (simp [*]; done) | fail) (by first | rfl | assumption | (simp [*]; done) | fail) (by decide) (by first | ((repeat constructor); done) | exact .same _)) rfl ?_ | refine aqs rfl (q_iaS Try.underlying120 sz55 rfl (by repeat (first | exact .here | assumption | (apply HAt.left; assumption) | apply HAt.there | apply HAt.right)) rfl (by omega) (by omega) (by first | exact Nat.zero_add _ | rfl)) rfl ?_ | refine aqs rfl (q_iaN Try.underlying120 sz55 (.inr rfl) rfl (by omega) (by first | rfl | assumption | (simp [*]; done) | fail) (by first | rfl | assumption | (simp [*]; done) | fail) (by decide) (by first | ((repeat constructor); done) | exact .same _)) rfl ?_
           first | refine aqs rfl (q_ldpW ag55 sz55 rfl (by repeat (first | exact .here | assumption | (apply HAt.left; assumption) | apply HAt.there | apply HAt.right)) (by first | rfl | assumption | (simp [*]; done) | fail) (by first | rfl | assumption | (simp [*]; done) | fail) (by decide)) rfl ?_ | refine aqs rfl (q_ldW ag55 sz55 rfl (by first | rfl | assumption | (simp [*]; done) | fail)) rfl ?_ | refine aqs rfl (q_ldpP ag55 sz55 rfl (by repeat (first | exact .here | assumption | (apply HAt.left; assumption) | apply HAt.there | apply HAt.right)) (by first | rfl | assumption | (simp [*]; done) | fail) (by first | decide | (simp; done) | omega | fail) (by decide) (by first | ((repeat constructor); done) | exact .same _)) rfl ?_ | refine aqs rfl (q_ldP ag55 sz55 rfl (by first | decide | (simp; done) | omega | fail) (by first | ((repeat constructor); done) | exact .same _)) rfl ?_
           (refine aes rfl (e_al (xs := [.lit (.string ⟨#[]⟩), .lit (.string ⟨#[]⟩)]) (k := 2) zr55 (.same _) rfl) rfl ?_; rintro _ _ ⟨u22, rfl, rfl⟩)
           first | (refine aen rfl (e_stW sz55 rfl (by repeat (first | exact .here | assumption | (apply HAt.left; assumption) | apply HAt.there | apply HAt.right)) (by constructor) (by first | rfl | assumption | (simp [*]; done) | fail) rfl (by repeat (first | exact .here | apply HSet.there))) ?_; rintro _ _ ⟨rfl, rfl⟩) | (refine aen rfl (e_stP sz55 rfl (by repeat (first | exact .here | assumption | (apply HAt.left; assumption) | apply HAt.there | apply HAt.right)) (by first | rfl | assumption | (simp [*]; done) | fail) (by constructor) (by first | rfl | assumption | (simp [*]; done) | fail) rfl (by first | decide | omega) (by first | ((repeat constructor); done) | exact .same _) (by first | exact .one | exact .set) (by repeat (first | exact .here | apply HSet.there))) ?_; rintro _ _ ⟨rfl, rfl⟩)
           refine alist_nil ?_
           show AWP _ _ _ _
           refine awp_seq ?_
           refine awp_region ?_
           refine aqs rfl (q_mv (by constructor)) rfl ?_
           first | refine aqs rfl (q_iaA Try.underlying55 sz9 rfl rfl (by omega) (by omega) rfl) rfl ?_ | refine aqs rfl (q_iaI Try.underlying55 sz9 rfl rfl (by omega) (by omega) (by first | ((repeat constructor); done) | exact .same _)) rfl ?_
           first | refine aqs rfl (q_ldpN ag9 rfl (by repeat (first | exact .here | assumption | (apply HAt.left; assumption) | apply HAt.there | apply HAt.right)) (by first | rfl | assumption | (simp [*]; done) | fail) (by first | rfl | assumption | (simp [*]; done) | fail) (by constructor)) rfl ?_ | refine aqs rfl (q_ld1N ag9 rfl (by constructor)) rfl ?_
           first | refine aqs rfl (q_iaA Try.underlying55 sz9 rfl rfl (by omega) (by omega) rfl) rfl ?_ | refine aqs rfl (q_iaI Try.underlying55 sz9 rfl rfl (by omega) (by omega) (by first | ((repeat constructor); done) | exact .same _)) rfl ?_
           first | refine aqs rfl (q_ldpN ag9 rfl (by repeat (first | exact .here | assumption | (apply HAt.left; assumption) | apply HAt.there | apply HAt.right)) (by first | rfl | assumption | (simp [*]; done) | fail) (by first | rfl | assumption | (simp [*]; done) | fail) (by constructor)) rfl ?_ | refine aqs rfl (q_ld1N ag9 rfl (by constructor)) rfl ?_
           refine aqs rfl (q_mv (by constructor)) rfl ?_
           first | refine aqs rfl (e_callN cb97 (begin97_c f hfl x y w _) rfl rfl) rfl ?_ | refine aqs rfl (e_callN cb97 (ACall.arg (begin97_c f hfl x y w _) (by repeat (first | exact ArgL.nil | (apply ArgL.cons; (· first | exact .same | exact .cro | exact .nil))))) rfl rfl) rfl ?_
           refine aqs rfl (q_mv (by constructor)) rfl ?_
           refine aqs rfl (q_ex rfl rfl (by constructor)) rfl ?_
           refine aqs rfl (q_ex rfl rfl (by constructor)) rfl ?_
           refine aqs rfl (q_ex rfl rfl (by constructor)) rfl ?_
           refine aqs rfl (q_as (by constructor)) rfl ?_
           refine aqs rfl (q_as (by constructor)) rfl ?_
           refine aqs rfl (q_as (by constructor)) rfl ?_
           refine alist_nil ?_
           show AWP _ _ _ _
           refine awp_seq ?_
           refine awp_region ?_
           refine aqs rfl (q_mv (by constructor)) rfl ?_
           first | refine aqs rfl (q_iaA Try.underlying55 sz9 rfl rfl (by omega) (by omega) rfl) rfl ?_ | refine aqs rfl (q_iaI Try.underlying55 sz9 rfl rfl (by omega) (by omega) (by first | ((repeat constructor); done) | exact .same _)) rfl ?_
           first | refine aqs rfl (q_ldpN ag9 rfl (by repeat (first | exact .here | assumption | (apply HAt.left; assumption) | apply HAt.there | apply HAt.right)) (by first | rfl | assumption | (simp [*]; done) | fail) (by first | rfl | assumption | (simp [*]; done) | fail) (by constructor)) rfl ?_ | refine aqs rfl (q_ld1N ag9 rfl (by constructor)) rfl ?_
           first | refine aqs rfl (q_iaA Try.underlying55 sz9 rfl rfl (by omega) (by omega) rfl) rfl ?_ | refine aqs rfl (q_iaI Try.underlying55 sz9 rfl rfl (by omega) (by omega) (by first | ((repeat constructor); done) | exact .same _)) rfl ?_
           first | refine aqs rfl (q_ldpN ag9 rfl (by repeat (first | exact .here | assumption | (apply HAt.left; assumption) | apply HAt.there | apply HAt.right)) (by first | rfl | assumption | (simp [*]; done) | fail) (by first | rfl | assumption | (simp [*]; done) | fail) (by constructor)) rfl ?_ | refine aqs rfl (q_ld1N ag9 rfl (by constructor)) rfl ?_
           refine aqs rfl (q_mv (by constructor)) rfl ?_
           first | refine aqs rfl (e_callN cb98 (begin98_c f hfl x y w _) rfl rfl) rfl ?_ | refine aqs rfl (e_callN cb98 (ACall.arg (begin98_c f hfl x y w _) (by repeat (first | exact ArgL.nil | (apply ArgL.cons; (· first | exact .same | exact .cro | exact .nil))))) rfl rfl) rfl ?_
           refine aqs rfl (q_mv (by constructor)) rfl ?_
           refine aqs rfl (q_ex rfl rfl (by constructor)) rfl ?_
           refine aqs rfl (q_ex rfl rfl (by constructor)) rfl ?_
           refine aqs rfl (q_ex rfl rfl (by constructor)) rfl ?_
           refine aqs rfl (q_as (by constructor)) rfl ?_
           refine aqs rfl (q_as (by constructor)) rfl ?_
           refine aqs rfl (q_as (by constructor)) rfl ?_
           refine alist_nil ?_
           show AWP _ _ _ _
           refine awp_seq ?_
           refine awp_region ?_
           refine aqs rfl (q_mv (by constructor)) rfl ?_
           refine aqs rfl (q_mv (by constructor)) rfl ?_
           refine aqs rfl (castF (q_bneq rfl rfl Try.underlying4) (by simp)) rfl ?_
           refine aqs rfl (q_mv (by constructor)) rfl ?_
           first | refine ans rfl rfl ?_ | refine aqs rfl (q_mv (by constructor)) rfl ?_
           first | refine ans rfl rfl ?_ | refine aqs rfl (q_mv (by constructor)) rfl ?_
           refine aqs rfl (castF (q_neq rfl rfl) (by simp)) rfl ?_
           first | refine aqs rfl (q_pickT rfl (by constructor)) rfl ?_ | refine aqs rfl (q_pickF rfl (by constructor)) rfl ?_
           refine aqs rfl (q_mv (by constructor)) rfl ?_
           first | refine ans rfl rfl ?_ | refine aqs rfl (q_mv (by constructor)) rfl ?_
           first | refine ans rfl rfl ?_ | refine aqs rfl (q_mv (by constructor)) rfl ?_
           first | refine ans rfl rfl ?_ | refine aqs rfl (e_callN cb99 (same99_c (beginS f x y w).2.1 (beginS f x y w).2.1 hbg hbg _) rfl rfl) rfl ?_ | refine aqs rfl (e_callN cb99 (ACall.arg (same99_c (beginS f x y w).2.1 (beginS f x y w).2.1 hbg hbg _) (by repeat (first | exact ArgL.nil | (apply ArgL.cons; (· first | exact .same | exact .cro | exact .nil))))) rfl rfl) rfl ?_
           refine aqs rfl (castF (q_not rfl) (by simp)) rfl ?_
           first | refine aqs rfl (q_pickT rfl (by constructor)) rfl ?_ | refine aqs rfl (q_pickF rfl (by constructor)) rfl ?_
           refine alist_nil ?_
           show AWP _ _ _ _
           refine awp_cond rfl (fun hc5 => ?_) (fun hc5 => ?_)
           ·exfalso; first | (simp at hc5; done) | (simp at hc5; omega) | contradiction
           ·try simp only [decide_eq_true_eq, decide_eq_false_iff_not, Bool.not_eq_true', Bool.not_eq_false', Bool.not_eq_eq_eq_not, Bool.not_true, Bool.not_false, beq_iff_eq, beq_eq_false_iff_ne, Int.not_lt, Int.not_le] at hc5
            refine awp_skip ?_
            show AWP _ _ _ _
            refine awp_region ?_
            first | refine aqs rfl (q_add64 rfl rfl (by omega) (by omega)) rfl ?_ | refine aqs rfl (q_add rfl rfl) rfl ?_
            refine aqs rfl (q_mv (by constructor)) rfl ?_
            refine alist_nil ?_
            show ∃ y, _ ∧ _ ∧ _
            exact ⟨b + 1, by omega, by omega, .mk' ⟨by rfl, rfl, rfl, rfl, rfl, rfl, rfl, rfl, rfl, rfl, rfl, rfl, rfl, rfl, rfl, rfl, trivial⟩ (by repeat (first | exact List.Sublist.refl _ | exact List.nil_sublist _ | exact List.sublist_append_left _ _ | (apply List.Sublist.cons_cons) | (apply List.Sublist.cons)))⟩
          ·skip
           refine awp_exit ?_
           show AWP _ _ _ _
           refine awp_seq ?_
           refine awp_region ?_
           refine aqs rfl (q_mv (by constructor)) rfl ?_
           refine aqs rfl (q_mv (by constructor)) rfl ?_
           first | refine aqs rfl (e_callN cb100 (done100_c f hfl w _) rfl rfl) rfl ?_ | refine aqs rfl (e_callN cb100 (ACall.arg (done100_c f hfl w _) (by repeat (first | exact ArgL.nil | (apply ArgL.cons; (· first | exact .same | exact .cro | exact .nil))))) rfl rfl) rfl ?_
           refine aqs rfl (q_mv (by constructor)) rfl ?_
           refine aqs rfl (q_ex rfl rfl (by constructor)) rfl ?_
           refine aqs rfl (q_ex rfl rfl (by constructor)) rfl ?_
           refine aqs rfl (q_ex rfl rfl (by constructor)) rfl ?_
           refine aqs rfl (q_as (by constructor)) rfl ?_
           refine aqs rfl (q_as (by constructor)) rfl ?_
           refine aqs rfl (q_as (by constructor)) rfl ?_
           refine alist_nil ?_
           show AWP _ _ _ _
           refine awp_seq ?_
           refine awp_region ?_
           refine aqs rfl (q_mv (by constructor)) rfl ?_
           refine aqs rfl (q_mv (by constructor)) rfl ?_
           first | refine aqs rfl (e_callN cb101 (done101_c f hfl w _) rfl rfl) rfl ?_ | refine aqs rfl (e_callN cb101 (ACall.arg (done101_c f hfl w _) (by repeat (first | exact ArgL.nil | (apply ArgL.cons; (· first | exact .same | exact .cro | exact .nil))))) rfl rfl) rfl ?_
           refine aqs rfl (q_mv (by constructor)) rfl ?_
           refine aqs rfl (q_ex rfl rfl (by constructor)) rfl ?_
           refine aqs rfl (q_ex rfl rfl (by constructor)) rfl ?_
           refine aqs rfl (q_ex rfl rfl (by constructor)) rfl ?_
           refine aqs rfl (q_as (by constructor)) rfl ?_
           refine aqs rfl (q_as (by constructor)) rfl ?_
           refine aqs rfl (q_as (by constructor)) rfl ?_
           refine alist_nil ?_
           show AWP _ _ _ _
           refine awp_seq ?_
           refine awp_region ?_
           refine aqs rfl (q_mv (by constructor)) rfl ?_
           refine aqs rfl (q_mv (by constructor)) rfl ?_
           first | refine aqs rfl (e_callN cb102 (leave102_c f hfl w _) rfl rfl) rfl ?_ | refine aqs rfl (e_callN cb102 (ACall.arg (leave102_c f hfl w _) (by repeat (first | exact ArgL.nil | (apply ArgL.cons; (· first | exact .same | exact .cro | exact .nil))))) rfl rfl) rfl ?_
           refine aqs rfl (q_mv (by constructor)) rfl ?_
           refine aqs rfl (q_ex rfl rfl (by constructor)) rfl ?_
           refine aqs rfl (q_ex rfl rfl (by constructor)) rfl ?_
           refine aqs rfl (q_as (by constructor)) rfl ?_
           refine aqs rfl (q_as (by constructor)) rfl ?_
           refine alist_nil ?_
           show AWP _ _ _ _
           refine awp_seq ?_
           refine awp_region ?_
           refine aqs rfl (q_mv (by constructor)) rfl ?_
           refine aqs rfl (q_mv (by constructor)) rfl ?_
           first | refine aqs rfl (e_callN cb103 (leave103_c f hfl w _) rfl rfl) rfl ?_ | refine aqs rfl (e_callN cb103 (ACall.arg (leave103_c f hfl w _) (by repeat (first | exact ArgL.nil | (apply ArgL.cons; (· first | exact .same | exact .cro | exact .nil))))) rfl rfl) rfl ?_
           refine aqs rfl (q_mv (by constructor)) rfl ?_
           refine aqs rfl (q_ex rfl rfl (by constructor)) rfl ?_
           refine aqs rfl (q_ex rfl rfl (by constructor)) rfl ?_
           refine aqs rfl (q_as (by constructor)) rfl ?_
           refine aqs rfl (q_as (by constructor)) rfl ?_
           refine alist_nil ?_
           show AWP _ _ _ _
           refine awp_seq ?_
           refine awp_region ?_
           refine aqs rfl (q_mv (by constructor)) rfl ?_
           refine aqs rfl (q_mv (by constructor)) rfl ?_
           refine aqs rfl (castF (q_neq rfl rfl) (by simp)) rfl ?_
           refine aqs rfl (q_mv (by constructor)) rfl ?_
           first | refine ans rfl rfl ?_ | refine aqs rfl (q_mv (by constructor)) rfl ?_
           first | refine ans rfl rfl ?_ | refine aqs rfl (q_mv (by constructor)) rfl ?_
           first | refine ans rfl rfl ?_ | refine aqs rfl (e_callN cb104 (ints104_c (doneS f w).1 (doneS f w).1 (by omega) (by omega) _) rfl rfl) rfl ?_ | refine aqs rfl (e_callN cb104 (ACall.arg (ints104_c (doneS f w).1 (doneS f w).1 (by omega) (by omega) _) (by repeat (first | exact ArgL.nil | (apply ArgL.cons; (· first | exact .same | exact .cro | exact .nil))))) rfl rfl) rfl ?_
           refine aqs rfl (castF (q_not rfl) (by simp)) rfl ?_
           first | refine aqs rfl (q_pickT rfl (by constructor)) rfl ?_ | refine aqs rfl (q_pickF rfl (by constructor)) rfl ?_
           refine aqs rfl (q_mv (by constructor)) rfl ?_
           first | refine ans rfl rfl ?_ | refine aqs rfl (q_mv (by constructor)) rfl ?_
           first | refine ans rfl rfl ?_ | refine aqs rfl (q_mv (by constructor)) rfl ?_
           first | refine ans rfl rfl ?_ | refine aqs rfl (e_callN cb99 (same99_c (doneS f w).2.1 (doneS f w).2.1 hdn.1 hdn.1 _) rfl rfl) rfl ?_ | refine aqs rfl (e_callN cb99 (ACall.arg (same99_c (doneS f w).2.1 (doneS f w).2.1 hdn.1 hdn.1 _) (by repeat (first | exact ArgL.nil | (apply ArgL.cons; (· first | exact .same | exact .cro | exact .nil))))) rfl rfl) rfl ?_
           refine aqs rfl (castF (q_not rfl) (by simp)) rfl ?_
           first | refine aqs rfl (q_pickT rfl (by constructor)) rfl ?_ | refine aqs rfl (q_pickF rfl (by constructor)) rfl ?_
           refine aqs rfl (q_mv (by constructor)) rfl ?_
           first | refine ans rfl rfl ?_ | refine aqs rfl (q_mv (by constructor)) rfl ?_
           first | refine ans rfl rfl ?_ | refine aqs rfl (q_mv (by constructor)) rfl ?_
           refine aqs rfl (castF (q_neq rfl rfl) (by simp)) rfl ?_
           first | refine aqs rfl (q_pickT rfl (by constructor)) rfl ?_ | refine aqs rfl (q_pickF rfl (by constructor)) rfl ?_
           refine aqs rfl (q_mv (by constructor)) rfl ?_
           first | refine ans rfl rfl ?_ | refine aqs rfl (q_mv (by constructor)) rfl ?_
           first | refine ans rfl rfl ?_ | refine aqs rfl (q_mv (by constructor)) rfl ?_
           first | refine ans rfl rfl ?_ | refine aqs rfl (e_callN cb99 (same99_c (leaveS f w).1 (leaveS f w).1 hlv hlv _) rfl rfl) rfl ?_ | refine aqs rfl (e_callN cb99 (ACall.arg (same99_c (leaveS f w).1 (leaveS f w).1 hlv hlv _) (by repeat (first | exact ArgL.nil | (apply ArgL.cons; (· first | exact .same | exact .cro | exact .nil))))) rfl rfl) rfl ?_
           refine aqs rfl (castF (q_not rfl) (by simp)) rfl ?_
           first | refine aqs rfl (q_pickT rfl (by constructor)) rfl ?_ | refine aqs rfl (q_pickF rfl (by constructor)) rfl ?_
           refine alist_nil ?_
           show AWP _ _ _ _
           refine awp_cond rfl (fun hc6 => ?_) (fun hc6 => ?_)
           ·exfalso; first | (simp at hc6; done) | (simp at hc6; omega) | contradiction
           ·try simp only [decide_eq_true_eq, decide_eq_false_iff_not, Bool.not_eq_true', Bool.not_eq_false', Bool.not_eq_eq_eq_not, Bool.not_true, Bool.not_false, beq_iff_eq, beq_eq_false_iff_ne, Int.not_lt, Int.not_le] at hc6
            refine awp_skip ?_
            show AWP _ _ _ _
            refine awp_region ?_
            first | refine aqs rfl (q_add64 rfl rfl (by omega) (by omega)) rfl ?_ | refine aqs rfl (q_add rfl rfl) rfl ?_
            refine aqs rfl (q_mv (by constructor)) rfl ?_
            refine alist_nil ?_
            show ∃ y, _ ∧ _ ∧ _
            exact ⟨a + 1, by omega, by omega, .mk' ⟨by rfl, rfl, rfl, rfl, rfl, rfl, rfl, rfl, rfl, rfl, rfl, rfl, trivial⟩ (by repeat (first | exact List.Sublist.refl _ | exact List.nil_sublist _ | exact List.sublist_append_left _ _ | (apply List.Sublist.cons_cons) | (apply List.Sublist.cons)))⟩
        ·skip
         refine awp_exit ?_
         show AWP _ _ _ _
         refine awp_region ?_
         first | refine aqs rfl (q_add64 rfl rfl (by omega) (by omega)) rfl ?_ | refine aqs rfl (q_add rfl rfl) rfl ?_
         refine aqs rfl (q_mv (by constructor)) rfl ?_
         refine alist_nil ?_
         show ∃ y, _ ∧ _ ∧ _
         exact ⟨i + 1, by omega, by omega, .mk' ⟨by rfl, rfl, rfl, rfl, rfl, rfl, rfl, rfl, trivial⟩ (by repeat (first | exact List.Sublist.refl _ | exact List.nil_sublist _ | exact List.sublist_append_left _ _ | (apply List.Sublist.cons_cons) | (apply List.Sublist.cons)))⟩
     ·skip
      refine awp_exit ?_
      show AWP _ _ _ _
      refine awp_seq ?_
      refine awp_region ?_
      refine aqs rfl (q_mv (by constructor)) rfl ?_
      refine aqs rfl (q_as (by constructor)) rfl ?_
      refine alist_nil ?_
      show AWP _ _ _ _
      refine awp_ret ?_
      repeat first | with_reducible refine then_ret ?_ | with_reducible refine blk_ret ?_
      apply retq (.inr rfl) (.cons (rok_t rfl) .nil)
      rotate_left
      ·exact ⟨rfl, rfl⟩
      repeat (first | exact List.Sublist.refl _ | exact List.nil_sublist _ | exact List.sublist_append_left _ _ | apply List.Sublist.cons)
end Go.Proofs.YtdlinfekifnmkaaAm
