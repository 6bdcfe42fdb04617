/- Contracts of the layer 'hist', third part: the program's calls of events. Conditions: the lengths. -/
import Derived.Test.YtdlinfekifnmkaaAmHistB
set_option linter.unusedVariables false
set_option linter.unusedSimpArgs false
set_option maxRecDepth 20000
namespace Go.Proofs.YtdlinfekifnmkaaAm
open Go.Proofs

set_option maxHeartbeats 1000000 in
theorem with135_c (w : Int) (kvs : List (Value × AV)) (f : Int → Option Unit) (hm : MapOf ikv bvv kvs f) (um : Nat) (p q : Nat × Ob) (R : Heap) : ACall Try.prog 135 [.mp um, .lit (.int .i64 w)] (p :: q :: (um, .map kvs) :: R)
    (fun r H' => r = .lit (.bool (!(f w).isSome)) ∧ ∃ kvs', H' = p :: q :: (um, .map kvs') :: R ∧ MapOf ikv bvv kvs' (fun x => if x = w then some () else f x)) := by
  have hD := mo_int hm
  refine acall_intro (n := 10) (rvs := [.tmp 4]) Try.func135 rfl rfl rfl (Nat.le_of_ble_eq_true rfl) ?_
  refine awp_seq ?_
  refine awp_region ?_
  refine aqs rfl (q_as (by constructor)) rfl ?_
  refine alist_nil ?_
  show AWP _ _ _ _
  refine awp_seq ?_
  refine awp_seq ?_
  refine awp_region ?_
  refine aqs rfl (q_mv (by constructor)) rfl ?_
  refine aqs rfl (q_mv (by constructor)) rfl ?_
  (refine aes rfl (e_lk Try.underlying175 KL3 zv4 rfl (by repeat (first | exact .here | assumption | (apply HAt.left; assumption) | apply HAt.there | apply HAt.right)) (by first | exact kv29 | exact .lit) ⟨_, rfl⟩ (by first | assumption | (intro p hp; cases hp; done))) rfl ?_; rintro rlk _ ⟨hlk, rfl⟩)
  obtain rfl := mo_in hm hlk
  refine alist_nil ?_
  show AWP _ _ _ _
  refine awp_cond rfl (fun hc0 => ?_) (fun hc0 => ?_)
  · have hf : ∃ v, f w = some v := Option.isSome_iff_exists.1 hc0
    obtain ⟨v, hv⟩ := hf
    have e : (!(f w).isSome) = false := by rw [hc0]; rfl
    rw [e]
    have hup2 : MapOf ikv bvv kvs (fun x => if x = w then some () else f x) := mo_ext hm fun x => by by_cases h : x = w <;> simp [h, hv]
    refine awp_seq ?_
    refine awp_region ?_
    refine aqs rfl (q_as (by constructor)) rfl ?_
    refine alist_nil ?_
    show AWP _ _ _ _
    refine awp_ret ?_
    repeat first | with_reducible refine then_ret ?_ | with_reducible refine blk_ret ?_
    apply retq (.inr rfl) (.cons (rok_t rfl) .nil)
    rotate_left
    · exact ⟨rfl, _, rfl, hup2⟩
    repeat (first | exact List.Sublist.refl _ | exact List.nil_sublist _ | exact List.sublist_append_left _ _ | apply List.Sublist.cons)
  · have e : (!(f w).isSome) = true := by rw [hc0]; rfl
    rw [e]
    refine awp_skip ?_
    show AWP _ _ _ _
    refine awp_seq ?_
    refine awp_region ?_
    refine aqs rfl (q_mv (by constructor)) rfl ?_
    refine aqs rfl (q_mv (by constructor)) rfl ?_
    (refine aen rfl (e_mu Try.underlying175 KL3 rfl (by repeat (first | exact .here | assumption | (apply HAt.left; assumption) | apply HAt.there | apply HAt.right)) (by first | exact kv29 | exact .lit) ⟨_, rfl⟩ (by first | assumption | (intro p hp; cases hp; done)) (by constructor) (fun kvs' => (by repeat (first | exact .here | apply HSet.there)))) ?_; rintro _ _ ⟨kvs', hup, rfl⟩)
    have hup2 := mo_up ikv_inj hm (k := w) (v := ()) hup
    refine alist_nil ?_
    show AWP _ _ _ _
    refine awp_seq ?_
    refine awp_region ?_
    refine aqs rfl (q_as (by constructor)) rfl ?_
    refine alist_nil ?_
    show AWP _ _ _ _
    refine awp_ret ?_
    repeat first | with_reducible refine then_ret ?_ | with_reducible refine blk_ret ?_
    apply retq (.inr rfl) (.cons (rok_t rfl) .nil)
    rotate_left
    · exact ⟨rfl, _, rfl, hup2⟩
    repeat (first | exact List.Sublist.refl _ | exact List.nil_sublist _ | exact List.sublist_append_left _ _ | apply List.Sublist.cons)
structure CInv (out : List Call) (kvs : List (Value × AV)) (ls : List Int) : Prop where
  uniq : Uniq out
  mo : MapOf ikv bvv kvs (fun w => if (underS out w).isSome = true then some () else none)
  len8 : ls.length = 8
  last : ∀ w a, Under out w a → (0 ≤ w ∧ w < 8) ∧ ls[w.toNat]? = some (a : Int)
theorem cinv0 : CInv [] [] (List.replicate 8 0) where
  uniq := fun a b w ha => absurd ha.1 (Nat.not_lt_zero _)
  mo := mo_ext mo_nil fun k => by simp [underS]
  len8 := rfl
  last := fun w a ha => absurd ha.1 (Nat.not_lt_zero _)
theorem isome_some {b : Bool} : (if b = true then some () else none).isSome = b := by cases b <;> rfl
theorem cinv_new {out : List Call} {kvs kvs' : List (Value × AV)} {ls : List Int} {i : Nat} {x : Event} (h : CInv out kvs ls) (hw : 0 ≤ x.who ∧ x.who < 8) (hu : underS out x.who = none)
    (hm : MapOf ikv bvv kvs' (fun v => if v = x.who then some () else if (underS out v).isSome = true then some () else none)) : CInv (out ++ [newCall i x]) kvs' (ls.set x.who.toNat out.length) := by
  have hto : (newCall i x).to < 0 := by show (-1 : Int) < 0; omega
  have hwho : (newCall i x).who = x.who := rfl
  have hno : ∀ a, ¬ Under out x.who a := fun a ha => by
    have := (under_isSome h.uniq).2 ⟨a, ha⟩
    rw [hu] at this; cases this
  have huq := uniq_snoc (c := newCall i x) h.uniq hto (by rw [hwho]; exact hno)
  refine ⟨huq, mo_ext hm fun v => ?_, by rw [List.length_set]; exact h.len8, fun v a ha => ?_⟩
  · by_cases hv : v = x.who
    · have : (underS (out ++ [newCall i x]) v).isSome = true := (under_isSome huq).2 ⟨out.length, (under_snoc hto).2 (.inr ⟨rfl, by rw [hwho]; exact hv⟩)⟩
      rw [if_pos hv, if_pos this]
    · rw [if_neg hv]
      have : (underS (out ++ [newCall i x]) v).isSome = (underS out v).isSome := by
        rw [Bool.eq_iff_iff, under_isSome huq, under_isSome h.uniq]
        constructor
        · rintro ⟨a, ha⟩
          rcases (under_snoc hto).1 ha with ha | ⟨_, ha⟩
          · exact ⟨a, ha⟩
          · rw [hwho] at ha; exact absurd ha hv
        · rintro ⟨a, ha⟩
          exact ⟨a, (under_snoc hto).2 (.inl ha)⟩
      rw [this]
  · rcases (under_snoc hto).1 ha with ha | ⟨hal, hv⟩
    · obtain ⟨l1, l2⟩ := h.last v a ha
      refine ⟨l1, ?_⟩
      rw [List.getElem?_set_ne, l2]
      intro e
      have : v = x.who := by omega
      subst this
      exact hno a ha
    · rw [hwho] at hv
      subst hv
      refine ⟨hw, ?_⟩
      rw [List.getElem?_set_self (by rw [h.len8]; omega), hal]
theorem cinv_told {out : List Call} {kvs kvs' : List (Value × AV)} {ls : List Int} {a : Nat} {y : Call} {w : Int} (h : CInv out kvs ls) (ha : Under out w a) (hy : 0 ≤ y.to)
    (hm : MapOf ikv bvv kvs' (fun v => if v = w then none else if (underS out v).isSome = true then some () else none)) : CInv (out.set a y) kvs' ls := by
  have huq := uniq_set h.uniq ha.1 hy
  refine ⟨huq, mo_ext hm fun v => ?_, h.len8, fun v b hb => h.last v b ((under_set ha.1 hy).1 hb).1⟩
  by_cases hv : v = w
  · have : ¬ (underS (out.set a y) v).isSome = true := fun hs => by
      obtain ⟨b, hb⟩ := (under_isSome huq).1 hs
      have hb := (under_set ha.1 hy).1 hb
      subst hv
      exact hb.2 (h.uniq b a v hb.1 ha)
    rw [if_pos hv, if_neg this]
  · rw [if_neg hv]
    have : (underS (out.set a y) v).isSome = (underS out v).isSome := by
      rw [Bool.eq_iff_iff, under_isSome huq, under_isSome h.uniq]
      constructor
      · rintro ⟨b, hb⟩
        exact ⟨b, ((under_set ha.1 hy).1 hb).1⟩
      · rintro ⟨b, hb⟩
        refine ⟨b, (under_set ha.1 hy).2 ⟨hb, fun e => hv ?_⟩⟩
        subst e
        exact hb.2.1.symm.trans ha.2.1
    rw [this]
theorem kinds {x : Event} (hb : badEv x = false) : (1 ≤ x.kind ∧ x.kind ≤ 4) ∧ 0 ≤ x.who ∧ x.who < 8 := by
  simp only [badEv, Bool.or_eq_false_iff, decide_eq_false_iff_not] at hb
  omega
theorem put_call {x : Event} (hb : badEv x = false) (hc : isCall x = true) : (decide (x.kind = 3) || decide (x.kind = 4)) = decide (x.kind = 3) := by
  have := kinds hb
  simp only [isCall, Bool.or_eq_true, decide_eq_true_eq] at hc
  rcases hc with h | h <;> simp [h]
theorem put_told {x : Event} (hb : badEv x = false) (hc : isCall x = false) : (decide (x.kind = 3) || decide (x.kind = 4)) = decide (x.kind = 4) ∧ (!decide (x.kind = 4)) = decide (x.kind = 2) := by
  have hk := kinds hb
  simp only [isCall, Bool.or_eq_false_iff, decide_eq_false_iff_not] at hc
  have : x.kind = 2 ∨ x.kind = 4 := by omega
  rcases this with h | h <;> simp [h]
theorem set_cell {c : List AV} {o : Nat} {x : AV} (h : o < c.length) : c.take o ++ [x] ++ c.drop (o + [x].length) = c.set o x := by
  rw [List.set_eq_take_append_cons_drop, if_pos h]; simp
section
variable {P : Program} {d : Option Tmp} {ty : TypeId} {pos : String} {af : Array Edge} {g : Option (Nat × Bool)} {ev : Operand → AV} {H : Heap}
theorem q_nc {x : Operand} {u i off : Nat} {r : AV} (hx : ev x = .ptr u i off) (hr : NV (ev x) r) : QOp P ⟨d, .nilCheck x, ty, pos, af, g⟩ ev H r :=
  qop_of fun C a ok hh he => by
    have h1 := he x (by simp [Op.operands])
    refine ⟨C, a.eval x, ?_, ok, Le.refl _ _, by rw [← hr.eq]; exact h1⟩
    rw [hx] at h1
    obtain ⟨ad, e⟩ : ∃ ad, a.eval x = .pointer (some ad) := by
      generalize a.eval x = v at h1
      cases h1 with
      | ptr hu ha => exact ⟨_, rfl⟩
    simp [execOp, e]
end
def cI1 (n : Int) : AV := .lit (.int .i64 n)
set_option maxHeartbeats 8000000 in
theorem calls80_c (l : List Event) (hl : l.length ≤ 1000000) (H : Heap) : QCall Try.prog 80 [.ro (l.map Event.cells)] H (callsA (callsS l)) := by
  refine QCall.any H ?_
  refine acall_intro (n := 127) (rvs := [.tmp 2, .tmp 3]) Try.func80 rfl rfl rfl (Nat.le_of_ble_eq_true rfl) ?_
  refine awp_seq ?_
  refine awp_region ?_
  refine aqs rfl (q_as (by constructor)) rfl ?_
  refine aqs rfl (q_as (by constructor)) rfl ?_
  refine alist_nil ?_
  show AWP _ _ _ _
  refine awp_seq ?_
  refine awp_seq ?_
  refine awp_region ?_
  refine aqs rfl (q_mv (by constructor)) rfl ?_
  first | refine aqs rfl (q_len Try.underlying88 .ro) rfl ?_ | refine aqs rfl (q_lenO Try.underlying88 rfl (by repeat (first | exact .here | assumption | (apply HAt.left; assumption) | apply HAt.there | apply HAt.right)) (by first | omega | (simp; done) | (simp; omega) | fail) (by first | exact Nat.sub_zero _ | rfl)) rfl ?_ | refine aqs rfl (q_len Try.underlying88 .nil) rfl ?_ | refine aqs rfl (q_len Try.underlying88 .cro) rfl ?_
  refine aqs rfl (q_gtr rfl rfl) rfl ?_
  refine alist_nil ?_
  show AWP _ _ _ _
  refine awp_cond rfl (fun hc0 => ?_) (fun hc0 => ?_)
  · have h4 : 400 < l.length := by simp at hc0; omega
    rw [show callsS l = ([], 8) by rw [callsS, if_pos h4]]
    refine awp_seq ?_
    refine awp_region ?_
    refine aqs rfl (q_as (by constructor)) rfl ?_
    refine aqs rfl (q_as (by constructor)) rfl ?_
    refine alist_nil ?_
    show AWP _ _ _ _
    refine awp_nilro 2 rfl ?_
    show AWP _ _ _ _
    refine awp_ret ?_
    repeat first | with_reducible refine then_ret ?_ | with_reducible refine blk_ret ?_
    apply retq (.inr rfl) (.cons (rok_t rfl) (.cons (rok_t rfl) .nil))
    rotate_left
    · exact ⟨rfl, rfl⟩
    repeat (first | exact List.Sublist.refl _ | exact List.nil_sublist _ | exact List.sublist_append_left _ _ | apply List.Sublist.cons)
  · have h4 : ¬ 400 < l.length := by simp at hc0; omega
    rw [callsS_short h4]
    refine awp_adopt 2 103 7 rfl fun u0 => ?_
    refine awp_skip ?_
    show AWP _ _ _ _
    refine awp_seq ?_
    refine awp_region ?_
    (refine aes rfl (e_mm) rfl ?_; rintro _ _ ⟨u14, rfl, rfl⟩)
    refine aqs rfl (q_as (by constructor)) rfl ?_
    refine alist_nil ?_
    show AWP _ _ _ _
    refine awp_seq ?_
    refine awp_region ?_
    (refine aes rfl (e_al (xs := [.lit (.int .i64 0), .lit (.int .i64 0), .lit (.int .i64 0), .lit (.int .i64 0), .lit (.int .i64 0), .lit (.int .i64 0), .lit (.int .i64 0), .lit (.int .i64 0)]) (k := 8) zr176 (.same _) rfl) rfl ?_; rintro _ _ ⟨u5, rfl, rfl⟩)
    refine alist_nil ?_
    show AWP _ _ _ _
    refine awp_seq ?_
    refine awp_seq ?_
    refine awp_region ?_
    refine aqs rfl (q_mv (by constructor)) rfl ?_
    first | refine aqs rfl (q_len Try.underlying88 .ro) rfl ?_ | refine aqs rfl (q_lenO Try.underlying88 rfl (by repeat (first | exact .here | assumption | (apply HAt.left; assumption) | apply HAt.there | apply HAt.right)) (by first | omega | (simp; done) | (simp; omega) | fail) (by first | exact Nat.sub_zero _ | rfl)) rfl ?_ | refine aqs rfl (q_len Try.underlying88 .nil) rfl ?_ | refine aqs rfl (q_len Try.underlying88 .cro) rfl ?_
    refine aqs rfl (q_mv (by constructor)) rfl ?_
    refine alist_nil ?_
    show AWP _ _ _ _
    refine awp_block ?_
    rw [List.length_map]
    refine awp_loop_inv (fun x : Nat × Nat × List Call × List (Value × AV) × List Int => ⟨[(17, .lit (.int .i64 x.1)), (16, .lit (.int .i64 l.length)), (15, .ro (l.map Event.cells)), (2, .sl x.2.1 0 x.2.2.1.length), (4, .mp u14), (5, .ptr u5 0 0)], 127, [(u5, .arr 176 8 [x.2.2.2.2.map cI1]), (u14, .map x.2.2.2.1), (x.2.1, .arr 103 7 (x.2.2.1.map Call.cells))]⟩) (fun x => x.1 ≤ l.length ∧ x.2.2.1.length ≤ x.1 ∧ callsGo x.2.2.1 x.1 (l.drop x.1) = callsGo [] 0 (l.drop 0) ∧ CInv x.2.2.1 x.2.2.2.1 x.2.2.2.2) (fun x => l.length - x.1) (0, u0, [], [], List.replicate 8 0) ?_ ?_ ?_
    · exact ⟨Nat.zero_le _, Nat.zero_le _, rfl, cinv0⟩
    · exact .mk' (by repeat (first | exact trivial | refine ⟨rfl, ?_⟩)) (by repeat (first | exact .refl _ | apply List.Sublist.cons_cons | apply List.Sublist.cons))
    · rintro ⟨i, u, out, kvs, ls⟩ ⟨hi, hol, hgo, hinv⟩
      simp only at hi hol hgo hinv ⊢
      rw [← hgo]
      have hlen := lenCall out
      have hone := oneCall out
      have hD := mo_int hinv.mo
      have hls := hinv.len8
      refine awp_seq ?_
      refine awp_region ?_
      refine aqs rfl (q_lss rfl rfl) rfl ?_
      refine alist_nil ?_
      show AWP _ _ _ _
      refine awp_seq ?_
      refine awp_cond rfl (fun hc1 => ?_) (fun hc1 => ?_)
      · simp only [decide_eq_true_eq] at hc1
        obtain ⟨x, hx, hxm⟩ := get_lt (l := l) (i := i) (by omega)
        have hx2 := get_map (f := Event.cells) hx
        obtain ⟨a0, ha0⟩ : ∃ a0, a0 = (underS out x.who).getD 0 := ⟨_, rfl⟩
        refine awp_skip ?_
        show AWP _ _ _ _
        refine awp_seq ?_
        refine awp_block ?_
        refine awp_seq ?_
        refine awp_region ?_
        refine aqs rfl (q_mv (by constructor)) rfl ?_
        first | refine aqs rfl (q_iaN Try.underlying88 sz108 (.inl rfl) rfl (by omega) (by first | rfl | assumption | (simp [*]; done) | fail) (by first | rfl | assumption | (simp [*]; done) | fail) (by decide) (by first | ((repeat constructor); done) | exact .same _)) rfl ?_ | refine aqs rfl (q_iaS Try.underlying88 sz108 rfl (by repeat (first | exact .here | assumption | (apply HAt.left; assumption) | apply HAt.there | apply HAt.right)) rfl (by omega) (by omega) (by first | exact Nat.zero_add _ | rfl)) rfl ?_ | refine aqs rfl (q_iaN Try.underlying88 sz108 (.inr rfl) rfl (by omega) (by first | rfl | assumption | (simp [*]; done) | fail) (by first | rfl | assumption | (simp [*]; done) | fail) (by decide) (by first | ((repeat constructor); done) | exact .same _)) rfl ?_
        first | refine aqs rfl (q_ldpW ag108 sz108 rfl (by repeat (first | exact .here | assumption | (apply HAt.left; assumption) | apply HAt.there | apply HAt.right)) (by first | rfl | assumption | (simp [*]; done) | fail) (by first | rfl | assumption | (simp [*]; done) | fail) (by decide)) rfl ?_ | refine aqs rfl (q_ldW ag108 sz108 rfl (by first | rfl | assumption | (simp [*]; done) | fail)) rfl ?_ | refine aqs rfl (q_ldpP ag108 sz108 rfl (by repeat (first | exact .here | assumption | (apply HAt.left; assumption) | apply HAt.there | apply HAt.right)) (by first | rfl | assumption | (simp [*]; done) | fail) (by first | decide | (simp; done) | omega | fail) (by decide) (by first | ((repeat constructor); done) | exact .same _)) rfl ?_ | refine aqs rfl (q_ldP ag108 sz108 rfl (by first | decide | (simp; done) | omega | fail) (by first | ((repeat constructor); done) | exact .same _)) rfl ?_
        (refine aes rfl (e_al (xs := [.lit (.int .i64 0), .lit (.int .i64 0), .lit (.int .i64 0), .lit (.int .i64 0), .lit (.bool false)]) (k := 5) zr108 (.same _) rfl) rfl ?_; rintro _ _ ⟨u7, rfl, rfl⟩)
        refine aqs rfl (q_as (by constructor)) rfl ?_
        first | (refine aen rfl (e_stW sz108 rfl (by repeat (first | exact .here | assumption | (apply HAt.left; assumption) | apply HAt.there | apply HAt.right)) (by constructor) (by first | rfl | assumption | (simp [*]; done) | fail) rfl (by repeat (first | exact .here | apply HSet.there))) ?_; rintro _ _ ⟨rfl, rfl⟩) | (refine aen rfl (e_stP sz108 rfl (by repeat (first | exact .here | assumption | (apply HAt.left; assumption) | apply HAt.there | apply HAt.right)) (by first | rfl | assumption | (simp [*]; done) | fail) (by constructor) (by first | rfl | assumption | (simp [*]; done) | fail) rfl (by first | decide | omega) (by first | ((repeat constructor); done) | exact .same _) (by first | exact .one | exact .set) (by repeat (first | exact .here | apply HSet.there))) ?_; rintro _ _ ⟨rfl, rfl⟩)
        refine alist_nil ?_
        show AWP _ _ _ _
        refine awp_seq ?_
        refine awp_mid [(39, .lit (.bool (badEv x))), (17, .lit (.int .i64 i)), (16, .lit (.int .i64 l.length)), (15, .ro (l.map Event.cells)), (2, .sl u 0 out.length), (4, .mp u14), (5, .ptr u5 0 0), (6, .lit (.int .i64 i)), (7, .ptr u7 0 0)] ?_ ?_
        · skip
          refine awp_region ?_
          all_goals (first | refine aqs rfl (q_fapP fl108_0 (by decide) rfl rfl) rfl ?_ | refine aqs rfl (q_faP fl108_0 (by decide) rfl (by first | ((repeat constructor); done) | exact .same _)) rfl ?_)
          all_goals (first | refine aqs rfl (q_ldpN ag3 rfl (by repeat (first | exact .here | assumption | (apply HAt.left; assumption) | apply HAt.there | apply HAt.right)) (by first | rfl | assumption | (simp [*]; done) | fail) (by first | rfl | assumption | (simp [*]; done) | fail) (by constructor)) rfl ?_ | refine aqs rfl (q_ld1N ag3 rfl (by constructor)) rfl ?_)
          all_goals (refine aqs rfl (q_lss rfl rfl) rfl ?_)
          all_goals (refine aqs rfl (q_mv (by constructor)) rfl ?_)
          all_goals try (refine acase (fun hb3 => ?_) (fun hb3 => ?_))
          all_goals first | (exfalso; cases hb3; done) | skip
          all_goals (first | refine ans rfl rfl ?_ | refine aqs rfl (q_fapP fl108_0 (by decide) rfl rfl) rfl ?_ | refine aqs rfl (q_faP fl108_0 (by decide) rfl (by first | ((repeat constructor); done) | exact .same _)) rfl ?_)
          all_goals (first | refine ans rfl rfl ?_ | refine aqs rfl (q_ldpN ag3 rfl (by repeat (first | exact .here | assumption | (apply HAt.left; assumption) | apply HAt.there | apply HAt.right)) (by first | rfl | assumption | (simp [*]; done) | fail) (by first | rfl | assumption | (simp [*]; done) | fail) (by constructor)) rfl ?_ | refine aqs rfl (q_ld1N ag3 rfl (by constructor)) rfl ?_)
          all_goals (first | refine ans rfl rfl ?_ | refine aqs rfl (q_gtr rfl rfl) rfl ?_)
          all_goals (first | refine aqs rfl (q_pickT rfl (by constructor)) rfl ?_ | refine aqs rfl (q_pickF rfl (by constructor)) rfl ?_)
          all_goals (refine aqs rfl (q_mv (by constructor)) rfl ?_)
          all_goals try (refine acase (fun hb8 => ?_) (fun hb8 => ?_))
          all_goals first | (exfalso; cases hb8; done) | skip
          all_goals (first | refine ans rfl rfl ?_ | refine aqs rfl (q_fapP fl108_1 (by decide) rfl rfl) rfl ?_ | refine aqs rfl (q_faP fl108_1 (by decide) rfl (by first | ((repeat constructor); done) | exact .same _)) rfl ?_)
          all_goals (first | refine ans rfl rfl ?_ | refine aqs rfl (q_ldpN ag3 rfl (by repeat (first | exact .here | assumption | (apply HAt.left; assumption) | apply HAt.there | apply HAt.right)) (by first | rfl | assumption | (simp [*]; done) | fail) (by first | rfl | assumption | (simp [*]; done) | fail) (by constructor)) rfl ?_ | refine aqs rfl (q_ld1N ag3 rfl (by constructor)) rfl ?_)
          all_goals (first | refine ans rfl rfl ?_ | refine aqs rfl (q_lss rfl rfl) rfl ?_)
          all_goals (first | refine aqs rfl (q_pickT rfl (by constructor)) rfl ?_ | refine aqs rfl (q_pickF rfl (by constructor)) rfl ?_)
          all_goals (refine aqs rfl (q_mv (by constructor)) rfl ?_)
          all_goals try (refine acase (fun hb13 => ?_) (fun hb13 => ?_))
          all_goals first | (exfalso; cases hb13; done) | skip
          all_goals (first | refine ans rfl rfl ?_ | refine aqs rfl (q_fapP fl108_1 (by decide) rfl rfl) rfl ?_ | refine aqs rfl (q_faP fl108_1 (by decide) rfl (by first | ((repeat constructor); done) | exact .same _)) rfl ?_)
          all_goals (first | refine ans rfl rfl ?_ | refine aqs rfl (q_ldpN ag3 rfl (by repeat (first | exact .here | assumption | (apply HAt.left; assumption) | apply HAt.there | apply HAt.right)) (by first | rfl | assumption | (simp [*]; done) | fail) (by first | rfl | assumption | (simp [*]; done) | fail) (by constructor)) rfl ?_ | refine aqs rfl (q_ld1N ag3 rfl (by constructor)) rfl ?_)
          all_goals (first | refine ans rfl rfl ?_ | refine aqs rfl (q_geq rfl rfl) rfl ?_)
          all_goals (first | refine aqs rfl (q_pickT rfl (by constructor)) rfl ?_ | refine aqs rfl (q_pickF rfl (by constructor)) rfl ?_)
          all_goals (refine alist_nil ?_)
          all_goals (exact ⟨rfl, .mk' (by repeat (first | exact trivial | refine ⟨rfl, ?_⟩ | (refine ⟨?_, ?_⟩; (· show AV.lit (.bool _) = AV.lit (.bool (badEv x)); unfold badEv; first | (rw [hb3, hb8, hb13]; exact congrArg (fun b => AV.lit (.bool b)) (decide_eq_decide.2 (by omega))) | (rw [hb3, hb8, hb13]; rfl) | (rw [hb3, hb8]; rfl) | (rw [hb3]; rfl) | fail)))) (by repeat (first | exact .refl _ | exact List.nil_sublist _ | exact List.sublist_append_left _ _ | apply List.Sublist.cons))⟩)
        refine awp_cond rfl (fun hc2 => ?_) (fun hc2 => ?_)
        · rw [callsGo_stop hx (by decide) (step_bad hc2)]
          refine awp_seq ?_
          refine awp_region ?_
          refine aqs rfl (q_as (by constructor)) rfl ?_
          refine aqs rfl (q_as (by constructor)) rfl ?_
          refine alist_nil ?_
          show AWP _ _ _ _
          refine awp_nilro 2 rfl ?_
          show AWP _ _ _ _
          refine awp_ret ?_
          repeat first | with_reducible refine then_ret ?_ | with_reducible refine blk_ret ?_
          apply retq (.inr rfl) (.cons (rok_t rfl) (.cons (rok_t rfl) .nil))
          rotate_left
          · exact ⟨rfl, rfl⟩
          repeat (first | exact List.Sublist.refl _ | exact List.nil_sublist _ | exact List.sublist_append_left _ _ | apply List.Sublist.cons)
        · have hkd := kinds hc2
          refine awp_skip ?_
          show AWP _ _ _ _
          refine awp_mid [(8, .lit (.bool (decide (x.kind = 3) || decide (x.kind = 4)))), (17, .lit (.int .i64 i)), (16, .lit (.int .i64 l.length)), (15, .ro (l.map Event.cells)), (2, .sl u 0 out.length), (4, .mp u14), (5, .ptr u5 0 0), (6, .lit (.int .i64 i)), (7, .ptr u7 0 0)] ?_ ?_
          · skip
            refine awp_region ?_
            all_goals (first | refine aqs rfl (q_fapP fl108_0 (by decide) rfl rfl) rfl ?_ | refine aqs rfl (q_faP fl108_0 (by decide) rfl (by first | ((repeat constructor); done) | exact .same _)) rfl ?_)
            all_goals (first | refine aqs rfl (q_ldpN ag3 rfl (by repeat (first | exact .here | assumption | (apply HAt.left; assumption) | apply HAt.there | apply HAt.right)) (by first | rfl | assumption | (simp [*]; done) | fail) (by first | rfl | assumption | (simp [*]; done) | fail) (by constructor)) rfl ?_ | refine aqs rfl (q_ld1N ag3 rfl (by constructor)) rfl ?_)
            all_goals (refine aqs rfl (q_eql rfl rfl) rfl ?_)
            all_goals (refine aqs rfl (q_mv (by constructor)) rfl ?_)
            all_goals try (refine acase (fun hb3 => ?_) (fun hb3 => ?_))
            all_goals first | (exfalso; cases hb3; done) | skip
            all_goals (first | refine ans rfl rfl ?_ | refine aqs rfl (q_fapP fl108_0 (by decide) rfl rfl) rfl ?_ | refine aqs rfl (q_faP fl108_0 (by decide) rfl (by first | ((repeat constructor); done) | exact .same _)) rfl ?_)
            all_goals (first | refine ans rfl rfl ?_ | refine aqs rfl (q_ldpN ag3 rfl (by repeat (first | exact .here | assumption | (apply HAt.left; assumption) | apply HAt.there | apply HAt.right)) (by first | rfl | assumption | (simp [*]; done) | fail) (by first | rfl | assumption | (simp [*]; done) | fail) (by constructor)) rfl ?_ | refine aqs rfl (q_ld1N ag3 rfl (by constructor)) rfl ?_)
            all_goals (first | refine ans rfl rfl ?_ | refine aqs rfl (q_eql rfl rfl) rfl ?_)
            all_goals (first | refine aqs rfl (q_pickT rfl (by constructor)) rfl ?_ | refine aqs rfl (q_pickF rfl (by constructor)) rfl ?_)
            all_goals (refine aqs rfl (q_as (by constructor)) rfl ?_)
            all_goals (refine alist_nil ?_)
            all_goals (exact ⟨rfl, .mk' (by repeat (first | exact trivial | refine ⟨rfl, ?_⟩ | (refine ⟨?_, ?_⟩; (· first | (rw [hb3]; rfl) | fail)))) (by repeat (first | exact .refl _ | exact List.nil_sublist _ | exact List.sublist_append_left _ _ | apply List.Sublist.cons))⟩)
          refine awp_seq ?_
          refine awp_mid [(55, .lit (.bool (isCall x))), (8, .lit (.bool (decide (x.kind = 3) || decide (x.kind = 4)))), (17, .lit (.int .i64 i)), (16, .lit (.int .i64 l.length)), (15, .ro (l.map Event.cells)), (2, .sl u 0 out.length), (4, .mp u14), (5, .ptr u5 0 0), (6, .lit (.int .i64 i)), (7, .ptr u7 0 0)] ?_ ?_
          · skip
            refine awp_region ?_
            all_goals (first | refine aqs rfl (q_fapP fl108_0 (by decide) rfl rfl) rfl ?_ | refine aqs rfl (q_faP fl108_0 (by decide) rfl (by first | ((repeat constructor); done) | exact .same _)) rfl ?_)
            all_goals (first | refine aqs rfl (q_ldpN ag3 rfl (by repeat (first | exact .here | assumption | (apply HAt.left; assumption) | apply HAt.there | apply HAt.right)) (by first | rfl | assumption | (simp [*]; done) | fail) (by first | rfl | assumption | (simp [*]; done) | fail) (by constructor)) rfl ?_ | refine aqs rfl (q_ld1N ag3 rfl (by constructor)) rfl ?_)
            all_goals (refine aqs rfl (q_eql rfl rfl) rfl ?_)
            all_goals (refine aqs rfl (q_mv (by constructor)) rfl ?_)
            all_goals try (refine acase (fun hb3 => ?_) (fun hb3 => ?_))
            all_goals first | (exfalso; cases hb3; done) | skip
            all_goals (first | refine ans rfl rfl ?_ | refine aqs rfl (q_fapP fl108_0 (by decide) rfl rfl) rfl ?_ | refine aqs rfl (q_faP fl108_0 (by decide) rfl (by first | ((repeat constructor); done) | exact .same _)) rfl ?_)
            all_goals (first | refine ans rfl rfl ?_ | refine aqs rfl (q_ldpN ag3 rfl (by repeat (first | exact .here | assumption | (apply HAt.left; assumption) | apply HAt.there | apply HAt.right)) (by first | rfl | assumption | (simp [*]; done) | fail) (by first | rfl | assumption | (simp [*]; done) | fail) (by constructor)) rfl ?_ | refine aqs rfl (q_ld1N ag3 rfl (by constructor)) rfl ?_)
            all_goals (first | refine ans rfl rfl ?_ | refine aqs rfl (q_eql rfl rfl) rfl ?_)
            all_goals (first | refine aqs rfl (q_pickT rfl (by constructor)) rfl ?_ | refine aqs rfl (q_pickF rfl (by constructor)) rfl ?_)
            all_goals (refine alist_nil ?_)
            all_goals (exact ⟨rfl, .mk' (by repeat (first | exact trivial | refine ⟨rfl, ?_⟩ | (refine ⟨?_, ?_⟩; (· show AV.lit (.bool _) = AV.lit (.bool (isCall x)); unfold isCall; first | (rw [hb3]; rfl) | fail)))) (by repeat (first | exact .refl _ | exact List.nil_sublist _ | exact List.sublist_append_left _ _ | apply List.Sublist.cons))⟩)
          refine awp_cond rfl (fun hc3 => ?_) (fun hc3 => ?_)
          · rw [put_call hc2 hc3]
            refine awp_seq ?_
            refine awp_seq ?_
            refine awp_region ?_
            refine aqs rfl (q_mv (by constructor)) rfl ?_
            first | refine aqs rfl (q_fapP fl108_1 (by decide) rfl rfl) rfl ?_ | refine aqs rfl (q_faP fl108_1 (by decide) rfl (by first | ((repeat constructor); done) | exact .same _)) rfl ?_
            first | refine aqs rfl (q_ldpN ag3 rfl (by repeat (first | exact .here | assumption | (apply HAt.left; assumption) | apply HAt.there | apply HAt.right)) (by first | rfl | assumption | (simp [*]; done) | fail) (by first | rfl | assumption | (simp [*]; done) | fail) (by constructor)) rfl ?_ | refine aqs rfl (q_ld1N ag3 rfl (by constructor)) rfl ?_
            first | (refine aes rfl (e_callN cb135 (with135_c x.who kvs _ hinv.mo u14 _ _ _) rfl rfl) rfl ?_; rintro _ _ ⟨rfl, kvs1, rfl, hm1⟩) | (refine aes rfl (e_callN cb135 (ACall.arg (with135_c x.who kvs _ hinv.mo u14 _ _ _) (by repeat (first | exact ArgL.nil | (apply ArgL.cons; (· first | exact .same | exact .cro | exact .nil))))) rfl rfl) rfl ?_; rintro _ _ ⟨rfl, kvs1, rfl, hm1⟩)
            rw [isome_some]
            refine aqs rfl (q_not rfl) rfl ?_
            refine alist_nil ?_
            show AWP _ _ _ _
            refine awp_cond rfl (fun hc4 => ?_) (fun hc4 => ?_)
            · have hu : ∃ a : Nat, underS out x.who = some a := Option.isSome_iff_exists.1 (by simpa using hc4)
              obtain ⟨a, hu⟩ := hu
              rw [callsGo_stop hx (by decide) (step_twice hc2 hc3 hu)]
              refine awp_seq ?_
              refine awp_region ?_
              refine aqs rfl (q_as (by constructor)) rfl ?_
              refine aqs rfl (q_as (by constructor)) rfl ?_
              refine alist_nil ?_
              show AWP _ _ _ _
              refine awp_nilro 2 rfl ?_
              show AWP _ _ _ _
              refine awp_ret ?_
              repeat first | with_reducible refine then_ret ?_ | with_reducible refine blk_ret ?_
              apply retq (.inr rfl) (.cons (rok_t rfl) (.cons (rok_t rfl) .nil))
              rotate_left
              · exact ⟨rfl, rfl⟩
              repeat (first | exact List.Sublist.refl _ | exact List.nil_sublist _ | exact List.sublist_append_left _ _ | apply List.Sublist.cons)
            · have hu : underS out x.who = none := by simpa using hc4
              have hst := step_new (i := i) hc2 hc3 hu
              have hinv2 := cinv_new (i := i) hinv hkd.2 hu hm1
              have hes : (out.map Call.cells).take out.length ++ [(newCall i x).cells] = (out ++ [newCall i x]).map Call.cells := by rw [List.take_of_length_le (by simp)]; simp
              have hml : out.length - 0 + 1 = (out ++ [newCall i x]).length := by simp
              have hset : (ls.map cI1).take (0 + x.who.toNat * 1) ++ [AV.lit (.int .i64 (out.length : Nat))] ++ (ls.map cI1).drop (0 + x.who.toNat * 1 + [AV.lit (.int .i64 (out.length : Nat))].length) = (ls.set x.who.toNat (out.length : Nat)).map cI1 := by
                rw [set_cell (by rw [List.length_map, hls]; omega), Nat.zero_add, Nat.mul_one, List.map_set]; rfl
              refine awp_skip ?_
              show AWP _ _ _ _
              refine awp_seq ?_
              refine awp_region ?_
              refine aqs rfl (q_mv (by constructor)) rfl ?_
              first | refine aqs rfl (q_fapP fl108_1 (by decide) rfl rfl) rfl ?_ | refine aqs rfl (q_faP fl108_1 (by decide) rfl (by first | ((repeat constructor); done) | exact .same _)) rfl ?_
              first | refine aqs rfl (q_ldpN ag3 rfl (by repeat (first | exact .here | assumption | (apply HAt.left; assumption) | apply HAt.there | apply HAt.right)) (by first | rfl | assumption | (simp [*]; done) | fail) (by first | rfl | assumption | (simp [*]; done) | fail) (by constructor)) rfl ?_ | refine aqs rfl (q_ld1N ag3 rfl (by constructor)) rfl ?_
              first | refine aqs rfl (q_fapP fl108_2 (by decide) rfl rfl) rfl ?_ | refine aqs rfl (q_faP fl108_2 (by decide) rfl (by first | ((repeat constructor); done) | exact .same _)) rfl ?_
              first | refine aqs rfl (q_ldpN ag3 rfl (by repeat (first | exact .here | assumption | (apply HAt.left; assumption) | apply HAt.there | apply HAt.right)) (by first | rfl | assumption | (simp [*]; done) | fail) (by first | rfl | assumption | (simp [*]; done) | fail) (by constructor)) rfl ?_ | refine aqs rfl (q_ld1N ag3 rfl (by constructor)) rfl ?_
              refine aqs rfl (q_mv (by constructor)) rfl ?_
              refine aqs rfl (q_bd st103 zr103 (by first | ((repeat constructor); done) | exact .same _) (by repeat (first | exact BD.nil | (apply BD.cons; (· rfl); (· constructor); (· rfl); (· rfl); (· exact Nat.le_of_ble_eq_true (by rfl)); (· exact (by first | ((repeat constructor); done) | exact .same _)))))) rfl ?_
              (refine aes rfl (e_al (xs := [.lit (.bool false), .lit (.int .i64 0), .lit (.int .i64 0), .lit (.int .i64 0), .lit (.bool false), .lit (.int .i64 0), .lit (.int .i64 0)]) (k := 7) zr103 (.same _) rfl) rfl ?_; rintro _ _ ⟨u9, rfl, rfl⟩)
              first | (refine aen rfl (e_stW sz103 rfl (by repeat (first | exact .here | assumption | (apply HAt.left; assumption) | apply HAt.there | apply HAt.right)) (by constructor) (by first | rfl | assumption | (simp [*]; done) | fail) rfl (by repeat (first | exact .here | apply HSet.there))) ?_; rintro _ _ ⟨rfl, rfl⟩) | (refine aen rfl (e_stP sz103 rfl (by repeat (first | exact .here | assumption | (apply HAt.left; assumption) | apply HAt.there | apply HAt.right)) (by first | rfl | assumption | (simp [*]; done) | fail) (by constructor) (by first | rfl | assumption | (simp [*]; done) | fail) rfl (by first | decide | omega) (by first | ((repeat constructor); done) | exact .same _) (by first | exact .one | exact .set) (by repeat (first | exact .here | apply HSet.there))) ?_; rintro _ _ ⟨rfl, rfl⟩)
              refine alist_nil ?_
              show AWP _ _ _ _
              refine awp_join (fun _ : Unit => ⟨[(17, .lit (.int .i64 i)), (16, .lit (.int .i64 l.length)), (15, .ro (l.map Event.cells)), (2, .sl u 0 out.length), (4, .mp u14), (5, .ptr u5 0 0), (6, .lit (.int .i64 i)), (7, .ptr u7 0 0), (9, .ptr u9 0 0)], 127, [(u9, .arr 103 7 [(newCall i x).cells]), (u7, .arr 108 5 [x.cells]), (u5, .arr 176 8 [ls.map cI1]), (u14, .map kvs1), (u, .arr 103 7 (out.map Call.cells))]⟩) (fun _ => True) ?_ ?_
              · skip
                refine awp_seq ?_
                refine awp_region ?_
                refine aqs rfl (q_mv (by constructor)) rfl ?_
                refine alist_nil ?_
                show AWP _ _ _ _
                refine awp_cond rfl (fun hc5 => ?_) (fun hc5 => ?_)
                · have h3 : x.kind = 3 := by simpa using hc5
                  have hnc : (newCall i x).cells = [.lit (.bool (decide (x.kind = 3))), .lit (.int .i64 x.who), .lit (.int .i64 x.key), .lit (.int .i64 x.val), .lit (.bool false), .lit (.int .i64 i), .lit (.int .i64 (-1))] := by rw [new_cells, if_pos h3]
                  refine awp_region ?_
                  first | refine aqs rfl (q_fapP fl108_3 (by decide) rfl rfl) rfl ?_ | refine aqs rfl (q_faP fl108_3 (by decide) rfl (by first | ((repeat constructor); done) | exact .same _)) rfl ?_
                  first | refine aqs rfl (q_ldpN ag3 rfl (by repeat (first | exact .here | assumption | (apply HAt.left; assumption) | apply HAt.there | apply HAt.right)) (by first | rfl | assumption | (simp [*]; done) | fail) (by first | rfl | assumption | (simp [*]; done) | fail) (by constructor)) rfl ?_ | refine aqs rfl (q_ld1N ag3 rfl (by constructor)) rfl ?_
                  first | refine aqs rfl (q_fapP fl103_3 (by decide) rfl rfl) rfl ?_ | refine aqs rfl (q_faP fl103_3 (by decide) rfl (by first | ((repeat constructor); done) | exact .same _)) rfl ?_
                  first | (refine aen rfl (e_stW sz3 rfl (by repeat (first | exact .here | assumption | (apply HAt.left; assumption) | apply HAt.there | apply HAt.right)) (by constructor) (by first | rfl | assumption | (simp [*]; done) | fail) rfl (by repeat (first | exact .here | apply HSet.there))) ?_; rintro _ _ ⟨rfl, rfl⟩) | (refine aen rfl (e_stP sz3 rfl (by repeat (first | exact .here | assumption | (apply HAt.left; assumption) | apply HAt.there | apply HAt.right)) (by first | rfl | assumption | (simp [*]; done) | fail) (by constructor) (by first | rfl | assumption | (simp [*]; done) | fail) rfl (by first | decide | omega) (by first | ((repeat constructor); done) | exact .same _) (by first | exact .one | exact .set) (by repeat (first | exact .here | apply HSet.there))) ?_; rintro _ _ ⟨rfl, rfl⟩)
                  refine alist_nil ?_
                  show ∃ y, _ ∧ _
                  exact ⟨(), trivial, by rw [hnc]; exact .mk' ⟨by rfl, rfl, rfl, rfl, rfl, rfl, rfl, rfl, rfl, trivial⟩ (by repeat (first | exact List.Sublist.refl _ | exact List.nil_sublist _ | exact List.sublist_append_left _ _ | (apply List.Sublist.cons_cons) | (apply List.Sublist.cons)))⟩
                · have h3 : ¬ x.kind = 3 := by simpa using hc5
                  have hnc : (newCall i x).cells = [.lit (.bool (decide (x.kind = 3))), .lit (.int .i64 x.who), .lit (.int .i64 x.key), .lit (.int .i64 0), .lit (.bool false), .lit (.int .i64 i), .lit (.int .i64 (-1))] := by rw [new_cells, if_neg h3]
                  refine awp_skip ?_
                  show ∃ y, _ ∧ _
                  exact ⟨(), trivial, by rw [hnc]; exact .mk' ⟨by rfl, rfl, rfl, rfl, rfl, rfl, rfl, rfl, rfl, trivial⟩ (by repeat (first | exact List.Sublist.refl _ | exact List.nil_sublist _ | exact List.sublist_append_left _ _ | (apply List.Sublist.cons_cons) | (apply List.Sublist.cons)))⟩
              intro _ _
              show AWP _ _ _ ⟨_, _, _⟩
              refine awp_seq ?_
              refine awp_region ?_
              first | refine aqs rfl (q_fapP fl108_1 (by decide) rfl rfl) rfl ?_ | refine aqs rfl (q_faP fl108_1 (by decide) rfl (by first | ((repeat constructor); done) | exact .same _)) rfl ?_
              first | refine aqs rfl (q_ldpN ag3 rfl (by repeat (first | exact .here | assumption | (apply HAt.left; assumption) | apply HAt.there | apply HAt.right)) (by first | rfl | assumption | (simp [*]; done) | fail) (by first | rfl | assumption | (simp [*]; done) | fail) (by constructor)) rfl ?_ | refine aqs rfl (q_ld1N ag3 rfl (by constructor)) rfl ?_
              refine aqs rfl (q_mv (by constructor)) rfl ?_
              first | refine aqs rfl (q_len Try.underlying90 .ro) rfl ?_ | refine aqs rfl (q_lenO Try.underlying90 rfl (by repeat (first | exact .here | assumption | (apply HAt.left; assumption) | apply HAt.there | apply HAt.right)) (by first | omega | (simp; done) | (simp; omega) | fail) (by first | exact Nat.sub_zero _ | rfl)) rfl ?_ | refine aqs rfl (q_len Try.underlying90 .nil) rfl ?_ | refine aqs rfl (q_len Try.underlying90 .cro) rfl ?_
              refine aqs rfl (q_iaA Try.underlying176 sz3 rfl rfl (by omega) (by omega) rfl) rfl ?_
              first | (refine aen rfl (e_stW sz3 rfl (by repeat (first | exact .here | assumption | (apply HAt.left; assumption) | apply HAt.there | apply HAt.right)) (by constructor) (by first | rfl | assumption | (simp [*]; done) | fail) rfl (by repeat (first | exact .here | apply HSet.there))) ?_; rintro _ _ ⟨rfl, rfl⟩) | (refine aen rfl (e_stP sz3 rfl (by repeat (first | exact .here | assumption | (apply HAt.left; assumption) | apply HAt.there | apply HAt.right)) (by first | rfl | assumption | (simp [*]; done) | fail) (by constructor) (by first | rfl | assumption | (simp [*]; done) | fail) rfl (by first | decide | omega) (by first | ((repeat constructor); done) | exact .same _) (by first | exact .one | exact .set) (by repeat (first | exact .here | apply HSet.there))) ?_; rintro _ _ ⟨rfl, rfl⟩)
              refine alist_nil ?_
              show AWP _ _ _ _
              rw [hset]
              show AWP _ _ _ _
              refine awp_seq ?_
              refine awp_region ?_
              refine aqs rfl (q_mv (by constructor)) rfl ?_
              first | refine aqs rfl (q_ldpW ag103 sz103 rfl (by repeat (first | exact .here | assumption | (apply HAt.left; assumption) | apply HAt.there | apply HAt.right)) (by first | rfl | assumption | (simp [*]; done) | fail) (by first | rfl | assumption | (simp [*]; done) | fail) (by decide)) rfl ?_ | refine aqs rfl (q_ldW ag103 sz103 rfl (by first | rfl | assumption | (simp [*]; done) | fail)) rfl ?_ | refine aqs rfl (q_ldpP ag103 sz103 rfl (by repeat (first | exact .here | assumption | (apply HAt.left; assumption) | apply HAt.there | apply HAt.right)) (by first | rfl | assumption | (simp [*]; done) | fail) (by first | decide | (simp; done) | omega | fail) (by decide) (by first | ((repeat constructor); done) | exact .same _)) rfl ?_ | refine aqs rfl (q_ldP ag103 sz103 rfl (by first | decide | (simp; done) | omega | fail) (by first | ((repeat constructor); done) | exact .same _)) rfl ?_
              first | refine aqs rfl (q_bs Try.underlying90 sz103 zr103 rfl (by first | ((repeat constructor); done) | exact .same _) rfl (by decide) (by repeat (first | exact BS.nil | (apply BS.cons; (· constructor); (· rfl); (· rfl); (· rfl); (· exact (by first | ((repeat constructor); done) | exact .same _)))))) rfl ?_ | (refine aes rfl (e_bs Try.underlying90 sz103 zr103 rfl (by first | ((repeat constructor); done) | exact .same _) rfl (by decide) (by repeat (first | exact BS.nil | (apply BS.cons; (· constructor); (· rfl); (· rfl); (· rfl); (· exact (by first | ((repeat constructor); done) | exact .same _)))))) rfl ?_; rintro _ _ ⟨u79, rfl, rfl⟩)
              first | refine aqs rfl (q_apC Try.underlying90 sz103 by103 zr103 (.inl rfl) (by first | exact .ro | exact .cro | exact .nil | exact SV.slA (by repeat (first | exact .here | assumption | (apply HAt.left; assumption) | apply HAt.there | apply HAt.right)) (by first | rfl | (simp; done) | (simp; omega) | (simp [*]; done) | fail)) (by first | assumption | (intro c hc; simp at hc; subst hc; rfl) | (simp; done) | fail) (by first | assumption | (intro c hc; simp at hc; subst hc; rfl) | (simp; done) | fail) (by first | omega | decide | (simp; omega) | assumption | fail) (by decide) (by decide) rfl (by first | rfl | (simp; done) | fail)) rfl ?_ | refine aqs rfl (q_apC Try.underlying90 sz103 by103 zr103 (.inr ⟨rfl, rfl⟩) (by first | exact .ro | exact .cro | exact .nil | exact SV.slA (by repeat (first | exact .here | assumption | (apply HAt.left; assumption) | apply HAt.there | apply HAt.right)) (by first | rfl | (simp; done) | (simp; omega) | (simp [*]; done) | fail)) (by first | assumption | (intro c hc; simp at hc; subst hc; rfl) | (simp; done) | fail) (by first | assumption | (intro c hc; simp at hc; subst hc; rfl) | (simp; done) | fail) (by first | omega | decide | (simp; omega) | assumption | fail) (by decide) (by decide) rfl (by first | rfl | (simp; done) | fail)) rfl ?_ | (refine aes rfl (e_apO Try.underlying90 sz103 by103 zr103 rfl (by repeat (first | exact .here | assumption | (apply HAt.left; assumption) | apply HAt.there | apply HAt.right)) (by rw [List.length_map]; exact Nat.le_refl _) (by first | exact .ro | exact .cro | exact .nil | exact SV.slA (by repeat (first | exact .here | assumption | (apply HAt.left; assumption) | apply HAt.there | apply HAt.right)) (by first | rfl | (simp; done) | (simp; omega) | (simp [*]; done) | fail)) (by first | assumption | (intro c hc; simp at hc; subst hc; rfl) | (simp; done) | fail) (by first | assumption | (intro c hc; simp at hc; subst hc; rfl) | (simp; done) | fail) (by first | assumption | (intro c hc; simp at hc; subst hc; rfl) | (simp; done) | fail) (by first | (simp; done) | (simp; omega) | omega | fail) (by decide) (by decide) rfl (by exact hml) hes (fun v => (by repeat (first | exact .here | apply HSet.there)))) rfl ?_; rintro _ _ ⟨u80, rfl, rfl⟩) | (refine aes rfl (e_apN Try.underlying90 sz103 by103 zr103 rfl (by first | exact .ro | exact .cro | exact .nil | exact SV.slA (by repeat (first | exact .here | assumption | (apply HAt.left; assumption) | apply HAt.there | apply HAt.right)) (by first | rfl | (simp; done) | (simp; omega) | (simp [*]; done) | fail)) (by first | assumption | (intro c hc; simp at hc; subst hc; rfl) | (simp; done) | fail) (by first | assumption | (intro c hc; simp at hc; subst hc; rfl) | (simp; done) | fail) (by first | (simp; done) | (simp; omega) | omega | fail) (by decide) (by decide) rfl rfl) rfl ?_; rintro _ _ ⟨u80, rfl, rfl⟩)
              refine aqs rfl (q_as (by constructor)) rfl ?_
              refine alist_nil ?_
              show AWP _ _ _ _
              refine awp_exit ?_
              show AWP _ _ _ _
              refine awp_region ?_
              first | refine aqs rfl (q_add64 rfl rfl (by omega) (by omega)) rfl ?_ | refine aqs rfl (q_add rfl rfl) rfl ?_
              refine aqs rfl (q_mv (by constructor)) rfl ?_
              refine alist_nil ?_
              show ∃ y, _ ∧ _ ∧ _
              first
                | exact ⟨(i + 1, _, out ++ [newCall i x], kvs1, _), ⟨by show i + 1 ≤ l.length; omega, by simp; omega, (callsGo_next hx hst).symm, hinv2⟩, by show l.length - (i + 1) < l.length - i; omega, .mk' ⟨by rfl, rfl, rfl, rfl, rfl, rfl, trivial⟩ (by repeat (first | exact List.Sublist.refl _ | exact List.nil_sublist _ | exact List.sublist_append_left _ _ | (apply List.Sublist.cons_cons) | (apply List.Sublist.cons)))⟩
                | exact ⟨(i + 1, u, out.set a (tellCall (nth out a) i x), kvs', ls), ⟨by show i + 1 ≤ l.length; omega, by simp only [List.length_set]; omega, (callsGo_next hx hst).symm, hinv2⟩, by show l.length - (i + 1) < l.length - i; omega, by simp only [List.length_set]; rw [← hfin]; exact .mk' ⟨by rfl, rfl, rfl, rfl, rfl, rfl, trivial⟩ (by repeat (first | exact List.Sublist.refl _ | exact List.nil_sublist _ | exact List.sublist_append_left _ _ | (apply List.Sublist.cons_cons) | (apply List.Sublist.cons)))⟩
          · obtain ⟨hpt1, hpt2⟩ := put_told hc2 hc3
            rw [hpt1]
            refine awp_skip ?_
            show AWP _ _ _ _
            refine awp_seq ?_
            refine awp_mid [(97, .lit (.bool (!(underS out x.who).isSome || !((nth out a0).put == decide (x.kind = 4))))), (8, .lit (.bool (decide (x.kind = 4)))), (17, .lit (.int .i64 i)), (16, .lit (.int .i64 l.length)), (15, .ro (l.map Event.cells)), (2, .sl u 0 out.length), (4, .mp u14), (5, .ptr u5 0 0), (6, .lit (.int .i64 i)), (7, .ptr u7 0 0)] ?_ ?_
            · skip
              refine awp_region ?_
              all_goals (refine aqs rfl (q_mv (by constructor)) rfl ?_)
              all_goals (first | refine aqs rfl (q_fapP fl108_1 (by decide) rfl rfl) rfl ?_ | refine aqs rfl (q_faP fl108_1 (by decide) rfl (by first | ((repeat constructor); done) | exact .same _)) rfl ?_)
              all_goals (first | refine aqs rfl (q_ldpN ag3 rfl (by repeat (first | exact .here | assumption | (apply HAt.left; assumption) | apply HAt.there | apply HAt.right)) (by first | rfl | assumption | (simp [*]; done) | fail) (by first | rfl | assumption | (simp [*]; done) | fail) (by constructor)) rfl ?_ | refine aqs rfl (q_ld1N ag3 rfl (by constructor)) rfl ?_)
              all_goals ((refine aes rfl (e_lk Try.underlying175 KL3 zv4 rfl (by repeat (first | exact .here | assumption | (apply HAt.left; assumption) | apply HAt.there | apply HAt.right)) (by first | exact kv29 | exact .lit) ⟨_, rfl⟩ (by first | assumption | (intro p hp; cases hp; done))) rfl ?_; rintro rlk _ ⟨hlk, rfl⟩))
              obtain rfl := mo_in hinv.mo hlk
              rw [isome_some]
              all_goals (refine aqs rfl (q_not rfl) rfl ?_)
              all_goals (refine aqs rfl (q_mv (by constructor)) rfl ?_)
              all_goals try (refine acase (fun hb5 => ?_) (fun hb5 => ?_))
              all_goals first | (exfalso; cases hb5; done) | skip
              all_goals try (have hs2 : (underS out x.who).isSome = true := (by simpa using hb5); obtain ⟨a, hu⟩ := Option.isSome_iff_exists.1 hs2; have hat : a0 = a := (by rw [ha0, hu]; rfl); have hal := (under_some hu).1; have hg := get_map (f := Call.cells) (nth_get hal); have hla := hinv.last x.who a ⟨hal, (under_some hu).2.1, (under_some hu).2.2⟩; have hlc := get_map (f := cI1) hla.2; rw [← hat] at hg hal hlc; have hlc2 : (ls.map cI1)[0 + x.who.toNat * 1]? = some (.lit (.int .i64 (a0 : Nat))) := (by rw [Nat.zero_add, Nat.mul_one]; exact hlc))
              all_goals (first | refine ans rfl rfl ?_ | refine aqs rfl (q_mv (by constructor)) rfl ?_)
              all_goals (first | refine ans rfl rfl ?_ | refine aqs rfl (q_fapP fl108_1 (by decide) rfl rfl) rfl ?_ | refine aqs rfl (q_faP fl108_1 (by decide) rfl (by first | ((repeat constructor); done) | exact .same _)) rfl ?_)
              all_goals (first | refine ans rfl rfl ?_ | refine aqs rfl (q_ldpN ag3 rfl (by repeat (first | exact .here | assumption | (apply HAt.left; assumption) | apply HAt.there | apply HAt.right)) (by first | rfl | assumption | (simp [*]; done) | fail) (by first | rfl | assumption | (simp [*]; done) | fail) (by constructor)) rfl ?_ | refine aqs rfl (q_ld1N ag3 rfl (by constructor)) rfl ?_)
              all_goals (first | refine ans rfl rfl ?_ | refine aqs rfl (q_iaA Try.underlying176 sz3 rfl rfl (by omega) (by omega) rfl) rfl ?_)
              all_goals (first | refine ans rfl rfl ?_ | refine aqs rfl (q_ldpN ag3 rfl (by repeat (first | exact .here | assumption | (apply HAt.left; assumption) | apply HAt.there | apply HAt.right)) (by first | rfl | assumption | (simp [*]; done) | fail) (by first | rfl | assumption | (simp [*]; done) | fail) (by constructor)) rfl ?_ | refine aqs rfl (q_ld1N ag3 rfl (by constructor)) rfl ?_)
              all_goals (first | refine ans rfl rfl ?_ | refine aqs rfl (q_iaN Try.underlying90 sz103 (.inl rfl) rfl (by omega) (by first | rfl | assumption | (simp [*]; done) | fail) (by first | rfl | assumption | (simp [*]; done) | fail) (by decide) (by first | ((repeat constructor); done) | exact .same _)) rfl ?_ | refine aqs rfl (q_iaS Try.underlying90 sz103 rfl (by repeat (first | exact .here | assumption | (apply HAt.left; assumption) | apply HAt.there | apply HAt.right)) rfl (by omega) (by omega) (by first | exact Nat.zero_add _ | rfl)) rfl ?_ | refine aqs rfl (q_iaN Try.underlying90 sz103 (.inr rfl) rfl (by omega) (by first | rfl | assumption | (simp [*]; done) | fail) (by first | rfl | assumption | (simp [*]; done) | fail) (by decide) (by first | ((repeat constructor); done) | exact .same _)) rfl ?_)
              all_goals (first | refine ans rfl rfl ?_ | refine aqs rfl (q_fapP fl103_0 (by decide) rfl rfl) rfl ?_ | refine aqs rfl (q_faP fl103_0 (by decide) rfl (by first | ((repeat constructor); done) | exact .same _)) rfl ?_)
              all_goals (first | refine ans rfl rfl ?_ | refine aqs rfl (q_ldpN ag4 rfl (by repeat (first | exact .here | assumption | (apply HAt.left; assumption) | apply HAt.there | apply HAt.right)) (by first | rfl | assumption | (simp [*]; done) | fail) (by first | rfl | assumption | (simp [*]; done) | fail) (by constructor)) rfl ?_ | refine aqs rfl (q_ld1N ag4 rfl (by constructor)) rfl ?_)
              all_goals (first | refine ans rfl rfl ?_ | refine aqs rfl (q_mv (by constructor)) rfl ?_)
              all_goals (first | refine ans rfl rfl ?_ | refine aqs rfl (q_bneq rfl rfl Try.underlying4) rfl ?_)
              all_goals (first | refine aqs rfl (q_pickT rfl (by constructor)) rfl ?_ | refine aqs rfl (q_pickF rfl (by constructor)) rfl ?_)
              all_goals (refine alist_nil ?_)
              all_goals (exact ⟨rfl, .mk' (by repeat (first | exact trivial | refine ⟨rfl, ?_⟩ | (refine ⟨?_, ?_⟩; (· first | (rw [hb5]; rfl) | fail)))) (by repeat (first | exact .refl _ | exact List.nil_sublist _ | exact List.sublist_append_left _ _ | apply List.Sublist.cons))⟩)
            refine awp_cond rfl (fun hc6 => ?_) (fun hc6 => ?_)
            · have hst : callStep out i x = ([], 10) := by
                cases hn : underS out x.who with
                | none => exact step_none hc2 hc3 hn
                | some a =>
                  have hat : a0 = a := by rw [ha0, hn]; rfl
                  refine step_unlike hc2 hc3 hn fun hp => ?_
                  rw [hat, hp, hn] at hc6
                  simp at hc6
              rw [callsGo_stop hx (by decide) hst]
              refine awp_seq ?_
              refine awp_region ?_
              refine aqs rfl (q_as (by constructor)) rfl ?_
              refine aqs rfl (q_as (by constructor)) rfl ?_
              refine alist_nil ?_
              show AWP _ _ _ _
              refine awp_nilro 2 rfl ?_
              show AWP _ _ _ _
              refine awp_ret ?_
              repeat first | with_reducible refine then_ret ?_ | with_reducible refine blk_ret ?_
              apply retq (.inr rfl) (.cons (rok_t rfl) (.cons (rok_t rfl) .nil))
              rotate_left
              · exact ⟨rfl, rfl⟩
              repeat (first | exact List.Sublist.refl _ | exact List.nil_sublist _ | exact List.sublist_append_left _ _ | apply List.Sublist.cons)
            · simp only [Bool.or_eq_false_iff, Bool.not_eq_false', beq_iff_eq] at hc6
              obtain ⟨a, hu⟩ := Option.isSome_iff_exists.1 hc6.1
              have hat : a0 = a := by rw [ha0, hu]; rfl
              have hal := (under_some hu).1
              have hua : Under out x.who a := ⟨hal, (under_some hu).2.1, (under_some hu).2.2⟩
              have hg := get_map (f := Call.cells) (nth_get hal)
              rw [hat] at hc6
              have hst := step_told (i := i) hc2 hc3 hu hc6.2
              have hla := hinv.last x.who a hua
              have hlc := get_map (f := cI1) hla.2
              have hlc2 : (ls.map cI1)[0 + x.who.toNat * 1]? = some (.lit (.int .i64 (a : Nat))) := by rw [Nat.zero_add, Nat.mul_one]; exact hlc
              obtain ⟨c1, hc1e⟩ : ∃ c1 : Call, c1 = { nth out a with to := i } := ⟨_, rfl⟩
              have hc1c : c1.cells = [.lit (.bool (nth out a).put), .lit (.int .i64 (nth out a).who), .lit (.int .i64 (nth out a).key), .lit (.int .i64 (nth out a).val), .lit (.bool (nth out a).has), .lit (.int .i64 (nth out a).frm), .lit (.int .i64 i)] := by rw [hc1e]
              have hset1 : (out.map Call.cells).set a [.lit (.bool (nth out a).put), .lit (.int .i64 (nth out a).who), .lit (.int .i64 (nth out a).key), .lit (.int .i64 (nth out a).val), .lit (.bool (nth out a).has), .lit (.int .i64 (nth out a).frm), .lit (.int .i64 i)] = (out.set a c1).map Call.cells := by rw [← hc1c, List.map_set]
              have hal1 : a < (out.set a c1).length := by rw [List.length_set]; exact hal
              have hg1 : ((out.set a c1).map Call.cells)[a]? = some c1.cells := get_map (by simp [hal])
              have hg2 : (((out.set a c1).map Call.cells).set a (⟨c1.put, c1.who, c1.key, c1.val, true, c1.frm, c1.to⟩ : Call).cells)[a]? = some (⟨c1.put, c1.who, c1.key, c1.val, true, c1.frm, c1.to⟩ : Call).cells := by simp [hal]
              refine awp_skip ?_
              show AWP _ _ _ _
              refine awp_seq ?_
              refine awp_region ?_
              refine aqs rfl (q_mv (by constructor)) rfl ?_
              first | refine aqs rfl (q_fapP fl108_1 (by decide) rfl rfl) rfl ?_ | refine aqs rfl (q_faP fl108_1 (by decide) rfl (by first | ((repeat constructor); done) | exact .same _)) rfl ?_
              first | refine aqs rfl (q_ldpN ag3 rfl (by repeat (first | exact .here | assumption | (apply HAt.left; assumption) | apply HAt.there | apply HAt.right)) (by first | rfl | assumption | (simp [*]; done) | fail) (by first | rfl | assumption | (simp [*]; done) | fail) (by constructor)) rfl ?_ | refine aqs rfl (q_ld1N ag3 rfl (by constructor)) rfl ?_
              (refine aen rfl (e_dl Try.underlying175 KL3 rfl (by repeat (first | exact .here | assumption | (apply HAt.left; assumption) | apply HAt.there | apply HAt.right)) (by first | exact kv29 | exact .lit) ⟨_, rfl⟩ (by first | assumption | (intro p hp; cases hp; done)) rfl (fun kvs' => (by repeat (first | exact .here | apply HSet.there)))) ?_; rintro _ _ ⟨rfl, kvs', hdl, rfl⟩)
              have hm1 := mo_del ikv_inj hinv.mo (k := x.who) hdl
              have hinv2 := cinv_told (y := tellCall (nth out a) i x) hinv hua (by rw [(tell_same _ _ _).2.2.2.2]; omega) hm1
              refine alist_nil ?_
              show AWP _ _ _ _
              refine awp_seq ?_
              refine awp_region ?_
              refine aqs rfl (q_mv (by constructor)) rfl ?_
              first | refine aqs rfl (q_fapP fl108_1 (by decide) rfl rfl) rfl ?_ | refine aqs rfl (q_faP fl108_1 (by decide) rfl (by first | ((repeat constructor); done) | exact .same _)) rfl ?_
              first | refine aqs rfl (q_ldpN ag3 rfl (by repeat (first | exact .here | assumption | (apply HAt.left; assumption) | apply HAt.there | apply HAt.right)) (by first | rfl | assumption | (simp [*]; done) | fail) (by first | rfl | assumption | (simp [*]; done) | fail) (by constructor)) rfl ?_ | refine aqs rfl (q_ld1N ag3 rfl (by constructor)) rfl ?_
              refine aqs rfl (q_iaA Try.underlying176 sz3 rfl rfl (by omega) (by omega) rfl) rfl ?_
              first | refine aqs rfl (q_ldpN ag3 rfl (by repeat (first | exact .here | assumption | (apply HAt.left; assumption) | apply HAt.there | apply HAt.right)) (by first | rfl | assumption | (simp [*]; done) | fail) (by first | rfl | assumption | (simp [*]; done) | fail) (by constructor)) rfl ?_ | refine aqs rfl (q_ld1N ag3 rfl (by constructor)) rfl ?_
              first | refine aqs rfl (q_iaN Try.underlying90 sz103 (.inl rfl) rfl (by omega) (by first | rfl | assumption | (simp [*]; done) | fail) (by first | rfl | assumption | (simp [*]; done) | fail) (by decide) (by first | ((repeat constructor); done) | exact .same _)) rfl ?_ | refine aqs rfl (q_iaS Try.underlying90 sz103 rfl (by repeat (first | exact .here | assumption | (apply HAt.left; assumption) | apply HAt.there | apply HAt.right)) rfl (by omega) (by omega) (by first | exact Nat.zero_add _ | rfl)) rfl ?_ | refine aqs rfl (q_iaN Try.underlying90 sz103 (.inr rfl) rfl (by omega) (by first | rfl | assumption | (simp [*]; done) | fail) (by first | rfl | assumption | (simp [*]; done) | fail) (by decide) (by first | ((repeat constructor); done) | exact .same _)) rfl ?_
              refine aqs rfl (q_as (by constructor)) rfl ?_
              refine alist_nil ?_
              show AWP _ _ _ _
              rw [Int.toNat_natCast]
              show AWP _ _ _ _
              refine awp_seq ?_
              refine awp_region ?_
              refine aqs rfl (q_mv (by constructor)) rfl ?_
              refine aqs rfl (q_mv (by constructor)) rfl ?_
              refine aqs rfl (q_nc rfl (by constructor)) rfl ?_
              first | refine aqs rfl (q_fapP fl103_6 (by decide) rfl rfl) rfl ?_ | refine aqs rfl (q_faP fl103_6 (by decide) rfl (by first | ((repeat constructor); done) | exact .same _)) rfl ?_
              first | (refine aen rfl (e_stW sz3 rfl (by repeat (first | exact .here | assumption | (apply HAt.left; assumption) | apply HAt.there | apply HAt.right)) (by constructor) (by first | rfl | assumption | (simp [*]; done) | fail) rfl (by repeat (first | exact .here | apply HSet.there))) ?_; rintro _ _ ⟨rfl, rfl⟩) | (refine aen rfl (e_stP sz3 rfl (by repeat (first | exact .here | assumption | (apply HAt.left; assumption) | apply HAt.there | apply HAt.right)) (by first | rfl | assumption | (simp [*]; done) | fail) (by constructor) (by first | rfl | assumption | (simp [*]; done) | fail) rfl (by first | decide | omega) (by first | ((repeat constructor); done) | exact .same _) (by first | exact .one | exact .set) (by repeat (first | exact .here | apply HSet.there))) ?_; rintro _ _ ⟨rfl, rfl⟩)
              refine alist_nil ?_
              show AWP _ _ _ _
              rw [hset1]
              show AWP _ _ _ _
              refine awp_mid [(116, .lit (.bool (decide (x.kind = 2) && x.has))), (8, .lit (.bool (decide (x.kind = 4)))), (17, .lit (.int .i64 i)), (16, .lit (.int .i64 l.length)), (15, .ro (l.map Event.cells)), (2, .sl u 0 out.length), (4, .mp u14), (5, .ptr u5 0 0), (6, .lit (.int .i64 i)), (7, .ptr u7 0 0), (10, .ptr u a 0)] ?_ ?_
              · skip
                refine awp_region ?_
                all_goals (refine aqs rfl (q_mv (by constructor)) rfl ?_)
                all_goals (refine aqs rfl (castQ (r2 := .lit (.bool (decide (x.kind = 2)))) (q_not rfl) (by rw [hpt2])) rfl ?_)
                all_goals (refine aqs rfl (q_mv (by constructor)) rfl ?_)
                all_goals try (refine acase (fun hb2 => ?_) (fun hb2 => ?_))
                all_goals first | (exfalso; cases hb2; done) | skip
                all_goals (first | refine ans rfl rfl ?_ | refine aqs rfl (q_fapP fl108_4 (by decide) rfl rfl) rfl ?_ | refine aqs rfl (q_faP fl108_4 (by decide) rfl (by first | ((repeat constructor); done) | exact .same _)) rfl ?_)
                all_goals (first | refine ans rfl rfl ?_ | refine aqs rfl (q_ldpN ag4 rfl (by repeat (first | exact .here | assumption | (apply HAt.left; assumption) | apply HAt.there | apply HAt.right)) (by first | rfl | assumption | (simp [*]; done) | fail) (by first | rfl | assumption | (simp [*]; done) | fail) (by constructor)) rfl ?_ | refine aqs rfl (q_ld1N ag4 rfl (by constructor)) rfl ?_)
                all_goals (first | refine aqs rfl (q_pickT rfl (by constructor)) rfl ?_ | refine aqs rfl (q_pickF rfl (by constructor)) rfl ?_)
                all_goals (refine alist_nil ?_)
                all_goals (exact ⟨rfl, .mk' (by repeat (first | exact trivial | refine ⟨rfl, ?_⟩ | (refine ⟨?_, ?_⟩; (· first | (rw [hb2]; rfl) | fail)))) (by repeat (first | exact .refl _ | exact List.nil_sublist _ | exact List.sublist_append_left _ _ | apply List.Sublist.cons))⟩)
              refine awp_cond rfl (fun hc7 => ?_) (fun hc7 => ?_)
              · have h2 : x.kind = 2 ∧ x.has = true := by simpa using hc7
                have htc : (⟨c1.put, c1.who, c1.key, x.val, true, c1.frm, c1.to⟩ : Call) = tellCall (nth out a) i x := by rw [tellCall, if_pos h2, hc1e]
                have hfin : (((out.set a c1).map Call.cells).set a (⟨c1.put, c1.who, c1.key, c1.val, true, c1.frm, c1.to⟩ : Call).cells).set a (⟨c1.put, c1.who, c1.key, x.val, true, c1.frm, c1.to⟩ : Call).cells = (out.set a (tellCall (nth out a) i x)).map Call.cells := by
                  rw [htc, List.set_set, ← List.map_set, List.set_set]
                refine awp_draw 7 [(0, false), (1, false), (2, false), (3, false), (4, false), (5, false), (6, true)] [_, _, _] ([_]) mixed (by kernel_rfl) (.cons _ (.cons _ (.cons _ (.refl _)))) ?_
                refine glq rfl (.inl ⟨rfl, q_mv (by constructor)⟩) rfl ?_
                refine glq rfl (.inl ⟨rfl, q_mv (by constructor)⟩) rfl ?_
                first | refine glq rfl (.inl ⟨rfl, q_fapP fl108_3 (by decide) rfl rfl⟩) rfl ?_ | refine glq rfl (.inl ⟨rfl, q_faP fl108_3 (by decide) rfl (by first | ((repeat constructor); done) | exact .same _)⟩) rfl ?_
                first | refine glq rfl (.inl ⟨rfl, q_ldpN ag3 rfl (by repeat (first | exact .here | assumption | (apply HAt.left; assumption) | apply HAt.there | apply HAt.right)) (by first | rfl | assumption | (simp [*]; done) | fail) (by first | rfl | assumption | (simp [*]; done) | fail) (by constructor)⟩) rfl ?_ | refine glq rfl (.inl ⟨rfl, q_ld1N ag3 rfl (by constructor)⟩) rfl ?_
                refine glq rfl (.inl ⟨rfl, q_nc rfl (by constructor)⟩) rfl ?_
                first | refine glq rfl (.inl ⟨rfl, q_fapP fl103_4 (by decide) rfl rfl⟩) rfl ?_ | refine glq rfl (.inl ⟨rfl, q_faP fl103_4 (by decide) rfl (by first | ((repeat constructor); done) | exact .same _)⟩) rfl ?_
                first | (refine gla rfl rfl (EOp.frame (e_stW sz4 rfl (by repeat (first | exact .here | assumption | (apply HAt.left; assumption) | apply HAt.there | apply HAt.right)) (by constructor) (by first | rfl | assumption | (simp [*]; done) | fail) rfl (by repeat (first | exact .here | apply HSet.there)))) rfl ?_; rintro _ _ ⟨rfl, rfl⟩) | (refine gla rfl rfl (EOp.frame (e_stP sz4 rfl (by repeat (first | exact .here | assumption | (apply HAt.left; assumption) | apply HAt.there | apply HAt.right)) (by first | rfl | assumption | (simp [*]; done) | fail) (by constructor) (by first | rfl | assumption | (simp [*]; done) | fail) rfl (by first | decide | omega) (by first | ((repeat constructor); done) | exact .same _) (by first | exact .one | exact .set) (by repeat (first | exact .here | apply HSet.there)))) rfl ?_; rintro _ _ ⟨rfl, rfl⟩)
                refine gldA ?_
                refine aqs rfl (q_nc rfl (by constructor)) rfl ?_
                first | refine aqs rfl (q_fapP fl103_3 (by decide) rfl rfl) rfl ?_ | refine aqs rfl (q_faP fl103_3 (by decide) rfl (by first | ((repeat constructor); done) | exact .same _)) rfl ?_
                first | (refine aen rfl (e_stW sz3 rfl (by repeat (first | exact .here | assumption | (apply HAt.left; assumption) | apply HAt.there | apply HAt.right)) (by constructor) (by first | rfl | assumption | (simp [*]; done) | fail) rfl (by repeat (first | exact .here | apply HSet.there))) ?_; rintro _ _ ⟨rfl, rfl⟩) | (refine aen rfl (e_stP sz3 rfl (by repeat (first | exact .here | assumption | (apply HAt.left; assumption) | apply HAt.there | apply HAt.right)) (by first | rfl | assumption | (simp [*]; done) | fail) (by constructor) (by first | rfl | assumption | (simp [*]; done) | fail) rfl (by first | decide | omega) (by first | ((repeat constructor); done) | exact .same _) (by first | exact .one | exact .set) (by repeat (first | exact .here | apply HSet.there))) ?_; rintro _ _ ⟨rfl, rfl⟩)
                refine alist_nil ?_
                show AWP _ _ _ _
                refine awp_region ?_
                first | refine aqs rfl (q_add64 rfl rfl (by omega) (by omega)) rfl ?_ | refine aqs rfl (q_add rfl rfl) rfl ?_
                refine aqs rfl (q_mv (by constructor)) rfl ?_
                refine alist_nil ?_
                show ∃ y, _ ∧ _ ∧ _
                first
                  | exact ⟨(i + 1, _, out ++ [newCall i x], kvs1, _), ⟨by show i + 1 ≤ l.length; omega, by simp; omega, (callsGo_next hx hst).symm, hinv2⟩, by show l.length - (i + 1) < l.length - i; omega, .mk' ⟨by rfl, rfl, rfl, rfl, rfl, rfl, trivial⟩ (by repeat (first | exact List.Sublist.refl _ | exact List.nil_sublist _ | exact List.sublist_append_left _ _ | (apply List.Sublist.cons_cons) | (apply List.Sublist.cons)))⟩
                  | exact ⟨(i + 1, u, out.set a (tellCall (nth out a) i x), kvs', ls), ⟨by show i + 1 ≤ l.length; omega, by simp only [List.length_set]; omega, (callsGo_next hx hst).symm, hinv2⟩, by show l.length - (i + 1) < l.length - i; omega, by simp only [List.length_set]; rw [← hfin]; exact .mk' ⟨by rfl, rfl, rfl, rfl, rfl, rfl, trivial⟩ (by repeat (first | exact List.Sublist.refl _ | exact List.nil_sublist _ | exact List.sublist_append_left _ _ | (apply List.Sublist.cons_cons) | (apply List.Sublist.cons)))⟩
              · have h2 : ¬ (x.kind = 2 ∧ x.has = true) := fun h => by simp [h.1, h.2] at hc7
                have hfin : (out.set a c1).map Call.cells = (out.set a (tellCall (nth out a) i x)).map Call.cells := by rw [show c1 = tellCall (nth out a) i x by rw [tellCall, if_neg h2, hc1e]]
                refine awp_skip ?_
                show AWP _ _ _ _
                refine awp_region ?_
                first | refine aqs rfl (q_add64 rfl rfl (by omega) (by omega)) rfl ?_ | refine aqs rfl (q_add rfl rfl) rfl ?_
                refine aqs rfl (q_mv (by constructor)) rfl ?_
                refine alist_nil ?_
                show ∃ y, _ ∧ _ ∧ _
                first
                  | exact ⟨(i + 1, _, out ++ [newCall i x], kvs1, _), ⟨by show i + 1 ≤ l.length; omega, by simp; omega, (callsGo_next hx hst).symm, hinv2⟩, by show l.length - (i + 1) < l.length - i; omega, .mk' ⟨by rfl, rfl, rfl, rfl, rfl, rfl, trivial⟩ (by repeat (first | exact List.Sublist.refl _ | exact List.nil_sublist _ | exact List.sublist_append_left _ _ | (apply List.Sublist.cons_cons) | (apply List.Sublist.cons)))⟩
                  | exact ⟨(i + 1, u, out.set a (tellCall (nth out a) i x), kvs', ls), ⟨by show i + 1 ≤ l.length; omega, by simp only [List.length_set]; omega, (callsGo_next hx hst).symm, hinv2⟩, by show l.length - (i + 1) < l.length - i; omega, by simp only [List.length_set]; rw [← hfin]; exact .mk' ⟨by rfl, rfl, rfl, rfl, rfl, rfl, trivial⟩ (by repeat (first | exact List.Sublist.refl _ | exact List.nil_sublist _ | exact List.sublist_append_left _ _ | (apply List.Sublist.cons_cons) | (apply List.Sublist.cons)))⟩
      · simp only [decide_eq_false_iff_not] at hc1
        have hil : i = l.length := by omega
        subst hil
        rw [List.drop_length]
        rw [show callsGo out l.length [] = (out, 0) by rw [callsGo]]
        refine awp_exit ?_
        show AWP _ _ _ _
        refine awp_seq ?_
        refine awp_region ?_
        refine aqs rfl (q_mv (by constructor)) rfl ?_
        refine aqs rfl (q_as (by constructor)) rfl ?_
        refine aqs rfl (q_as (by constructor)) rfl ?_
        refine alist_nil ?_
        show AWP _ _ _ _
        refine awp_pub (u := u) (by repeat (first | exact .here | assumption | (apply HAt.left; assumption) | apply HAt.there | apply HAt.right)) (by repeat (first | exact PubT.nil | (apply PubT.cons; (· first | exact .one (pub_all (by first | rfl | (simp; done) | (simp; omega) | (simp [*]; done) | fail)) | exact .one .same)) | exact PubT.same)) (by repeat (first | exact PubH.drop .same | (apply PubH.cons; (· exact .same)))) ?_
        show AWP _ _ _ _
        refine awp_ret ?_
        repeat first | with_reducible refine then_ret ?_ | with_reducible refine blk_ret ?_
        apply retq (.inr rfl) (.cons (rok_t rfl) (.cons (rok_t rfl) .nil))
        rotate_left
        · exact ⟨rfl, rfl⟩
        repeat (first | exact List.Sublist.refl _ | exact List.nil_sublist _ | exact List.sublist_append_left _ _ | apply List.Sublist.cons)
end Go.Proofs.YtdlinfekifnmkaaAm
