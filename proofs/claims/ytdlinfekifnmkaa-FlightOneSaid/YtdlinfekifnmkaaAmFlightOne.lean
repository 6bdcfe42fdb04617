/- The plain laws of layer 15, second part: raw deeds beside a plain account of them. Conditions: none. -/
import Derived.Test.YtdlinfekifnmkaaAmFlightPlain
set_option linter.unusedVariables false
set_option linter.unusedSimpArgs false
namespace Go.Proofs.YtdlinfekifnmkaaAm
open Go.Proofs
def text6 (i : Int) : ByteArray := if i = 0 then ⟨#[]⟩ else if i = 1 then ⟨#[97]⟩ else if i = 2 then ⟨#[98]⟩ else if i = 3 then ⟨#[97, 98]⟩ else if i = 4 then ⟨#[98, 97]⟩ else ⟨#[99, 10]⟩
theorem six {i : Int} (h0 : 0 ≤ i) (h1 : i < 6) : i = 0 ∨ i = 1 ∨ i = 2 ∨ i = 3 ∨ i = 4 ∨ i = 5 := by omega
theorem text6_inj {a b : Int} (ha : 0 ≤ a ∧ a < 6) (hb : 0 ≤ b ∧ b < 6) (h : text6 a = text6 b) : a = b := by
  rcases six ha.1 ha.2 with rfl | rfl | rfl | rfl | rfl | rfl <;> rcases six hb.1 hb.2 with rfl | rfl | rfl | rfl | rfl | rfl <;> first | rfl | (exfalso; revert h; decide)
def sat (st : List Tri) (w : Int) : Tri := st.getD w.toNat ⟨0, 0, 0⟩
theorem sat_set {st : List Tri} {w v : Int} {y : Tri} (hl : st.length = 8) (hw : 0 ≤ w ∧ w ≤ 7) (hv : 0 ≤ v ∧ v ≤ 7) : sat (st.set w.toNat y) v = if v = w then y else sat st v := by
  unfold sat
  by_cases e : v = w
  · subst e
    rw [if_pos rfl, List.getD_eq_getElem?_getD, List.getElem?_set_self (by omega)]; rfl
  · rw [if_neg e, List.getD_eq_getElem?_getD, List.getElem?_set_ne (by omega), ← List.getD_eq_getElem?_getD]
def strRr : ByteArray := ⟨#[114]⟩
structure FOne (f : List Fill) (st : List Tri) (n : Int) : Prop where
  right : fRight f = true
  len : st.length = 8
  who : ∀ w ∈ allOf f, 0 ≤ w ∧ w ≤ 7
  by_ : ∀ x ∈ f, x.right = strRr ∧ (sat st x.by_).a = 1 ∧ x.left = text6 (sat st x.by_).b ∧ 0 ≤ (sat st x.by_).b ∧ (sat st x.by_).b < 3
  wait : ∀ x ∈ f, ∀ w ∈ x.waiting, (sat st w).a = 2 ∧ (sat st w).b = (sat st x.by_).b
  one : ∀ w, 0 ≤ w → w ≤ 7 → (sat st w).a = 1 → ∃ x ∈ f, x.by_ = w
  two : ∀ w, 0 ≤ w → w ≤ 7 → (sat st w).a = 2 → ∃ x ∈ f, w ∈ x.waiting
  time : ∀ w ∈ allOf f, 0 ≤ (sat st w).c ∧ (sat st w).c < n
  ord : ∀ x ∈ f, x.waiting.Pairwise (fun a b => (sat st a).c < (sat st b).c)
  kind : ∀ w, 0 ≤ w → w ≤ 7 → (sat st w).a = 0 ∨ (sat st w).a = 1 ∨ (sat st w).a = 2
theorem FOne.next {f : List Fill} {st : List Tri} {n : Int} (h : FOne f st n) : FOne f st (n + 1) :=
  ⟨h.right, h.len, h.who, h.by_, h.wait, h.one, h.two, fun w hw => ⟨(h.time w hw).1, by have := (h.time w hw).2; omega⟩, h.ord, h.kind⟩
theorem by_all {f : List Fill} {x : Fill} (h : x ∈ f) : x.by_ ∈ allOf f := mem_all.2 ⟨x, h, .inl rfl⟩
theorem wait_all {f : List Fill} {x : Fill} {w : Int} (h : x ∈ f) (hw : w ∈ x.waiting) : w ∈ allOf f := mem_all.2 ⟨x, h, .inr hw⟩
theorem mid_or {α : Type} {A B : List α} {x y z : α} (h : y ∈ A ++ z :: B) : y = z ∨ (y ∈ A ++ x :: B ∧ (y ∈ A ∨ y ∈ B)) := by
  simp only [List.mem_append, List.mem_cons] at h ⊢
  rcases h with h | h | h
  · exact .inr ⟨.inl h, .inl h⟩
  · exact .inl h
  · exact .inr ⟨.inr (.inr h), .inr h⟩
theorem mid_mem {α : Type} {A B : List α} {x y : α} (h : y ∈ A ∨ y ∈ B) : y ∈ A ++ x :: B := by
  rcases h with h | h <;> simp [h]
theorem mid_self {α : Type} {A B : List α} {x : α} : x ∈ A ++ x :: B := by simp
/-- Who is there. -/
theorem there_iff {f : List Fill} {st : List Tri} {n w : Int} (h : FOne f st n) (hw : 0 ≤ w ∧ w ≤ 7) : w ∈ allOf f ↔ ((sat st w).a = 1 ∨ (sat st w).a = 2) := by
  constructor
  · intro hm
    obtain ⟨x, hx, hx2⟩ := mem_all.1 hm
    rcases hx2 with e | e
    · rw [e]; exact .inl (h.by_ x hx).2.1
    · exact .inr (h.wait x hx w e).1
  · rintro (e | e)
    · obtain ⟨x, hx, rfl⟩ := h.one w hw.1 hw.2 e
      exact by_all hx
    · obtain ⟨x, hx, hx2⟩ := h.two w hw.1 hw.2 e
      exact wait_all hx hx2
/-- Others of a fill are others. -/
theorem other_who {A B : List Fill} {x y : Fill} (h : (allOf (A ++ x :: B)).Nodup) (hy : y ∈ A ∨ y ∈ B) {w : Int} (hw : w ∈ whoOf x) : w ∉ whoOf y := by
  intro hwy
  rw [all_app, all_cons, List.nodup_append] at h
  obtain ⟨h1, h2, h3⟩ := h
  rw [List.nodup_append] at h2
  rcases hy with hy | hy
  · exact h3 w (mem_all.2 ⟨y, hy, by simpa [whoOf] using hwy⟩) w (by simp [hw]) rfl
  · exact h2.2.2 w hw w (mem_all.2 ⟨y, hy, by simpa [whoOf] using hwy⟩) rfl
theorem who_mid {A B : List Fill} {x : Fill} (h : (allOf (A ++ x :: B)).Nodup) : (whoOf x).Nodup := by
  rw [all_app, all_cons, List.nodup_append] at h
  exact (List.nodup_append.1 h.2.1).1
theorem one_begin {f : List Fill} {st : List Tri} {n who t : Int} (h : FOne f st n) (hn : 0 ≤ n) (hw : 0 ≤ who ∧ who ≤ 7) (ht : 0 ≤ t ∧ t < 3) :
    (¬ (sat st who).a = 0 ∧ beginS f (text6 t) strRr who = (false, [], 4)) ∨
    ((sat st who).a = 0 ∧ ∃ b g, beginS f (text6 t) strRr who = (b, g, 0) ∧ (b = true ↔ ∀ k, 0 ≤ k → k ≤ 7 → ¬ ((sat st k).a = 1 ∧ (sat st k).b = t)) ∧
      FOne g (st.set who.toNat ⟨if b = true then 1 else 2, t, n⟩) (n + 1)) := by
  have hti := there_iff h hw
  have hk := h.kind who hw.1 hw.2
  by_cases hm : who ∈ allOf f
  · refine .inl ⟨?_, begin_twice h.right hm⟩
    have := hti.1 hm
    omega
  · have h0 : (sat st who).a = 0 := by
      rcases hk with e | e | e
      · exact e
      · exact absurd (hti.2 (.inl e)) hm
      · exact absurd (hti.2 (.inr e)) hm
    refine .inr ⟨h0, ?_⟩
    have hne : ∀ w ∈ allOf f, w ≠ who := fun w hw e => hm (e ▸ hw)
    have hold : ∀ (y : Tri) (w : Int), w ∈ allOf f → sat (st.set who.toNat y) w = sat st w := fun y w hwm => by rw [sat_set h.len hw (h.who w hwm), if_neg (hne w hwm)]
    have hself : ∀ y : Tri, sat (st.set who.toNat y) who = y := fun y => by rw [sat_set h.len hw hw, if_pos rfl]
    rcases begin_cases (l := text6 t) (r := strRr) h.right hm with ⟨e, hno⟩ | ⟨A, x, B, rfl, hl, hr, e⟩
    · refine ⟨true, _, e, ⟨fun _ k hk0 hk7 hkk => ?_, fun _ => rfl⟩, ?_⟩
      · obtain ⟨x, hx, rfl⟩ := h.one k hk0 hk7 hkk.1
        obtain ⟨b1, b2, b3, _⟩ := h.by_ x hx
        exact hno x hx ⟨by rw [b3, hkk.2], b1⟩
      · simp only [if_true]
        refine ⟨right_new h.right hm hno, by rw [List.length_set]; exact h.len, ?_, ?_, ?_, ?_, ?_, ?_, ?_, ?_⟩
        · intro w hwm
          rw [all_app] at hwm
          rcases List.mem_append.1 hwm with hwm | hwm
          · exact h.who w hwm
          · simp [allOf, whoOf] at hwm; subst hwm; exact hw
        · intro x hx
          rcases List.mem_append.1 hx with hx | hx
          · rw [hold _ _ (by_all hx)]; exact h.by_ x hx
          · simp at hx; subst hx
            show strRr = strRr ∧ (sat _ who).a = 1 ∧ text6 t = text6 (sat _ who).b ∧ 0 ≤ (sat _ who).b ∧ (sat _ who).b < 3
            rw [hself]
            exact ⟨rfl, rfl, rfl, ht⟩
        · intro x hx w hwx
          rcases List.mem_append.1 hx with hx | hx
          · rw [hold _ _ (by_all hx), hold _ _ (wait_all hx hwx)]; exact h.wait x hx w hwx
          · simp at hx; subst hx; simp at hwx
        · intro w hw0 hw7 ha
          by_cases e : w = who
          · exact ⟨_, List.mem_append_right _ (List.mem_singleton.2 rfl), e.symm⟩
          · rw [sat_set h.len hw ⟨hw0, hw7⟩, if_neg e] at ha
            obtain ⟨x, hx, hx2⟩ := h.one w hw0 hw7 ha
            exact ⟨x, List.mem_append_left _ hx, hx2⟩
        · intro w hw0 hw7 ha
          by_cases e : w = who
          · subst e
            rw [hself] at ha
            simp at ha
          · rw [sat_set h.len hw ⟨hw0, hw7⟩, if_neg e] at ha
            obtain ⟨x, hx, hx2⟩ := h.two w hw0 hw7 ha
            exact ⟨x, List.mem_append_left _ hx, hx2⟩
        · intro w hwm
          rw [all_app] at hwm
          rcases List.mem_append.1 hwm with hwm | hwm
          · rw [hold _ _ hwm]
            have := h.time w hwm
            omega
          · simp [allOf, whoOf] at hwm; subst hwm
            rw [hself]
            simp only
            omega
        · intro x hx
          rcases List.mem_append.1 hx with hx | hx
          · refine (h.ord x hx).imp_of_mem fun {a b} ha hb hab => ?_
            rw [hold _ _ (wait_all hx ha), hold _ _ (wait_all hx hb)]; exact hab
          · simp at hx; subst hx; exact List.Pairwise.nil
        · intro w hw0 hw7
          rw [sat_set h.len hw ⟨hw0, hw7⟩]
          split
          · exact .inr (.inl rfl)
          · exact h.kind w hw0 hw7
    · have hxm : x ∈ A ++ x :: B := mid_self
      refine ⟨false, _, e, ⟨fun h => (by cases h), fun hall => ?_⟩, ?_⟩
      · obtain ⟨b1, b2, b3, b4⟩ := h.by_ x hxm
        have hb7 := h.who _ (by_all hxm)
        have : (sat st x.by_).b = t := text6_inj ⟨b4.1, by omega⟩ ⟨ht.1, by omega⟩ (by rw [← b3, hl])
        exact absurd ⟨b2, this⟩ (hall x.by_ hb7.1 hb7.2)
      · simp only [Bool.false_eq_true, if_false]
        obtain ⟨b1, b2, b3, b4⟩ := h.by_ x hxm
        have hbt : (sat st x.by_).b = t := text6_inj ⟨b4.1, by omega⟩ ⟨ht.1, by omega⟩ (by rw [← b3, hl])
        have hmem : ∀ w, w ∈ allOf (A ++ moreW x who :: B) → w = who ∨ w ∈ allOf (A ++ x :: B) := fun w hwm => by
          have := (all_more A B x who).mem_iff.1 hwm
          simpa using this
        refine ⟨right_more h.right hm, by rw [List.length_set]; exact h.len, ?_, ?_, ?_, ?_, ?_, ?_, ?_, ?_⟩
        · intro w hwm
          rcases hmem w hwm with rfl | hwm
          · exact hw
          · exact h.who w hwm
        · intro y hy
          rcases mid_or (x := x) hy with rfl | ⟨hy, _⟩
          · show _ ∧ (sat _ x.by_).a = 1 ∧ x.left = text6 (sat _ x.by_).b ∧ 0 ≤ (sat _ x.by_).b ∧ (sat _ x.by_).b < 3
            rw [hold _ _ (by_all hxm)]; exact h.by_ x hxm
          · rw [hold _ _ (by_all hy)]; exact h.by_ y hy
        · intro y hy w hwy
          rcases mid_or (x := x) hy with rfl | ⟨hy, _⟩
          · show _ ∧ _ = (sat _ x.by_).b
            rw [hold _ _ (by_all hxm)]
            have hwy : w ∈ x.waiting ++ [who] := hwy
            rcases List.mem_append.1 hwy with hwy | hwy
            · rw [hold _ _ (wait_all hxm hwy)]; exact h.wait x hxm w hwy
            · simp at hwy; subst hwy
              rw [hself]
              exact ⟨rfl, hbt.symm⟩
          · rw [hold _ _ (by_all hy), hold _ _ (wait_all hy hwy)]; exact h.wait y hy w hwy
        · intro w hw0 hw7 ha
          by_cases e : w = who
          · subst e
            rw [hself] at ha
            simp at ha
          · rw [sat_set h.len hw ⟨hw0, hw7⟩, if_neg e] at ha
            obtain ⟨y, hy, hy2⟩ := h.one w hw0 hw7 ha
            rcases mid_or (x := moreW x who) hy with rfl | ⟨hy, _⟩
            · exact ⟨moreW y who, mid_self, hy2⟩
            · exact ⟨y, hy, hy2⟩
        · intro w hw0 hw7 ha
          by_cases e : w = who
          · subst e
            exact ⟨moreW x w, mid_self, by simp [moreW]⟩
          · rw [sat_set h.len hw ⟨hw0, hw7⟩, if_neg e] at ha
            obtain ⟨y, hy, hy2⟩ := h.two w hw0 hw7 ha
            rcases mid_or (x := moreW x who) hy with rfl | ⟨hy, _⟩
            · exact ⟨moreW y who, mid_self, by simp [moreW, hy2]⟩
            · exact ⟨y, hy, hy2⟩
        · intro w hwm
          rcases hmem w hwm with rfl | hwm
          · rw [hself]
            simp only
            omega
          · rw [hold _ _ hwm]
            have := h.time w hwm
            omega
        · intro y hy
          rcases mid_or (x := x) hy with rfl | ⟨hy, _⟩
          · show (x.waiting ++ [who]).Pairwise _
            rw [List.pairwise_append]
            refine ⟨(h.ord x hxm).imp_of_mem fun {a b} ha hb hab => ?_, List.pairwise_singleton _ _, fun a ha b hb => ?_⟩
            · rw [hold _ _ (wait_all hxm ha), hold _ _ (wait_all hxm hb)]; exact hab
            · simp at hb; subst hb
              rw [hself, hold _ _ (wait_all hxm ha)]
              exact (h.time a (wait_all hxm ha)).2
          · refine (h.ord y hy).imp_of_mem fun {a b} ha hb hab => ?_
            rw [hold _ _ (wait_all hy ha), hold _ _ (wait_all hy hb)]; exact hab
        · intro w hw0 hw7
          rw [sat_set h.len hw ⟨hw0, hw7⟩]
          split
          · exact .inr (.inr rfl)
          · exact h.kind w hw0 hw7

/-! ### One is done -/
def offOf (y : Tri) : Tri := ⟨0, y.b, y.c⟩
def offAll (st : List Tri) (l : List Int) : List Tri := l.foldl (fun s w => s.set w.toNat (offOf (sat s w))) st
theorem off_len (st : List Tri) : ∀ l : List Int, (offAll st l).length = st.length := by
  intro l
  induction l generalizing st with
  | nil => rfl
  | cons w l ih => show (offAll (st.set w.toNat _) l).length = _; rw [ih, List.length_set]
theorem off_sat {st : List Tri} {l : List Int} (hl : st.length = 8) (hm : ∀ w ∈ l, 0 ≤ w ∧ w ≤ 7) {v : Int} (hv : 0 ≤ v ∧ v ≤ 7) : sat (offAll st l) v = if v ∈ l then offOf (sat st v) else sat st v := by
  induction l generalizing st with
  | nil => simp [offAll]
  | cons w l ih =>
    show sat (offAll (st.set w.toNat (offOf (sat st w))) l) v = _
    rw [ih (by rw [List.length_set]; exact hl) (fun x hx => hm x (by simp [hx])), sat_set hl (hm w (by simp)) hv]
    by_cases e : v = w
    · subst e
      simp only [if_true, List.mem_cons, true_or]
      split <;> rfl
    · simp [e]
theorem off_next (st : List Tri) (l : List Int) (w : Int) : offAll st (l ++ [w]) = (offAll st l).set w.toNat (offOf (sat (offAll st l) w)) := by simp [offAll, List.foldl_append]
def manyS (st : List Tri) (b : Int) (n : Nat) : Nat := ((List.range n).filter fun k : Nat => decide ((sat st k).a = 2) && decide ((sat st k).b = b)).length
theorem many_next (st : List Tri) (b : Int) (n : Nat) : manyS st b (n + 1) = manyS st b n + (if (sat st n).a = 2 ∧ (sat st n).b = b then 1 else 0) := by
  unfold manyS
  rw [List.range_succ, List.filter_append, List.length_append]
  congr 1
  by_cases h : (sat st n).a = 2 ∧ (sat st n).b = b
  · simp [h]
  · rw [if_neg h]
    simp only [List.filter_cons, List.filter_nil]
    rw [if_neg (by simpa using h)]; rfl
theorem len_sub2 {l m : List Int} (hl : l.Nodup) (h : ∀ x ∈ l, x ∈ m) : l.length ≤ m.length := by
  induction l generalizing m with
  | nil => simp
  | cons a l ih =>
    obtain ⟨A, B, rfl⟩ := List.append_of_mem (h a (by simp))
    rw [List.nodup_cons] at hl
    have := ih (m := A ++ B) hl.2 fun x hx => by
      have := h x (by simp [hx])
      simp only [List.mem_append, List.mem_cons] at this ⊢
      rcases this with h1 | h1 | h1
      · exact .inl h1
      · exact absurd (h1 ▸ hx) hl.1
      · exact .inr h1
    simp only [List.length_append, List.length_cons] at this ⊢
    omega
theorem one_gone {A B : List Fill} {x : Fill} {st st2 : List Tri} {n : Int} (h : FOne (A ++ x :: B) st n) (hl : st2.length = 8)
    (h1 : ∀ v, 0 ≤ v → v ≤ 7 → v ∉ whoOf x → sat st2 v = sat st v) (h2 : ∀ v ∈ whoOf x, (sat st2 v).a = 0) : FOne (A ++ B) st2 (n + 1) := by
  have hnd := (right_f.1 h.right).2
  have hin : ∀ y, y ∈ A ++ B → y ∈ A ++ x :: B ∧ (y ∈ A ∨ y ∈ B) := fun y hy => ⟨mid_mem (List.mem_append.1 hy), List.mem_append.1 hy⟩
  have hold : ∀ y, y ∈ A ++ B → ∀ w ∈ whoOf y, sat st2 w = sat st w := fun y hy w hw => by
    have hwf := h.who w (mem_all.2 ⟨y, (hin y hy).1, by simpa [whoOf] using hw⟩)
    exact h1 w hwf.1 hwf.2 fun hx => other_who hnd (hin y hy).2 hx hw
  have hb : ∀ y, y ∈ A ++ B → sat st2 y.by_ = sat st y.by_ := fun y hy => hold y hy _ (by simp [whoOf])
  have hww : ∀ y, y ∈ A ++ B → ∀ w ∈ y.waiting, sat st2 w = sat st w := fun y hy w hw => hold y hy _ (by simp [whoOf, hw])
  have hmem : ∀ w, w ∈ allOf (A ++ B) → ∃ y, y ∈ A ++ B ∧ w ∈ whoOf y := fun w hw => by
    obtain ⟨y, hy, hy2⟩ := mem_all.1 hw
    exact ⟨y, hy, by simpa [whoOf] using hy2⟩
  have hback : ∀ w, 0 ≤ w → w ≤ 7 → ¬ (sat st2 w).a = 0 → sat st2 w = sat st w ∧ w ∉ whoOf x := fun w h0 h7 ha => by
    have : w ∉ whoOf x := fun hx => ha (h2 w hx)
    exact ⟨h1 w h0 h7 this, this⟩
  refine ⟨right_gone h.right, hl, ?_, ?_, ?_, ?_, ?_, ?_, ?_, ?_⟩
  · intro w hw
    obtain ⟨y, hy, hy2⟩ := hmem w hw
    exact h.who w (mem_all.2 ⟨y, (hin y hy).1, by simpa [whoOf] using hy2⟩)
  · intro y hy
    rw [hb y hy]; exact h.by_ y (hin y hy).1
  · intro y hy w hw
    rw [hb y hy, hww y hy w hw]; exact h.wait y (hin y hy).1 w hw
  · intro w h0 h7 ha
    obtain ⟨e, hx⟩ := hback w h0 h7 (by omega)
    rw [e] at ha
    obtain ⟨y, hy, hy2⟩ := h.one w h0 h7 ha
    rcases List.mem_append.1 hy with hy | hy
    · exact ⟨y, by simp [hy], hy2⟩
    · rcases List.mem_cons.1 hy with rfl | hy
      · exact absurd (by simp [whoOf, hy2]) hx
      · exact ⟨y, by simp [hy], hy2⟩
  · intro w h0 h7 ha
    obtain ⟨e, hx⟩ := hback w h0 h7 (by omega)
    rw [e] at ha
    obtain ⟨y, hy, hy2⟩ := h.two w h0 h7 ha
    rcases List.mem_append.1 hy with hy | hy
    · exact ⟨y, by simp [hy], hy2⟩
    · rcases List.mem_cons.1 hy with rfl | hy
      · exact absurd (by simp [whoOf, hy2]) hx
      · exact ⟨y, by simp [hy], hy2⟩
  · intro w hw
    obtain ⟨y, hy, hy2⟩ := hmem w hw
    rw [hold y hy w hy2]
    have := h.time w (mem_all.2 ⟨y, (hin y hy).1, by simpa [whoOf] using hy2⟩)
    omega
  · intro y hy
    refine (h.ord y (hin y hy).1).imp_of_mem fun {a b} ha hb hab => ?_
    rw [hww y hy a ha, hww y hy b hb]; exact hab
  · intro w h0 h7
    by_cases hx : w ∈ whoOf x
    · exact .inl (h2 w hx)
    · rw [h1 w h0 h7 hx]; exact h.kind w h0 h7
theorem one_done {f : List Fill} {st : List Tri} {n who : Int} (h : FOne f st n) (hw : 0 ≤ who ∧ who ≤ 7) :
    (¬ (sat st who).a = 1 ∧ doneS f who = ([], [], 10)) ∨
    ((sat st who).a = 1 ∧ ∃ told g, doneS f who = (told, g, 0) ∧ told.length = manyS st (sat st who).b 8 ∧ who ∉ told ∧ told.length ≤ 8 ∧
      (∀ w ∈ told, (0 ≤ w ∧ w ≤ 7) ∧ (sat st w).a = 2 ∧ (sat st w).b = (sat st who).b ∧ 0 ≤ (sat st w).c) ∧ told.Pairwise (fun a b => (sat st a).c < (sat st b).c) ∧
      FOne g ((offAll st told).set who.toNat (offOf (sat (offAll st told) who))) (n + 1)) := by
  rcases done_cases (who := who) h.right with ⟨e, hno⟩ | ⟨A, x, B, rfl, rfl, e⟩
  · refine .inl ⟨fun ha => ?_, e⟩
    obtain ⟨x, hx, hx2⟩ := h.one who hw.1 hw.2 ha
    exact hno x hx hx2
  · have hxm : x ∈ A ++ x :: B := mid_self
    have hnd := (right_f.1 h.right).2
    have hxn := List.nodup_cons.1 (who_mid hnd)
    have hin : ∀ w ∈ x.waiting, 0 ≤ w ∧ w ≤ 7 := fun w hw => h.who w (wait_all hxm hw)
    have hlen : x.waiting.length = manyS st (sat st x.by_).b 8 := by
      have e1 : manyS st (sat st x.by_).b 8 = (((List.range 8).filter fun k : Nat => decide ((sat st k).a = 2) && decide ((sat st k).b = (sat st x.by_).b)).map fun k : Nat => (k : Int)).length := by rw [List.length_map]; rfl
      rw [e1]
      refine Nat.le_antisymm (len_sub2 hxn.2 fun w hwx => ?_) (len_sub2 ?_ fun w hwm => ?_)
      · have h1 := hin w hwx
        have h2 := h.wait x hxm w hwx
        refine List.mem_map.2 ⟨w.toNat, List.mem_filter.2 ⟨List.mem_range.2 (by omega), ?_⟩, by omega⟩
        rw [show ((w.toNat : Nat) : Int) = w by omega]
        simp [h2.1, h2.2]
      · rw [List.nodup_iff_pairwise_ne, List.pairwise_map]
        refine (List.Pairwise.sublist List.filter_sublist List.pairwise_lt_range).imp fun {a b} hab => ?_
        omega
      · obtain ⟨k, hk, rfl⟩ := List.mem_map.1 hwm
        obtain ⟨hk1, hk2⟩ := List.mem_filter.1 hk
        have hk1 := List.mem_range.1 hk1
        simp only [Bool.and_eq_true, decide_eq_true_eq] at hk2
        obtain ⟨y, hy, hy2⟩ := h.two k (by omega) (by omega) hk2.1
        have h3 := h.wait y hy k hy2
        have h4 := h.by_ y hy
        have h5 := h.by_ x hxm
        have : y = x := text_one (right_f.1 h.right).1 hy (by rw [h4.2.2.1, h5.2.2.1, ← h3.2, hk2.2]) (by rw [h4.1, h5.1])
        rw [← this]; exact hy2
    refine .inr ⟨(h.by_ x hxm).2.1, x.waiting, A ++ B, e, hlen, hxn.1, ?_, ?_, h.ord x hxm, ?_⟩
    · rw [hlen, manyS]
      have := List.length_filter_le (fun k : Nat => decide ((sat st k).a = 2) && decide ((sat st k).b = (sat st x.by_).b)) (List.range 8)
      rw [List.length_range] at this
      exact this
    · intro w hwx
      have h1 := h.wait x hxm w hwx
      exact ⟨hin w hwx, h1.1, h1.2, (h.time w (wait_all hxm hwx)).1⟩
    · refine one_gone h (by rw [List.length_set, off_len]; exact h.len) (fun v h0 h7 hv => ?_) (fun v hv => ?_)
      · simp only [whoOf, List.mem_cons, not_or] at hv
        rw [sat_set (by rw [off_len]; exact h.len) hw ⟨h0, h7⟩, if_neg hv.1, off_sat h.len hin ⟨h0, h7⟩, if_neg hv.2]
      · have hv7 := h.who v (mem_all.2 ⟨x, hxm, by simpa [whoOf] using hv⟩)
        rw [sat_set (by rw [off_len]; exact h.len) hw hv7]
        split
        · rfl
        · rename_i hne
          simp only [whoOf, List.mem_cons] at hv
          rw [off_sat h.len hin hv7, if_pos (hv.resolve_left hne)]
          rfl

/-! ### One leaves -/
theorem one_leave {f : List Fill} {st : List Tri} {n who : Int} (h : FOne f st n) (hw : 0 ≤ who ∧ who ≤ 7) :
    (¬ (sat st who).a = 2 ∧ leaveS f who = ([], 10)) ∨ ((sat st who).a = 2 ∧ ∃ g, leaveS f who = (g, 0) ∧ FOne g (st.set who.toNat (offOf (sat st who))) (n + 1)) := by
  rcases leave_cases (who := who) h.right with ⟨e, hno⟩ | ⟨A, x, B, rfl, hx, e⟩
  · refine .inl ⟨fun ha => ?_, e⟩
    obtain ⟨x, hx, hx2⟩ := h.two who hw.1 hw.2 ha
    exact hno x hx hx2
  · have hxm : x ∈ A ++ x :: B := mid_self
    have hnd := (right_f.1 h.right).2
    have hxn := List.nodup_cons.1 (who_mid hnd)
    refine .inr ⟨(h.wait x hxm who hx).1, _, e, ?_⟩
    have hset : ∀ v, 0 ≤ v ∧ v ≤ 7 → ¬ v = who → sat (st.set who.toNat (offOf (sat st who))) v = sat st v := fun v hv hne => by rw [sat_set h.len hw hv, if_neg hne]
    have hself : sat (st.set who.toNat (offOf (sat st who))) who = offOf (sat st who) := by rw [sat_set h.len hw hw, if_pos rfl]
    have hby : ∀ y, y ∈ A ++ x :: B → ¬ y.by_ = who := fun y hy e2 => by
      have := who_one hnd (w := who) (by simp [whoOf, hx]) hy (by simp [whoOf, e2])
      subst this
      exact hxn.1 (e2 ▸ hx)
    have hles : ∀ w, w ∈ (lessW x who).waiting ↔ w ∈ x.waiting ∧ ¬ w = who := fun w => by simp [lessW]
    have hoth : ∀ y, (y ∈ A ∨ y ∈ B) → who ∉ y.waiting := fun y hy hwy => other_who hnd hy (w := who) (by simp [whoOf, hx]) (by simp [whoOf, hwy])
    have hmem : ∀ w, w ∈ allOf (A ++ lessW x who :: B) → w ∈ allOf (A ++ x :: B) ∧ ¬ w = who := fun w hwm => by
      obtain ⟨y, hy, hy2⟩ := mem_all.1 hwm
      rcases mid_or (x := x) hy with rfl | ⟨hy, hy3⟩
      · rcases hy2 with e2 | e2
        · rw [e2]; exact ⟨(show x.by_ ∈ allOf (A ++ x :: B) from by_all hxm), hby x hxm⟩
        · exact ⟨wait_all hxm ((hles w).1 e2).1, ((hles w).1 e2).2⟩
      · rcases hy2 with e2 | e2
        · rw [e2]; exact ⟨by_all hy, hby y hy⟩
        · exact ⟨wait_all hy e2, fun e3 => hoth y hy3 (e3 ▸ e2)⟩
    refine ⟨right_less who h.right, by rw [List.length_set]; exact h.len, ?_, ?_, ?_, ?_, ?_, ?_, ?_, ?_⟩
    · intro w hwm
      exact h.who w (hmem w hwm).1
    · intro y hy
      rcases mid_or (x := x) hy with rfl | ⟨hy, hy3⟩
      · show _ ∧ (sat _ x.by_).a = 1 ∧ x.left = text6 (sat _ x.by_).b ∧ 0 ≤ (sat _ x.by_).b ∧ (sat _ x.by_).b < 3
        rw [hset _ (h.who _ (by_all hxm)) (hby x hxm)]; exact h.by_ x hxm
      · rw [hset _ (h.who _ (by_all hy)) (hby y hy)]; exact h.by_ y hy
    · intro y hy w hwy
      rcases mid_or (x := x) hy with rfl | ⟨hy, hy3⟩
      · have hwx := (hles w).1 hwy
        show _ ∧ _ = (sat _ x.by_).b
        rw [hset _ (h.who _ (by_all hxm)) (hby x hxm), hset _ (h.who _ (wait_all hxm hwx.1)) hwx.2]; exact h.wait x hxm w hwx.1
      · rw [hset _ (h.who _ (by_all hy)) (hby y hy), hset _ (h.who _ (wait_all hy hwy)) (fun e3 => hoth y hy3 (e3 ▸ hwy))]; exact h.wait y hy w hwy
    · intro w h0 h7 ha
      by_cases e2 : w = who
      · subst e2
        rw [hself] at ha
        simp [offOf] at ha
      · rw [hset w ⟨h0, h7⟩ e2] at ha
        obtain ⟨y, hy, hy2⟩ := h.one w h0 h7 ha
        rcases mid_or (x := lessW x who) hy with rfl | ⟨hy, _⟩
        · exact ⟨lessW y who, mid_self, hy2⟩
        · exact ⟨y, hy, hy2⟩
    · intro w h0 h7 ha
      by_cases e2 : w = who
      · subst e2
        rw [hself] at ha
        simp [offOf] at ha
      · rw [hset w ⟨h0, h7⟩ e2] at ha
        obtain ⟨y, hy, hy2⟩ := h.two w h0 h7 ha
        rcases mid_or (x := lessW x who) hy with rfl | ⟨hy, _⟩
        · exact ⟨lessW y who, mid_self, (hles w).2 ⟨hy2, e2⟩⟩
        · exact ⟨y, hy, hy2⟩
    · intro w hwm
      obtain ⟨h1, h2⟩ := hmem w hwm
      rw [hset w (h.who w h1) h2]
      have := h.time w h1
      omega
    · intro y hy
      rcases mid_or (x := x) hy with rfl | ⟨hy, hy3⟩
      · refine ((h.ord x hxm).sublist List.filter_sublist).imp_of_mem fun {a b} ha hb hab => ?_
        have ha := (hles a).1 ha
        have hb := (hles b).1 hb
        rw [hset a (h.who _ (wait_all hxm ha.1)) ha.2, hset b (h.who _ (wait_all hxm hb.1)) hb.2]; exact hab
      · refine (h.ord y hy).imp_of_mem fun {a b} ha hb hab => ?_
        rw [hset a (h.who _ (wait_all hy ha)) (fun e3 => hoth y hy3 (e3 ▸ ha)), hset b (h.who _ (wait_all hy hb)) (fun e3 => hoth y hy3 (e3 ▸ hb))]; exact hab
    · intro w h0 h7
      by_cases e2 : w = who
      · subst e2; rw [hself]; exact .inl rfl
      · rw [hset w ⟨h0, h7⟩ e2]; exact h.kind w h0 h7
theorem fone0 : FOne [] (List.replicate 8 ⟨0, 0, 0⟩) 0 where
  right := by simp [fRight, textsOf, allOf]
  len := rfl
  who := fun w h => by simp [allOf] at h
  by_ := fun x h => by simp at h
  wait := fun x h => by simp at h
  one := fun w h0 h7 ha => by
    have : (sat (List.replicate 8 ⟨0, 0, 0⟩) w).a = 0 := by
      unfold sat
      rw [List.getD_eq_getElem?_getD, List.getElem?_replicate]
      split <;> rfl
    omega
  two := fun w h0 h7 ha => by
    have : (sat (List.replicate 8 ⟨0, 0, 0⟩) w).a = 0 := by
      unfold sat
      rw [List.getD_eq_getElem?_getD, List.getElem?_replicate]
      split <;> rfl
    omega
  time := fun w h => by simp [allOf] at h
  ord := fun x h => by simp at h
  kind := fun w h0 h7 => .inl (by
    unfold sat
    rw [List.getD_eq_getElem?_getD, List.getElem?_replicate]
    split <;> rfl)
end Go.Proofs.YtdlinfekifnmkaaAm
