/- The plain laws of layer 21, second part: no room, and calls of two kinds of keys. Conditions: none. -/
import Derived.Test.YtdlinfekifnmkaaAmHistPlain
set_option linter.unusedVariables false
set_option linter.unusedSimpArgs false
namespace Go.Proofs.YtdlinfekifnmkaaAm
open Go.Proofs

theorem split_app {α : Type} {o L a b : List α} {i : α} (h : o ++ L = a ++ i :: b) : (∃ b', o = a ++ i :: b') ∨ ∃ a', a = o ++ a' ∧ L = a' ++ i :: b := by
  rcases List.append_eq_append_iff.1 h with ⟨xs, h1, h2⟩ | ⟨bs, h1, h2⟩
  · exact .inr ⟨xs, h1, h2⟩
  · cases bs with
    | nil => exact .inr ⟨[], by simp at h1; simp [h1], by simpa using h2.symm⟩
    | cons x bs =>
      simp only [List.cons_append, List.cons.injEq] at h2
      obtain ⟨rfl, _⟩ := h2
      exact .inl ⟨bs, h1⟩

/-- There is an order of all that have ended. -/
theorem ended_upto (c : List Call) (hw : ∀ i, i < c.length → 0 ≤ (nth c i).to → (nth c i).frm < (nth c i).to) : ∀ T : Nat, ∃ o : List Nat, (∀ i, i ∈ o ↔ i < c.length ∧ 0 ≤ (nth c i).to ∧ (nth c i).to < T) ∧ ∀ a i b, o = a ++ i :: b → mayB c a i = true
  | 0 => ⟨[], fun i => ⟨fun h => by simp at h, fun h => by omega⟩, fun a i b e => by simp at e⟩
  | T + 1 => by
    obtain ⟨o, h1, h2⟩ := ended_upto c hw T
    refine ⟨o ++ (List.range c.length).filter (fun i => decide ((nth c i).to = T)), fun i => ?_, fun a i b e => ?_⟩
    · rw [List.mem_append, h1, List.mem_filter, List.mem_range, decide_eq_true_eq]
      omega
    · rcases split_app e with ⟨b', e2⟩ | ⟨a', rfl, e2⟩
      · exact h2 a i b' e2
      · have hi : i ∈ (List.range c.length).filter (fun i => decide ((nth c i).to = T)) := by rw [e2]; simp
        rw [List.mem_filter, List.mem_range, decide_eq_true_eq] at hi
        have hnd : ((List.range c.length).filter (fun i => decide ((nth c i).to = T))).Nodup := List.filter_sublist.nodup List.nodup_range
        rw [e2, List.nodup_append] at hnd
        refine may_iff.2 ⟨fun hm => ?_, .inl (by omega), fun k hk hn => ?_⟩
        · rcases List.mem_append.1 hm with hm | hm
          · have := (h1 i).1 hm; omega
          · exact hnd.2.2 i hm i (by simp) rfl
        · cases hb : before (nth c k) (nth c i) with
          | false => rfl
          | true =>
            have hb := before_to hb
            have := hw i hi.1 (by omega)
            exact absurd (List.mem_append_left _ ((h1 k).2 ⟨hk, by omega, by omega⟩)) hn
theorem to_bound : ∀ c : List Call, ∃ T : Nat, ∀ x ∈ c, x.to < T
  | [] => ⟨0, by simp⟩
  | x :: c => by
    obtain ⟨T, h⟩ := to_bound c
    refine ⟨T + x.to.toNat + 1, fun y hy => ?_⟩
    rcases List.mem_cons.1 hy with rfl | hy
    · omega
    · have := h y hy; omega
theorem ended_order (c : List Call) (hw : ∀ i, i < c.length → 0 ≤ (nth c i).to → (nth c i).frm < (nth c i).to) : ∃ o : List Nat, (∀ i ∈ o, i < c.length) ∧ (∀ a i b, o = a ++ i :: b → mayB c a i = true) ∧ wholeB c o = true := by
  obtain ⟨T, hT⟩ := to_bound c
  obtain ⟨o, h1, h2⟩ := ended_upto c hw T
  exact ⟨o, fun i hi => ((h1 i).1 hi).1, h2, whole_iff.2 fun i hi ht => (h1 i).2 ⟨hi, ht, hT _ (nth_mem hi)⟩⟩
theorem legal_nohas {c : List Call} {r : Int} (hr : 0 ≤ r) (h : ∀ x ∈ c, isHas x = false) : legal c r = true := by
  refine legal_iff.2 ⟨fun k hk => ?_, fun j hj => ?_⟩
  · unfold valOk
    rw [List.getElem?_eq_getElem hk]
    simp [h _ (List.getElem_mem hk)]
  · have : handN c c.length j = 0 := by
      refine List.countP_eq_zero.2 fun k hk => ?_
      unfold handP
      rw [List.mem_range] at hk
      rw [List.getElem?_eq_getElem hk]
      simp [h _ (List.getElem_mem hk)]
    omega
theorem hand_pos {c : List Call} {o a b : List Nat} {i : Nat} (ho : o = a ++ i :: b) (ha : a ≠ []) (hh : isHas (nth c i) = true) : 1 ≤ handN (listed c o) (listed c o).length (a.length - 1) := by
  have hl : 0 < a.length := List.length_pos_iff.2 ha
  refine Nat.succ_le_of_lt (List.countP_pos_iff.2 ⟨a.length, by rw [List.mem_range, ho]; simp [listed], ?_⟩)
  have e : listed c o = listed c a ++ nth c i :: listed c b := by rw [ho]; simp [listed]
  have hla : (listed c a).length = a.length := by simp [listed]
  unfold handP
  rw [e, List.getElem?_append_right (by omega), hla, Nat.sub_self, List.getElem?_cons_zero]
  rw [List.take_left' hla, List.drop_eq_nil_of_le (by omega)]
  simp [hh]
  omega
theorem linear_zero {c : List Call} (hT : ∀ x ∈ c, isHas x = true → 0 ≤ x.to) (hw : ∀ x ∈ c, 0 ≤ x.to → x.frm < x.to) : linear c 0 = !c.any isHas := by
  refine bool_iff ⟨fun h => ?_, fun h => ?_⟩
  · obtain ⟨o, ho⟩ := linear_iff.1 h
    rw [Bool.not_eq_true', Bool.eq_false_iff]
    intro ha
    obtain ⟨x, hx, hh⟩ := List.any_eq_true.1 ha
    obtain ⟨i, hi⟩ := List.mem_iff_getElem?.1 hx
    have hil := (List.getElem?_eq_some_iff.1 hi).1
    obtain ⟨a, b, k, e, hk, _⟩ := lin_put ho hil (by rw [nth_of hi]; exact hh) (by rw [nth_of hi]; exact hT x hx hh)
    have h1 := hand_pos (c := c) e (fun h => by rw [h] at hk; simp at hk) (by rw [nth_of hi]; exact hh)
    have h2 := (legal_iff.1 ho.legal).2 (a.length - 1) (by rw [e]; simp [listed]; omega)
    omega
  · have hn : ∀ x ∈ c, isHas x = false := by simpa using h
    obtain ⟨o, h1, h2, h3⟩ := ended_order c fun i hi => hw _ (nth_mem hi)
    refine linear_iff.2 ⟨o, h1, h2, legal_nohas (Int.le_refl _) fun x hx => ?_, h3⟩
    obtain ⟨i, hi, rfl⟩ := List.mem_map.1 hx
    exact hn _ (nth_mem (h1 i hi))

/-! ### Calls of two kinds of keys -/
theorem cur_filter {K : Call → Bool} {key : Int} (hK : ∀ x : Call, x.key = key → K x = true) (c : List Call) : cur (c.filter K) key = cur c key := by
  have gen : ∀ (c : List Call) (s : Option Int), (c.filter K).foldl (curStep key) s = c.foldl (curStep key) s := by
    intro c
    induction c with
    | nil => intro s; rfl
    | cons x c ih =>
      intro s
      cases hx : K x with
      | true => rw [List.filter_cons_of_pos hx, List.foldl_cons, List.foldl_cons, ih]
      | false =>
        rw [List.filter_cons_of_neg (by simp [hx]), List.foldl_cons, ih]
        have hne : ¬ x.key = key := fun e => by rw [hK x e] at hx; cases hx
        congr 1
        simp [curStep, hne]
  exact gen c none
def vFrom : List Call → List Call → Prop
  | _, [] => True
  | p, x :: s => (isHas x = true → cur p x.key = some x.val) ∧ vFrom (p ++ [x]) s
theorem vFrom_cons {p s : List Call} {x : Call} : vFrom p (x :: s) ↔ (isHas x = true → cur p x.key = some x.val) ∧ vFrom (p ++ [x]) s := by rw [vFrom]
theorem vFrom_iff : ∀ {s p : List Call}, vFrom p s ↔ ∀ k, k < s.length → valOk (p ++ s) (p.length + k) = true
  | [], p => by simp [vFrom]
  | x :: s, p => by
    have e : p ++ x :: s = (p ++ [x]) ++ s := by simp
    have h0 : valOk (p ++ x :: s) p.length = true ↔ (isHas x = true → cur p x.key = some x.val) := by
      unfold valOk
      rw [List.getElem?_append_right (Nat.le_refl _), Nat.sub_self, List.getElem?_cons_zero, List.take_left' rfl]
      cases hh : isHas x <;> simp [hh]
    rw [vFrom, vFrom_iff (s := s)]
    constructor
    · rintro ⟨h1, h2⟩ k hk
      cases k with
      | zero => exact h0.2 h1
      | succ k =>
        have := h2 k (by simpa using hk)
        rw [← e, List.length_append, List.length_singleton] at this
        rwa [show p.length + (k + 1) = p.length + 1 + k by omega]
    · intro h
      refine ⟨h0.1 (h 0 (by simp)), fun k hk => ?_⟩
      have := h (k + 1) (by simpa using hk)
      rw [← e, List.length_append, List.length_singleton]
      rwa [show p.length + 1 + k = p.length + (k + 1) by omega]
theorem vFrom_split {K : Call → Bool} (hK : ∀ x y : Call, x.key = y.key → K x = K y) : ∀ {s p : List Call}, vFrom p s ↔ vFrom (p.filter K) (s.filter K) ∧ vFrom (p.filter fun x => !K x) (s.filter fun x => !K x)
  | [], p => by simp [vFrom]
  | x :: s, p => by
    have ih := vFrom_split hK (s := s) (p := p ++ [x])
    rw [vFrom_cons, ih]
    cases hx : K x with
    | true =>
      have hc := cur_filter (K := K) (key := x.key) (fun y hy => by rw [hK y x hy, hx]) p
      have e1 : (p ++ [x]).filter K = p.filter K ++ [x] := by rw [List.filter_append]; simp [hx]
      have e2 : (p ++ [x]).filter (fun x => !K x) = p.filter (fun x => !K x) := by rw [List.filter_append]; simp [hx]
      have e3 : (x :: s).filter K = x :: s.filter K := List.filter_cons_of_pos hx
      have e4 : (x :: s).filter (fun x => !K x) = s.filter (fun x => !K x) := List.filter_cons_of_neg (by simp [hx])
      rw [e1, e2, e3, e4, vFrom_cons, hc]
      exact and_assoc.symm
    | false =>
      have hc := cur_filter (K := fun x => !K x) (key := x.key) (fun y hy => by rw [hK y x hy, hx]; rfl) p
      have e1 : (p ++ [x]).filter K = p.filter K := by rw [List.filter_append]; simp [hx]
      have e2 : (p ++ [x]).filter (fun x => !K x) = p.filter (fun x => !K x) ++ [x] := by rw [List.filter_append]; simp [hx]
      have e3 : (x :: s).filter K = s.filter K := List.filter_cons_of_neg (by simp [hx])
      have e4 : (x :: s).filter (fun x => !K x) = x :: s.filter (fun x => !K x) := List.filter_cons_of_pos (by simp [hx])
      rw [e1, e2, e3, e4, vFrom_cons, hc]
      exact ⟨fun ⟨h1, h2, h3⟩ => ⟨h2, h1, h3⟩, fun ⟨h2, h1, h3⟩ => ⟨h1, h2, h3⟩⟩
theorem legal_big {c : List Call} {r : Int} (hr : (c.length : Int) ≤ r) : legal c r = true ↔ vFrom [] c := by
  rw [legal_iff, vFrom_iff]
  simp only [List.nil_append, List.length_nil, Nat.zero_add]
  exact ⟨fun h => h.1, fun h => ⟨h, fun j hj => by have := handN_le c c.length j; omega⟩⟩
/-- The calls of a part, in the order of all. -/
theorem lin_part {c d : List Call} {r : Int} {K : Call → Bool} (P : Nat → Bool) (e f : Nat → Nat) (he : ∀ k, k < d.length → e k < c.length ∧ P (e k) = true ∧ f (e k) = k ∧ nth d k = nth c (e k))
    (hf : ∀ i, i < c.length → P i = true → f i < d.length ∧ e (f i) = i) (hK : ∀ i, i < c.length → K (nth c i) = P i) (hl : ∀ o : List Nat, vFrom [] (listed c o) → vFrom [] ((listed c o).filter K))
    (hd : (d.length : Int) ≤ r) (hc : (c.length : Int) ≤ r) {o : List Nat} (h : Lin c r o) : Lin d r ((o.filter P).map f) := by
  have hlt : ∀ i ∈ o.filter P, i < c.length ∧ P i = true := fun i hi => ⟨h.lt i (List.mem_filter.1 hi).1, (List.mem_filter.1 hi).2⟩
  have hdl : ∀ i ∈ (o.filter P).map f, i < d.length := fun i hi => by
    obtain ⟨j, hj, rfl⟩ := List.mem_map.1 hi
    exact (hf j (hlt j hj).1 (hlt j hj).2).1
  have hmay : ∀ a i b, (o.filter P).map f = a ++ i :: b → mayB d a i = true := fun a i b heq => by
    obtain ⟨a2, t, h1, rfl, h2⟩ := List.map_eq_append_iff.1 heq
    obtain ⟨i2, b2, rfl, rfl, rfl⟩ := List.map_eq_cons_iff.1 h2
    obtain ⟨l1, l2, rfl, h3, h4⟩ := List.filter_eq_append_iff.1 h1
    obtain ⟨m1, m2, rfl, h5, h6, h7⟩ := List.filter_eq_cons_iff.1 h4
    have hi2 : i2 < c.length := h.lt i2 (by simp)
    obtain ⟨f1, f2⟩ := hf i2 hi2 h6
    obtain ⟨_, _, _, hnd⟩ := he (f i2) f1
    rw [f2] at hnd
    obtain ⟨k1, k2, k3⟩ := may_iff.1 (h.may (l1 ++ m1) i2 m2 (by simp))
    have ha2 : ∀ j, j ∈ a2 ↔ j ∈ l1 ++ m1 ∧ P j = true := fun j => by
      rw [← h3, List.mem_filter, List.mem_append]
      constructor
      · rintro ⟨x, y⟩; exact ⟨.inl x, y⟩
      · rintro ⟨x | x, y⟩
        · exact ⟨x, y⟩
        · exact absurd y (h5 j x)
    have hal : ∀ j ∈ a2, j < c.length := fun j hj => h.lt j (by have := ((ha2 j).1 hj).1; simp at this ⊢; rcases this with x | x <;> simp [x])
    refine may_iff.2 ⟨fun hm => ?_, by rw [hnd]; exact k2, fun k hk hn => ?_⟩
    · obtain ⟨j, hj, hje⟩ := List.mem_map.1 hm
      have := (hf j (hal j hj) ((ha2 j).1 hj).2).2
      rw [hje, f2] at this
      subst this
      exact k1 ((ha2 _).1 hj).1
    · obtain ⟨e1, e2, e3, e4⟩ := he k hk
      rw [hnd, e4]
      refine k3 (e k) e1 fun hm => hn ?_
      rw [← e3]
      exact List.mem_map.2 ⟨_, (ha2 _).2 ⟨hm, e2⟩, rfl⟩
  have hwh : wholeB d ((o.filter P).map f) = true := whole_iff.2 fun k hk ht => by
    obtain ⟨e1, e2, e3, e4⟩ := he k hk
    rw [e4] at ht
    rw [← e3]
    exact List.mem_map.2 ⟨_, List.mem_filter.2 ⟨whole_iff.1 h.whole _ e1 ht, e2⟩, rfl⟩
  have hol : (o.length : Int) ≤ r := by
    have := len_sub (m := List.range c.length) h.nodup (fun x hx => List.mem_range.2 (h.lt x hx))
    rw [List.length_range] at this
    omega
  refine ⟨hdl, hmay, ?_, hwh⟩
  have hv := hl o ((legal_big (by simpa [listed] using hol)).1 h.legal)
  have heq : (listed c o).filter K = listed d ((o.filter P).map f) := by
    rw [listed, List.filter_map, listed, List.map_map]
    have h1 : o.filter (K ∘ nth c) = o.filter P := List.filter_congr fun i hi => hK i (h.lt i hi)
    rw [h1]
    refine List.map_congr_left fun i hi => ?_
    obtain ⟨f1, f2⟩ := hf i (hlt i hi).1 (hlt i hi).2
    have := (he (f i) f1).2.2.2
    rw [f2] at this
    exact this.symm
  rw [heq] at hv
  refine (legal_big ?_).2 hv
  have h3 : ((o.filter P).map f).length ≤ o.length := by rw [List.length_map]; exact List.length_filter_le _ _
  simp only [listed, List.length_map] at h3 ⊢
  omega

theorem merge_orders {a b : List Call} {r : Int} {o1 o2 : List Nat} (h1 : Lin a r o1) (h2 : Lin b r o2) : ∀ (n : Nat) (s1 s2 p1 p2 m : List Nat), s1.length + s2.length = n → o1 = p1 ++ s1 → o2 = p2 ++ s2 →
    m.filter (fun i => decide (i < a.length)) = p1 → m.filter (fun i => decide (a.length ≤ i)) = p2.map (a.length + ·) →
    ∃ t, (∀ i ∈ t, i < a.length + b.length) ∧ (m ++ t).filter (fun i => decide (i < a.length)) = o1 ∧ (m ++ t).filter (fun i => decide (a.length ≤ i)) = o2.map (a.length + ·) ∧ ∀ x i y, t = x ++ i :: y → mayB (a ++ b) (m ++ x) i = true := by
  intro n
  induction n with
  | zero =>
    intro s1 s2 p1 p2 m hn e1 e2 f1 f2
    obtain rfl : s1 = [] := List.length_eq_zero_iff.1 (by omega)
    obtain rfl : s2 = [] := List.length_eq_zero_iff.1 (by omega)
    exact ⟨[], by simp, by rw [e1]; simpa using f1, by rw [e2]; simpa using f2, fun x i y e => by simp at e⟩
  | succ n ih =>
    intro s1 s2 p1 p2 m hn e1 e2 f1 f2
    have mA : ∀ k, k < a.length → (k ∈ m ↔ k ∈ p1) := fun k hk => by rw [← f1, List.mem_filter]; simp [hk]
    have mB : ∀ k, a.length + k ∈ m ↔ k ∈ p2 := fun k => by
      have : a.length + k ∈ m ↔ a.length + k ∈ m.filter (fun i => decide (a.length ≤ i)) := by rw [List.mem_filter]; simp
      rw [this, f2, List.mem_map]
      constructor
      · rintro ⟨j, hj, hje⟩
        obtain rfl : j = k := by omega
        exact hj
      · intro hk; exact ⟨k, hk, rfl⟩
    have cA : ∀ x, x < a.length → mayB a p1 x = true → (∀ k, k < b.length → k ∉ p2 → before (nth b k) (nth a x) = false) → mayB (a ++ b) m x = true := fun x hx hm hk => by
      obtain ⟨k1, k2, k3⟩ := may_iff.1 hm
      refine may_iff.2 ⟨fun h => k1 ((mA x hx).1 h), by rw [nth_app hx]; exact k2, fun k hkl hkn => ?_⟩
      rw [nth_app hx]
      by_cases hka : k < a.length
      · rw [nth_app hka]; exact k3 k hka fun h => hkn ((mA k hka).2 h)
      · obtain ⟨j, rfl⟩ : ∃ j, k = a.length + j := ⟨k - a.length, by omega⟩
        rw [nth_app2]
        exact hk j (by rw [List.length_append] at hkl; omega) fun h => hkn ((mB j).2 h)
    have cB : ∀ y, y < b.length → mayB b p2 y = true → (∀ k, k < a.length → k ∉ p1 → before (nth a k) (nth b y) = false) → mayB (a ++ b) m (a.length + y) = true := fun y hy hm hk => by
      obtain ⟨k1, k2, k3⟩ := may_iff.1 hm
      refine may_iff.2 ⟨fun h => k1 ((mB y).1 h), by rw [nth_app2]; exact k2, fun k hkl hkn => ?_⟩
      rw [nth_app2]
      by_cases hka : k < a.length
      · rw [nth_app hka]; exact hk k hka fun h => hkn ((mA k hka).2 h)
      · obtain ⟨j, rfl⟩ : ∃ j, k = a.length + j := ⟨k - a.length, by omega⟩
        rw [nth_app2]
        exact k3 j (by rw [List.length_append] at hkl; omega) fun h => hkn ((mB j).2 h)
    have takeA : ∀ x s, s1 = x :: s → mayB (a ++ b) m x = true → ∃ t, (∀ i ∈ t, i < a.length + b.length) ∧ (m ++ t).filter (fun i => decide (i < a.length)) = o1 ∧ (m ++ t).filter (fun i => decide (a.length ≤ i)) = o2.map (a.length + ·) ∧ ∀ x i y, t = x ++ i :: y → mayB (a ++ b) (m ++ x) i = true := fun x s es hx => by
      have hxl : x < a.length := h1.lt x (by rw [e1, es]; simp)
      obtain ⟨t, t1, t2, t3, t4⟩ := ih s s2 (p1 ++ [x]) p2 (m ++ [x]) (by rw [es] at hn; simp at hn; omega) (by rw [e1, es]; simp) e2 (by rw [List.filter_append, f1]; simp [hxl]) (by rw [List.filter_append, f2]; simp; omega)
      refine ⟨x :: t, fun i hi => ?_, by simpa using t2, by simpa using t3, fun u i y e => ?_⟩
      · rcases List.mem_cons.1 hi with rfl | hi
        · omega
        · exact t1 i hi
      · cases u with
        | nil =>
          simp only [List.nil_append, List.cons.injEq] at e
          obtain ⟨rfl, _⟩ := e
          simpa using hx
        | cons z u =>
          simp only [List.cons_append, List.cons.injEq] at e
          obtain ⟨rfl, e⟩ := e
          have := t4 u i y e
          simpa using this
    have takeB : ∀ x s, s2 = x :: s → mayB (a ++ b) m (a.length + x) = true → ∃ t, (∀ i ∈ t, i < a.length + b.length) ∧ (m ++ t).filter (fun i => decide (i < a.length)) = o1 ∧ (m ++ t).filter (fun i => decide (a.length ≤ i)) = o2.map (a.length + ·) ∧ ∀ x i y, t = x ++ i :: y → mayB (a ++ b) (m ++ x) i = true := fun x s es hx => by
      have hxl : x < b.length := h2.lt x (by rw [e2, es]; simp)
      obtain ⟨t, t1, t2, t3, t4⟩ := ih s1 s p1 (p2 ++ [x]) (m ++ [a.length + x]) (by rw [es] at hn; simp at hn; omega) e1 (by rw [e2, es]; simp) (by rw [List.filter_append, f1]; simp) (by rw [List.filter_append, f2]; simp)
      refine ⟨(a.length + x) :: t, fun i hi => ?_, by simpa using t2, by simpa using t3, fun u i y e => ?_⟩
      · rcases List.mem_cons.1 hi with rfl | hi
        · omega
        · exact t1 i hi
      · cases u with
        | nil =>
          simp only [List.nil_append, List.cons.injEq] at e
          obtain ⟨rfl, _⟩ := e
          simpa using hx
        | cons z u =>
          simp only [List.cons_append, List.cons.injEq] at e
          obtain ⟨rfl, e⟩ := e
          have := t4 u i y e
          simpa using this
    cases s1 with
    | nil =>
      cases s2 with
      | nil => simp at hn
      | cons y s2 =>
        refine takeB y s2 rfl (cB y (h2.lt y (by rw [e2]; simp)) (h2.may p2 y s2 e2) fun k hk hkn => ?_)
        cases hb : before (nth a k) (nth b y) with
        | false => rfl
        | true =>
          have := whole_iff.1 h1.whole k hk (before_to hb).1
          rw [e1, List.append_nil] at this
          exact absurd this hkn
    | cons x s1 =>
      have hxl : x < a.length := h1.lt x (by rw [e1]; simp)
      have hxm := h1.may p1 x s1 e1
      by_cases hx : mayB (a ++ b) m x = true
      · exact takeA x s1 rfl hx
      · obtain ⟨k, hk, hkn, hkb⟩ : ∃ k, k < b.length ∧ k ∉ p2 ∧ before (nth b k) (nth a x) = true := by
          refine Classical.byContradiction fun hno => hx (cA x hxl hxm fun k hk hkn => ?_)
          cases hb : before (nth b k) (nth a x) with
          | false => rfl
          | true => exact absurd ⟨k, hk, hkn, hb⟩ hno
        have hkb := before_to hkb
        cases s2 with
        | nil =>
          have := whole_iff.1 h2.whole k hk hkb.1
          rw [e2, List.append_nil] at this
          exact absurd this hkn
        | cons y s2 =>
          have hym := h2.may p2 y s2 e2
          refine takeB y s2 rfl (cB y (h2.lt y (by rw [e2]; simp)) hym fun w hw hwn => ?_)
          cases hb : before (nth a w) (nth b y) with
          | false => rfl
          | true =>
            exfalso
            have hb := before_to hb
            have g1 := before_not ((may_iff.1 hym).2.2 k hk hkn) hkb.1
            have g2 := before_not ((may_iff.1 hxm).2.2 w hw hwn) hb.1
            omega
theorem linear_keys {a b : List Call} {K : Call → Bool} {r : Int} (hK : ∀ x y : Call, x.key = y.key → K x = K y) (ha : ∀ x ∈ a, K x = true) (hb : ∀ x ∈ b, K x = false) (hr : ((a ++ b).length : Int) ≤ r) :
    linear (a ++ b) r = (linear a r && linear b r) := by
  rw [List.length_append] at hr
  have hka : ∀ i, i < a.length → K (nth (a ++ b) i) = true := fun i hi => by rw [nth_app hi]; exact ha _ (nth_mem hi)
  have hkb : ∀ i, i < b.length → K (nth (a ++ b) (a.length + i)) = false := fun i hi => by rw [nth_app2]; exact hb _ (nth_mem hi)
  have kk : ∀ i, i < (a ++ b).length → K (nth (a ++ b) i) = decide (i < a.length) := fun i hi => by
    rw [List.length_append] at hi
    by_cases h : i < a.length
    · rw [hka i h]; simp [h]
    · obtain ⟨j, rfl⟩ : ∃ j, i = a.length + j := ⟨i - a.length, by omega⟩
      rw [hkb j (by omega)]; simp
  have kn : ∀ i, i < (a ++ b).length → (fun x => !K x) (nth (a ++ b) i) = decide (a.length ≤ i) := fun i hi => by
    show (!K (nth (a ++ b) i)) = _
    rw [kk i hi]
    by_cases h : i < a.length
    · simp [h]
    · simp [h]; omega
  refine bool_iff ⟨fun h => ?_, fun h => ?_⟩
  · obtain ⟨o, ho⟩ := linear_iff.1 h
    rw [Bool.and_eq_true]
    constructor
    · exact linear_iff.2 ⟨_, lin_part (K := K) (fun i => decide (i < a.length)) id id (fun k hk => ⟨by rw [List.length_append]; exact Nat.lt_of_lt_of_le hk (Nat.le_add_right _ _), by simpa using hk, rfl, (nth_app hk).symm⟩)
        (fun i hi hp => ⟨by simpa using hp, rfl⟩) kk (fun o hv => (vFrom_split hK (p := [])).1 hv |>.1) (by omega) (by rw [List.length_append]; omega) ho⟩
    · exact linear_iff.2 ⟨_, lin_part (K := fun x => !K x) (fun i => decide (a.length ≤ i)) (a.length + ·) (· - a.length) (fun k hk => ⟨by rw [List.length_append]; exact Nat.add_lt_add_left hk _, by simp, by simp, nth_app2.symm⟩)
        (fun i hi hp => by simp at hp; rw [List.length_append] at hi; exact ⟨by show i - a.length < b.length; omega, by show a.length + (i - a.length) = i; omega⟩) kn (fun o hv => (vFrom_split hK (p := [])).1 hv |>.2) (by omega) (by rw [List.length_append]; omega) ho⟩
  · rw [Bool.and_eq_true] at h
    obtain ⟨o1, h1⟩ := linear_iff.1 h.1
    obtain ⟨o2, h2⟩ := linear_iff.1 h.2
    obtain ⟨o, t1, t2, t3, t4⟩ := merge_orders h1 h2 _ o1 o2 [] [] [] rfl rfl rfl rfl rfl
    rw [List.nil_append] at t2 t3
    have hnd : o.Nodup := nodup_split fun x i y e => by have := (may_iff.1 (t4 x i y e)).1; simpa using this
    have hol := len_sub (m := List.range (a.length + b.length)) hnd (fun x hx => List.mem_range.2 (t1 x hx))
    rw [List.length_range] at hol
    have l1 := len_sub (m := List.range a.length) h1.nodup (fun x hx => List.mem_range.2 (h1.lt x hx))
    have l2 := len_sub (m := List.range b.length) h2.nodup (fun x hx => List.mem_range.2 (h2.lt x hx))
    rw [List.length_range] at l1 l2
    refine linear_iff.2 ⟨o, fun i hi => by rw [List.length_append]; exact t1 i hi, fun x i y e => by have := t4 x i y e; simpa using this, ?_, whole_iff.2 fun i hi ht => ?_⟩
    · refine (legal_big (by simp only [listed, List.length_map]; omega)).2 ((vFrom_split hK).2 ⟨?_, ?_⟩)
      · have e : (listed (a ++ b) o).filter K = listed a o1 := by
          have e0 : o.filter (K ∘ nth (a ++ b)) = o.filter (fun i => decide (i < a.length)) := List.filter_congr fun i hi => kk i (by rw [List.length_append]; exact t1 i hi)
          rw [listed, List.filter_map, e0, t2]
          exact List.map_congr_left fun i hi => nth_app (h1.lt i hi)
        rw [e]
        exact (legal_big (by simp only [listed, List.length_map]; omega)).1 h1.legal
      · have e : (listed (a ++ b) o).filter (fun x => !K x) = listed b o2 := by
          have e0 : o.filter ((fun x => !K x) ∘ nth (a ++ b)) = o.filter (fun i => decide (a.length ≤ i)) := List.filter_congr fun i hi => kn i (by rw [List.length_append]; exact t1 i hi)
          rw [listed, List.filter_map, e0, t3, List.map_map]
          exact List.map_congr_left fun i hi => nth_app2
        rw [e]
        exact (legal_big (by simp only [listed, List.length_map]; omega)).1 h2.legal
    · rw [List.length_append] at hi
      by_cases hia : i < a.length
      · rw [nth_app hia] at ht
        have := whole_iff.1 h1.whole i hia ht
        rw [← t2] at this
        exact (List.mem_filter.1 this).1
      · obtain ⟨j, rfl⟩ : ∃ j, i = a.length + j := ⟨i - a.length, by omega⟩
        rw [nth_app2] at ht
        have := whole_iff.1 h2.whole j (by omega) ht
        have hm : a.length + j ∈ o.filter (fun i => decide (a.length ≤ i)) := by rw [t3]; exact List.mem_map.2 ⟨j, this, rfl⟩
        exact (List.mem_filter.1 hm).1
end Go.Proofs.YtdlinfekifnmkaaAm
