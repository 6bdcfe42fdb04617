/- The plain laws of layer 21, third part: calls of events. Conditions: none. -/
import Derived.Test.YtdlinfekifnmkaaAmHistKeys
set_option linter.unusedVariables false
set_option linter.unusedSimpArgs false
namespace Go.Proofs.YtdlinfekifnmkaaAm
open Go.Proofs

def isUnder (who : Int) (c : Call) : Bool := decide (c.who = who) && decide (c.to < 0)
/-- The call of a caller that is under way. -/
def underS (out : List Call) (who : Int) : Option Nat := out.findIdx? (isUnder who)
def badEv (x : Event) : Bool := decide (x.kind < 1) || decide (4 < x.kind) || decide (x.who < 0) || decide (7 < x.who)
def isCall (x : Event) : Bool := decide (x.kind = 1) || decide (x.kind = 3)
def newCall (i : Nat) (x : Event) : Call := ⟨decide (x.kind = 3), x.who, x.key, if x.kind = 3 then x.val else 0, false, i, -1⟩
def tellCall (c : Call) (i : Nat) (x : Event) : Call := if x.kind = 2 ∧ x.has = true then { c with to := i, has := true, val := x.val } else { c with to := i }
def callStep (out : List Call) (i : Nat) (x : Event) : List Call × Int :=
  if badEv x = true then ([], 1)
  else if isCall x = true then
    match underS out x.who with
    | some _ => ([], 4)
    | none => (out ++ [newCall i x], 0)
  else
    match underS out x.who with
    | none => ([], 10)
    | some a => if (nth out a).put = decide (x.kind = 4) then (out.set a (tellCall (nth out a) i x), 0) else ([], 10)
def callsGo : List Call → Nat → List Event → List Call × Int
  | out, _, [] => (out, 0)
  | out, i, x :: l => if (callStep out i x).2 = 0 then callsGo (callStep out i x).1 (i + 1) l else callStep out i x
def callsS (l : List Event) : List Call × Int := if 400 < l.length then ([], 8) else callsGo [] 0 l

theorem step_cases {out : List Call} {i : Nat} {x : Event} (h : (callStep out i x).2 = 0) : badEv x = false ∧
    ((isCall x = true ∧ underS out x.who = none ∧ callStep out i x = (out ++ [newCall i x], 0)) ∨
     (isCall x = false ∧ ∃ a, underS out x.who = some a ∧ (nth out a).put = decide (x.kind = 4) ∧ callStep out i x = (out.set a (tellCall (nth out a) i x), 0))) := by
  unfold callStep at h ⊢
  by_cases h1 : badEv x = true
  · rw [if_pos h1] at h; cases h
  · rw [if_neg h1] at h ⊢
    refine ⟨by simpa using h1, ?_⟩
    by_cases h2 : isCall x = true
    · rw [if_pos h2] at h ⊢
      cases hu : underS out x.who with
      | some a => rw [hu] at h; cases h
      | none => exact .inl ⟨h2, rfl, rfl⟩
    · rw [if_neg h2] at h ⊢
      cases hu : underS out x.who with
      | none => rw [hu] at h; cases h
      | some a =>
        rw [hu] at h
        simp only at h ⊢
        by_cases h3 : (nth out a).put = decide (x.kind = 4)
        · rw [if_pos h3]
          exact .inr ⟨by simpa using h2, a, rfl, h3, rfl⟩
        · rw [if_neg h3] at h; cases h
theorem under_some {out : List Call} {who : Int} {a : Nat} (h : underS out who = some a) : a < out.length ∧ (nth out a).who = who ∧ (nth out a).to < 0 := by
  obtain ⟨h1, h2, _⟩ := List.findIdx?_eq_some_iff_getElem.1 h
  rw [nth_of (List.getElem?_eq_getElem h1)]
  simpa [isUnder, h1] using h2
theorem tell_same (c : Call) (i : Nat) (x : Event) : (tellCall c i x).frm = c.frm ∧ (tellCall c i x).who = c.who ∧ (tellCall c i x).key = c.key ∧ (tellCall c i x).put = c.put ∧ (tellCall c i x).to = i := by
  unfold tellCall; split <;> simp

/-- What goes on from calls. -/
structure Ext (a b : List Call) : Prop where
  len : a.length ≤ b.length
  same : ∀ n, n < a.length → (nth b n).frm = (nth a n).frm ∧ (nth b n).who = (nth a n).who ∧ (nth b n).key = (nth a n).key ∧ (nth b n).put = (nth a n).put ∧ (0 ≤ (nth a n).to → nth b n = nth a n)
theorem Ext.refl (a : List Call) : Ext a a := ⟨Nat.le_refl _, fun n hn => ⟨rfl, rfl, rfl, rfl, fun _ => rfl⟩⟩
theorem Ext.trans {a b c : List Call} (h : Ext a b) (h2 : Ext b c) : Ext a c := by
  refine ⟨Nat.le_trans h.len h2.len, fun n hn => ?_⟩
  obtain ⟨a1, a2, a3, a4, a5⟩ := h.same n hn
  obtain ⟨b1, b2, b3, b4, b5⟩ := h2.same n (Nat.lt_of_lt_of_le hn h.len)
  exact ⟨b1.trans a1, b2.trans a2, b3.trans a3, b4.trans a4, fun ht => (b5 (by rw [a5 ht]; exact ht)).trans (a5 ht)⟩
theorem nth_set_self {c : List Call} {a : Nat} {x : Call} (h : a < c.length) : nth (c.set a x) a = x := nth_of (by simp [h])
theorem nth_set_ne {c : List Call} {a n : Nat} {x : Call} (h : a ≠ n) : nth (c.set a x) n = nth c n := by simp [nth, List.getD_eq_getElem?_getD, h]
theorem step_ext {out : List Call} {i : Nat} {x : Event} (h : (callStep out i x).2 = 0) : Ext out (callStep out i x).1 := by
  obtain ⟨_, ⟨_, _, e⟩ | ⟨_, a, ha, _, e⟩⟩ := step_cases h
  · rw [e]
    refine ⟨by simp, fun n hn => ?_⟩
    show (nth (out ++ [newCall i x]) n).frm = _ ∧ _
    rw [nth_app hn]
    exact ⟨rfl, rfl, rfl, rfl, fun _ => rfl⟩
  · rw [e]
    obtain ⟨a1, a2, a3⟩ := under_some ha
    refine ⟨by simp, fun n hn => ?_⟩
    show (nth (out.set a _) n).frm = _ ∧ _
    by_cases hna : a = n
    · subst hna
      rw [nth_set_self a1]
      obtain ⟨t1, t2, t3, t4, t5⟩ := tell_same (nth out a) i x
      exact ⟨t1, t2, t3, t4, fun ht => by omega⟩
    · rw [nth_set_ne hna]
      exact ⟨rfl, rfl, rfl, rfl, fun _ => rfl⟩
theorem go_err {out : List Call} {i : Nat} {x : Event} {l : List Event} (h : (callsGo out i (x :: l)).2 = 0) : (callStep out i x).2 = 0 ∧ callsGo out i (x :: l) = callsGo (callStep out i x).1 (i + 1) l := by
  rw [callsGo] at h ⊢
  by_cases h1 : (callStep out i x).2 = 0
  · rw [if_pos h1]; exact ⟨h1, rfl⟩
  · rw [if_neg h1] at h; exact absurd h h1
theorem go_ext : ∀ {l : List Event} {out : List Call} {i : Nat}, (callsGo out i l).2 = 0 → Ext out (callsGo out i l).1
  | [], out, i, _ => .refl _
  | x :: l, out, i, h => by
    obtain ⟨h1, h2⟩ := go_err h
    rw [h2] at h ⊢
    exact (step_ext h1).trans (go_ext h)
theorem go_app : ∀ {l m : List Event} {out : List Call} {i : Nat}, (callsGo out i l).2 = 0 → callsGo out i (l ++ m) = callsGo (callsGo out i l).1 (i + l.length) m
  | [], m, out, i, _ => rfl
  | x :: l, m, out, i, h => by
    obtain ⟨h1, h2⟩ := go_err h
    rw [h2] at h
    rw [List.cons_append, callsGo, if_pos h1, go_app h, h2, List.length_cons]
    congr 1
    omega
theorem go_pre : ∀ {l m : List Event} {out : List Call} {i : Nat}, (callsGo out i (l ++ m)).2 = 0 → (callsGo out i l).2 = 0
  | [], m, out, i, _ => rfl
  | x :: l, m, out, i, h => by
    rw [List.cons_append] at h
    obtain ⟨h1, h2⟩ := go_err h
    rw [h2] at h
    rw [callsGo, if_pos h1]
    exact go_pre h
/-- The calls of the first events. -/
def stAt (l : List Event) (m : Nat) : List Call := (callsGo [] 0 (l.take m)).1
theorem st_next {l : List Event} {m : Nat} {x : Event} (h : (callsGo [] 0 l).2 = 0) (hx : l[m]? = some x) : (callStep (stAt l m) m x).2 = 0 ∧ stAt l (m + 1) = (callStep (stAt l m) m x).1 := by
  have hm : m < l.length := (List.getElem?_eq_some_iff.1 hx).1
  have e : l.take (m + 1) = l.take m ++ [x] := by rw [List.take_add_one, hx]; rfl
  have h0 : (callsGo [] 0 (l.take m)).2 = 0 := go_pre (m := l.drop m) (by rw [List.take_append_drop]; exact h)
  have h1 : (callsGo [] 0 (l.take (m + 1))).2 = 0 := go_pre (m := l.drop (m + 1)) (by rw [List.take_append_drop]; exact h)
  have h2 : callsGo [] 0 (l.take (m + 1)) = callsGo (stAt l m) m [x] := by
    rw [e, go_app h0, List.length_take]
    congr 1
    omega
  rw [h2] at h1
  obtain ⟨h3, h4⟩ := go_err h1
  refine ⟨h3, ?_⟩
  rw [stAt, h2, h4]; rfl
theorem st_ext {l : List Event} {m k : Nat} (h : (callsGo [] 0 l).2 = 0) (hmk : m ≤ k) : Ext (stAt l m) (stAt l k) := by
  have h0 : (callsGo [] 0 (l.take k)).2 = 0 := go_pre (m := l.drop k) (by rw [List.take_append_drop]; exact h)
  have e : l.take k = l.take m ++ (l.take k).drop m := by
    have := (List.take_append_drop m (l.take k)).symm
    rwa [List.take_take, Nat.min_eq_left hmk] at this
  rw [e] at h0
  have h1 := go_pre h0
  have h2 := go_app (m := (l.take k).drop m) h1
  rw [h2] at h0
  have := go_ext h0
  rw [← h2, ← e] at this
  exact this
/-- What holds of the calls of the first events. -/
theorem st_inv {l : List Event} (h : (callsGo [] 0 l).2 = 0) : ∀ m, m ≤ l.length → ∀ n, n < (stAt l m).length →
    (nth (stAt l m) n).to < m ∧ (0 ≤ (nth (stAt l m) n).to → (nth (stAt l m) n).frm < (nth (stAt l m) n).to ∧ ∃ x, l[(nth (stAt l m) n).to.toNat]? = some x ∧ x.who = (nth (stAt l m) n).who) ∧
    0 ≤ (nth (stAt l m) n).frm ∧ (nth (stAt l m) n).frm < m ∧ -1 ≤ (nth (stAt l m) n).to
  | 0, _, n, hn => by simp [stAt, callsGo] at hn
  | m + 1, hm, n, hn => by
    obtain ⟨x, hx⟩ : ∃ x, l[m]? = some x := ⟨_, List.getElem?_eq_getElem (by omega)⟩
    obtain ⟨h1, h2⟩ := st_next h hx
    rw [h2] at hn ⊢
    have ih := st_inv h m (by omega)
    obtain ⟨_, ⟨_, _, e⟩ | ⟨_, a, ha, _, e⟩⟩ := step_cases h1
    · rw [e] at hn ⊢
      simp only [List.length_append, List.length_singleton] at hn
      simp only
      by_cases hnl : n < (stAt l m).length
      · rw [nth_app hnl]
        obtain ⟨i1, i2, i3, i4, i5⟩ := ih n hnl
        exact ⟨by omega, i2, i3, by omega, i5⟩
      · obtain rfl : n = (stAt l m).length := by omega
        have : nth (stAt l m ++ [newCall m x]) (stAt l m).length = newCall m x := nth_of (by simp)
        rw [this]
        exact ⟨by show (-1 : Int) < _; omega, fun h => by simp [newCall] at h, by show (0 : Int) ≤ m; omega, by show (m : Int) < _; omega, by show (-1 : Int) ≤ -1; omega⟩
    · rw [e] at hn ⊢
      simp only [List.length_set] at hn
      simp only
      obtain ⟨a1, a2, a3⟩ := under_some ha
      by_cases hna : a = n
      · subst hna
        rw [nth_set_self a1]
        obtain ⟨t1, t2, t3, t4, t5⟩ := tell_same (nth (stAt l m) a) m x
        obtain ⟨i1, i2, i3, i4, i5⟩ := ih a a1
        rw [t1, t2, t5]
        exact ⟨by omega, fun _ => ⟨by omega, x, by rw [Int.toNat_natCast]; exact hx, a2.symm⟩, by omega, by omega, by omega⟩
      · rw [nth_set_ne hna]
        obtain ⟨i1, i2, i3, i4, i5⟩ := ih n hn
        exact ⟨by omega, i2, i3, by omega, i5⟩
/-- At an event that calls. -/
theorem st_call {l : List Event} {m : Nat} {x : Event} (h : (callsGo [] 0 l).2 = 0) (hx : l[m]? = some x) (hc : isCall x = true) :
    (stAt l (m + 1)).length = (stAt l m).length + 1 ∧ (stAt l m).length < (stAt l l.length).length ∧ (nth (stAt l l.length) (stAt l m).length).frm = m ∧ (nth (stAt l l.length) (stAt l m).length).who = x.who ∧ (nth (stAt l l.length) (stAt l m).length).key = x.key ∧ (nth (stAt l l.length) (stAt l m).length).put = decide (x.kind = 3) := by
  have hm : m < l.length := (List.getElem?_eq_some_iff.1 hx).1
  obtain ⟨h1, h2⟩ := st_next h hx
  obtain ⟨_, ⟨_, _, e⟩ | ⟨h3, _⟩⟩ := step_cases h1
  · rw [e] at h2
    simp only at h2
    have hl : (stAt l (m + 1)).length = (stAt l m).length + 1 := by rw [h2]; simp
    have hx2 := st_ext h (show m + 1 ≤ l.length by omega)
    obtain ⟨s1, s2, s3, s4, _⟩ := hx2.same (stAt l m).length (by omega)
    have hn : nth (stAt l (m + 1)) (stAt l m).length = newCall m x := by rw [h2]; exact nth_of (by simp)
    rw [hn] at s1 s2 s3 s4
    exact ⟨hl, by have := hx2.len; omega, s1, s2, s3, s4⟩
  · rw [hc] at h3; cases h3
theorem st_told {l : List Event} {m : Nat} {x : Event} (h : (callsGo [] 0 l).2 = 0) (hx : l[m]? = some x) (hc : isCall x = false) : (stAt l (m + 1)).length = (stAt l m).length := by
  obtain ⟨h1, h2⟩ := st_next h hx
  obtain ⟨_, ⟨h3, _⟩ | ⟨_, a, _, _, e⟩⟩ := step_cases h1
  · rw [hc] at h3; cases h3
  · rw [h2, e]; simp
theorem st_all (l : List Event) : stAt l l.length = (callsGo [] 0 l).1 := by rw [stAt, List.take_length]
/-- A caller's call that is under way. -/
def Under (cs : List Call) (w : Int) (a : Nat) : Prop := a < cs.length ∧ (nth cs a).who = w ∧ (nth cs a).to < 0
def Uniq (cs : List Call) : Prop := ∀ a b w, Under cs w a → Under cs w b → a = b
theorem under_none {cs : List Call} {w : Int} (h : ∀ a, ¬ Under cs w a) : underS cs w = none := by
  unfold underS
  rw [List.findIdx?_eq_none_iff]
  intro x hx
  obtain ⟨i, hi⟩ := List.mem_iff_getElem?.1 hx
  have hil := (List.getElem?_eq_some_iff.1 hi).1
  have := h i
  simp only [Under, nth_of hi, hil, true_and] at this
  simp [isUnder]
  intro he
  have : ¬ x.to < 0 := fun ht => this ⟨he, ht⟩
  omega
theorem under_one {cs : List Call} {w : Int} {a : Nat} (hu : Uniq cs) (h : Under cs w a) : underS cs w = some a := by
  cases hf : underS cs w with
  | none =>
    unfold underS at hf
    rw [List.findIdx?_eq_none_iff] at hf
    have := hf _ (nth_mem h.1)
    simp [isUnder, h.2.1, h.2.2] at this
  | some b =>
    have := under_some hf
    rw [hu b a w ⟨this.1, this.2.1, this.2.2⟩ h]

theorem under_isSome {cs : List Call} {w : Int} (hu : Uniq cs) : (underS cs w).isSome = true ↔ ∃ a, Under cs w a := by
  constructor
  · intro h
    obtain ⟨a, ha⟩ := Option.isSome_iff_exists.1 h
    have := under_some ha
    exact ⟨a, this.1, this.2.1, this.2.2⟩
  · rintro ⟨a, ha⟩
    rw [under_one hu ha]; rfl
theorem under_snoc {cs : List Call} {c : Call} {v : Int} {a : Nat} (hc : c.to < 0) : Under (cs ++ [c]) v a ↔ Under cs v a ∨ (a = cs.length ∧ v = c.who) := by
  unfold Under
  rw [List.length_append, List.length_singleton]
  by_cases hal : a < cs.length
  · rw [nth_app hal]
    constructor
    · rintro ⟨_, h2, h3⟩; exact .inl ⟨hal, h2, h3⟩
    · rintro (⟨_, h2, h3⟩ | ⟨h, _⟩)
      · exact ⟨by omega, h2, h3⟩
      · omega
  · constructor
    · rintro ⟨h1, h2, h3⟩
      obtain rfl : a = cs.length := by omega
      rw [nth_of (show (cs ++ [c])[cs.length]? = some c by simp)] at h2
      exact .inr ⟨rfl, h2.symm⟩
    · rintro (⟨h, _⟩ | ⟨rfl, rfl⟩)
      · exact absurd h hal
      · rw [nth_of (show (cs ++ [c])[cs.length]? = some c by simp)]
        exact ⟨by omega, rfl, hc⟩
theorem under_set {cs : List Call} {y : Call} {i : Nat} (hi : i < cs.length) (hy : 0 ≤ y.to) {v : Int} {a : Nat} : Under (cs.set i y) v a ↔ Under cs v a ∧ a ≠ i := by
  by_cases e : i = a
  · subst e
    simp only [Under, nth_set_self hi]
    constructor
    · rintro ⟨_, _, h⟩; omega
    · rintro ⟨_, h⟩; exact absurd rfl h
  · simp only [Under, nth_set_ne e, List.length_set]
    exact ⟨fun h => ⟨h, fun e' => e e'.symm⟩, fun h => h.1⟩
theorem uniq_snoc {cs : List Call} {c : Call} (h : Uniq cs) (hc : c.to < 0) (hn : ∀ a, ¬ Under cs c.who a) : Uniq (cs ++ [c]) := by
  intro a b v ha hb
  rcases (under_snoc hc).1 ha with ha | ⟨ha, hv⟩ <;> rcases (under_snoc hc).1 hb with hb | ⟨hb, hv2⟩
  · exact h a b v ha hb
  · subst hv2; exact absurd ha (hn a)
  · subst hv; exact absurd hb (hn b)
  · omega
theorem uniq_set {cs : List Call} {y : Call} {i : Nat} (h : Uniq cs) (hi : i < cs.length) (hy : 0 ≤ y.to) : Uniq (cs.set i y) := fun a b v ha hb =>
  h a b v ((under_set hi hy).1 ha).1 ((under_set hi hy).1 hb).1
end Go.Proofs.YtdlinfekifnmkaaAm
