/- The plain laws of layer 21, first part: what may stand one behind the other, and orders. Conditions: none. -/
import Derived.Test.YtdlinfekifnmkaaAmData
set_option linter.unusedVariables false
set_option linter.unusedSimpArgs false
namespace Go.Proofs.YtdlinfekifnmkaaAm
open Go.Proofs

theorem len_sub {α : Type} [DecidableEq α] : ∀ {l m : List α}, l.Nodup → (∀ x ∈ l, x ∈ m) → l.length ≤ m.length
  | [], m, _, _ => Nat.zero_le _
  | x :: l, m, hn, hs => by
    have hx := hs x (by simp)
    have h1 := List.nodup_cons.1 hn
    have := len_sub (l := l) (m := m.erase x) h1.2 (fun y hy => (List.mem_erase_of_ne (fun e : y = x => h1.1 (by rw [← e]; exact hy))).2 (hs y (by simp [hy])))
    rw [List.length_erase_of_mem hx] at this
    have := List.length_pos_of_mem hx
    simp only [List.length_cons]
    omega

def isHas (x : Call) : Bool := !x.put && x.has
def curStep (key : Int) (s : Option Int) (x : Call) : Option Int := if x.key = key then (if x.put = true then some x.val else if x.has = true then s else none) else s
/-- What a key has after calls. -/
def cur (c : List Call) (key : Int) : Option Int := c.foldl (curStep key) none
/-- Is the call k a Get that has, and no other one by its key between j and k? -/
def handP (c : List Call) (j k : Nat) : Bool :=
  match c[k]? with
  | some x => isHas x && decide (j < k) && !((c.take k).drop (j + 1)).any (fun y => decide (y.key = x.key))
  | none => false
def handN (c : List Call) (i j : Nat) : Nat := (List.range i).countP (handP c j)
def valOk (c : List Call) (k : Nat) : Bool :=
  match c[k]? with
  | some x => !isHas x || decide (cur (c.take k) x.key = some x.val)
  | none => true
def legal (c : List Call) (room : Int) : Bool := (List.range c.length).all (valOk c) && (List.range c.length).all (fun j => decide ((handN c c.length j : Int) ≤ room))

theorem legal_iff {c : List Call} {r : Int} : legal c r = true ↔ (∀ k, k < c.length → valOk c k = true) ∧ ∀ j, j < c.length → (handN c c.length j : Int) ≤ r := by
  simp [legal, List.all_eq_true]
theorem valOk_app {c d : List Call} {k : Nat} (h : k < c.length) : valOk (c ++ d) k = valOk c k := by
  unfold valOk
  rw [List.getElem?_append_left h, List.take_append_of_le_length (by omega)]
theorem handP_app {c d : List Call} {j k : Nat} (h : k < c.length) : handP (c ++ d) j k = handP c j k := by
  unfold handP
  rw [List.getElem?_append_left h, List.take_append_of_le_length (by omega)]
theorem handN_app {c d : List Call} {i j : Nat} (h : i ≤ c.length) : handN (c ++ d) i j = handN c i j := by
  unfold handN
  refine List.countP_congr fun k hk => ?_
  rw [List.mem_range] at hk
  rw [handP_app (by omega)]
theorem handN_mono {c : List Call} {i i' j : Nat} (h : i ≤ i') : handN c i j ≤ handN c i' j :=
  List.Sublist.countP_le (List.range_sublist.2 h)
theorem handN_le (c : List Call) (i j : Nat) : handN c i j ≤ i := by
  have := List.countP_le_length (p := handP c j) (l := List.range i)
  rwa [List.length_range] at this
theorem legal_pre {c d : List Call} {r : Int} (h : legal (c ++ d) r = true) : legal c r = true := by
  obtain ⟨h1, h2⟩ := legal_iff.1 h
  refine legal_iff.2 ⟨fun k hk => ?_, fun j hj => ?_⟩
  · rw [← valOk_app hk]; exact h1 k (by rw [List.length_append]; omega)
  · have := h2 j (by rw [List.length_append]; omega)
    have h3 := handN_mono (c := c ++ d) (j := j) (show c.length ≤ (c ++ d).length by rw [List.length_append]; omega)
    rw [handN_app (Nat.le_refl _)] at h3
    omega
theorem legal_mono {c : List Call} {r r' : Int} (hr : r ≤ r') (h : legal c r = true) : legal c r' = true := by
  obtain ⟨h1, h2⟩ := legal_iff.1 h
  exact legal_iff.2 ⟨h1, fun j hj => Int.le_trans (h2 j hj) hr⟩
theorem legal_nil (r : Int) : legal [] r = true := by simp [legal]

/-- A call without caller and times. -/
def nrm (x : Call) : Call := { x with who := 0, frm := 0, to := 0 }
theorem cur_nrm (c : List Call) (key : Int) : cur (c.map nrm) key = cur c key := by
  rw [cur, List.foldl_map]; rfl
theorem handP_nrm (c : List Call) (j k : Nat) : handP (c.map nrm) j k = handP c j k := by
  unfold handP
  rw [List.getElem?_map, ← List.map_take, ← List.map_drop]
  cases c[k]? with
  | none => rfl
  | some x =>
    simp only [Option.map_some, List.any_map]
    rfl
theorem valOk_nrm (c : List Call) (k : Nat) : valOk (c.map nrm) k = valOk c k := by
  unfold valOk
  rw [List.getElem?_map, ← List.map_take]
  cases h : c[k]? with
  | none => rfl
  | some x =>
    simp only [Option.map_some, cur_nrm]
    rfl
theorem legal_nrm (c : List Call) (r : Int) : legal (c.map nrm) r = legal c r := by
  have e1 : valOk (c.map nrm) = valOk c := funext (valOk_nrm c)
  have e2 : ∀ i j, handN (c.map nrm) i j = handN c i j := fun i j => by
    unfold handN
    rw [show handP (c.map nrm) j = handP c j from funext (handP_nrm c j)]
  unfold legal
  rw [e1, List.length_map]
  simp only [e2]
theorem legal_same {c d : List Call} {r : Int} (h : c.map nrm = d.map nrm) : legal c r = legal d r := by rw [← legal_nrm c, h, legal_nrm]

/-! ### Orders -/
def before (a b : Call) : Bool := decide (0 ≤ a.to) && decide (a.to < b.frm)
def zeroCall : Call := ⟨false, 0, 0, 0, false, 0, 0⟩
def nth (c : List Call) (i : Nat) : Call := c.getD i zeroCall
theorem nth_of {c : List Call} {i : Nat} {x : Call} (h : c[i]? = some x) : nth c i = x := by simp [nth, List.getD_eq_getElem?_getD, h]
theorem nth_get {c : List Call} {i : Nat} (h : i < c.length) : c[i]? = some (nth c i) := by simp [nth, List.getD_eq_getElem?_getD, List.getElem?_eq_getElem h]
theorem nth_mem {c : List Call} {i : Nat} (h : i < c.length) : nth c i ∈ c := List.mem_of_getElem? (nth_get h)
def freeB (c : List Call) (o : List Nat) (i : Nat) : Bool := (List.range c.length).all fun k => decide (k ∈ o) || !before (nth c k) (nth c i)
def mayB (c : List Call) (o : List Nat) (i : Nat) : Bool := !decide (i ∈ o) && !(decide ((nth c i).to < 0) && !(nth c i).put) && freeB c o i
def wholeB (c : List Call) (o : List Nat) : Bool := (List.range c.length).all fun i => decide ((nth c i).to < 0) || decide (i ∈ o)
def listed (c : List Call) (o : List Nat) : List Call := o.map (nth c)
def seek (c : List Call) (r : Int) : Nat → List Nat → Bool
  | 0, _ => false
  | n + 1, o => wholeB c o || (List.range c.length).any fun i => mayB c o i && (legal (listed c (o ++ [i])) r && seek c r n (o ++ [i]))
def linear (c : List Call) (r : Int) : Bool := seek c r (c.length + 1) []

theorem may_iff {c : List Call} {o : List Nat} {i : Nat} : mayB c o i = true ↔ i ∉ o ∧ (0 ≤ (nth c i).to ∨ (nth c i).put = true) ∧ ∀ k, k < c.length → k ∉ o → before (nth c k) (nth c i) = false := by
  unfold mayB freeB
  simp only [Bool.and_eq_true, Bool.not_eq_true', decide_eq_false_iff_not, Bool.and_eq_false_iff, List.all_eq_true, List.mem_range, Bool.or_eq_true, decide_eq_true_eq]
  constructor
  · rintro ⟨⟨h1, h2⟩, h3⟩
    refine ⟨h1, ?_, fun k hk hn => ?_⟩
    · rcases h2 with h2 | h2
      · exact .inl (by omega)
      · exact .inr (by simpa using h2)
    · rcases h3 k hk with h | h
      · exact absurd h hn
      · exact h
  · rintro ⟨h1, h2, h3⟩
    refine ⟨⟨h1, ?_⟩, fun k hk => ?_⟩
    · rcases h2 with h2 | h2
      · exact .inl (by omega)
      · exact .inr (by simpa using h2)
    · by_cases hn : k ∈ o
      · exact .inl hn
      · exact .inr (h3 k hk hn)
theorem whole_iff {c : List Call} {o : List Nat} : wholeB c o = true ↔ ∀ i, i < c.length → 0 ≤ (nth c i).to → i ∈ o := by
  unfold wholeB
  simp only [List.all_eq_true, List.mem_range, Bool.or_eq_true, decide_eq_true_eq]
  constructor
  · intro h i hi ht
    rcases h i hi with h' | h'
    · omega
    · exact h'
  · intro h i hi
    by_cases ht : (nth c i).to < 0
    · exact .inl ht
    · exact .inr (h i hi (by omega))
theorem before_to {a b : Call} (h : before a b = true) : 0 ≤ a.to ∧ a.to < b.frm := by simpa [before] using h
theorem before_not {a b : Call} (h : before a b = false) (ht : 0 ≤ a.to) : b.frm ≤ a.to := by
  simp only [before, Bool.and_eq_false_iff, decide_eq_false_iff_not] at h
  omega

/-- An order in which the calls may stand. -/
structure Lin (c : List Call) (r : Int) (o : List Nat) : Prop where
  lt : ∀ i ∈ o, i < c.length
  may : ∀ a i b, o = a ++ i :: b → mayB c a i = true
  legal : legal (listed c o) r = true
  whole : wholeB c o = true

theorem listed_app (c : List Call) (o p : List Nat) : listed c (o ++ p) = listed c o ++ listed c p := by simp [listed]
theorem seek_sound {c : List Call} {r : Int} : ∀ {n : Nat} {o : List Nat}, legal (listed c o) r = true → seek c r n o = true →
    ∃ p, (∀ i ∈ p, i < c.length) ∧ (∀ a i b, p = a ++ i :: b → mayB c (o ++ a) i = true) ∧ legal (listed c (o ++ p)) r = true ∧ wholeB c (o ++ p) = true
  | 0, o, _, h => by cases h
  | n + 1, o, hl, h => by
    rw [seek, Bool.or_eq_true] at h
    rcases h with h | h
    · exact ⟨[], by simp, fun a i b e => by simp at e, by simpa using hl, by simpa using h⟩
    · obtain ⟨i, hi, h⟩ := List.any_eq_true.1 h
      simp only [Bool.and_eq_true] at h
      obtain ⟨h1, h2, h3⟩ := h
      obtain ⟨p, p1, p2, p3, p4⟩ := seek_sound h2 h3
      refine ⟨i :: p, ?_, fun a j b e => ?_, by simpa using p3, by simpa using p4⟩
      · intro j hj
        rcases List.mem_cons.1 hj with rfl | hj
        · exact List.mem_range.1 hi
        · exact p1 j hj
      · cases a with
        | nil =>
          simp only [List.nil_append, List.cons.injEq] at e
          obtain ⟨rfl, rfl⟩ := e
          simpa using h1
        | cons x a =>
          simp only [List.cons_append, List.cons.injEq] at e
          obtain ⟨rfl, e⟩ := e
          have := p2 a j b e
          simpa using this
theorem seek_complete {c : List Call} {r : Int} : ∀ {n : Nat} {o p : List Nat}, p.length < n → (∀ i ∈ p, i < c.length) → (∀ a i b, p = a ++ i :: b → mayB c (o ++ a) i = true) →
    legal (listed c (o ++ p)) r = true → wholeB c (o ++ p) = true → seek c r n o = true
  | 0, o, p, hn, _, _, _, _ => absurd hn (Nat.not_lt_zero _)
  | n + 1, o, [], hn, h1, h2, h3, h4 => by
    rw [List.append_nil] at h4
    rw [seek, h4, Bool.true_or]
  | n + 1, o, i :: p, hn, h1, h2, h3, h4 => by
    rw [seek, Bool.or_eq_true]
    refine .inr (List.any_eq_true.2 ⟨i, List.mem_range.2 (h1 i (by simp)), ?_⟩)
    have hm : mayB c o i = true := by have := h2 [] i p rfl; rwa [List.append_nil] at this
    have he : o ++ i :: p = (o ++ [i]) ++ p := by simp
    rw [he] at h3 h4
    have hl : legal (listed c (o ++ [i])) r = true := by rw [listed_app] at h3; exact legal_pre h3
    have hs := seek_complete (n := n) (o := o ++ [i]) (p := p) (by simpa using hn) (fun j hj => h1 j (by simp [hj])) (fun a j b e => by
      have := h2 (i :: a) j b (by rw [e]; rfl)
      simpa using this) h3 h4
    rw [hm, hl, hs]; rfl
theorem nodup_split {α : Type} : ∀ {p : List α}, (∀ a i b, p = a ++ i :: b → i ∉ a) → p.Nodup := by
  intro p
  induction p with
  | nil => intro _; simp
  | cons x p ih =>
    intro h
    rw [List.nodup_cons]
    constructor
    · intro hx
      obtain ⟨s, t, rfl⟩ := List.append_of_mem hx
      exact h (x :: s) x t rfl (by simp)
    · exact ih fun a i b e hi => h (x :: a) i b (by rw [e]; rfl) (by simp [hi])
theorem Lin.nodup {c : List Call} {r : Int} {o : List Nat} (h : Lin c r o) : o.Nodup := nodup_split fun a i b e => (may_iff.1 (h.may a i b e)).1
theorem linear_iff {c : List Call} {r : Int} : linear c r = true ↔ ∃ o, Lin c r o := by
  constructor
  · intro h
    obtain ⟨p, h1, h2, h3, h4⟩ := seek_sound (by exact legal_nil r) h
    exact ⟨p, h1, h2, h3, h4⟩
  · rintro ⟨o, h⟩
    refine seek_complete (p := o) ?_ h.lt h.may h.legal h.whole
    have := len_sub (m := List.range c.length) h.nodup (fun x hx => List.mem_range.2 (h.lt x hx))
    rw [List.length_range] at this
    omega

/-- Orders of other calls: each is one of these, by its number. -/
theorem lin_map {c d : List Call} {r r' : Int} (π σ : Nat → Nat) (hr : r ≤ r') (hσ : ∀ i, i < c.length → σ i < d.length ∧ π (σ i) = i) (hπ : ∀ i, i < d.length → π i < c.length ∧ σ (π i) = i)
    (hs : ∀ i, i < d.length → nrm (nth c (π i)) = nrm (nth d i)) (ht : ∀ i, i < d.length → (0 ≤ (nth c (π i)).to ↔ 0 ≤ (nth d i).to))
    (hb : ∀ k i, k < d.length → i < d.length → before (nth c (π k)) (nth c (π i)) = true → before (nth d k) (nth d i) = true) {o : List Nat} (h : Lin d r o) : Lin c r' (o.map π) := by
  have hmem : ∀ (a : List Nat), (∀ i ∈ a, i < d.length) → ∀ i, i < d.length → π i ∈ a.map π → i ∈ a := fun a ha i hi hm => by
    obtain ⟨k, hk, he⟩ := List.mem_map.1 hm
    have := (hπ k (ha k hk)).2
    rw [he, (hπ i hi).2] at this
    rw [this]; exact hk
  refine ⟨fun i hi => ?_, fun a' i' b' e => ?_, ?_, ?_⟩
  · obtain ⟨k, hk, rfl⟩ := List.mem_map.1 hi
    exact (hπ k (h.lt k hk)).1
  · obtain ⟨a, t, rfl, rfl, ht'⟩ := List.map_eq_append_iff.1 e
    obtain ⟨i, b, rfl, rfl, rfl⟩ := List.map_eq_cons_iff.1 ht'
    have hi : i < d.length := h.lt i (by simp)
    have ha : ∀ j ∈ a, j < d.length := fun j hj => h.lt j (by simp [hj])
    obtain ⟨h1, h2, h3⟩ := may_iff.1 (h.may a i b rfl)
    have hput : (nth c (π i)).put = (nth d i).put := by have := hs i hi; simp only [nrm, Call.mk.injEq] at this; exact this.1
    refine may_iff.2 ⟨fun hm => h1 (hmem a ha i hi hm), ?_, fun k hk hn => ?_⟩
    · rw [ht i hi, hput]; exact h2
    · obtain ⟨k1, k2⟩ := hσ k hk
      cases hbk : before (nth c k) (nth c (π i)) with
      | false => rfl
      | true =>
        have h4 := h3 (σ k) k1 (fun hm => hn (by rw [← k2]; exact List.mem_map.2 ⟨_, hm, rfl⟩))
        rw [hb (σ k) i k1 hi (by rw [k2]; exact hbk)] at h4
        cases h4
  · rw [legal_same (d := listed d o)]
    · exact legal_mono hr h.legal
    · simp only [listed, List.map_map]
      exact List.map_congr_left fun i hi => hs i (h.lt i hi)
  · refine whole_iff.2 fun i hi hto => ?_
    obtain ⟨k1, k2⟩ := hσ i hi
    rw [← k2]
    exact List.mem_map.2 ⟨_, whole_iff.1 h.whole (σ i) k1 ((ht (σ i) k1).1 (by rw [k2]; exact hto)), rfl⟩

theorem bool_iff {a b : Bool} (h : a = true ↔ b = true) : a = b := by cases a <;> cases b <;> simp_all

/-! ### What is handed in in another order, or by others -/
theorem linear_map {c d : List Call} {r r' : Int} (π σ : Nat → Nat) (hr : r ≤ r') (hσ : ∀ i, i < c.length → σ i < d.length ∧ π (σ i) = i) (hπ : ∀ i, i < d.length → π i < c.length ∧ σ (π i) = i)
    (hs : ∀ i, i < d.length → nrm (nth c (π i)) = nrm (nth d i)) (ht : ∀ i, i < d.length → (0 ≤ (nth c (π i)).to ↔ 0 ≤ (nth d i).to))
    (hb : ∀ k i, k < d.length → i < d.length → before (nth c (π k)) (nth c (π i)) = true → before (nth d k) (nth d i) = true) (h : linear d r = true) : linear c r' = true := by
  obtain ⟨o, ho⟩ := linear_iff.1 h
  exact linear_iff.2 ⟨_, lin_map π σ hr hσ hπ hs ht hb ho⟩

/-! ### A Get that has not ended -/
theorem nth_app {c d : List Call} {i : Nat} (h : i < c.length) : nth (c ++ d) i = nth c i := by simp [nth, List.getD_eq_getElem?_getD, List.getElem?_append_left h]
theorem nth_app2 {c d : List Call} {i : Nat} : nth (c ++ d) (c.length + i) = nth d i := by simp [nth, List.getD_eq_getElem?_getD, List.getElem?_append_right]
theorem listed_app2 {c d : List Call} {o : List Nat} (h : ∀ i ∈ o, i < c.length) : listed (c ++ d) o = listed c o := List.map_congr_left fun i hi => nth_app (h i hi)
theorem linear_with {c : List Call} {g : Call} {r : Int} (hp : g.put = false) (ht : g.to < 0) : linear (c ++ [g]) r = linear c r := by
  have hl : (c ++ [g]).length = c.length + 1 := by simp
  have hg : nth (c ++ [g]) c.length = g := nth_of (by simp)
  have hbg : ∀ x, before g x = false := fun x => by
    have : ¬ 0 ≤ g.to := by omega
    simp [before, this]
  refine bool_iff ⟨fun h => ?_, fun h => ?_⟩
  · obtain ⟨o, ho⟩ := linear_iff.1 h
    have hlt : ∀ i ∈ o, i < c.length := fun i hi => by
      have h1 := ho.lt i hi
      obtain ⟨a, b, rfl⟩ := List.append_of_mem hi
      have h2 := (may_iff.1 (ho.may a i b rfl)).2.1
      by_cases he : i = c.length
      · subst he
        rw [hg, hp] at h2
        rcases h2 with h2 | h2
        · omega
        · cases h2
      · omega
    refine linear_iff.2 ⟨o, hlt, fun a i b e => ?_, by rw [← listed_app2 hlt]; exact ho.legal, whole_iff.2 fun i hi hto => whole_iff.1 ho.whole i (by omega) (by rw [nth_app hi]; exact hto)⟩
    have hi : i < c.length := hlt i (by rw [e]; simp)
    obtain ⟨h1, h2, h3⟩ := may_iff.1 (ho.may a i b e)
    rw [nth_app hi] at h2 h3
    exact may_iff.2 ⟨h1, h2, fun k hk hn => by have := h3 k (by omega) hn; rwa [nth_app hk] at this⟩
  · obtain ⟨o, ho⟩ := linear_iff.1 h
    refine linear_iff.2 ⟨o, fun i hi => by have := ho.lt i hi; omega, fun a i b e => ?_, by rw [listed_app2 ho.lt]; exact ho.legal, whole_iff.2 fun i hi hto => ?_⟩
    · have hi : i < c.length := ho.lt i (by rw [e]; simp)
      obtain ⟨h1, h2, h3⟩ := may_iff.1 (ho.may a i b e)
      refine may_iff.2 ⟨h1, by rw [nth_app hi]; exact h2, fun k hk hn => ?_⟩
      by_cases he : k = c.length
      · subst he; rw [hg]; exact hbg _
      · rw [nth_app hi, nth_app (show k < c.length by omega)]; exact h3 k (by omega) hn
    · by_cases he : i = c.length
      · subst he; rw [hg] at hto; omega
      · rw [nth_app (show i < c.length by omega)] at hto
        exact whole_iff.1 ho.whole i (by omega) hto

/-! ### One behind the other -/
theorem range_split {n : Nat} {a b : List Nat} {i : Nat} (h : List.range n = a ++ i :: b) : a = List.range i ∧ i < n := by
  have hlen : a.length < n := by have := congrArg List.length h; simp at this; omega
  have h1 : (List.range n)[a.length]? = some i := by rw [h]; simp
  rw [List.getElem?_range hlen] at h1
  injection h1 with h1
  subst h1
  refine ⟨?_, hlen⟩
  have h2 := congrArg (List.take a.length) h
  rw [List.take_left' rfl, List.take_range, Nat.min_eq_left (by omega)] at h2
  exact h2.symm
theorem listed_range (c : List Call) : listed c (List.range c.length) = c := by
  apply List.ext_getElem?
  intro i
  by_cases hi : i < c.length
  · simp [listed, List.getElem?_range hi, nth_get hi, hi]
    rw [nth_of (List.getElem?_eq_getElem hi)]
  · rw [List.getElem?_eq_none (by simp [listed]; omega), List.getElem?_eq_none (by omega)]
theorem linear_seq {c : List Call} {r : Int} (h : ∀ i, i < c.length → (nth c i).frm = 2 * (i : Int) ∧ (nth c i).to = 2 * (i : Int) + 1) : linear c r = legal c r := by
  have hb : ∀ k i, k < c.length → i < c.length → (before (nth c k) (nth c i) = true ↔ k < i) := fun k i hk hi => by
    have h1 := h k hk
    have h2 := h i hi
    simp only [before, Bool.and_eq_true, decide_eq_true_eq]
    omega
  refine bool_iff ⟨fun hl => ?_, fun hl => ?_⟩
  · obtain ⟨o, ho⟩ := linear_iff.1 hl
    have key : ∀ m, m ≤ o.length → o.take m = List.range m := by
      intro m
      induction m with
      | zero => intro _; rfl
      | succ m ih =>
        intro hm
        have ih := ih (by omega)
        obtain ⟨i, hi⟩ : ∃ i, o[m]? = some i := ⟨_, List.getElem?_eq_getElem (by omega)⟩
        have hd : o.drop m = i :: o.drop (m + 1) := by
          obtain ⟨h1, rfl⟩ := List.getElem?_eq_some_iff.1 hi
          exact List.drop_eq_getElem_cons h1
        have e : o = List.range m ++ i :: o.drop (m + 1) := by rw [← ih, ← hd, List.take_append_drop]
        have hil : i < c.length := ho.lt i (List.mem_of_getElem? hi)
        obtain ⟨h1, _, h3⟩ := may_iff.1 (ho.may _ i _ e)
        have h4 : m ≤ i := by rw [List.mem_range] at h1; omega
        have h5 : i ≤ m := Nat.le_of_not_lt fun hlt => by
          have := h3 m (by omega) (by simp)
          rw [(hb m i (by omega) hil).2 hlt] at this
          cases this
        have : i = m := by omega
        subst this
        rw [List.take_add_one, hi, ih, List.range_succ]; rfl
    have hol : o.length = c.length := by
      have h1 : ∀ i, i < c.length → i ∈ o := fun i hi => whole_iff.1 ho.whole i hi (by have := h i hi; omega)
      have h2 := key o.length (Nat.le_refl _)
      rw [List.take_length] at h2
      rcases Nat.lt_trichotomy o.length c.length with h3 | h3 | h3
      · have := h1 o.length h3
        rw [h2] at this
        simp at this
      · exact h3
      · have := ho.lt c.length (by rw [h2]; exact List.mem_range.2 h3)
        omega
    have h2 := key o.length (Nat.le_refl _)
    rw [List.take_length, hol] at h2
    have h3 := ho.legal
    rw [h2, listed_range] at h3
    exact h3
  · refine linear_iff.2 ⟨List.range c.length, fun i hi => List.mem_range.1 hi, fun a i b e => ?_, by rw [listed_range]; exact hl, whole_iff.2 fun i hi _ => List.mem_range.2 hi⟩
    obtain ⟨rfl, hi⟩ := range_split e
    refine may_iff.2 ⟨by simp, .inl (by have := h i hi; omega), fun k hk hn => ?_⟩
    cases hbk : before (nth c k) (nth c i) with
    | false => rfl
    | true => exact absurd (List.mem_range.2 ((hb k i hk hi).1 hbk)) hn

/-! ### What nobody put -/
theorem cur_put {c : List Call} {key v : Int} (h : cur c key = some v) : ∃ x ∈ c, x.put = true ∧ x.key = key ∧ x.val = v := by
  have gen : ∀ (c : List Call) (s : Option Int), c.foldl (curStep key) s = some v → s = some v ∨ ∃ x ∈ c, x.put = true ∧ x.key = key ∧ x.val = v := by
    intro c
    induction c with
    | nil => exact fun s h => .inl h
    | cons x c ih =>
      intro s h
      rcases ih _ h with h1 | ⟨y, hy, h2⟩
      · unfold curStep at h1
        by_cases hk : x.key = key
        · rw [if_pos hk] at h1
          by_cases hp : x.put = true
          · rw [if_pos hp] at h1
            injection h1 with h1
            exact .inr ⟨x, by simp, hp, hk, h1⟩
          · rw [if_neg hp] at h1
            by_cases hh : x.has = true
            · rw [if_pos hh] at h1; exact .inl h1
            · rw [if_neg hh] at h1; cases h1
        · rw [if_neg hk] at h1; exact .inl h1
      · exact .inr ⟨y, by simp [hy], h2⟩
  rcases gen c none h with h | h
  · cases h
  · exact h
/-- In an order, what a Get has was put ahead of it. -/
theorem lin_put {c : List Call} {r : Int} {o : List Nat} (h : Lin c r o) {i : Nat} (hi : i < c.length) (hh : isHas (nth c i) = true) (ht : 0 ≤ (nth c i).to) :
    ∃ a b k, o = a ++ i :: b ∧ k ∈ a ∧ (nth c k).put = true ∧ (nth c k).key = (nth c i).key ∧ (nth c k).val = (nth c i).val := by
  obtain ⟨a, b, rfl⟩ := List.append_of_mem (whole_iff.1 h.whole i hi ht)
  have h1 := (legal_iff.1 h.legal).1 a.length (by simp [listed])
  have e : listed c (a ++ i :: b) = listed c a ++ nth c i :: listed c b := by simp [listed]
  have hla : (listed c a).length = a.length := by simp [listed]
  unfold valOk at h1
  rw [e, List.getElem?_append_right (by omega), hla, Nat.sub_self, List.getElem?_cons_zero] at h1
  simp only [hh, Bool.not_true, Bool.false_or, decide_eq_true_eq] at h1
  rw [← hla, List.take_left'  rfl] at h1
  obtain ⟨x, hx, h2, h3, h4⟩ := cur_put h1
  obtain ⟨k, hk, rfl⟩ := List.mem_map.1 hx
  exact ⟨a, b, k, rfl, hk, h2, h3, h4⟩
theorem never_put {c : List Call} {g : Call} {r : Int} (hh : isHas g = true) (ht : 0 ≤ g.to) (hn : ∀ x ∈ c, ¬ (x.put = true ∧ x.key = g.key ∧ x.val = g.val)) : linear (c ++ [g]) r = false := by
  cases h : linear (c ++ [g]) r with
  | false => rfl
  | true =>
    exfalso
    obtain ⟨o, ho⟩ := linear_iff.1 h
    have hg : nth (c ++ [g]) c.length = g := nth_of (by simp)
    obtain ⟨a, b, k, rfl, hk, h1, h2, h3⟩ := lin_put ho (i := c.length) (by simp) (by rw [hg]; exact hh) (by rw [hg]; exact ht)
    rw [hg] at h2 h3
    have hkl := ho.lt k (by simp [hk])
    by_cases he : k = c.length
    · subst he
      exact (may_iff.1 (ho.may a _ b rfl)).1 hk
    · rw [List.length_append, List.length_singleton] at hkl
      rw [nth_app (by omega)] at h1 h2 h3
      exact hn _ (nth_mem (by omega)) ⟨h1, h2, h3⟩
theorem later_put {c : List Call} {g p : Call} {r : Int} (hh : isHas g = true) (ht : 0 ≤ g.to) (hb : before g p = true) (hn : ∀ x ∈ c, ¬ (x.put = true ∧ x.key = g.key ∧ x.val = g.val)) : linear (c ++ [g] ++ [p]) r = false := by
  cases h : linear (c ++ [g] ++ [p]) r with
  | false => rfl
  | true =>
    exfalso
    obtain ⟨o, ho⟩ := linear_iff.1 h
    have hg : nth (c ++ [g] ++ [p]) c.length = g := nth_of (by simp)
    have hp : nth (c ++ [g] ++ [p]) (c.length + 1) = p := nth_of (by simp)
    obtain ⟨a, b, k, rfl, hk, h1, h2, h3⟩ := lin_put ho (i := c.length) (by simp) (by rw [hg]; exact hh) (by rw [hg]; exact ht)
    rw [hg] at h2 h3
    have hkl := ho.lt k (by simp [hk])
    have hna := (may_iff.1 (ho.may a _ b rfl)).1
    by_cases he : k = c.length
    · subst he; exact hna hk
    · by_cases he2 : k = c.length + 1
      · subst he2
        obtain ⟨a1, a2, rfl⟩ := List.append_of_mem hk
        have := (may_iff.1 (ho.may a1 (c.length + 1) (a2 ++ c.length :: b) (by simp))).2.2 c.length (by simp) (fun hm => hna (by simp [hm]))
        rw [hg, hp, hb] at this
        cases this
      · simp only [List.length_append, List.length_singleton] at hkl
        rw [List.append_assoc, nth_app (by omega)] at h1 h2 h3
        exact hn _ (nth_mem (by omega)) ⟨h1, h2, h3⟩
end Go.Proofs.YtdlinfekifnmkaaAm
