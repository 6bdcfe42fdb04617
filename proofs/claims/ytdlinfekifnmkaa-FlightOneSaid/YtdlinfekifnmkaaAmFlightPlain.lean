/- The plain laws of layer 15, first part: what stays right. Conditions: none. -/
import Derived.Test.YtdlinfekifnmkaaAmData
set_option linter.unusedVariables false
set_option linter.unusedSimpArgs false
namespace Go.Proofs.YtdlinfekifnmkaaAm
open Go.Proofs

def whoOf (x : Fill) : List Int := x.by_ :: x.waiting
def allOf (f : List Fill) : List Int := f.flatMap whoOf
def textsOf (f : List Fill) : List (ByteArray × ByteArray) := f.map fun x => (x.left, x.right)
def fRight (f : List Fill) : Bool := decide (textsOf f).Nodup && decide (allOf f).Nodup
def isTexts (l r : ByteArray) (x : Fill) : Bool := decide (x.left = l) && decide (x.right = r)
def isBy (who : Int) (x : Fill) : Bool := decide (x.by_ = who)
def isWaiting (who : Int) (x : Fill) : Bool := decide (who ∈ x.waiting)
def zeroFill : Fill := ⟨⟨#[]⟩, ⟨#[]⟩, 0, []⟩
def fth (f : List Fill) (i : Nat) : Fill := f.getD i zeroFill
def moreW (x : Fill) (who : Int) : Fill := { x with waiting := x.waiting ++ [who] }
def lessW (x : Fill) (who : Int) : Fill := { x with waiting := x.waiting.filter fun w => !decide (w = who) }
def beginS (f : List Fill) (l r : ByteArray) (who : Int) : Bool × List Fill × Int :=
  if fRight f = false then (false, [], 1)
  else if who ∈ allOf f then (false, [], 4)
  else match f.findIdx? (isTexts l r) with
    | none => (true, f ++ [⟨l, r, who, []⟩], 0)
    | some i => (false, f.set i (moreW (fth f i) who), 0)
def doneS (f : List Fill) (who : Int) : List Int × List Fill × Int :=
  if fRight f = false then ([], [], 1)
  else match f.findIdx? (isBy who) with
    | none => ([], [], 10)
    | some i => ((fth f i).waiting, f.eraseIdx i, 0)
def leaveS (f : List Fill) (who : Int) : List Fill × Int :=
  if fRight f = false then ([], 1)
  else match f.findIdx? (isWaiting who) with
    | none => ([], 10)
    | some i => (f.set i (lessW (fth f i) who), 0)

theorem right_f {f : List Fill} : fRight f = true ↔ (textsOf f).Nodup ∧ (allOf f).Nodup := by simp [fRight]
theorem fth_of {f : List Fill} {i : Nat} {x : Fill} (h : f[i]? = some x) : fth f i = x := by simp [fth, List.getD_eq_getElem?_getD, h]
theorem fth_get {f : List Fill} {i : Nat} (h : i < f.length) : f[i]? = some (fth f i) := by simp [fth, List.getD_eq_getElem?_getD, List.getElem?_eq_getElem h]
theorem mem_all {f : List Fill} {w : Int} : w ∈ allOf f ↔ ∃ x ∈ f, w = x.by_ ∨ w ∈ x.waiting := by simp [allOf, whoOf]
theorem find_split {α : Type} {p : α → Bool} {f : List α} {i : Nat} (h : f.findIdx? p = some i) : ∃ A x B, f = A ++ x :: B ∧ A.length = i ∧ f[i]? = some x ∧ p x = true ∧ ∀ y ∈ A, p y = false := by
  obtain ⟨h1, h2, h3⟩ := List.findIdx?_eq_some_iff_getElem.1 h
  refine ⟨f.take i, f[i], f.drop (i + 1), ?_, by rw [List.length_take]; omega, List.getElem?_eq_getElem h1, h2, fun y hy => ?_⟩
  · rw [← List.drop_eq_getElem_cons h1, List.take_append_drop]
  · obtain ⟨j, hj⟩ := List.mem_iff_getElem?.1 hy
    have hjl := (List.getElem?_eq_some_iff.1 hj).1
    rw [List.length_take] at hjl
    rw [List.getElem?_take_of_lt (by omega), List.getElem?_eq_getElem (by omega)] at hj
    injection hj with hj
    subst hj
    simpa using h3 j (by omega)
theorem find_none {α : Type} {p : α → Bool} {f : List α} (h : f.findIdx? p = none) : ∀ x ∈ f, p x = false := by
  rw [List.findIdx?_eq_none_iff] at h
  exact h
theorem set_split {α : Type} {A B : List α} {x y : α} : (A ++ x :: B).set A.length y = A ++ y :: B := by simp
theorem erase_split {α : Type} {A B : List α} {x : α} : (A ++ x :: B).eraseIdx A.length = A ++ B := by
  rw [List.eraseIdx_append_of_length_le (Nat.le_refl _)]; simp
theorem all_app (A B : List Fill) : allOf (A ++ B) = allOf A ++ allOf B := by simp [allOf]
theorem all_cons (x : Fill) (B : List Fill) : allOf (x :: B) = whoOf x ++ allOf B := by simp [allOf]
theorem texts_mid {A B : List Fill} {x y : Fill} (h : (y.left, y.right) = (x.left, x.right)) : textsOf (A ++ y :: B) = textsOf (A ++ x :: B) := by simp [textsOf, h]

/-- What Begin does. -/
theorem begin_cases {f : List Fill} {l r : ByteArray} {who : Int} (h : fRight f = true) (hw : who ∉ allOf f) :
    (beginS f l r who = (true, f ++ [⟨l, r, who, []⟩], 0) ∧ ∀ x ∈ f, ¬ (x.left = l ∧ x.right = r)) ∨
    ∃ A x B, f = A ++ x :: B ∧ x.left = l ∧ x.right = r ∧ beginS f l r who = (false, A ++ moreW x who :: B, 0) := by
  unfold beginS
  rw [if_neg (by rw [h]; simp), if_neg hw]
  cases hf : f.findIdx? (isTexts l r) with
  | none =>
    refine .inl ⟨rfl, fun x hx he => ?_⟩
    have := find_none hf x hx
    simp [isTexts, he.1, he.2] at this
  | some i =>
    obtain ⟨A, x, B, e, e2, e3, e4, _⟩ := find_split hf
    simp only [isTexts, Bool.and_eq_true, decide_eq_true_eq] at e4
    refine .inr ⟨A, x, B, e, e4.1, e4.2, ?_⟩
    simp only [fth_of e3]
    rw [e, ← e2, set_split]
theorem begin_twice {f : List Fill} {l r : ByteArray} {who : Int} (h : fRight f = true) (hw : who ∈ allOf f) : beginS f l r who = (false, [], 4) := by
  unfold beginS
  rw [if_neg (by rw [h]; simp), if_pos hw]
theorem done_cases {f : List Fill} {who : Int} (h : fRight f = true) :
    (doneS f who = ([], [], 10) ∧ ∀ x ∈ f, ¬ x.by_ = who) ∨ ∃ A x B, f = A ++ x :: B ∧ x.by_ = who ∧ doneS f who = (x.waiting, A ++ B, 0) := by
  unfold doneS
  rw [if_neg (by rw [h]; simp)]
  cases hf : f.findIdx? (isBy who) with
  | none =>
    refine .inl ⟨rfl, fun x hx he => ?_⟩
    have := find_none hf x hx
    simp [isBy, he] at this
  | some i =>
    obtain ⟨A, x, B, e, e2, e3, e4, _⟩ := find_split hf
    refine .inr ⟨A, x, B, e, by simpa [isBy] using e4, ?_⟩
    simp only [fth_of e3]
    rw [e, ← e2, erase_split]
theorem leave_cases {f : List Fill} {who : Int} (h : fRight f = true) :
    (leaveS f who = ([], 10) ∧ ∀ x ∈ f, who ∉ x.waiting) ∨ ∃ A x B, f = A ++ x :: B ∧ who ∈ x.waiting ∧ leaveS f who = (A ++ lessW x who :: B, 0) := by
  unfold leaveS
  rw [if_neg (by rw [h]; simp)]
  cases hf : f.findIdx? (isWaiting who) with
  | none =>
    refine .inl ⟨rfl, fun x hx he => ?_⟩
    have := find_none hf x hx
    simp [isWaiting, he] at this
  | some i =>
    obtain ⟨A, x, B, e, e2, e3, e4, _⟩ := find_split hf
    refine .inr ⟨A, x, B, e, by simpa [isWaiting] using e4, ?_⟩
    simp only [fth_of e3]
    rw [e, ← e2, set_split]

theorem right_new {f : List Fill} {l r : ByteArray} {who : Int} (h : fRight f = true) (hw : who ∉ allOf f) (hn : ∀ x ∈ f, ¬ (x.left = l ∧ x.right = r)) : fRight (f ++ [⟨l, r, who, []⟩]) = true := by
  obtain ⟨h1, h2⟩ := right_f.1 h
  refine right_f.2 ⟨?_, ?_⟩
  · rw [textsOf, List.map_append, List.nodup_append]
    refine ⟨h1, by simp, fun a ha b hb e => ?_⟩
    obtain ⟨x, hx, rfl⟩ := List.mem_map.1 ha
    simp at hb
    rw [hb] at e
    simp only [Prod.mk.injEq] at e
    exact hn x hx e
  · rw [all_app, List.nodup_append]
    refine ⟨h2, by simp [allOf, whoOf], fun a ha b hb e => ?_⟩
    simp [allOf, whoOf] at hb
    subst hb
    subst e
    exact hw ha
theorem all_more (A B : List Fill) (x : Fill) (who : Int) : (allOf (A ++ moreW x who :: B)).Perm (who :: allOf (A ++ x :: B)) := by
  have e1 : allOf (A ++ moreW x who :: B) = allOf A ++ (whoOf x ++ (who :: allOf B)) := by
    rw [all_app, all_cons]; simp [whoOf, moreW]
  have e2 : allOf (A ++ x :: B) = allOf A ++ (whoOf x ++ allOf B) := by rw [all_app, all_cons]
  rw [e1, e2, ← List.append_assoc, ← List.append_assoc]
  exact List.perm_middle
theorem right_more {A B : List Fill} {x : Fill} {who : Int} (h : fRight (A ++ x :: B) = true) (hw : who ∉ allOf (A ++ x :: B)) : fRight (A ++ moreW x who :: B) = true := by
  obtain ⟨h1, h2⟩ := right_f.1 h
  refine right_f.2 ⟨by have e := texts_mid (A := A) (B := B) (x := x) (y := moreW x who) rfl; rw [e]; exact h1, (all_more A B x who).nodup_iff.2 (List.nodup_cons.2 ⟨hw, h2⟩)⟩
theorem right_less {A B : List Fill} {x : Fill} (who : Int) (h : fRight (A ++ x :: B) = true) : fRight (A ++ lessW x who :: B) = true := by
  obtain ⟨h1, h2⟩ := right_f.1 h
  refine right_f.2 ⟨by have e := texts_mid (A := A) (B := B) (x := x) (y := lessW x who) rfl; rw [e]; exact h1, List.Nodup.sublist ?_ h2⟩
  rw [all_app, all_cons, all_app, all_cons]
  refine List.Sublist.append (List.Sublist.refl _) (List.Sublist.append ?_ (List.Sublist.refl _))
  exact List.Sublist.cons_cons _ List.filter_sublist
theorem right_gone {A B : List Fill} {x : Fill} (h : fRight (A ++ x :: B) = true) : fRight (A ++ B) = true := by
  obtain ⟨h1, h2⟩ := right_f.1 h
  refine right_f.2 ⟨List.Nodup.sublist ?_ h1, List.Nodup.sublist ?_ h2⟩
  · exact (List.Sublist.append (List.Sublist.refl A) (List.Sublist.cons x (List.Sublist.refl B))).map _
  · rw [all_app, all_app, all_cons]
    exact List.Sublist.append (List.Sublist.refl _) (List.sublist_append_right _ _)
theorem begin_right {f : List Fill} {l r : ByteArray} {who : Int} (h : fRight f = true) (he : (beginS f l r who).2.2 = 0) : fRight (beginS f l r who).2.1 = true := by
  by_cases hw : who ∈ allOf f
  · rw [begin_twice h hw] at he; cases he
  · rcases begin_cases (l := l) (r := r) h hw with ⟨e, hn⟩ | ⟨A, x, B, rfl, _, _, e⟩
    · rw [e]; exact right_new h hw hn
    · rw [e]; exact right_more h hw
theorem done_right {f : List Fill} {who : Int} (h : fRight f = true) (he : (doneS f who).2.2 = 0) : fRight (doneS f who).2.1 = true := by
  rcases done_cases (who := who) h with ⟨e, _⟩ | ⟨A, x, B, rfl, _, e⟩
  · rw [e] at he; cases he
  · rw [e]; exact right_gone h
theorem leave_right {f : List Fill} {who : Int} (h : fRight f = true) (he : (leaveS f who).2 = 0) : fRight (leaveS f who).1 = true := by
  rcases leave_cases (who := who) h with ⟨e, _⟩ | ⟨A, x, B, rfl, _, e⟩
  · rw [e] at he; cases he
  · rw [e]; exact right_less who h
/-- One alone is of a number. -/
theorem who_one {A B : List Fill} {x y : Fill} {w : Int} (h : (allOf (A ++ x :: B)).Nodup) (hx : w ∈ whoOf x) (hy : y ∈ A ++ x :: B) (hw : w ∈ whoOf y) : y = x := by
  rw [all_app, all_cons, List.nodup_append] at h
  obtain ⟨h1, h2, h3⟩ := h
  rw [List.nodup_append] at h2
  rcases List.mem_append.1 hy with hy | hy
  · exact absurd rfl (h3 w (mem_all.2 ⟨y, hy, by simpa [whoOf] using hw⟩) w (by simp [hx]))
  · rcases List.mem_cons.1 hy with rfl | hy
    · rfl
    · exact absurd rfl (h2.2.2 w hx w (mem_all.2 ⟨y, hy, by simpa [whoOf] using hw⟩))
theorem text_one {A B : List Fill} {x y : Fill} (h : (textsOf (A ++ x :: B)).Nodup) (hy : y ∈ A ++ x :: B) (hl : y.left = x.left) (hr : y.right = x.right) : y = x := by
  rw [textsOf, List.map_append, List.map_cons, List.nodup_append] at h
  obtain ⟨h1, h2, h3⟩ := h
  rw [List.nodup_cons] at h2
  have e : (y.left, y.right) = (x.left, x.right) := by rw [hl, hr]
  rcases List.mem_append.1 hy with hy | hy
  · exact absurd e (h3 _ (List.mem_map.2 ⟨y, hy, rfl⟩) _ (by simp))
  · rcases List.mem_cons.1 hy with rfl | hy
    · rfl
    · exact absurd (by rw [← e]; exact List.mem_map.2 ⟨y, hy, rfl⟩) h2.1
end Go.Proofs.YtdlinfekifnmkaaAm
