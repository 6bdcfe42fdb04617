/- A map's entries as a function; contracts with nothing in memory hold with anything. Conditions: none. -/
import Derived.Test.YtdlinfekifnmkaaAmNil
set_option linter.unusedVariables false
set_option linter.unusedSimpArgs false
namespace Go.Proofs.YtdlinfekifnmkaaAm
open Go.Proofs
structure MapOf {K V : Type} (kv : K → Value) (vv : V → AV) (kvs : List (Value × AV)) (f : K → Option V) : Prop where
  nodup : (kvs.map (·.1)).Nodup
  all : ∀ p ∈ kvs, ∃ k v, p = (kv k, vv v) ∧ f k = some v
  has : ∀ k v, f k = some v → (kv k, vv v) ∈ kvs
section
variable {K V : Type} {kv : K → Value} {vv : V → AV} {kvs kvs' : List (Value × AV)} {f : K → Option V}
theorem mo_nil : MapOf kv vv [] (fun _ => none) := ⟨List.nodup_nil, fun p h => by simp at h, fun k v h => by cases h⟩
theorem mo_ext {g : K → Option V} (h : MapOf kv vv kvs f) (e : ∀ k, f k = g k) : MapOf kv vv kvs g := (funext e : f = g) ▸ h
theorem mo_lk (inj : ∀ a b, kv a = kv b → a = b) (h : MapOf kv vv kvs f) {k : K} {z r : AV} (hl : lkR kvs (kv k) z r) : (∃ v, f k = some v ∧ r = vv v) ∨ (f k = none ∧ r = z) := by
  rcases hl with ⟨j, hj⟩ | ⟨hn, rfl⟩
  · obtain ⟨k2, v, h1, h2⟩ := h.all _ (List.mem_of_getElem? hj)
    simp only [Prod.mk.injEq] at h1
    rw [inj _ _ h1.1]
    exact .inl ⟨v, h2, h1.2⟩
  · refine .inr ⟨?_, rfl⟩
    cases hf : f k with
    | none => rfl
    | some v => exact absurd rfl (hn _ (h.has k v hf))
theorem mo_lk2 (inj : ∀ a b, kv a = kv b → a = b) (h : MapOf kv vv kvs f) {k : K} {z r : AV} (hl : (∃ (j : Nat) (y : AV), kvs[j]? = some (kv k, y) ∧ r = .tup [y, .lit (.bool true)]) ∨ ((∀ p ∈ kvs, p.1 ≠ kv k) ∧ r = .tup [z, .lit (.bool false)])) :
    (∃ v, f k = some v ∧ r = .tup [vv v, .lit (.bool true)]) ∨ (f k = none ∧ r = .tup [z, .lit (.bool false)]) := by
  rcases hl with ⟨j, y, hj, rfl⟩ | ⟨hn, rfl⟩
  · rcases mo_lk inj h (z := y) (.inl ⟨j, hj⟩) with ⟨v, h1, rfl⟩ | ⟨h1, _⟩
    · exact .inl ⟨v, h1, rfl⟩
    · obtain ⟨k2, v, h2, h3⟩ := h.all _ (List.mem_of_getElem? hj)
      simp only [Prod.mk.injEq] at h2
      rw [inj _ _ h2.1, h3] at h1
      cases h1
  · rcases mo_lk inj h (z := z) (.inr ⟨hn, rfl⟩) with ⟨v, h1, _⟩ | ⟨h1, _⟩
    · exact absurd rfl (hn _ (h.has k v h1))
    · exact .inr ⟨h1, rfl⟩
theorem key_once (h : (kvs.map (·.1)).Nodup) {i j : Nat} {p q : Value × AV} (hi : kvs[i]? = some p) (hj : kvs[j]? = some q) (he : p.1 = q.1) : i = j := by
  have a1 := List.getElem?_eq_some_iff.1 hi
  have a2 := List.getElem?_eq_some_iff.1 hj
  have h3 : (kvs.map (·.1))[i]'(by simpa using a1.1) = (kvs.map (·.1))[j]'(by simpa using a2.1) := by simp [a1.2, a2.2, he]
  exact (List.getElem_inj h).1 h3
theorem mo_up [DecidableEq K] (inj : ∀ a b, kv a = kv b → a = b) (h : MapOf kv vv kvs f) {k : K} {v : V} (hu : upR kvs (kv k) (vv v) kvs') : MapOf kv vv kvs' (fun x => if x = k then some v else f x) := by
  rcases hu with ⟨j, y, hj, rfl⟩ | ⟨hn, rfl⟩
  · have hjl := (List.getElem?_eq_some_iff.1 hj).1
    have hkeys : (kvs.set j (kv k, vv v)).map (·.1) = kvs.map (·.1) := by
      rw [List.map_set]
      apply List.ext_getElem?
      intro i
      by_cases hi : j = i
      · subst hi
        have h1 := List.getElem?_eq_some_iff.1 hj
        simp [h1.1, h1.2]
      · simp [hi]
    refine ⟨by rw [hkeys]; exact h.nodup, fun p hp => ?_, fun x u hx => ?_⟩
    · obtain ⟨i, hi⟩ := List.mem_iff_getElem?.1 hp
      by_cases hij : j = i
      · subst hij
        rw [List.getElem?_set_self hjl] at hi
        injection hi with hi
        exact ⟨k, v, hi.symm, if_pos rfl⟩
      · rw [List.getElem?_set_ne hij] at hi
        obtain ⟨x, u, h1, h2⟩ := h.all p (List.mem_of_getElem? hi)
        refine ⟨x, u, h1, ?_⟩
        rw [if_neg, h2]
        rintro rfl
        exact hij (key_once h.nodup hj hi (by rw [h1]))
    · by_cases hxk : x = k
      · subst hxk
        rw [if_pos rfl] at hx
        injection hx with hx
        subst hx
        exact List.mem_of_getElem? (List.getElem?_set_self hjl)
      · rw [if_neg hxk] at hx
        obtain ⟨i, hi⟩ := List.mem_iff_getElem?.1 (h.has x u hx)
        refine List.mem_of_getElem? (i := i) ?_
        rw [List.getElem?_set_ne, hi]
        rintro rfl
        rw [hj] at hi
        injection hi with hi
        simp only [Prod.mk.injEq] at hi
        exact hxk (inj _ _ hi.1.symm)
  · refine ⟨?_, fun p hp => ?_, fun x u hx => ?_⟩
    · rw [List.map_append, List.nodup_append]
      refine ⟨h.nodup, by simp, fun a ha b hb e => ?_⟩
      obtain ⟨p, hp, rfl⟩ := List.mem_map.1 ha
      simp at hb
      exact hn p hp (e.trans hb)
    · rcases List.mem_append.1 hp with hp2 | hp2
      · obtain ⟨x, u, h1, h2⟩ := h.all p hp2
        refine ⟨x, u, h1, ?_⟩
        rw [if_neg, h2]
        intro e
        exact hn p hp2 (by rw [h1, e])
      · simp at hp2
        exact ⟨k, v, hp2, if_pos rfl⟩
    · by_cases hxk : x = k
      · subst hxk
        rw [if_pos rfl] at hx
        injection hx with hx
        subst hx
        simp
      · rw [if_neg hxk] at hx
        exact List.mem_append_left _ (h.has x u hx)
theorem mo_del [DecidableEq K] (inj : ∀ a b, kv a = kv b → a = b) (h : MapOf kv vv kvs f) {k : K} (hd : dlR kvs (kv k) kvs') : MapOf kv vv kvs' (fun x => if x = k then none else f x) := by
  rcases hd with ⟨j, y, hj, rfl⟩ | ⟨hn, rfl⟩
  · refine ⟨List.Nodup.sublist ((List.eraseIdx_sublist _ _).map _) h.nodup, fun p hp => ?_, fun x u hx => ?_⟩
    · obtain ⟨i, hij, hi⟩ := List.mem_eraseIdx_iff_getElem?.1 hp
      obtain ⟨x, u, h1, h2⟩ := h.all p (List.mem_of_getElem? hi)
      refine ⟨x, u, h1, ?_⟩
      rw [if_neg, h2]
      rintro rfl
      exact hij (key_once h.nodup hi hj (by rw [h1]))
    · by_cases hxk : x = k
      · rw [if_pos hxk] at hx; cases hx
      · rw [if_neg hxk] at hx
        obtain ⟨i, hi⟩ := List.mem_iff_getElem?.1 (h.has x u hx)
        refine List.mem_eraseIdx_iff_getElem?.2 ⟨i, ?_, hi⟩
        rintro rfl
        rw [hj] at hi
        injection hi with hi
        simp only [Prod.mk.injEq] at hi
        exact hxk (inj _ _ hi.1.symm)
  · refine ⟨h.nodup, fun p hp => ?_, fun x u hx => ?_⟩
    · obtain ⟨x, u, h1, h2⟩ := h.all p hp
      refine ⟨x, u, h1, ?_⟩
      rw [if_neg, h2]
      rintro rfl
      exact hn p hp (by rw [h1])
    · by_cases hxk : x = k
      · rw [if_pos hxk] at hx; cases hx
      · rw [if_neg hxk] at hx
        exact h.has x u hx
end
def ikv (n : Int) : Value := .int .i64 n
theorem ikv_inj : ∀ a b : Int, ikv a = ikv b → a = b := by intro a b h; simp [ikv] at h; exact h
def bvv (_ : Unit) : AV := .lit (.bool true)
def ivv (n : Int) : AV := .lit (.int .i64 n)
theorem mo_int {V : Type} {vv : V → AV} {kvs : List (Value × AV)} {f : Int → Option V} (h : MapOf ikv vv kvs f) : ∀ p ∈ kvs, ∃ n, p.1 = .int .i64 n := fun p hp => by
  obtain ⟨k, v, h1, _⟩ := h.all p hp
  exact ⟨k, by rw [h1]; rfl⟩
/-- Whether something is there. -/
theorem mo_in {kvs : List (Value × AV)} {f : Int → Option Unit} (h : MapOf ikv bvv kvs f) {k : Int} {r : AV} (hl : lkR kvs (.int .i64 k) (ofV (.bool false)) r) : r = .lit (.bool (f k).isSome) := by
  rcases mo_lk ikv_inj h (k := k) hl with ⟨v, h1, h2⟩ | ⟨h1, h2⟩
  · rw [h2, h1]; rfl
  · rw [h2, h1]; rfl
end Go.Proofs.YtdlinfekifnmkaaAm
