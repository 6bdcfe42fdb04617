/- The order of the keys of a cache, as a history. Conditions: none. -/
import Derived.Test.YtdlinfekifnmkaaAmLruLaws
set_option linter.unusedVariables false
set_option linter.unusedSimpArgs false
namespace Go.Proofs.YtdlinfekifnmkaaAm
open Go.Proofs
def front (k : Key) (D : List Key) : List Key := k :: D.filter fun x => !decide (x = k)
theorem front_nodup {k : Key} {D : List Key} (h : D.Nodup) : (front k D).Nodup := by
  rw [front, List.nodup_cons]
  exact ⟨by simp, h.sublist List.filter_sublist⟩
theorem filter_len {k : Key} : ∀ {A : List Key}, A.Nodup → A.length ≤ (A.filter fun x => !decide (x = k)).length + 1
  | [], _ => by simp
  | x :: A, h => by
    obtain ⟨h1, h2⟩ := List.nodup_cons.1 h
    by_cases e : x = k
    · subst e
      have : A.filter (fun y => !decide (y = x)) = A := by
        rw [List.filter_eq_self]
        intro y hy
        have : ¬ y = x := fun e => h1 (e ▸ hy)
        simpa using this
      simp [this]
    · have := filter_len (k := k) h2
      simp [e]; omega
theorem take_front {k : Key} {D : List Key} {n : Nat} (h : D.Nodup) : (front k (D.take n)).take n = (front k D).take n := by
  cases n with
  | zero => simp
  | succ n =>
    simp only [front, List.take_succ_cons]
    congr 1
    have hd : D = D.take (n + 1) ++ D.drop (n + 1) := (List.take_append_drop _ _).symm
    by_cases hl : n + 1 ≤ D.length
    · have h2 := filter_len (k := k) (h.sublist (List.take_sublist (n + 1) D))
      rw [List.length_take, Nat.min_eq_left hl] at h2
      conv => rhs; rw [hd, List.filter_append]
      rw [List.take_append_of_le_length (by omega)]
    · rw [List.take_of_length_le (show D.length ≤ n + 1 by omega)]
theorem keys_without (l : List Slot) (k : Key) : keysOf (without l k) = (keysOf l).filter fun x => !decide (x = k) := by
  unfold keysOf without keep
  rw [List.filter_map]
  rfl
theorem keys_put {l : List Slot} {n : Int} (s : Slot) (h : rightB l = true) (hn : 0 ≤ n) : keysOf (putS l n s).1 = (front s.key (keysOf l)).take n.toNat := by
  rw [putS, if_neg (by rw [h]; simp)]
  simp only
  have e : keysOf (s :: without l s.key) = front s.key (keysOf l) := by
    show s.key :: keysOf (without l s.key) = _
    rw [keys_without]; rfl
  have : keysOf ((s :: without l s.key).take (clampN n (s :: without l s.key).length)) = (keysOf (s :: without l s.key)).take (clampN n (s :: without l s.key).length) := by
    simp [keysOf, List.map_take]
  rw [this, e]
  have hlen : (s :: without l s.key).length = (front s.key (keysOf l)).length := by rw [← e]; simp [keysOf]
  rw [hlen]
  unfold clampN
  by_cases hc : n ≤ ((front s.key (keysOf l)).length : Int)
  · congr 1; omega
  · rw [List.take_of_length_le (show (front s.key (keysOf l)).length ≤ n.toNat by omega), List.take_of_length_le (by omega)]

theorem keys_get {l : List Slot} {k : Key} (h : rightB l = true) (hg : (getS l k).2.2 = 0) : keysOf (getS l k).2.1 = front k (keysOf l) ∧ (getS l k).2.1.length = l.length ∧ (getS l k).1.key = k := by
  have hlen := (get_perm h hg).1
  cases hf : l.find? (fun s => decide (s.key = k)) with
  | none =>
    rw [getS, if_neg (by rw [h]; simp), hf] at hg
    simp at hg
  | some s =>
    have hk : s.key = k := by simpa using List.find?_some hf
    have e : getS l k = (s, s :: without l k, 0) := by rw [getS, if_neg (by rw [h]; simp), hf]
    rw [e] at hlen ⊢
    refine ⟨?_, hlen, hk⟩
    show s.key :: keysOf (without l k) = _
    rw [keys_without, hk]; rfl
theorem get_right {l : List Slot} {k : Key} (h : rightB l = true) : rightB (getS l k).2.1 = true := by
  cases hf : l.find? (fun s => decide (s.key = k)) with
  | none =>
    rw [getS, if_neg (by rw [h]; simp), hf]; rfl
  | some s =>
    have hk : s.key = k := by simpa using List.find?_some hf
    rw [getS, if_neg (by rw [h]; simp), hf, ← hk]
    exact right_iff.2 (cons_nodup s (right_iff.1 h))
theorem getS_cases {l : List Slot} {k : Key} (h : rightB l = true) : (getS l k = (zeroSlot, [], 10) ∧ ∀ s ∈ l, ¬ s.key = k) ∨ ∃ s ∈ l, s.key = k ∧ getS l k = (s, s :: without l k, 0) := by
  unfold getS
  rw [if_neg (by rw [h]; simp)]
  cases hf : l.find? (fun s => decide (s.key = k)) with
  | none => exact .inl ⟨rfl, by simpa using hf⟩
  | some s => exact .inr ⟨s, List.mem_of_find?_eq_some hf, by simpa using List.find?_some hf, rfl⟩
/-- First ones of a list. -/
def ded (acc : List Key) : List Key → List Key
  | [] => acc
  | x :: xs => ded (if x ∈ acc then acc else acc ++ [x]) xs
theorem ded_grow : ∀ (xs acc : List Key), ∃ t, ded acc xs = acc ++ t
  | [], acc => ⟨[], by simp [ded]⟩
  | x :: xs, acc => by
    obtain ⟨t, ht⟩ := ded_grow xs (if x ∈ acc then acc else acc ++ [x])
    rw [ded, ht]
    split
    · exact ⟨t, rfl⟩
    · exact ⟨x :: t, by simp⟩
theorem ded_app : ∀ (xs ys acc : List Key), ded acc (xs ++ ys) = ded (ded acc xs) ys
  | [], ys, acc => rfl
  | x :: xs, ys, acc => by rw [List.cons_append, ded, ded, ded_app]
theorem ded_take {xs : List Key} {j : Nat} {x : Key} (h : xs[j]? = some x) : ded [] (xs.take (j + 1)) = if x ∈ ded [] (xs.take j) then ded [] (xs.take j) else ded [] (xs.take j) ++ [x] := by
  rw [List.take_add_one, h, ded_app]; rfl
def hist (ks : List Key) : List Key := ks.foldl (fun D k => front k D) []
theorem hist_nodup (ks : List Key) : (hist ks).Nodup := by
  unfold hist
  have : ∀ (ks : List Key) (D : List Key), D.Nodup → (ks.foldl (fun D k => front k D) D).Nodup := by
    intro ks
    induction ks with
    | nil => exact fun D h => h
    | cons k ks ih => exact fun D h => ih _ (front_nodup h)
  exact this ks [] List.nodup_nil
theorem hist_snoc (ks : List Key) (k : Key) : hist (ks ++ [k]) = front k (hist ks) := by simp [hist, List.foldl_append]
theorem ded_filter : ∀ (xs acc : List Key), ded acc xs = acc ++ (ded [] xs).filter fun x => !decide (x ∈ acc)
  | [], acc => by simp [ded]
  | x :: xs, acc => by
    have h1 := ded_filter xs (if x ∈ acc then acc else acc ++ [x])
    have h2 := ded_filter xs [x]
    rw [ded, h1, ded]
    simp only [List.not_mem_nil, if_false, List.nil_append]
    rw [h2]
    by_cases hx : x ∈ acc
    · simp only [hx, if_true, List.singleton_append, List.filter_cons, decide_true, Bool.not_true, Bool.false_eq_true, if_false, List.filter_filter]
      congr 1
      refine List.filter_congr fun y _ => ?_
      by_cases hy : y = x
      · subst hy; simp [hx]
      · simp [hy]
    · simp only [hx, if_false, List.singleton_append, List.filter_cons, decide_false, Bool.not_false, if_true, List.filter_filter, List.append_assoc]
      congr 2
      refine List.filter_congr fun y _ => ?_
      by_cases hy : y = x
      · subst hy; simp [hx]
      · simp [hy]
theorem hist_ded (ks : List Key) : hist ks = ded [] ks.reverse := by
  have : ∀ xs : List Key, hist xs.reverse = ded [] xs := by
    intro xs
    induction xs with
    | nil => rfl
    | cons x xs ih =>
      rw [List.reverse_cons, hist_snoc, ih, ded]
      simp only [List.not_mem_nil, if_false, List.nil_append]
      rw [ded_filter xs [x], front]
      simp
  have h := this ks.reverse
  rwa [List.reverse_reverse] at h
/-- As soon as there are enough of them, or none is left. -/
theorem ded_done {K acc : List Key} {j w : Nat} (ha : acc = ded [] (K.reverse.take j)) (hl : acc.length ≤ w) (h : j = K.length ∨ acc.length = w) : (hist K).take w = acc := by
  rw [hist_ded]
  rcases h with h | h
  · subst h
    rw [show K.length = K.reverse.length by simp, List.take_length] at ha
    rw [← ha, List.take_of_length_le hl]
  · obtain ⟨t, ht⟩ := ded_grow (K.reverse.drop j) acc
    have e : ded [] K.reverse = acc ++ t := by
      rw [← ht, ha, ← ded_app, List.take_append_drop]
    rw [e, ← h, List.take_left' rfl]
end Go.Proofs.YtdlinfekifnmkaaAm
