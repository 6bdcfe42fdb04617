/- The plain laws of layer 13. Conditions: none. -/
import Derived.Test.YtdlinfekifnmkaaAmLruC
set_option linter.unusedVariables false
set_option linter.unusedSimpArgs false
namespace Go.Proofs.YtdlinfekifnmkaaAm
open Go.Proofs

theorem right_iff {l : List Slot} : rightB l = true ↔ (keysOf l).Nodup := by simp [rightB]
theorem keys_sub {l m : List Slot} (h : l.Sublist m) : (keysOf l).Sublist (keysOf m) := h.map _
theorem without_sub (l : List Slot) (k : Key) : (without l k).Sublist l := List.filter_sublist
theorem without_not (l : List Slot) (k : Key) : k ∉ keysOf (without l k) := by
  intro h
  obtain ⟨s, hs, rfl⟩ := List.mem_map.1 h
  have := (List.mem_filter.1 hs).2
  simp at this
theorem without_self {l : List Slot} {k : Key} (h : k ∉ keysOf l) : without l k = l := by
  rw [without, keep, List.filter_eq_self]
  intro s hs
  have : ¬ s.key = k := fun e => h (List.mem_map.2 ⟨s, hs, e⟩)
  simp [this]
theorem without_cons_self (s : Slot) (l : List Slot) : without (s :: l) s.key = without l s.key := by
  rw [without, keep, List.filter_cons]
  simp [without, keep]
theorem cons_nodup {l : List Slot} (s : Slot) (h : (keysOf l).Nodup) : (keysOf (s :: without l s.key)).Nodup := by
  show (s.key :: keysOf (without l s.key)).Nodup
  rw [List.nodup_cons]
  exact ⟨without_not l s.key, (keys_sub (without_sub l s.key)).nodup h⟩
theorem putS_right {l : List Slot} (n : Int) (s : Slot) (h : rightB l = true) : rightB (putS l n s).1 = true := by
  rw [putS, if_neg (by rw [h]; simp)]
  exact right_iff.2 ((keys_sub (List.take_sublist _ _)).nodup (cons_nodup s (right_iff.1 h)))
theorem putS_err {l : List Slot} (n : Int) (s : Slot) (h : rightB l = true) : (putS l n s).2.2 = 0 := by rw [putS, if_neg (by rw [h]; simp)]
theorem listS_right (ks : List Int) (room : Int) : ∀ i, rightB (listS ks room i) = true
  | 0 => by simp [listS, rightB, keysOf]
  | i + 1 => by
    have ih := listS_right ks room i
    rw [listS]
    split
    · exact putS_right _ _ ih
    · exact ih
theorem put_head {l : List Slot} {n : Int} (s : Slot) (h : rightB l = true) (hn : 1 ≤ n) : ∃ t, (putS l n s).1 = s :: t ∧ s.key ∉ keysOf t ∧ (t.length : Int) + 1 ≤ n ∧ t.Sublist l := by
  rw [putS, if_neg (by rw [h]; simp)]
  obtain ⟨c, hc⟩ : ∃ c, clampN n (s :: without l s.key).length = c + 1 := by
    refine ⟨clampN n (s :: without l s.key).length - 1, ?_⟩
    have : 1 ≤ clampN n (s :: without l s.key).length := by
      unfold clampN; simp only [List.length_cons]; omega
    omega
  refine ⟨(without l s.key).take c, by simp only [hc, List.take_succ_cons], fun hm => without_not l s.key ((keys_sub (List.take_sublist _ _)).subset hm), ?_, (List.take_sublist _ _).trans (without_sub _ _)⟩
  have : (clampN n (s :: without l s.key).length : Int) ≤ n := by unfold clampN; omega
  rw [List.length_take]
  omega
theorem again {l : List Slot} {n : Int} (s : Slot) (h : rightB l = true) (hn : 1 ≤ n) : putS (putS l n s).1 n s = ((putS l n s).1, [], 0) ∧ getS (putS l n s).1 s.key = (s, (putS l n s).1, 0) := by
  have hr := putS_right n s h
  obtain ⟨t, ht, hk, hl, _⟩ := put_head s h hn
  rw [ht] at hr ⊢
  have hw : without (s :: t) s.key = t := by rw [without_cons_self, without_self hk]
  constructor
  · rw [putS, if_neg (by rw [hr]; simp), hw]
    have : clampN n (s :: t).length = (s :: t).length := by unfold clampN; simp only [List.length_cons]; omega
    rw [this, List.take_length, List.drop_length]
  · rw [getS_some (i := 0) (s := s) (by rw [hr]; simp) rfl rfl (fun j t hj => absurd hj (Nat.not_lt_zero _)), hw]
def cntS (t : Slot) (l : List Slot) : Nat := (l.filter fun x => decide (x = t)).length
theorem cntS_next {t : Slot} {l : List Slot} {j : Nat} {x : Slot} (h : l[j]? = some x) : cntS t (l.take (j + 1)) = if x = t then cntS t (l.take j) + 1 else cntS t (l.take j) := by
  rw [cntS, take_next h, List.filter_append]
  by_cases hx : x = t <;> simp [hx, cntS]
theorem cntS_le (t : Slot) (l : List Slot) : cntS t l ≤ l.length := List.length_filter_le _ _
theorem cntS_one {t : Slot} : ∀ {l : List Slot}, l.Nodup → t ∈ l → cntS t l = 1
  | [], _, h => by cases h
  | x :: l, hn, h => by
    obtain ⟨h1, h2⟩ := List.nodup_cons.1 hn
    by_cases e : x = t
    · subst e
      have h0 : l.filter (fun y => decide (y = x)) = [] := by
        rw [List.filter_eq_nil_iff]
        intro y hy
        have : ¬ y = x := fun e => h1 (e ▸ hy)
        simpa using this
      simp [cntS, h0]
    · have ht : t ∈ l := by
        rcases List.mem_cons.1 h with h | h
        · exact absurd h.symm e
        · exact h
      have := cntS_one h2 ht
      rw [cntS, List.filter_cons]
      simp only [e, decide_false]
      exact this
theorem keys_nodup {l : List Slot} (h : (keysOf l).Nodup) : l.Nodup := List.Pairwise.of_map (·.key) (fun a b hab e => hab (by rw [e])) h
/-- A hit hands back the same entries, the one asked for ahead. -/
theorem get_perm {l : List Slot} {k : Key} (h : rightB l = true) (hg : (getS l k).2.2 = 0) : (getS l k).2.1.length = l.length ∧ ∀ t ∈ l, cntS t (getS l k).2.1 = 1 := by
  have hn := right_iff.1 h
  cases hf : l.find? (fun s => decide (s.key = k)) with
  | none =>
    rw [getS, if_neg (by rw [h]; simp), hf] at hg
    simp at hg
  | some s =>
    have hs : s ∈ l := List.mem_of_find?_eq_some hf
    have hk : s.key = k := by simpa using List.find?_some hf
    have e : getS l k = (s, s :: without l k, 0) := by rw [getS, if_neg (by rw [h]; simp), hf]
    rw [e]
    subst hk
    have hnd : (s :: without l s.key).Nodup := keys_nodup (cons_nodup s hn)
    have hmem : ∀ t ∈ l, t ∈ s :: without l s.key := fun t ht => by
      by_cases e : t = s
      · exact e ▸ List.mem_cons_self
      · refine List.mem_cons_of_mem _ (List.mem_filter.2 ⟨ht, ?_⟩)
        have : ¬ t.key = s.key := fun hk => e (key_inj hn hs ht hk)
        simpa using this
    have hsub : ∀ t ∈ s :: without l s.key, t ∈ l := fun t ht => by
      rcases List.mem_cons.1 ht with rfl | ht
      · exact hs
      · exact (List.mem_filter.1 ht).1
    refine ⟨?_, fun t ht => cntS_one hnd (hmem t ht)⟩
    exact ((List.perm_ext_iff_of_nodup hnd (keys_nodup hn)).2 fun t => ⟨hsub t, hmem t⟩).length_eq
end Go.Proofs.YtdlinfekifnmkaaAm
