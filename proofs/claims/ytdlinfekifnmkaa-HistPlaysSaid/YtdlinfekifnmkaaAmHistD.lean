/- Contracts of the layer 'hist', fourth part: what is legal. Conditions: the lengths. -/
import Derived.Test.YtdlinfekifnmkaaAmHistC
set_option linter.unusedVariables false
set_option linter.unusedSimpArgs false
set_option maxRecDepth 20000
namespace Go.Proofs.YtdlinfekifnmkaaAm
open Go.Proofs

/-! ### The last call of a key that says what it has -/
def isPM (x : Call) : Bool := x.put || !x.has
def lastS (c : List Call) : Nat → Int → Option Nat
  | 0, _ => none
  | n + 1, key => if decide ((nth c n).key = key) && isPM (nth c n) then some n else lastS c n key
def lastI (c : List Call) (n : Nat) (key : Int) : Int := match lastS c n key with
  | none => -1
  | some p => p
theorem last_some {c : List Call} : ∀ {n : Nat} {key : Int} {p : Nat}, lastS c n key = some p → p < n ∧ (nth c p).key = key ∧ isPM (nth c p) = true ∧ ∀ m, p < m → m < n → (nth c m).key = key → isPM (nth c m) = false
  | 0, key, p, h => by cases h
  | n + 1, key, p, h => by
    rw [lastS] at h
    split at h
    · rename_i hc
      injection h with h
      subst h
      simp only [Bool.and_eq_true, decide_eq_true_eq] at hc
      exact ⟨by omega, hc.1, hc.2, fun m h1 h2 => by omega⟩
    · rename_i hc
      obtain ⟨h1, h2, h3, h4⟩ := last_some h
      refine ⟨by omega, h2, h3, fun m hm1 hm2 hk => ?_⟩
      by_cases hmn : m = n
      · subst hmn
        simp only [hk, decide_true, Bool.true_and] at hc
        simpa using hc
      · exact h4 m hm1 (by omega) hk
theorem cur_last {c : List Call} : ∀ {n : Nat} {key : Int}, n ≤ c.length → cur (c.take n) key = match lastS c n key with
    | none => none
    | some p => if (nth c p).put = true then some (nth c p).val else none
  | 0, key, _ => by simp [cur, lastS]
  | n + 1, key, hn => by
    have ih := cur_last (c := c) (n := n) (key := key) (by omega)
    have e : c.take (n + 1) = c.take n ++ [nth c n] := take_next (nth_get (by omega))
    rw [e, cur, List.foldl_append]
    show curStep key (cur (c.take n) key) (nth c n) = _
    rw [ih, lastS]
    unfold curStep isPM
    by_cases hk : (nth c n).key = key
    · cases hp : (nth c n).put with
      | true => simp [hk, hp]
      | false =>
        cases hh : (nth c n).has with
        | true => simp [hk, hp, hh]
        | false => simp [hk, hp, hh]
    · simp [hk]
theorem valOk_last {c : List Call} {k : Nat} (hk : k < c.length) : valOk c k = true ↔ (isHas (nth c k) = true → ∃ p, lastS c k (nth c k).key = some p ∧ (nth c p).put = true ∧ (nth c p).val = (nth c k).val) := by
  unfold valOk
  rw [nth_get hk]
  simp only [Bool.or_eq_true, Bool.not_eq_true', decide_eq_true_eq]
  rw [cur_last (by omega)]
  cases hh : isHas (nth c k) with
  | false => simp
  | true =>
    simp only [Bool.true_eq_false, false_or, forall_const]
    cases hl : lastS c k (nth c k).key with
    | none => simp
    | some p =>
      simp only [Option.some.injEq, exists_eq_left']
      cases hp : (nth c p).put with
      | true => simp
      | false => simp
/-- The reference's count of keys in hand. -/
def gotB (c : List Call) (at_ i k : Nat) : Bool := decide (at_ < k) && (((decide ((nth c k).key = (nth c i).key) && !(nth c k).put) && (nth c k).has) && decide (lastI c k (nth c i).key = i))
def hasGet (c : List Call) (at_ i : Nat) : Bool := (List.range c.length).any (gotB c at_ i)
def rhand (c : List Call) (at_ n : Nat) : Nat := (List.range n).countP fun i => (nth c i).put && hasGet c at_ i
theorem lastI_eq {c : List Call} {k i : Nat} {key : Int} : lastI c k key = (i : Int) ↔ lastS c k key = some i := by
  unfold lastI
  cases lastS c k key with
  | none => exact ⟨fun h => (by have h2 : (-1 : Int) = i := h; omega), fun h => (by cases h)⟩
  | some p => exact ⟨fun h => (by have h2 : (p : Int) = i := h; rw [show p = i by omega]), fun h => (by injection h with h; subst h; rfl)⟩
theorem hasGet_iff {c : List Call} {at_ i : Nat} : hasGet c at_ i = true ↔ ∃ k, k < c.length ∧ at_ < k ∧ (nth c k).key = (nth c i).key ∧ isHas (nth c k) = true ∧ lastS c k (nth c i).key = some i := by
  unfold hasGet gotB
  simp only [List.any_eq_true, List.mem_range, Bool.and_eq_true, decide_eq_true_eq, Bool.not_eq_true', lastI_eq, isHas]
  constructor
  · rintro ⟨k, h1, h2, ⟨⟨h3, h4⟩, h5⟩, h6⟩
    exact ⟨k, h1, h2, h3, ⟨h4, h5⟩, h6⟩
  · rintro ⟨k, h1, h2, h3, ⟨h4, h5⟩, h6⟩
    exact ⟨k, h1, h2, ⟨⟨h3, h4⟩, h5⟩, h6⟩
theorem first_after {c : List Call} {key : Int} {j : Nat} : ∀ {k : Nat}, j < k → (nth c k).key = key → ∃ m, j < m ∧ m ≤ k ∧ (nth c m).key = key ∧ ∀ m', j < m' → m' < m → ¬ (nth c m').key = key := by
  intro k
  induction k using Nat.strongRecOn with
  | _ k ih =>
    intro hjk hk
    by_cases h : ∃ m, j < m ∧ m < k ∧ (nth c m).key = key
    · obtain ⟨m, h1, h2, h3⟩ := h
      obtain ⟨m', h4, h5, h6⟩ := ih m h2 h1 h3
      exact ⟨m', h4, by omega, h6⟩
    · exact ⟨k, hjk, Nat.le_refl _, hk, fun m' h1 h2 h3 => h ⟨m', h1, h2, h3⟩⟩
theorem handP_iff {c : List Call} {j k : Nat} (hk : k < c.length) : handP c j k = true ↔ isHas (nth c k) = true ∧ j < k ∧ ∀ m, j < m → m < k → ¬ (nth c m).key = (nth c k).key := by
  unfold handP
  rw [nth_get hk]
  simp only [Bool.and_eq_true, decide_eq_true_eq, Bool.not_eq_true', List.any_eq_false]
  constructor
  · rintro ⟨⟨h1, h2⟩, h3⟩
    refine ⟨h1, h2, fun m hm1 hm2 => h3 (nth c m) ?_⟩
    refine List.mem_of_getElem? (i := m - (j + 1)) ?_
    rw [List.getElem?_drop, show j + 1 + (m - (j + 1)) = m by omega, List.getElem?_take_of_lt hm2]
    exact nth_get (by omega)
  · rintro ⟨h1, h2, h3⟩
    refine ⟨⟨h1, h2⟩, fun x hx => ?_⟩
    obtain ⟨m, hm⟩ := List.mem_iff_getElem?.1 hx
    rw [List.getElem?_drop] at hm
    have hlt := (List.getElem?_eq_some_iff.1 hm).1
    rw [List.length_take] at hlt
    rw [List.getElem?_take_of_lt (by omega)] at hm
    rw [← nth_of hm]
    exact h3 _ (by omega) (by omega)
theorem nodup_keys {c : List Call} {p : Nat → Bool} {n : Nat} (h : ∀ a b, a < b → b < n → p a = true → p b = true → ¬ (nth c a).key = (nth c b).key) : (((List.range n).filter p).map fun k => (nth c k).key).Nodup := by
  rw [List.Nodup, List.pairwise_map]
  have hp : ((List.range n).filter p).Pairwise (· < ·) := List.Pairwise.sublist List.filter_sublist List.pairwise_lt_range
  refine hp.imp_of_mem fun {a b} ha hb hab he => ?_
  have ha := List.mem_filter.1 ha
  have hb := List.mem_filter.1 hb
  exact h a b hab (List.mem_range.1 hb.1) ha.2 hb.2 he
theorem rhand_eq {c : List Call} (hv : ∀ k, k < c.length → valOk c k = true) {j : Nat} (hj : j < c.length) : rhand c j (j + 1) = handN c c.length j := by
  have e1 : rhand c j (j + 1) = (((List.range (j + 1)).filter fun i => (nth c i).put && hasGet c j i).map fun k => (nth c k).key).length := by rw [List.length_map, rhand, List.countP_eq_length_filter]
  have e2 : handN c c.length j = (((List.range c.length).filter (handP c j)).map fun k => (nth c k).key).length := by rw [List.length_map, handN, List.countP_eq_length_filter]
  rw [e1, e2]
  have isPM_put : ∀ x : Call, x.put = true → isPM x = true := fun x h => by simp [isPM, h]
  refine Nat.le_antisymm (len_sub (nodup_keys fun a b hab hb pa pb he => ?_) fun x hx => ?_) (len_sub (nodup_keys fun a b hab hb pa pb he => ?_) fun x hx => ?_)
  · simp only [Bool.and_eq_true] at pa pb
    obtain ⟨k, h1, h2, h3, h4, h5⟩ := hasGet_iff.1 pa.2
    have := (last_some h5).2.2.2 b hab (by omega) he.symm
    rw [isPM_put _ pb.1] at this
    cases this
  · obtain ⟨i, hi, rfl⟩ := List.mem_map.1 hx
    have hi := List.mem_filter.1 hi
    have hij := List.mem_range.1 hi.1
    obtain ⟨hip, hig⟩ : (nth c i).put = true ∧ hasGet c j i = true := by simpa using hi.2
    obtain ⟨k, h1, h2, h3, h4, h5⟩ := hasGet_iff.1 hig
    obtain ⟨m, m1, m2, m3, m4⟩ := first_after h2 h3
    have hmh : isHas (nth c m) = true := by
      by_cases hmk : m = k
      · subst hmk; exact h4
      · have := (last_some h5).2.2.2 m (by omega) (by omega) m3
        simp only [isPM, Bool.or_eq_false_iff, Bool.not_eq_false'] at this
        simp [isHas, this]
    refine List.mem_map.2 ⟨m, List.mem_filter.2 ⟨List.mem_range.2 (by omega), (handP_iff (by omega)).2 ⟨hmh, m1, fun m' a1 a2 => by rw [m3]; exact m4 m' a1 a2⟩⟩, m3⟩
  · have hla : a < c.length := by omega
    have h1 := (handP_iff hla).1 pa
    have h2 := (handP_iff hb).1 pb
    exact h2.2.2 a h1.2.1 hab he
  · obtain ⟨m, hm, rfl⟩ := List.mem_map.1 hx
    have hm := List.mem_filter.1 hm
    have hml := List.mem_range.1 hm.1
    obtain ⟨h1, h2, h3⟩ := (handP_iff hml).1 hm.2
    obtain ⟨p, p1, p2, p3⟩ := (valOk_last hml).1 (hv m hml) h1
    have hp := last_some p1
    have hpj : p ≤ j := Nat.le_of_not_lt fun h => h3 p h hp.1 hp.2.1
    refine List.mem_map.2 ⟨p, List.mem_filter.2 ⟨List.mem_range.2 (by omega), ?_⟩, hp.2.1⟩
    have hg : hasGet c j p = true := hasGet_iff.2 ⟨m, hml, h2, hp.2.1.symm, h1, by rw [hp.2.1]; exact p1⟩
    simp [p2, hg]

/-! ### What the program keeps -/
def LastKey (c : List Call) (i : Nat) (k : Int) (s : Nat) : Prop := s < i ∧ (nth c s).key = k ∧ ∀ m, s < m → m < i → ¬ (nth c m).key = k
def hrow (c : List Call) (i n : Nat) : List (List AV) := (List.range n).map fun j => [.lit (.int .i64 (handN c i j : Nat))]
theorem hrow0 (c : List Call) : List.replicate c.length [AV.lit (.int .i64 0)] = hrow c 0 c.length := by
  apply List.ext_getElem?
  intro j
  by_cases hj : j < c.length
  · simp [hrow, List.getElem?_replicate, hj, handN]
  · rw [List.getElem?_eq_none (by simp; omega), List.getElem?_eq_none (by simp [hrow]; omega)]
structure LgInv (c : List Call) (i : Nat) (kv1 kv2 : List (Value × AV)) : Prop where
  vals : MapOf ikv ivv kv1 (fun k => cur (c.take i) k)
  since : ∃ sf : Int → Option Int, MapOf ikv ivv kv2 sf ∧ ∀ k v, cur (c.take i) k = some v → ∃ s : Nat, sf k = some (s : Int) ∧ LastKey c i k s
  ok : ∀ k, k < i → valOk c k = true
theorem lginv0 (c : List Call) : LgInv c 0 [] [] := ⟨mo_ext mo_nil fun k => by simp [cur], ⟨fun _ => none, mo_nil, fun k v h => by simp [cur] at h⟩, fun k hk => absurd hk (Nat.not_lt_zero _)⟩
theorem cur_next {c : List Call} {i : Nat} {x : Call} (hx : c[i]? = some x) (k : Int) : cur (c.take (i + 1)) k = curStep k (cur (c.take i) k) x := by
  rw [take_next hx, cur, List.foldl_append]; rfl
theorem last_next {c : List Call} {i : Nat} {x : Call} (hx : c[i]? = some x) {k : Int} {s : Nat} (h : LastKey c i k s) (hk : ¬ x.key = k) : LastKey c (i + 1) k s := by
  refine ⟨by have := h.1; omega, h.2.1, fun m h1 h2 => ?_⟩
  by_cases hm : m = i
  · subst hm; rw [nth_of hx]; exact hk
  · exact h.2.2 m h1 (by omega)
theorem last_self {c : List Call} {i : Nat} {x : Call} (hx : c[i]? = some x) : LastKey c (i + 1) x.key i := ⟨by omega, by rw [nth_of hx], fun m h1 h2 => by omega⟩
theorem ok_next {c : List Call} {i : Nat} (h : ∀ k, k < i → valOk c k = true) (hi : valOk c i = true) : ∀ k, k < i + 1 → valOk c k = true := fun k hk => by
  by_cases e : k = i
  · subst e; exact hi
  · exact h k (by omega)
theorem lg_put {c : List Call} {i : Nat} {kv1 kv2 kv1' kv2' : List (Value × AV)} {sf : Int → Option Int} {x : Call} (h : LgInv c i kv1 kv2) (hsl : ∀ k v, cur (c.take i) k = some v → ∃ s : Nat, sf k = some (s : Int) ∧ LastKey c i k s) (hx : c[i]? = some x) (hp : x.put = true)
    (h1 : MapOf ikv ivv kv1' (fun k => if k = x.key then some x.val else cur (c.take i) k)) (h2 : MapOf ikv ivv kv2' (fun k => if k = x.key then some (i : Int) else sf k)) : LgInv c (i + 1) kv1' kv2' := by
  have hv : valOk c i = true := by
    unfold valOk; rw [hx]; simp [isHas, hp]
  refine ⟨mo_ext h1 fun k => ?_, ⟨_, h2, fun k v hk => ?_⟩, ok_next h.ok hv⟩
  · rw [cur_next hx]
    by_cases hk : k = x.key
    · subst hk; simp [curStep, hp]
    · have hk2 : ¬ x.key = k := fun e => hk e.symm
      rw [if_neg hk]; simp [curStep, hk2]
  · by_cases hkx : k = x.key
    · subst hkx; exact ⟨i, if_pos rfl, last_self hx⟩
    · rw [cur_next hx] at hk
      simp only [curStep, show ¬ x.key = k from fun e => hkx e.symm, if_false] at hk
      obtain ⟨s, s1, s2⟩ := hsl k v hk
      exact ⟨s, by rw [if_neg hkx]; exact s1, last_next hx s2 fun e => hkx e.symm⟩
theorem lg_miss {c : List Call} {i : Nat} {kv1 kv2 kv1' : List (Value × AV)} {sf : Int → Option Int} {x : Call} (h : LgInv c i kv1 kv2) (hsf : MapOf ikv ivv kv2 sf) (hsl : ∀ k v, cur (c.take i) k = some v → ∃ s : Nat, sf k = some (s : Int) ∧ LastKey c i k s) (hx : c[i]? = some x) (hp : x.put = false) (hh : x.has = false)
    (h1 : MapOf ikv ivv kv1' (fun k => if k = x.key then none else cur (c.take i) k)) : LgInv c (i + 1) kv1' kv2 := by
  have hv : valOk c i = true := by
    unfold valOk; rw [hx]; simp [isHas, hh]
  refine ⟨mo_ext h1 fun k => ?_, ⟨_, hsf, fun k v hk => ?_⟩, ok_next h.ok hv⟩
  · rw [cur_next hx]
    by_cases hk : k = x.key
    · subst hk; simp [curStep, hp, hh]
    · have hk2 : ¬ x.key = k := fun e => hk e.symm
      rw [if_neg hk]; simp [curStep, hk2]
  · rw [cur_next hx] at hk
    by_cases hkx : x.key = k
    · simp [curStep, hkx, hp, hh] at hk
    · simp only [curStep, hkx, if_false] at hk
      obtain ⟨s, s1, s2⟩ := hsl k v hk
      exact ⟨s, s1, last_next hx s2 hkx⟩
theorem lg_has {c : List Call} {i : Nat} {kv1 kv2 kv2' : List (Value × AV)} {sf : Int → Option Int} {x : Call} (h : LgInv c i kv1 kv2) (hsl : ∀ k v, cur (c.take i) k = some v → ∃ s : Nat, sf k = some (s : Int) ∧ LastKey c i k s) (hx : c[i]? = some x) (hp : x.put = false) (hh : x.has = true)
    (hc : cur (c.take i) x.key = some x.val) (h2 : MapOf ikv ivv kv2' (fun k => if k = x.key then some (i : Int) else sf k)) : LgInv c (i + 1) kv1 kv2' := by
  have hv : valOk c i = true := by
    unfold valOk; rw [hx]; simp [hc]
  refine ⟨mo_ext h.vals fun k => ?_, ⟨_, h2, fun k v hk => ?_⟩, ok_next h.ok hv⟩
  · rw [cur_next hx]
    by_cases hk : x.key = k
    · simp [curStep, hk, hp, hh]
    · simp [curStep, hk]
  · by_cases hkx : k = x.key
    · subst hkx; exact ⟨i, if_pos rfl, last_self hx⟩
    · rw [cur_next hx] at hk
      simp only [curStep, show ¬ x.key = k from fun e => hkx e.symm, if_false] at hk
      obtain ⟨s, s1, s2⟩ := hsl k v hk
      exact ⟨s, by rw [if_neg hkx]; exact s1, last_next hx s2 fun e => hkx e.symm⟩
/-- The row while one Get is counted. -/
def hmid (c : List Call) (i n s k : Nat) : List (List AV) := (List.range n).map fun j => [.lit (.int .i64 ((handN c i j + if s ≤ j ∧ j < k then 1 else 0 : Nat)))]
theorem hmid0 (c : List Call) (i n s : Nat) : hrow c i n = hmid c i n s s := List.map_congr_left fun j _ => by
  have : ¬ (s ≤ j ∧ j < s) := by omega
  simp [this]
theorem hmid_at {c : List Call} {i n s k : Nat} (hk : k < n) : (hmid c i n s k)[k]? = some [.lit (.int .i64 (handN c i k : Nat))] := by
  have : ¬ (s ≤ k ∧ k < k) := by omega
  simp [hmid, hk, this]
theorem hmid_next {c : List Call} {i n s k : Nat} (hs : s ≤ k) (hk : k < n) : (hmid c i n s k).set k [.lit (.int .i64 ((handN c i k : Nat) + 1))] = hmid c i n s (k + 1) := by
  apply List.ext_getElem?
  intro j
  by_cases hjk : k = j
  · subst hjk
    rw [List.getElem?_set_self (by simp [hmid]; exact hk)]
    have : s ≤ k ∧ k < k + 1 := by omega
    simp [hmid, hk, this]
  · rw [List.getElem?_set_ne hjk]
    by_cases hj : j < n
    · have : (s ≤ j ∧ j < k) ↔ (s ≤ j ∧ j < k + 1) := by omega
      simp [hmid, hj, this]
    · rw [List.getElem?_eq_none (by simp [hmid]; omega), List.getElem?_eq_none (by simp [hmid]; omega)]
theorem handN_next (c : List Call) (i j : Nat) : handN c (i + 1) j = handN c i j + if handP c j i = true then 1 else 0 := by
  unfold handN
  rw [List.range_succ, List.countP_append]
  simp [List.countP_cons]
theorem hmid_end {c : List Call} {i n s : Nat} {x : Call} (hi : i < c.length) (hx : c[i]? = some x) (hh : isHas x = true) (hs : LastKey c i x.key s) : hmid c i n s i = hrow c (i + 1) n := List.map_congr_left fun j _ => by
  have hp : handP c j i = true ↔ s ≤ j ∧ j < i := by
    rw [handP_iff hi, nth_of hx]
    constructor
    · rintro ⟨_, h2, h3⟩
      exact ⟨Nat.le_of_not_lt fun hlt => h3 s hlt hs.1 hs.2.1, h2⟩
    · rintro ⟨h1, h2⟩
      exact ⟨hh, h2, fun m m1 m2 => hs.2.2 m (by omega) m2⟩
  rw [handN_next]
  by_cases h : s ≤ j ∧ j < i
  · simp [h, hp.2 h]
  · have hn : ¬ handP c j i = true := fun e => h (hp.1 e)
    rw [if_neg hn, if_neg h]
theorem hrow_same {c : List Call} {i n : Nat} {x : Call} (hi : i < c.length) (hx : c[i]? = some x) (hh : isHas x = false) : hrow c i n = hrow c (i + 1) n := List.map_congr_left fun j _ => by
  have : ¬ handP c j i = true := fun h => by
    have := ((handP_iff hi).1 h).1
    rw [nth_of hx, hh] at this
    cases this
  rw [handN_next, if_neg this]; rfl

set_option maxHeartbeats 16000000 in
theorem legal87_c (c : List Call) (r : Int) (hl : c.length ≤ 100000) (H : Heap) : QCall Try.prog 87 [.ro (c.map Call.cells), .lit (.int .i64 r)] H (.lit (.bool (legal c r))) := by
  refine acall_intro (n := 98) (rvs := [.tmp 4]) Try.func87 rfl rfl rfl (Nat.le_of_ble_eq_true rfl) ?_
  refine awp_seq ?_
  refine awp_region ?_
  refine aqs rfl (q_as (by constructor)) rfl ?_
  refine alist_nil ?_
  show AWP _ _ _ _
  refine awp_seq ?_
  refine awp_region ?_
  (refine aes rfl (e_mm) rfl ?_; rintro _ _ ⟨u15, rfl, rfl⟩)
  refine aqs rfl (q_as (by constructor)) rfl ?_
  refine alist_nil ?_
  show AWP _ _ _ _
  refine awp_seq ?_
  refine awp_region ?_
  (refine aes rfl (e_mm) rfl ?_; rintro _ _ ⟨u16, rfl, rfl⟩)
  refine aqs rfl (q_as (by constructor)) rfl ?_
  refine alist_nil ?_
  show AWP _ _ _ _
  refine awp_seq ?_
  refine awp_region ?_
  refine aqs rfl (q_mv (by constructor)) rfl ?_
  first | refine aqs rfl (castQ (r2 := .lit (.int .i64 (c.length : Nat))) (q_len Try.underlying90 .ro) (by simp)) rfl ?_ | refine aqs rfl (castQ (r2 := .lit (.int .i64 (c.length : Nat))) (q_lenO Try.underlying90 rfl (by repeat (first | exact .here | assumption | (apply HAt.left; assumption) | apply HAt.there | apply HAt.right)) (by first | omega | (simp; done) | (simp; omega) | fail) (by first | exact Nat.sub_zero _ | rfl)) (by simp)) rfl ?_ | refine aqs rfl (castQ (r2 := .lit (.int .i64 (c.length : Nat))) (q_len Try.underlying90 .nil) (by simp)) rfl ?_ | refine aqs rfl (castQ (r2 := .lit (.int .i64 (c.length : Nat))) (q_len Try.underlying90 .cro) (by simp)) rfl ?_
  (refine aes rfl (e_ms Try.underlying25 sz3 zr3 by3 rfl rfl rfl (by first | ((repeat constructor); done) | exact .same _) rfl (by omega) (by omega) (by omega)) rfl ?_; rintro _ _ ⟨u19, rfl, rfl⟩)
  refine aqs rfl (q_as (by constructor)) rfl ?_
  refine alist_nil ?_
  show AWP _ _ _ _
  refine awp_seq ?_
  refine awp_seq ?_
  refine awp_region ?_
  refine aqs rfl (q_mv (by constructor)) rfl ?_
  first | refine aqs rfl (castQ (r2 := .lit (.int .i64 (c.length : Nat))) (q_len Try.underlying90 .ro) (by simp)) rfl ?_ | refine aqs rfl (castQ (r2 := .lit (.int .i64 (c.length : Nat))) (q_lenO Try.underlying90 rfl (by repeat (first | exact .here | assumption | (apply HAt.left; assumption) | apply HAt.there | apply HAt.right)) (by first | omega | (simp; done) | (simp; omega) | fail) (by first | exact Nat.sub_zero _ | rfl)) (by simp)) rfl ?_ | refine aqs rfl (castQ (r2 := .lit (.int .i64 (c.length : Nat))) (q_len Try.underlying90 .nil) (by simp)) rfl ?_ | refine aqs rfl (castQ (r2 := .lit (.int .i64 (c.length : Nat))) (q_len Try.underlying90 .cro) (by simp)) rfl ?_
  refine aqs rfl (q_mv (by constructor)) rfl ?_
  refine alist_nil ?_
  show AWP _ _ _ _
  rw [show List.replicate (c.length : Int).toNat [AV.lit (.int .i64 0)] = hrow c 0 c.length from hrow0 c]
  show AWP _ _ _ _
  refine awp_block ?_
  refine awp_loop_inv (fun x : Nat × List (Value × AV) × List (Value × AV) => ⟨[(22, .lit (.int .i64 x.1)), (21, .lit (.int .i64 c.length)), (20, .ro (c.map Call.cells)), (0, .ro (c.map Call.cells)), (1, .lit (.int .i64 r)), (5, .mp u15), (6, .mp u16), (7, .sl u19 0 c.length)], 98, (u19, .arr 3 1 (hrow c x.1 c.length)) :: (u16, .map x.2.2) :: (u15, .map x.2.1) :: H⟩) (fun x => x.1 ≤ c.length ∧ LgInv c x.1 x.2.1 x.2.2) (fun x => c.length - x.1) (0, [], []) ?_ ?_ ?_
  · exact ⟨Nat.zero_le _, lginv0 c⟩
  · exact .mk' (by repeat (first | exact trivial | refine ⟨rfl, ?_⟩)) (by repeat (first | exact .refl _ | apply List.Sublist.cons_cons | apply List.Sublist.cons))
  · rintro ⟨i, kv1, kv2⟩ ⟨hi, hinv⟩
    simp only at hi hinv ⊢
    have hD := mo_int hinv.vals
    obtain ⟨sf, hsf, hsl⟩ := hinv.since
    have hD2 := mo_int hsf
    refine awp_seq ?_
    refine awp_region ?_
    refine aqs rfl (q_lss rfl rfl) rfl ?_
    refine alist_nil ?_
    show AWP _ _ _ _
    refine awp_seq ?_
    refine awp_cond rfl (fun hc0 => ?_) (fun hc0 => ?_)
    · simp only [decide_eq_true_eq] at hc0
      obtain ⟨x, hx, hxm⟩ := get_lt (l := c) (i := i) (by omega)
      have hx2 := get_map (f := Call.cells) hx
      refine awp_skip ?_
      show AWP _ _ _ _
      refine awp_seq ?_
      refine awp_block ?_
      refine awp_seq ?_
      refine awp_region ?_
      refine aqs rfl (q_mv (by constructor)) rfl ?_
      first | refine aqs rfl (q_iaN Try.underlying90 sz103 (.inl rfl) rfl (by omega) (by first | rfl | assumption | (simp [*]; done) | fail) (by first | rfl | assumption | (simp [*]; done) | fail) (by decide) (by first | ((repeat constructor); done) | exact .same _)) rfl ?_ | refine aqs rfl (q_iaS Try.underlying90 sz103 rfl (by repeat (first | exact .here | assumption | (apply HAt.left; assumption) | apply HAt.there | apply HAt.right)) rfl (by omega) (by omega) (by first | exact Nat.zero_add _ | rfl)) rfl ?_ | refine aqs rfl (q_iaN Try.underlying90 sz103 (.inr rfl) rfl (by omega) (by first | rfl | assumption | (simp [*]; done) | fail) (by first | rfl | assumption | (simp [*]; done) | fail) (by decide) (by first | ((repeat constructor); done) | exact .same _)) rfl ?_
      first | refine aqs rfl (q_ldpW ag103 sz103 rfl (by repeat (first | exact .here | assumption | (apply HAt.left; assumption) | apply HAt.there | apply HAt.right)) (by first | rfl | assumption | (simp [*]; done) | fail) (by first | rfl | assumption | (simp [*]; done) | fail) (by decide)) rfl ?_ | refine aqs rfl (q_ldW ag103 sz103 rfl (by first | rfl | assumption | (simp [*]; done) | fail)) rfl ?_ | refine aqs rfl (q_ldpP ag103 sz103 rfl (by repeat (first | exact .here | assumption | (apply HAt.left; assumption) | apply HAt.there | apply HAt.right)) (by first | rfl | assumption | (simp [*]; done) | fail) (by first | decide | (simp; done) | omega | fail) (by decide) (by first | ((repeat constructor); done) | exact .same _)) rfl ?_ | refine aqs rfl (q_ldP ag103 sz103 rfl (by first | decide | (simp; done) | omega | fail) (by first | ((repeat constructor); done) | exact .same _)) rfl ?_
      (refine aes rfl (e_al (xs := [.lit (.bool false), .lit (.int .i64 0), .lit (.int .i64 0), .lit (.int .i64 0), .lit (.bool false), .lit (.int .i64 0), .lit (.int .i64 0)]) (k := 7) zr103 (.same _) rfl) rfl ?_; rintro _ _ ⟨u9, rfl, rfl⟩)
      refine aqs rfl (q_as (by constructor)) rfl ?_
      first | (refine aen rfl (e_stW sz103 rfl (by repeat (first | exact .here | assumption | (apply HAt.left; assumption) | apply HAt.there | apply HAt.right)) (by constructor) (by first | rfl | assumption | (simp [*]; done) | fail) rfl (by repeat (first | exact .here | apply HSet.there))) ?_; rintro _ _ ⟨rfl, rfl⟩) | (refine aen rfl (e_stP sz103 rfl (by repeat (first | exact .here | assumption | (apply HAt.left; assumption) | apply HAt.there | apply HAt.right)) (by first | rfl | assumption | (simp [*]; done) | fail) (by constructor) (by first | rfl | assumption | (simp [*]; done) | fail) rfl (by first | decide | omega) (by first | ((repeat constructor); done) | exact .same _) (by first | exact .one | exact .set) (by repeat (first | exact .here | apply HSet.there))) ?_; rintro _ _ ⟨rfl, rfl⟩)
      refine alist_nil ?_
      show AWP _ _ _ _
      refine awp_block ?_
      refine awp_seq ?_
      refine awp_region ?_
      first | refine aqs rfl (q_fapP fl103_0 (by decide) rfl rfl) rfl ?_ | refine aqs rfl (q_faP fl103_0 (by decide) rfl (by first | ((repeat constructor); done) | exact .same _)) rfl ?_
      first | refine aqs rfl (q_ldpN ag4 rfl (by repeat (first | exact .here | assumption | (apply HAt.left; assumption) | apply HAt.there | apply HAt.right)) (by first | rfl | assumption | (simp [*]; done) | fail) (by first | rfl | assumption | (simp [*]; done) | fail) (by constructor)) rfl ?_ | refine aqs rfl (q_ld1N ag4 rfl (by constructor)) rfl ?_
      refine aqs rfl (q_as (by constructor)) rfl ?_
      refine alist_nil ?_
      show AWP _ _ _ _
      refine awp_cond rfl (fun hc1 => ?_) (fun hc1 => ?_)
      · have hrs := hrow_same (n := c.length) (by omega) hx (show isHas x = false by simp [isHas, hc1])
        refine awp_draw 10 [(0, false), (1, false), (2, false), (3, false), (4, false), (5, false), (6, false), (7, false), (8, false), (9, true)] (_ :: _ :: _ :: H) ([_]) mixed (by kernel_rfl) (.cons _ (.cons _ (.cons _ (List.perm_append_singleton _ _).symm))) ?_
        refine glq rfl (.inl ⟨rfl, q_mv (by constructor)⟩) rfl ?_
        first | refine glq rfl (.inl ⟨rfl, q_fapP fl103_2 (by decide) rfl rfl⟩) rfl ?_ | refine glq rfl (.inl ⟨rfl, q_faP fl103_2 (by decide) rfl (by first | ((repeat constructor); done) | exact .same _)⟩) rfl ?_
        first | refine glq rfl (.inl ⟨rfl, q_ldpN ag3 rfl (by repeat (first | exact .here | assumption | (apply HAt.left; assumption) | apply HAt.there | apply HAt.right)) (by first | rfl | assumption | (simp [*]; done) | fail) (by first | rfl | assumption | (simp [*]; done) | fail) (by constructor)⟩) rfl ?_ | refine glq rfl (.inl ⟨rfl, q_ld1N ag3 rfl (by constructor)⟩) rfl ?_
        refine glq rfl (.inl ⟨rfl, q_mv (by constructor)⟩) rfl ?_
        first | refine glq rfl (.inl ⟨rfl, q_fapP fl103_2 (by decide) rfl rfl⟩) rfl ?_ | refine glq rfl (.inl ⟨rfl, q_faP fl103_2 (by decide) rfl (by first | ((repeat constructor); done) | exact .same _)⟩) rfl ?_
        first | refine glq rfl (.inl ⟨rfl, q_ldpN ag3 rfl (by repeat (first | exact .here | assumption | (apply HAt.left; assumption) | apply HAt.there | apply HAt.right)) (by first | rfl | assumption | (simp [*]; done) | fail) (by first | rfl | assumption | (simp [*]; done) | fail) (by constructor)⟩) rfl ?_ | refine glq rfl (.inl ⟨rfl, q_ld1N ag3 rfl (by constructor)⟩) rfl ?_
        first | refine glq rfl (.inl ⟨rfl, q_fapP fl103_3 (by decide) rfl rfl⟩) rfl ?_ | refine glq rfl (.inl ⟨rfl, q_faP fl103_3 (by decide) rfl (by first | ((repeat constructor); done) | exact .same _)⟩) rfl ?_
        first | refine glq rfl (.inl ⟨rfl, q_ldpN ag3 rfl (by repeat (first | exact .here | assumption | (apply HAt.left; assumption) | apply HAt.there | apply HAt.right)) (by first | rfl | assumption | (simp [*]; done) | fail) (by first | rfl | assumption | (simp [*]; done) | fail) (by constructor)⟩) rfl ?_ | refine glq rfl (.inl ⟨rfl, q_ld1N ag3 rfl (by constructor)⟩) rfl ?_
        refine glq rfl (.inl ⟨rfl, q_mv (by constructor)⟩) rfl ?_
        (refine gla rfl rfl (EOp.frame (e_mu Try.underlying183 KL3 rfl (by repeat (first | exact .here | assumption | (apply HAt.left; assumption) | apply HAt.there | apply HAt.right)) (by first | exact kv29 | exact .lit) ⟨_, rfl⟩ (by first | assumption | (intro p hp; cases hp; done)) (by constructor) (fun kvs' => (by repeat (first | exact .here | apply HSet.there))))) rfl ?_; rintro _ _ ⟨kvs', hup, rfl⟩)
        have hm1 := mo_up ikv_inj hinv.vals (k := x.key) (v := x.val) hup
        clear hup
        refine gldA ?_
        (refine aen rfl (e_mu Try.underlying183 KL3 rfl (by repeat (first | exact .here | assumption | (apply HAt.left; assumption) | apply HAt.there | apply HAt.right)) (by first | exact kv29 | exact .lit) ⟨_, rfl⟩ (by first | assumption | (intro p hp; cases hp; done)) (by constructor) (fun kvs' => (by repeat (first | exact .here | apply HSet.there)))) ?_; rintro _ _ ⟨kvs', hup, rfl⟩)
        have hm2 := mo_up ikv_inj hsf (k := x.key) (v := (i : Int)) hup
        have hnext := lg_put hinv hsl hx hc1 hm1 hm2
        refine alist_nil ?_
        show AWP _ _ _ _
        refine awp_perm (.cons _ (.cons _ (.cons _ (List.perm_append_singleton _ _)))) ?_
        show AWP _ _ _ _
        refine awp_region ?_
        first | refine aqs rfl (q_add64 rfl rfl (by omega) (by omega)) rfl ?_ | refine aqs rfl (q_add rfl rfl) rfl ?_
        refine aqs rfl (q_mv (by constructor)) rfl ?_
        refine alist_nil ?_
        show ∃ y, _ ∧ _ ∧ _
        first
          | exact ⟨(i + 1, _, _), ⟨by show i + 1 ≤ c.length; omega, hnext⟩, by show c.length - (i + 1) < c.length - i; omega, by rw [← hrs]; exact .mk' ⟨by rfl, rfl, rfl, rfl, rfl, rfl, rfl, rfl, trivial⟩ (by repeat (first | exact List.Sublist.refl _ | exact List.nil_sublist _ | exact List.sublist_append_left _ _ | (apply List.Sublist.cons_cons) | (apply List.Sublist.cons)))⟩
          | exact ⟨(k + 1, _, _), ⟨by show k + 1 ≤ c.length; omega, hnext⟩, by show c.length - (k + 1) < c.length - k; omega, by rw [← hme]; exact .mk' ⟨by rfl, rfl, rfl, rfl, rfl, rfl, rfl, rfl, trivial⟩ (by repeat (first | exact List.Sublist.refl _ | exact List.nil_sublist _ | exact List.sublist_append_left _ _ | (apply List.Sublist.cons_cons) | (apply List.Sublist.cons)))⟩
      · try simp only [decide_eq_true_eq, decide_eq_false_iff_not, Bool.not_eq_true', Bool.not_eq_false', Bool.not_eq_eq_eq_not, Bool.not_true, Bool.not_false, beq_iff_eq, beq_eq_false_iff_ne, Int.not_lt, Int.not_le] at hc1
        refine awp_seq ?_
        refine awp_region ?_
        first | refine aqs rfl (q_fapP fl103_4 (by decide) rfl rfl) rfl ?_ | refine aqs rfl (q_faP fl103_4 (by decide) rfl (by first | ((repeat constructor); done) | exact .same _)) rfl ?_
        first | refine aqs rfl (q_ldpN ag4 rfl (by repeat (first | exact .here | assumption | (apply HAt.left; assumption) | apply HAt.there | apply HAt.right)) (by first | rfl | assumption | (simp [*]; done) | fail) (by first | rfl | assumption | (simp [*]; done) | fail) (by constructor)) rfl ?_ | refine aqs rfl (q_ld1N ag4 rfl (by constructor)) rfl ?_
        refine aqs rfl (q_not rfl) rfl ?_
        refine aqs rfl (q_as (by constructor)) rfl ?_
        refine alist_nil ?_
        show AWP _ _ _ _
        refine awp_cond rfl (fun hc2 => ?_) (fun hc2 => ?_)
        · have hh : x.has = false := by simpa using hc2
          have hrs := hrow_same (n := c.length) (by omega) hx (show isHas x = false by simp [isHas, hh])
          refine awp_region ?_
          refine aqs rfl (q_mv (by constructor)) rfl ?_
          first | refine aqs rfl (q_fapP fl103_2 (by decide) rfl rfl) rfl ?_ | refine aqs rfl (q_faP fl103_2 (by decide) rfl (by first | ((repeat constructor); done) | exact .same _)) rfl ?_
          first | refine aqs rfl (q_ldpN ag3 rfl (by repeat (first | exact .here | assumption | (apply HAt.left; assumption) | apply HAt.there | apply HAt.right)) (by first | rfl | assumption | (simp [*]; done) | fail) (by first | rfl | assumption | (simp [*]; done) | fail) (by constructor)) rfl ?_ | refine aqs rfl (q_ld1N ag3 rfl (by constructor)) rfl ?_
          (refine aen rfl (e_dl Try.underlying183 KL3 rfl (by repeat (first | exact .here | assumption | (apply HAt.left; assumption) | apply HAt.there | apply HAt.right)) (by first | exact kv29 | exact .lit) ⟨_, rfl⟩ (by first | assumption | (intro p hp; cases hp; done)) rfl (fun kvs' => (by repeat (first | exact .here | apply HSet.there)))) ?_; rintro _ _ ⟨rfl, kvs', hdl, rfl⟩)
          have hm1 := mo_del ikv_inj hinv.vals (k := x.key) hdl
          have hnext := lg_miss hinv hsf hsl hx hc1 hh hm1
          refine alist_nil ?_
          show AWP _ _ _ _
          refine awp_region ?_
          first | refine aqs rfl (q_add64 rfl rfl (by omega) (by omega)) rfl ?_ | refine aqs rfl (q_add rfl rfl) rfl ?_
          refine aqs rfl (q_mv (by constructor)) rfl ?_
          refine alist_nil ?_
          show ∃ y, _ ∧ _ ∧ _
          first
            | exact ⟨(i + 1, _, _), ⟨by show i + 1 ≤ c.length; omega, hnext⟩, by show c.length - (i + 1) < c.length - i; omega, by rw [← hrs]; exact .mk' ⟨by rfl, rfl, rfl, rfl, rfl, rfl, rfl, rfl, trivial⟩ (by repeat (first | exact List.Sublist.refl _ | exact List.nil_sublist _ | exact List.sublist_append_left _ _ | (apply List.Sublist.cons_cons) | (apply List.Sublist.cons)))⟩
            | exact ⟨(k + 1, _, _), ⟨by show k + 1 ≤ c.length; omega, hnext⟩, by show c.length - (k + 1) < c.length - k; omega, by rw [← hme]; exact .mk' ⟨by rfl, rfl, rfl, rfl, rfl, rfl, rfl, rfl, trivial⟩ (by repeat (first | exact List.Sublist.refl _ | exact List.nil_sublist _ | exact List.sublist_append_left _ _ | (apply List.Sublist.cons_cons) | (apply List.Sublist.cons)))⟩
        · have hh : x.has = true := by simpa using hc2
          have hhs : isHas x = true := by simp [isHas, hc1, hh]
          refine awp_seq ?_
          refine awp_region ?_
          refine aqs rfl (q_mv (by constructor)) rfl ?_
          first | refine aqs rfl (q_fapP fl103_2 (by decide) rfl rfl) rfl ?_ | refine aqs rfl (q_faP fl103_2 (by decide) rfl (by first | ((repeat constructor); done) | exact .same _)) rfl ?_
          first | refine aqs rfl (q_ldpN ag3 rfl (by repeat (first | exact .here | assumption | (apply HAt.left; assumption) | apply HAt.there | apply HAt.right)) (by first | rfl | assumption | (simp [*]; done) | fail) (by first | rfl | assumption | (simp [*]; done) | fail) (by constructor)) rfl ?_ | refine aqs rfl (q_ld1N ag3 rfl (by constructor)) rfl ?_
          (refine aes rfl (e_lk2 Try.underlying183 KL3 zv3 rfl (by repeat (first | exact .here | assumption | (apply HAt.left; assumption) | apply HAt.there | apply HAt.right)) (by first | exact kv29 | exact .lit) ⟨_, rfl⟩ (by first | assumption | (intro p hp; cases hp; done))) rfl ?_; rintro rlk _ ⟨hlk, rfl⟩)
          obtain ⟨b, w, rfl, hbw, hbn⟩ : ∃ (b : Bool) (w : Int), rlk = .tup [.lit (.int .i64 w), .lit (.bool b)] ∧ (b = true → cur (c.take i) x.key = some w) ∧ (b = false → cur (c.take i) x.key = none) := by
            rcases mo_lk2 ikv_inj hinv.vals (k := x.key) hlk with ⟨v, h1, rfl⟩ | ⟨h1, rfl⟩
            · exact ⟨true, v, rfl, fun _ => h1, fun h => (by cases h)⟩
            · exact ⟨false, 0, rfl, fun h => (by cases h), fun _ => h1⟩
          refine aqs rfl (q_mv (by constructor)) rfl ?_
          refine aqs rfl (q_ex rfl rfl (by constructor)) rfl ?_
          refine aqs rfl (q_ex rfl rfl (by constructor)) rfl ?_
          refine aqs rfl (q_as (by constructor)) rfl ?_
          refine aqs rfl (q_as (by constructor)) rfl ?_
          refine alist_nil ?_
          show AWP _ _ _ _
          refine awp_seq ?_
          refine awp_mid [(41, .lit (.bool (!b || !decide (w = x.val)))), (22, .lit (.int .i64 i)), (21, .lit (.int .i64 c.length)), (20, .ro (c.map Call.cells)), (0, .ro (c.map Call.cells)), (1, .lit (.int .i64 r)), (5, .mp u15), (6, .mp u16), (7, .sl u19 0 c.length), (8, .lit (.int .i64 i)), (9, .ptr u9 0 0)] ?_ ?_
          · skip
            refine awp_region ?_
            all_goals (refine aqs rfl (q_mv (by constructor)) rfl ?_)
            all_goals (refine aqs rfl (q_not rfl) rfl ?_)
            all_goals (refine aqs rfl (q_mv (by constructor)) rfl ?_)
            all_goals try (refine acase (fun hb2 => ?_) (fun hb2 => ?_))
            all_goals first | (exfalso; cases hb2; done) | skip
            all_goals (first | refine ans rfl rfl ?_ | refine aqs rfl (q_mv (by constructor)) rfl ?_)
            all_goals (first | refine ans rfl rfl ?_ | refine aqs rfl (q_fapP fl103_3 (by decide) rfl rfl) rfl ?_ | refine aqs rfl (q_faP fl103_3 (by decide) rfl (by first | ((repeat constructor); done) | exact .same _)) rfl ?_)
            all_goals (first | refine ans rfl rfl ?_ | refine aqs rfl (q_ldpN ag3 rfl (by repeat (first | exact .here | assumption | (apply HAt.left; assumption) | apply HAt.there | apply HAt.right)) (by first | rfl | assumption | (simp [*]; done) | fail) (by first | rfl | assumption | (simp [*]; done) | fail) (by constructor)) rfl ?_ | refine aqs rfl (q_ld1N ag3 rfl (by constructor)) rfl ?_)
            all_goals (first | refine ans rfl rfl ?_ | refine aqs rfl (q_neq rfl rfl) rfl ?_)
            all_goals (first | refine aqs rfl (q_pickT rfl (by constructor)) rfl ?_ | refine aqs rfl (q_pickF rfl (by constructor)) rfl ?_)
            all_goals (refine alist_nil ?_)
            all_goals (exact ⟨rfl, .mk' (by repeat (first | exact trivial | refine ⟨rfl, ?_⟩ | (refine ⟨?_, ?_⟩; (· first | (rw [hb2]; rfl) | fail)))) (by repeat (first | exact .refl _ | exact List.nil_sublist _ | exact List.sublist_append_left _ _ | apply List.Sublist.cons))⟩)
          refine awp_cond rfl (fun hc3 => ?_) (fun hc3 => ?_)
          · have hbad : legal c r = false := by
              cases hlg : legal c r with
              | false => rfl
              | true =>
                have h1 := (legal_iff.1 hlg).1 i (by omega)
                unfold valOk at h1
                rw [hx] at h1
                simp only [hhs, Bool.not_true, Bool.false_or, decide_eq_true_eq] at h1
                cases b with
                | true =>
                  rw [hbw rfl] at h1
                  injection h1 with h1
                  rw [h1] at hc3
                  simp at hc3
                | false => rw [hbn rfl] at h1; cases h1
            rw [hbad]
            refine awp_seq ?_
            refine awp_region ?_
            refine aqs rfl (q_as (by constructor)) rfl ?_
            refine alist_nil ?_
            show AWP _ _ _ _
            refine awp_ret ?_
            repeat first | with_reducible refine then_ret ?_ | with_reducible refine blk_ret ?_
            apply retq (.inr rfl) (.cons (rok_t rfl) .nil)
            rotate_left
            · exact ⟨rfl, rfl⟩
            repeat (first | exact List.Sublist.refl _ | exact List.nil_sublist _ | exact List.sublist_append_left _ _ | apply List.Sublist.cons)
          · obtain ⟨hb1, hw1⟩ : b = true ∧ w = x.val := by simpa using hc3
            have hcur : cur (c.take i) x.key = some x.val := by rw [← hw1]; exact hbw hb1
            obtain ⟨s, hs1, hs2⟩ := hsl _ _ hcur
            have hsi := hs2.1
            refine awp_skip ?_
            show AWP _ _ _ _
            refine awp_seq ?_
            refine awp_seq ?_
            refine awp_region ?_
            refine aqs rfl (q_mv (by constructor)) rfl ?_
            first | refine aqs rfl (q_fapP fl103_2 (by decide) rfl rfl) rfl ?_ | refine aqs rfl (q_faP fl103_2 (by decide) rfl (by first | ((repeat constructor); done) | exact .same _)) rfl ?_
            first | refine aqs rfl (q_ldpN ag3 rfl (by repeat (first | exact .here | assumption | (apply HAt.left; assumption) | apply HAt.there | apply HAt.right)) (by first | rfl | assumption | (simp [*]; done) | fail) (by first | rfl | assumption | (simp [*]; done) | fail) (by constructor)) rfl ?_ | refine aqs rfl (q_ld1N ag3 rfl (by constructor)) rfl ?_
            (refine aes rfl (e_lk Try.underlying183 KL3 zv3 rfl (by repeat (first | exact .here | assumption | (apply HAt.left; assumption) | apply HAt.there | apply HAt.right)) (by first | exact kv29 | exact .lit) ⟨_, rfl⟩ (by first | assumption | (intro p hp; cases hp; done))) rfl ?_; rintro rlk _ ⟨hlk, rfl⟩)
            obtain rfl : rlk = .lit (.int .i64 (s : Nat)) := by
              rcases mo_lk ikv_inj hsf (k := x.key) hlk with ⟨v, h1, h2⟩ | ⟨h1, _⟩
              · rw [hs1] at h1
                injection h1 with h1
                rw [h2, ← h1]; rfl
              · rw [hs1] at h1; cases h1
            refine aqs rfl (q_as (by constructor)) rfl ?_
            refine alist_nil ?_
            show AWP _ _ _ _
            rw [hmid0 c i c.length s]
            show AWP _ _ _ _
            refine awp_block ?_
            refine awp_loop_inv (fun k : Nat => ⟨[(12, .lit (.int .i64 k)), (22, .lit (.int .i64 i)), (21, .lit (.int .i64 c.length)), (20, .ro (c.map Call.cells)), (0, .ro (c.map Call.cells)), (1, .lit (.int .i64 r)), (5, .mp u15), (6, .mp u16), (7, .sl u19 0 c.length), (8, .lit (.int .i64 i)), (9, .ptr u9 0 0)], 98, (u9, .arr 103 7 [x.cells]) :: (u19, .arr 3 1 (hmid c i c.length s k)) :: (u16, .map kv2) :: (u15, .map kv1) :: H⟩) (fun k => s ≤ k ∧ k ≤ i) (fun k => i - k) s ?_ ?_ ?_
            · exact ⟨Nat.le_refl _, by omega⟩
            · exact .mk' (by repeat (first | exact trivial | refine ⟨rfl, ?_⟩)) (by repeat (first | exact .refl _ | apply List.Sublist.cons_cons | apply List.Sublist.cons))
            · rintro k ⟨hsk, hki⟩
              have hml : (hmid c i c.length s k).length = c.length := by simp [hmid]
              refine awp_seq ?_
              refine awp_seq ?_
              refine awp_region ?_
              refine aqs rfl (q_mv (by constructor)) rfl ?_
              refine aqs rfl (q_mv (by constructor)) rfl ?_
              refine aqs rfl (q_lss rfl rfl) rfl ?_
              refine alist_nil ?_
              show AWP _ _ _ _
              refine awp_cond rfl (fun hc4 => ?_) (fun hc4 => ?_)
              · simp only [decide_eq_true_eq] at hc4
                have hat := hmid_at (c := c) (i := i) (s := s) (show k < c.length by omega)
                have hhl := handN_le c i k
                have hmn := hmid_next (c := c) (i := i) hsk (show k < c.length by omega)
                refine awp_skip ?_
                show AWP _ _ _ _
                refine awp_seq ?_
                refine awp_block ?_
                refine awp_region ?_
                refine aqs rfl (q_mv (by constructor)) rfl ?_
                refine aqs rfl (q_mv (by constructor)) rfl ?_
                first | refine aqs rfl (q_iaN Try.underlying25 sz3 (.inl rfl) rfl (by omega) (by first | rfl | assumption | (simp [*]; done) | fail) (by first | rfl | assumption | (simp [*]; done) | fail) (by decide) (by first | ((repeat constructor); done) | exact .same _)) rfl ?_ | refine aqs rfl (q_iaS Try.underlying25 sz3 rfl (by repeat (first | exact .here | assumption | (apply HAt.left; assumption) | apply HAt.there | apply HAt.right)) rfl (by omega) (by omega) (by first | exact Nat.zero_add _ | rfl)) rfl ?_ | refine aqs rfl (q_iaN Try.underlying25 sz3 (.inr rfl) rfl (by omega) (by first | rfl | assumption | (simp [*]; done) | fail) (by first | rfl | assumption | (simp [*]; done) | fail) (by decide) (by first | ((repeat constructor); done) | exact .same _)) rfl ?_
                first | refine aqs rfl (q_ldpN ag3 rfl (by repeat (first | exact .here | assumption | (apply HAt.left; assumption) | apply HAt.there | apply HAt.right)) (by first | rfl | assumption | (simp [*]; done) | fail) (by first | rfl | assumption | (simp [*]; done) | fail) (by constructor)) rfl ?_ | refine aqs rfl (q_ld1N ag3 rfl (by constructor)) rfl ?_
                first | refine aqs rfl (q_add64 rfl rfl (by omega) (by omega)) rfl ?_ | refine aqs rfl (q_add rfl rfl) rfl ?_
                first | refine aqs rfl (q_iaN Try.underlying25 sz3 (.inl rfl) rfl (by omega) (by first | rfl | assumption | (simp [*]; done) | fail) (by first | rfl | assumption | (simp [*]; done) | fail) (by decide) (by first | ((repeat constructor); done) | exact .same _)) rfl ?_ | refine aqs rfl (q_iaS Try.underlying25 sz3 rfl (by repeat (first | exact .here | assumption | (apply HAt.left; assumption) | apply HAt.there | apply HAt.right)) rfl (by omega) (by omega) (by first | exact Nat.zero_add _ | rfl)) rfl ?_ | refine aqs rfl (q_iaN Try.underlying25 sz3 (.inr rfl) rfl (by omega) (by first | rfl | assumption | (simp [*]; done) | fail) (by first | rfl | assumption | (simp [*]; done) | fail) (by decide) (by first | ((repeat constructor); done) | exact .same _)) rfl ?_
                first | (refine aen rfl (e_stW sz3 rfl (by repeat (first | exact .here | assumption | (apply HAt.left; assumption) | apply HAt.there | apply HAt.right)) (by constructor) (by first | rfl | assumption | (simp [*]; done) | fail) rfl (by repeat (first | exact .here | apply HSet.there))) ?_; rintro _ _ ⟨rfl, rfl⟩) | (refine aen rfl (e_stP sz3 rfl (by repeat (first | exact .here | assumption | (apply HAt.left; assumption) | apply HAt.there | apply HAt.right)) (by first | rfl | assumption | (simp [*]; done) | fail) (by constructor) (by first | rfl | assumption | (simp [*]; done) | fail) rfl (by first | decide | omega) (by first | ((repeat constructor); done) | exact .same _) (by first | exact .one | exact .set) (by repeat (first | exact .here | apply HSet.there))) ?_; rintro _ _ ⟨rfl, rfl⟩)
                refine alist_nil ?_
                show AWP _ _ _ _
                refine awp_region ?_
                refine aqs rfl (q_mv (by constructor)) rfl ?_
                first | refine aqs rfl (q_add64 rfl rfl (by omega) (by omega)) rfl ?_ | refine aqs rfl (q_add rfl rfl) rfl ?_
                refine aqs rfl (q_as (by constructor)) rfl ?_
                refine alist_nil ?_
                show ∃ y, _ ∧ _ ∧ _
                exact ⟨k + 1, ⟨by omega, by omega⟩, by omega, by rw [← hmn]; exact .mk' ⟨by rfl, rfl, rfl, rfl, rfl, rfl, rfl, rfl, rfl, rfl, rfl, trivial⟩ (by repeat (first | exact List.Sublist.refl _ | exact List.nil_sublist _ | exact List.sublist_append_left _ _ | (apply List.Sublist.cons_cons) | (apply List.Sublist.cons)))⟩
              · simp only [decide_eq_false_iff_not] at hc4
                obtain rfl : k = i := by omega
                have hme := hmid_end (n := c.length) (by omega) hx hhs hs2
                refine awp_exit ?_
                show AWP _ _ _ _
                refine awp_region ?_
                refine aqs rfl (q_mv (by constructor)) rfl ?_
                first | refine aqs rfl (q_fapP fl103_2 (by decide) rfl rfl) rfl ?_ | refine aqs rfl (q_faP fl103_2 (by decide) rfl (by first | ((repeat constructor); done) | exact .same _)) rfl ?_
                first | refine aqs rfl (q_ldpN ag3 rfl (by repeat (first | exact .here | assumption | (apply HAt.left; assumption) | apply HAt.there | apply HAt.right)) (by first | rfl | assumption | (simp [*]; done) | fail) (by first | rfl | assumption | (simp [*]; done) | fail) (by constructor)) rfl ?_ | refine aqs rfl (q_ld1N ag3 rfl (by constructor)) rfl ?_
                refine aqs rfl (q_mv (by constructor)) rfl ?_
                (refine aen rfl (e_mu Try.underlying183 KL3 rfl (by repeat (first | exact .here | assumption | (apply HAt.left; assumption) | apply HAt.there | apply HAt.right)) (by first | exact kv29 | exact .lit) ⟨_, rfl⟩ (by first | assumption | (intro p hp; cases hp; done)) (by constructor) (fun kvs' => (by repeat (first | exact .here | apply HSet.there)))) ?_; rintro _ _ ⟨kvs', hup, rfl⟩)
                have hm2 := mo_up ikv_inj hsf (k := x.key) (v := (k : Int)) hup
                have hnext := lg_has hinv hsl hx hc1 hh hcur hm2
                refine alist_nil ?_
                show AWP _ _ _ _
                refine awp_region ?_
                first | refine aqs rfl (q_add64 rfl rfl (by omega) (by omega)) rfl ?_ | refine aqs rfl (q_add rfl rfl) rfl ?_
                refine aqs rfl (q_mv (by constructor)) rfl ?_
                refine alist_nil ?_
                show ∃ y, _ ∧ _ ∧ _
                first
                  | exact ⟨(i + 1, _, _), ⟨by show i + 1 ≤ c.length; omega, hnext⟩, by show c.length - (i + 1) < c.length - i; omega, by rw [← hrs]; exact .mk' ⟨by rfl, rfl, rfl, rfl, rfl, rfl, rfl, rfl, trivial⟩ (by repeat (first | exact List.Sublist.refl _ | exact List.nil_sublist _ | exact List.sublist_append_left _ _ | (apply List.Sublist.cons_cons) | (apply List.Sublist.cons)))⟩
                  | exact ⟨(k + 1, _, _), ⟨by show k + 1 ≤ c.length; omega, hnext⟩, by show c.length - (k + 1) < c.length - k; omega, by rw [← hme]; exact .mk' ⟨by rfl, rfl, rfl, rfl, rfl, rfl, rfl, rfl, trivial⟩ (by repeat (first | exact List.Sublist.refl _ | exact List.nil_sublist _ | exact List.sublist_append_left _ _ | (apply List.Sublist.cons_cons) | (apply List.Sublist.cons)))⟩
    · simp only [decide_eq_false_iff_not] at hc0
      obtain rfl : i = c.length := by omega
      have hrl : (hrow c c.length c.length).length = c.length := by simp [hrow]
      refine awp_exit ?_
      show AWP _ _ _ _
      refine awp_seq ?_
      refine awp_seq ?_
      refine awp_region ?_
      refine aqs rfl (q_mv (by constructor)) rfl ?_
      first | refine aqs rfl (castQ (r2 := .lit (.int .i64 (c.length : Nat))) (q_len Try.underlying25 .ro) (by rfl)) rfl ?_ | refine aqs rfl (castQ (r2 := .lit (.int .i64 (c.length : Nat))) (q_lenO Try.underlying25 rfl (by repeat (first | exact .here | assumption | (apply HAt.left; assumption) | apply HAt.there | apply HAt.right)) (by first | omega | (simp; done) | (simp; omega) | fail) (by first | exact Nat.sub_zero _ | rfl)) (by rfl)) rfl ?_ | refine aqs rfl (castQ (r2 := .lit (.int .i64 (c.length : Nat))) (q_len Try.underlying25 .nil) (by rfl)) rfl ?_ | refine aqs rfl (castQ (r2 := .lit (.int .i64 (c.length : Nat))) (q_len Try.underlying25 .cro) (by rfl)) rfl ?_
      refine aqs rfl (q_mv (by constructor)) rfl ?_
      refine alist_nil ?_
      show AWP _ _ _ _
      refine awp_block ?_
      refine awp_loop_inv (fun j : Nat => ⟨[(83, .lit (.int .i64 j)), (82, .lit (.int .i64 c.length)), (81, .sl u19 0 c.length), (0, .ro (c.map Call.cells)), (1, .lit (.int .i64 r))], 98, (u19, .arr 3 1 (hrow c c.length c.length)) :: H⟩) (fun j => j ≤ c.length ∧ ∀ m, m < j → (handN c c.length m : Int) ≤ r) (fun j => c.length - j) 0 ?_ ?_ ?_
      · exact ⟨Nat.zero_le _, fun m h => absurd h (Nat.not_lt_zero _)⟩
      · exact .mk' (by repeat (first | exact trivial | refine ⟨rfl, ?_⟩)) (by repeat (first | exact .refl _ | apply List.Sublist.cons_cons | apply List.Sublist.cons))
      · rintro j ⟨hj, hall⟩
        refine awp_seq ?_
        refine awp_region ?_
        refine aqs rfl (q_lss rfl rfl) rfl ?_
        refine alist_nil ?_
        show AWP _ _ _ _
        refine awp_seq ?_
        refine awp_cond rfl (fun hc5 => ?_) (fun hc5 => ?_)
        · simp only [decide_eq_true_eq] at hc5
          have hat : (hrow c c.length c.length)[j]? = some [.lit (.int .i64 (handN c c.length j : Nat))] := by rw [hrow, List.getElem?_map, List.getElem?_range (by omega)]; rfl
          refine awp_skip ?_
          show AWP _ _ _ _
          refine awp_seq ?_
          refine awp_block ?_
          refine awp_seq ?_
          refine awp_region ?_
          first | refine aqs rfl (q_iaN Try.underlying25 sz3 (.inl rfl) rfl (by omega) (by first | rfl | assumption | (simp [*]; done) | fail) (by first | rfl | assumption | (simp [*]; done) | fail) (by decide) (by first | ((repeat constructor); done) | exact .same _)) rfl ?_ | refine aqs rfl (q_iaS Try.underlying25 sz3 rfl (by repeat (first | exact .here | assumption | (apply HAt.left; assumption) | apply HAt.there | apply HAt.right)) rfl (by omega) (by omega) (by first | exact Nat.zero_add _ | rfl)) rfl ?_ | refine aqs rfl (q_iaN Try.underlying25 sz3 (.inr rfl) rfl (by omega) (by first | rfl | assumption | (simp [*]; done) | fail) (by first | rfl | assumption | (simp [*]; done) | fail) (by decide) (by first | ((repeat constructor); done) | exact .same _)) rfl ?_
          first | refine aqs rfl (q_ldpN ag3 rfl (by repeat (first | exact .here | assumption | (apply HAt.left; assumption) | apply HAt.there | apply HAt.right)) (by first | rfl | assumption | (simp [*]; done) | fail) (by first | rfl | assumption | (simp [*]; done) | fail) (by constructor)) rfl ?_ | refine aqs rfl (q_ld1N ag3 rfl (by constructor)) rfl ?_
          refine aqs rfl (q_as (by constructor)) rfl ?_
          refine alist_nil ?_
          show AWP _ _ _ _
          refine awp_seq ?_
          refine awp_region ?_
          refine aqs rfl (q_mv (by constructor)) rfl ?_
          refine aqs rfl (q_mv (by constructor)) rfl ?_
          refine aqs rfl (q_gtr rfl rfl) rfl ?_
          refine alist_nil ?_
          show AWP _ _ _ _
          refine awp_cond rfl (fun hc6 => ?_) (fun hc6 => ?_)
          · have hgt : r < (handN c c.length j : Int) := by simpa using hc6
            have hbad : legal c r = false := by
              cases hlg : legal c r with
              | false => rfl
              | true => have := (legal_iff.1 hlg).2 j (by omega); omega
            rw [hbad]
            refine awp_seq ?_
            refine awp_region ?_
            refine aqs rfl (q_as (by constructor)) rfl ?_
            refine alist_nil ?_
            show AWP _ _ _ _
            refine awp_ret ?_
            repeat first | with_reducible refine then_ret ?_ | with_reducible refine blk_ret ?_
            apply retq (.inr rfl) (.cons (rok_t rfl) .nil)
            rotate_left
            · exact ⟨rfl, rfl⟩
            repeat (first | exact List.Sublist.refl _ | exact List.nil_sublist _ | exact List.sublist_append_left _ _ | apply List.Sublist.cons)
          · have hle : (handN c c.length j : Int) ≤ r := by
              have : ¬ r < (handN c c.length j : Int) := by simpa using hc6
              omega
            refine awp_skip ?_
            show AWP _ _ _ _
            refine awp_region ?_
            first | refine aqs rfl (q_add64 rfl rfl (by omega) (by omega)) rfl ?_ | refine aqs rfl (q_add rfl rfl) rfl ?_
            refine aqs rfl (q_mv (by constructor)) rfl ?_
            refine alist_nil ?_
            show ∃ y, _ ∧ _ ∧ _
            refine ⟨j + 1, ⟨by omega, fun m hm => ?_⟩, by omega, .mk' ⟨by rfl, rfl, rfl, rfl, rfl, trivial⟩ (by repeat (first | exact List.Sublist.refl _ | exact List.nil_sublist _ | exact List.sublist_append_left _ _ | (apply List.Sublist.cons_cons) | (apply List.Sublist.cons)))⟩
            by_cases hmj : m = j
            · subst hmj; exact hle
            · exact hall m (by omega)
        · simp only [decide_eq_false_iff_not] at hc5
          obtain rfl : j = c.length := by omega
          have hgood : legal c r = true := legal_iff.2 ⟨hinv.ok, hall⟩
          have h0 : c.length = 0 ∨ 0 ≤ r := by
            by_cases hz : c.length = 0
            · exact .inl hz
            · have := hall 0 (by omega); exact .inr (by omega)
          have hfin : legal c r = (decide ((c.length : Int) = 0) || decide (0 ≤ r)) := by
            rw [hgood]
            rcases h0 with h | h <;> simp [h]
          rw [hfin]
          refine awp_exit ?_
          show AWP _ _ _ _
          refine awp_mid [(4, .lit (.bool (decide ((c.length : Int) = 0) || decide (0 ≤ r))))] ?_ ?_
          · skip
            refine awp_region ?_
            all_goals (refine aqs rfl (q_mv (by constructor)) rfl ?_)
            all_goals (first | refine aqs rfl (castQ (r2 := .lit (.int .i64 (c.length : Nat))) (q_len Try.underlying90 .ro) (by simp)) rfl ?_ | refine aqs rfl (castQ (r2 := .lit (.int .i64 (c.length : Nat))) (q_lenO Try.underlying90 rfl (by repeat (first | exact .here | assumption | (apply HAt.left; assumption) | apply HAt.there | apply HAt.right)) (by first | omega | (simp; done) | (simp; omega) | fail) (by first | exact Nat.sub_zero _ | rfl)) (by simp)) rfl ?_ | refine aqs rfl (castQ (r2 := .lit (.int .i64 (c.length : Nat))) (q_len Try.underlying90 .nil) (by simp)) rfl ?_ | refine aqs rfl (castQ (r2 := .lit (.int .i64 (c.length : Nat))) (q_len Try.underlying90 .cro) (by simp)) rfl ?_)
            all_goals (refine aqs rfl (q_eql rfl rfl) rfl ?_)
            all_goals (refine aqs rfl (q_mv (by constructor)) rfl ?_)
            all_goals try (refine acase (fun hb3 => ?_) (fun hb3 => ?_))
            all_goals first | (exfalso; cases hb3; done) | skip
            all_goals (first | refine ans rfl rfl ?_ | refine aqs rfl (q_mv (by constructor)) rfl ?_)
            all_goals (first | refine ans rfl rfl ?_ | refine aqs rfl (q_geq rfl rfl) rfl ?_)
            all_goals (first | refine aqs rfl (q_pickT rfl (by constructor)) rfl ?_ | refine aqs rfl (q_pickF rfl (by constructor)) rfl ?_)
            all_goals (refine aqs rfl (q_as (by constructor)) rfl ?_)
            all_goals (refine alist_nil ?_)
            all_goals (exact ⟨rfl, .mk' (by repeat (first | exact trivial | refine ⟨rfl, ?_⟩ | (refine ⟨?_, ?_⟩; (· first | (rw [hb3]; rfl) | fail)))) (by repeat (first | exact .refl _ | exact List.nil_sublist _ | exact List.sublist_append_left _ _ | apply List.Sublist.cons))⟩)
          refine awp_ret ?_
          repeat first | with_reducible refine then_ret ?_ | with_reducible refine blk_ret ?_
          apply retq (.inr rfl) (.cons (rok_t rfl) .nil)
          rotate_left
          · exact ⟨rfl, rfl⟩
          repeat (first | exact List.Sublist.refl _ | exact List.nil_sublist _ | exact List.sublist_append_left _ _ | apply List.Sublist.cons)

set_option maxHeartbeats 16000000 in
theorem legal87s_c (c : List Call) (ex : List Call) (u : Nat) (r : Int) (hl : c.length ≤ 100000) (H : Heap) (hq : HAt H u (.arr 103 7 ((c ++ ex).map Call.cells))) : QCall Try.prog 87 [.sl u 0 c.length, .lit (.int .i64 r)] H (.lit (.bool (legal c r))) := by
  have hcl : c.length ≤ ((c ++ ex).map Call.cells).length := by simp
  refine acall_intro (n := 98) (rvs := [.tmp 4]) Try.func87 rfl rfl rfl (Nat.le_of_ble_eq_true rfl) ?_
  refine awp_seq ?_
  refine awp_region ?_
  refine aqs rfl (q_as (by constructor)) rfl ?_
  refine alist_nil ?_
  show AWP _ _ _ _
  refine awp_seq ?_
  refine awp_region ?_
  (refine aes rfl (e_mm) rfl ?_; rintro _ _ ⟨u15, rfl, rfl⟩)
  refine aqs rfl (q_as (by constructor)) rfl ?_
  refine alist_nil ?_
  show AWP _ _ _ _
  refine awp_seq ?_
  refine awp_region ?_
  (refine aes rfl (e_mm) rfl ?_; rintro _ _ ⟨u16, rfl, rfl⟩)
  refine aqs rfl (q_as (by constructor)) rfl ?_
  refine alist_nil ?_
  show AWP _ _ _ _
  refine awp_seq ?_
  refine awp_region ?_
  refine aqs rfl (q_mv (by constructor)) rfl ?_
  first | refine aqs rfl (castQ (r2 := .lit (.int .i64 (c.length : Nat))) (q_len Try.underlying90 .ro) (by rfl)) rfl ?_ | refine aqs rfl (castQ (r2 := .lit (.int .i64 (c.length : Nat))) (q_lenO Try.underlying90 rfl (by repeat (first | exact .here | assumption | (apply HAt.left; assumption) | apply HAt.there | apply HAt.right)) (by first | omega | (simp; done) | (simp; omega) | fail) (by first | exact Nat.sub_zero _ | rfl)) (by rfl)) rfl ?_ | refine aqs rfl (castQ (r2 := .lit (.int .i64 (c.length : Nat))) (q_len Try.underlying90 .nil) (by rfl)) rfl ?_ | refine aqs rfl (castQ (r2 := .lit (.int .i64 (c.length : Nat))) (q_len Try.underlying90 .cro) (by rfl)) rfl ?_
  (refine aes rfl (e_ms Try.underlying25 sz3 zr3 by3 rfl rfl rfl (by first | ((repeat constructor); done) | exact .same _) rfl (by omega) (by omega) (by omega)) rfl ?_; rintro _ _ ⟨u19, rfl, rfl⟩)
  refine aqs rfl (q_as (by constructor)) rfl ?_
  refine alist_nil ?_
  show AWP _ _ _ _
  refine awp_seq ?_
  refine awp_seq ?_
  refine awp_region ?_
  refine aqs rfl (q_mv (by constructor)) rfl ?_
  first | refine aqs rfl (castQ (r2 := .lit (.int .i64 (c.length : Nat))) (q_len Try.underlying90 .ro) (by rfl)) rfl ?_ | refine aqs rfl (castQ (r2 := .lit (.int .i64 (c.length : Nat))) (q_lenO Try.underlying90 rfl (by repeat (first | exact .here | assumption | (apply HAt.left; assumption) | apply HAt.there | apply HAt.right)) (by first | omega | (simp; done) | (simp; omega) | fail) (by first | exact Nat.sub_zero _ | rfl)) (by rfl)) rfl ?_ | refine aqs rfl (castQ (r2 := .lit (.int .i64 (c.length : Nat))) (q_len Try.underlying90 .nil) (by rfl)) rfl ?_ | refine aqs rfl (castQ (r2 := .lit (.int .i64 (c.length : Nat))) (q_len Try.underlying90 .cro) (by rfl)) rfl ?_
  refine aqs rfl (q_mv (by constructor)) rfl ?_
  refine alist_nil ?_
  show AWP _ _ _ _
  rw [show List.replicate (c.length : Int).toNat [AV.lit (.int .i64 0)] = hrow c 0 c.length from hrow0 c]
  show AWP _ _ _ _
  refine awp_block ?_
  refine awp_loop_inv (fun x : Nat × List (Value × AV) × List (Value × AV) => ⟨[(22, .lit (.int .i64 x.1)), (21, .lit (.int .i64 c.length)), (20, .sl u 0 c.length), (0, .sl u 0 c.length), (1, .lit (.int .i64 r)), (5, .mp u15), (6, .mp u16), (7, .sl u19 0 c.length)], 98, (u19, .arr 3 1 (hrow c x.1 c.length)) :: (u16, .map x.2.2) :: (u15, .map x.2.1) :: H⟩) (fun x => x.1 ≤ c.length ∧ LgInv c x.1 x.2.1 x.2.2) (fun x => c.length - x.1) (0, [], []) ?_ ?_ ?_
  · exact ⟨Nat.zero_le _, lginv0 c⟩
  · exact .mk' (by repeat (first | exact trivial | refine ⟨rfl, ?_⟩)) (by repeat (first | exact .refl _ | apply List.Sublist.cons_cons | apply List.Sublist.cons))
  · rintro ⟨i, kv1, kv2⟩ ⟨hi, hinv⟩
    simp only at hi hinv ⊢
    have hD := mo_int hinv.vals
    obtain ⟨sf, hsf, hsl⟩ := hinv.since
    have hD2 := mo_int hsf
    refine awp_seq ?_
    refine awp_region ?_
    refine aqs rfl (q_lss rfl rfl) rfl ?_
    refine alist_nil ?_
    show AWP _ _ _ _
    refine awp_seq ?_
    refine awp_cond rfl (fun hc0 => ?_) (fun hc0 => ?_)
    · simp only [decide_eq_true_eq] at hc0
      obtain ⟨x, hx, hxm⟩ := get_lt (l := c) (i := i) (by omega)
      have hx2 := get_map (f := Call.cells) (show (c ++ ex)[i]? = some x by rw [List.getElem?_append_left (by omega)]; exact hx)
      refine awp_skip ?_
      show AWP _ _ _ _
      refine awp_seq ?_
      refine awp_block ?_
      refine awp_seq ?_
      refine awp_region ?_
      refine aqs rfl (q_mv (by constructor)) rfl ?_
      first | refine aqs rfl (q_iaN Try.underlying90 sz103 (.inl rfl) rfl (by omega) (by first | rfl | assumption | (simp [*]; done) | fail) (by first | rfl | assumption | (simp [*]; done) | fail) (by decide) (by first | ((repeat constructor); done) | exact .same _)) rfl ?_ | refine aqs rfl (q_iaS Try.underlying90 sz103 rfl (by repeat (first | exact .here | assumption | (apply HAt.left; assumption) | apply HAt.there | apply HAt.right)) rfl (by omega) (by omega) (by first | exact Nat.zero_add _ | rfl)) rfl ?_ | refine aqs rfl (q_iaN Try.underlying90 sz103 (.inr rfl) rfl (by omega) (by first | rfl | assumption | (simp [*]; done) | fail) (by first | rfl | assumption | (simp [*]; done) | fail) (by decide) (by first | ((repeat constructor); done) | exact .same _)) rfl ?_
      first | refine aqs rfl (q_ldpW ag103 sz103 rfl (by repeat (first | exact .here | assumption | (apply HAt.left; assumption) | apply HAt.there | apply HAt.right)) (by first | rfl | assumption | (simp [*]; done) | fail) (by first | rfl | assumption | (simp [*]; done) | fail) (by decide)) rfl ?_ | refine aqs rfl (q_ldW ag103 sz103 rfl (by first | rfl | assumption | (simp [*]; done) | fail)) rfl ?_ | refine aqs rfl (q_ldpP ag103 sz103 rfl (by repeat (first | exact .here | assumption | (apply HAt.left; assumption) | apply HAt.there | apply HAt.right)) (by first | rfl | assumption | (simp [*]; done) | fail) (by first | decide | (simp; done) | omega | fail) (by decide) (by first | ((repeat constructor); done) | exact .same _)) rfl ?_ | refine aqs rfl (q_ldP ag103 sz103 rfl (by first | decide | (simp; done) | omega | fail) (by first | ((repeat constructor); done) | exact .same _)) rfl ?_
      (refine aes rfl (e_al (xs := [.lit (.bool false), .lit (.int .i64 0), .lit (.int .i64 0), .lit (.int .i64 0), .lit (.bool false), .lit (.int .i64 0), .lit (.int .i64 0)]) (k := 7) zr103 (.same _) rfl) rfl ?_; rintro _ _ ⟨u9, rfl, rfl⟩)
      refine aqs rfl (q_as (by constructor)) rfl ?_
      first | (refine aen rfl (e_stW sz103 rfl (by repeat (first | exact .here | assumption | (apply HAt.left; assumption) | apply HAt.there | apply HAt.right)) (by constructor) (by first | rfl | assumption | (simp [*]; done) | fail) rfl (by repeat (first | exact .here | apply HSet.there))) ?_; rintro _ _ ⟨rfl, rfl⟩) | (refine aen rfl (e_stP sz103 rfl (by repeat (first | exact .here | assumption | (apply HAt.left; assumption) | apply HAt.there | apply HAt.right)) (by first | rfl | assumption | (simp [*]; done) | fail) (by constructor) (by first | rfl | assumption | (simp [*]; done) | fail) rfl (by first | decide | omega) (by first | ((repeat constructor); done) | exact .same _) (by first | exact .one | exact .set) (by repeat (first | exact .here | apply HSet.there))) ?_; rintro _ _ ⟨rfl, rfl⟩)
      refine alist_nil ?_
      show AWP _ _ _ _
      refine awp_block ?_
      refine awp_seq ?_
      refine awp_region ?_
      first | refine aqs rfl (q_fapP fl103_0 (by decide) rfl rfl) rfl ?_ | refine aqs rfl (q_faP fl103_0 (by decide) rfl (by first | ((repeat constructor); done) | exact .same _)) rfl ?_
      first | refine aqs rfl (q_ldpN ag4 rfl (by repeat (first | exact .here | assumption | (apply HAt.left; assumption) | apply HAt.there | apply HAt.right)) (by first | rfl | assumption | (simp [*]; done) | fail) (by first | rfl | assumption | (simp [*]; done) | fail) (by constructor)) rfl ?_ | refine aqs rfl (q_ld1N ag4 rfl (by constructor)) rfl ?_
      refine aqs rfl (q_as (by constructor)) rfl ?_
      refine alist_nil ?_
      show AWP _ _ _ _
      refine awp_cond rfl (fun hc1 => ?_) (fun hc1 => ?_)
      · have hrs := hrow_same (n := c.length) (by omega) hx (show isHas x = false by simp [isHas, hc1])
        refine awp_draw 10 [(0, false), (1, false), (2, false), (3, false), (4, false), (5, false), (6, false), (7, false), (8, false), (9, true)] (_ :: _ :: _ :: H) ([_]) mixed (by kernel_rfl) (.cons _ (.cons _ (.cons _ (List.perm_append_singleton _ _).symm))) ?_
        refine glq rfl (.inl ⟨rfl, q_mv (by constructor)⟩) rfl ?_
        first | refine glq rfl (.inl ⟨rfl, q_fapP fl103_2 (by decide) rfl rfl⟩) rfl ?_ | refine glq rfl (.inl ⟨rfl, q_faP fl103_2 (by decide) rfl (by first | ((repeat constructor); done) | exact .same _)⟩) rfl ?_
        first | refine glq rfl (.inl ⟨rfl, q_ldpN ag3 rfl (by repeat (first | exact .here | assumption | (apply HAt.left; assumption) | apply HAt.there | apply HAt.right)) (by first | rfl | assumption | (simp [*]; done) | fail) (by first | rfl | assumption | (simp [*]; done) | fail) (by constructor)⟩) rfl ?_ | refine glq rfl (.inl ⟨rfl, q_ld1N ag3 rfl (by constructor)⟩) rfl ?_
        refine glq rfl (.inl ⟨rfl, q_mv (by constructor)⟩) rfl ?_
        first | refine glq rfl (.inl ⟨rfl, q_fapP fl103_2 (by decide) rfl rfl⟩) rfl ?_ | refine glq rfl (.inl ⟨rfl, q_faP fl103_2 (by decide) rfl (by first | ((repeat constructor); done) | exact .same _)⟩) rfl ?_
        first | refine glq rfl (.inl ⟨rfl, q_ldpN ag3 rfl (by repeat (first | exact .here | assumption | (apply HAt.left; assumption) | apply HAt.there | apply HAt.right)) (by first | rfl | assumption | (simp [*]; done) | fail) (by first | rfl | assumption | (simp [*]; done) | fail) (by constructor)⟩) rfl ?_ | refine glq rfl (.inl ⟨rfl, q_ld1N ag3 rfl (by constructor)⟩) rfl ?_
        first | refine glq rfl (.inl ⟨rfl, q_fapP fl103_3 (by decide) rfl rfl⟩) rfl ?_ | refine glq rfl (.inl ⟨rfl, q_faP fl103_3 (by decide) rfl (by first | ((repeat constructor); done) | exact .same _)⟩) rfl ?_
        first | refine glq rfl (.inl ⟨rfl, q_ldpN ag3 rfl (by repeat (first | exact .here | assumption | (apply HAt.left; assumption) | apply HAt.there | apply HAt.right)) (by first | rfl | assumption | (simp [*]; done) | fail) (by first | rfl | assumption | (simp [*]; done) | fail) (by constructor)⟩) rfl ?_ | refine glq rfl (.inl ⟨rfl, q_ld1N ag3 rfl (by constructor)⟩) rfl ?_
        refine glq rfl (.inl ⟨rfl, q_mv (by constructor)⟩) rfl ?_
        (refine gla rfl rfl (EOp.frame (e_mu Try.underlying183 KL3 rfl (by repeat (first | exact .here | assumption | (apply HAt.left; assumption) | apply HAt.there | apply HAt.right)) (by first | exact kv29 | exact .lit) ⟨_, rfl⟩ (by first | assumption | (intro p hp; cases hp; done)) (by constructor) (fun kvs' => (by repeat (first | exact .here | apply HSet.there))))) rfl ?_; rintro _ _ ⟨kvs', hup, rfl⟩)
        have hm1 := mo_up ikv_inj hinv.vals (k := x.key) (v := x.val) hup
        clear hup
        refine gldA ?_
        (refine aen rfl (e_mu Try.underlying183 KL3 rfl (by repeat (first | exact .here | assumption | (apply HAt.left; assumption) | apply HAt.there | apply HAt.right)) (by first | exact kv29 | exact .lit) ⟨_, rfl⟩ (by first | assumption | (intro p hp; cases hp; done)) (by constructor) (fun kvs' => (by repeat (first | exact .here | apply HSet.there)))) ?_; rintro _ _ ⟨kvs', hup, rfl⟩)
        have hm2 := mo_up ikv_inj hsf (k := x.key) (v := (i : Int)) hup
        have hnext := lg_put hinv hsl hx hc1 hm1 hm2
        refine alist_nil ?_
        show AWP _ _ _ _
        refine awp_perm (.cons _ (.cons _ (.cons _ (List.perm_append_singleton _ _)))) ?_
        show AWP _ _ _ _
        refine awp_region ?_
        first | refine aqs rfl (q_add64 rfl rfl (by omega) (by omega)) rfl ?_ | refine aqs rfl (q_add rfl rfl) rfl ?_
        refine aqs rfl (q_mv (by constructor)) rfl ?_
        refine alist_nil ?_
        show ∃ y, _ ∧ _ ∧ _
        first
          | exact ⟨(i + 1, _, _), ⟨by show i + 1 ≤ c.length; omega, hnext⟩, by show c.length - (i + 1) < c.length - i; omega, by rw [← hrs]; exact .mk' ⟨by rfl, rfl, rfl, rfl, rfl, rfl, rfl, rfl, trivial⟩ (by repeat (first | exact List.Sublist.refl _ | exact List.nil_sublist _ | exact List.sublist_append_left _ _ | (apply List.Sublist.cons_cons) | (apply List.Sublist.cons)))⟩
          | exact ⟨(k + 1, _, _), ⟨by show k + 1 ≤ c.length; omega, hnext⟩, by show c.length - (k + 1) < c.length - k; omega, by rw [← hme]; exact .mk' ⟨by rfl, rfl, rfl, rfl, rfl, rfl, rfl, rfl, trivial⟩ (by repeat (first | exact List.Sublist.refl _ | exact List.nil_sublist _ | exact List.sublist_append_left _ _ | (apply List.Sublist.cons_cons) | (apply List.Sublist.cons)))⟩
      · try simp only [decide_eq_true_eq, decide_eq_false_iff_not, Bool.not_eq_true', Bool.not_eq_false', Bool.not_eq_eq_eq_not, Bool.not_true, Bool.not_false, beq_iff_eq, beq_eq_false_iff_ne, Int.not_lt, Int.not_le] at hc1
        refine awp_seq ?_
        refine awp_region ?_
        first | refine aqs rfl (q_fapP fl103_4 (by decide) rfl rfl) rfl ?_ | refine aqs rfl (q_faP fl103_4 (by decide) rfl (by first | ((repeat constructor); done) | exact .same _)) rfl ?_
        first | refine aqs rfl (q_ldpN ag4 rfl (by repeat (first | exact .here | assumption | (apply HAt.left; assumption) | apply HAt.there | apply HAt.right)) (by first | rfl | assumption | (simp [*]; done) | fail) (by first | rfl | assumption | (simp [*]; done) | fail) (by constructor)) rfl ?_ | refine aqs rfl (q_ld1N ag4 rfl (by constructor)) rfl ?_
        refine aqs rfl (q_not rfl) rfl ?_
        refine aqs rfl (q_as (by constructor)) rfl ?_
        refine alist_nil ?_
        show AWP _ _ _ _
        refine awp_cond rfl (fun hc2 => ?_) (fun hc2 => ?_)
        · have hh : x.has = false := by simpa using hc2
          have hrs := hrow_same (n := c.length) (by omega) hx (show isHas x = false by simp [isHas, hh])
          refine awp_region ?_
          refine aqs rfl (q_mv (by constructor)) rfl ?_
          first | refine aqs rfl (q_fapP fl103_2 (by decide) rfl rfl) rfl ?_ | refine aqs rfl (q_faP fl103_2 (by decide) rfl (by first | ((repeat constructor); done) | exact .same _)) rfl ?_
          first | refine aqs rfl (q_ldpN ag3 rfl (by repeat (first | exact .here | assumption | (apply HAt.left; assumption) | apply HAt.there | apply HAt.right)) (by first | rfl | assumption | (simp [*]; done) | fail) (by first | rfl | assumption | (simp [*]; done) | fail) (by constructor)) rfl ?_ | refine aqs rfl (q_ld1N ag3 rfl (by constructor)) rfl ?_
          (refine aen rfl (e_dl Try.underlying183 KL3 rfl (by repeat (first | exact .here | assumption | (apply HAt.left; assumption) | apply HAt.there | apply HAt.right)) (by first | exact kv29 | exact .lit) ⟨_, rfl⟩ (by first | assumption | (intro p hp; cases hp; done)) rfl (fun kvs' => (by repeat (first | exact .here | apply HSet.there)))) ?_; rintro _ _ ⟨rfl, kvs', hdl, rfl⟩)
          have hm1 := mo_del ikv_inj hinv.vals (k := x.key) hdl
          have hnext := lg_miss hinv hsf hsl hx hc1 hh hm1
          refine alist_nil ?_
          show AWP _ _ _ _
          refine awp_region ?_
          first | refine aqs rfl (q_add64 rfl rfl (by omega) (by omega)) rfl ?_ | refine aqs rfl (q_add rfl rfl) rfl ?_
          refine aqs rfl (q_mv (by constructor)) rfl ?_
          refine alist_nil ?_
          show ∃ y, _ ∧ _ ∧ _
          first
            | exact ⟨(i + 1, _, _), ⟨by show i + 1 ≤ c.length; omega, hnext⟩, by show c.length - (i + 1) < c.length - i; omega, by rw [← hrs]; exact .mk' ⟨by rfl, rfl, rfl, rfl, rfl, rfl, rfl, rfl, trivial⟩ (by repeat (first | exact List.Sublist.refl _ | exact List.nil_sublist _ | exact List.sublist_append_left _ _ | (apply List.Sublist.cons_cons) | (apply List.Sublist.cons)))⟩
            | exact ⟨(k + 1, _, _), ⟨by show k + 1 ≤ c.length; omega, hnext⟩, by show c.length - (k + 1) < c.length - k; omega, by rw [← hme]; exact .mk' ⟨by rfl, rfl, rfl, rfl, rfl, rfl, rfl, rfl, trivial⟩ (by repeat (first | exact List.Sublist.refl _ | exact List.nil_sublist _ | exact List.sublist_append_left _ _ | (apply List.Sublist.cons_cons) | (apply List.Sublist.cons)))⟩
        · have hh : x.has = true := by simpa using hc2
          have hhs : isHas x = true := by simp [isHas, hc1, hh]
          refine awp_seq ?_
          refine awp_region ?_
          refine aqs rfl (q_mv (by constructor)) rfl ?_
          first | refine aqs rfl (q_fapP fl103_2 (by decide) rfl rfl) rfl ?_ | refine aqs rfl (q_faP fl103_2 (by decide) rfl (by first | ((repeat constructor); done) | exact .same _)) rfl ?_
          first | refine aqs rfl (q_ldpN ag3 rfl (by repeat (first | exact .here | assumption | (apply HAt.left; assumption) | apply HAt.there | apply HAt.right)) (by first | rfl | assumption | (simp [*]; done) | fail) (by first | rfl | assumption | (simp [*]; done) | fail) (by constructor)) rfl ?_ | refine aqs rfl (q_ld1N ag3 rfl (by constructor)) rfl ?_
          (refine aes rfl (e_lk2 Try.underlying183 KL3 zv3 rfl (by repeat (first | exact .here | assumption | (apply HAt.left; assumption) | apply HAt.there | apply HAt.right)) (by first | exact kv29 | exact .lit) ⟨_, rfl⟩ (by first | assumption | (intro p hp; cases hp; done))) rfl ?_; rintro rlk _ ⟨hlk, rfl⟩)
          obtain ⟨b, w, rfl, hbw, hbn⟩ : ∃ (b : Bool) (w : Int), rlk = .tup [.lit (.int .i64 w), .lit (.bool b)] ∧ (b = true → cur (c.take i) x.key = some w) ∧ (b = false → cur (c.take i) x.key = none) := by
            rcases mo_lk2 ikv_inj hinv.vals (k := x.key) hlk with ⟨v, h1, rfl⟩ | ⟨h1, rfl⟩
            · exact ⟨true, v, rfl, fun _ => h1, fun h => (by cases h)⟩
            · exact ⟨false, 0, rfl, fun h => (by cases h), fun _ => h1⟩
          refine aqs rfl (q_mv (by constructor)) rfl ?_
          refine aqs rfl (q_ex rfl rfl (by constructor)) rfl ?_
          refine aqs rfl (q_ex rfl rfl (by constructor)) rfl ?_
          refine aqs rfl (q_as (by constructor)) rfl ?_
          refine aqs rfl (q_as (by constructor)) rfl ?_
          refine alist_nil ?_
          show AWP _ _ _ _
          refine awp_seq ?_
          refine awp_mid [(41, .lit (.bool (!b || !decide (w = x.val)))), (22, .lit (.int .i64 i)), (21, .lit (.int .i64 c.length)), (20, .sl u 0 c.length), (0, .sl u 0 c.length), (1, .lit (.int .i64 r)), (5, .mp u15), (6, .mp u16), (7, .sl u19 0 c.length), (8, .lit (.int .i64 i)), (9, .ptr u9 0 0)] ?_ ?_
          · skip
            refine awp_region ?_
            all_goals (refine aqs rfl (q_mv (by constructor)) rfl ?_)
            all_goals (refine aqs rfl (q_not rfl) rfl ?_)
            all_goals (refine aqs rfl (q_mv (by constructor)) rfl ?_)
            all_goals try (refine acase (fun hb2 => ?_) (fun hb2 => ?_))
            all_goals first | (exfalso; cases hb2; done) | skip
            all_goals (first | refine ans rfl rfl ?_ | refine aqs rfl (q_mv (by constructor)) rfl ?_)
            all_goals (first | refine ans rfl rfl ?_ | refine aqs rfl (q_fapP fl103_3 (by decide) rfl rfl) rfl ?_ | refine aqs rfl (q_faP fl103_3 (by decide) rfl (by first | ((repeat constructor); done) | exact .same _)) rfl ?_)
            all_goals (first | refine ans rfl rfl ?_ | refine aqs rfl (q_ldpN ag3 rfl (by repeat (first | exact .here | assumption | (apply HAt.left; assumption) | apply HAt.there | apply HAt.right)) (by first | rfl | assumption | (simp [*]; done) | fail) (by first | rfl | assumption | (simp [*]; done) | fail) (by constructor)) rfl ?_ | refine aqs rfl (q_ld1N ag3 rfl (by constructor)) rfl ?_)
            all_goals (first | refine ans rfl rfl ?_ | refine aqs rfl (q_neq rfl rfl) rfl ?_)
            all_goals (first | refine aqs rfl (q_pickT rfl (by constructor)) rfl ?_ | refine aqs rfl (q_pickF rfl (by constructor)) rfl ?_)
            all_goals (refine alist_nil ?_)
            all_goals (exact ⟨rfl, .mk' (by repeat (first | exact trivial | refine ⟨rfl, ?_⟩ | (refine ⟨?_, ?_⟩; (· first | (rw [hb2]; rfl) | fail)))) (by repeat (first | exact .refl _ | exact List.nil_sublist _ | exact List.sublist_append_left _ _ | apply List.Sublist.cons))⟩)
          refine awp_cond rfl (fun hc3 => ?_) (fun hc3 => ?_)
          · have hbad : legal c r = false := by
              cases hlg : legal c r with
              | false => rfl
              | true =>
                have h1 := (legal_iff.1 hlg).1 i (by omega)
                unfold valOk at h1
                rw [hx] at h1
                simp only [hhs, Bool.not_true, Bool.false_or, decide_eq_true_eq] at h1
                cases b with
                | true =>
                  rw [hbw rfl] at h1
                  injection h1 with h1
                  rw [h1] at hc3
                  simp at hc3
                | false => rw [hbn rfl] at h1; cases h1
            rw [hbad]
            refine awp_seq ?_
            refine awp_region ?_
            refine aqs rfl (q_as (by constructor)) rfl ?_
            refine alist_nil ?_
            show AWP _ _ _ _
            refine awp_ret ?_
            repeat first | with_reducible refine then_ret ?_ | with_reducible refine blk_ret ?_
            apply retq (.inr rfl) (.cons (rok_t rfl) .nil)
            rotate_left
            · exact ⟨rfl, rfl⟩
            repeat (first | exact List.Sublist.refl _ | exact List.nil_sublist _ | exact List.sublist_append_left _ _ | apply List.Sublist.cons)
          · obtain ⟨hb1, hw1⟩ : b = true ∧ w = x.val := by simpa using hc3
            have hcur : cur (c.take i) x.key = some x.val := by rw [← hw1]; exact hbw hb1
            obtain ⟨s, hs1, hs2⟩ := hsl _ _ hcur
            have hsi := hs2.1
            refine awp_skip ?_
            show AWP _ _ _ _
            refine awp_seq ?_
            refine awp_seq ?_
            refine awp_region ?_
            refine aqs rfl (q_mv (by constructor)) rfl ?_
            first | refine aqs rfl (q_fapP fl103_2 (by decide) rfl rfl) rfl ?_ | refine aqs rfl (q_faP fl103_2 (by decide) rfl (by first | ((repeat constructor); done) | exact .same _)) rfl ?_
            first | refine aqs rfl (q_ldpN ag3 rfl (by repeat (first | exact .here | assumption | (apply HAt.left; assumption) | apply HAt.there | apply HAt.right)) (by first | rfl | assumption | (simp [*]; done) | fail) (by first | rfl | assumption | (simp [*]; done) | fail) (by constructor)) rfl ?_ | refine aqs rfl (q_ld1N ag3 rfl (by constructor)) rfl ?_
            (refine aes rfl (e_lk Try.underlying183 KL3 zv3 rfl (by repeat (first | exact .here | assumption | (apply HAt.left; assumption) | apply HAt.there | apply HAt.right)) (by first | exact kv29 | exact .lit) ⟨_, rfl⟩ (by first | assumption | (intro p hp; cases hp; done))) rfl ?_; rintro rlk _ ⟨hlk, rfl⟩)
            obtain rfl : rlk = .lit (.int .i64 (s : Nat)) := by
              rcases mo_lk ikv_inj hsf (k := x.key) hlk with ⟨v, h1, h2⟩ | ⟨h1, _⟩
              · rw [hs1] at h1
                injection h1 with h1
                rw [h2, ← h1]; rfl
              · rw [hs1] at h1; cases h1
            refine aqs rfl (q_as (by constructor)) rfl ?_
            refine alist_nil ?_
            show AWP _ _ _ _
            rw [hmid0 c i c.length s]
            show AWP _ _ _ _
            refine awp_block ?_
            refine awp_loop_inv (fun k : Nat => ⟨[(12, .lit (.int .i64 k)), (22, .lit (.int .i64 i)), (21, .lit (.int .i64 c.length)), (20, .sl u 0 c.length), (0, .sl u 0 c.length), (1, .lit (.int .i64 r)), (5, .mp u15), (6, .mp u16), (7, .sl u19 0 c.length), (8, .lit (.int .i64 i)), (9, .ptr u9 0 0)], 98, (u9, .arr 103 7 [x.cells]) :: (u19, .arr 3 1 (hmid c i c.length s k)) :: (u16, .map kv2) :: (u15, .map kv1) :: H⟩) (fun k => s ≤ k ∧ k ≤ i) (fun k => i - k) s ?_ ?_ ?_
            · exact ⟨Nat.le_refl _, by omega⟩
            · exact .mk' (by repeat (first | exact trivial | refine ⟨rfl, ?_⟩)) (by repeat (first | exact .refl _ | apply List.Sublist.cons_cons | apply List.Sublist.cons))
            · rintro k ⟨hsk, hki⟩
              have hml : (hmid c i c.length s k).length = c.length := by simp [hmid]
              refine awp_seq ?_
              refine awp_seq ?_
              refine awp_region ?_
              refine aqs rfl (q_mv (by constructor)) rfl ?_
              refine aqs rfl (q_mv (by constructor)) rfl ?_
              refine aqs rfl (q_lss rfl rfl) rfl ?_
              refine alist_nil ?_
              show AWP _ _ _ _
              refine awp_cond rfl (fun hc4 => ?_) (fun hc4 => ?_)
              · simp only [decide_eq_true_eq] at hc4
                have hat := hmid_at (c := c) (i := i) (s := s) (show k < c.length by omega)
                have hhl := handN_le c i k
                have hmn := hmid_next (c := c) (i := i) hsk (show k < c.length by omega)
                refine awp_skip ?_
                show AWP _ _ _ _
                refine awp_seq ?_
                refine awp_block ?_
                refine awp_region ?_
                refine aqs rfl (q_mv (by constructor)) rfl ?_
                refine aqs rfl (q_mv (by constructor)) rfl ?_
                first | refine aqs rfl (q_iaN Try.underlying25 sz3 (.inl rfl) rfl (by omega) (by first | rfl | assumption | (simp [*]; done) | fail) (by first | rfl | assumption | (simp [*]; done) | fail) (by decide) (by first | ((repeat constructor); done) | exact .same _)) rfl ?_ | refine aqs rfl (q_iaS Try.underlying25 sz3 rfl (by repeat (first | exact .here | assumption | (apply HAt.left; assumption) | apply HAt.there | apply HAt.right)) rfl (by omega) (by omega) (by first | exact Nat.zero_add _ | rfl)) rfl ?_ | refine aqs rfl (q_iaN Try.underlying25 sz3 (.inr rfl) rfl (by omega) (by first | rfl | assumption | (simp [*]; done) | fail) (by first | rfl | assumption | (simp [*]; done) | fail) (by decide) (by first | ((repeat constructor); done) | exact .same _)) rfl ?_
                first | refine aqs rfl (q_ldpN ag3 rfl (by repeat (first | exact .here | assumption | (apply HAt.left; assumption) | apply HAt.there | apply HAt.right)) (by first | rfl | assumption | (simp [*]; done) | fail) (by first | rfl | assumption | (simp [*]; done) | fail) (by constructor)) rfl ?_ | refine aqs rfl (q_ld1N ag3 rfl (by constructor)) rfl ?_
                first | refine aqs rfl (q_add64 rfl rfl (by omega) (by omega)) rfl ?_ | refine aqs rfl (q_add rfl rfl) rfl ?_
                first | refine aqs rfl (q_iaN Try.underlying25 sz3 (.inl rfl) rfl (by omega) (by first | rfl | assumption | (simp [*]; done) | fail) (by first | rfl | assumption | (simp [*]; done) | fail) (by decide) (by first | ((repeat constructor); done) | exact .same _)) rfl ?_ | refine aqs rfl (q_iaS Try.underlying25 sz3 rfl (by repeat (first | exact .here | assumption | (apply HAt.left; assumption) | apply HAt.there | apply HAt.right)) rfl (by omega) (by omega) (by first | exact Nat.zero_add _ | rfl)) rfl ?_ | refine aqs rfl (q_iaN Try.underlying25 sz3 (.inr rfl) rfl (by omega) (by first | rfl | assumption | (simp [*]; done) | fail) (by first | rfl | assumption | (simp [*]; done) | fail) (by decide) (by first | ((repeat constructor); done) | exact .same _)) rfl ?_
                first | (refine aen rfl (e_stW sz3 rfl (by repeat (first | exact .here | assumption | (apply HAt.left; assumption) | apply HAt.there | apply HAt.right)) (by constructor) (by first | rfl | assumption | (simp [*]; done) | fail) rfl (by repeat (first | exact .here | apply HSet.there))) ?_; rintro _ _ ⟨rfl, rfl⟩) | (refine aen rfl (e_stP sz3 rfl (by repeat (first | exact .here | assumption | (apply HAt.left; assumption) | apply HAt.there | apply HAt.right)) (by first | rfl | assumption | (simp [*]; done) | fail) (by constructor) (by first | rfl | assumption | (simp [*]; done) | fail) rfl (by first | decide | omega) (by first | ((repeat constructor); done) | exact .same _) (by first | exact .one | exact .set) (by repeat (first | exact .here | apply HSet.there))) ?_; rintro _ _ ⟨rfl, rfl⟩)
                refine alist_nil ?_
                show AWP _ _ _ _
                refine awp_region ?_
                refine aqs rfl (q_mv (by constructor)) rfl ?_
                first | refine aqs rfl (q_add64 rfl rfl (by omega) (by omega)) rfl ?_ | refine aqs rfl (q_add rfl rfl) rfl ?_
                refine aqs rfl (q_as (by constructor)) rfl ?_
                refine alist_nil ?_
                show ∃ y, _ ∧ _ ∧ _
                exact ⟨k + 1, ⟨by omega, by omega⟩, by omega, by rw [← hmn]; exact .mk' ⟨by rfl, rfl, rfl, rfl, rfl, rfl, rfl, rfl, rfl, rfl, rfl, trivial⟩ (by repeat (first | exact List.Sublist.refl _ | exact List.nil_sublist _ | exact List.sublist_append_left _ _ | (apply List.Sublist.cons_cons) | (apply List.Sublist.cons)))⟩
              · simp only [decide_eq_false_iff_not] at hc4
                obtain rfl : k = i := by omega
                have hme := hmid_end (n := c.length) (by omega) hx hhs hs2
                refine awp_exit ?_
                show AWP _ _ _ _
                refine awp_region ?_
                refine aqs rfl (q_mv (by constructor)) rfl ?_
                first | refine aqs rfl (q_fapP fl103_2 (by decide) rfl rfl) rfl ?_ | refine aqs rfl (q_faP fl103_2 (by decide) rfl (by first | ((repeat constructor); done) | exact .same _)) rfl ?_
                first | refine aqs rfl (q_ldpN ag3 rfl (by repeat (first | exact .here | assumption | (apply HAt.left; assumption) | apply HAt.there | apply HAt.right)) (by first | rfl | assumption | (simp [*]; done) | fail) (by first | rfl | assumption | (simp [*]; done) | fail) (by constructor)) rfl ?_ | refine aqs rfl (q_ld1N ag3 rfl (by constructor)) rfl ?_
                refine aqs rfl (q_mv (by constructor)) rfl ?_
                (refine aen rfl (e_mu Try.underlying183 KL3 rfl (by repeat (first | exact .here | assumption | (apply HAt.left; assumption) | apply HAt.there | apply HAt.right)) (by first | exact kv29 | exact .lit) ⟨_, rfl⟩ (by first | assumption | (intro p hp; cases hp; done)) (by constructor) (fun kvs' => (by repeat (first | exact .here | apply HSet.there)))) ?_; rintro _ _ ⟨kvs', hup, rfl⟩)
                have hm2 := mo_up ikv_inj hsf (k := x.key) (v := (k : Int)) hup
                have hnext := lg_has hinv hsl hx hc1 hh hcur hm2
                refine alist_nil ?_
                show AWP _ _ _ _
                refine awp_region ?_
                first | refine aqs rfl (q_add64 rfl rfl (by omega) (by omega)) rfl ?_ | refine aqs rfl (q_add rfl rfl) rfl ?_
                refine aqs rfl (q_mv (by constructor)) rfl ?_
                refine alist_nil ?_
                show ∃ y, _ ∧ _ ∧ _
                first
                  | exact ⟨(i + 1, _, _), ⟨by show i + 1 ≤ c.length; omega, hnext⟩, by show c.length - (i + 1) < c.length - i; omega, by rw [← hrs]; exact .mk' ⟨by rfl, rfl, rfl, rfl, rfl, rfl, rfl, rfl, trivial⟩ (by repeat (first | exact List.Sublist.refl _ | exact List.nil_sublist _ | exact List.sublist_append_left _ _ | (apply List.Sublist.cons_cons) | (apply List.Sublist.cons)))⟩
                  | exact ⟨(k + 1, _, _), ⟨by show k + 1 ≤ c.length; omega, hnext⟩, by show c.length - (k + 1) < c.length - k; omega, by rw [← hme]; exact .mk' ⟨by rfl, rfl, rfl, rfl, rfl, rfl, rfl, rfl, trivial⟩ (by repeat (first | exact List.Sublist.refl _ | exact List.nil_sublist _ | exact List.sublist_append_left _ _ | (apply List.Sublist.cons_cons) | (apply List.Sublist.cons)))⟩
    · simp only [decide_eq_false_iff_not] at hc0
      obtain rfl : i = c.length := by omega
      have hrl : (hrow c c.length c.length).length = c.length := by simp [hrow]
      refine awp_exit ?_
      show AWP _ _ _ _
      refine awp_seq ?_
      refine awp_seq ?_
      refine awp_region ?_
      refine aqs rfl (q_mv (by constructor)) rfl ?_
      first | refine aqs rfl (castQ (r2 := .lit (.int .i64 (c.length : Nat))) (q_len Try.underlying25 .ro) (by rfl)) rfl ?_ | refine aqs rfl (castQ (r2 := .lit (.int .i64 (c.length : Nat))) (q_lenO Try.underlying25 rfl (by repeat (first | exact .here | assumption | (apply HAt.left; assumption) | apply HAt.there | apply HAt.right)) (by first | omega | (simp; done) | (simp; omega) | fail) (by first | exact Nat.sub_zero _ | rfl)) (by rfl)) rfl ?_ | refine aqs rfl (castQ (r2 := .lit (.int .i64 (c.length : Nat))) (q_len Try.underlying25 .nil) (by rfl)) rfl ?_ | refine aqs rfl (castQ (r2 := .lit (.int .i64 (c.length : Nat))) (q_len Try.underlying25 .cro) (by rfl)) rfl ?_
      refine aqs rfl (q_mv (by constructor)) rfl ?_
      refine alist_nil ?_
      show AWP _ _ _ _
      refine awp_block ?_
      refine awp_loop_inv (fun j : Nat => ⟨[(83, .lit (.int .i64 j)), (82, .lit (.int .i64 c.length)), (81, .sl u19 0 c.length), (0, .sl u 0 c.length), (1, .lit (.int .i64 r))], 98, (u19, .arr 3 1 (hrow c c.length c.length)) :: H⟩) (fun j => j ≤ c.length ∧ ∀ m, m < j → (handN c c.length m : Int) ≤ r) (fun j => c.length - j) 0 ?_ ?_ ?_
      · exact ⟨Nat.zero_le _, fun m h => absurd h (Nat.not_lt_zero _)⟩
      · exact .mk' (by repeat (first | exact trivial | refine ⟨rfl, ?_⟩)) (by repeat (first | exact .refl _ | apply List.Sublist.cons_cons | apply List.Sublist.cons))
      · rintro j ⟨hj, hall⟩
        refine awp_seq ?_
        refine awp_region ?_
        refine aqs rfl (q_lss rfl rfl) rfl ?_
        refine alist_nil ?_
        show AWP _ _ _ _
        refine awp_seq ?_
        refine awp_cond rfl (fun hc5 => ?_) (fun hc5 => ?_)
        · simp only [decide_eq_true_eq] at hc5
          have hat : (hrow c c.length c.length)[j]? = some [.lit (.int .i64 (handN c c.length j : Nat))] := by rw [hrow, List.getElem?_map, List.getElem?_range (by omega)]; rfl
          refine awp_skip ?_
          show AWP _ _ _ _
          refine awp_seq ?_
          refine awp_block ?_
          refine awp_seq ?_
          refine awp_region ?_
          first | refine aqs rfl (q_iaN Try.underlying25 sz3 (.inl rfl) rfl (by omega) (by first | rfl | assumption | (simp [*]; done) | fail) (by first | rfl | assumption | (simp [*]; done) | fail) (by decide) (by first | ((repeat constructor); done) | exact .same _)) rfl ?_ | refine aqs rfl (q_iaS Try.underlying25 sz3 rfl (by repeat (first | exact .here | assumption | (apply HAt.left; assumption) | apply HAt.there | apply HAt.right)) rfl (by omega) (by omega) (by first | exact Nat.zero_add _ | rfl)) rfl ?_ | refine aqs rfl (q_iaN Try.underlying25 sz3 (.inr rfl) rfl (by omega) (by first | rfl | assumption | (simp [*]; done) | fail) (by first | rfl | assumption | (simp [*]; done) | fail) (by decide) (by first | ((repeat constructor); done) | exact .same _)) rfl ?_
          first | refine aqs rfl (q_ldpN ag3 rfl (by repeat (first | exact .here | assumption | (apply HAt.left; assumption) | apply HAt.there | apply HAt.right)) (by first | rfl | assumption | (simp [*]; done) | fail) (by first | rfl | assumption | (simp [*]; done) | fail) (by constructor)) rfl ?_ | refine aqs rfl (q_ld1N ag3 rfl (by constructor)) rfl ?_
          refine aqs rfl (q_as (by constructor)) rfl ?_
          refine alist_nil ?_
          show AWP _ _ _ _
          refine awp_seq ?_
          refine awp_region ?_
          refine aqs rfl (q_mv (by constructor)) rfl ?_
          refine aqs rfl (q_mv (by constructor)) rfl ?_
          refine aqs rfl (q_gtr rfl rfl) rfl ?_
          refine alist_nil ?_
          show AWP _ _ _ _
          refine awp_cond rfl (fun hc6 => ?_) (fun hc6 => ?_)
          · have hgt : r < (handN c c.length j : Int) := by simpa using hc6
            have hbad : legal c r = false := by
              cases hlg : legal c r with
              | false => rfl
              | true => have := (legal_iff.1 hlg).2 j (by omega); omega
            rw [hbad]
            refine awp_seq ?_
            refine awp_region ?_
            refine aqs rfl (q_as (by constructor)) rfl ?_
            refine alist_nil ?_
            show AWP _ _ _ _
            refine awp_ret ?_
            repeat first | with_reducible refine then_ret ?_ | with_reducible refine blk_ret ?_
            apply retq (.inr rfl) (.cons (rok_t rfl) .nil)
            rotate_left
            · exact ⟨rfl, rfl⟩
            repeat (first | exact List.Sublist.refl _ | exact List.nil_sublist _ | exact List.sublist_append_left _ _ | apply List.Sublist.cons)
          · have hle : (handN c c.length j : Int) ≤ r := by
              have : ¬ r < (handN c c.length j : Int) := by simpa using hc6
              omega
            refine awp_skip ?_
            show AWP _ _ _ _
            refine awp_region ?_
            first | refine aqs rfl (q_add64 rfl rfl (by omega) (by omega)) rfl ?_ | refine aqs rfl (q_add rfl rfl) rfl ?_
            refine aqs rfl (q_mv (by constructor)) rfl ?_
            refine alist_nil ?_
            show ∃ y, _ ∧ _ ∧ _
            refine ⟨j + 1, ⟨by omega, fun m hm => ?_⟩, by omega, .mk' ⟨by rfl, rfl, rfl, rfl, rfl, trivial⟩ (by repeat (first | exact List.Sublist.refl _ | exact List.nil_sublist _ | exact List.sublist_append_left _ _ | (apply List.Sublist.cons_cons) | (apply List.Sublist.cons)))⟩
            by_cases hmj : m = j
            · subst hmj; exact hle
            · exact hall m (by omega)
        · simp only [decide_eq_false_iff_not] at hc5
          obtain rfl : j = c.length := by omega
          have hgood : legal c r = true := legal_iff.2 ⟨hinv.ok, hall⟩
          have h0 : c.length = 0 ∨ 0 ≤ r := by
            by_cases hz : c.length = 0
            · exact .inl hz
            · have := hall 0 (by omega); exact .inr (by omega)
          have hfin : legal c r = (decide ((c.length : Int) = 0) || decide (0 ≤ r)) := by
            rw [hgood]
            rcases h0 with h | h <;> simp [h]
          rw [hfin]
          refine awp_exit ?_
          show AWP _ _ _ _
          refine awp_mid [(4, .lit (.bool (decide ((c.length : Int) = 0) || decide (0 ≤ r))))] ?_ ?_
          · skip
            refine awp_region ?_
            all_goals (refine aqs rfl (q_mv (by constructor)) rfl ?_)
            all_goals (first | refine aqs rfl (castQ (r2 := .lit (.int .i64 (c.length : Nat))) (q_len Try.underlying90 .ro) (by rfl)) rfl ?_ | refine aqs rfl (castQ (r2 := .lit (.int .i64 (c.length : Nat))) (q_lenO Try.underlying90 rfl (by repeat (first | exact .here | assumption | (apply HAt.left; assumption) | apply HAt.there | apply HAt.right)) (by first | omega | (simp; done) | (simp; omega) | fail) (by first | exact Nat.sub_zero _ | rfl)) (by rfl)) rfl ?_ | refine aqs rfl (castQ (r2 := .lit (.int .i64 (c.length : Nat))) (q_len Try.underlying90 .nil) (by rfl)) rfl ?_ | refine aqs rfl (castQ (r2 := .lit (.int .i64 (c.length : Nat))) (q_len Try.underlying90 .cro) (by rfl)) rfl ?_)
            all_goals (refine aqs rfl (q_eql rfl rfl) rfl ?_)
            all_goals (refine aqs rfl (q_mv (by constructor)) rfl ?_)
            all_goals try (refine acase (fun hb3 => ?_) (fun hb3 => ?_))
            all_goals first | (exfalso; cases hb3; done) | skip
            all_goals (first | refine ans rfl rfl ?_ | refine aqs rfl (q_mv (by constructor)) rfl ?_)
            all_goals (first | refine ans rfl rfl ?_ | refine aqs rfl (q_geq rfl rfl) rfl ?_)
            all_goals (first | refine aqs rfl (q_pickT rfl (by constructor)) rfl ?_ | refine aqs rfl (q_pickF rfl (by constructor)) rfl ?_)
            all_goals (refine aqs rfl (q_as (by constructor)) rfl ?_)
            all_goals (refine alist_nil ?_)
            all_goals (exact ⟨rfl, .mk' (by repeat (first | exact trivial | refine ⟨rfl, ?_⟩ | (refine ⟨?_, ?_⟩; (· first | (rw [hb3]; rfl) | fail)))) (by repeat (first | exact .refl _ | exact List.nil_sublist _ | exact List.sublist_append_left _ _ | apply List.Sublist.cons))⟩)
          refine awp_ret ?_
          repeat first | with_reducible refine then_ret ?_ | with_reducible refine blk_ret ?_
          apply retq (.inr rfl) (.cons (rok_t rfl) .nil)
          rotate_left
          · exact ⟨rfl, rfl⟩
          repeat (first | exact List.Sublist.refl _ | exact List.nil_sublist _ | exact List.sublist_append_left _ _ | apply List.Sublist.cons)
end Go.Proofs.YtdlinfekifnmkaaAm
