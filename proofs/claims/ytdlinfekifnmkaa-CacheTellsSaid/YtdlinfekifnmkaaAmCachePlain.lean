/- The plain laws of layer 14, first part: what stays right. Conditions: none. -/
import Derived.Test.YtdlinfekifnmkaaAmLruHist
set_option linter.unusedVariables false
set_option linter.unusedSimpArgs false
namespace Go.Proofs.YtdlinfekifnmkaaAm
open Go.Proofs
structure Cach where
  width : Int
  room : Int
  parts : List (List Slot)
  hits : Int
  misses : Int
  clashes : Int
  evicted : Int
  deriving DecidableEq
def partCells (l : List Slot) : List AV := [.ro (l.map Slot.cells)]
abbrev Cach.cells (c : Cach) : List AV := [.lit (.int .i64 c.width), .lit (.int .i64 c.room), .ro (c.parts.map partCells), .lit (.int .i64 c.hits), .lit (.int .i64 c.misses), .lit (.int .i64 c.clashes), .lit (.int .i64 c.evicted)]
def zeroC : Cach := ⟨0, 0, [], 0, 0, 0, 0⟩
def maxCount : Int := 1099511627776
def countUp (n : Int) : Int := min (n + 1) maxCount
def cFits (p r w : Int) : Bool := (decide (1 ≤ p) && decide (p ≤ 16)) && ((decide (0 ≤ r) && decide (r ≤ 4096)) && (decide (0 ≤ w) && decide (w ≤ 64)))
def cCount (n : Int) : Bool := decide (0 ≤ n) && decide (n ≤ maxCount)
def pt (c : Cach) (i : Nat) : List Slot := c.parts.getD i []
def roomOf (c : Cach) (i : Nat) : Int := c.room / c.parts.length + if (i : Int) < c.room % c.parts.length then 1 else 0
def partOf (c : Cach) (k : Key) : Int := k.sum % c.parts.length
def slotOk (c : Cach) (i : Nat) (s : Slot) : Bool := decide (s.key = bothS s.left s.right c.width) && decide (partOf c s.key = i)
def partOk (c : Cach) (i : Nat) : Bool := (rightB (pt c i) && decide (((pt c i).length : Int) ≤ roomOf c i)) && (pt c i).all (slotOk c i)
def cRight (c : Cach) : Bool := cFits c.parts.length c.room c.width && ((cCount c.hits && (cCount c.misses && (cCount c.clashes && cCount c.evicted))) && (List.range c.parts.length).all (partOk c))
structure CRight (c : Cach) : Prop where
  n1 : 1 ≤ c.parts.length
  n16 : c.parts.length ≤ 16
  room : 0 ≤ c.room ∧ c.room ≤ 4096
  width : 0 ≤ c.width ∧ c.width ≤ 64
  hits : 0 ≤ c.hits ∧ c.hits ≤ maxCount
  misses : 0 ≤ c.misses ∧ c.misses ≤ maxCount
  clashes : 0 ≤ c.clashes ∧ c.clashes ≤ maxCount
  evicted : 0 ≤ c.evicted ∧ c.evicted ≤ maxCount
  alone : ∀ i, i < c.parts.length → rightB (pt c i) = true
  len : ∀ i, i < c.parts.length → ((pt c i).length : Int) ≤ roomOf c i
  key : ∀ i, i < c.parts.length → ∀ s ∈ pt c i, s.key = bothS s.left s.right c.width ∧ partOf c s.key = i
theorem cright_iff {c : Cach} : cRight c = true ↔ CRight c := by
  unfold cRight cFits cCount
  simp only [Bool.and_eq_true, decide_eq_true_eq, List.all_eq_true, List.mem_range, partOk, slotOk]
  constructor
  · rintro ⟨⟨a1, a2, a3⟩, ⟨b1, b2, b3, b4⟩, h⟩
    exact ⟨by omega, by omega, a2, a3, b1, b2, b3, b4, fun i hi => (h i hi).1.1, fun i hi => (h i hi).1.2, fun i hi s hs => (h i hi).2 s hs⟩
  · intro h
    have h1 := h.n1
    have h2 := h.n16
    exact ⟨⟨by omega, h.room, h.width⟩, ⟨h.hits, h.misses, h.clashes, h.evicted⟩, fun i hi => ⟨⟨h.alone i hi, h.len i hi⟩, h.key i hi⟩⟩
def keyOf (c : Cach) (l r : ByteArray) : Key := bothS l r c.width
def atOfC (c : Cach) (l r : ByteArray) : Nat := (partOf c (keyOf c l r)).toNat
def getC (c : Cach) (l r : ByteArray) : ByteArray × Cach × Int :=
  if cRight c = false then (⟨#[]⟩, zeroC, 1)
  else if ¬ (getS (pt c (atOfC c l r)) (keyOf c l r)).2.2 = 0 then (⟨#[]⟩, { c with misses := countUp c.misses }, 10)
  else if ¬ ((getS (pt c (atOfC c l r)) (keyOf c l r)).1.left = l ∧ (getS (pt c (atOfC c l r)) (keyOf c l r)).1.right = r) then (⟨#[]⟩, { c with clashes := countUp c.clashes }, 10)
  else ((getS (pt c (atOfC c l r)) (keyOf c l r)).1.val, { c with parts := c.parts.set (atOfC c l r) (getS (pt c (atOfC c l r)) (keyOf c l r)).2.1, hits := countUp c.hits }, 0)
def putP (c : Cach) (l r v : ByteArray) : List Slot × List Slot × Int := putS (pt c (atOfC c l r)) (roomOf c (atOfC c l r)) ⟨keyOf c l r, l, r, v⟩
def putC (c : Cach) (l r v : ByteArray) : Cach × Int :=
  if cRight c = false then (zeroC, 1)
  else ({ c with parts := c.parts.set (atOfC c l r) (putP c l r v).1, evicted := min (c.evicted + (putP c l r v).2.1.length) maxCount }, 0)
def newC (p r w : Int) : Cach × Int := if cFits p r w = false then (zeroC, 1) else (⟨w, r, List.replicate p.toNat [], 0, 0, 0, 0⟩, 0)
def sizeC (c : Cach) : Nat := (c.parts.map List.length).sum

theorem sum_nonneg (s : ByteArray) (w : Int) : True := trivial
theorem cut_nonneg {h w : Int} (hh : 0 ≤ h) : 0 ≤ cut h w := by
  unfold cut
  split
  · exact hh
  · exact Int.emod_nonneg _ (by have : (0 : Int) < 2 ^ w.toNat := Int.pow_pos (by omega); omega)
theorem both_nonneg (l r : ByteArray) (w : Int) : 0 ≤ (bothS l r w).sum := cut_nonneg (Int.emod_nonneg _ (by omega))
theorem part_lt {c : Cach} (h : 1 ≤ c.parts.length) (k : Key) : 0 ≤ partOf c k ∧ partOf c k < c.parts.length := by
  unfold partOf
  exact ⟨Int.emod_nonneg _ (by omega), Int.emod_lt_of_pos _ (by omega)⟩
theorem at_lt {c : Cach} (h : CRight c) (l r : ByteArray) : atOfC c l r < c.parts.length ∧ ((atOfC c l r : Nat) : Int) = partOf c (keyOf c l r) := by
  have := part_lt h.n1 (keyOf c l r)
  unfold atOfC
  omega
theorem pt_set {c : Cach} {i j : Nat} {l : List Slot} (hi : i < c.parts.length) : (c.parts.set i l).getD j [] = if j = i then l else pt c j := by
  unfold pt
  by_cases e : j = i
  · subst e; rw [if_pos rfl, List.getD_eq_getElem?_getD, List.getElem?_set_self hi]; rfl
  · rw [if_neg e, List.getD_eq_getElem?_getD, List.getElem?_set_ne (by omega), ← List.getD_eq_getElem?_getD]
/-- One part is another one. -/
theorem right_set {c : Cach} (h : CRight c) {i : Nat} (hi : i < c.parts.length) {l : List Slot} {a b d e : Int} (ha : 0 ≤ a ∧ a ≤ maxCount) (hb : 0 ≤ b ∧ b ≤ maxCount) (hd : 0 ≤ d ∧ d ≤ maxCount) (he : 0 ≤ e ∧ e ≤ maxCount)
    (h1 : rightB l = true) (h2 : (l.length : Int) ≤ roomOf c i) (h3 : ∀ s ∈ l, s.key = bothS s.left s.right c.width ∧ partOf c s.key = i) :
    CRight ⟨c.width, c.room, c.parts.set i l, a, b, d, e⟩ := by
  have hl : (c.parts.set i l).length = c.parts.length := List.length_set
  have hp : ∀ j, pt ⟨c.width, c.room, c.parts.set i l, a, b, d, e⟩ j = if j = i then l else pt c j := fun j => pt_set hi
  have hro : ∀ j, roomOf ⟨c.width, c.room, c.parts.set i l, a, b, d, e⟩ j = roomOf c j := fun j => by unfold roomOf; simp only [hl]
  have hpo : ∀ k, partOf ⟨c.width, c.room, c.parts.set i l, a, b, d, e⟩ k = partOf c k := fun k => by unfold partOf; simp only [hl]
  refine ⟨by simp only [hl]; exact h.n1, by simp only [hl]; exact h.n16, h.room, h.width, ha, hb, hd, he, fun j hj => ?_, fun j hj => ?_, fun j hj s hs => ?_⟩
  · simp only [hl] at hj
    rw [hp]; split
    · exact h1
    · exact h.alone j hj
  · simp only [hl] at hj
    rw [hp, hro]; split
    · rename_i e; rw [e]; exact h2
    · exact h.len j hj
  · simp only [hl] at hj
    rw [hp] at hs
    rw [hpo]
    split at hs
    · rename_i e; rw [e]; exact h3 s hs
    · exact h.key j hj s hs
theorem set_same {c : Cach} {i : Nat} (hi : i < c.parts.length) : c.parts.set i (pt c i) = c.parts := by
  refine List.ext_getElem? fun j => ?_
  rw [List.getElem?_set]
  split
  · rename_i e; subst e
    rw [pt, List.getD_eq_getElem?_getD, List.getElem?_eq_getElem hi]; rfl
  · rfl
theorem right_counts {c : Cach} (h : CRight c) {a b d e : Int} (ha : 0 ≤ a ∧ a ≤ maxCount) (hb : 0 ≤ b ∧ b ≤ maxCount) (hd : 0 ≤ d ∧ d ≤ maxCount) (he : 0 ≤ e ∧ e ≤ maxCount) : CRight ⟨c.width, c.room, c.parts, a, b, d, e⟩ :=
  ⟨h.n1, h.n16, h.room, h.width, ha, hb, hd, he, h.alone, h.len, h.key⟩
theorem up_ok {n : Int} (h : 0 ≤ n ∧ n ≤ maxCount) : 0 ≤ countUp n ∧ countUp n ≤ maxCount := by unfold countUp; unfold maxCount at *; omega

/-- What Get does. -/
theorem get_cases {c : Cach} (h : CRight c) (l r : ByteArray) :
    (getC c l r = (⟨#[]⟩, { c with misses := countUp c.misses }, 10) ∧ ∀ s ∈ pt c (atOfC c l r), ¬ s.key = keyOf c l r) ∨
    (∃ s ∈ pt c (atOfC c l r), s.key = keyOf c l r ∧ ¬ (s.left = l ∧ s.right = r) ∧ getC c l r = (⟨#[]⟩, { c with clashes := countUp c.clashes }, 10)) ∨
    ∃ s ∈ pt c (atOfC c l r), s.key = keyOf c l r ∧ s.left = l ∧ s.right = r ∧ getC c l r = (s.val, { c with parts := c.parts.set (atOfC c l r) (s :: without (pt c (atOfC c l r)) (keyOf c l r)), hits := countUp c.hits }, 0) := by
  have hr : ¬ cRight c = false := by rw [cright_iff.2 h]; simp
  have hi := at_lt h l r
  unfold getC
  rw [if_neg hr]
  rcases getS_cases (k := keyOf c l r) (h.alone _ hi.1) with ⟨h1, h2⟩ | ⟨s, hs, hsk, h1⟩
  · rw [h1, if_pos (by simp)]
    exact .inl ⟨rfl, h2⟩
  · rw [h1, if_neg (by simp)]
    by_cases hm : s.left = l ∧ s.right = r
    · rw [if_neg (by simpa using hm)]
      exact .inr (.inr ⟨s, hs, hsk, hm.1, hm.2, rfl⟩)
    · rw [if_pos hm]
      exact .inr (.inl ⟨s, hs, hsk, hm, rfl⟩)
theorem hit_right {c : Cach} (h : CRight c) {l r : ByteArray} {s : Slot} (hs : s ∈ pt c (atOfC c l r)) (hk : s.key = keyOf c l r) :
    rightB (s :: without (pt c (atOfC c l r)) (keyOf c l r)) = true ∧ (s :: without (pt c (atOfC c l r)) (keyOf c l r)).length = (pt c (atOfC c l r)).length ∧ ∀ t, t ∈ s :: without (pt c (atOfC c l r)) (keyOf c l r) ↔ t ∈ pt c (atOfC c l r) := by
  have hi := at_lt h l r
  have ha := h.alone _ hi.1
  have hg : getS (pt c (atOfC c l r)) (keyOf c l r) = (s, s :: without (pt c (atOfC c l r)) (keyOf c l r), 0) := by
    rcases getS_cases (k := keyOf c l r) ha with ⟨h1, h2⟩ | ⟨t, ht, htk, h1⟩
    · exact absurd hk (h2 s hs)
    · rw [key_inj (right_iff.1 ha) hs ht (htk.trans hk.symm)] at h1
      exact h1
  have h1 := get_right (k := keyOf c l r) ha
  have h2 := keys_get (k := keyOf c l r) ha (by rw [hg])
  rw [hg] at h1 h2
  refine ⟨h1, h2.2.1, fun t => ⟨fun ht => ?_, fun ht => ?_⟩⟩
  · rcases List.mem_cons.1 ht with rfl | ht
    · exact hs
    · exact (List.mem_filter.1 ht).1
  · by_cases e : t.key = keyOf c l r
    · rw [key_inj (right_iff.1 ha) hs ht (e.trans hk.symm)]; simp
    · exact List.mem_cons_of_mem _ (List.mem_filter.2 ⟨ht, by simpa using e⟩)
theorem get_cright {c : Cach} (h : CRight c) (l r : ByteArray) : CRight (getC c l r).2.1 := by
  rcases get_cases h l r with ⟨e, _⟩ | ⟨s, hs, hk, _, e⟩ | ⟨s, hs, hk, _, _, e⟩
  · rw [e]; exact right_counts h h.hits (up_ok h.misses) h.clashes h.evicted
  · rw [e]; exact right_counts h h.hits h.misses (up_ok h.clashes) h.evicted
  · rw [e]
    have hi := at_lt h l r
    obtain ⟨h1, h2, h3⟩ := hit_right h hs hk
    exact right_set h hi.1 (up_ok h.hits) h.misses h.clashes h.evicted h1 (by rw [h2]; exact h.len _ hi.1) fun t ht => h.key _ hi.1 t ((h3 t).1 ht)
theorem sum_set {ls : List (List Slot)} {i : Nat} {l : List Slot} (hi : i < ls.length) : ((ls.set i l).map List.length).sum + (ls.getD i []).length = (ls.map List.length).sum + l.length := by
  induction ls generalizing i with
  | nil => simp at hi
  | cons a ls ih =>
    cases i with
    | zero => simp; omega
    | succ i =>
      have := ih (i := i) (by simpa using hi)
      simp only [List.set_cons_succ, List.map_cons, List.sum_cons, List.getD_cons_succ] at this ⊢
      omega
theorem get_size {c : Cach} (h : CRight c) (l r : ByteArray) : sizeC (getC c l r).2.1 = sizeC c := by
  rcases get_cases h l r with ⟨e, _⟩ | ⟨s, hs, hk, _, e⟩ | ⟨s, hs, hk, _, _, e⟩
  · rw [e]; rfl
  · rw [e]; rfl
  · rw [e]
    have hi := at_lt h l r
    obtain ⟨h1, h2, h3⟩ := hit_right h hs hk
    have := sum_set (l := s :: without (pt c (atOfC c l r)) (keyOf c l r)) hi.1
    rw [h2] at this
    unfold sizeC
    simp only
    unfold pt at this ⊢
    omega
/-- What Put does. -/
theorem put_eqC {c : Cach} (h : CRight c) (l r v : ByteArray) : putC c l r v = ({ c with parts := c.parts.set (atOfC c l r) (putP c l r v).1, evicted := min (c.evicted + (putP c l r v).2.1.length) maxCount }, 0) := by
  unfold putC
  rw [if_neg (by rw [cright_iff.2 h]; simp)]
theorem room_nonneg {c : Cach} (h : CRight c) (i : Nat) : 0 ≤ roomOf c i := by
  have := Int.ediv_nonneg h.room.1 (show (0 : Int) ≤ c.parts.length by omega)
  unfold roomOf
  split <;> omega
theorem putP_eq {c : Cach} (h : CRight c) (l r v : ByteArray) : ∃ m : Nat, m = clampN (roomOf c (atOfC c l r)) ((⟨keyOf c l r, l, r, v⟩ : Slot) :: without (pt c (atOfC c l r)) (keyOf c l r)).length ∧
    putP c l r v = (((⟨keyOf c l r, l, r, v⟩ : Slot) :: without (pt c (atOfC c l r)) (keyOf c l r)).take m, ((⟨keyOf c l r, l, r, v⟩ : Slot) :: without (pt c (atOfC c l r)) (keyOf c l r)).drop m, 0) := by
  refine ⟨_, rfl, ?_⟩
  rw [putP, putS, if_neg (by rw [h.alone _ (at_lt h l r).1]; simp)]
theorem putP_mem {c : Cach} (h : CRight c) {l r v : ByteArray} {s : Slot} (hs : s ∈ (putP c l r v).1) : s = ⟨keyOf c l r, l, r, v⟩ ∨ (s ∈ pt c (atOfC c l r) ∧ ¬ s.key = keyOf c l r) := by
  obtain ⟨m, _, e⟩ := putP_eq h l r v
  rw [e] at hs
  rcases List.mem_cons.1 (List.mem_of_mem_take hs) with hs | hs
  · exact .inl hs
  · have := List.mem_filter.1 hs
    exact .inr ⟨this.1, by simpa using this.2⟩
theorem putP_len {c : Cach} (h : CRight c) (l r v : ByteArray) : ((putP c l r v).1.length : Int) ≤ roomOf c (atOfC c l r) ∧ (putP c l r v).1.length + (putP c l r v).2.1.length = (without (pt c (atOfC c l r)) (keyOf c l r)).length + 1 := by
  obtain ⟨m, hm, e⟩ := putP_eq h l r v
  have hr := room_nonneg h (atOfC c l r)
  have h1 : (m : Int) ≤ roomOf c (atOfC c l r) := by rw [hm]; unfold clampN; omega
  rw [e]
  constructor
  · simp only [List.length_take]; omega
  · rw [← List.length_append, List.take_append_drop]; simp
theorem without_len2 {c : Cach} (h : CRight c) (l r : ByteArray) : (without (pt c (atOfC c l r)) (keyOf c l r)).length ≤ (pt c (atOfC c l r)).length ∧ (pt c (atOfC c l r)).length ≤ (without (pt c (atOfC c l r)) (keyOf c l r)).length + 1 := by
  refine ⟨List.length_filter_le _ _, ?_⟩
  have h3 := filter_len (k := keyOf c l r) (right_iff.1 (h.alone _ (at_lt h l r).1))
  rw [← keys_without] at h3
  simpa [keysOf] using h3
theorem put_cright {c : Cach} (h : CRight c) (l r v : ByteArray) : CRight (putC c l r v).1 := by
  rw [put_eqC h]
  have hi := at_lt h l r
  have hl := putP_len h l r v
  have he := h.evicted
  refine right_set h hi.1 h.hits h.misses h.clashes ⟨by unfold maxCount at *; omega, by omega⟩ (putS_right _ _ (h.alone _ hi.1)) hl.1 fun s hs => ?_
  rcases putP_mem h hs with rfl | ⟨hs, _⟩
  · exact ⟨rfl, hi.2.symm⟩
  · exact h.key _ hi.1 s hs
theorem put_size {c : Cach} (h : CRight c) (l r v : ByteArray) : sizeC c ≤ sizeC (putC c l r v).1 + (putP c l r v).2.1.length ∧ sizeC (putC c l r v).1 + (putP c l r v).2.1.length ≤ sizeC c + 1 := by
  rw [put_eqC h]
  have hi := at_lt h l r
  have h1 := sum_set (l := (putP c l r v).1) hi.1
  have h2 := (putP_len h l r v).2
  have h3 := without_len2 h l r
  unfold sizeC
  simp only
  unfold pt at h2 h3
  omega
/-- The room of all parts is the room. -/
theorem room_sum (q m r : Nat) : ((List.range m).map fun i => q + if i < r then 1 else 0).sum = m * q + min m r := by
  induction m with
  | zero => simp
  | succ m ih =>
    rw [List.range_succ, List.map_append, List.sum_append, ih]
    simp only [List.map_cons, List.map_nil, List.sum_cons, List.sum_nil, Nat.add_mul, Nat.one_mul]
    split <;> omega
theorem sum_le_range : ∀ (ls : List (List Slot)) (g : Nat → Nat), (∀ i, i < ls.length → (ls.getD i []).length ≤ g i) → (ls.map List.length).sum ≤ ((List.range ls.length).map g).sum
  | [], g, _ => by simp
  | a :: ls, g, h => by
    have h0 := h 0 (by simp)
    have ih := sum_le_range ls (fun i => g (i + 1)) fun i hi => by have := h (i + 1) (by simp; omega); simpa using this
    rw [List.length_cons, List.range_succ_eq_map]
    simp only [List.map_cons, List.map_map, List.sum_cons]
    have e : (List.range ls.length).map (g ∘ Nat.succ) = (List.range ls.length).map fun i => g (i + 1) := rfl
    rw [e]
    simp at h0
    omega
theorem size_le {c : Cach} (h : CRight c) : (sizeC c : Int) ≤ c.room := by
  obtain ⟨R, hR⟩ : ∃ R : Nat, (R : Int) = c.room := ⟨c.room.toNat, by have := h.room; omega⟩
  have hn := h.n1
  have hg : ∀ i, i < c.parts.length → (c.parts.getD i []).length ≤ R / c.parts.length + if i < R % c.parts.length then 1 else 0 := fun i hi => by
    have := h.len i hi
    unfold roomOf at this
    rw [← hR] at this
    unfold pt at this
    have e1 : (R : Int) / (c.parts.length : Int) = ((R / c.parts.length : Nat) : Int) := by simp
    have e2 : (R : Int) % (c.parts.length : Int) = ((R % c.parts.length : Nat) : Int) := by simp
    rw [e1, e2] at this
    split at this
    · rename_i hlt; rw [if_pos (by omega)]; omega
    · rename_i hlt; rw [if_neg (by omega)]; omega
  have h1 := sum_le_range c.parts _ hg
  rw [room_sum] at h1
  have h2 := Nat.mod_lt R (show c.parts.length > 0 by omega)
  have h3 := Nat.div_add_mod R c.parts.length
  unfold sizeC
  have : min c.parts.length (R % c.parts.length) = R % c.parts.length := by omega
  rw [this] at h1
  omega
end Go.Proofs.YtdlinfekifnmkaaAm
