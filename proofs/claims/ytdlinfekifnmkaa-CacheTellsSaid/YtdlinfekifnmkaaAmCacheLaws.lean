/- The plain laws of layer 14, second part: what is told. Conditions: none. -/
import Derived.Test.YtdlinfekifnmkaaAmCachePlain
import Derived.Test.YtdlinfekifnmkaaAmText
set_option linter.unusedVariables false
set_option linter.unusedSimpArgs false
namespace Go.Proofs.YtdlinfekifnmkaaAm
open Go.Proofs
theorem pt_nil {c : Cach} {j : Nat} (h : ¬ j < c.parts.length) : pt c j = [] := by
  unfold pt
  rw [List.getD_eq_getElem?_getD, List.getElem?_eq_none (by omega)]; rfl
theorem new_ok {p r w : Int} (h : cFits p r w = true) : newC p r w = (⟨w, r, List.replicate p.toNat [], 0, 0, 0, 0⟩, 0) := by
  unfold newC; rw [if_neg (by rw [h]; simp)]
theorem pt_rep (w r : Int) (n j : Nat) (a b c d : Int) : pt ⟨w, r, List.replicate n [], a, b, c, d⟩ j = [] := by
  unfold pt
  rw [List.getD_eq_getElem?_getD, List.getElem?_replicate]
  split <;> rfl
theorem new_right {p r w : Int} (h : cFits p r w = true) : CRight ⟨w, r, List.replicate p.toNat [], 0, 0, 0, 0⟩ := by
  unfold cFits at h
  simp only [Bool.and_eq_true, decide_eq_true_eq] at h
  have hm : (0 : Int) ≤ 0 ∧ (0 : Int) ≤ maxCount := by unfold maxCount; omega
  have hroom : ∀ i : Nat, 0 ≤ roomOf ⟨w, r, List.replicate p.toNat [], 0, 0, 0, 0⟩ i := fun i => by
    unfold roomOf
    simp only [List.length_replicate]
    have := Int.ediv_nonneg h.2.1.1 (show (0 : Int) ≤ (p.toNat : Nat) by omega)
    split <;> omega
  refine ⟨by simp only [List.length_replicate]; omega, by simp only [List.length_replicate]; omega, h.2.1, h.2.2, hm, hm, hm, hm, fun i hi => ?_, fun i hi => ?_, fun i hi s hs => ?_⟩
  · rw [pt_rep]; rfl
  · rw [pt_rep]; exact hroom i
  · rw [pt_rep] at hs; simp at hs
/-- What is in a cache, after Get. -/
theorem get_parts {c : Cach} (h : CRight c) (l r : ByteArray) : (getC c l r).2.1.parts.length = c.parts.length ∧ (getC c l r).2.1.width = c.width ∧ (getC c l r).2.1.room = c.room ∧ (getC c l r).2.1.evicted = c.evicted ∧ ∀ j s, s ∈ pt (getC c l r).2.1 j ↔ s ∈ pt c j := by
  rcases get_cases h l r with ⟨e, _⟩ | ⟨s, hs, hk, _, e⟩ | ⟨s, hs, hk, _, _, e⟩
  · rw [e]; exact ⟨rfl, rfl, rfl, rfl, fun _ _ => Iff.rfl⟩
  · rw [e]; exact ⟨rfl, rfl, rfl, rfl, fun _ _ => Iff.rfl⟩
  · rw [e]
    have hi := at_lt h l r
    obtain ⟨h1, h2, h3⟩ := hit_right h hs hk
    refine ⟨List.length_set, rfl, rfl, rfl, fun j t => ?_⟩
    show t ∈ (c.parts.set (atOfC c l r) _).getD j [] ↔ _
    rw [pt_set hi.1]
    split
    · rename_i ej; rw [ej]; exact h3 t
    · exact Iff.rfl
theorem put_parts {c : Cach} (h : CRight c) (l r v : ByteArray) : (putC c l r v).1.parts.length = c.parts.length ∧ (putC c l r v).1.width = c.width ∧ (putC c l r v).1.room = c.room ∧
    (putC c l r v).1.hits = c.hits ∧ (putC c l r v).1.misses = c.misses ∧ (putC c l r v).1.clashes = c.clashes ∧ (putC c l r v).2 = 0 := by
  rw [put_eqC h]; exact ⟨List.length_set, rfl, rfl, rfl, rfl, rfl, rfl⟩
theorem put_pt {c : Cach} (h : CRight c) (l r v : ByteArray) (j : Nat) : pt (putC c l r v).1 j = if j = atOfC c l r then (putP c l r v).1 else pt c j := by
  rw [put_eqC h]
  exact pt_set (at_lt h l r).1
theorem put_mem {c : Cach} (h : CRight c) {l r v : ByteArray} {j : Nat} {s : Slot} (hs : s ∈ pt (putC c l r v).1 j) : s = ⟨keyOf c l r, l, r, v⟩ ∨ (s ∈ pt c j ∧ ¬ (s.left = l ∧ s.right = r)) := by
  have hi := at_lt h l r
  by_cases hj : j < c.parts.length
  · rw [put_pt h] at hs
    split at hs
    · rename_i e
      rcases putP_mem h hs with hs | ⟨h1, h2⟩
      · exact .inl hs
      · refine .inr ⟨e ▸ h1, fun he => h2 ?_⟩
        have := (h.key _ hi.1 s h1).1
        rw [this, he.1, he.2]; rfl
    · rename_i e
      refine .inr ⟨hs, fun he => e ?_⟩
      have := h.key j hj s hs
      rw [this.1, he.1, he.2] at this
      have h2 := this.2
      have h3 := hi.2
      unfold keyOf at h3
      omega
  · rw [pt_nil (by rw [(put_parts h l r v).1]; exact hj)] at hs
    simp at hs
theorem out_le {c : Cach} (h : CRight c) (l r v : ByteArray) : (putP c l r v).2.1.length ≤ 1 := by
  obtain ⟨m, hm, e⟩ := putP_eq h l r v
  have hr := room_nonneg h (atOfC c l r)
  have h1 := h.len _ (at_lt h l r).1
  have h2 := without_len2 h l r
  rw [e]
  simp only [List.length_drop, List.length_cons] at hm ⊢
  unfold clampN at hm
  omega
theorem put_new {c : Cach} (h : CRight c) (l r v : ByteArray) (hr : 1 ≤ roomOf c (atOfC c l r)) : ∃ t, (putP c l r v).1 = ⟨keyOf c l r, l, r, v⟩ :: t := by
  obtain ⟨m, hm, e⟩ := putP_eq h l r v
  rw [e]
  obtain ⟨k, hk⟩ : ∃ k, m = k + 1 := ⟨m - 1, by rw [hm]; unfold clampN; simp only [List.length_cons]; omega⟩
  rw [hk]
  exact ⟨_, List.take_succ_cons⟩
theorem put_none {c : Cach} (h : CRight c) (l r v : ByteArray) (hr : ¬ 1 ≤ roomOf c (atOfC c l r)) : (putP c l r v).1 = [] := by
  obtain ⟨m, hm, e⟩ := putP_eq h l r v
  rw [e]
  have : m = 0 := by rw [hm]; unfold clampN; omega
  rw [this]; rfl

/-! ### What is told -/
def tellC (c : Cach) (l r : ByteArray) : ByteArray × Int := ((getC c l r).1, (getC c l r).2.2)
theorem tell_hit {c : Cach} (h : CRight c) {l r : ByteArray} {s : Slot} (hs : s ∈ pt c (atOfC c l r)) (hl : s.left = l) (hr : s.right = r) :
    getC c l r = (s.val, { c with parts := c.parts.set (atOfC c l r) (s :: without (pt c (atOfC c l r)) (keyOf c l r)), hits := countUp c.hits }, 0) := by
  have hi := at_lt h l r
  have hk : s.key = keyOf c l r := by rw [(h.key _ hi.1 s hs).1, hl, hr]; rfl
  have ha := right_iff.1 (h.alone _ hi.1)
  rcases get_cases h l r with ⟨e, hn⟩ | ⟨t, ht, htk, hm, e⟩ | ⟨t, ht, htk, _, _, e⟩
  · exact absurd hk (hn s hs)
  · have : t = s := key_inj ha hs ht (htk.trans hk.symm)
    subst this
    exact absurd ⟨hl, hr⟩ hm
  · have : t = s := key_inj ha hs ht (htk.trans hk.symm)
    subst this
    exact e
theorem tell_no {c : Cach} (h : CRight c) {l r : ByteArray} (hn : ∀ s ∈ pt c (atOfC c l r), ¬ (s.left = l ∧ s.right = r)) : tellC c l r = (⟨#[]⟩, 10) := by
  unfold tellC
  rcases get_cases h l r with ⟨e, _⟩ | ⟨t, ht, htk, hm, e⟩ | ⟨t, ht, htk, h1, h2, e⟩
  · rw [e]
  · rw [e]
  · exact absurd ⟨h1, h2⟩ (hn t ht)
theorem tell_same {c d : Cach} (hc : CRight c) (hd : CRight d) (hw : d.width = c.width) (hl : d.parts.length = c.parts.length) (hm : ∀ j s, s ∈ pt d j ↔ s ∈ pt c j) (l r : ByteArray) : tellC d l r = tellC c l r := by
  have hk : keyOf d l r = keyOf c l r := by unfold keyOf; rw [hw]
  have ha : atOfC d l r = atOfC c l r := by unfold atOfC partOf; rw [hk, hl]
  by_cases he : ∃ s ∈ pt c (atOfC c l r), s.left = l ∧ s.right = r
  · obtain ⟨s, hs, h1, h2⟩ := he
    have e1 := tell_hit hc hs h1 h2
    have e2 := tell_hit hd (s := s) (by rw [ha]; exact (hm _ _).2 hs) h1 h2
    unfold tellC
    rw [e1, e2]
  · rw [tell_no hc fun s hs h => he ⟨s, hs, h⟩, tell_no hd fun s hs h => he ⟨s, (hm _ _).1 (by rw [← ha]; exact hs), h⟩]

/-! ### What was put last -/
structure LastC (c : Cach) (last : List ByteArray) : Prop where
  right : CRight c
  len : last.length = 36
  ok : ∀ j, ∀ s ∈ pt c j, ∃ a b : Nat, a < 6 ∧ b < 6 ∧ s.left = text6 a ∧ s.right = text6 b ∧ last[a * 6 + b]? = some s.val ∧ ¬ s.val.size = 0
theorem lastc_put {c : Cach} {last : List ByteArray} (h : LastC c last) {a b : Nat} (ha : a < 6) (hb : b < 6) {v : ByteArray} (hv : ¬ v.size = 0) : LastC (putC c (text6 a) (text6 b) v).1 (last.set (a * 6 + b) v) := by
  refine ⟨put_cright h.right _ _ _, by rw [List.length_set]; exact h.len, fun j s hs => ?_⟩
  have hl := h.len
  rcases put_mem h.right hs with rfl | ⟨h1, h2⟩
  · exact ⟨a, b, ha, hb, rfl, rfl, List.getElem?_set_self (by omega), hv⟩
  · obtain ⟨a', b', p1, p2, p3, p4, p5, p6⟩ := h.ok j s h1
    refine ⟨a', b', p1, p2, p3, p4, ?_, p6⟩
    rw [List.getElem?_set_ne]
    · exact p5
    · intro he
      have e1 : a = a' := by omega
      have e2 : b = b' := by omega
      subst e1 e2
      exact h2 ⟨p3, p4⟩
theorem lastc_get {c : Cach} {last : List ByteArray} (h : LastC c last) {a b : Nat} (ha : a < 6) (hb : b < 6) : LastC (getC c (text6 a) (text6 b)).2.1 last ∧
    (((getC c (text6 a) (text6 b)).2.2 = 0 ∧ last[a * 6 + b]? = some (getC c (text6 a) (text6 b)).1 ∧ ¬ (getC c (text6 a) (text6 b)).1.size = 0) ∨ ((getC c (text6 a) (text6 b)).2.2 = 10 ∧ (getC c (text6 a) (text6 b)).1 = ⟨#[]⟩)) := by
  have hp := get_parts h.right (text6 a) (text6 b)
  refine ⟨⟨get_cright h.right _ _, h.len, fun j s hs => h.ok j s ((hp.2.2.2.2 j s).1 hs)⟩, ?_⟩
  rcases get_cases h.right (text6 a) (text6 b) with ⟨e, _⟩ | ⟨s, hs, hk, _, e⟩ | ⟨s, hs, hk, h1, h2, e⟩
  · rw [e]; exact .inr ⟨rfl, rfl⟩
  · rw [e]; exact .inr ⟨rfl, rfl⟩
  · rw [e]
    obtain ⟨a', b', p1, p2, p3, p4, p5, p6⟩ := h.ok _ s hs
    have e1 : (a' : Int) = a := text6_inj (by omega) (by omega) (by rw [← p3, h1])
    have e2 : (b' : Int) = b := text6_inj (by omega) (by omega) (by rw [← p4, h2])
    have e1 : a' = a := by omega
    have e2 : b' = b := by omega
    subst e1 e2
    exact .inl ⟨rfl, p5, p6⟩
theorem lastc0 {c : Cach} (h : CRight c) (hn : ∀ j, pt c j = []) : LastC c (List.replicate 36 ⟨#[]⟩) := ⟨h, by simp, fun j s hs => by rw [hn] at hs; simp at hs⟩

/-! ### The caches that the statements make -/
def putTr (c : Cach) (d : Tri) : Cach := if (putC c (textS d.a) (textS d.b) (textS d.c)).2 = 0 then (putC c (textS d.a) (textS d.b) (textS d.c)).1 else c
def newT (n : Tri) : Cach := (newC (1 + pick n.a 4) (pick n.b 9) (pick n.c 5 * pick (n.c.tdiv 5) 17)).1
def cachS (n : Tri) (puts : List Tri) : Cach := puts.foldl putTr (newT n)
structure Small (c : Cach) (m : Int) : Prop where
  right : CRight c
  n4 : c.parts.length ≤ 4
  r8 : c.room ≤ 8
  hits : c.hits + c.misses + c.clashes ≤ m
  ev : c.evicted ≤ m
theorem small_new (n : Tri) : Small (newT n) 0 ∧ (newT n).hits = 0 ∧ (newT n).misses = 0 ∧ (newT n).clashes = 0 := by
  have a0 := pick_nonneg n.a 4 (by omega)
  have a1 := pick_lt n.a 4 (by omega)
  have b0 := pick_nonneg n.b 9 (by omega)
  have b1 := pick_lt n.b 9 (by omega)
  have c0 := pick_nonneg n.c 5 (by omega)
  have c1 := pick_lt n.c 5 (by omega)
  have d0 := pick_nonneg (n.c.tdiv 5) 17 (by omega)
  have d1 := pick_lt (n.c.tdiv 5) 17 (by omega)
  have hw0 : 0 ≤ pick n.c 5 * pick (n.c.tdiv 5) 17 := Int.mul_nonneg c0 d0
  have hw1 : pick n.c 5 * pick (n.c.tdiv 5) 17 ≤ 4 * 16 := Int.mul_le_mul (by omega) (by omega) d0 (by omega)
  have hf : cFits (1 + pick n.a 4) (pick n.b 9) (pick n.c 5 * pick (n.c.tdiv 5) 17) = true := by
    unfold cFits
    simp only [Bool.and_eq_true, decide_eq_true_eq]
    omega
  have e : newT n = ⟨pick n.c 5 * pick (n.c.tdiv 5) 17, pick n.b 9, List.replicate (1 + pick n.a 4).toNat [], 0, 0, 0, 0⟩ := by rw [newT, new_ok hf]
  rw [e]
  exact ⟨⟨new_right hf, by simp only [List.length_replicate]; omega, by show pick n.b 9 ≤ 8; omega, by show (0 : Int) + 0 + 0 ≤ 0; omega, Int.le_refl _⟩, rfl, rfl, rfl⟩
theorem small_put {c : Cach} {m : Int} (h : Small c m) (l r v : ByteArray) : Small (putC c l r v).1 (m + 1) := by
  have hp := put_parts h.right l r v
  have ho := out_le h.right l r v
  have h1 := h.n4
  have h2 := h.r8
  have h3 := h.hits
  have h4 := h.ev
  refine ⟨put_cright h.right l r v, by rw [hp.1]; exact h1, by rw [hp.2.2.1]; exact h2, by rw [hp.2.2.2.1, hp.2.2.2.2.1, hp.2.2.2.2.2.1]; omega, ?_⟩
  rw [put_eqC h.right]
  simp only
  omega
theorem small_get {c : Cach} {m : Int} (h : Small c m) (hm : m < maxCount) (l r : ByteArray) : Small (getC c l r).2.1 (m + 1) := by
  have hp := get_parts h.right l r
  have h1 := h.n4
  have h2 := h.r8
  have h3 := h.hits
  have h4 := h.ev
  refine ⟨get_cright h.right l r, by rw [hp.1]; exact h1, by rw [hp.2.2.1]; exact h2, ?_, by rw [hp.2.2.2.1]; omega⟩
  rcases get_cases h.right l r with ⟨e, _⟩ | ⟨s, hs, hk, _, e⟩ | ⟨s, hs, hk, _, _, e⟩ <;> rw [e] <;> simp only [countUp] <;> omega
theorem small_putT {c : Cach} {m : Int} (h : Small c m) (d : Tri) : Small (putTr c d) (m + 1) := by
  unfold putTr
  rw [if_pos (put_parts h.right _ _ _).2.2.2.2.2.2]
  exact small_put h _ _ _
theorem small_fold : ∀ (ps : List Tri) {c : Cach} {m : Int}, Small c m → Small (ps.foldl putTr c) (m + ps.length)
  | [], c, m, h => by simpa using h
  | d :: ps, c, m, h => by
    have := small_fold ps (small_putT h d)
    rw [List.length_cons, List.foldl_cons]
    have e : m + ((ps.length + 1 : Nat) : Int) = m + 1 + ps.length := by omega
    rw [e]; exact this
theorem small_cach (n : Tri) (ps : List Tri) : Small (cachS n ps) ps.length := by
  have := small_fold ps (small_new n).1
  simpa [cachS] using this
theorem cach_next {n : Tri} {ps : List Tri} {i : Nat} {d : Tri} (h : ps[i]? = some d) : cachS n (ps.take (i + 1)) = putTr (cachS n (ps.take i)) d := by
  have : ps.take (i + 1) = ps.take i ++ [d] := by rw [List.take_add_one, h]; rfl
  rw [this, cachS, List.foldl_append]; rfl
theorem counts_get {c : Cach} {m : Int} (h : Small c m) (hm : m < 1000) (l r : ByteArray) :
    (getC c l r).2.1.hits + (getC c l r).2.1.misses + (getC c l r).2.1.clashes = c.hits + c.misses + c.clashes + 1 ∧ ((getC c l r).2.2 = 0 ↔ (getC c l r).2.1.hits = c.hits + 1) ∧ (getC c l r).2.1.evicted = c.evicted := by
  have h3 := h.hits
  have g1 := h.right.hits
  have g2 := h.right.misses
  have g3 := h.right.clashes
  have up : ∀ n : Int, 0 ≤ n → n < 1000 → countUp n = n + 1 := fun n h0 h1 => by unfold countUp maxCount; omega
  rcases get_cases h.right l r with ⟨e, _⟩ | ⟨s, hs, hk, _, e⟩ | ⟨s, hs, hk, _, _, e⟩ <;> rw [e]
  · rw [show countUp c.misses = c.misses + 1 from up _ g2.1 (by omega)]
    refine ⟨by simp only; omega, ?_, rfl⟩
    simp only; omega
  · rw [show countUp c.clashes = c.clashes + 1 from up _ g3.1 (by omega)]
    refine ⟨by simp only; omega, ?_, rfl⟩
    simp only; omega
  · rw [show countUp c.hits = c.hits + 1 from up _ g1.1 (by omega)]
    refine ⟨by simp only; omega, ?_, rfl⟩
    simp only
theorem counts_put {c : Cach} {m : Int} (h : Small c m) (hm : m < 1000) (l r v : ByteArray) :
    c.evicted ≤ (putC c l r v).1.evicted ∧ (sizeC c : Int) ≤ sizeC (putC c l r v).1 + (putC c l r v).1.evicted - c.evicted ∧ (sizeC (putC c l r v).1 : Int) + (putC c l r v).1.evicted - c.evicted ≤ sizeC c + 1 := by
  have hs := put_size h.right l r v
  have ho := out_le h.right l r v
  have h4 := h.ev
  have e : (putC c l r v).1.evicted = c.evicted + (putP c l r v).2.1.length := by
    rw [put_eqC h.right]
    simp only [maxCount]
    omega
  rw [e]
  omega

/-! ### Keys of all bits -/
def keyTab (w : Int) : List Key := (List.range 36).map fun i => bothS (text6 ((i / 6 : Nat) : Int)) (text6 ((i % 6 : Nat) : Int)) w
theorem keyTab_nodup : (keyTab 64).Nodup := by decide +kernel
theorem key64_inj {a b c d : Nat} (ha : a < 6) (hb : b < 6) (hc : c < 6) (hd : d < 6) (h : bothS (text6 a) (text6 b) 64 = bothS (text6 c) (text6 d) 64) : a = c ∧ b = d := by
  have hn := keyTab_nodup
  have hat : ∀ {x y : Nat}, x < 6 → y < 6 → (keyTab 64)[x * 6 + y]? = some (bothS (text6 x) (text6 y) 64) := fun {x y} hx hy => by
    unfold keyTab
    rw [List.getElem?_map, List.getElem?_range (by omega)]
    simp only [Option.map_some]
    rw [show (x * 6 + y) / 6 = x by omega, show (x * 6 + y) % 6 = y by omega]
  have e := (List.getElem?_inj (by unfold keyTab; simp; omega) hn).1 ((hat ha hb).trans (by rw [h]; exact (hat hc hd).symm))
  omega

/-! ### Room for all -/
structure Roomy (c : Cach) (tab : List (Option ByteArray)) (m : Nat) : Prop where
  right : CRight c
  width : c.width = 64
  room : c.room = 1600
  clashes : c.clashes = 0
  evicted : c.evicted = 0
  tlen : tab.length = 36
  there : ∀ j, ∀ s ∈ pt c j, ∃ x y : Nat, x < 6 ∧ y < 6 ∧ s.left = text6 x ∧ s.right = text6 y ∧ tab[x * 6 + y]? = some (some s.val)
  back : ∀ x y : Nat, x < 6 → y < 6 → ∀ v, tab[x * 6 + y]? = some (some v) → ∃ s ∈ pt c (atOfC c (text6 x) (text6 y)), s.left = text6 x ∧ s.right = text6 y ∧ s.val = v
  size : sizeC c ≤ m
theorem roomy_room {c : Cach} {tab : List (Option ByteArray)} {m : Nat} (h : Roomy c tab m) (i : Nat) : 100 ≤ roomOf c i := by
  have h1 := h.right.n1
  have h2 := h.right.n16
  have : (100 : Int) ≤ c.room / c.parts.length := by rw [h.room]; exact (Int.le_ediv_iff_mul_le (by omega)).2 (by omega)
  unfold roomOf
  split <;> omega
theorem pt_len (c : Cach) (j : Nat) : (pt c j).length ≤ sizeC c := by
  by_cases hj : j < c.parts.length
  · have := sum_set (l := ([] : List Slot)) hj
    unfold pt sizeC
    simp only [List.length_nil] at this
    omega
  · rw [pt_nil hj]; simp
theorem roomy_put {c : Cach} {tab : List (Option ByteArray)} {m : Nat} (h : Roomy c tab m) (hm : m < 90) {x y : Nat} (hx : x < 6) (hy : y < 6) (v : ByteArray) : Roomy (putC c (text6 x) (text6 y) v).1 (tab.set (x * 6 + y) (some v)) (m + 1) := by
  have hr := h.right
  have hi := at_lt hr (text6 x) (text6 y)
  have hroom := roomy_room h (atOfC c (text6 x) (text6 y))
  have hp := put_parts hr (text6 x) (text6 y) v
  have hpl := pt_len c (atOfC c (text6 x) (text6 y))
  have hsz := h.size
  have hwl := without_len2 hr (text6 x) (text6 y)
  obtain ⟨k, hk, he⟩ := putP_eq hr (text6 x) (text6 y) v
  have hkl : k = ((⟨keyOf c (text6 x) (text6 y), text6 x, text6 y, v⟩ : Slot) :: without (pt c (atOfC c (text6 x) (text6 y))) (keyOf c (text6 x) (text6 y))).length := by
    rw [hk]; unfold clampN
    simp only [List.length_cons]
    omega
  have he2 : putP c (text6 x) (text6 y) v = (⟨keyOf c (text6 x) (text6 y), text6 x, text6 y, v⟩ :: without (pt c (atOfC c (text6 x) (text6 y))) (keyOf c (text6 x) (text6 y)), [], 0) := by rw [he, hkl, List.take_length, List.drop_length]
  have hat : ∀ l r, atOfC (putC c (text6 x) (text6 y) v).1 l r = atOfC c l r := fun l r => by
    unfold atOfC partOf keyOf
    rw [hp.1, hp.2.1]
  refine ⟨put_cright hr _ _ _, by rw [hp.2.1]; exact h.width, by rw [hp.2.2.1]; exact h.room, by rw [hp.2.2.2.2.2.1]; exact h.clashes, ?_, by rw [List.length_set]; exact h.tlen, ?_, ?_, ?_⟩
  · rw [put_eqC hr, he2]
    simp only [List.length_nil, h.evicted]
    decide
  · intro j s hs
    have htl := h.tlen
    rcases put_mem hr hs with rfl | ⟨h1, h2⟩
    · exact ⟨x, y, hx, hy, rfl, rfl, List.getElem?_set_self (by omega)⟩
    · obtain ⟨a', b', p1, p2, p3, p4, p5⟩ := h.there j s h1
      refine ⟨a', b', p1, p2, p3, p4, ?_⟩
      rw [List.getElem?_set_ne]
      · exact p5
      · intro hh
        have e1 : x = a' := by omega
        have e2 : y = b' := by omega
        subst e1 e2
        exact h2 ⟨p3, p4⟩
  · intro a b ha hb w hw
    rw [hat, put_pt hr]
    have htl := h.tlen
    by_cases e : x * 6 + y = a * 6 + b
    · have e1 : x = a := by omega
      have e2 : y = b := by omega
      subst e1 e2
      rw [List.getElem?_set_self (by omega)] at hw
      injection hw with hw
      injection hw with hw
      subst hw
      rw [if_pos rfl, he2]
      exact ⟨_, List.mem_cons_self .., rfl, rfl, rfl⟩
    · rw [List.getElem?_set_ne e] at hw
      obtain ⟨s, hs, h1, h2, h3⟩ := h.back a b ha hb w hw
      refine ⟨s, ?_, h1, h2, h3⟩
      split
      · rename_i hat2
        rw [he2]
        refine List.mem_cons_of_mem _ (List.mem_filter.2 ⟨hat2 ▸ hs, ?_⟩)
        have hsk := (hr.key _ (at_lt hr (text6 a) (text6 b)).1 s hs).1
        rw [h1, h2, h.width] at hsk
        have : ¬ s.key = keyOf c (text6 x) (text6 y) := fun hh => by
          rw [hsk] at hh
          unfold keyOf at hh
          rw [h.width] at hh
          have := key64_inj ha hb hx hy hh
          omega
        simpa using this
      · exact hs
  · have := put_size hr (text6 x) (text6 y) v
    rw [he2] at this
    simp only [List.length_nil] at this
    omega
theorem roomy_get {c : Cach} {tab : List (Option ByteArray)} {m : Nat} (h : Roomy c tab m) {x y : Nat} (hx : x < 6) (hy : y < 6) : Roomy (getC c (text6 x) (text6 y)).2.1 tab m ∧
    ((∃ v, tab[x * 6 + y]? = some (some v) ∧ getC c (text6 x) (text6 y) = (v, (getC c (text6 x) (text6 y)).2.1, 0) ∧ (getC c (text6 x) (text6 y)).2.1.hits = countUp c.hits ∧ (getC c (text6 x) (text6 y)).2.1.misses = c.misses) ∨
     (tab[x * 6 + y]? = some none ∧ getC c (text6 x) (text6 y) = (⟨#[]⟩, (getC c (text6 x) (text6 y)).2.1, 10) ∧ (getC c (text6 x) (text6 y)).2.1.hits = c.hits ∧ (getC c (text6 x) (text6 y)).2.1.misses = countUp c.misses)) := by
  have hr := h.right
  have hp := get_parts hr (text6 x) (text6 y)
  have hat : ∀ l r, atOfC (getC c (text6 x) (text6 y)).2.1 l r = atOfC c l r := fun l r => by
    unfold atOfC partOf keyOf
    rw [hp.1, hp.2.1]
  have htl := h.tlen
  obtain ⟨o, ho⟩ : ∃ o, tab[x * 6 + y]? = some o := ⟨_, List.getElem?_eq_getElem (by omega)⟩
  have hpart : (getC c (text6 x) (text6 y)).2.1.clashes = 0 ∧
    ((∃ v, tab[x * 6 + y]? = some (some v) ∧ getC c (text6 x) (text6 y) = (v, (getC c (text6 x) (text6 y)).2.1, 0) ∧ (getC c (text6 x) (text6 y)).2.1.hits = countUp c.hits ∧ (getC c (text6 x) (text6 y)).2.1.misses = c.misses) ∨
     (tab[x * 6 + y]? = some none ∧ getC c (text6 x) (text6 y) = (⟨#[]⟩, (getC c (text6 x) (text6 y)).2.1, 10) ∧ (getC c (text6 x) (text6 y)).2.1.hits = c.hits ∧ (getC c (text6 x) (text6 y)).2.1.misses = countUp c.misses)) := by
    cases o with
    | some v =>
      obtain ⟨s, hs, h1, h2, h3⟩ := h.back x y hx hy v ho
      have e := tell_hit hr hs h1 h2
      rw [e]
      exact ⟨h.clashes, .inl ⟨v, ho, by rw [h3], rfl, rfl⟩⟩
    | none =>
      rcases get_cases hr (text6 x) (text6 y) with ⟨e, _⟩ | ⟨s, hs, hk, _, e⟩ | ⟨s, hs, hk, h1, h2, e⟩
      · rw [e]; exact ⟨h.clashes, .inr ⟨ho, rfl, rfl, rfl⟩⟩
      · exfalso
        obtain ⟨a', b', p1, p2, p3, p4, p5⟩ := h.there _ s hs
        have hsk := (hr.key _ (at_lt hr (text6 x) (text6 y)).1 s hs).1
        rw [p3, p4, h.width] at hsk
        rw [hsk] at hk
        unfold keyOf at hk
        rw [h.width] at hk
        obtain ⟨e1, e2⟩ := key64_inj p1 p2 hx hy hk
        subst e1 e2
        rw [ho] at p5
        cases p5
      · exfalso
        obtain ⟨a', b', p1, p2, p3, p4, p5⟩ := h.there _ s hs
        have e1 : (a' : Int) = x := text6_inj (by omega) (by omega) (by rw [← p3, h1])
        have e2 : (b' : Int) = y := text6_inj (by omega) (by omega) (by rw [← p4, h2])
        have e1 : a' = x := by omega
        have e2 : b' = y := by omega
        subst e1 e2
        rw [ho] at p5
        cases p5
  refine ⟨⟨get_cright hr _ _, by rw [hp.2.1]; exact h.width, by rw [hp.2.2.1]; exact h.room, hpart.1, by rw [hp.2.2.2.1]; exact h.evicted, h.tlen, fun j s hs => h.there j s ((hp.2.2.2.2 j s).1 hs), fun a b ha hb v hv => ?_, by rw [get_size hr]; exact h.size⟩, hpart.2⟩
  obtain ⟨s, hs, h1, h2, h3⟩ := h.back a b ha hb v hv
  exact ⟨s, by rw [hat]; exact (hp.2.2.2.2 _ s).2 hs, h1, h2, h3⟩
theorem roomy0 {p : Int} (h1 : 1 ≤ p) (h2 : p ≤ 16) : newC p 1600 64 = (⟨64, 1600, List.replicate p.toNat [], 0, 0, 0, 0⟩, 0) ∧ Roomy ⟨64, 1600, List.replicate p.toNat [], 0, 0, 0, 0⟩ (List.replicate 36 none) 0 := by
  have hf : cFits p 1600 64 = true := by
    unfold cFits
    simp only [Bool.and_eq_true, decide_eq_true_eq]
    omega
  refine ⟨new_ok hf, new_right hf, rfl, rfl, rfl, rfl, by simp, fun j s hs => by rw [pt_rep] at hs; simp at hs, fun x y hx hy v hv => ?_, ?_⟩
  · rw [List.getElem?_replicate] at hv
    split at hv
    · injection hv with hv; cases hv
    · cases hv
  · unfold sizeC
    simp only [List.map_replicate, List.length_nil]
    rw [List.sum_replicate_nat]; simp
end Go.Proofs.YtdlinfekifnmkaaAm
