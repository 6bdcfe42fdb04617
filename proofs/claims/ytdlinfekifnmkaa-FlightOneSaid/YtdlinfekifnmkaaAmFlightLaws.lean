/- The plain laws of layer 15, third part: what is made of raw deeds, one who is apart, many, and none. Conditions: none. -/
import Derived.Test.YtdlinfekifnmkaaAmFlightOne
import Derived.Test.YtdlinfekifnmkaaAmSums
set_option linter.unusedVariables false
set_option linter.unusedSimpArgs false
namespace Go.Proofs.YtdlinfekifnmkaaAm
open Go.Proofs
def textS (k : Int) : ByteArray := text6 (pick k 6)
theorem text6_size (i : Int) : (text6 i).size ≤ 2 := by
  unfold text6
  split
  · decide
  · split
    · decide
    · split
      · decide
      · split
        · decide
        · split <;> decide
theorem textS_size (k : Int) : (textS k).size ≤ 2 := text6_size _
/-! ### What raw deeds make -/
def fillAdd (f : List Fill) (d : Tri) : List Fill :=
  if pick d.a 6 = 4 then (if (doneS f (pick d.b 8)).2.2 = 0 then (doneS f (pick d.b 8)).2.1 else f)
  else if pick d.a 6 = 5 then (if (leaveS f (pick d.b 8)).2 = 0 then (leaveS f (pick d.b 8)).1 else f)
  else (if (beginS f (textS d.c) (textS (d.c.tdiv 6)) (pick d.b 8)).2.2 = 0 then (beginS f (textS d.c) (textS (d.c.tdiv 6)) (pick d.b 8)).2.1 else f)
def fillsS (deeds : List Tri) : List Fill := deeds.foldl fillAdd []
theorem fills_next {deeds : List Tri} {i : Nat} {d : Tri} (h : deeds[i]? = some d) : fillsS (deeds.take (i + 1)) = fillAdd (fillsS (deeds.take i)) d := by
  have : deeds.take (i + 1) = deeds.take i ++ [d] := by rw [List.take_add_one, h]; rfl
  rw [this, fillsS, List.foldl_append]; rfl
structure FOk (f : List Fill) : Prop where
  right : fRight f = true
  who : ∀ w ∈ allOf f, 0 ≤ w ∧ w ≤ 7
theorem fok0 : FOk [] := ⟨by simp [fRight, textsOf, allOf], fun w h => by simp [allOf] at h⟩
theorem fok_begin {f : List Fill} {l r : ByteArray} {who : Int} (h : FOk f) (hw : 0 ≤ who ∧ who ≤ 7) (he : (beginS f l r who).2.2 = 0) : FOk (beginS f l r who).2.1 := by
  refine ⟨begin_right h.right he, fun w hwm => ?_⟩
  by_cases hm : who ∈ allOf f
  · rw [begin_twice h.right hm] at he; cases he
  · rcases begin_cases (l := l) (r := r) h.right hm with ⟨e, hn⟩ | ⟨A, x, B, rfl, _, _, e⟩
    · rw [e, all_app] at hwm
      rcases List.mem_append.1 hwm with hwm | hwm
      · exact h.who w hwm
      · simp [allOf, whoOf] at hwm; subst hwm; exact hw
    · rw [e] at hwm
      have := (all_more A B x who).mem_iff.1 hwm
      rcases List.mem_cons.1 this with rfl | h2
      · exact hw
      · exact h.who w h2
theorem fok_done {f : List Fill} {who : Int} (h : FOk f) (he : (doneS f who).2.2 = 0) : FOk (doneS f who).2.1 := by
  refine ⟨done_right h.right he, fun w hwm => ?_⟩
  rcases done_cases (who := who) h.right with ⟨e, _⟩ | ⟨A, x, B, rfl, _, e⟩
  · rw [e] at he; cases he
  · rw [e, all_app] at hwm
    refine h.who w ?_
    rw [all_app, all_cons]
    rcases List.mem_append.1 hwm with h1 | h1 <;> simp [h1]
theorem less_all {A B : List Fill} {x : Fill} {who w : Int} (h : w ∈ allOf (A ++ lessW x who :: B)) : w ∈ allOf (A ++ x :: B) := by
  rw [all_app, all_cons] at h ⊢
  simp only [List.mem_append] at h ⊢
  rcases h with h | h | h
  · exact .inl h
  · refine .inr (.inl ?_)
    simp only [whoOf, lessW, List.mem_cons, List.mem_filter] at h ⊢
    rcases h with h | h
    · exact .inl h
    · exact .inr h.1
  · exact .inr (.inr h)
theorem fok_leave {f : List Fill} {who : Int} (h : FOk f) (he : (leaveS f who).2 = 0) : FOk (leaveS f who).1 := by
  refine ⟨leave_right h.right he, fun w hwm => ?_⟩
  rcases leave_cases (who := who) h.right with ⟨e, _⟩ | ⟨A, x, B, rfl, _, e⟩
  · rw [e] at he; cases he
  · rw [e] at hwm
    exact h.who w (less_all hwm)
theorem fok_add {f : List Fill} (h : FOk f) (d : Tri) : FOk (fillAdd f d) := by
  have p0 := pick_nonneg d.b 8 (by omega)
  have p1 := pick_lt d.b 8 (by omega)
  unfold fillAdd
  split
  · split
    · rename_i he; exact fok_done h he
    · exact h
  · split
    · split
      · rename_i he; exact fok_leave h he
      · exact h
    · split
      · rename_i he; exact fok_begin h (by omega) he
      · exact h
theorem fok_fold : ∀ (ds : List Tri) {f : List Fill}, FOk f → FOk (ds.foldl fillAdd f)
  | [], _, h => h
  | d :: ds, _, h => fok_fold ds (fok_add h d)
theorem fok_fills (ds : List Tri) : FOk (fillsS ds) := fok_fold ds fok0
theorem all_len {f : List Fill} (h : FOk f) : (allOf f).length ≤ 8 := by
  have := len_sub2 (m := (List.range 8).map fun k : Nat => (k : Int)) (right_f.1 h.right).2 fun w hw => by
    have := h.who w hw
    exact List.mem_map.2 ⟨w.toNat, List.mem_range.2 (by omega), by omega⟩
  simpa using this
theorem all_ge : ∀ f : List Fill, f.length ≤ (allOf f).length
  | [] => Nat.le_refl _
  | x :: f => by
    have := all_ge f
    rw [all_cons]
    simp [whoOf]
    omega
theorem wait_le {f : List Fill} {x : Fill} (h : x ∈ f) : x.waiting.length ≤ (allOf f).length := by
  obtain ⟨A, B, rfl⟩ := List.append_of_mem h
  rw [all_app, all_cons]
  simp [whoOf]
  omega
theorem fok_len {f : List Fill} (h : FOk f) : f.length ≤ 8 ∧ ∀ x ∈ f, x.waiting.length ≤ 8 := by
  have h1 := all_len h
  have h2 := all_ge f
  refine ⟨by omega, fun x hx => ?_⟩
  have := wait_le hx
  omega

/-! ### Where one is found -/
theorem find_at {α : Type} {p : α → Bool} {A B : List α} {z : α} (h : ∀ y ∈ A, p y = false) (hz : p z = true) : (A ++ z :: B).findIdx? p = some A.length := by
  induction A with
  | nil => simp [List.findIdx?_cons, hz]
  | cons a A ih =>
    rw [List.cons_append, List.findIdx?_cons, h a (by simp)]
    rw [ih fun y hy => h y (by simp [hy])]
    simp
theorem mid_get {α : Type} {A B : List α} {x : α} : (A ++ x :: B)[A.length]? = some x := by simp
theorem done_at {A B : List Fill} {x : Fill} {who : Int} (hr : fRight (A ++ x :: B) = true) (hx : x.by_ = who) (hA : ∀ y ∈ A, ¬ y.by_ = who) : doneS (A ++ x :: B) who = (x.waiting, A ++ B, 0) := by
  unfold doneS
  rw [if_neg (by rw [hr]; simp), find_at (fun y hy => by simpa [isBy] using hA y hy) (by simp [isBy, hx])]
  simp only [fth_of mid_get, erase_split]
theorem leave_at {A B : List Fill} {x : Fill} {who : Int} (hr : fRight (A ++ x :: B) = true) (hx : who ∈ x.waiting) (hA : ∀ y ∈ A, who ∉ y.waiting) : leaveS (A ++ x :: B) who = (A ++ lessW x who :: B, 0) := by
  unfold leaveS
  rw [if_neg (by rw [hr]; simp), find_at (fun y hy => by simpa [isWaiting] using hA y hy) (by simp [isWaiting, hx])]
  simp only [fth_of mid_get, set_split]
theorem fth_mid {A B : List Fill} {x y : Fill} (i : Nat) : fth (A ++ y :: B) i = if i = A.length then y else fth (A ++ x :: B) i := by
  unfold fth
  rw [List.getD_eq_getElem?_getD, List.getD_eq_getElem?_getD]
  by_cases h : i = A.length
  · subst h; simp
  · rw [if_neg h]
    by_cases h2 : i < A.length
    · rw [List.getElem?_append_left h2, List.getElem?_append_left h2]
    · rw [List.getElem?_append_right (by omega), List.getElem?_append_right (by omega)]
      obtain ⟨m, hm⟩ : ∃ m, i - A.length = m + 1 := ⟨i - A.length - 1, by omega⟩
      rw [hm, List.getElem?_cons_succ, List.getElem?_cons_succ]
theorem fth_mem {f : List Fill} {i : Nat} (h : i < f.length) : fth f i ∈ f := List.mem_of_getElem? (fth_get h)

/-! ### One who is apart -/
structure Apart (f : List Fill) (l r : ByteArray) (a : Bool) (g : List Fill) : Prop where
  beg : beginS f l r 50 = (a, g, 0)
  right : fRight g = true
  len : f.length ≤ g.length ∧ g.length ≤ f.length + 1
  wlen : ∀ x ∈ g, x.waiting.length ≤ 9
  other : ∀ i, i < f.length → ¬ ((fth f i).left = l ∧ (fth f i).right = r) → fth g i = fth f i
  mine : ∀ i, i < f.length → (fth f i).left = l → (fth f i).right = r → a = false ∧ (fth g i).by_ = (fth f i).by_ ∧ (fth g i).waiting.length = (fth f i).waiting.length + 1
  done : a = true → doneS g 50 = ([], f, 0)
  leave : a = false → leaveS g 50 = (f, 0)
theorem apart_law {f : List Fill} (h : FOk f) (l r : ByteArray) : ∃ a g, Apart f l r a g := by
  have hm : (50 : Int) ∉ allOf f := fun hm => by have := h.who 50 hm; omega
  have hfl := fok_len h
  rcases begin_cases (l := l) (r := r) h.right hm with ⟨e, hn⟩ | ⟨A, x, B, rfl, hl, hr, e⟩
  · have hg := right_new h.right hm hn
    refine ⟨true, _, e, hg, by simp, ?_, ?_, ?_, ?_, fun h => by cases h⟩
    · intro x hx
      rcases List.mem_append.1 hx with hx | hx
      · have := hfl.2 x hx; omega
      · simp at hx; subst hx; simp
    · intro i hi _
      unfold fth
      rw [List.getD_eq_getElem?_getD, List.getD_eq_getElem?_getD, List.getElem?_append_left hi]
    · intro i hi h1 h2
      exact absurd ⟨h1, h2⟩ (hn _ (fth_mem hi))
    · intro _
      have := done_at (B := []) (who := 50) hg rfl fun y hy e => hm (by rw [← e]; exact by_all hy)
      simpa using this
  · have hg := right_more h.right hm
    have hxm : x ∈ A ++ x :: B := mid_self
    refine ⟨false, _, e, hg, by simp, ?_, ?_, ?_, (fun h => by cases h), ?_⟩
    · intro y hy
      rcases mid_or (x := x) hy with rfl | ⟨hy, _⟩
      · have := hfl.2 x hxm
        simp [moreW]
        omega
      · have := hfl.2 y hy; omega
    · intro i hi hmine
      rw [fth_mid (x := x)]
      rw [if_neg]
      intro e2
      subst e2
      rw [fth_of mid_get] at hmine
      exact hmine ⟨hl, hr⟩
    · intro i hi h1 h2
      have hix : fth (A ++ x :: B) i = x := text_one (right_f.1 h.right).1 (fth_mem hi) (by rw [h1, hl]) (by rw [h2, hr])
      have hiA : i = A.length := by
        refine Classical.byContradiction fun hne => ?_
        have hnd := (right_f.1 h.right).1
        have g1 := fth_get hi
        have g2 : (A ++ x :: B)[A.length]? = some x := mid_get
        rw [hix] at g1
        have t1 : (textsOf (A ++ x :: B))[i]? = some (x.left, x.right) := by rw [textsOf, List.getElem?_map, g1]; rfl
        have t2 : (textsOf (A ++ x :: B))[A.length]? = some (x.left, x.right) := by rw [textsOf, List.getElem?_map, g2]; rfl
        exact hne ((List.getElem?_inj (by rw [textsOf, List.length_map]; exact hi) hnd).1 (by rw [t1, t2]))
      subst hiA
      rw [fth_mid (x := x), if_pos rfl, hix]
      exact ⟨rfl, rfl, by simp [moreW]⟩
    · intro _
      have h50 : (50 : Int) ∉ x.waiting := fun h2 => hm (wait_all hxm h2)
      have := leave_at (who := 50) hg (by simp [moreW]) fun y hy h2 => hm (wait_all (mid_mem (.inl hy)) h2)
      rw [this]
      have e2 : lessW (moreW x 50) 50 = x := by
        have e3 : x.waiting.filter (fun w => !decide (w = 50)) = x.waiting := List.filter_eq_self.2 fun a ha => by
          have : ¬ a = 50 := fun e => h50 (e ▸ ha)
          simp [this]
        cases x
        simp only [lessW, moreW, List.filter_append, Fill.mk.injEq, true_and]
        simp only at e3
        rw [e3]; simp
      rw [e2]

/-! ### Many -/
def wList (i : Nat) : List Int := (List.range (i - 1)).map fun j : Nat => (j : Int) + 1
def manyF (l r : ByteArray) (i : Nat) : List Fill := if i = 0 then [] else [⟨l, r, 0, wList i⟩]
theorem wList_mem {i : Nat} {w : Int} : w ∈ wList i ↔ 1 ≤ w ∧ w < i := by
  simp only [wList, List.mem_map, List.mem_range]
  constructor
  · rintro ⟨j, hj, rfl⟩; omega
  · intro h; exact ⟨(w - 1).toNat, by omega, by omega⟩
theorem wList_nodup (i : Nat) : (wList i).Nodup := by
  rw [wList, List.nodup_iff_pairwise_ne, List.pairwise_map]
  exact List.pairwise_lt_range.imp fun {a b} hab => by omega
theorem wList_next {i : Nat} (h : 0 < i) : wList (i + 1) = wList i ++ [(i : Int)] := by
  obtain ⟨k, rfl⟩ : ∃ k, i = k + 1 := ⟨i - 1, by omega⟩
  simp [wList, List.range_succ]
theorem many_right (l r : ByteArray) (ws : List Int) (h : ws.Nodup) (h0 : (0 : Int) ∉ ws) : fRight [⟨l, r, 0, ws⟩] = true := by
  refine right_f.2 ⟨by simp [textsOf], ?_⟩
  simp only [allOf, whoOf, List.flatMap_cons, List.flatMap_nil, List.append_nil]
  exact List.nodup_cons.2 ⟨h0, h⟩
theorem zero_wList (i : Nat) : (0 : Int) ∉ wList i := fun h => by have := wList_mem.1 h; omega
theorem begin_many (l r : ByteArray) (i : Nat) : beginS (manyF l r i) l r i = (decide (i = 0), manyF l r (i + 1), 0) := by
  by_cases h : i = 0
  · subst h
    simp [beginS, manyF, fRight, textsOf, allOf, wList]
  · have e1 : manyF l r i = [⟨l, r, 0, wList i⟩] := if_neg h
    have e2 : manyF l r (i + 1) = [⟨l, r, 0, wList i ++ [(i : Int)]⟩] := by rw [manyF, if_neg (by omega), wList_next (by omega)]
    have hr := many_right l r (wList i) (wList_nodup i) (zero_wList i)
    have hm : (i : Int) ∉ allOf [⟨l, r, 0, wList i⟩] := by
      simp only [allOf, whoOf, List.flatMap_cons, List.flatMap_nil, List.append_nil, List.mem_cons, not_or]
      exact ⟨by omega, fun hm => by have := wList_mem.1 hm; omega⟩
    rw [e1, e2]
    unfold beginS
    rw [if_neg (by rw [hr]; simp), if_neg hm]
    simp [List.findIdx?_cons, isTexts, fth, moreW, h]
def wantF (g : Int) (i : Nat) : List Int := (wList i).filter fun w => !decide (w = g)
theorem want_next (g : Int) (i : Nat) : wantF g (i + 1) = if 0 < i ∧ ¬ (i : Int) = g then wantF g i ++ [(i : Int)] else wantF g i := by
  by_cases h : 0 < i
  · rw [wantF, wList_next h, List.filter_append]
    by_cases h2 : (i : Int) = g
    · rw [if_neg (by simp [h2])]; simp [h2, wantF]
    · rw [if_pos ⟨h, h2⟩]; simp [h2, wantF]
  · rw [if_neg (by omega)]
    obtain rfl : i = 0 := by omega
    simp [wantF, wList]
theorem many_leave (l r : ByteArray) {n : Nat} {g : Int} (hg : 1 ≤ g ∧ g < n) : leaveS (manyF l r n) g = ([⟨l, r, 0, wantF g n⟩], 0) := by
  have e1 : manyF l r n = [⟨l, r, 0, wList n⟩] := if_neg (by omega)
  rw [e1]
  have := leave_at (A := []) (B := []) (x := ⟨l, r, 0, wList n⟩) (who := g) (many_right l r _ (wList_nodup n) (zero_wList n)) (wList_mem.2 hg) (fun y hy => by simp at hy)
  exact this
theorem many_done (l r : ByteArray) {n : Nat} {g : Int} : doneS [⟨l, r, 0, wantF g n⟩] 0 = (wantF g n, [], 0) := by
  have := done_at (A := []) (B := []) (x := ⟨l, r, 0, wantF g n⟩) (who := 0) (many_right l r _ ((wList_nodup n).filter _) (fun h => zero_wList n (List.mem_filter.1 h).1)) rfl (fun y hy => by simp at hy)
  exact this
theorem begin_empty (l r : ByteArray) (w : Int) : beginS [] l r w = (true, [⟨l, r, w, []⟩], 0) := by simp [beginS, fRight, textsOf, allOf]
theorem want_len (g : Int) (i : Nat) : (wantF g i).length ≤ i := by
  have h1 := List.length_filter_le (fun w : Int => !decide (w = g)) (wList i)
  have h2 : (wList i).length = i - 1 := by simp [wList]
  unfold wantF
  omega

/-! ### None is left -/
def sumW (f : List Fill) : Nat := (f.map fun x => x.waiting.length).sum
theorem sumW_app (A B : List Fill) : sumW (A ++ B) = sumW A + sumW B := by simp [sumW]
theorem sumW_cons (x : Fill) (B : List Fill) : sumW (x :: B) = x.waiting.length + sumW B := by simp [sumW]
structure ELeave (f : List Fill) (w : Int) : Prop where
  ok : FOk f
  ge : ∀ x ∈ f, ∀ v ∈ x.waiting, w ≤ v
theorem eleave0 {f : List Fill} (h : FOk f) : ELeave f 0 := ⟨h, fun x hx v hv => (h.who v (wait_all hx hv)).1⟩
theorem less_len {l : List Int} {w : Int} (hn : l.Nodup) (hw : w ∈ l) : (l.filter fun v => !decide (v = w)).length + 1 = l.length := by
  induction l with
  | nil => simp at hw
  | cons a l ih =>
    rw [List.nodup_cons] at hn
    by_cases e : a = w
    · subst e
      have : l.filter (fun v => !decide (v = a)) = l := List.filter_eq_self.2 fun v hv => by
        have : ¬ v = a := fun e => hn.1 (e ▸ hv)
        simp [this]
      simp [List.filter_cons, this]
    · have hw2 : w ∈ l := by
        rcases List.mem_cons.1 hw with h | h
        · exact absurd h.symm e
        · exact h
      have := ih hn.2 hw2
      simp [List.filter_cons, e]
      exact this
theorem eleave_step {f : List Fill} {w : Int} (h : ELeave f w) :
    (leaveS f w = ([], 10) ∧ ELeave f (w + 1)) ∨ ∃ g, leaveS f w = (g, 0) ∧ ELeave g (w + 1) ∧ sumW g + 1 = sumW f := by
  rcases leave_cases (who := w) h.ok.right with ⟨e, hn⟩ | ⟨A, x, B, rfl, hx, e⟩
  · refine .inl ⟨e, h.ok, fun x hx v hv => ?_⟩
    have h1 := h.ge x hx v hv
    have h2 : ¬ v = w := fun e => hn x hx (e ▸ hv)
    omega
  · have hxm : x ∈ A ++ x :: B := mid_self
    have hnd := (right_f.1 h.ok.right).2
    have hxn := List.nodup_cons.1 (who_mid hnd)
    refine .inr ⟨_, e, ⟨⟨right_less w h.ok.right, fun v hv => h.ok.who v (less_all hv)⟩, fun y hy v hv => ?_⟩, ?_⟩
    · rcases mid_or (x := x) hy with rfl | ⟨hy, hy3⟩
      · have hv : v ∈ x.waiting.filter fun v => !decide (v = w) := hv
        have hv := List.mem_filter.1 hv
        have h1 := h.ge x hxm v hv.1
        have h2 : ¬ v = w := by simpa using hv.2
        omega
      · have h1 := h.ge y hy v hv
        have h2 : ¬ v = w := fun e => other_who hnd hy3 (w := w) (by simp [whoOf, hx]) (by simp [whoOf, ← e, hv])
        omega
    · have := less_len hxn.2 hx
      rw [sumW_app, sumW_app, sumW_cons, sumW_cons]
      show _ + ((x.waiting.filter fun v => !decide (v = w)).length + _) + 1 = _
      omega
theorem eleave_end {f : List Fill} (h : ELeave f 8) : sumW f = 0 := by
  have : ∀ x ∈ f, x.waiting.length = 0 := fun x hx => by
    cases hw : x.waiting with
    | nil => rfl
    | cons v l =>
      have hv : v ∈ x.waiting := by rw [hw]; simp
      have h1 := h.ge x hx v hv
      have h2 := h.ok.who v (wait_all hx hv)
      omega
  unfold sumW
  clear h
  induction f with
  | nil => rfl
  | cons x f ih =>
    rw [List.map_cons, List.sum_cons, this x (by simp), ih fun y hy => this y (by simp [hy])]
structure EDone (f : List Fill) (w : Int) : Prop where
  ok : FOk f
  ge : ∀ x ∈ f, w ≤ x.by_
theorem edone0 {f : List Fill} (h : FOk f) : EDone f 0 := ⟨h, fun x hx => (h.who _ (by_all hx)).1⟩
theorem edone_step {f : List Fill} {w : Int} (h : EDone f w) :
    (doneS f w = ([], [], 10) ∧ EDone f (w + 1)) ∨ ∃ told g, doneS f w = (told, g, 0) ∧ EDone g (w + 1) ∧ told.length + sumW g = sumW f := by
  rcases done_cases (who := w) h.ok.right with ⟨e, hn⟩ | ⟨A, x, B, rfl, hx, e⟩
  · refine .inl ⟨e, h.ok, fun x hx => ?_⟩
    have h1 := h.ge x hx
    have h2 := hn x hx
    omega
  · have hnd := (right_f.1 h.ok.right).2
    have hok : FOk (A ++ B) := by
      have := fok_done (who := w) h.ok (by rw [e])
      rw [e] at this
      exact this
    refine .inr ⟨_, _, e, ⟨hok, fun y hy => ?_⟩, ?_⟩
    · have hy3 := List.mem_append.1 hy
      have h1 := h.ge y (mid_mem hy3)
      have h2 : ¬ y.by_ = w := fun e => other_who hnd hy3 (w := w) (by simp [whoOf, hx]) (by simp [whoOf, e])
      omega
    · rw [sumW_app, sumW_app, sumW_cons]
      omega
theorem edone_end {f : List Fill} (h : EDone f 8) : f = [] := by
  cases f with
  | nil => rfl
  | cons x f =>
    have h1 := h.ge x (by simp)
    have h2 := h.ok.who _ (by_all (f := x :: f) (x := x) (by simp))
    omega
end Go.Proofs.YtdlinfekifnmkaaAm
