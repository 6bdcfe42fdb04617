/- The plain laws of layer 21, fifth part: what is told by a map that is asked one by one is linear. Conditions: none. -/
import Derived.Test.YtdlinfekifnmkaaAmHistPlays
set_option linter.unusedVariables false
set_option linter.unusedSimpArgs false
namespace Go.Proofs.YtdlinfekifnmkaaAm
open Go.Proofs

structure PS where
  out : List Event
  slots : List Slot
  at_ : List (Int × Int)
  told : List Event
  next : Nat
def zeroEv : Event := ⟨0, 0, 0, 0, false⟩
def atOf (s : PS) (w : Nat) : Int × Int := s.at_.getD w (0, 0)
def newEv (w : Nat) (c : Tri) (n : Nat) : Event := ⟨if isPutC c = true then 3 else 1, w, keyC c, 1 + n, false⟩
def slotP (c : Tri) (ci : Int) : Slot := ⟨⟨keyC c, 0⟩, ⟨#[]⟩, ⟨#[]⟩, strOfNums [1 + ci]⟩
def gotEv (w : Nat) (g : Slot × List Slot × Int) : Event := if g.2.2 = 0 ∧ 0 < g.1.val.size then ⟨2, w, 0, strVal g.1.val, true⟩ else ⟨2, w, 0, 0, false⟩
def playStep (calls : List Tri) (room : Int) (s : PS) (w : Nat) : PS :=
  if (atOf s w).2 = 0 then
    if s.next < calls.length ∧ s.next < 8 then { s with out := s.out ++ [newEv w (callAt calls s.next) s.next], at_ := s.at_.set w (s.next, 1), next := s.next + 1 }
    else s
  else if (atOf s w).2 = 1 then
    if isPutC (callAt calls (atOf s w).1.toNat) = true then
      { s with at_ := s.at_.set w ((atOf s w).1, 2), told := s.told.set w ⟨4, w, 0, 0, false⟩
               slots := if (putS s.slots room (slotP (callAt calls (atOf s w).1.toNat) (atOf s w).1)).2.2 = 0 then (putS s.slots room (slotP (callAt calls (atOf s w).1.toNat) (atOf s w).1)).1 else s.slots }
    else
      { s with at_ := s.at_.set w ((atOf s w).1, 2), told := s.told.set w (gotEv w (getS s.slots ⟨keyC (callAt calls (atOf s w).1.toNat), 0⟩))
               slots := if (getS s.slots ⟨keyC (callAt calls (atOf s w).1.toNat), 0⟩).2.2 = 0 ∧ 0 < (getS s.slots ⟨keyC (callAt calls (atOf s w).1.toNat), 0⟩).1.val.size then (getS s.slots ⟨keyC (callAt calls (atOf s w).1.toNat), 0⟩).2.1 else s.slots }
  else { s with out := s.out ++ [s.told.getD w zeroEv], at_ := s.at_.set w ((atOf s w).1, 0) }
def play0 : PS := ⟨[], [], [(0, 0), (0, 0), (0, 0), (0, 0)], [zeroEv, zeroEv, zeroEv, zeroEv], 0⟩

def tellOf (w : Nat) (e : Call) : Event := if e.put = true then ⟨4, w, 0, 0, false⟩ else ⟨2, w, 0, e.val, e.has⟩
structure HInv (calls : List Tri) (s : PS) (cs : List Call) (D : List Nat) (E : Nat → Call) (T : Nat → Nat) : Prop where
  go : callsGo [] 0 s.out = (cs, 0)
  len : cs.length = s.next
  n8 : s.next ≤ 8
  la : s.at_.length = 4
  lt : s.told.length = 4
  uniq : Uniq cs
  ph : ∀ w : Nat, w < 4 → 0 ≤ (atOf s w).1 ∧ (((atOf s w).2 = 0 ∧ ∀ a, ¬ Under cs w a) ∨ ((atOf s w).2 = 1 ∧ Under cs w (atOf s w).1.toNat ∧ (atOf s w).1.toNat ∉ D) ∨
    ((atOf s w).2 = 2 ∧ Under cs w (atOf s w).1.toNat ∧ (atOf s w).1.toNat ∈ D ∧ s.told.getD w zeroEv = tellOf w (E (atOf s w).1.toNat)))
  made : ∀ j, j < cs.length → (nth cs j).put = isPutC (callAt calls j) ∧ (nth cs j).key = keyC (callAt calls j) ∧ ((nth cs j).put = true → (nth cs j).val = 1 + j ∧ (nth cs j).has = false) ∧ ((nth cs j).to < 0 → (nth cs j).put = false → (nth cs j).val = 0 ∧ (nth cs j).has = false)
  dl : ∀ j ∈ D, j < cs.length ∧ (E j).who = 0 ∧ (E j).frm = 0 ∧ (E j).to = 0 ∧ (E j).put = isPutC (callAt calls j) ∧ (E j).key = keyC (callAt calls j) ∧ ((E j).put = true → (E j).val = 1 + j ∧ (E j).has = false) ∧ ((E j).has = false → (E j).put = false → (E j).val = 0)
  told : ∀ j, j < cs.length → 0 ≤ (nth cs j).to → j ∈ D ∧ nrm (nth cs j) = E j ∧ (T j : Int) ≤ (nth cs j).to
  tm : ∀ j ∈ D, (nth cs j).frm < T j ∧ T j ≤ s.out.length
  ord : ∀ A i B, D = A ++ i :: B → ∀ k ∈ B, T i ≤ T k

theorem hinv0 (calls : List Tri) : HInv calls play0 [] [] (fun _ => zeroCall) (fun _ => 0) where
  go := rfl
  len := rfl
  n8 := by decide
  la := rfl
  lt := rfl
  uniq := fun a b w ha => absurd ha.1 (Nat.not_lt_zero _)
  ph := fun w hw => by
    have : atOf play0 w = (0, 0) := by
      match w, hw with
      | 0, _ => rfl
      | 1, _ => rfl
      | 2, _ => rfl
      | 3, _ => rfl
    rw [this]
    exact ⟨Int.le_refl _, .inl ⟨rfl, fun a ha => absurd ha.1 (Nat.not_lt_zero _)⟩⟩
  made := fun j hj => absurd hj (Nat.not_lt_zero _)
  dl := fun j hj => by simp at hj
  told := fun j hj => absurd hj (Nat.not_lt_zero _)
  tm := fun j hj => by simp at hj
  ord := fun A i B e => by simp at e
theorem linv0 {room : Int} (hr : 0 ≤ room) : LInv room [] [] (fun _ => zeroCall) (fun _ => []) where
  nodup := List.nodup_nil
  right := by simp [rightB, keysOf]
  lenNow := by simpa using hr
  len := fun d hd => by simp at hd
  keys0 := fun s hs => by simp at hs
  val := fun F _ s hs => by simp at hs
  vok := fun F _ A e B h => by simp at h
  now := fun A d B h => by simp at h
  was := fun A d B e R h => by simp at h
theorem at_set {s : PS} {w v : Nat} {x : Int × Int} (h : s.at_.length = 4) (hw : w < 4) : (s.at_.set w x).getD v (0, 0) = if v = w then x else atOf s v := by
  by_cases e : v = w
  · subst e; simp [List.getD_eq_getElem?_getD, h, hw]
  · rw [if_neg e, List.getD_eq_getElem?_getD, List.getElem?_set_ne (fun h => e h.symm), ← List.getD_eq_getElem?_getD]; rfl
theorem told_set {s : PS} {w v : Nat} {x : Event} (h : s.told.length = 4) (hw : w < 4) : (s.told.set w x).getD v zeroEv = if v = w then x else s.told.getD v zeroEv := by
  by_cases e : v = w
  · subst e; simp [List.getD_eq_getElem?_getD, h, hw]
  · rw [if_neg e, List.getD_eq_getElem?_getD, List.getElem?_set_ne (fun h => e h.symm), ← List.getD_eq_getElem?_getD]
theorem go_snoc {out : List Event} {cs : List Call} {x : Event} (h : callsGo [] 0 out = (cs, 0)) (hs : (callStep cs out.length x).2 = 0) : callsGo [] 0 (out ++ [x]) = ((callStep cs out.length x).1, 0) := by
  rw [go_app (by rw [h]), h, Nat.zero_add, callsGo, if_pos hs, callsGo]

variable {calls : List Tri} {s : PS} {cs : List Call} {D : List Nat} {E : Nat → Call} {T : Nat → Nat}

/-- One begins. -/
theorem hinv_new (h : HInv calls s cs D E T) {w : Nat} (hw : w < 4) (h0 : (atOf s w).2 = 0) (hn : s.next < 8) :
    HInv calls { s with out := s.out ++ [newEv w (callAt calls s.next) s.next], at_ := s.at_.set w (s.next, 1), next := s.next + 1 } (cs ++ [newCall s.out.length (newEv w (callAt calls s.next) s.next)]) D E T := by
  obtain ⟨x, hx⟩ : ∃ x, x = newEv w (callAt calls s.next) s.next := ⟨_, rfl⟩
  have hno : ∀ a, ¬ Under cs w a := by
    rcases (h.ph w hw).2 with ⟨_, h1⟩ | ⟨h1, _⟩ | ⟨h1, _⟩
    · exact h1
    · rw [h0] at h1; cases h1
    · rw [h0] at h1; cases h1
  have hkind : x.kind = 3 ∨ x.kind = 1 := by rw [hx, newEv]; by_cases hp : isPutC (callAt calls s.next) = true <;> simp [hp]
  have hwho : x.who = w := by rw [hx, newEv]
  have hcall : isCall x = true := by rcases hkind with e | e <;> simp [isCall, e]
  have hbad : badEv x = false := by
    simp only [badEv, hwho, Bool.or_eq_false_iff, decide_eq_false_iff_not]
    rcases hkind with e | e <;> rw [e] <;> omega
  have hstep : callStep cs s.out.length x = (cs ++ [newCall s.out.length x], 0) := by
    rw [callStep, if_neg (by rw [hbad]; simp), if_pos hcall, hwho, under_none hno]
  rw [← hx]
  have hold : ∀ j, j < cs.length → nth (cs ++ [newCall s.out.length x]) j = nth cs j := fun j hj => nth_app hj
  have hnew : nth (cs ++ [newCall s.out.length x]) cs.length = newCall s.out.length x := nth_of (by simp)
  have hund : ∀ v a, Under (cs ++ [newCall s.out.length x]) v a → Under cs v a ∨ (a = cs.length ∧ v = w) := fun v a ha => by
    obtain ⟨a1, a2, a3⟩ := ha
    rw [List.length_append, List.length_singleton] at a1
    by_cases hal : a < cs.length
    · rw [hold a hal] at a2 a3; exact .inl ⟨hal, a2, a3⟩
    · obtain rfl : a = cs.length := by omega
      rw [hnew] at a2
      exact .inr ⟨rfl, by rw [← a2]; exact hwho⟩
  have hund2 : ∀ v a, Under cs v a → Under (cs ++ [newCall s.out.length x]) v a := fun v a ⟨a1, a2, a3⟩ => ⟨by rw [List.length_append]; omega, by rw [hold a a1]; exact a2, by rw [hold a a1]; exact a3⟩
  refine ⟨?_, by simp [h.len], by show s.next + 1 ≤ 8; omega, by simp [h.la], h.lt, ?_, ?_, ?_, ?_, ?_, ?_, h.ord⟩
  · have := go_snoc (x := x) h.go (by rw [hstep])
    rw [hstep] at this
    exact this
  · intro a b v ha hb
    rcases hund v a ha with ha | ⟨ha, hv⟩ <;> rcases hund v b hb with hb | ⟨hb, hv2⟩
    · exact h.uniq a b v ha hb
    · subst hv2; exact absurd ha (hno a)
    · subst hv; exact absurd hb (hno b)
    · omega
  · intro v hv
    have ea : atOf { s with out := s.out ++ [x], at_ := s.at_.set w (s.next, 1), next := s.next + 1 } v = if v = w then ((s.next : Int), 1) else atOf s v := at_set h.la hw
    rw [ea]
    by_cases e : v = w
    · subst e
      rw [if_pos rfl]
      refine ⟨by omega, .inr (.inl ⟨rfl, ⟨?_, ?_, ?_⟩, ?_⟩)⟩
      · simp [h.len]
      · show (nth (cs ++ [newCall s.out.length x]) (s.next : Int).toNat).who = _
        rw [Int.toNat_natCast, ← h.len, hnew]; exact hwho
      · show (nth (cs ++ [newCall s.out.length x]) (s.next : Int).toNat).to < _
        rw [Int.toNat_natCast, ← h.len, hnew]; show (-1 : Int) < 0; omega
      · show (s.next : Int).toNat ∉ D
        rw [Int.toNat_natCast]
        intro hm
        have := (h.dl _ hm).1
        have := h.len
        omega
    · rw [if_neg e]
      obtain ⟨q0, q⟩ := h.ph v hv
      refine ⟨q0, ?_⟩
      rcases q with ⟨q1, q2⟩ | ⟨q1, q2, q3⟩ | ⟨q1, q2, q3, q4⟩
      · refine .inl ⟨q1, fun a ha => ?_⟩
        rcases hund v a ha with ha | ⟨_, hvw⟩
        · exact q2 a ha
        · exact e (by omega)
      · exact .inr (.inl ⟨q1, hund2 _ _ q2, q3⟩)
      · exact .inr (.inr ⟨q1, hund2 _ _ q2, q3, q4⟩)
  · intro j hj
    rw [List.length_append, List.length_singleton] at hj
    by_cases hjl : j < cs.length
    · rw [hold j hjl]; exact h.made j hjl
    · obtain rfl : j = cs.length := by omega
      rw [hnew, h.len, hx, newEv, newCall]
      by_cases hp : isPutC (callAt calls s.next) = true
      · simp [hp]
      · simp [hp]
  · intro j hj
    obtain ⟨d1, d2⟩ := h.dl j hj
    exact ⟨by rw [List.length_append]; omega, d2⟩
  · intro j hj ht
    rw [List.length_append, List.length_singleton] at hj
    by_cases hjl : j < cs.length
    · rw [hold j hjl] at ht ⊢; exact h.told j hjl ht
    · obtain rfl : j = cs.length := by omega
      rw [hnew] at ht
      exact absurd ht (by show ¬ (0 : Int) ≤ -1; omega)
  · intro j hj
    obtain ⟨t1, t2⟩ := h.tm j hj
    rw [hold j (h.dl j hj).1]
    exact ⟨t1, by show T j ≤ (s.out ++ [x]).length; simp; omega⟩

/-- One is done. -/
theorem hinv_done (h : HInv calls s cs D E T) {w : Nat} (hw : w < 4) (h1 : (atOf s w).2 = 1) {slots' : List Slot} {e : Call} (he : e.who = 0 ∧ e.frm = 0 ∧ e.to = 0) (hp : e.put = isPutC (callAt calls (atOf s w).1.toNat)) (hk : e.key = keyC (callAt calls (atOf s w).1.toNat))
    (hv : e.put = true → e.val = 1 + (atOf s w).1 ∧ e.has = false) (hv2 : e.has = false → e.put = false → e.val = 0) (hfr : ∀ j, j < cs.length → (nth cs j).frm < s.out.length) :
    HInv calls { s with at_ := s.at_.set w ((atOf s w).1, 2), told := s.told.set w (tellOf w e), slots := slots' } cs (D ++ [(atOf s w).1.toNat]) (upd E (atOf s w).1.toNat e) (upd T (atOf s w).1.toNat s.out.length) := by
  obtain ⟨i, hi⟩ : ∃ i, i = (atOf s w).1.toNat := ⟨_, rfl⟩
  obtain ⟨q0, q⟩ := h.ph w hw
  have q : Under cs w i ∧ i ∉ D := by
    rw [hi]
    rcases q with ⟨q1, _⟩ | ⟨_, q2⟩ | ⟨q1, _⟩
    · rw [h1] at q1; cases q1
    · exact q2
    · rw [h1] at q1; cases q1
  have hii : (i : Int) = (atOf s w).1 := by omega
  rw [← hi] at hp hk ⊢
  have hne : ∀ j ∈ D, j ≠ i := fun j hj e => q.2 (e ▸ hj)
  refine ⟨h.go, h.len, h.n8, by simp [h.la], by simp [h.lt], h.uniq, ?_, h.made, ?_, ?_, ?_, ?_⟩
  · intro v hv'
    have ea : atOf { s with at_ := s.at_.set w ((atOf s w).1, 2), told := s.told.set w (tellOf w e), slots := slots' } v = if v = w then ((atOf s w).1, 2) else atOf s v := at_set h.la hw
    have et : (s.told.set w (tellOf w e)).getD v zeroEv = if v = w then tellOf w e else s.told.getD v zeroEv := told_set h.lt hw
    rw [ea]
    show _ ∧ (_ ∨ _ ∨ (_ ∧ _ ∧ _ ∧ (s.told.set w (tellOf w e)).getD v zeroEv = _))
    rw [et]
    by_cases ev : v = w
    · subst ev
      simp only [if_true]
      rw [← hi, upd_self]
      exact ⟨q0, .inr (.inr ⟨trivial, q.1, by simp, rfl⟩)⟩
    · simp only [if_neg ev]
      obtain ⟨r0, r⟩ := h.ph v hv'
      refine ⟨r0, ?_⟩
      rcases r with r | ⟨r1, r2, r3⟩ | ⟨r1, r2, r3, r4⟩
      · exact .inl r
      · refine .inr (.inl ⟨r1, r2, fun hm => ?_⟩)
        rcases List.mem_append.1 hm with hm | hm
        · exact r3 hm
        · simp at hm
          rw [hm] at r2
          have := r2.2.1
          rw [q.1.2.1] at this
          omega
      · exact .inr (.inr ⟨r1, r2, by simp [r3], by rw [upd_ne E e (hne _ r3)]; exact r4⟩)
  · intro j hj
    rcases List.mem_append.1 hj with hj | hj
    · rw [upd_ne E e (hne j hj)]; exact h.dl j hj
    · simp at hj
      subst hj
      rw [upd_self]
      exact ⟨q.1.1, he.1, he.2.1, he.2.2, hp, hk, fun hpt => ⟨by rw [(hv hpt).1, hii], (hv hpt).2⟩, hv2⟩
  · intro j hj ht
    obtain ⟨r1, r2, r3⟩ := h.told j hj ht
    rw [upd_ne E e (hne j r1), upd_ne T _ (hne j r1)]
    exact ⟨by simp [r1], r2, r3⟩
  · intro j hj
    rcases List.mem_append.1 hj with hj | hj
    · rw [upd_ne T _ (hne j hj)]; exact h.tm j hj
    · simp at hj
      subst hj
      rw [upd_self]
      exact ⟨hfr _ q.1.1, Nat.le_refl _⟩
  · intro A a B heq k hk'
    rcases split_app heq with ⟨b', heq2⟩ | ⟨a', rfl, heq2⟩
    · obtain rfl : B = b' ++ [i] := by
        rw [heq2] at heq
        simp only [List.append_assoc, List.cons_append] at heq
        have := List.append_cancel_left heq
        simpa using this.symm
      have ha : a ∈ D := by rw [heq2]; simp
      rw [upd_ne T _ (hne a ha)]
      rcases List.mem_append.1 hk' with hk' | hk'
      · rw [upd_ne T _ (hne k (by rw [heq2]; simp [hk']))]; exact h.ord A a b' heq2 k hk'
      · simp at hk'
        subst hk'
        rw [upd_self]
        exact (h.tm a ha).2
    · obtain ⟨rfl, rfl, rfl⟩ : a' = [] ∧ i = a ∧ B = [] := by cases a' with
        | nil => simpa using heq2
        | cons y ys => simp at heq2
      simp at hk'

/-- One is told. -/
theorem hinv_told (h : HInv calls s cs D E T) {w : Nat} (hw : w < 4) (h0 : ¬ (atOf s w).2 = 0) (h1 : ¬ (atOf s w).2 = 1) :
    ∃ cs', HInv calls { s with out := s.out ++ [s.told.getD w zeroEv], at_ := s.at_.set w ((atOf s w).1, 0) } cs' D E T := by
  obtain ⟨i, hi⟩ : ∃ i, i = (atOf s w).1.toNat := ⟨_, rfl⟩
  obtain ⟨q0, q⟩ := h.ph w hw
  have q : Under cs w i ∧ i ∈ D ∧ s.told.getD w zeroEv = tellOf w (E i) := by
    rw [hi]
    rcases q with ⟨q1, _⟩ | ⟨q1, _⟩ | ⟨_, q2⟩
    · exact absurd q1 h0
    · exact absurd q1 h1
    · exact q2
  obtain ⟨qu, qd, qt⟩ := q
  obtain ⟨d0, d1, d2, d3, d4, d5, d6, d7⟩ := h.dl i qd
  obtain ⟨m1, m2, m3, m4⟩ := h.made i d0
  obtain ⟨x, hx⟩ : ∃ x, x = tellOf w (E i) := ⟨_, rfl⟩
  rw [qt, ← hx]
  have hkind : x.kind = if (E i).put = true then 4 else 2 := by rw [hx, tellOf]; split <;> rfl
  have hwho : x.who = w := by rw [hx, tellOf]; split <;> rfl
  have hput : (nth cs i).put = (E i).put := by rw [m1, d4]
  have hcall : isCall x = false := by
    simp only [isCall, hkind]
    split <;> rfl
  have hbad : badEv x = false := by
    simp only [badEv, hwho, hkind, Bool.or_eq_false_iff, decide_eq_false_iff_not]
    split <;> omega
  have hk4 : decide (x.kind = 4) = (nth cs i).put := by
    rw [hkind, hput]
    by_cases hp : (E i).put = true
    · simp [hp]
    · simp [hp]
  have hstep : callStep cs s.out.length x = (cs.set i (tellCall (nth cs i) s.out.length x), 0) := by
    rw [callStep, if_neg (by rw [hbad]; simp), if_neg (by rw [hcall]; simp), hwho, under_one h.uniq qu]
    simp only [hk4, if_true]
  obtain ⟨y, hy⟩ : ∃ y, y = tellCall (nth cs i) s.out.length x := ⟨_, rfl⟩
  rw [← hy] at hstep
  obtain ⟨y1, y2, y3, y4, y5⟩ := tell_same (nth cs i) s.out.length x
  rw [← hy] at y1 y2 y3 y4 y5
  have hnrm : nrm y = E i := by
    rcases hE : E i with ⟨ep, ew, ek, ev, eh, ef, et⟩
    rw [hE] at d1 d2 d3 d4 d5 d6 d7 hput hx hkind
    simp only at d1 d2 d3 d4 d5 d6 d7 hput hx hkind
    subst d1 d2 d3
    rcases hc : nth cs i with ⟨cp, cw, ck, cv, ch, cf, ct⟩
    have qto := qu.2.2
    rw [hc] at m1 m2 m3 m4 hput hy qto
    simp only at m1 m2 m3 m4 hput qto
    subst hput
    rw [hy]
    cases cp with
    | true =>
      simp only [tellOf, if_true] at hx
      subst hx
      have := m3 rfl
      have := d6 rfl
      simp [tellCall, nrm]
      exact ⟨by rw [m2, d5], by omega, by rw [(m3 rfl).2, (d6 rfl).2]⟩
    | false =>
      simp only [tellOf, Bool.false_eq_true, if_false] at hx
      subst hx
      have h6 := m4 qto rfl
      cases eh with
      | true =>
        simp [tellCall, nrm]
        rw [m2, d5]
      | false =>
        simp [tellCall, nrm]
        exact ⟨by rw [m2, d5], by rw [h6.1, d7 rfl rfl], h6.2⟩
  have hself : nth (cs.set i y) i = y := nth_set_self d0
  have hother : ∀ j, i ≠ j → nth (cs.set i y) j = nth cs j := fun j hj => nth_set_ne hj
  have hund : ∀ v a, Under (cs.set i y) v a ↔ Under cs v a ∧ a ≠ i := fun v a => by
    by_cases e : i = a
    · subst e
      simp only [Under, hself, y5]
      constructor
      · rintro ⟨_, _, h⟩; omega
      · rintro ⟨_, h⟩; exact absurd rfl h
    · simp only [Under, hother a e, List.length_set]
      exact ⟨fun h => ⟨h, fun e' => e e'.symm⟩, fun h => h.1⟩
  refine ⟨cs.set i y, ?_, by rw [List.length_set]; exact h.len, h.n8, by simp [h.la], h.lt, ?_, ?_, ?_, ?_, ?_, ?_, h.ord⟩
  · have := go_snoc (x := x) h.go (by rw [hstep])
    rw [hstep] at this
    exact this
  · intro a b v ha hb
    exact h.uniq a b v ((hund v a).1 ha).1 ((hund v b).1 hb).1
  · intro v hv
    have ea : atOf { s with out := s.out ++ [x], at_ := s.at_.set w ((atOf s w).1, 0) } v = if v = w then ((atOf s w).1, 0) else atOf s v := at_set h.la hw
    rw [ea]
    by_cases ev : v = w
    · subst ev
      rw [if_pos rfl]
      exact ⟨q0, .inl ⟨rfl, fun a ha => by
        have := (hund v a).1 ha
        exact this.2 (h.uniq a i v this.1 qu)⟩⟩
    · rw [if_neg ev]
      obtain ⟨r0, r⟩ := h.ph v hv
      have hnv : ∀ a, Under cs v a → a ≠ i := fun a ha e => by
        subst e
        have := ha.2.1
        rw [qu.2.1] at this
        omega
      refine ⟨r0, ?_⟩
      rcases r with ⟨r1, r2⟩ | ⟨r1, r2, r3⟩ | ⟨r1, r2, r3, r4⟩
      · exact .inl ⟨r1, fun a ha => r2 a ((hund v a).1 ha).1⟩
      · exact .inr (.inl ⟨r1, (hund _ _).2 ⟨r2, hnv _ r2⟩, r3⟩)
      · exact .inr (.inr ⟨r1, (hund _ _).2 ⟨r2, hnv _ r2⟩, r3, r4⟩)
  · intro j hj
    rw [List.length_set] at hj
    by_cases e : i = j
    · subst e
      rw [hself, y4, y3]
      refine ⟨m1, m2, fun hp => ?_, fun ht => by rw [y5] at ht; omega⟩
      have h6 := d6 (by rw [← hput]; exact hp)
      have hv : y.val = (E i).val ∧ y.has = (E i).has := by rw [← hnrm]; exact ⟨rfl, rfl⟩
      rw [hv.1, hv.2]; exact h6
    · rw [hother j e]; exact h.made j hj
  · intro j hj
    rw [List.length_set]; exact h.dl j hj
  · intro j hj ht
    rw [List.length_set] at hj
    by_cases e : i = j
    · subst e
      rw [hself] at ht ⊢
      exact ⟨qd, hnrm, by rw [y5]; have := (h.tm i qd).2; omega⟩
    · rw [hother j e] at ht ⊢; exact h.told j hj ht
  · intro j hj
    obtain ⟨t1, t2⟩ := h.tm j hj
    refine ⟨?_, by show T j ≤ (s.out ++ [x]).length; simp; omega⟩
    by_cases e : i = j
    · subst e; rw [hself, y1]; exact t1
    · rw [hother j e]; exact t1

/-- In the end. -/
theorem hinv_linear {room : Int} {S : Nat → List Slot} {slots : List Slot} (h : HInv calls s cs D E T) (hl : LInv room slots D E S) (hft : ∀ j, j < cs.length → 0 ≤ (nth cs j).to → (nth cs j).frm < (nth cs j).to) : linear cs room = true := by
  obtain ⟨F, hFd⟩ : ∃ F : Nat → Bool, F = fun j => decide (0 ≤ (nth cs j).to) || (nth cs j).put := ⟨_, rfl⟩
  have hF : ∀ j, F j = true ↔ 0 ≤ (nth cs j).to ∨ (nth cs j).put = true := fun j => by rw [hFd]; simp
  have hkeep : keeps D E F := fun d hd hp => (hF d).2 (.inr (by rw [(h.made d (h.dl d hd).1).1, ← (h.dl d hd).2.2.2.2.1]; exact hp))
  refine linear_iff.2 ⟨D.filter F, fun i hi => (h.dl i (List.mem_filter.1 hi).1).1, fun a i b heq => ?_, ?_, whole_iff.2 fun i hi ht => List.mem_filter.2 ⟨(h.told i hi ht).1, (hF i).2 (.inl ht)⟩⟩
  · obtain ⟨l1, l2, rfl, h3, h4⟩ := List.filter_eq_append_iff.1 heq
    obtain ⟨m1, m2, rfl, h5, h6, h7⟩ := List.filter_eq_cons_iff.1 h4
    have hi : i ∈ l1 ++ (m1 ++ i :: m2) := by simp
    have hnd := hl.nodup
    have e : l1 ++ (m1 ++ i :: m2) = (l1 ++ m1) ++ i :: m2 := by simp
    refine may_iff.2 ⟨fun hm => ?_, (hF i).1 h6, fun k hk hn => ?_⟩
    · rw [← h3] at hm
      rw [e, List.nodup_append] at hnd
      exact hnd.2.2 i (by simp [(List.mem_filter.1 hm).1]) i (by simp) rfl
    · cases hb : before (nth cs k) (nth cs i) with
      | false => rfl
      | true =>
        exfalso
        have hb := before_to hb
        obtain ⟨k1, k2, k3⟩ := h.told k hk hb.1
        have hki : k = i ∨ k ∈ m2 := by
          rw [e] at k1
          rcases List.mem_append.1 k1 with k1 | k1
          · exfalso
            apply hn
            rw [← h3]
            rcases List.mem_append.1 k1 with k1 | k1
            · exact List.mem_filter.2 ⟨k1, (hF k).2 (.inl hb.1)⟩
            · exact absurd ((hF k).2 (.inl hb.1)) (h5 k k1)
          · exact List.mem_cons.1 k1
        rcases hki with rfl | hki
        · have := hft k hk hb.1; omega
        · have h8 := h.ord (l1 ++ m1) i m2 e k hki
          have h9 := (h.tm i hi).1
          omega
  · have hleg := linv_legal hl hkeep
    rw [legal_same (d := (D.filter F).map E)]
    · exact hleg
    · rw [listed, List.map_map, List.map_map]
      refine List.map_congr_left fun j hj => ?_
      obtain ⟨j1, j2⟩ := List.mem_filter.1 hj
      obtain ⟨d0, d1, d2, d3, d4, d5, d6, d7⟩ := h.dl j j1
      have hE : nrm (E j) = E j := by
        rcases hE : E j with ⟨ep, ew, ek, ev, eh, ef, et⟩
        rw [hE] at d1 d2 d3
        simp only at d1 d2 d3
        subst d1 d2 d3
        rfl
      show nrm (nth cs j) = nrm (E j)
      rw [hE]
      by_cases ht : 0 ≤ (nth cs j).to
      · exact (h.told j d0 ht).2.1
      · have hp : (nth cs j).put = true := by
          rcases (hF j).1 j2 with h | h
          · exact absurd h ht
          · exact h
        obtain ⟨m1, m2, m3, m4⟩ := h.made j d0
        obtain ⟨v1, v2⟩ := m3 hp
        have hpe : (E j).put = true := by rw [d4, ← m1]; exact hp
        obtain ⟨u1, u2⟩ := d6 hpe
        rcases hE : E j with ⟨ep, ew, ek, ev, eh, ef, et⟩
        rcases hc : nth cs j with ⟨cp, cw, ck, cv, ch, cf, ct⟩
        rw [hE] at d1 d2 d3 d5 hpe u1 u2
        rw [hc] at m2 v1 v2 hp
        simp only at d1 d2 d3 d5 hpe u1 u2 m2 v1 v2 hp
        subst d1 d2 d3 hpe hp
        simp [nrm]
        exact ⟨by rw [m2, d5], by rw [v1, u1], by rw [v2, u2]⟩
end Go.Proofs.YtdlinfekifnmkaaAm
