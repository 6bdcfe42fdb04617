/- The abstract machine of these proofs, part 2: what a piece of code does to an abstract frame; control, and regions in whatever order. Conditions: none. -/
import Derived.Test.YtdlinfekifnmkaaAmCore
import Derived.Deep.LoopGhost
set_option linter.unusedVariables false
set_option linter.unusedSimpArgs false
namespace Go.Proofs.YtdlinfekifnmkaaAm

def New (C : Cx) (H H' : Heap) : Prop := ∀ u, H'.M u → H.M u ∨ C.gen ≤ u
theorem New.refl (C : Cx) (H : Heap) : New C H H := fun _ h => .inl h
theorem New.trans {C C1 : Cx} {H H1 H2 : Heap} (h : New C H H1) (hg : C.gen ≤ C1.gen) (h1 : New C1 H1 H2) : New C H H2 := fun u hu => by
  rcases h1 u hu with h' | h'
  · exact h u h'
  · exact .inr (Nat.le_trans hg h')

/-- What is left: some reading of the new world, in which the new frame is as 'Q' says. -/
def APost (C : Cx) (H : Heap) (Q : Exit → St → Prop) : Exit → Act → World → Prop := fun e a' w' =>
  ∃ (C' : Cx) (s' : St), C'.w = w' ∧ Rel C' s' a' ∧ Le H.M C C' ∧ New C H s'.H ∧ Q e s'

def AWP (P : Program) (c : Code) (Q : Exit → St → Prop) (s : St) : Prop :=
  ∀ (C : Cx) (a : Act), Rel C s a → c.wp P (APost C s.H Q) a C.w

theorem APost.trans {C C1 : Cx} {H H1 : Heap} {Q : Exit → St → Prop} (ok : C.Ok) (hl : Le H.M C C1) (hn : New C H H1) {e : Exit} {a : Act} {w : World}
    (h : APost C1 H1 Q e a w) : APost C H Q e a w := by
  obtain ⟨C2, s2, hw, hr, hl2, hn2, hq⟩ := h
  exact ⟨C2, s2, hw, hr, hl.trans ok hl2 hn, hn.trans hl.gen hn2, hq⟩

section rules
variable {P : Program} {Q : Exit → St → Prop} {s : St}

theorem awp_mono {c : Code} {Q' : Exit → St → Prop} (h : AWP P c Q s) (hq : ∀ e s', Q e s' → Q' e s') : AWP P c Q' s := fun C a hr =>
  Code.wp_mono (fun e a' w' ⟨C', s', h1, h2, h3, h4, h5⟩ => ⟨C', s', h1, h2, h3, h4, hq e s' h5⟩) (h C a hr)

def Then (K : St → Prop) (Q : Exit → St → Prop) : Exit → St → Prop
  | .normal, s => K s
  | e, s => Q e s

theorem awp_seq {x y : Code} (h : AWP P x (Then (AWP P y Q) Q) s) : AWP P (.seq x y) Q s := by
  intro C a hr
  refine wp_seq (Code.wp_mono ?_ (h C a hr))
  intro e a1 w1 hp
  obtain ⟨C1, s1, rfl, hr1, hl1, hn1, hq⟩ := hp
  cases e with
  | normal => exact Code.wp_mono (fun e a2 w2 hp2 => hp2.trans hr.ok hl1 hn1) (hq C1 a1 hr1)
  | exit id => exact ⟨C1, s1, rfl, hr1, hl1, hn1, hq⟩
  | goto l => exact ⟨C1, s1, rfl, hr1, hl1, hn1, hq⟩
  | ret => exact ⟨C1, s1, rfl, hr1, hl1, hn1, hq⟩
  | panic ch => exact ⟨C1, s1, rfl, hr1, hl1, hn1, hq⟩
  | outgrown => exact ⟨C1, s1, rfl, hr1, hl1, hn1, hq⟩

theorem APost.now {C : Cx} {a : Act} (hr : Rel C s a) {e : Exit} (hq : Q e s) : APost C s.H Q e a C.w :=
  ⟨C, s, rfl, hr, Le.refl _ _, New.refl _ _, hq⟩

theorem awp_skip (h : Q .normal s) : AWP P .skip Q s := fun C a hr => wp_skip (APost.now hr h)
theorem awp_exit {id : Nat} (h : Q (.exit id) s) : AWP P (.exit id) Q s := fun C a hr => wp_exit (APost.now hr h)
theorem awp_ret (h : Q .ret s) : AWP P .ret Q s := fun C a hr => wp_ret (APost.now hr h)
theorem awp_label {l : Nat} (h : Q .normal s) : AWP P (.label l) Q s := fun C a hr => wp_label (APost.now hr h)

theorem rv_bool {C : Cx} {b : Bool} {v : Value} (h : RV C (.lit (.bool b)) v) : v = .bool b := by cases h; rfl
theorem rv_lit {C : Cx} {u v : Value} (h : RV C (.lit u) v) : v = u := by cases h; rfl

theorem awp_cond {c : Operand} {x y : Code} {b : Bool} (hc : s.eval c = .lit (.bool b)) (ht : b = true → AWP P x Q s) (hf : b = false → AWP P y Q s) : AWP P (.cond c x y) Q s := by
  intro C a hr
  have hv := hr.eval c
  rw [hc] at hv
  exact wp_cond_split (rv_bool hv) (fun h => ht h C a hr) (fun h => hf h C a hr)

def InBlk (id : Nat) (Q : Exit → St → Prop) : Exit → St → Prop
  | .exit i, s => if i = id then Q .normal s else Q (.exit i) s
  | e, s => Q e s

theorem awp_block {id : Nat} {c : Code} (h : AWP P c (InBlk id Q) s) : AWP P (.block id c) Q s := by
  intro C a hr
  refine wp_block (Code.wp_mono ?_ (h C a hr))
  intro e a1 w1 hp
  obtain ⟨C1, s1, rfl, hr1, hl1, hn1, hq⟩ := hp
  cases e with
  | exit i =>
    simp only [InBlk] at hq
    simp only [Exit.inBlock]
    split
    · rename_i h; rw [if_pos h] at hq; exact ⟨C1, s1, rfl, hr1, hl1, hn1, hq⟩
    · rename_i h; rw [if_neg h] at hq; exact ⟨C1, s1, rfl, hr1, hl1, hn1, hq⟩
  | normal => exact ⟨C1, s1, rfl, hr1, hl1, hn1, hq⟩
  | goto l => exact ⟨C1, s1, rfl, hr1, hl1, hn1, hq⟩
  | ret => exact ⟨C1, s1, rfl, hr1, hl1, hn1, hq⟩
  | panic ch => exact ⟨C1, s1, rfl, hr1, hl1, hn1, hq⟩
  | outgrown => exact ⟨C1, s1, rfl, hr1, hl1, hn1, hq⟩

/-- What is known less of. -/
structure Sub (s s2 : St) : Prop where
  n : s2.n = s.n
  t : ∀ i, look s2.t i = .any ∨ look s.t i = look s2.t i
  H : s2.H.Sublist s.H

theorem Rel.sub {C : Cx} {s2 : St} {a : Act} (h : Rel C s a) (hs : Sub s s2) : Rel C s2 a := by
  refine ⟨h.ok, ⟨?_, fun u o ho => h.h.ob u o (hs.H.subset ho)⟩, by rw [h.n, hs.n], fun i => ?_, h.d⟩
  · exact List.Nodup.sublist (hs.H.map _) h.h.nodup
  · rcases hs.t i with h1 | h1
    · rw [h1]; exact .any
    · rw [← h1]; exact h.t i

def SubT : List (Nat × AV) → List (Nat × AV) → Prop
  | [], _ => True
  | (i, x) :: r, t => look t i = x ∧ SubT r t

theorem look_subT {t2 t : List (Nat × AV)} (h : SubT t2 t) (i : Nat) : look t2 i = .any ∨ look t i = look t2 i := by
  induction t2 with
  | nil => exact .inl rfl
  | cons p r ih =>
    obtain ⟨j, x⟩ := p
    simp only [look_cons]
    by_cases hji : j = i
    · subst hji; right; simp; exact h.1
    · have : (j == i) = false := by simpa using hji
      rw [this]; exact ih h.2

theorem Sub.mk' {t t2 : List (Nat × AV)} {n : Nat} {H H2 : Heap} (ht : SubT t2 t) (hH : H2.Sublist H) : Sub ⟨t, n, H⟩ ⟨t2, n, H2⟩ := ⟨rfl, look_subT ht, hH⟩

theorem New.sub {H H2 : Heap} (C : Cx) (h : H2.Sublist H) : New C H H2 := fun u hu => .inl ((h.map (·.1)).subset hu)

theorem awp_weak {c : Code} (s2 : St) (hs : Sub s s2) (h : AWP P c Q s2) : AWP P c Q s := fun C a hr =>
  Code.wp_mono (fun e a' w' hp => hp.trans hr.ok ((Le.refl _ _).mono (fun _ h => h)) (New.sub C hs.H)) (h C a (hr.sub hs))

/-- A loop: a family of frames, a number that every round lowers. -/
theorem awp_loop {α : Type} {c : Code} (S : α → St) (m : α → Nat) (x0 : α) (h0 : Sub s (S x0))
    (round : ∀ x, AWP P c (Then (fun s' => ∃ y, m y < m x ∧ Sub s' (S y)) Q) (S x)) : AWP P (.loop c) Q s := by
  intro C a hr
  refine wp_loop_ghost (fun k a' w' => ∃ x C', m x = k ∧ C'.w = w' ∧ Rel C' (S x) a' ∧ Le s.H.M C C' ∧ New C s.H (S x).H) (m x0)
    ⟨x0, C, rfl, rfl, hr.sub h0, Le.refl _ _, New.sub C h0.H⟩ ?_
  rintro k a1 w1 ⟨x, C1, rfl, rfl, hr1, hl1, hn1⟩
  refine Code.wp_mono ?_ (round x C1 a1 hr1)
  rintro e a2 w2 ⟨C2, s2, rfl, hr2, hl2, hn2, hq⟩
  have hl := hl1.trans hr.ok hl2 hn1
  have hn := hn1.trans hl1.gen hn2
  cases e with
  | normal =>
    obtain ⟨y, hlt, hs⟩ := hq
    exact ⟨m y, hlt, y, C2, rfl, rfl, hr2.sub hs, hl, fun u hu => hn u ((hs.H.map (·.1)).subset hu)⟩
  | exit i => exact ⟨C2, s2, rfl, hr2, hl, hn, hq⟩
  | goto l => exact ⟨C2, s2, rfl, hr2, hl, hn, hq⟩
  | ret => exact ⟨C2, s2, rfl, hr2, hl, hn, hq⟩
  | panic ch => exact ⟨C2, s2, rfl, hr2, hl, hn, hq⟩
  | outgrown => exact ⟨C2, s2, rfl, hr2, hl, hn, hq⟩

/-- As 'awp_loop', with what holds of the family's letters said apart. -/
theorem awp_loop_inv {α : Type} {c : Code} (S : α → St) (I : α → Prop) (m : α → Nat) (x0 : α) (hI : I x0) (h0 : Sub s (S x0))
    (round : ∀ x, I x → AWP P c (Then (fun s' => ∃ y, I y ∧ m y < m x ∧ Sub s' (S y)) Q) (S x)) : AWP P (.loop c) Q s :=
  awp_loop (fun x : { x // I x } => S x.1) (fun x => m x.1) ⟨x0, hI⟩ h0 fun x =>
    awp_mono (round x.1 x.2) fun e s' hq => by
      cases e with
      | normal => obtain ⟨y, h1, h2, h3⟩ := hq; exact ⟨⟨y, h1⟩, h2, h3⟩
      | exit i => exact hq
      | goto l => exact hq
      | ret => exact hq
      | panic ch => exact hq
      | outgrown => exact hq
end rules

/-! ### Operations -/
theorem upon_mono {P : Program} {o : Oper} {a : Act} {K K' : Act → World → Prop} {Q Q' : Exit → Act → World → Prop} (h : ∀ a w, K a w → K' a w) (hq : ∀ e a w, Q e a w → Q' e a w)
    {r : Result Next} (hh : o.upon P a K Q r) : o.upon P a K' Q' r := by
  cases r with
  | ok n w' =>
    cases n <;> simp only [Oper.upon] at hh ⊢ <;>
      first
        | exact h _ _ hh
        | exact Calls.mono hh (fun e w'' he => by
            cases e with
            | returned v => exact h _ _ he
            | panicked c => exact hq _ _ _ he
            | outgrown => obtain ⟨a, w, he⟩ := he; exact ⟨a, w, hq _ _ _ he⟩)
        | exact Rows.mono hh (fun _ _ he => h _ _ he)
  | halt x w' => cases x <;> simp only [Oper.upon] at hh ⊢ <;> exact hq _ _ _ hh

theorem oper_wp_mono {P : Program} {o : Oper} {a : Act} {w : World} {K K' : Act → World → Prop} {Q Q' : Exit → Act → World → Prop} (h : ∀ a w, K a w → K' a w) (hq : ∀ e a w, Q e a w → Q' e a w)
    (hh : o.wp P a w K Q) : o.wp P a w K' Q' := upon_mono h hq hh

theorem wpList_mono {P : Program} {ops : Array Oper} {Q Q' : Exit → Act → World → Prop} (hq : ∀ e a w, Q e a w → Q' e a w) : ∀ (l : List Oper) (a : Act) (w : World),
    wpList P ops Q l a w → wpList P ops Q' l a w
  | [], a, w, h => hq _ _ _ h
  | o :: l, a, w, h => by
    unfold wpList at h ⊢
    split
    · rename_i hw
      rw [if_pos hw] at h
      rcases h with h | ⟨h1, a0, w0, h2⟩
      · exact .inl (oper_wp_mono (wpList_mono hq l) hq h)
      · exact .inr ⟨h1, a0, w0, hq _ _ _ h2⟩
    · rename_i hw
      rw [if_neg hw] at h
      exact wpList_mono hq l _ _ h

/-- Is the operation carried out? -/
def gd (ops : Array Oper) (o : Oper) (t : List (Nat × AV)) : Option Bool :=
  match o.guard with
  | none => some true
  | some (j, want) => match (ops[j]?).bind (·.dst) with
    | none => none
    | some d => match look t d with
      | .lit (.bool b) => some (b == want)
      | .lit (.tuple _) => some false
      | _ => none

theorem getD_some {a : Array Value} {d : Nat} {v : Value} (h : a.getD d undef = v) (hb : ∃ b, v = .bool b) : a[d]? = some v := by
  by_cases hd : d < a.size
  · simp [hd] at h ⊢; exact h
  · simp [hd] at h
    obtain ⟨b, rfl⟩ := hb
    cases h

theorem gd_wanted {ops : Array Oper} {o : Oper} {t : List (Nat × AV)} {b : Bool} (h : gd ops o t = some b) {C : Cx} {tmps : Array Value}
    (hr : ∀ j want d, o.guard = some (j, want) → (ops[j]?).bind (·.dst) = some d → RV C (look t d) (tmps.getD d undef)) : Region.wanted o (yielded ops tmps) = b := by
  unfold gd at h
  unfold Region.wanted
  cases hg : o.guard with
  | none => simp only [hg] at h; injection h with h
  | some p =>
    obtain ⟨j, want⟩ := p
    simp only [hg] at h
    cases hd : (ops[j]?).bind (·.dst) with
    | none => simp only [hd] at h; cases h
    | some d =>
      simp only [hd] at h
      have hv := hr j want d hg hd
      generalize hl : look t d = x at h hv
      have hy : yielded ops tmps j = match tmps[d]? with | some (.bool b) => some b | _ => none := by
        unfold yielded; rw [hd]; rfl
      simp only [hy]
      cases x with
      | lit v =>
        have hv' := rv_lit hv
        cases v with
        | bool c =>
          injection h with h
          rw [getD_some hv' ⟨c, rfl⟩]
          rw [← h]
          cases c <;> cases want <;> rfl
        | tuple vs =>
          injection h with h
          rw [← h]
          have : ∀ b, tmps[d]? ≠ some (.bool b) := by
            intro b hb
            simp [hb] at hv'
          split
          · rename_i b hb; exact absurd hb (this b)
          · rfl
        | _ => cases h
      | _ => cases h

/-- What an operation does, given its operands and the objects. -/
def EOp (P : Program) (o : Oper) (ev : Operand → AV) (H : Heap) (R : AV → Heap → Prop) : Prop :=
  ∀ (C : Cx) (a : Act), C.Ok → HRel C H → (∀ x ∈ o.op.operands, RV C (ev x) (a.eval x)) → ∀ (next : Act → World → Prop) (Q : Exit → Act → World → Prop),
    (∀ (C' : Cx) (v : Value) (r : AV) (H' : Heap), R r H' → C'.Ok → Le H.M C C' → New C H H' → HRel C' H' → RV C' r v → next (a.put o.dst v) C'.w) → o.wp P a C.w next Q

/-- A quiet operation: the objects are as they were. -/
abbrev QOp (P : Program) (o : Oper) (ev : Operand → AV) (H : Heap) (r : AV) : Prop := EOp P o ev H (fun r' H' => r' = r ∧ H' = H)

def putT (t : List (Nat × AV)) (d : Option Tmp) (x : AV) : List (Nat × AV) :=
  match d with
  | some i => (i, x) :: t
  | none => t

theorem put_eq (s : St) (d : Option Tmp) (x : AV) : s.put d x = ⟨putT s.t d x, s.n, s.H⟩ := by cases d <;> rfl

theorem HRel.perm {C : Cx} {H H' : Heap} (h : HRel C H) (hp : H.Perm H') : HRel C H' :=
  ⟨(hp.map (·.1)).nodup_iff.1 h.nodup, fun u o ho => h.ob u o (hp.mem_iff.2 ho)⟩
theorem ObRel.lt {C : Cx} {u : Nat} {o : Ob} (h : ObRel C u o) : u < C.gen := by cases o <;> exact h.1
theorem HRel.lt {C : Cx} {H : Heap} (h : HRel C H) {u : Nat} (hu : H.M u) : u < C.gen := by
  obtain ⟨⟨u', o⟩, hm, rfl⟩ := List.mem_map.1 hu
  exact (h.ob u' o hm).lt
theorem HRel.left {C : Cx} {H H2 : Heap} (h : HRel C (H ++ H2)) : HRel C H :=
  ⟨by have := h.nodup; rw [List.map_append] at this; exact (List.nodup_append.1 this).1, fun u o ho => h.ob u o (List.mem_append_left _ ho)⟩
theorem HRel.right {C : Cx} {H H2 : Heap} (h : HRel C (H ++ H2)) : HRel C H2 :=
  ⟨by have := h.nodup; rw [List.map_append] at this; exact (List.nodup_append.1 this).2.1, fun u o ho => h.ob u o (List.mem_append_right _ ho)⟩

/-- What stays beside. -/
theorem HRel.frame {C C' : Cx} {Hc Hv Hv' : Heap} (ok : C.Ok) (h : HRel C (Hc ++ Hv)) (hl : Le Hv.M C C') (hn : New C Hv Hv') (h' : HRel C' Hv') : HRel C' (Hc ++ Hv') := by
  have hnd := h.nodup
  rw [List.map_append, List.nodup_append] at hnd
  have hc : HRel C' Hc := h.left.le ok hl (fun u hu hu' => hnd.2.2 u hu u hu' rfl)
  refine ⟨?_, fun u o ho => ?_⟩
  · rw [List.map_append, List.nodup_append]
    refine ⟨hc.nodup, h'.nodup, fun u hu u' hu' he => ?_⟩
    subst he
    rcases hn u hu' with h1 | h1
    · exact hnd.2.2 u hu u h1 rfl
    · have := h.left.lt hu
      omega
  · rcases List.mem_append.1 ho with ho | ho
    · exact hc.ob u o ho
    · exact h'.ob u o ho
theorem Heap.M_append {H H2 : Heap} {u : Nat} : Heap.M (H ++ H2) u ↔ H.M u ∨ H2.M u := by simp [Heap.M]
theorem Heap.M_perm {H H2 : Heap} (h : H.Perm H2) {u : Nat} : H.M u ↔ H2.M u := (h.map (·.1)).mem_iff

theorem EOp.frame {P : Program} {o : Oper} {ev : Operand → AV} {Hc Hv : Heap} {R : AV → Heap → Prop} (h : EOp P o ev Hv R) : EOp P o ev (Hc ++ Hv) (fun r H' => ∃ Hv', H' = Hc ++ Hv' ∧ R r Hv') := by
  intro C a ok hh hx next Q hn
  refine h C a ok hh.right hx next Q fun C' v r Hv' hR ok' hl hnew hh' hv => ?_
  refine hn C' v r (Hc ++ Hv') ⟨Hv', rfl, hR⟩ ok' (hl.mono fun u hu => Heap.M_append.2 (.inr hu)) (fun u hu => ?_) (hh.frame ok hl hnew hh') hv
  rcases Heap.M_append.1 hu with h1 | h1
  · exact .inl (Heap.M_append.2 (.inl h1))
  · rcases hnew u h1 with h2 | h2
    · exact .inl (Heap.M_append.2 (.inr h2))
    · exact .inr h2
theorem EOp.perm {P : Program} {o : Oper} {ev : Operand → AV} {H H2 : Heap} {R : AV → Heap → Prop} (hp : H.Perm H2) (h : EOp P o ev H2 R) : EOp P o ev H R := by
  intro C a ok hh hx next Q hn
  exact h C a ok (hh.perm hp) hx next Q fun C' v r H' hR ok' hl hnew hh' hv => hn C' v r H' hR ok' (hl.mono fun u hu => (Heap.M_perm hp).2 hu)
    (fun u hu => (hnew u hu).imp (Heap.M_perm hp).2 id) hh' hv
theorem EOp.mono {P : Program} {o : Oper} {ev : Operand → AV} {H : Heap} {R R' : AV → Heap → Prop} (h : EOp P o ev H R) (hR : ∀ r H', R r H' → R' r H') : EOp P o ev H R' :=
  fun C a ok hh hx next Q hn => h C a ok hh hx next Q fun C' v r H' hr => hn C' v r H' (hR r H' hr)

/-- A list of operations, carried out in turn. -/
def AList (P : Program) (ops : Array Oper) (Q : Exit → St → Prop) (l : List Oper) (s : St) : Prop :=
  ∀ (C : Cx) (a : Act), Rel C s a → wpList P ops (APost C s.H Q) l a C.w

section lists
variable {P : Program} {ops : Array Oper} {Q : Exit → St → Prop} {l : List Oper} {s : St} {o : Oper}

theorem alist_nil (h : Q .normal s) : AList P ops Q [] s := fun C a hr => APost.now hr h

theorem alist_e {R : AV → Heap → Prop} (hg : gd ops o s.t = some true) (h : EOp P o s.eval s.H R) (hd : ∀ i, o.dst = some i → i < s.n)
    (hk : ∀ r H', R r H' → AList P ops Q l ⟨putT s.t o.dst r, s.n, H'⟩) : AList P ops Q (o :: l) s := by
  intro C a hr
  have hw := gd_wanted hg (fun j want d _ _ => hr.t d)
  unfold wpList
  rw [if_pos hw]
  refine .inl (h C a hr.ok hr.h (fun x _ => hr.eval x) _ _ fun C' v r H' hR ok' hl hn hh' hv => ?_)
  have hrel : Rel C' ⟨s.t, s.n, H'⟩ a := hr.le ok' hl hh'
  have hput := hrel.put (d := o.dst) hd hv
  rw [put_eq] at hput
  exact wpList_mono (fun e a w hp => hp.trans hr.ok hl hn) _ _ _ (hk r H' hR C' _ hput)

theorem alist_q {r : AV} (hg : gd ops o s.t = some true) (h : QOp P o s.eval s.H r) (hd : ∀ i, o.dst = some i → i < s.n) (hk : AList P ops Q l ⟨putT s.t o.dst r, s.n, s.H⟩) : AList P ops Q (o :: l) s :=
  alist_e hg h hd (fun r' H' ⟨h1, h2⟩ => by subst h1; subst h2; exact hk)

theorem alist_not (hg : gd ops o s.t = some false) (hd : ∀ i, o.dst = some i → i < s.n) (hk : AList P ops Q l ⟨putT s.t o.dst (.lit undef), s.n, s.H⟩) : AList P ops Q (o :: l) s := by
  rw [← put_eq] at hk
  intro C a hr
  have hw := gd_wanted hg (fun j want d _ _ => hr.t d)
  unfold wpList
  rw [if_neg (by rw [hw]; simp)]
  have hr' := hr.put (d := o.dst) hd (RV.lit (v := undef))
  have hH : (s.put o.dst (.lit undef)).H = s.H := by unfold St.put; split <;> rfl
  refine wpList_mono (fun e a w hp => ?_) _ _ _ (hk C _ hr')
  rw [hH] at hp
  exact hp

theorem alist_weak (s2 : St) (hs : Sub s s2) (h : AList P ops Q l s2) : AList P ops Q l s := fun C a hr =>
  wpList_mono (fun e a' w' hp => hp.trans hr.ok ((Le.refl _ _).mono (fun _ h => h)) (New.sub C hs.H)) _ _ _ (h C a (hr.sub hs))

theorem awp_region {id : Nat} {l : List Oper} (h : AList P l.toArray Q l s) : AWP P (.region id l.toArray false) Q s := fun C a hr => wp_region_lit (h C a hr)
end lists

end Go.Proofs.YtdlinfekifnmkaaAm
