/- The abstract machine of these proofs, part 1: abstract values, objects, and when a world bears them. Conditions: none. -/
import Derived.Tactics
import Derived.Still
import Derived.StillTail
import Derived.Laws.AppendOwn
import Derived.Laws.Rows
set_option linter.unusedVariables false
set_option linter.unusedSimpArgs false
namespace Go.Proofs.YtdlinfekifnmkaaAm

/-- An abstract value. -/
inductive AV where
  | any
  | lit (v : Value)
  | ro (es : List (List AV))
  | cro (es : List (List AV))
  | ip (cs : List AV)
  | ptr (u i off : Nat)
  | sl (u l h : Nat)
  | mp (u : Nat)
  | clo (fn : Fn) (first caps : List AV)
  | agg (cs : List AV)
  | tup (vs : List AV)

/-- Where an object lies: a slice's address, its capacity, an element's cells. -/
structure Anc where
  A : Option Addr
  cap : Nat
  size : Nat

/-- How a world is read: where each object lies, which object owns a block, how many objects have been named. -/
structure Cx where
  ph : Nat → Anc
  own : Nat → Option Nat
  gen : Nat
  w : World

def Cx.U (C : Cx) (k : Nat) : Prop := k < C.w.heap.size ∧ C.own k = none

structure Cx.Ok (C : Cx) : Prop where
  own : ∀ k u, C.own k = some u → k < C.w.heap.size ∧ u < C.gen

/-- A cell of memory that nobody writes. -/
def CellAt (C : Cx) (A : Option Addr) (k : Nat) (v : Value) : Prop := ∃ a, A = some a ∧ C.U a.block ∧ C.w.cell? (a.add k) = some v

inductive RV (C : Cx) : AV → Value → Prop where
  | any {v : Value} : RV C .any v
  | lit {v : Value} : RV C (.lit v) v
  | ro {es : List (List AV)} {A : Option Addr} {n c size : Nat} (vs : Nat → Nat → Value) (hn : n = es.length) (hc : n ≤ c) (hm : c ≤ maxLen) (hsz : ∀ e ∈ es, e.length = size)
      (hcell : ∀ i e, es[i]? = some e → ∀ j x, e[j]? = some x → CellAt C A (i * size + j) (vs i j)) (hrv : ∀ i e, es[i]? = some e → ∀ j x, e[j]? = some x → RV C x (vs i j)) : RV C (.ro es) (.slice A n c)
  | cro {es : List (List AV)} {v : Value} {n : Nat} (A : Option Addr) (hv : v = .slice A n n) (h : RV C (.ro es) v) : RV C (.cro es) v
  | ip {cs : List AV} {a : Addr} (vs : Nat → Value) (hcell : ∀ j x, cs[j]? = some x → CellAt C (some a) j (vs j)) (hrv : ∀ j x, cs[j]? = some x → RV C x (vs j)) : RV C (.ip cs) (.pointer (some a))
  | ptr {u i off : Nat} {a : Addr} (hu : u < C.gen) (ha : (C.ph u).A = some a) : RV C (.ptr u i off) (.pointer (some (a.add (i * (C.ph u).size + off))))
  | sl {u l h : Nat} {A : Option Addr} {n c : Nat} (hu : u < C.gen) (hlh : l ≤ h) (hh : h ≤ (C.ph u).cap)
      (hA : ¬ (C.ph u).cap = l → A = (C.ph u).A.map (·.add (l * (C.ph u).size))) (hn : n = h - l) (hc : c = (C.ph u).cap - l) : RV C (.sl u l h) (.slice A n c)
  | mp {u g : Nat} (hu : u < C.gen) (ha : (C.ph u).A = some ⟨g, 0, none⟩) : RV C (.mp u) (.map (some g))
  | clo {fn : Fn} {first caps : List AV} {fs cs : Array Value} (hf : fs.size = first.length) (hc : cs.size = caps.length)
      (hrf : ∀ j x, first[j]? = some x → RV C x (fs.getD j undef)) (hrc : ∀ j x, caps[j]? = some x → RV C x (cs.getD j undef)) : RV C (.clo fn first caps) (.func fn fs cs)
  | agg {cs : List AV} {vs : Array Value} (hs : vs.size = cs.length) (hrv : ∀ j x, cs[j]? = some x → RV C x (vs.getD j undef)) : RV C (.agg cs) (.agg vs)
  | tup {cs : List AV} {vs : Array Value} (hs : vs.size = cs.length) (hrv : ∀ j x, cs[j]? = some x → RV C x (vs.getD j undef)) : RV C (.tup cs) (.tuple vs)

/-- What stays, where nothing but the objects named by 'M' may be written. -/
structure Le (M : Nat → Prop) (C C' : Cx) : Prop where
  os : C'.w.os = C.w.os
  tape : C'.w.tape = C.w.tape
  output : C'.w.output = C.w.output
  size : C.w.heap.size ≤ C'.w.heap.size
  gen : C.gen ≤ C'.gen
  ph : ∀ u, u < C.gen → C'.ph u = C.ph u
  block : ∀ k, k < C.w.heap.size → (∀ u, M u → C.own k ≠ some u) → C'.w.heap[k]? = C.w.heap[k]? ∧ C'.own k = C.own k

theorem Le.refl (M : Nat → Prop) (C : Cx) : Le M C C := ⟨rfl, rfl, rfl, Nat.le_refl _, Nat.le_refl _, fun _ _ => rfl, fun _ _ _ => ⟨rfl, rfl⟩⟩

theorem Le.mono {M M' : Nat → Prop} {C C' : Cx} (h : Le M C C') (hm : ∀ u, M u → M' u) : Le M' C C' :=
  ⟨h.os, h.tape, h.output, h.size, h.gen, h.ph, fun k hk hn => h.block k hk fun u hu => hn u (hm u hu)⟩

theorem Le.trans {M M1 : Nat → Prop} {C C1 C2 : Cx} (ok : C.Ok) (h : Le M C C1) (h1 : Le M1 C1 C2) (hm : ∀ u, M1 u → M u ∨ C.gen ≤ u) : Le M C C2 where
  os := h1.os.trans h.os
  tape := h1.tape.trans h.tape
  output := h1.output.trans h.output
  size := Nat.le_trans h.size h1.size
  gen := Nat.le_trans h.gen h1.gen
  ph := fun u hu => (h1.ph u (Nat.lt_of_lt_of_le hu h.gen)).trans (h.ph u hu)
  block := fun k hk hn => by
    obtain ⟨e1, e2⟩ := h.block k hk hn
    have := h1.block k (Nat.lt_of_lt_of_le hk h.size) (fun u hu he => by
      rw [e2] at he
      rcases hm u hu with hu' | hu'
      · exact hn u hu' he
      · exact absurd (ok.own k u he).2 (by omega))
    exact ⟨this.1.trans e1, this.2.trans e2⟩

theorem Le.U {M : Nat → Prop} {C C' : Cx} (h : Le M C C') {k : Nat} (hk : C.U k) : C'.U k ∧ C'.w.heap[k]? = C.w.heap[k]? := by
  obtain ⟨e1, e2⟩ := h.block k hk.1 (fun u _ he => by rw [hk.2] at he; cases he)
  exact ⟨⟨Nat.lt_of_lt_of_le hk.1 h.size, by rw [e2]; exact hk.2⟩, e1⟩

theorem add_block (a : Addr) (k : Nat) : (a.add k).block = a.block := by unfold Addr.add; split <;> rfl

theorem add_add (a : Addr) (m n : Nat) : (a.add m).add n = a.add (m + n) := by
  unfold Addr.add
  by_cases h1 : m = 0 <;> by_cases h2 : n = 0 <;> simp [h1, h2, Nat.add_assoc]

theorem add_plain (g o k : Nat) : (⟨g, o, none⟩ : Addr).add k = ⟨g, o + k, none⟩ := by unfold Addr.add; split <;> simp_all

theorem CellAt.le {M : Nat → Prop} {C C' : Cx} (h : Le M C C') {A : Option Addr} {k : Nat} {v : Value} (hc : CellAt C A k v) : CellAt C' A k v := by
  obtain ⟨a, ha, hu, hv⟩ := hc
  obtain ⟨h1, h2⟩ := h.U hu
  refine ⟨a, ha, h1, ?_⟩
  rw [← hv]
  exact World.cell?_of_block (by rw [add_block]; exact h2)

theorem RV.le {M : Nat → Prop} {C C' : Cx} (h : Le M C C') {x : AV} {v : Value} (hr : RV C x v) : RV C' x v := by
  induction hr with
  | any => exact .any
  | lit => exact .lit
  | ro vs hn hc hm hsz hcell hrv ih => exact .ro vs hn hc hm hsz (fun i e he j x hx => (hcell i e he j x hx).le h) ih
  | cro A hv _ ih => exact .cro A hv ih
  | ip vs hcell hrv ih => exact .ip vs (fun j x hx => (hcell j x hx).le h) ih
  | ptr hu ha => rw [← h.ph _ hu]; exact .ptr (Nat.lt_of_lt_of_le hu h.gen) (by rw [h.ph _ hu]; exact ha)
  | sl hu hlh hh hA hn hc => exact .sl (Nat.lt_of_lt_of_le hu h.gen) hlh (by rw [h.ph _ hu]; exact hh) (by rw [h.ph _ hu]; exact hA) hn (by rw [h.ph _ hu]; exact hc)
  | mp hu ha => exact .mp (Nat.lt_of_lt_of_le hu h.gen) (by rw [h.ph _ hu]; exact ha)
  | clo hf hc hrf hrc ihf ihc => exact .clo hf hc ihf ihc
  | agg hs hrv ih => exact .agg hs ih
  | tup hs hrv ih => exact .tup hs ih

/-- An object that may be written: a row of cells (a boxed variable is a row of one element), or a map. -/
inductive Ob where
  | arr (e : TypeId) (size : Nat) (es : List (List AV))
  | map (kvs : List (Value × AV))

abbrev Heap := List (Nat × Ob)
def Heap.M (H : Heap) (u : Nat) : Prop := u ∈ H.map (·.1)

/-- An array of values bears abstract cells from a place on. -/
def Bears (C : Cx) (arr : Array Value) (at_ size : Nat) (es : List (List AV)) : Prop :=
  ∀ i e, es[i]? = some e → ∀ j x, e[j]? = some x → ∃ v, arr[at_ + i * size + j]? = some v ∧ RV C x v

def ObRel (C : Cx) (u : Nat) : Ob → Prop
  | .arr e size es => u < C.gen ∧ (C.ph u).size = size ∧ es.length ≤ (C.ph u).cap ∧ (C.ph u).cap ≤ maxLen ∧ (∀ x ∈ es, x.length = size) ∧
      ((C.ph u).cap = 0 ∨
       ∃ g off arr, (C.ph u).A = some ⟨g, off, none⟩ ∧ C.w.heap[g]? = some (.cells arr e (0, 0)) ∧ C.own g = some u ∧ off + (C.ph u).cap * size ≤ arr.size ∧ Bears C arr off size es)
  | .map kvs => u < C.gen ∧ ∃ g ents clock, (C.ph u).A = some ⟨g, 0, none⟩ ∧ C.w.heap[g]? = some (.map ents clock) ∧ C.own g = some u ∧
      ents.size = kvs.length ∧ kvs.length ≤ clock ∧ ∀ (i : Nat) (k : Value) (x : AV), kvs[i]? = some (k, x) → ∃ en : MapEntry, ents[i]? = some en ∧ en.key = k ∧ RV C x en.val

structure HRel (C : Cx) (H : Heap) : Prop where
  nodup : (H.map (·.1)).Nodup
  ob : ∀ u o, (u, o) ∈ H → ObRel C u o

theorem Bears.le {M : Nat → Prop} {C C' : Cx} (h : Le M C C') {arr : Array Value} {at_ size : Nat} {es : List (List AV)} (hb : Bears C arr at_ size es) : Bears C' arr at_ size es :=
  fun i e he j x hx => let ⟨v, h1, h2⟩ := hb i e he j x hx; ⟨v, h1, h2.le h⟩

/-- An object that is not written stays. -/
theorem ObRel.le {M : Nat → Prop} {C C' : Cx} (ok : C.Ok) (h : Le M C C') {u : Nat} (hu : ¬ M u) {o : Ob} (hr : ObRel C u o) : ObRel C' u o := by
  have key : ∀ g, C.own g = some u → C'.w.heap[g]? = C.w.heap[g]? ∧ C'.own g = C.own g := fun g hg =>
    h.block g (ok.own g u hg).1 (fun u' hu' he => by rw [hg] at he; injection he with he; subst he; exact hu hu')
  cases o with
  | arr e size es =>
    obtain ⟨h1, h2, h3, h4, h5, h6⟩ := hr
    have hp := h.ph u h1
    refine ⟨Nat.lt_of_lt_of_le h1 h.gen, by rw [hp]; exact h2, by rw [hp]; exact h3, by rw [hp]; exact h4, h5, ?_⟩
    rcases h6 with hc | ⟨g, off, arr, ha, hg, ho, hs, hb⟩
    · exact .inl (by rw [hp]; exact hc)
    · obtain ⟨k1, k2⟩ := key g ho
      exact .inr ⟨g, off, arr, by rw [hp]; exact ha, by rw [k1]; exact hg, by rw [k2]; exact ho, by rw [hp]; exact hs, hb.le h⟩
  | map kvs =>
    obtain ⟨h1, g, ents, clock, ha, hg, ho, hs, hcl, hb⟩ := hr
    have hp := h.ph u h1
    obtain ⟨k1, k2⟩ := key g ho
    refine ⟨Nat.lt_of_lt_of_le h1 h.gen, g, ents, clock, by rw [hp]; exact ha, by rw [k1]; exact hg, by rw [k2]; exact ho, hs, hcl, fun i k x hx => ?_⟩
    obtain ⟨en, e1, e2, e3⟩ := hb i k x hx
    exact ⟨en, e1, e2, e3.le h⟩

theorem HRel.le {M : Nat → Prop} {C C' : Cx} (ok : C.Ok) (h : Le M C C') {H : Heap} (hn : ∀ u, H.M u → ¬ M u) (hr : HRel C H) : HRel C' H :=
  ⟨hr.nodup, fun u o ho => (hr.ob u o ho).le ok h (hn u (List.mem_map.2 ⟨(u, o), ho, rfl⟩))⟩

/-- The abstract frame: slots that are known (the first row for a slot holds), and the objects. -/
structure St where
  t : List (Nat × AV)
  n : Nat
  H : Heap

def look : List (Nat × AV) → Nat → AV
  | [], _ => .any
  | (i, x) :: r, j => cond (Nat.beq i j) x (look r j)

theorem look_cons (i : Nat) (x : AV) (r : List (Nat × AV)) (j : Nat) : look ((i, x) :: r) j = bif i == j then x else look r j := by
  have : Nat.beq i j = (i == j) := by
    by_cases h : i = j
    · subst h; simp
    · have h1 : Nat.beq i j = false := by
        cases hb : Nat.beq i j with
        | false => rfl
        | true => exact absurd (Nat.eq_of_beq_eq_true hb) h
      rw [h1]; simpa using h
  rw [look, this]

/-- A constant as an abstract value. -/
def ofV : Value → AV
  | .agg cs => .agg (cs.toList.map .lit)
  | v => .lit v

def St.eval (s : St) : Operand → AV
  | .tmp i => look s.t i
  | .const v => ofV v
  | .global g => .lit (.pointer (some ⟨g, 0, none⟩))
  | .func f => .lit (.func (.func f) #[] #[])

def St.put (s : St) (d : Option Tmp) (x : AV) : St :=
  match d with
  | some i => ⟨(i, x) :: s.t, s.n, s.H⟩
  | none => s

structure Rel (C : Cx) (s : St) (a : Act) : Prop where
  ok : C.Ok
  h : HRel C s.H
  n : a.tmps.size = s.n
  t : ∀ i, RV C (look s.t i) (a.tmps.getD i undef)
  d : a.defers = []

theorem look_any (j : Nat) : look [] j = .any := rfl

theorem RV.ofV {C : Cx} (v : Value) : RV C (ofV v) v := by
  cases v <;> try exact .lit
  rename_i cs
  refine .agg (by simp) (fun j x hx => ?_)
  simp only [List.getElem?_map, Option.map_eq_some_iff] at hx
  obtain ⟨y, hy, rfl⟩ := hx
  have : cs.getD j undef = y := by simp [Array.getD_eq_getD_getElem?, ← Array.getElem?_toList, hy]
  rw [this]
  exact .lit

theorem Rel.eval {C : Cx} {s : St} {a : Act} (h : Rel C s a) (x : Operand) : RV C (s.eval x) (a.eval x) := by
  cases x with
  | tmp i => exact h.t i
  | const v => exact .ofV v
  | global g => exact .lit
  | func f => exact .lit

/-- A step that hands a value to a slot. -/
theorem Rel.put {C : Cx} {s : St} {a : Act} (h : Rel C s a) {d : Option Tmp} (hd : ∀ i, d = some i → i < s.n) {x : AV} {v : Value} (hv : RV C x v) : Rel C (s.put d x) (a.put d v) := by
  cases d with
  | none => exact h
  | some i =>
    refine ⟨h.ok, h.h, by simp [Act.put, St.put, h.n], fun j => ?_, h.d⟩
    simp only [St.put, Act.put, look_cons]
    by_cases hij : i = j
    · subst hij
      have : i < a.tmps.size := by rw [h.n]; exact hd i rfl
      simp [this]
      exact hv
    · have : (i == j) = false := by simpa using hij
      rw [this]
      simp only [cond_false, Array.getD_eq_getD_getElem?, Array.getElem?_setIfInBounds_ne hij]
      have := h.t j
      rwa [Array.getD_eq_getD_getElem?] at this

theorem Rel.le {M : Nat → Prop} {C C' : Cx} {s : St} {a : Act} (h : Rel C s a) (ok' : C'.Ok) (hl : Le M C C') {H' : Heap} (hh : HRel C' H') : Rel C' ⟨s.t, s.n, H'⟩ a :=
  ⟨ok', hh, h.n, fun i => (h.t i).le hl, h.d⟩

end Go.Proofs.YtdlinfekifnmkaaAm
