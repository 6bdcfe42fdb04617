/- Nil slices read as rows of nothing, wherever they stand; slices cut to their length. Conditions: none. -/
import Derived.Test.YtdlinfekifnmkaaAmBase
set_option linter.unusedVariables false
set_option linter.unusedSimpArgs false
namespace Go.Proofs.YtdlinfekifnmkaaAm
open Go.Proofs
/-- What two ways have in common. -/
theorem awp_join {α : Type} {P : Program} {Q : Exit → St → Prop} {s : St} {x y : Code} (S : α → St) (I : α → Prop) (h : AWP P x (Then (fun s' => ∃ a, I a ∧ Sub s' (S a)) Q) s) (hk : ∀ a, I a → AWP P y Q (S a)) : AWP P (.seq x y) Q s :=
  awp_seq (awp_mono h fun e s' hq => by
    cases e with
    | normal => obtain ⟨a, ha, hs⟩ := hq; exact awp_weak _ hs (hk a ha)
    | exit i => exact hq
    | goto l => exact hq
    | ret => exact hq
    | panic ch => exact hq
    | outgrown => exact hq)
inductive Nil1 : AV → AV → Prop where
  | nil : Nil1 (.lit (.slice none 0 0)) (.ro [])
  | same {x : AV} : Nil1 x x
inductive NilL : List AV → List AV → Prop where
  | nil : NilL [] []
  | cons {x y : AV} {xs ys : List AV} (h : Nil1 x y) (hs : NilL xs ys) : NilL (x :: xs) (y :: ys)
  | same {xs : List AV} : NilL xs xs
inductive NilV : AV → AV → Prop where
  | one {x y : AV} (h : Nil1 x y) : NilV x y
  | agg {xs ys : List AV} (h : NilL xs ys) : NilV (.agg xs) (.agg ys)
inductive NilT : List (Nat × AV) → List (Nat × AV) → Prop where
  | nil : NilT [] []
  | cons {i : Nat} {x y : AV} {t t2 : List (Nat × AV)} (h : NilV x y) (hs : NilT t t2) : NilT ((i, x) :: t) ((i, y) :: t2)
  | same {t : List (Nat × AV)} : NilT t t
inductive NilE : List (List AV) → List (List AV) → Prop where
  | nil : NilE [] []
  | cons {x y : List AV} {xs ys : List (List AV)} (h : NilL x y) (hs : NilE xs ys) : NilE (x :: xs) (y :: ys)
  | same {xs : List (List AV)} : NilE xs xs
inductive NilO : Ob → Ob → Prop where
  | arr {e : TypeId} {size : Nat} {a b : List (List AV)} (h : NilE a b) : NilO (.arr e size a) (.arr e size b)
  | same {o : Ob} : NilO o o
inductive NilH : Heap → Heap → Prop where
  | nil : NilH [] []
  | cons {v : Nat} {p q : Ob} {H H2 : Heap} (h : NilO p q) (hs : NilH H H2) : NilH ((v, p) :: H) ((v, q) :: H2)
  | same {H : Heap} : NilH H H
theorem nil1_rv {C : Cx} {x y : AV} {v : Value} (h : Nil1 x y) (hr : RV C x v) : RV C y v := by
  cases h with
  | same => exact hr
  | nil =>
    have := rv_lit hr
    subst this
    exact .ro (size := 0) (fun _ _ => undef) rfl (Nat.le_refl _) (Nat.zero_le _) (by simp) (by simp) (by simp)
theorem nilL_rv {C : Cx} {xs ys : List AV} (h : NilL xs ys) : ys.length = xs.length ∧ ∀ (f : Nat → Value), (∀ j x, xs[j]? = some x → RV C x (f j)) → ∀ j y, ys[j]? = some y → RV C y (f j) := by
  induction h with
  | nil => exact ⟨rfl, fun f hf j y hy => by simp at hy⟩
  | same => exact ⟨rfl, fun f hf => hf⟩
  | cons h hs ih =>
    refine ⟨by simp [ih.1], fun f hf j y hy => ?_⟩
    cases j with
    | zero => simp at hy; subst hy; exact nil1_rv h (hf 0 _ rfl)
    | succ j => exact ih.2 (fun j => f (j + 1)) (fun j x hx => hf (j + 1) x (by simpa using hx)) j y (by simpa using hy)
theorem nilV_rv {C : Cx} {x y : AV} {v : Value} (h : NilV x y) (hr : RV C x v) : RV C y v := by
  cases h with
  | one h => exact nil1_rv h hr
  | agg h =>
    cases hr with
    | agg hs hrv => exact .agg (by rw [hs, (nilL_rv (C := C) h).1]) ((nilL_rv h).2 _ hrv)
theorem nilT_look {t t2 : List (Nat × AV)} (h : NilT t t2) (i : Nat) : NilV (look t i) (look t2 i) := by
  induction h with
  | nil => exact .one .same
  | same => exact .one .same
  | cons h hs ih =>
    rw [look_cons, look_cons]
    rename_i k _ _ _ _
    cases k == i with
    | true => exact h
    | false => exact ih
theorem nilE_get {xs ys : List (List AV)} (h : NilE xs ys) : ys.length = xs.length ∧ ∀ (i : Nat) (r : List AV), ys[i]? = some r → ∃ q, xs[i]? = some q ∧ NilL q r := by
  induction h with
  | nil => exact ⟨rfl, fun i r hr => by simp at hr⟩
  | same => exact ⟨rfl, fun i r hr => ⟨r, hr, .same⟩⟩
  | cons h hs ih =>
    refine ⟨by simp [ih.1], fun i r hr => ?_⟩
    cases i with
    | zero => simp at hr; subst hr; exact ⟨_, rfl, h⟩
    | succ i => exact ih.2 i r (by simpa using hr)
theorem nilL_at {C : Cx} {q r : List AV} (h : NilL q r) : ∀ (j : Nat) (y : AV), r[j]? = some y → ∃ x, q[j]? = some x ∧ ∀ v, RV C x v → RV C y v := by
  induction h with
  | nil => exact fun j y hy => by simp at hy
  | same => exact fun j y hy => ⟨y, hy, fun v h => h⟩
  | cons h hs ih =>
    intro j y hy
    cases j with
    | zero => simp at hy; subst hy; exact ⟨_, rfl, fun v hv => nil1_rv h hv⟩
    | succ j => exact ih j y (by simpa using hy)
theorem nilO_rel {C : Cx} {u : Nat} {p q : Ob} (h : NilO p q) (hr : ObRel C u p) : ObRel C u q := by
  cases h with
  | same => exact hr
  | @arr e size a b h =>
    obtain ⟨h1, h2, h3, h4, h5, h6⟩ := hr
    obtain ⟨e1, e2⟩ := nilE_get h
    refine ⟨h1, h2, by rw [e1]; exact h3, h4, fun x hx => ?_, ?_⟩
    · obtain ⟨i, hi⟩ := List.mem_iff_getElem?.1 hx
      obtain ⟨q, hq, hl⟩ := e2 i x hi
      rw [(nilL_rv (C := C) hl).1]
      exact h5 q (List.mem_of_getElem? hq)
    · rcases h6 with h6 | ⟨g, off, arr, ha, hg, ho, hs, hb⟩
      · exact .inl h6
      · refine .inr ⟨g, off, arr, ha, hg, ho, hs, fun i r hi j y hy => ?_⟩
        obtain ⟨q, hq, hl⟩ := e2 i r hi
        obtain ⟨x, hx, hxy⟩ := nilL_at (C := C) hl j y hy
        obtain ⟨v, hv, hrv⟩ := hb i q hq j x hx
        exact ⟨v, hv, hxy v hrv⟩
theorem nilH_mem {H H2 : Heap} (h : NilH H H2) : H2.map (·.1) = H.map (·.1) ∧ ∀ v q, (v, q) ∈ H2 → ∃ p, (v, p) ∈ H ∧ NilO p q := by
  induction h with
  | nil => exact ⟨rfl, fun v q hq => by simp at hq⟩
  | same => exact ⟨rfl, fun v q hq => ⟨q, hq, .same⟩⟩
  | cons h hs ih =>
    refine ⟨by simp [ih.1], fun v q hq => ?_⟩
    rcases List.mem_cons.1 hq with hq | hq
    · simp only [Prod.mk.injEq] at hq
      obtain ⟨rfl, rfl⟩ := hq
      exact ⟨_, by simp, h⟩
    · obtain ⟨p, hp, hn⟩ := ih.2 v q hq
      exact ⟨p, by simp [hp], hn⟩
theorem awp_nil {P : Program} {c : Code} {Q : Exit → St → Prop} {t t2 : List (Nat × AV)} {n : Nat} {H H2 : Heap} (hT : NilT t t2) (hH : NilH H H2) (h : AWP P c Q ⟨t2, n, H2⟩) : AWP P c Q ⟨t, n, H⟩ := by
  intro C a hr
  obtain ⟨hk, hm⟩ := nilH_mem hH
  have hM : ∀ u, H2.M u ↔ H.M u := fun u => by unfold Heap.M; rw [hk]
  have hr2 : Rel C ⟨t2, n, H2⟩ a := ⟨hr.ok, ⟨by show (H2.map (·.1)).Nodup; rw [hk]; exact hr.h.nodup, fun u o ho => by
    obtain ⟨p, hp, hn⟩ := hm u o ho
    exact nilO_rel hn (hr.h.ob u p hp)⟩, hr.n, fun i => nilV_rv (nilT_look hT i) (hr.t i), hr.d⟩
  refine Code.wp_mono ?_ (h C a hr2)
  rintro e a' w' ⟨C', s', hw, hrel, hl, hn, hq⟩
  exact ⟨C', s', hw, hrel, hl.mono fun u hu => (hM u).1 hu, fun u hu => (hn u hu).imp (hM u).1 id, hq⟩

/-- A nil slice within an object: an object without elements. -/
theorem awp_adopt_ob {P : Program} {Q : Exit → St → Prop} {cd : Code} {t : List (Nat × AV)} {n : Nat} {H : Heap} {H2 : Nat → Heap} {u size : Nat} {e2 : TypeId} {c : List AV} (j : Nat) (e : TypeId) (sz : Nat) (hq : HAt H u (.arr e2 size [c])) (hj : c[j]? = some (.lit (.slice none 0 0)))
    (hH : ∀ u', HSet H u (u, .arr e2 size [c.set j (.sl u' 0 0)]) (H2 u')) (h : ∀ u', AWP P cd Q ⟨t, n, (u', .arr e sz []) :: H2 u'⟩) : AWP P cd Q ⟨t, n, H⟩ := by
  intro C a hr
  obtain ⟨C2, hC2⟩ : ∃ C2 : Cx, C2 = { C with ph := fun u => if u = C.gen then ⟨none, 0, sz⟩ else C.ph u, gen := C.gen + 1 } := ⟨_, rfl⟩
  have hw : C2.w = C.w := by rw [hC2]
  have hle : Le (fun _ => False) C C2 := by
    rw [hC2]
    exact ⟨rfl, rfl, rfl, Nat.le_refl _, by simp, fun u hu => by simp only; rw [if_neg (by omega)], fun _ _ _ => ⟨rfl, rfl⟩⟩
  have ok2 : C2.Ok := by rw [hC2]; exact ⟨fun j u h => ⟨(hr.ok.own j u h).1, by have := (hr.ok.own j u h).2; simp; omega⟩⟩
  obtain ⟨q, hq0, hset⟩ := HSet.ob hr.h (hH C.gen) hq
  have hold := (hr.h.ob u _ (List.mem_of_getElem? hq0)).le hr.ok hle (fun h => h)
  have hnil : ∀ v, RV C2 (.lit (.slice none 0 0)) v → RV C2 (.sl C.gen 0 0) v := fun v hv => by
    have := rv_lit hv
    subst this
    rw [hC2]
    exact .sl (by simp) (Nat.le_refl _) (by simp) (fun h => by simp at h) rfl (by simp)
  have hnew : ObRel C2 u (.arr e2 size [c.set j (.sl C.gen 0 0)]) := by
    obtain ⟨h1, h2, h3, h4, h5, h6⟩ := hold
    refine ⟨h1, h2, by simpa using h3, h4, fun x hx => ?_, ?_⟩
    · simp at hx
      subst hx
      rw [List.length_set]
      exact h5 c (by simp)
    · rcases h6 with h6 | ⟨g, off, arr, ha, hg, ho, hs, hb⟩
      · exact .inl h6
      · refine .inr ⟨g, off, arr, ha, hg, ho, hs, fun i r hi k y hy => ?_⟩
        match i, hi with
        | 0, hi =>
          simp at hi
          subst hi
          by_cases hjk : j = k
          · subst hjk
            have hjl := (List.getElem?_eq_some_iff.1 hj).1
            rw [List.getElem?_set_self hjl] at hy
            injection hy with hy
            subst hy
            obtain ⟨v, hv, hrv⟩ := hb 0 c rfl j _ hj
            exact ⟨v, hv, hnil v hrv⟩
          · rw [List.getElem?_set_ne hjk] at hy
            exact hb 0 c rfl k y hy
  have hr2 : Rel C2 ⟨t, n, (C.gen, .arr e sz []) :: H2 C.gen⟩ a := by
    refine ⟨ok2, ⟨?_, fun v o ho => ?_⟩, hr.n, fun i => (hr.t i).le hle, hr.d⟩
    · rw [hset, List.map_cons, List.nodup_cons]
      have hk : (H.set q (u, Ob.arr e2 size [c.set j (.sl C.gen 0 0)])).map (·.1) = H.map (·.1) := by
        rw [List.map_set]
        apply List.ext_getElem?
        intro i
        by_cases hi : q = i
        · subst hi
          have h1 := List.getElem?_eq_some_iff.1 hq0
          simp [h1.1, h1.2]
        · simp [hi]
      rw [hk]
      exact ⟨fun hm => absurd (hr.h.lt hm) (by omega), hr.h.nodup⟩
    · rcases List.mem_cons.1 ho with h1 | h1
      · simp only [Prod.mk.injEq] at h1
        obtain ⟨rfl, rfl⟩ := h1
        rw [hC2]
        exact ⟨by simp, by simp, by simp, by simp [maxLen], by simp, .inl (by simp)⟩
      · rw [hset] at h1
        rcases List.mem_or_eq_of_mem_set h1 with h1 | h1
        · exact (hr.h.ob v o h1).le hr.ok hle (fun h => h)
        · simp only [Prod.mk.injEq] at h1
          obtain ⟨rfl, rfl⟩ := h1
          exact hnew
  have h3 := h C.gen C2 a hr2
  rw [hw] at h3
  refine Code.wp_mono ?_ h3
  intro e' a' w' hp
  refine hp.trans hr.ok (hle.mono fun _ h => h.elim) (fun v hv => ?_)
  rcases List.mem_cons.1 hv with hv | hv
  · exact .inr (Nat.le_of_eq hv.symm)
  · refine .inl ?_
    rw [hset] at hv
    obtain ⟨p, hp1, rfl⟩ := List.mem_map.1 hv
    rcases List.mem_or_eq_of_mem_set hp1 with h1 | h1
    · exact List.mem_map.2 ⟨p, h1, rfl⟩
    · subst h1; exact List.mem_map.2 ⟨_, List.mem_of_getElem? hq0, rfl⟩

section
variable {P : Program} {d : Option Tmp} {ty : TypeId} {pos : String} {af : Array Edge} {g : Option (Nat × Bool)} {ev : Operand → AV} {H : Heap}
/-- 'xs[:len(xs):len(xs)]' of what is read. -/
theorem q_slC {tt e : TypeId} {x hi mx : Operand} {es : List (List AV)} {sz : Nat} (ht : P.underlying tt = some (.slice e)) (hsz : szOf P e = some sz) (hx : ev x = .ro es ∨ ev x = .cro es) (hh : bnd ev (some hi) 0 es.length) (hm : bnd ev (some mx) 0 es.length)
    (hes : ∀ c ∈ es, c.length = sz) : QOp P ⟨d, .slice tt x none (some hi) (some mx), ty, pos, af, g⟩ ev H (.cro es) :=
  qop_same (s := fun ρ => Instr.sliceAt tt (ρ x) (Option.map ρ none) (Option.map ρ (some hi)) (Option.map ρ (some mx))) (fun ρ => rfl) fun C a ok hhe he => by
    have h3 := he x (by simp [Op.operands])
    have h3 : RV C (.ro es) (a.eval x) := by
      rcases hx with hx | hx
      · rwa [hx] at h3
      · rw [hx] at h3; cases h3 with | cro A hv h => exact h
    obtain ⟨A, m, cap, size, vs, hv, hm0, hmc, hcm, hsizes, hcells, hcrv⟩ := cells_of_ro h3
    rw [hv]
    subst hm0
    obtain ⟨k1, m1, h4, h5⟩ := hh
    obtain ⟨k2, m2, h6, h7⟩ := hm
    have e1 : a.eval hi = .int k1 (es.length : Int) := by have := he hi (by simp [Op.operands]); rw [h4] at this; rw [rv_lit this, h5]
    have e2 : a.eval mx = .int k2 (es.length : Int) := by have := he mx (by simp [Op.operands]); rw [h6] at this; rw [rv_lit this, h7]
    refine ⟨.slice (if es.length = 0 then A else A.map (·.add (0 * sz))) (es.length - 0) (es.length - 0), ?_, ?_⟩
    · unfold Instr.sliceAt
      simp only [run_under ht, Sem.run_bind, Result.andThen_ok]
      unfold Instr.slice Instr.sliceBounds Instr.sliceBound asIntOf
      simp [e1, e2, run_under ht, run_szOf hsz, hmc]
    · refine .cro _ rfl (.ro (size := size) vs (by simp) (Nat.le_refl _) (by omega) hsizes (fun i c hc j y hy => ?_) hcrv)
      have hne : ¬ es.length = 0 := by have := (List.getElem?_eq_some_iff.1 hc).1; omega
      rw [if_neg hne]
      obtain ⟨a0, rfl, hu, hcl⟩ := hcells i c hc j y hy
      exact ⟨a0, by simp [add_zero], hu, hcl⟩
end
end Go.Proofs.YtdlinfekifnmkaaAm
