/- The abstract machine of these proofs, part 3: a region that draws its order: quiet operations, operations that act one behind the other, and a tail that waits for all. Conditions: none. -/
import Derived.Test.YtdlinfekifnmkaaAmWp
set_option linter.unusedVariables false
set_option linter.unusedSimpArgs false
namespace Go.Proofs.YtdlinfekifnmkaaAm

/-- One quiet operation in turn, carried out or passed over. -/
def QOne (P : Program) (ops : Array Oper) (n : Nat) (H : Heap) (o : Oper) (t : List (Nat × AV)) (r : AV) : Prop :=
  (gd ops o t = some true ∧ QOp P o (St.eval ⟨t, n, H⟩) H r) ∨ (gd ops o t = some false ∧ r = .lit undef)

/-- The heads of a region in some order: (number, does it act?). 'Hc': objects that nobody writes; 'Hv': those that are handed on from one that acts to the next. -/
def GL (P : Program) (ops : Array Oper) (n : Nat) (Hc : Heap) : List (Nat × Bool) → List (Nat × AV) → Heap → (List (Nat × AV) → Heap → Prop) → Prop
  | [], t, Hv, K => K t Hv
  | (i, false) :: l, t, Hv, K => ∃ o r, ops[i]? = some o ∧ QOne P ops n Hc o t r ∧ (∀ d, o.dst = some d → d < n) ∧ GL P ops n Hc l (putT t o.dst r) Hv K
  | (i, true) :: l, t, Hv, K => ∃ (o : Oper) (R : AV → Heap → Prop), ops[i]? = some o ∧ gd ops o t = some true ∧ EOp P o (St.eval ⟨t, n, Hc⟩) (Hc ++ Hv) (fun r H' => ∃ Hv', H' = Hc ++ Hv' ∧ R r Hv') ∧ (∀ d, o.dst = some d → d < n) ∧
      ∀ r Hv', R r Hv' → GL P ops n Hc l (putT t o.dst r) Hv' K

def dstAt (ops : Array Oper) (j : Nat) : Option Tmp := (ops[j]?).bind (·.dst)
def apartAt (ops : Array Oper) (i j : Nat) : Bool :=
  match ops[i]?, ops[j]? with
  | some x, some y => x.apart ops y
  | _, _ => true
/-- Does i wait for j, by whatever road? -/
def reachB (ops : Array Oper) : Nat → Nat → Nat → Bool
  | 0, _, _ => false
  | f + 1, i, j => match ops[i]? with
    | some o => o.after.any fun e => Region.binds .any e && (e.on == j || reachB ops f e.on j)
    | none => false

/-- The order's checks: pairs are in order or apart; nobody behind one that acts can come ahead of it. -/
def pairsB (ops : Array Oper) : List (Nat × Bool) → Bool
  | [] => true
  | (i, ld) :: l => l.all (fun q => (Region.waitsFor .any ops q.1 i || apartAt ops i q.1) && (!ld || reachB ops ops.size q.1 i)) && pairsB ops l
def distinctB : List Nat → Bool
  | [] => true
  | i :: l => l.all (fun j => i != j) && distinctB l
def dstsB (ops : Array Oper) (n : Nat) : Bool :=
  (List.range n).all fun i => (List.range n).all fun j => i == j || (dstAt ops i).isNone || dstAt ops i != dstAt ops j
def backB (ops : Array Oper) : Bool :=
  (List.range ops.size).all fun i => match ops[i]? with
    | some o => o.after.all fun e => !Region.binds .any e || decide (e.on < i)
    | none => true
def canon (ops : Array Oper) (n : Nat) : Array Bool := (Array.range ops.size).map fun i => decide (i < n)
def ordB (ops : Array Oper) (n : Nat) (cl : List (Nat × Bool)) : Bool :=
  decide (n ≤ ops.size) && (List.range n).all (fun j => cl.any fun q => q.1 == j) && cl.all (fun q => decide (q.1 < n)) && distinctB (cl.map (·.1)) && pairsB ops cl && dstsB ops n && backB ops &&
    (decide (n = ops.size) || (Region.sinkB .any ops n && Region.chainB .any ops n)) && Region.seqB .any ops (ops.size - n) n (canon ops n)

section
variable {P : Program} {ops : Array Oper} {n N : Nat} {Hc : Heap} {t0 : List (Nat × AV)}

def tf (ops : Array Oper) (l : List ((Nat × Bool) × AV)) (t : List (Nat × AV)) : List (Nat × AV) := l.foldl (fun t x => putT t (dstAt ops x.1.1) x.2) t

theorem look_putT_ne {t : List (Nat × AV)} {d : Option Tmp} {x : AV} {j : Nat} (h : d ≠ some j) : look (putT t d x) j = look t j := by
  cases d with
  | none => rfl
  | some i =>
    have : (i == j) = false := by simpa using fun e => h (by rw [e])
    simp [putT, look_cons, this]
theorem look_putT_eq {t : List (Nat × AV)} {x : AV} {j : Nat} : look (putT t (some j) x) j = x := by simp [putT, look_cons]

theorem tf_none {d : Nat} : ∀ (l : List ((Nat × Bool) × AV)) (t : List (Nat × AV)), (∀ x ∈ l, dstAt ops x.1.1 ≠ some d) → look (tf ops l t) d = look t d
  | [], _, _ => rfl
  | x :: l, t, h => by
    show look (tf ops l (putT t (dstAt ops x.1.1) x.2)) d = _
    rw [tf_none l _ (fun y hy => h y (List.mem_cons_of_mem _ hy)), look_putT_ne (h x (by simp))]
theorem tf_mem {d : Nat} {j : Nat} {b : Bool} {r : AV} : ∀ (l : List ((Nat × Bool) × AV)) (t : List (Nat × AV)), ((j, b), r) ∈ l → dstAt ops j = some d →
    (∀ x ∈ l, dstAt ops x.1.1 = some d → x.1.1 = j) → (l.map (·.1.1)).Nodup → look (tf ops l t) d = r
  | [], _, h, _, _, _ => by cases h
  | x :: l, t, h, hd, hu, hn => by
    show look (tf ops l (putT t (dstAt ops x.1.1) x.2)) d = r
    rw [List.map_cons, List.nodup_cons] at hn
    rcases List.mem_cons.1 h with h1 | h1
    · subst h1
      rw [tf_none l _ (fun y hy he => hn.1 (by have := hu y (List.mem_cons_of_mem _ hy) he; exact List.mem_map.2 ⟨y, hy, this⟩)), hd, look_putT_eq]
    · exact tf_mem l _ h1 hd (fun y hy => hu y (List.mem_cons_of_mem _ hy)) hn.2

structure RelL (C : Cx) (ops : Array Oper) (n N : Nat) (H : Heap) (t0 : List (Nat × AV)) (pre : List ((Nat × Bool) × AV)) (listed : Array Bool) (a : Act) : Prop where
  ok : C.Ok
  h : HRel C H
  sz : a.tmps.size = N
  d : a.defers = []
  yes : ∀ j b r d, ((j, b), r) ∈ pre → dstAt ops j = some d → listed.getD j false = true → RV C r (a.tmps.getD d undef)
  no : ∀ d, (∀ j, j < n → dstAt ops j = some d → listed.getD j false = false) → RV C (look t0 d) (a.tmps.getD d undef)

theorem uniq (h : dstsB ops n = true) {i j d : Nat} (hi : i < n) (hj : j < n) (h1 : dstAt ops i = some d) (h2 : dstAt ops j = some d) : i = j := by
  have := List.all_eq_true.1 (List.all_eq_true.1 h i (List.mem_range.2 hi)) j (List.mem_range.2 hj)
  simp only [h1, h2, Bool.or_eq_true, beq_iff_eq, Option.isNone_some, Bool.false_eq_true, or_false, bne_self_eq_false] at this
  exact this

theorem pairs_spec : ∀ {l1 l2 : List (Nat × Bool)} {p q : Nat × Bool}, pairsB ops (l1 ++ p :: l2) = true → q ∈ l2 →
    (Region.waitsFor .any ops q.1 p.1 || apartAt ops p.1 q.1) = true ∧ (p.2 = true → reachB ops ops.size q.1 p.1 = true)
  | [], l2, p, q, h, hq => by
    simp only [List.nil_append, pairsB, Bool.and_eq_true] at h
    have := List.all_eq_true.1 h.1 q hq
    simp only [Bool.and_eq_true] at this
    exact ⟨this.1, fun hp => by simpa [hp] using this.2⟩
  | x :: l1, l2, p, q, h, hq => by
    simp only [List.cons_append, pairsB, Bool.and_eq_true] at h
    exact pairs_spec h.2 hq

theorem reach_listed {listed : Array Bool} (inv : HeadInv .any ops n listed) : ∀ (f i j : Nat), reachB ops f i j = true → listed.getD i false = true → listed.getD j false = true
  | 0, _, _, h, _ => by cases h
  | f + 1, i, j, h, hl => by
    simp only [reachB] at h
    cases ho : ops[i]? with
    | none => simp [ho] at h
    | some o =>
      simp only [ho] at h
      obtain ⟨e, he, hb⟩ := Array.any_eq_true'.1 h
      simp only [Bool.and_eq_true, Bool.or_eq_true, beq_iff_eq] at hb
      have h1 := inv.closed i o ho hl e he hb.1
      rcases hb.2 with h2 | h2
      · rw [← h2]; exact h1
      · exact reach_listed inv f e.on j h2 h1
theorem reach_ready {listed : Array Bool} (inv : HeadInv .any ops n listed) {f i j : Nat} (h : reachB ops f i j = true) (hr : i ∈ Region.ready .any ops listed) : listed.getD j false = true := by
  cases f with
  | zero => cases h
  | succ f =>
    obtain ⟨_, o, ho, hall⟩ := mem_ready.1 hr
    simp only [reachB, ho] at h
    obtain ⟨e, he, hb⟩ := Array.any_eq_true'.1 h
    simp only [Bool.and_eq_true, Bool.or_eq_true, beq_iff_eq] at hb
    have h1 := hall e he hb.1
    rcases hb.2 with h2 | h2
    · rw [← h2]; exact h1
    · exact reach_listed inv f e.on j h2 h1

theorem dstAt_of {j : Nat} {o : Oper} (h : ops[j]? = some o) : dstAt ops j = o.dst := by simp [dstAt, h]

theorem wait_or_apart {i j : Nat} {oi oj : Oper} (hi : ops[i]? = some oi) (hj : ops[j]? = some oj) (h : (Region.waitsFor .any ops j i || apartAt ops i j) = true) :
    (∃ e ∈ oj.after, Region.binds .any e = true ∧ e.on = i) ∨ oi.apart ops oj = true := by
  simp only [Bool.or_eq_true] at h
  rcases h with h1 | h1
  · obtain ⟨o', ho', e, he, hb, hon⟩ := Region.waitsFor_spec h1
    rw [hj] at ho'
    injection ho' with ho'
    subst ho'
    exact .inl ⟨e, he, hb, hon⟩
  · simp only [apartAt, hi, hj] at h1
    exact .inr h1

/-- What an operation reads, at its place in the order: 'p1' behind it, 'p2' ahead. -/
theorem slot_reads (hd : dstsB ops n = true) {C : Cx} {listed : Array Bool} {a : Act} {H : Heap} (inv : HeadInv .any ops n listed) {pre p1 : List ((Nat × Bool) × AV)} {l2 : List (Nat × Bool)} {i : Nat} {b : Bool}
    (hp : pairsB ops (p1.map (·.1) ++ (i, b) :: l2) = true) (hall : ∀ j, j < n → (∃ b', (j, b') ∈ p1.map (·.1)) ∨ j = i ∨ ∃ b', (j, b') ∈ l2) (hnd : (p1.map (·.1.1)).Nodup) (hn1 : ∀ x ∈ p1, x.1.1 < n)
    (hni : ∀ x ∈ p1, x.1.1 ≠ i) (hsub : ∀ x ∈ p1, x ∈ pre) (hin : i < n) (hr : RelL C ops n N H t0 pre listed a) {o : Oper} (ho : ops[i]? = some o) (hready : i ∈ Region.ready .any ops listed) {t : Nat} (ht : t ∈ o.looksAt ops) :
    RV C (look (tf ops p1 t0) t) (a.tmps.getD t undef) := by
  obtain ⟨hun, o', ho', hallr⟩ := mem_ready.1 hready
  rw [ho] at ho'
  injection ho' with ho'
  subst ho'
  by_cases hw : ∃ j, j < n ∧ dstAt ops j = some t
  · obtain ⟨j, hjn, hj⟩ := hw
    obtain ⟨oj, hoj, hdj⟩ : ∃ oj, ops[j]? = some oj ∧ oj.dst = some t := by
      simp only [dstAt] at hj
      cases hoj : ops[j]? with
      | none => simp [hoj] at hj
      | some oj => exact ⟨oj, rfl, by simpa [hoj] using hj⟩
    by_cases hjp : ∃ b', (j, b') ∈ p1.map (·.1)
    · obtain ⟨b', hjm⟩ := hjp
      obtain ⟨⟨⟨j', b2⟩, r⟩, hx, he⟩ := List.mem_map.1 hjm
      simp only [Prod.mk.injEq] at he
      obtain ⟨rfl, rfl⟩ := he
      have hwa : (Region.waitsFor .any ops i j' || apartAt ops j' i) = true := by
        obtain ⟨s1, s2, hs⟩ := List.append_of_mem hjm
        rw [hs, List.append_assoc] at hp
        exact (pairs_spec (q := (i, b)) hp (by simp)).1
      rcases wait_or_apart hoj ho hwa with ⟨e, he, hb, hon⟩ | hap
      · have hl := hallr e he hb
        rw [hon] at hl
        rw [tf_mem (ops := ops) p1 t0 hx hj (fun y hy hy' => uniq hd (hn1 y hy) hjn hy' hj) hnd]
        exact hr.yes _ _ _ t (hsub _ hx) hj hl
      · exact absurd ht ((Oper.apart_spec hap).1 t hdj)
    · have h1 : look (tf ops p1 t0) t = look t0 t := tf_none p1 t0 (fun x hx he' => hjp ⟨x.1.2, by
        have := uniq hd (hn1 x hx) hjn he' hj
        exact List.mem_map.2 ⟨x, hx, by rw [← this]⟩⟩)
      have hunj : listed.getD j false = false := by
        rcases hall j hjn with h2 | h2 | ⟨b', h2⟩
        · exact absurd h2 hjp
        · subst h2; exact getD_both hun
        · have hwa := (pairs_spec (q := (j, b')) hp h2).1
          rcases wait_or_apart ho hoj hwa with ⟨e, he, hb, hon⟩ | hap
          · cases hl : listed.getD j false with
            | false => rfl
            | true =>
              have := inv.closed j oj hoj hl e he hb
              rw [hon, getD_both hun] at this
              cases this
          · exact absurd ht ((Oper.apart_spec hap).2.2 t hdj)
      rw [h1]
      exact hr.no t (fun j' hj' he' => by rw [uniq hd hj' hjn he' hj]; exact hunj)
  · rw [tf_none p1 t0 (fun x hx he' => hw ⟨x.1.1, hn1 x hx, he'⟩)]
    exact hr.no t (fun j' hj' he' => absurd ⟨j', hj', he'⟩ hw)

theorem mem_looksAt {o : Oper} {t : Nat} (h : Operand.tmp t ∈ o.op.operands) : t ∈ o.looksAt ops :=
  List.mem_append_left _ (List.mem_filterMap.2 ⟨.tmp t, by simpa using h, rfl⟩)

theorem getD_put {tmps : Array Value} {d : Nat} {v : Value} (hd : d < tmps.size) : (tmps.setIfInBounds d v).getD d undef = v := by simp [hd]
theorem getD_put_ne {tmps : Array Value} {d e : Nat} {v : Value} (hd : d ≠ e) : (tmps.setIfInBounds d v).getD e undef = tmps.getD e undef := by
  simp only [Array.getD_eq_getD_getElem?, Array.getElem?_setIfInBounds_ne hd]

/-- One operation has come up; 'pre2' may be longer than 'pre' by it. -/
theorem RelL.next {M : Nat → Prop} (hd : dstsB ops n = true) {C C' : Cx} {listed : Array Bool} {a : Act} {H H' : Heap} {pre pre2 : List ((Nat × Bool) × AV)} (hr : RelL C ops n N H t0 pre listed a) {i : Nat} (hin : i < n) {o : Oper}
    (ho : ops[i]? = some o) (hun : listed.getD i true = false) (hN : ∀ d, o.dst = some d → d < N) (ok' : C'.Ok) (hl : Le M C C') (hh : HRel C' H') {v : Value} {r : AV} (hv : RV C' r v)
    (hpre : ∀ j b r', ((j, b), r') ∈ pre2 → j < n ∧ (j = i → r' = r) ∧ (j ≠ i → ((j, b), r') ∈ pre)) :
    RelL C' ops n N H' t0 pre2 (listed.setIfInBounds i true) (a.put o.dst v) := by
  have hdo := dstAt_of ho
  have hsz : (a.put o.dst v).tmps.size = N := by
    have := hr.sz
    cases hod : o.dst <;> simp [Act.put, this]
  have hdf : (a.put o.dst v).defers = [] := by
    have := hr.d
    cases hod : o.dst <;> simp [Act.put, this]
  refine ⟨ok', hh, hsz, hdf, fun j b r' d hj hjd hlist => ?_, fun d hno => ?_⟩
  · obtain ⟨hjn, hjr, hjp⟩ := hpre j b r' hj
    by_cases hji : i = j
    · subst hji
      rw [hdo] at hjd
      rw [hjd, hjr rfl]
      simp only [Act.put]
      rw [getD_put (by rw [hr.sz]; exact hN d hjd)]
      exact hv
    · rw [getD_set_ne false hji] at hlist
      have h0 := (hr.yes j b r' d (hjp (fun e => hji e.symm)) hjd hlist).le hl
      cases hod : o.dst with
      | none => exact h0
      | some e =>
        have hne : e ≠ d := fun he => hji (uniq hd hin hjn (by rw [hdo, hod, he]) hjd)
        simp only [Act.put]
        rw [getD_put_ne hne]
        exact h0
  · have hids : o.dst ≠ some d := fun he => by
      have := hno i hin (by rw [hdo, he])
      have hi : i < listed.size := by
        rcases Nat.lt_or_ge i listed.size with h | h
        · exact h
        · simp [Array.getElem?_eq_none h] at hun
      simp [hi] at this
    have h0 := (hr.no d (fun j hj hjd => by
      have := hno j hj hjd
      by_cases hji : i = j
      · subst hji; exact getD_both hun
      · rwa [getD_set_ne false hji] at this)).le hl
    cases hod : o.dst with
    | none => exact h0
    | some e =>
      have hne : e ≠ d := fun he => hids (by rw [hod, he])
      simp only [Act.put]
      rw [getD_put_ne hne]
      exact h0

def open_ (n : Nat) (listed : Array Bool) : List Nat := (List.range n).filter fun i => !listed.getD i false

theorem open_set {listed : Array Bool} {i : Nat} (hi : i < n) (hs : i < listed.size) (hun : listed.getD i false = false) : (open_ n (listed.setIfInBounds i true)).length + 1 = (open_ n listed).length := by
  have hmem : i ∈ open_ n listed := List.mem_filter.2 ⟨List.mem_range.2 hi, by simp [hun]⟩
  have hnd : (open_ n listed).Nodup := List.Nodup.sublist List.filter_sublist List.nodup_range
  have : open_ n (listed.setIfInBounds i true) = (open_ n listed).erase i := by
    rw [hnd.erase_eq_filter, open_, open_, List.filter_filter]
    apply List.filter_congr
    intro j _
    by_cases hij : i = j
    · subst hij; simp [hs]
    · rw [getD_set_ne false hij]
      have : (j != i) = true := by simpa using fun e => hij e.symm
      rw [this]; simp
  rw [this, List.length_erase_of_mem hmem]
  have : 0 < (open_ n listed).length := List.length_pos_of_mem hmem
  omega

theorem canon_of {listed : Array Bool} (inv : HeadInv .any ops n listed) (h : open_ n listed = []) : listed = canon ops n := by
  apply Array.ext
  · simp [canon, inv.size]
  · intro i h1 h2
    simp only [canon, Array.getElem_map, Array.getElem_range]
    by_cases hi : i < n
    · have : i ∉ open_ n listed := by rw [h]; simp
      have h3 : ¬ (listed.getD i false = false) := fun he => this (List.mem_filter.2 ⟨List.mem_range.2 hi, by simp [he]⟩)
      simp [h1] at h3
      simp [hi, h3]
    · have := inv.tail i (by omega) (by rw [← inv.size]; exact h1)
      simp [h1] at this
      simp [hi, this]

theorem ready_some (hb : backB ops = true) (hn : n ≤ ops.size) {listed : Array Bool} (inv : HeadInv .any ops n listed) : ∀ k, k < n → listed.getD k false = false → Region.ready .any ops listed ≠ [] := by
  intro k
  induction k using Nat.strongRecOn with
  | _ k ih =>
    intro hk hun h0
    by_cases hex : ∃ j, j < k ∧ listed.getD j false = false
    · obtain ⟨j, hj, hjun⟩ := hex
      exact ih j hj (by omega) hjun h0
    · have hks : k < ops.size := by omega
      have hmem : k ∈ Region.ready .any ops listed := by
        refine mem_ready.2 ⟨getD_in (by rw [inv.size]; exact hks) hun, ops[k], Array.getElem?_eq_getElem hks, fun e he hbind => ?_⟩
        have := List.all_eq_true.1 hb k (List.mem_range.2 hks)
        simp only [Array.getElem?_eq_getElem hks] at this
        have := Array.all_eq_true_iff_forall_mem.1 this e he
        simp only [hbind, Bool.not_true, Bool.false_or, decide_eq_true_eq] at this
        cases hl : listed.getD e.on false with
        | true => rfl
        | false => exact absurd ⟨e.on, this, hl⟩ hex
      rw [h0] at hmem
      cases hmem

theorem distinct_nodup : ∀ {l : List Nat}, distinctB l = true → l.Nodup
  | [], _ => .nil
  | i :: l, h => by
    simp only [distinctB, Bool.and_eq_true] at h
    refine List.nodup_cons.2 ⟨fun hi => ?_, distinct_nodup h.2⟩
    have := List.all_eq_true.1 h.1 i hi
    simp at this

/-- The eval of a slot table asks nothing of the objects. -/
theorem eval_H (t : List (Nat × AV)) (n : Nat) (H H' : Heap) : St.eval ⟨t, n, H⟩ = St.eval ⟨t, n, H'⟩ := by
  funext x
  cases x <;> rfl

structure Facts (P : Program) (ops : Array Oper) (n N : Nat) (Hc : Heap) (t0 : List (Nat × AV)) (listed : Array Bool) (pre : List ((Nat × Bool) × AV)) : Prop where
  acts : ∀ j r, ((j, true), r) ∈ pre → listed.getD j false = true
  quiet : ∀ p1 p2 j r, pre = p1 ++ ((j, false), r) :: p2 → ∃ o, ops[j]? = some o ∧ QOne P ops N Hc o (tf ops p1 t0) r ∧ ∀ d, o.dst = some d → d < N

theorem gheads {Q' : Exit → Act → World → Prop} {g : Nat} {cl : List (Nat × Bool)} {K : List (Nat × AV) → Heap → Prop} (hn : n ≤ ops.size) (hlt : ∀ q ∈ cl, q.1 < n) (hdist : (cl.map (·.1)).Nodup)
    (hall : ∀ j, j < n → ∃ b, (j, b) ∈ cl) (hp : pairsB ops cl = true) (hd : dstsB ops n = true) (hb : backB ops = true)
    (ht : n = ops.size ∨ (Region.sinkB .any ops n = true ∧ Region.chainB .any ops n = true)) (C0 : Cx) (ok0 : C0.Ok) (Hv0 : Heap)
    (hfin : ∀ (C : Cx) (a : Act) (pre : List ((Nat × Bool) × AV)) (Hv : Heap), pre.map (·.1) = cl → K (tf ops pre t0) Hv → Le (Heap.M (Hc ++ Hv0)) C0 C → New C0 (Hc ++ Hv0) (Hc ++ Hv) → RelL C ops n N (Hc ++ Hv) t0 pre (canon ops n) a →
      wpAny P .any ops Q' g (canon ops n) a C.w) :
    ∀ (m : Nat) (rest : List (Nat × Bool)) (pre : List ((Nat × Bool) × AV)) (Hv : Heap) (listed : Array Bool) (a : Act) (C : Cx), rest.length + (open_ n listed).length = m →
      pre.map (·.1) ++ rest = cl → GL P ops N Hc rest (tf ops pre t0) Hv K → Facts P ops n N Hc t0 listed pre → (∀ q ∈ rest, listed.getD q.1 false = false) → HeadInv .any ops n listed →
      Le (Heap.M (Hc ++ Hv0)) C0 C → New C0 (Hc ++ Hv0) (Hc ++ Hv) → RelL C ops n N (Hc ++ Hv) t0 pre listed a → wpAny P .any ops Q' ((open_ n listed).length + g) listed a C.w := by
  intro m
  induction m using Nat.strongRecOn with
  | _ m ih =>
    intro rest pre Hv listed a C hm hcl hgl hf hrest inv hl hnew hr
    -- what any quiet operation of 'pre' that comes up does
    have hpren : ∀ x ∈ pre, x.1.1 < n := fun x hx => hlt x.1 (by rw [← hcl]; exact List.mem_append_left _ (List.mem_map.2 ⟨x, hx, rfl⟩))
    have hnd : (pre.map (·.1.1) ++ rest.map (·.1)).Nodup := by
      have := hdist
      rw [← hcl, List.map_append, List.map_map] at this
      exact this
    have quietStep : ∀ i, i ∈ Region.ready .any ops listed → (∃ b r, ((i, b), r) ∈ pre) → open_ n listed ≠ [] →
        wpOp P ops Q' i (wpAny P .any ops Q' ((open_ n (listed.setIfInBounds i true)).length + g) (listed.setIfInBounds i true)) a C.w := by
      rintro i hi ⟨b, r, hmem⟩ hopen
      obtain ⟨hun, o, ho, hallr⟩ := mem_ready.1 hi
      have hin : i < n := hpren _ hmem
      have hbf : b = false := by
        cases b with
        | false => rfl
        | true => have := hf.acts i r hmem; rw [getD_both hun] at this; cases this
      subst hbf
      obtain ⟨p1, p2, hsplit⟩ := List.append_of_mem hmem
      obtain ⟨o', ho', hq, hN⟩ := hf.quiet p1 p2 i r hsplit
      rw [ho] at ho'
      injection ho' with ho'
      subst ho'
      have hls : i < listed.size := by rw [inv.size]; exact (Array.getElem?_eq_some_iff.1 ho).1
      have hcount := open_set (n := n) hin hls (getD_both hun)
      have hnd1 : (pre.map (·.1.1)).Nodup := (List.nodup_append.1 hnd).1
      rw [hsplit, List.map_append, List.map_cons] at hnd1
      have hnd2 := List.nodup_append.1 hnd1
      have hni : ∀ x ∈ p1, x.1.1 ≠ i := fun x hx he => hnd2.2.2 x.1.1 (List.mem_map.2 ⟨x, hx, rfl⟩) i (by simp) he
      have hslot : ∀ t, t ∈ o.looksAt ops → RV C (look (tf ops p1 t0) t) (a.tmps.getD t undef) := fun t ht => by
        refine slot_reads (l2 := p2.map (·.1) ++ rest) (pre := pre) (b := false) hd inv ?_ (fun j hj => ?_) hnd2.1 (fun x hx => hpren x (by rw [hsplit]; exact List.mem_append_left _ hx)) hni
          (fun x hx => by rw [hsplit]; exact List.mem_append_left _ hx) hin hr ho hi ht
        · have := hp
          rw [← hcl, hsplit] at this
          simpa using this
        · obtain ⟨b', hb'⟩ := hall j hj
          rw [← hcl, hsplit, List.map_append, List.map_cons, List.append_assoc, List.cons_append] at hb'
          rcases List.mem_append.1 hb' with h | h
          · exact .inl ⟨b', h⟩
          · rcases List.mem_cons.1 h with h | h
            · simp only [Prod.mk.injEq] at h; exact .inr (.inl h.1)
            · exact .inr (.inr ⟨b', h⟩)
      have hguard : ∀ j want d, o.guard = some (j, want) → (ops[j]?).bind (·.dst) = some d → RV C (look (tf ops p1 t0) d) (a.tmps.getD d undef) := fun j want d hg hd' =>
        hslot d (List.mem_append_right _ (by simp [hg, hd']))
      have hprej : ∀ j b r', ((j, b), r') ∈ pre → j < n ∧ (j = i → r' = r) ∧ (j ≠ i → ((j, b), r') ∈ pre) := fun j b r' hj => by
        refine ⟨hpren _ hj, fun he => ?_, fun _ => hj⟩
        subst he
        rw [hsplit] at hj
        rcases List.mem_append.1 hj with h | h
        · exact absurd rfl (hni _ h)
        · rcases List.mem_cons.1 h with h | h
          · simp only [Prod.mk.injEq] at h; exact h.2
          · exact absurd (List.mem_map.2 ⟨_, h, rfl⟩) (List.nodup_cons.1 hnd2.2.1).1
      have hfacts : Facts P ops n N Hc t0 (listed.setIfInBounds i true) pre := ⟨fun j r' hj => getD_set_true (hf.acts j r' hj), hf.quiet⟩
      have hrest' : ∀ q ∈ rest, (listed.setIfInBounds i true).getD q.1 false = false := fun q hq => by
        have hne : i ≠ q.1 := fun he => (List.nodup_append.1 hnd).2.2 i (List.mem_map.2 ⟨_, hmem, rfl⟩) q.1 (List.mem_map.2 ⟨q, hq, rfl⟩) he
        rw [getD_set_ne false hne]; exact hrest q hq
      have fin : ∀ (C' : Cx) (v : Value), C'.Ok → Le Hc.M C C' → HRel C' Hc → RV C' r v →
          wpAny P .any ops Q' ((open_ n (listed.setIfInBounds i true)).length + g) (listed.setIfInBounds i true) (a.put o.dst v) C'.w := fun C' v ok' hl' hh' hv => by
        have hnd3 := hr.h.nodup
        rw [List.map_append, List.nodup_append] at hnd3
        have hv' : HRel C' Hv := hr.h.right.le hr.ok hl' (fun u hu hu' => hnd3.2.2 u hu' u hu rfl)
        have hh2 : HRel C' (Hc ++ Hv) := ⟨hr.h.nodup, fun u o ho => by
          rcases List.mem_append.1 ho with h | h
          · exact hh'.ob u o h
          · exact hv'.ob u o h⟩
        refine ih _ (by omega) rest pre Hv _ _ C' rfl hcl hgl hfacts hrest' (inv.set hi hin) (hl.trans ok0 hl' (fun u hu => ?_)) hnew (hr.next hd hin ho hun hN ok' hl' hh2 hv hprej)
        exact .inl (Heap.M_append.2 (.inl hu))
      unfold wpOp
      simp only [ho]
      rcases hq with ⟨hg, hq1⟩ | ⟨hg, hundef⟩
      · rw [if_pos (gd_wanted hg hguard)]
        refine .inl (hq1 C a hr.ok hr.h.left (fun x hx => ?_) _ _ fun C' v r' H' ⟨e1, e2⟩ ok' hl' _ hh' hv => ?_)
        · cases x with
          | tmp t => exact hslot t (mem_looksAt hx)
          | const v => exact .ofV v
          | global g => exact .lit
          | func f => exact .lit
        · subst e1; subst e2; exact fin C' v ok' hl' hh' hv
      · rw [if_neg (by rw [gd_wanted hg hguard]; simp)]
        exact fin C undef hr.ok (Le.refl _ _) hr.h.left (by rw [hundef]; exact .lit)
    have readyLt : ∀ i, i ∈ Region.ready .any ops listed → open_ n listed ≠ [] → i < n := fun i hi hopen => by
      obtain ⟨k0, hk0⟩ := List.exists_mem_of_ne_nil _ hopen
      obtain ⟨hk0n, hk0u⟩ := List.mem_filter.1 hk0
      have hk0n := List.mem_range.1 hk0n
      have hk0u : listed.getD k0 false = false := by simpa using hk0u
      rcases Nat.lt_or_ge i n with h | h
      · exact h
      · obtain ⟨_, o, ho, _⟩ := mem_ready.1 hi
        have hsz := (Array.getElem?_eq_some_iff.1 ho).1
        rcases ht with ht | ⟨hs, hc⟩
        · omega
        · exact absurd hi (tail_waits hs hc (by omega) inv _ k0 rfl hk0n (getD_in (by rw [inv.size]; omega) hk0u) i h)
    match rest, hgl, hrest, hcl, hm, hnd with
    | [], hgl, _, hcl, hm, _ =>
      simp only [List.append_nil] at hcl
      simp only [List.length_nil, Nat.zero_add] at hm
      by_cases hopen : open_ n listed = []
      · rw [hopen]
        have := canon_of inv hopen
        subst this
        simp only [List.length_nil, Nat.zero_add]
        exact hfin C a pre Hv hcl (by simpa [GL] using hgl) hl hnew hr
      obtain ⟨k0, hk0⟩ := List.exists_mem_of_ne_nil _ hopen
      obtain ⟨hk0n, hk0u⟩ := List.mem_filter.1 hk0
      obtain ⟨f, hfe⟩ : ∃ f, (open_ n listed).length = f + 1 := ⟨(open_ n listed).length - 1, by have := List.length_pos_of_mem hk0; omega⟩
      rw [hfe, show f + 1 + g = (f + g) + 1 by omega]
      refine ⟨fun h0 => absurd h0 (ready_some hb hn inv k0 (List.mem_range.1 hk0n) (by simpa using hk0u)), fun i hi => ?_⟩
      have hin := readyLt i hi hopen
      obtain ⟨b, hbm⟩ := hall i hin
      rw [← hcl] at hbm
      obtain ⟨⟨q, r⟩, hx, he⟩ := List.mem_map.1 hbm
      subst he
      obtain ⟨hun, o, ho, _⟩ := mem_ready.1 hi
      have hls : i < listed.size := by rw [inv.size]; exact (Array.getElem?_eq_some_iff.1 ho).1
      have hcount := open_set (n := n) hin hls (getD_both hun)
      have := quietStep i hi ⟨b, r, hx⟩ hopen
      rwa [show (open_ n (listed.setIfInBounds i true)).length = f by omega] at this
    | (i, false) :: rest', hgl, hrest, hcl, hm, hnd =>
      obtain ⟨o, r, ho, hq, hN, hgl'⟩ := hgl
      have hdo := dstAt_of ho
      refine ih _ (by simp only [List.length_cons] at hm; omega) rest' (pre ++ [((i, false), r)]) Hv listed a C rfl (by simpa using hcl) ?_ ⟨fun j r' hj => ?_, fun p1 p2 j r' hs => ?_⟩ (fun q hq' => hrest q (List.mem_cons_of_mem _ hq')) inv hl hnew ?_
      · have : tf ops (pre ++ [((i, false), r)]) t0 = putT (tf ops pre t0) o.dst r := by simp [tf, hdo]
        rw [this]; exact hgl'
      · rcases List.mem_append.1 hj with h | h
        · exact hf.acts j r' h
        · simp at h
      · rcases List.append_eq_append_iff.1 hs with ⟨as, h1, h2⟩ | ⟨cs, h1, h2⟩
        · have h3 : as = [] ∧ ((i, false), r) = ((j, false), r') ∧ p2 = [] := by
            cases as with
            | nil => simpa using h2
            | cons y as => simp at h2
          obtain ⟨rfl, h4, rfl⟩ := h3
          simp only [Prod.mk.injEq, and_true] at h4
          obtain ⟨rfl, rfl⟩ := h4
          simp only [List.append_nil] at h1
          subst h1
          exact ⟨o, ho, hq, hN⟩
        · cases cs with
          | nil =>
            simp only [List.nil_append, List.cons.injEq, Prod.mk.injEq] at h2
            obtain ⟨⟨⟨rfl, _⟩, rfl⟩, rfl⟩ := h2
            simp only [List.append_nil] at h1
            subst h1
            exact ⟨o, ho, hq, hN⟩
          | cons y cs =>
            simp only [List.cons_append, List.cons.injEq] at h2
            obtain ⟨rfl, h3⟩ := h2
            exact hf.quiet p1 cs j r' h1
      · exact ⟨hr.ok, hr.h, hr.sz, hr.d, fun j b r' d hj hjd hlist => by
          rcases List.mem_append.1 hj with h | h
          · exact hr.yes j b r' d h hjd hlist
          · simp only [List.mem_singleton, Prod.mk.injEq] at h
            obtain ⟨⟨rfl, _⟩, _⟩ := h
            have := hrest (j, false) (by simp)
            rw [this] at hlist
            exact absurd hlist (by simp), hr.no⟩
    | (i, true) :: rest', hgl, hrest, hcl, hm, hnd =>
      obtain ⟨o, R, ho, hg, he, hN, hgl'⟩ := hgl
      have hdo := dstAt_of ho
      have hin : i < n := hlt (i, true) (by rw [← hcl]; simp)
      have hiun : listed.getD i false = false := hrest (i, true) (by simp)
      have hmemo : i ∈ open_ n listed := List.mem_filter.2 ⟨List.mem_range.2 hin, by rw [hiun]; rfl⟩
      have hopen : open_ n listed ≠ [] := fun h => by rw [h] at hmemo; cases hmemo
      have hpos : 0 < (open_ n listed).length := List.length_pos_of_mem hmemo
      obtain ⟨f, hfe⟩ : ∃ f, (open_ n listed).length = f + 1 := ⟨(open_ n listed).length - 1, by omega⟩
      have quiet2 := quietStep
      rw [hfe, show f + 1 + g = (f + g) + 1 by omega]
      refine ⟨fun h0 => absurd h0 (ready_some hb hn inv i hin hiun), fun j hj => ?_⟩
      have hjn := readyLt j hj hopen
      obtain ⟨hjun, oj, hoj, _⟩ := mem_ready.1 hj
      have hls : j < listed.size := by rw [inv.size]; exact (Array.getElem?_eq_some_iff.1 hoj).1
      have hcount := open_set (n := n) hjn hls (getD_both hjun)
      have hlen : (open_ n (listed.setIfInBounds j true)).length = f := by omega
      obtain ⟨b, hbm⟩ := hall j hjn
      rw [← hcl] at hbm
      rcases List.mem_append.1 hbm with hbm | hbm
      · obtain ⟨⟨q, r⟩, hx, hqe⟩ := List.mem_map.1 hbm
        subst hqe
        have := quiet2 j hj ⟨b, r, hx⟩ hopen
        rwa [hlen] at this
      · rcases List.mem_cons.1 hbm with hbm | hbm
        · simp only [Prod.mk.injEq] at hbm
          obtain ⟨rfl, _⟩ := hbm
          rw [ho] at hoj
          injection hoj with hoj
          subst hoj
          have hnd2 := List.nodup_append.1 hnd
          have hni : ∀ x ∈ pre, x.1.1 ≠ j := fun x hx he => hnd2.2.2 x.1.1 (List.mem_map.2 ⟨x, hx, rfl⟩) j (by simp) he
          have hslot : ∀ t, t ∈ o.looksAt ops → RV C (look (tf ops pre t0) t) (a.tmps.getD t undef) := fun t ht => by
            refine slot_reads (l2 := rest') (pre := pre) (b := true) hd inv (by rw [hcl]; exact hp) (fun k hk => ?_) hnd2.1 hpren hni (fun x hx => hx) hjn hr ho hj ht
            obtain ⟨b', hb'⟩ := hall k hk
            rw [← hcl] at hb'
            rcases List.mem_append.1 hb' with h | h
            · exact .inl ⟨b', h⟩
            · rcases List.mem_cons.1 h with h | h
              · simp only [Prod.mk.injEq] at h; exact .inr (.inl h.1)
              · exact .inr (.inr ⟨b', h⟩)
          unfold wpOp
          simp only [ho]
          rw [if_pos (gd_wanted hg (fun j' want d hg' hd' => hslot d (List.mem_append_right _ (by simp [hg', hd']))))]
          refine .inl (he C a hr.ok hr.h (fun x hx => ?_) _ _ fun C' v r H' ⟨Hv', e1, hR⟩ ok' hl' hnew' hh' hv => ?_)
          · cases x with
            | tmp t => exact hslot t (mem_looksAt hx)
            | const v => exact .ofV v
            | global g => exact .lit
            | func f => exact .lit
          · subst e1
            have hl2 := hl.trans ok0 hl' (fun u hu => hnew u hu)
            have hnew2 : New C0 (Hc ++ Hv0) (Hc ++ Hv') := hnew.trans hl.gen hnew'
            have := ih _ (by simp only [List.length_cons] at hm; omega) rest' (pre ++ [((j, true), r)]) Hv' (listed.setIfInBounds j true) (a.put o.dst v) C' rfl (by simpa using hcl)
              (by
                have : tf ops (pre ++ [((j, true), r)]) t0 = putT (tf ops pre t0) o.dst r := by simp [tf, hdo]
                rw [this]; exact hgl' r Hv' hR)
              ⟨fun k r' hk => by
                rcases List.mem_append.1 hk with h | h
                · exact getD_set_true (hf.acts k r' h)
                · simp only [List.mem_singleton, Prod.mk.injEq] at h
                  obtain ⟨⟨rfl, _⟩, _⟩ := h
                  simp [hls],
               fun p1 p2 k r' hs => by
                rcases List.append_eq_append_iff.1 hs with ⟨as, h1, h2⟩ | ⟨cs, h1, h2⟩
                · cases as with
                  | nil => simp at h2
                  | cons y as => simp at h2
                · cases cs with
                  | nil => simp at h2
                  | cons y cs =>
                    simp only [List.cons_append, List.cons.injEq] at h2
                    obtain ⟨rfl, h3⟩ := h2
                    exact hf.quiet p1 cs k r' h1⟩
              (fun q hq => by
                have hne : j ≠ q.1 := fun he => (List.nodup_cons.1 hnd2.2.1).1 (by rw [he]; exact List.mem_map.2 ⟨q, hq, rfl⟩)
                rw [getD_set_ne false hne]
                exact hrest q (List.mem_cons_of_mem _ hq))
              (inv.set hj hjn) hl2 hnew2
              (hr.next hd hjn ho hjun hN ok' hl' hh' hv (fun k b' r' hk => by
                rcases List.mem_append.1 hk with h | h
                · exact ⟨hpren _ h, fun he => absurd he (hni _ h), fun _ => h⟩
                · simp only [List.mem_singleton, Prod.mk.injEq] at h
                  obtain ⟨⟨rfl, rfl⟩, rfl⟩ := h
                  exact ⟨hjn, fun _ => rfl, fun h => absurd rfl h⟩))
            rwa [hlen] at this
        · -- nobody behind one that acts comes up ahead of it
          have hreach : reachB ops ops.size j i = true := by
            have := hp
            rw [← hcl] at this
            exact (pairs_spec (q := (j, b)) this hbm).2 rfl
          have := reach_ready inv hreach hj
          rw [hiun] at this
          cases this

theorem awp_draw {Q : Exit → St → Prop} {s : St} {id : Nat} {l : List Oper} (n : Nat) (cl : List (Nat × Bool)) (Hc Hv : Heap) (hm : P.follows .mixedOrders = true) (hB : ordB l.toArray n cl = true) (hH : s.H.Perm (Hc ++ Hv))
    (h : GL P l.toArray s.n Hc cl s.t Hv (fun t' Hv' => AList P l.toArray Q (l.drop n) ⟨t', s.n, Hc ++ Hv'⟩)) : AWP P (.region id l.toArray true) Q s := by
  intro C a hr
  simp only [ordB, Bool.and_eq_true, Bool.or_eq_true, decide_eq_true_eq] at hB
  obtain ⟨⟨⟨⟨⟨⟨⟨⟨hn, hlen⟩, hlt⟩, hdist⟩, hp⟩, hd⟩, hb⟩, ht⟩, hseq⟩ := hB
  have hn' : n ≤ l.length := by simpa using hn
  have hlt' : ∀ q ∈ cl, q.1 < n := fun q hq => by simpa using List.all_eq_true.1 hlt q hq
  have hnd := distinct_nodup hdist
  have hall : ∀ j, j < n → ∃ b, (j, b) ∈ cl := fun j hj => by
    obtain ⟨q, hq, he⟩ := List.any_eq_true.1 (List.all_eq_true.1 hlen j (List.mem_range.2 hj))
    have he : q.1 = j := by simpa using he
    exact ⟨q.2, by rw [← he]; exact hq⟩
  let C1 : Cx := { C with w := { C.w with drawn := C.w.drawn + 1 } }
  have hl1 : Le (fun _ => False) C C1 := ⟨rfl, rfl, rfl, Nat.le_refl _, Nat.le_refl _, fun _ _ => rfl, fun _ _ _ => ⟨rfl, rfl⟩⟩
  have ok1 : C1.Ok := ⟨fun k u h => hr.ok.own k u h⟩
  have hh1 : HRel C1 (Hc ++ Hv) := (hr.h.le hr.ok hl1 (fun _ _ h => h)).perm hH
  refine wp_region_any hm ?_
  have inv0 : HeadInv .any l.toArray n (Array.replicate l.toArray.size false) :=
    ⟨by simp, fun j oj _ hl => (by rw [getD_replicate_false] at hl; cases hl), fun t _ ht => getD_in (by simpa using ht) (getD_replicate_false _ _)⟩
  have hop : (open_ n (Array.replicate l.toArray.size false)).length = n := by
    have : open_ n (Array.replicate l.toArray.size false) = List.range n := by
      rw [open_, List.filter_eq_self]
      intro i _
      rw [getD_replicate_false]; rfl
    rw [this, List.length_range]
  have hrel0 : RelL C1 l.toArray n s.n (Hc ++ Hv) s.t [] (Array.replicate l.toArray.size false) a :=
    ⟨ok1, hh1, hr.n, hr.d, fun j b r d hj => by simp at hj, fun d _ => (hr.t d).le hl1⟩
  have H := gheads (P := P) (Q' := APost C s.H Q) (g := l.toArray.size - n) (t0 := s.t) hn hlt' hnd hall hp hd hb ht C1 ok1 Hv (fun C2 a2 pre Hv2 hpre hK hl2 hnew2 hr2 => by
      have hrel : Rel C2 ⟨tf l.toArray pre s.t, s.n, Hc ++ Hv2⟩ a2 := by
        refine ⟨hr2.ok, hr2.h, hr2.sz, fun i => ?_, hr2.d⟩
        have hcan : ∀ j, j < n → (canon l.toArray n).getD j false = true := fun j hj => by
          have : j < l.length := by omega
          simp [canon, this, hj]
        have hpn : ∀ x ∈ pre, x.1.1 < n := fun x hx => hlt' x.1 (by rw [← hpre]; exact List.mem_map.2 ⟨x, hx, rfl⟩)
        have hpnd : (pre.map (·.1.1)).Nodup := by
          have := hnd
          rw [← hpre, List.map_map] at this
          exact this
        by_cases hw : ∃ j, j < n ∧ dstAt l.toArray j = some i
        · obtain ⟨j, hjn, hj⟩ := hw
          obtain ⟨b, hbm⟩ := hall j hjn
          rw [← hpre] at hbm
          obtain ⟨⟨q, r⟩, hx, hqe⟩ := List.mem_map.1 hbm
          subst hqe
          simp only [tf_mem (ops := l.toArray) pre s.t hx hj (fun y hy hy' => uniq hd (hpn y hy) hjn hy' hj) hpnd]
          exact hr2.yes j b r i hx hj (hcan j hjn)
        · simp only [tf_none (ops := l.toArray) pre s.t (fun x hx he' => hw ⟨x.1.1, hpn x hx, he'⟩)]
          exact hr2.no i (fun j' hj' he' => absurd ⟨j', hj', he'⟩ hw)
      have hle : Le s.H.M C C2 := (hl1.mono (M' := s.H.M) fun _ h => h.elim).trans hr.ok hl2 (fun u hu => .inl ((Heap.M_perm hH).2 hu))
      have hnw : New C s.H (Hc ++ Hv2) := fun u hu => by
        rcases hnew2 u hu with h | h
        · exact .inl ((Heap.M_perm hH).2 h)
        · exact .inr h
      have := wpAny_of_seq (md := .any) (Q' := APost C s.H Q) (l.drop n) n (canon l.toArray n) a2 C2.w (fun j => by simp [List.getElem?_drop]) (by simpa using hseq)
        (wpList_mono (fun e a w hp => hp.trans hr.ok hle hnw) _ _ _ (hK C2 a2 hrel))
      simpa using this)
    (cl.length + n) cl [] Hv (Array.replicate l.toArray.size false) a C1 (by rw [hop]) (by simp) h ⟨fun j r hj => by simp at hj, fun p1 p2 j r hs => by simp at hs⟩
    (fun q _ => getD_replicate_false _ _) inv0 (Le.refl _ _) (New.refl _ _) hrel0
  have hsz : (open_ n (Array.replicate l.toArray.size false)).length + (l.toArray.size - n) = l.toArray.size := by rw [hop]; omega
  rw [hsz] at H
  exact H
end

end Go.Proofs.YtdlinfekifnmkaaAm
