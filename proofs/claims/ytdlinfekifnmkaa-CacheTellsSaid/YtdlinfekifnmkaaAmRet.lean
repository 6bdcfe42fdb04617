/- Ends of bodies; an object that is written no more becomes rows that nobody writes. Conditions: none. -/
import Derived.Test.YtdlinfekifnmkaaAmMaps
set_option linter.unusedVariables false
set_option linter.unusedSimpArgs false
namespace Go.Proofs.YtdlinfekifnmkaaAm
open Go.Proofs

inductive Pub1 (u : Nat) (es : List (List AV)) : AV → AV → Prop where
  | sl {l h : Nat} {es2 : List (List AV)} (hh : h ≤ es.length) (he : (es.take h).drop l = es2) : Pub1 u es (.sl u l h) (.ro es2)
  | same {x : AV} : Pub1 u es x x
inductive PubL (u : Nat) (es : List (List AV)) : List AV → List AV → Prop where
  | nil : PubL u es [] []
  | cons {x y : AV} {xs ys : List AV} (h : Pub1 u es x y) (hs : PubL u es xs ys) : PubL u es (x :: xs) (y :: ys)
  | same {xs : List AV} : PubL u es xs xs
inductive PubV (u : Nat) (es : List (List AV)) : AV → AV → Prop where
  | one {x y : AV} (h : Pub1 u es x y) : PubV u es x y
  | agg {xs ys : List AV} (h : PubL u es xs ys) : PubV u es (.agg xs) (.agg ys)
inductive PubT (u : Nat) (es : List (List AV)) : List (Nat × AV) → List (Nat × AV) → Prop where
  | nil : PubT u es [] []
  | cons {i : Nat} {x y : AV} {t t2 : List (Nat × AV)} (h : PubV u es x y) (hs : PubT u es t t2) : PubT u es ((i, x) :: t) ((i, y) :: t2)
  | same {t : List (Nat × AV)} : PubT u es t t
inductive PubE (u : Nat) (es : List (List AV)) : List (List AV) → List (List AV) → Prop where
  | nil : PubE u es [] []
  | cons {x y : List AV} {xs ys : List (List AV)} (h : PubL u es x y) (hs : PubE u es xs ys) : PubE u es (x :: xs) (y :: ys)
  | same {xs : List (List AV)} : PubE u es xs xs
inductive PubO (u : Nat) (es : List (List AV)) : Ob → Ob → Prop where
  | arr {e : TypeId} {size : Nat} {a b : List (List AV)} (h : PubE u es a b) : PubO u es (.arr e size a) (.arr e size b)
  | same {o : Ob} : PubO u es o o
inductive PubR (u : Nat) (es : List (List AV)) : Heap → Heap → Prop where
  | same {H : Heap} : PubR u es H H
  | cons {v : Nat} {p q : Ob} {H H2 : Heap} (h : PubO u es p q) (hs : PubR u es H H2) : PubR u es ((v, p) :: H) ((v, q) :: H2)
inductive PubH (u : Nat) (es : List (List AV)) : Heap → Heap → Prop where
  | drop {o : Ob} {H H2 : Heap} (hs : PubR u es H H2) : PubH u es ((u, o) :: H) H2
  | cons {v : Nat} {p q : Ob} {H H2 : Heap} (h : PubO u es p q) (hs : PubH u es H H2) : PubH u es ((v, p) :: H) ((v, q) :: H2)

def Cx.free (C : Cx) (u : Nat) : Cx := { C with own := fun k => if C.own k = some u then none else C.own k }

theorem free_ok {C : Cx} (ok : C.Ok) (u : Nat) : (C.free u).Ok := ⟨fun k v h => by
  simp only [Cx.free] at h
  split at h
  · cases h
  · exact ok.own k v h⟩
theorem free_le (C : Cx) (u : Nat) : Le (fun w => w = u) C (C.free u) :=
  ⟨rfl, rfl, rfl, Nat.le_refl _, Nat.le_refl _, fun _ _ => rfl, fun k hk hn => ⟨rfl, by
    simp only [Cx.free]
    rw [if_neg (hn u rfl)]⟩⟩

variable {C : Cx} {u size : Nat} {e : TypeId} {es : List (List AV)}

theorem pub1_rv (ok : C.Ok) (ho : ObRel C u (.arr e size es)) {x y : AV} {v : Value} (h : Pub1 u es x y) (hr : RV C x v) : RV (C.free u) y v := by
  cases h with
  | same => exact hr.le (free_le C u)
  | @sl l h es2 hh he =>
    subst he
    obtain ⟨h1, h2, h3, h4, h5, h6⟩ := ho
    cases hr with
    | @sl _ _ _ A n c hu hlh hhc hA hn hc =>
      subst hn
      subst hc
      have hlen : h - l = ((es.take h).drop l).length := by simp; omega
      have hsz : ∀ x ∈ (es.take h).drop l, x.length = size := fun x hx => h5 x (List.mem_of_mem_take (List.mem_of_mem_drop hx))
      by_cases hE : (C.ph u).cap = l
      · have hnil : (es.take h).drop l = [] := by
          apply List.eq_nil_of_length_eq_zero
          rw [← hlen]; omega
        rw [hnil]
        rw [hnil] at hlen
        exact .ro (size := size) (fun _ _ => undef) hlen (by omega) (by omega) (by simp) (by simp) (by simp)
      · rcases h6 with h6 | ⟨g, off, arr, ha, hg, hown, hs, hb⟩
        · omega
        · have hA' := hA hE
          rw [ha] at hA'
          simp only [Option.map_some, add_plain, h2] at hA'
          have hcell : ∀ (i : Nat) (r : List AV), ((es.take h).drop l)[i]? = some r → ∀ (j : Nat) (x : AV), r[j]? = some x → ∃ w, arr[off + (l + i) * size + j]? = some w ∧ RV C x w := fun i r hi j x hx => by
            rw [List.getElem?_drop] at hi
            have hi' : es[l + i]? = some r := by
              rw [List.getElem?_take] at hi
              split at hi
              · exact hi
              · cases hi
            exact hb (l + i) r hi' j x hx
          refine .ro (size := size) (fun i j => (arr[off + (l + i) * size + j]?).getD undef) hlen (by omega) (by omega) hsz (fun i r hi j x hx => ?_) (fun i r hi j x hx => ?_)
          · obtain ⟨w, hw, _⟩ := hcell i r hi j x hx
            refine ⟨_, hA', ⟨(ok.own g u hown).1, by simp [Cx.free, hown]⟩, ?_⟩
            rw [add_plain]
            have e1 : off + l * size + (i * size + j) = off + (l + i) * size + j := by rw [Nat.add_mul]; omega
            show (C.free u).w.cell? _ = _
            rw [e1]
            simp only [Cx.free, World.cell?, hg, Option.isSome_none, hw, Option.getD_some]
            simp
          · obtain ⟨w, hw, hrw⟩ := hcell i r hi j x hx
            rw [hw]
            exact hrw.le (free_le C u)
theorem pubL_len {xs ys : List AV} (h : PubL u es xs ys) : xs.length = ys.length := by
  induction h with
  | nil => rfl
  | cons _ _ ih => simp [ih]
  | same => rfl
theorem pubL_rv (ok : C.Ok) (ho : ObRel C u (.arr e size es)) {xs ys : List AV} (h : PubL u es xs ys) : ∀ (f : Nat → Value), (∀ j x, xs[j]? = some x → RV C x (f j)) → ∀ j y, ys[j]? = some y → RV (C.free u) y (f j) := by
  induction h with
  | nil => intro f hf j y hy; simp at hy
  | same => intro f hf j y hy; exact (hf j y hy).le (free_le C u)
  | cons h hs ih =>
    intro f hf j y hy
    cases j with
    | zero =>
      simp at hy
      subst hy
      exact pub1_rv ok ho h (hf 0 _ rfl)
    | succ j => exact ih (fun j => f (j + 1)) (fun j x hx => hf (j + 1) x (by simpa using hx)) j y (by simpa using hy)
theorem pubV_rv (ok : C.Ok) (ho : ObRel C u (.arr e size es)) {x y : AV} {v : Value} (h : PubV u es x y) (hr : RV C x v) : RV (C.free u) y v := by
  cases h with
  | one h => exact pub1_rv ok ho h hr
  | agg h =>
    cases hr with
    | agg hs hrv => exact .agg (by rw [hs, pubL_len h]) (pubL_rv ok ho h _ hrv)
theorem pubT_look {t t2 : List (Nat × AV)} (h : PubT u es t t2) (i : Nat) : PubV u es (look t i) (look t2 i) := by
  induction h with
  | nil => exact .one .same
  | same => exact .one .same
  | cons h hs ih =>
    rw [look_cons, look_cons]
    rename_i k _ _ _ _
    cases k == i with
    | true => exact h
    | false => exact ih
theorem pubE_len {xs ys : List (List AV)} (h : PubE u es xs ys) : xs.length = ys.length := by
  induction h with
  | nil => rfl
  | cons _ _ ih => simp [ih]
  | same => rfl
theorem pubE_get {xs ys : List (List AV)} (h : PubE u es xs ys) : ∀ (i : Nat) (r : List AV), ys[i]? = some r → ∃ q, xs[i]? = some q ∧ PubL u es q r := by
  induction h with
  | nil => intro i r hr; simp at hr
  | same => exact fun i r hr => ⟨r, hr, .same⟩
  | cons h hs ih =>
    intro i r hr
    cases i with
    | zero => simp at hr; subst hr; exact ⟨_, rfl, h⟩
    | succ i => exact ih i r (by simpa using hr)
theorem pubO_rel (ok : C.Ok) (ho : ObRel C u (.arr e size es)) {v : Nat} (hv : v ≠ u) {p q : Ob} (h : PubO u es p q) (hr : ObRel C v p) : ObRel (C.free u) v q := by
  cases h with
  | same => exact hr.le ok (free_le C u) hv
  | arr h =>
    have hr2 := hr.le ok (free_le C u) (show ¬ v = u from hv)
    obtain ⟨h1, h2, h3, h4, h5, h6⟩ := hr
    obtain ⟨k1, k2, k3, k4, k5, k6⟩ := hr2
    refine ⟨k1, k2, by rw [← pubE_len h]; exact k3, k4, fun y hy => ?_, ?_⟩
    · obtain ⟨i, hi⟩ := List.mem_iff_getElem?.1 hy
      obtain ⟨q, hq, hl⟩ := pubE_get h i y hi
      rw [← pubL_len hl]
      exact h5 q (List.mem_of_getElem? hq)
    · rcases h6 with h6 | ⟨g, off, arr, ha, hg, hown, hs, hb⟩
      · exact .inl h6
      · refine .inr ⟨g, off, arr, ha, hg, ?_, hs, fun i r hi j x hx => ?_⟩
        · simp only [Cx.free]
          rw [if_neg (by rw [hown]; simpa using hv)]
          exact hown
        · obtain ⟨q, hq, hl⟩ := pubE_get h i r hi
          have hj : j < q.length := by rw [pubL_len hl]; exact (List.getElem?_eq_some_iff.1 hx).1
          obtain ⟨w, hw, hrw⟩ := hb i q hq j _ (List.getElem?_eq_getElem hj)
          refine ⟨w, hw, ?_⟩
          have hall : ∀ j x, q[j]? = some x → RV C x ((arr[off + i * _ + j]?).getD undef) := fun j x hx => by
            obtain ⟨w, hw, hrw⟩ := hb i q hq j x hx
            rw [hw]; exact hrw
          have := pubL_rv ok ho hl _ hall j x hx
          rwa [hw] at this
theorem pubR_mem {H H2 : Heap} (h : PubR u es H H2) : H2.map (·.1) = H.map (·.1) ∧ ∀ v q, (v, q) ∈ H2 → ∃ p, (v, p) ∈ H ∧ PubO u es p q := by
  induction h with
  | same => exact ⟨rfl, fun v q hq => ⟨q, hq, .same⟩⟩
  | cons h hs ih =>
    refine ⟨by simp [ih.1], fun v q hq => ?_⟩
    rcases List.mem_cons.1 hq with hq | hq
    · injection hq with h1 h2; subst h1; subst h2; exact ⟨_, List.mem_cons_self, h⟩
    · obtain ⟨p, hp, hpq⟩ := ih.2 v q hq
      exact ⟨p, List.mem_cons_of_mem _ hp, hpq⟩
theorem pubH_mem {H H2 : Heap} (h : PubH u es H H2) : (H2.map (·.1)).Sublist (H.map (·.1)) ∧ u ∈ H.map (·.1) ∧ ((H.map (·.1)).Nodup → u ∉ H2.map (·.1)) ∧ ∀ v q, (v, q) ∈ H2 → ∃ p, (v, p) ∈ H ∧ PubO u es p q := by
  induction h with
  | drop hs =>
    obtain ⟨h1, h2⟩ := pubR_mem hs
    refine ⟨by rw [h1]; simp, by simp, fun hn => ?_, fun v q hq => ?_⟩
    · rw [h1]; simp at hn; simpa using hn.1
    · obtain ⟨p, hp, hpq⟩ := h2 v q hq
      exact ⟨p, List.mem_cons_of_mem _ hp, hpq⟩
  | cons h hs ih =>
    obtain ⟨h1, h2, h3, h4⟩ := ih
    refine ⟨by simpa using h1, by simp at h2 ⊢; exact .inr h2, fun hn => ?_, fun v q hq => ?_⟩
    · simp only [List.map_cons, List.nodup_cons] at hn
      simp only [List.map_cons, List.mem_cons, not_or]
      exact ⟨fun hu => hn.1 (hu ▸ h2), h3 hn.2⟩
    · rcases List.mem_cons.1 hq with hq | hq
      · injection hq with h1 h2; subst h1; subst h2; exact ⟨_, List.mem_cons_self, h⟩
      · obtain ⟨p, hp, hpq⟩ := h4 v q hq
        exact ⟨p, List.mem_cons_of_mem _ hp, hpq⟩

section
variable {P : Program} {Q : Exit → St → Prop} {c : Code} {t t2 : List (Nat × AV)} {n : Nat} {H H2 : Heap}
/-- The object u is written no more. -/
theorem awp_pub {u size : Nat} {e : TypeId} {es : List (List AV)} (hq : HAt H u (.arr e size es)) (hT : PubT u es t t2) (hH : PubH u es H H2) (h : AWP P c Q ⟨t2, n, H2⟩) : AWP P c Q ⟨t, n, H⟩ := by
  intro C a hr
  obtain ⟨q, hq⟩ := hq.at
  have ho : ObRel C u (.arr e size es) := hr.h.at hq
  obtain ⟨m1, m2, m3, m4⟩ := pubH_mem hH
  have hu : u ∉ H2.map (·.1) := m3 hr.h.nodup
  have hr2 : Rel (C.free u) ⟨t2, n, H2⟩ a :=
    ⟨free_ok hr.ok u, ⟨m1.nodup hr.h.nodup, fun v q hvq => by
      obtain ⟨p, hp, hpq⟩ := m4 v q hvq
      exact pubO_rel hr.ok ho (fun hv => hu (List.mem_map.2 ⟨(v, q), hvq, hv⟩)) hpq (hr.h.ob v p hp)⟩, hr.n, fun i => pubV_rv hr.ok ho (pubT_look hT i) (hr.t i), hr.d⟩
  have h3 := h (C.free u) a hr2
  refine Code.wp_mono ?_ h3
  intro e a w hp
  refine hp.trans hr.ok ((free_le C u).mono fun w hw => by subst hw; exact m2) (fun w hw => .inl ?_)
  exact m1.subset hw

/-! ### Ends of bodies -/
theorem rok_t {s : St} {k : Nat} {x : AV} (h : look s.t k = x) : ResOk P s (.tmp k) x := h ▸ .tmp
theorem rok_1 {a tt u i off size : Nat} {e : TypeId} {es : List (List AV)} {cs : List AV} {x y : AV} (ht : isAg P tt = some false) (hp : look t a = .ptr u i off) (hq : HAt H u (.arr e size es)) (hi : es[i]? = some cs)
      (hx : cs[off]? = some x) (hy : NV x y) : ResOk P ⟨t, n, H⟩ (.cell a tt) y := by
  obtain ⟨q, hq⟩ := hq.at
  rw [← hy.eq]
  exact .cell1 ht hp hq hi hx
theorem rok_A {a tt u size sz : Nat} {e : TypeId} {cs : List AV} {es : List (List AV)} (ht : isAg P tt = some true) (hsz : szOf P tt = some sz) (hp : look t a = .ptr u 0 0) (hq : HAt H u (.arr e size (cs :: es)))
      (hl : cs.length = sz) : ResOk P ⟨t, n, H⟩ (.cell a tt) (.agg cs) := by
  obtain ⟨q, hq⟩ := hq.at
  exact .cellA ht hsz hp hq rfl hl
theorem retq {s : St} {ex : Exit} {rvs : List ResultVar} {rs : List AV} {H' : Heap} {R : AV → Heap → Prop} (he : ex = .normal ∨ ex = .ret) (hres : ResAll P s rvs rs) (hs : H'.Sublist s.H) (hR : R (retv rs) H') : RetQ P rvs R ex s :=
  ⟨he, rs, H', hres, hs, hR⟩
end
section
variable {P : Program} {o : Oper} {ev : Operand → AV} {H : Heap}
theorem castT {b : Bool} (h : QOp P o ev H (.lit (.bool b))) (hb : b = true) : QOp P o ev H (.lit (.bool true)) := hb ▸ h
theorem castF {b : Bool} (h : QOp P o ev H (.lit (.bool b))) (hb : b = false) : QOp P o ev H (.lit (.bool false)) := hb ▸ h
theorem castQ {r r2 : AV} (h : QOp P o ev H r) (hb : r = r2) : QOp P o ev H r2 := hb ▸ h
end
theorem bnd_int {ev : Operand → AV} {x : Operand} {k : IntKind} {m : Int} {dflt : Nat} (hx : ev x = .lit (.int k m)) (h0 : 0 ≤ m) : bnd ev (some x) dflt m.toNat := ⟨k, m, hx, (Int.toNat_of_nonneg h0).symm⟩
theorem then_ret {K : St → Prop} {Q : Exit → St → Prop} {s : St} (h : Q .ret s) : Then K Q .ret s := h
theorem perm0 (H : Heap) : H.Perm (H ++ []) := by rw [List.append_nil]
theorem pub_all {u h : Nat} {es : List (List AV)} (hh : h = es.length) : Pub1 u es (.sl u 0 h) (.ro es) := .sl (Nat.le_of_eq hh) (by subst hh; simp)
end Go.Proofs.YtdlinfekifnmkaaAm
