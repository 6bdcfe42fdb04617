/- The plain laws of layer 14, third part: what has just been put; keys of all bits, and of none; however often is asked. Conditions: none. -/
import Derived.Test.YtdlinfekifnmkaaAmCacheLaws
set_option linter.unusedVariables false
set_option linter.unusedSimpArgs false
namespace Go.Proofs.YtdlinfekifnmkaaAm
open Go.Proofs
theorem parts_ext {c : Cach} {l r : ByteArray} (hc : CRight c) {t : List Slot} {s : Slot} (hp : pt c (atOfC c l r) = s :: t) (hl : s.left = l) (hr : s.right = r) : c.parts.set (atOfC c l r) (s :: without (pt c (atOfC c l r)) (keyOf c l r)) = c.parts := by
  have hi := at_lt hc l r
  have hs : s ∈ pt c (atOfC c l r) := by rw [hp]; simp
  have hk : s.key = keyOf c l r := by rw [(hc.key _ hi.1 s hs).1, hl, hr]; rfl
  have ha := right_iff.1 (hc.alone _ hi.1)
  have e : s :: without (pt c (atOfC c l r)) (keyOf c l r) = pt c (atOfC c l r) := by
    rw [hp]
    congr 1
    rw [hp, keysOf, List.map_cons, List.nodup_cons] at ha
    unfold without keep
    rw [List.filter_cons]
    have h1 : (!decide (s.key = keyOf c l r)) = false := by simp [hk]
    rw [h1]
    simp only [Bool.false_eq_true, if_false]
    refine List.filter_eq_self.2 fun x hx => ?_
    have : ¬ x.key = keyOf c l r := fun e => ha.1 (List.mem_map.2 ⟨x, hx, by rw [e, hk]⟩)
    simp [this]
  rw [e, set_same hi.1]
/-- What has just been put. -/
theorem again_law {c : Cach} (h : CRight c) (l r v : ByteArray) :
    (getC (putC c l r v).1 l r = (v, { (putC c l r v).1 with hits := countUp c.hits }, 0) ∧ getC { (putC c l r v).1 with hits := countUp c.hits } l r = (v, { (putC c l r v).1 with hits := countUp (countUp c.hits) }, 0)) ∨
    (c.room < c.parts.length ∧ getC (putC c l r v).1 l r = (⟨#[]⟩, { (putC c l r v).1 with misses := countUp c.misses }, 10) ∧ getC { (putC c l r v).1 with misses := countUp c.misses } l r = (⟨#[]⟩, { (putC c l r v).1 with misses := countUp (countUp c.misses) }, 10)) := by
  have hp := put_parts h l r v
  have hat : atOfC (putC c l r v).1 l r = atOfC c l r := by
    unfold atOfC partOf keyOf
    rw [hp.1, hp.2.1]
  have hd := put_cright h l r v
  have hpt := put_pt h l r v (atOfC c l r)
  rw [if_pos rfl] at hpt
  by_cases hr : 1 ≤ roomOf c (atOfC c l r)
  · obtain ⟨t, ht⟩ := put_new h l r v hr
    rw [ht] at hpt
    have step : ∀ d : Cach, CRight d → d.width = c.width → d.parts = (putC c l r v).1.parts → getC d l r = (v, { d with hits := countUp d.hits }, 0) := fun d hdr hw hpp => by
      have hat2 : atOfC d l r = atOfC c l r := by
        unfold atOfC partOf keyOf
        rw [hpp, hw, hp.1]
      have hpt2 : pt d (atOfC d l r) = ⟨keyOf c l r, l, r, v⟩ :: t := by
        rw [hat2]; unfold pt at hpt ⊢; rw [hpp]; exact hpt
      have e := tell_hit hdr (l := l) (r := r) (s := ⟨keyOf c l r, l, r, v⟩) (by rw [hpt2]; simp) rfl rfl
      rw [parts_ext hdr hpt2 rfl rfl] at e
      exact e
    have e1 := step _ hd hp.2.1 rfl
    rw [hp.2.2.2.1] at e1
    have hd2 := get_cright hd l r
    rw [e1] at hd2
    have e2 := step _ hd2 hp.2.1 rfl
    exact .inl ⟨e1, e2⟩
  · have hn := put_none h l r v hr
    rw [hn] at hpt
    have step : ∀ d : Cach, CRight d → d.width = c.width → d.parts = (putC c l r v).1.parts → getC d l r = (⟨#[]⟩, { d with misses := countUp d.misses }, 10) := fun d hdr hw hpp => by
      have hat2 : atOfC d l r = atOfC c l r := by
        unfold atOfC partOf keyOf
        rw [hpp, hw, hp.1]
      have hpt2 : pt d (atOfC d l r) = [] := by
        rw [hat2]; unfold pt at hpt ⊢; rw [hpp]; exact hpt
      rcases get_cases hdr l r with ⟨e, _⟩ | ⟨s, hs, _⟩ | ⟨s, hs, _⟩
      · exact e
      · rw [hpt2] at hs; simp at hs
      · rw [hpt2] at hs; simp at hs
    have e1 := step _ hd hp.2.1 rfl
    rw [hp.2.2.2.2.1] at e1
    have hd2 := get_cright hd l r
    rw [e1] at hd2
    have e2 := step _ hd2 hp.2.1 rfl
    refine .inr ⟨?_, e1, e2⟩
    have hn1 := h.n1
    have h0 : c.room / c.parts.length < 1 := by
      unfold roomOf at hr
      split at hr <;> omega
    exact Int.lt_of_lt_of_le ((Int.ediv_lt_iff_lt_mul (by omega)).1 h0) (by omega)

/-! ### One slot alone -/
structure Lone (c : Cach) (w : Int) (l r v : ByteArray) : Prop where
  right : CRight c
  width : c.width = w
  one : c.parts = [[⟨bothS l r w, l, r, v⟩]]
  zero : c.clashes = 0
theorem lone_put {w : Int} (hw : 0 ≤ w ∧ w ≤ 64) (l r v : ByteArray) : newC 1 50 w = (⟨w, 50, [[]], 0, 0, 0, 0⟩, 0) ∧ (putC ⟨w, 50, [[]], 0, 0, 0, 0⟩ l r v).2 = 0 ∧ Lone (putC ⟨w, 50, [[]], 0, 0, 0, 0⟩ l r v).1 w l r v := by
  have hf : cFits 1 50 w = true := by
    unfold cFits
    simp only [Bool.and_eq_true, decide_eq_true_eq]
    omega
  have hc := new_right hf
  have hc : CRight ⟨w, 50, [[]], 0, 0, 0, 0⟩ := hc
  have hp := put_parts hc l r v
  have hi := (at_lt hc l r).1
  have h0 : atOfC ⟨w, 50, [[]], 0, 0, 0, 0⟩ l r = 0 := by simpa using hi
  refine ⟨new_ok hf, hp.2.2.2.2.2.2, put_cright hc l r v, hp.2.1, ?_, hp.2.2.2.2.2.1⟩
  rw [put_eqC hc, h0]
  obtain ⟨m, hm, e⟩ := putP_eq hc l r v
  rw [e, h0]
  have hro : roomOf ⟨w, 50, [[]], 0, 0, 0, 0⟩ 0 = 50 := by simp [roomOf]
  rw [h0, hro] at hm
  have : m = 1 := by rw [hm]; rfl
  rw [this]
  rfl
theorem lone_get {c : Cach} {w : Int} {l r v p q : ByteArray} (h : Lone c w l r v) :
    (((getC c p q).2.2 = 0 ∧ (p = l ∧ q = r) ∧ (getC c p q).2.1.clashes = 0) ∨
     ((getC c p q).2.2 = 10 ∧ ¬ (p = l ∧ q = r) ∧ (getC c p q).2.1.clashes = if bothS p q w = bothS l r w then 1 else 0)) := by
  have hi := (at_lt h.right p q).1
  have h0 : atOfC c p q = 0 := by rw [h.one] at hi; simpa using hi
  have hpt : pt c (atOfC c p q) = [⟨bothS l r w, l, r, v⟩] := by rw [h0, pt, h.one]; rfl
  have hk : keyOf c p q = bothS p q w := by unfold keyOf; rw [h.width]
  rcases get_cases h.right p q with ⟨e, hn⟩ | ⟨s, hs, hsk, hm, e⟩ | ⟨s, hs, hsk, h1, h2, e⟩
  · rw [e]
    have hn2 : ¬ bothS l r w = bothS p q w := by
      have := hn ⟨bothS l r w, l, r, v⟩ (by rw [hpt]; simp)
      rw [hk] at this
      exact this
    refine .inr ⟨rfl, fun he => hn2 (by rw [he.1, he.2]), ?_⟩
    rw [if_neg (fun e => hn2 e.symm)]
    exact h.zero
  · rw [e]
    rw [hpt] at hs
    simp only [List.mem_singleton] at hs
    subst hs
    rw [hk] at hsk
    refine .inr ⟨rfl, fun he => hm ⟨he.1.symm, he.2.symm⟩, ?_⟩
    rw [if_pos hsk.symm]
    show countUp c.clashes = 1
    rw [h.zero]; rfl
  · rw [e]
    rw [hpt] at hs
    simp only [List.mem_singleton] at hs
    subst hs
    exact .inl ⟨rfl, ⟨h1.symm, h2.symm⟩, h.zero⟩
theorem both_zero (l r : ByteArray) : bothS l r 0 = ⟨0, l.size + r.size⟩ := by
  unfold bothS cut
  rw [if_neg (by omega)]
  simp

/-! ### However often is asked -/
structure Alike (c d : Cach) : Prop where
  right : CRight d
  width : d.width = c.width
  len : d.parts.length = c.parts.length
  mem : ∀ j s, s ∈ pt d j ↔ s ∈ pt c j
  size : sizeC d = sizeC c
theorem alike0 {c : Cach} (h : CRight c) : Alike c c := ⟨h, rfl, rfl, fun _ _ => Iff.rfl, rfl⟩
theorem alike_get {c d : Cach} (h : Alike c d) (l r : ByteArray) : Alike c (getC d l r).2.1 := by
  have hp := get_parts h.right l r
  exact ⟨get_cright h.right l r, hp.2.1.trans h.width, hp.1.trans h.len, fun j s => (hp.2.2.2.2 j s).trans (h.mem j s), (get_size h.right l r).trans h.size⟩
theorem alike_tell {c d : Cach} (hc : CRight c) (h : Alike c d) (l r : ByteArray) : tellC d l r = tellC c l r := tell_same hc h.right h.width h.len h.mem l r
theorem get_err {c : Cach} (h : CRight c) (l r : ByteArray) : (getC c l r).2.2 = 0 ∨ (getC c l r).2.2 = 10 := by
  rcases get_cases h l r with ⟨e, _⟩ | ⟨s, hs, hk, _, e⟩ | ⟨s, hs, hk, _, _, e⟩ <;> rw [e]
  · exact .inr rfl
  · exact .inr rfl
  · exact .inl rfl
end Go.Proofs.YtdlinfekifnmkaaAm
