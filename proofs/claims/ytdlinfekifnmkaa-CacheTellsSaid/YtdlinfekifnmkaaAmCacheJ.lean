/- Caches that need not be right: small ones. Conditions: none. -/
import Derived.Test.YtdlinfekifnmkaaAmCacheI
set_option linter.unusedVariables false
set_option linter.unusedSimpArgs false
namespace Go.Proofs.YtdlinfekifnmkaaAm
open Go.Proofs
def SmP (p : List Slot) : Prop := p.length ≤ 5000 ∧ ∀ s ∈ p, s.left.size + s.right.size ≤ 1000 ∧ 0 ≤ s.key.sum ∧ s.key.sum ≤ 18446744073709551615
structure CSm (c : Cach) : Prop where
  n : c.parts.length ≤ 100
  p : ∀ p ∈ c.parts, SmP p
theorem pt_mem {c : Cach} (j : Nat) : pt c j = [] ∨ pt c j ∈ c.parts := by
  by_cases hj : j < c.parts.length
  · exact .inr (List.mem_of_getElem? (pt_get hj))
  · exact .inl (pt_nil hj)
theorem CSm.clen {c : Cach} (h : CSm c) : CLen c := by
  have H : ∀ j, SmP (pt c j) := fun j => by
    rcases pt_mem (c := c) j with e | e
    · rw [e]; exact ⟨by simp, fun s hs => by simp at hs⟩
    · exact h.p _ e
  exact ⟨by have := h.n; omega, fun j => by have := (H j).1; omega, fun j s hs => by have := ((H j).2 s hs).1; omega, fun j s hs => ((H j).2 s hs).2⟩
theorem csm_good {c : Cach} (h : CGood c) : CSm c := by
  have hl := h.clen
  have hr := h.right
  refine ⟨by have := hr.n16; omega, fun p hp => ?_⟩
  obtain ⟨j, hj⟩ := List.mem_iff_getElem?.1 hp
  have hjl : j < c.parts.length := (List.getElem?_eq_some_iff.1 hj).1
  have e : pt c j = p := by have := pt_get hjl; rw [hj] at this; injection this with this; exact this.symm
  refine ⟨?_, fun s hs => ⟨h.t j s (e ▸ hs), hl.k j s (e ▸ hs)⟩⟩
  have h1 := hr.len j hjl
  have h2 := room_le hr.n1 hr.room
  rw [e] at h1
  unfold roomOf at h1
  split at h1 <;> omega
theorem csm_slotA : SmP [slotA] := ⟨by simp, fun s hs => by simp at hs; subst hs; decide⟩
theorem csm_turn {c : Cach} (h : CGood c) (k b : Int) : CSm (turnC c k b) := by
  have hs := csm_good h
  have hn := hs.n
  have h16 := h.right.n16
  unfold turnC
  repeat' split
  all_goals first
    | exact ⟨hn, hs.p⟩
    | (refine ⟨by simp; omega, fun p hp => ?_⟩
       rcases List.mem_append.1 hp with hp | hp
       · exact hs.p p hp
       · simp at hp; subst hp; exact csm_slotA)
    | exact ⟨by simp; omega, fun p hp => hs.p p (List.mem_of_mem_take hp)⟩
theorem csm_right {c : Cach} (h : CSm c) (hr : cRight c = true) : CGood c := by
  refine ⟨cright_iff.1 hr, fun j s hs => ?_⟩
  rcases pt_mem (c := c) j with e | e
  · rw [e] at hs; simp at hs
  · exact ((h.p _ e).2 s hs).1
theorem csm_get {c : Cach} (h : CSm c) (l r : ByteArray) : CLen (getC c l r).2.1 := by
  cases hr : cRight c with
  | false => rw [getC_bad hr]; exact clen_zero
  | true => exact (good_get (csm_right h hr) l r).clen
theorem csm_put {c : Cach} (h : CSm c) {l r : ByteArray} (hs : l.size + r.size ≤ 1000) (v : ByteArray) : CLen (putC c l r v).1 := by
  cases hr : cRight c with
  | false => rw [putC_bad hr]; exact clen_zero
  | true => exact (good_put (csm_right h hr) hs v).clen
theorem clen_new (p r w : Int) : CLen (newC p r w).1 := by
  cases hf : cFits p r w with
  | false => unfold newC; rw [if_pos hf]; exact clen_zero
  | true => rw [new_ok hf]; exact (good_rep (new_right hf)).clen
def cut40 (s : ByteArray) : ByteArray := s.extract 0 (min (s.size : Int) 40).toNat
theorem cut40_size (s : ByteArray) : (cut40 s).size ≤ 40 := by simp [cut40]; omega
def sRow3 (p : ByteArray × ByteArray × ByteArray) : List AV := [.lit (.string p.1), .lit (.string p.2.1), .lit (.string p.2.2)]
theorem two_of3 {α : Type} {a b x : α} (h : x ∈ [a, b]) : x = a ∨ x = b := by simpa using h
end Go.Proofs.YtdlinfekifnmkaaAm
