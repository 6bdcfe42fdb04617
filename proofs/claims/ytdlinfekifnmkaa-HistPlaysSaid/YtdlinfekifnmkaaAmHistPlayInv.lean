/- The contract of Play, second part: what holds at each step. Conditions: none. -/
import Derived.Test.YtdlinfekifnmkaaAmHistPlayCells
set_option linter.unusedVariables false
set_option linter.unusedSimpArgs false
set_option maxRecDepth 20000
namespace Go.Proofs.YtdlinfekifnmkaaAm
open Go.Proofs
structure PInv (calls : List Tri) (s : PS) (i : Nat) : Prop where
  la : s.at_.length = 4
  lt : s.told.length = 4
  nx : s.next ≤ 8
  at_ : ∀ w : Nat, w < 4 → (atOf s w).2 = 0 ∨ (((atOf s w).2 = 1 ∨ (atOf s w).2 = 2) ∧ 0 ≤ (atOf s w).1 ∧ (atOf s w).1 < calls.length ∧ (atOf s w).1 < 8)
  outl : s.out.length ≤ i
  sll : s.slots.length ≤ i
theorem putS_len1 (l : List Slot) (n : Int) (x : Slot) : (putS l n x).1.length ≤ l.length + 1 := by
  unfold putS
  split
  · simp
  · simp only [List.length_take, List.length_cons]
    have : (without l x.key).length ≤ l.length := List.length_filter_le _ _
    omega
theorem getS_len1 {l : List Slot} {k : Key} (h : (getS l k).2.2 = 0) : (getS l k).2.1.length ≤ l.length + 1 := by
  unfold getS at h ⊢
  split
  · simp
  · rename_i hb
    rw [if_neg hb] at h
    split
    · simp
    · simp only [List.length_cons]
      have : (without l k).length ≤ l.length := List.length_filter_le _ _
      omega
theorem pinv_step {calls : List Tri} {room : Int} {s : PS} {i : Nat} (h : PInv calls s i) {w : Nat} (hw : w < 4) : PInv calls (playStep calls room s w) (i + 1) := by
  have h1 := h.outl
  have h2 := h.sll
  have hset : ∀ (x : Int × Int) (v : Nat), (s.at_.set w x).getD v (0, 0) = if v = w then x else atOf s v := fun x v => at_set h.la hw
  unfold playStep
  split
  · split
    · rename_i hn
      refine ⟨by simp [h.la], h.lt, by show s.next + 1 ≤ 8; omega, fun v hv => ?_, by simp; omega, by show s.slots.length ≤ i + 1; omega⟩
      show ((s.at_.set w (s.next, 1)).getD v (0, 0)).2 = 0 ∨ _
      rw [show atOf { s with out := s.out ++ [newEv w (callAt calls s.next) s.next], at_ := s.at_.set w (s.next, 1), next := s.next + 1 } v = _ from hset _ v, hset]
      split
      · exact .inr ⟨.inl rfl, by show (0 : Int) ≤ s.next; omega, by show (s.next : Int) < calls.length; omega, by show (s.next : Int) < 8; omega⟩
      · exact h.at_ v hv
    · exact ⟨h.la, h.lt, h.nx, h.at_, by omega, by omega⟩
  · rename_i h0
    have hat := (h.at_ w hw).resolve_left h0
    split
    · split
      · refine ⟨by simp [h.la], by simp [h.lt], h.nx, fun v hv => ?_, by show s.out.length ≤ i + 1; omega, ?_⟩
        · unfold atOf
          simp only
          rw [hset]
          split
          · exact .inr ⟨.inr rfl, hat.2⟩
          · exact h.at_ v hv
        · show (if _ then _ else _ : List Slot).length ≤ i + 1
          split
          · have := putS_len1 s.slots room (slotP (callAt calls (atOf s w).1.toNat) (atOf s w).1)
            omega
          · omega
      · refine ⟨by simp [h.la], by simp [h.lt], h.nx, fun v hv => ?_, by show s.out.length ≤ i + 1; omega, ?_⟩
        · unfold atOf
          simp only
          rw [hset]
          split
          · exact .inr ⟨.inr rfl, hat.2⟩
          · exact h.at_ v hv
        · show (if _ then _ else _ : List Slot).length ≤ i + 1
          split
          · rename_i hg
            have := getS_len1 hg.1
            omega
          · omega
    · refine ⟨by simp [h.la], h.lt, h.nx, fun v hv => ?_, by simp; omega, by show s.slots.length ≤ i + 1; omega⟩
      unfold atOf
      simp only
      rw [hset]
      split
      · exact .inl rfl
      · exact h.at_ v hv
theorem pinv0 (calls : List Tri) : PInv calls play0 0 where
  la := rfl
  lt := rfl
  nx := by decide
  at_ := fun w hw => by
    have : w = 0 ∨ w = 1 ∨ w = 2 ∨ w = 3 := by omega
    rcases this with rfl | rfl | rfl | rfl <;> exact .inl rfl
  outl := Nat.le_refl _
  sll := Nat.le_refl _
end Go.Proofs.YtdlinfekifnmkaaAm
