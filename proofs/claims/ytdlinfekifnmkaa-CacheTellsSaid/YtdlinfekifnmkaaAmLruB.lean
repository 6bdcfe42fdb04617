/- Contracts of the layer 'lru', second part. Conditions: the lengths. -/
import Derived.Test.YtdlinfekifnmkaaAmLru
set_option linter.unusedVariables false
set_option linter.unusedSimpArgs false
set_option maxRecDepth 20000
namespace Go.Proofs.YtdlinfekifnmkaaAm
open Go.Proofs

def without (l : List Slot) (k : Key) : List Slot := keep (fun s => decide (s.key = k)) l
theorem without_len (l : List Slot) (k : Key) : (without l k).length ≤ l.length := List.length_filter_le _ _
theorem without_next {l : List Slot} {i : Nat} {s : Slot} (k : Key) (h : l[i]? = some s) : without (l.take (i + 1)) k = if s.key = k then without (l.take i) k else without (l.take i) k ++ [s] := by
  rw [without, keep_next h]
  by_cases hk : s.key = k <;> simp [hk, without]
set_option maxHeartbeats 1000000 in
theorem without127_c (l : List Slot) (hl : l.length ≤ 1000000) (k : Key) (H : Heap) : QCall Try.prog 127 [.ro (l.map Slot.cells), .agg k.cells] H (.ro ((without l k).map Slot.cells)) := by
  refine acall_intro (n := 28) (rvs := [.tmp 4]) Try.func127 rfl rfl rfl (Nat.le_of_ble_eq_true rfl) ?_
  refine awp_seq ?_
  refine awp_region ?_
  (refine aes rfl (e_bx (by constructor) rfl rfl) rfl ?_; rintro _ _ ⟨u3, rfl, rfl⟩)
  refine aqs rfl (q_as (by constructor)) rfl ?_
  refine alist_nil ?_
  show AWP _ _ _ _
  refine awp_seq ?_
  refine awp_region ?_
  refine aqs rfl (q_as (by constructor)) rfl ?_
  refine alist_nil ?_
  show AWP _ _ _ _
  refine awp_adopt 5 40 5 rfl fun u0 => ?_
  show AWP _ _ _ _
  refine awp_seq ?_
  refine awp_seq ?_
  refine awp_region ?_
  refine aqs rfl (q_as (by constructor)) rfl ?_
  refine alist_nil ?_
  show AWP _ _ _ _
  refine awp_block ?_
  refine awp_loop_inv (fun x : Nat × Nat => ⟨[(6, .lit (.int .i64 x.1)), (0, .ro (l.map Slot.cells)), (3, .ptr u3 0 0), (5, .sl x.2 0 (without (l.take x.1) k).length)], 28, (x.2, .arr 40 5 ((without (l.take x.1) k).map Slot.cells)) :: (u3, .arr 29 2 [k.cells]) :: H⟩) (fun x => x.1 ≤ l.length) (fun x => l.length - x.1) (0, u0) ?_ ?_ ?_
  · exact Nat.zero_le _
  · exact .mk' (by repeat (first | exact trivial | refine ⟨rfl, ?_⟩)) (by repeat (first | exact .refl _ | apply List.Sublist.cons_cons | apply List.Sublist.cons))
  · rintro ⟨i, u⟩ hi
    simp only at hi ⊢
    have hlen := lenSlot (without (l.take i) k)
    have hone := oneSlot (without (l.take i) k)
    have hwl := without_len (l.take i) k
    have htl : (l.take i).length = i := by rw [List.length_take]; omega
    refine awp_seq ?_
    refine awp_seq ?_
    refine awp_region ?_
    refine aqs rfl (q_mv (by constructor)) rfl ?_
    refine aqs rfl (q_mv (by constructor)) rfl ?_
    first | refine aqs rfl (q_len Try.underlying38 .ro) rfl ?_ | refine aqs rfl (q_lenO Try.underlying38 rfl (by repeat (first | exact .here | assumption | (apply HAt.left; assumption) | apply HAt.there | apply HAt.right)) (by first | omega | (simp; done) | (simp; omega) | fail) (by first | exact Nat.sub_zero _ | rfl)) rfl ?_ | refine aqs rfl (q_len Try.underlying38 .nil) rfl ?_ | refine aqs rfl (q_len Try.underlying38 .cro) rfl ?_
    refine aqs rfl (q_lss rfl rfl) rfl ?_
    refine alist_nil ?_
    show AWP _ _ _ _
    refine awp_cond rfl (fun hc0 => ?_) (fun hc0 => ?_)
    · simp only [decide_eq_true_eq, List.length_map] at hc0
      obtain ⟨s, hs, hsm⟩ := get_lt (l := l) (i := i) (by omega)
      have hs2 := get_map (f := Slot.cells) hs
      have hnx := without_next k hs
      refine awp_skip ?_
      show AWP _ _ _ _
      refine awp_seq ?_
      refine awp_block ?_
      refine awp_seq ?_
      refine awp_draw 7 [(0, false), (1, false), (2, false), (3, false), (4, false), (5, false), (6, false)] _ ([]) mixed (by kernel_rfl) (perm0 _) ?_
      refine glq rfl (.inl ⟨rfl, q_mv (by constructor)⟩) rfl ?_
      refine glq rfl (.inl ⟨rfl, q_mv (by constructor)⟩) rfl ?_
      first | refine glq rfl (.inl ⟨rfl, q_iaN Try.underlying38 sz40 (.inl rfl) rfl (by omega) (by first | rfl | assumption | (simp [*]; done) | fail) (by first | rfl | assumption | (simp [*]; done) | fail) (by decide) (by first | ((repeat constructor); done) | exact .same _)⟩) rfl ?_ | refine glq rfl (.inl ⟨rfl, q_iaS Try.underlying38 sz40 rfl (by repeat (first | exact .here | assumption | (apply HAt.left; assumption) | apply HAt.there | apply HAt.right)) rfl (by omega) (by omega) (by first | exact Nat.zero_add _ | rfl)⟩) rfl ?_ | refine glq rfl (.inl ⟨rfl, q_iaN Try.underlying38 sz40 (.inr rfl) rfl (by omega) (by first | rfl | assumption | (simp [*]; done) | fail) (by first | rfl | assumption | (simp [*]; done) | fail) (by decide) (by first | ((repeat constructor); done) | exact .same _)⟩) rfl ?_
      first | refine glq rfl (.inl ⟨rfl, q_fapP fl40_0 (by decide) rfl rfl⟩) rfl ?_ | refine glq rfl (.inl ⟨rfl, q_faP fl40_0 (by decide) rfl (by first | ((repeat constructor); done) | exact .same _)⟩) rfl ?_
      first | refine glq rfl (.inl ⟨rfl, q_ldpW ag29 sz29 rfl (by repeat (first | exact .here | assumption | (apply HAt.left; assumption) | apply HAt.there | apply HAt.right)) (by first | rfl | assumption | (simp [*]; done) | fail) (by first | rfl | assumption | (simp [*]; done) | fail) (by decide)⟩) rfl ?_ | refine glq rfl (.inl ⟨rfl, q_ldW ag29 sz29 rfl (by first | rfl | assumption | (simp [*]; done) | fail)⟩) rfl ?_ | refine glq rfl (.inl ⟨rfl, q_ldpP ag29 sz29 rfl (by repeat (first | exact .here | assumption | (apply HAt.left; assumption) | apply HAt.there | apply HAt.right)) (by first | rfl | assumption | (simp [*]; done) | fail) (by first | decide | (simp; done) | omega | fail) (by decide) (by first | ((repeat constructor); done) | exact .same _)⟩) rfl ?_ | refine glq rfl (.inl ⟨rfl, q_ldP ag29 sz29 rfl (by first | decide | (simp; done) | omega | fail) (by first | ((repeat constructor); done) | exact .same _)⟩) rfl ?_
      first | refine glq rfl (.inl ⟨rfl, q_ldpW ag29 sz29 rfl (by repeat (first | exact .here | assumption | (apply HAt.left; assumption) | apply HAt.there | apply HAt.right)) (by first | rfl | assumption | (simp [*]; done) | fail) (by first | rfl | assumption | (simp [*]; done) | fail) (by decide)⟩) rfl ?_ | refine glq rfl (.inl ⟨rfl, q_ldW ag29 sz29 rfl (by first | rfl | assumption | (simp [*]; done) | fail)⟩) rfl ?_ | refine glq rfl (.inl ⟨rfl, q_ldpP ag29 sz29 rfl (by repeat (first | exact .here | assumption | (apply HAt.left; assumption) | apply HAt.there | apply HAt.right)) (by first | rfl | assumption | (simp [*]; done) | fail) (by first | decide | (simp; done) | omega | fail) (by decide) (by first | ((repeat constructor); done) | exact .same _)⟩) rfl ?_ | refine glq rfl (.inl ⟨rfl, q_ldP ag29 sz29 rfl (by first | decide | (simp; done) | omega | fail) (by first | ((repeat constructor); done) | exact .same _)⟩) rfl ?_
      refine glq rfl (.inl ⟨rfl, q_neqA gd29 rfl rfl (by repeat constructor) (by repeat constructor) (fun w => eq29 w)⟩) rfl ?_
      (first | refine gld0 ?_ | refine gldA ?_)
      refine alist_nil ?_
      show AWP _ _ _ _
      refine awp_cond rfl (fun hc1 => ?_) (fun hc1 => ?_)
      · have hk : ¬ s.key = k := by
          have := hc1
          rw [keq] at this
          simpa using this
        rw [if_neg hk] at hnx
        have hes : ((without (l.take i) k).map Slot.cells).take (without (l.take i) k).length ++ [s.cells] = (without (l.take (i + 1)) k).map Slot.cells := by
          rw [List.take_of_length_le (by simp), hnx]; simp
        have hml : (without (l.take i) k).length - 0 + 1 = (without (l.take (i + 1)) k).length := by rw [hnx]; simp
        refine awp_region ?_
        refine aqs rfl (q_mv (by constructor)) rfl ?_
        refine aqs rfl (q_mv (by constructor)) rfl ?_
        refine aqs rfl (q_mv (by constructor)) rfl ?_
        first | refine aqs rfl (q_iaN Try.underlying38 sz40 (.inl rfl) rfl (by omega) (by first | rfl | assumption | (simp [*]; done) | fail) (by first | rfl | assumption | (simp [*]; done) | fail) (by decide) (by first | ((repeat constructor); done) | exact .same _)) rfl ?_ | refine aqs rfl (q_iaS Try.underlying38 sz40 rfl (by repeat (first | exact .here | assumption | (apply HAt.left; assumption) | apply HAt.there | apply HAt.right)) rfl (by omega) (by omega) (by first | exact Nat.zero_add _ | rfl)) rfl ?_ | refine aqs rfl (q_iaN Try.underlying38 sz40 (.inr rfl) rfl (by omega) (by first | rfl | assumption | (simp [*]; done) | fail) (by first | rfl | assumption | (simp [*]; done) | fail) (by decide) (by first | ((repeat constructor); done) | exact .same _)) rfl ?_
        first | refine aqs rfl (q_ldpW ag40 sz40 rfl (by repeat (first | exact .here | assumption | (apply HAt.left; assumption) | apply HAt.there | apply HAt.right)) (by first | rfl | assumption | (simp [*]; done) | fail) (by first | rfl | assumption | (simp [*]; done) | fail) (by decide)) rfl ?_ | refine aqs rfl (q_ldW ag40 sz40 rfl (by first | rfl | assumption | (simp [*]; done) | fail)) rfl ?_ | refine aqs rfl (q_ldpP ag40 sz40 rfl (by repeat (first | exact .here | assumption | (apply HAt.left; assumption) | apply HAt.there | apply HAt.right)) (by first | rfl | assumption | (simp [*]; done) | fail) (by first | decide | (simp; done) | omega | fail) (by decide) (by first | ((repeat constructor); done) | exact .same _)) rfl ?_ | refine aqs rfl (q_ldP ag40 sz40 rfl (by first | decide | (simp; done) | omega | fail) (by first | ((repeat constructor); done) | exact .same _)) rfl ?_
        first | refine aqs rfl (q_bs Try.underlying38 sz40 zr40 rfl (by first | ((repeat constructor); done) | exact .same _) rfl (by decide) (by repeat (first | exact BS.nil | (apply BS.cons; (· constructor); (· rfl); (· rfl); (· rfl); (· exact (by first | ((repeat constructor); done) | exact .same _)))))) rfl ?_ | (refine aes rfl (e_bs Try.underlying38 sz40 zr40 rfl (by first | ((repeat constructor); done) | exact .same _) rfl (by decide) (by repeat (first | exact BS.nil | (apply BS.cons; (· constructor); (· rfl); (· rfl); (· rfl); (· exact (by first | ((repeat constructor); done) | exact .same _)))))) rfl ?_; rintro _ _ ⟨u25, rfl, rfl⟩)
        first | refine aqs rfl (q_apC Try.underlying38 sz40 by40 zr40 (.inl rfl) (by first | exact .ro | exact .cro | exact .nil | exact SV.slA (by repeat (first | exact .here | assumption | (apply HAt.left; assumption) | apply HAt.there | apply HAt.right)) (by first | rfl | (simp; done) | (simp; omega) | (simp [*]; done) | fail)) (by first | assumption | (intro c hc; simp at hc; subst hc; rfl) | (simp; done) | fail) (by first | assumption | (intro c hc; simp at hc; subst hc; rfl) | (simp; done) | fail) (by first | omega | decide | (simp; omega) | assumption | fail) (by decide) (by decide) rfl (by first | rfl | (simp; done) | fail)) rfl ?_ | refine aqs rfl (q_apC Try.underlying38 sz40 by40 zr40 (.inr ⟨rfl, rfl⟩) (by first | exact .ro | exact .cro | exact .nil | exact SV.slA (by repeat (first | exact .here | assumption | (apply HAt.left; assumption) | apply HAt.there | apply HAt.right)) (by first | rfl | (simp; done) | (simp; omega) | (simp [*]; done) | fail)) (by first | assumption | (intro c hc; simp at hc; subst hc; rfl) | (simp; done) | fail) (by first | assumption | (intro c hc; simp at hc; subst hc; rfl) | (simp; done) | fail) (by first | omega | decide | (simp; omega) | assumption | fail) (by decide) (by decide) rfl (by first | rfl | (simp; done) | fail)) rfl ?_ | (refine aes rfl (e_apO Try.underlying38 sz40 by40 zr40 rfl (by repeat (first | exact .here | assumption | (apply HAt.left; assumption) | apply HAt.there | apply HAt.right)) (by rw [List.length_map]; exact Nat.le_refl _) (by first | exact .ro | exact .cro | exact .nil | exact SV.slA (by repeat (first | exact .here | assumption | (apply HAt.left; assumption) | apply HAt.there | apply HAt.right)) (by first | rfl | (simp; done) | (simp; omega) | (simp [*]; done) | fail)) (by first | assumption | (intro c hc; simp at hc; subst hc; rfl) | (simp; done) | fail) (by first | assumption | (intro c hc; simp at hc; subst hc; rfl) | (simp; done) | fail) (by first | assumption | (intro c hc; simp at hc; subst hc; rfl) | (simp; done) | fail) (by first | (simp; done) | (simp; omega) | omega | fail) (by decide) (by decide) rfl (by exact hml) hes (fun v => (by repeat (first | exact .here | apply HSet.there)))) rfl ?_; rintro _ _ ⟨u26, rfl, rfl⟩) | (refine aes rfl (e_apN Try.underlying38 sz40 by40 zr40 rfl (by first | exact .ro | exact .cro | exact .nil | exact SV.slA (by repeat (first | exact .here | assumption | (apply HAt.left; assumption) | apply HAt.there | apply HAt.right)) (by first | rfl | (simp; done) | (simp; omega) | (simp [*]; done) | fail)) (by first | assumption | (intro c hc; simp at hc; subst hc; rfl) | (simp; done) | fail) (by first | assumption | (intro c hc; simp at hc; subst hc; rfl) | (simp; done) | fail) (by first | (simp; done) | (simp; omega) | omega | fail) (by decide) (by decide) rfl rfl) rfl ?_; rintro _ _ ⟨u26, rfl, rfl⟩)
        refine aqs rfl (q_as (by constructor)) rfl ?_
        refine alist_nil ?_
        show AWP _ _ _ _
        refine awp_region ?_
        refine aqs rfl (q_mv (by constructor)) rfl ?_
        first | refine aqs rfl (q_add64 rfl rfl (by omega) (by omega)) rfl ?_ | refine aqs rfl (q_add rfl rfl) rfl ?_
        refine aqs rfl (q_as (by constructor)) rfl ?_
        refine alist_nil ?_
        show ∃ y, _ ∧ _ ∧ _
        first
          | exact ⟨(i + 1, _), by show i + 1 ≤ l.length; omega, by show l.length - (i + 1) < l.length - i; omega, .mk' ⟨by rfl, rfl, rfl, rfl, trivial⟩ (by repeat (first | exact List.Sublist.refl _ | exact List.nil_sublist _ | exact List.sublist_append_left _ _ | (apply List.Sublist.cons_cons) | (apply List.Sublist.cons)))⟩
          | exact ⟨(i + 1, u), by show i + 1 ≤ l.length; omega, by show l.length - (i + 1) < l.length - i; omega, by simp only [hnx]; exact .mk' ⟨by rfl, rfl, rfl, rfl, trivial⟩ (by repeat (first | exact List.Sublist.refl _ | exact List.nil_sublist _ | exact List.sublist_append_left _ _ | (apply List.Sublist.cons_cons) | (apply List.Sublist.cons)))⟩
      · have hk : s.key = k := by
          have := hc1
          rw [keq] at this
          simpa using this
        rw [if_pos hk] at hnx
        refine awp_skip ?_
        show AWP _ _ _ _
        refine awp_region ?_
        refine aqs rfl (q_mv (by constructor)) rfl ?_
        first | refine aqs rfl (q_add64 rfl rfl (by omega) (by omega)) rfl ?_ | refine aqs rfl (q_add rfl rfl) rfl ?_
        refine aqs rfl (q_as (by constructor)) rfl ?_
        refine alist_nil ?_
        show ∃ y, _ ∧ _ ∧ _
        first
          | exact ⟨(i + 1, _), by show i + 1 ≤ l.length; omega, by show l.length - (i + 1) < l.length - i; omega, .mk' ⟨by rfl, rfl, rfl, rfl, trivial⟩ (by repeat (first | exact List.Sublist.refl _ | exact List.nil_sublist _ | exact List.sublist_append_left _ _ | (apply List.Sublist.cons_cons) | (apply List.Sublist.cons)))⟩
          | exact ⟨(i + 1, u), by show i + 1 ≤ l.length; omega, by show l.length - (i + 1) < l.length - i; omega, by simp only [hnx]; exact .mk' ⟨by rfl, rfl, rfl, rfl, trivial⟩ (by repeat (first | exact List.Sublist.refl _ | exact List.nil_sublist _ | exact List.sublist_append_left _ _ | (apply List.Sublist.cons_cons) | (apply List.Sublist.cons)))⟩
    · simp only [decide_eq_false_iff_not, List.length_map] at hc0
      have hil : i = l.length := by omega
      subst hil
      rw [List.take_length] at *
      refine awp_exit ?_
      show AWP _ _ _ _
      refine awp_seq ?_
      refine awp_region ?_
      refine aqs rfl (q_mv (by constructor)) rfl ?_
      refine aqs rfl (q_as (by constructor)) rfl ?_
      refine alist_nil ?_
      show AWP _ _ _ _
      refine awp_pub (u := u) (by repeat (first | exact .here | assumption | (apply HAt.left; assumption) | apply HAt.there | apply HAt.right)) (by repeat (first | exact PubT.nil | (apply PubT.cons; (· first | exact .one (pub_all (by first | rfl | (simp; done) | (simp; omega) | (simp [*]; done) | fail)) | exact .one .same)) | exact PubT.same)) (by repeat (first | exact PubH.drop .same | (apply PubH.cons; (· exact .same)))) ?_
      show AWP _ _ _ _
      refine awp_ret ?_
      repeat first | with_reducible refine then_ret ?_ | with_reducible refine blk_ret ?_
      apply retq (.inr rfl) (.cons (rok_t rfl) .nil)
      rotate_left
      · exact ⟨rfl, rfl⟩
      repeat (first | exact List.Sublist.refl _ | exact List.nil_sublist _ | exact List.sublist_append_left _ _ | apply List.Sublist.cons)

def zeroSlot : Slot := ⟨⟨0, 0⟩, ⟨#[]⟩, ⟨#[]⟩, ⟨#[]⟩⟩
def getS (l : List Slot) (k : Key) : Slot × List Slot × Int :=
  if rightB l = false then (zeroSlot, [], 1) else
    match l.find? (fun s => decide (s.key = k)) with
    | none => (zeroSlot, [], 10)
    | some s => (s, s :: without l k, 0)
def getA (g : Slot × List Slot × Int) : AV := .tup [.agg g.1.cells, .ro (g.2.1.map Slot.cells), .lit (.int .i64 g.2.2)]
theorem getS_bad {l : List Slot} {k : Key} (h : rightB l = false) : getS l k = (zeroSlot, [], 1) := by rw [getS, if_pos h]
theorem getS_none {l : List Slot} {k : Key} (h : ¬ rightB l = false) (hn : ∀ s ∈ l, ¬ s.key = k) : getS l k = (zeroSlot, [], 10) := by
  have : l.find? (fun s => decide (s.key = k)) = none := by simpa using hn
  rw [getS, if_neg h, this]
theorem getS_some {l : List Slot} {k : Key} {i : Nat} {s : Slot} (h : ¬ rightB l = false) (hs : l[i]? = some s) (hk : s.key = k) (hn : ∀ j t, j < i → l[j]? = some t → ¬ t.key = k) : getS l k = (s, s :: without l k, 0) := by
  have : l.find? (fun s => decide (s.key = k)) = some s := by
    rw [List.find?_eq_some_iff_getElem]
    obtain ⟨hi, rfl⟩ := List.getElem?_eq_some_iff.1 hs
    exact ⟨by simpa using hk, i, hi, rfl, fun j hj => by simpa using hn j _ hj (List.getElem?_eq_getElem (by omega))⟩
  rw [getS, if_neg h, this]
theorem key_inj {l : List Slot} (hn : (keysOf l).Nodup) {s t : Slot} (hs : s ∈ l) (ht : t ∈ l) (h : t.key = s.key) : t = s := by
  obtain ⟨i, hi⟩ := List.mem_iff_getElem?.1 hs
  obtain ⟨j, hj⟩ := List.mem_iff_getElem?.1 ht
  have a := key_at hi
  have b := key_at hj
  rw [h] at b
  have l1 := (List.getElem?_eq_some_iff.1 a).1
  have l2 := (List.getElem?_eq_some_iff.1 b).1
  have e1 := (List.getElem?_eq_some_iff.1 a).2
  have e2 := (List.getElem?_eq_some_iff.1 b).2
  have : i = j := (List.getElem_inj hn).1 (e1.trans e2.symm)
  subst this
  rw [hi] at hj
  injection hj with hj
  exact hj.symm
theorem keep_uniq {l : List Slot} {i : Nat} {s : Slot} (h : ¬ rightB l = false) (hs : l[i]? = some s) : keep (fun t => decide (t = s)) l = without l s.key := by
  have hn : (keysOf l).Nodup := by
    simp only [rightB, decide_eq_false_iff_not, Decidable.not_not] at h
    exact h
  have hsm := List.mem_of_getElem? hs
  refine List.filter_congr fun t ht => ?_
  by_cases e : t = s
  · simp [e]
  · have : ¬ t.key = s.key := fun hk => e (key_inj hn hsm ht hk)
    simp [e, this]
set_option maxHeartbeats 2000000 in
theorem get54_c (l : List Slot) (hl : l.length ≤ 1000000) (k : Key) (H : Heap) : QCall Try.prog 54 [.ro (l.map Slot.cells), .agg k.cells] H (getA (getS l k)) := by
  rcases idx_cases (fun s => decide (s.key = k)) l with ⟨hi, hkeep⟩ | ⟨i, s, hi, hs, hps, hkeep⟩
  · skip
    refine acall_intro (n := 29) (rvs := [.cell 4 40, .tmp 5, .tmp 6]) Try.func54 rfl rfl rfl (Nat.le_of_ble_eq_true rfl) ?_
    refine awp_seq ?_
    refine awp_region ?_
    (refine aes rfl (e_bx (by constructor) rfl rfl) rfl ?_; rintro _ _ ⟨u2, rfl, rfl⟩)
    (refine aes rfl (e_bx (by constructor) rfl rfl) rfl ?_; rintro _ _ ⟨u3, rfl, rfl⟩)
    (refine aes rfl (e_al (xs := [.lit (.int .u64 0), .lit (.int .i64 0), .lit (.string ⟨#[]⟩), .lit (.string ⟨#[]⟩), .lit (.string ⟨#[]⟩)]) (k := 5) zr40 (.same _) rfl) rfl ?_; rintro _ _ ⟨u4, rfl, rfl⟩)
    refine aqs rfl (q_as (by constructor)) rfl ?_
    refine aqs rfl (q_as (by constructor)) rfl ?_
    refine alist_nil ?_
    show AWP _ _ _ _
    refine awp_seq ?_
    refine awp_seq ?_
    refine awp_region ?_
    first | refine aqs rfl (q_ldpN ag38 rfl (by repeat (first | exact .here | assumption | (apply HAt.left; assumption) | apply HAt.there | apply HAt.right)) (by first | rfl | assumption | (simp [*]; done) | fail) (by first | rfl | assumption | (simp [*]; done) | fail) (by constructor)) rfl ?_ | refine aqs rfl (q_ld1N ag38 rfl (by constructor)) rfl ?_
    first | refine aqs rfl (e_callN cb51 (right51_c l hl _) rfl rfl) rfl ?_ | refine aqs rfl (e_callN cb51 (ACall.arg (right51_c l hl _) (by repeat (first | exact ArgL.nil | (apply ArgL.cons; (· first | exact .same | exact .cro | exact .nil))))) rfl rfl) rfl ?_
    refine aqs rfl (q_not rfl) rfl ?_
    refine alist_nil ?_
    show AWP _ _ _ _
    refine awp_cond rfl (fun hc0 => ?_) (fun hc0 => ?_)
    · have hr : rightB l = false := by simpa using hc0
      rw [getS_bad hr]
      refine awp_seq ?_
      refine awp_region ?_
      refine aqs rfl (q_bd st40 zr40 (by first | ((repeat constructor); done) | exact .same _) (by repeat (first | exact BD.nil | (apply BD.cons; (· rfl); (· constructor); (· rfl); (· rfl); (· exact Nat.le_of_ble_eq_true (by rfl)); (· exact (by first | ((repeat constructor); done) | exact .same _)))))) rfl ?_
      first | (refine aen rfl (e_stW sz40 rfl (by repeat (first | exact .here | assumption | (apply HAt.left; assumption) | apply HAt.there | apply HAt.right)) (by constructor) (by first | rfl | assumption | (simp [*]; done) | fail) rfl (by repeat (first | exact .here | apply HSet.there))) ?_; rintro _ _ ⟨rfl, rfl⟩) | (refine aen rfl (e_stP sz40 rfl (by repeat (first | exact .here | assumption | (apply HAt.left; assumption) | apply HAt.there | apply HAt.right)) (by first | rfl | assumption | (simp [*]; done) | fail) (by constructor) (by first | rfl | assumption | (simp [*]; done) | fail) rfl (by first | decide | omega) (by first | ((repeat constructor); done) | exact .same _) (by first | exact .one | exact .set) (by repeat (first | exact .here | apply HSet.there))) ?_; rintro _ _ ⟨rfl, rfl⟩)
      refine aqs rfl (q_as (by constructor)) rfl ?_
      refine aqs rfl (q_as (by constructor)) rfl ?_
      refine alist_nil ?_
      show AWP _ _ _ _
      refine awp_nilro 5 rfl ?_
      show AWP _ _ _ _
      refine awp_ret ?_
      repeat first | with_reducible refine then_ret ?_ | with_reducible refine blk_ret ?_
      apply retq (.inr rfl) (.cons (rok_A ag40 sz40 rfl (by repeat (first | exact .here | assumption | (apply HAt.left; assumption) | apply HAt.there | apply HAt.right)) (by rfl)) (.cons (rok_t rfl) (.cons (rok_t rfl) .nil)))
      rotate_left
      · exact ⟨rfl, rfl⟩
      repeat (first | exact List.Sublist.refl _ | exact List.nil_sublist _ | exact List.sublist_append_left _ _ | apply List.Sublist.cons)
    · have hr : ¬ rightB l = false := by simpa using hc0
      have hn : ∀ s ∈ l, ¬ s.key = k := fun s hs hk => by
        have h1 : s ∈ keep (fun s => decide (s.key = k)) l := by rw [hkeep]; exact hs
        simp [keep, hk] at h1
      refine awp_skip ?_
      show AWP _ _ _ _
      refine awp_seq ?_
      refine awp_region ?_
      first | refine aqs rfl (q_ldpN ag38 rfl (by repeat (first | exact .here | assumption | (apply HAt.left; assumption) | apply HAt.there | apply HAt.right)) (by first | rfl | assumption | (simp [*]; done) | fail) (by first | rfl | assumption | (simp [*]; done) | fail) (by constructor)) rfl ?_ | refine aqs rfl (q_ld1N ag38 rfl (by constructor)) rfl ?_
      refine aqs rfl (q_fn (by first | ((repeat constructor); done) | exact .same _) (by first | ((repeat constructor); done) | exact .same _)) rfl ?_
      first | refine aqs rfl (e_callN cb123 (ixro123_c l hl (fun s => decide (s.key = k)) cb124 [.ptr u3 0 0] _ (fun s hs => clo124_c s k u3 _ (by repeat (first | exact .here | assumption | (apply HAt.left; assumption) | apply HAt.there | apply HAt.right)))) rfl rfl) rfl ?_ | refine aqs rfl (e_callN cb123 (ACall.arg (ixro123_c l hl (fun s => decide (s.key = k)) cb124 [.ptr u3 0 0] _ (fun s hs => clo124_c s k u3 _ (by repeat (first | exact .here | assumption | (apply HAt.left; assumption) | apply HAt.there | apply HAt.right)))) (by repeat (first | exact ArgL.nil | (apply ArgL.cons; (· first | exact .same | exact .cro | exact .nil))))) rfl rfl) rfl ?_
      rw [hi]
      (refine aes rfl (e_al (xs := [.lit (.int .i64 0)]) (k := 1) zr3 (.same _) rfl) rfl ?_; rintro _ _ ⟨u7, rfl, rfl⟩)
      first | (refine aen rfl (e_stW sz3 rfl (by repeat (first | exact .here | assumption | (apply HAt.left; assumption) | apply HAt.there | apply HAt.right)) (by constructor) (by first | rfl | assumption | (simp [*]; done) | fail) rfl (by repeat (first | exact .here | apply HSet.there))) ?_; rintro _ _ ⟨rfl, rfl⟩) | (refine aen rfl (e_stP sz3 rfl (by repeat (first | exact .here | assumption | (apply HAt.left; assumption) | apply HAt.there | apply HAt.right)) (by first | rfl | assumption | (simp [*]; done) | fail) (by constructor) (by first | rfl | assumption | (simp [*]; done) | fail) rfl (by first | decide | omega) (by first | ((repeat constructor); done) | exact .same _) (by first | exact .one | exact .set) (by repeat (first | exact .here | apply HSet.there))) ?_; rintro _ _ ⟨rfl, rfl⟩)
      refine alist_nil ?_
      show AWP _ _ _ _
      refine awp_seq ?_
      refine awp_seq ?_
      refine awp_region ?_
      first | refine aqs rfl (q_ldpN ag3 rfl (by repeat (first | exact .here | assumption | (apply HAt.left; assumption) | apply HAt.there | apply HAt.right)) (by first | rfl | assumption | (simp [*]; done) | fail) (by first | rfl | assumption | (simp [*]; done) | fail) (by constructor)) rfl ?_ | refine aqs rfl (q_ld1N ag3 rfl (by constructor)) rfl ?_
      refine aqs rfl (q_lss rfl rfl) rfl ?_
      refine alist_nil ?_
      show AWP _ _ _ _
      refine awp_cond rfl (fun hc1 => ?_) (fun hc1 => ?_)
      · rw [getS_none hr hn]
        refine awp_seq ?_
        refine awp_region ?_
        refine aqs rfl (q_bd st40 zr40 (by first | ((repeat constructor); done) | exact .same _) (by repeat (first | exact BD.nil | (apply BD.cons; (· rfl); (· constructor); (· rfl); (· rfl); (· exact Nat.le_of_ble_eq_true (by rfl)); (· exact (by first | ((repeat constructor); done) | exact .same _)))))) rfl ?_
        first | (refine aen rfl (e_stW sz40 rfl (by repeat (first | exact .here | assumption | (apply HAt.left; assumption) | apply HAt.there | apply HAt.right)) (by constructor) (by first | rfl | assumption | (simp [*]; done) | fail) rfl (by repeat (first | exact .here | apply HSet.there))) ?_; rintro _ _ ⟨rfl, rfl⟩) | (refine aen rfl (e_stP sz40 rfl (by repeat (first | exact .here | assumption | (apply HAt.left; assumption) | apply HAt.there | apply HAt.right)) (by first | rfl | assumption | (simp [*]; done) | fail) (by constructor) (by first | rfl | assumption | (simp [*]; done) | fail) rfl (by first | decide | omega) (by first | ((repeat constructor); done) | exact .same _) (by first | exact .one | exact .set) (by repeat (first | exact .here | apply HSet.there))) ?_; rintro _ _ ⟨rfl, rfl⟩)
        refine aqs rfl (q_as (by constructor)) rfl ?_
        refine aqs rfl (q_as (by constructor)) rfl ?_
        refine alist_nil ?_
        show AWP _ _ _ _
        refine awp_nilro 5 rfl ?_
        show AWP _ _ _ _
        refine awp_ret ?_
        repeat first | with_reducible refine then_ret ?_ | with_reducible refine blk_ret ?_
        apply retq (.inr rfl) (.cons (rok_A ag40 sz40 rfl (by repeat (first | exact .here | assumption | (apply HAt.left; assumption) | apply HAt.there | apply HAt.right)) (by rfl)) (.cons (rok_t rfl) (.cons (rok_t rfl) .nil)))
        rotate_left
        · exact ⟨rfl, rfl⟩
        repeat (first | exact List.Sublist.refl _ | exact List.nil_sublist _ | exact List.sublist_append_left _ _ | apply List.Sublist.cons)
      · exfalso; first | (simp at hc1; done) | (simp at hc1; omega) | contradiction
  · have hk : s.key = k := by simpa using hps
    have hn : ∀ j t, j < i → l[j]? = some t → ¬ t.key = k := fun j t hj ht hk => by
      have h1 : t ∈ keep (fun s => decide (s.key = k)) (l.take i) := by rw [hkeep]; exact List.mem_of_getElem? (show (l.take i)[j]? = some t by rw [List.getElem?_take_of_lt hj]; exact ht)
      simp [keep, hk] at h1
    have hs2 := get_map (f := Slot.cells) hs
    refine acall_intro (n := 29) (rvs := [.cell 4 40, .tmp 5, .tmp 6]) Try.func54 rfl rfl rfl (Nat.le_of_ble_eq_true rfl) ?_
    refine awp_seq ?_
    refine awp_region ?_
    (refine aes rfl (e_bx (by constructor) rfl rfl) rfl ?_; rintro _ _ ⟨u2, rfl, rfl⟩)
    (refine aes rfl (e_bx (by constructor) rfl rfl) rfl ?_; rintro _ _ ⟨u3, rfl, rfl⟩)
    (refine aes rfl (e_al (xs := [.lit (.int .u64 0), .lit (.int .i64 0), .lit (.string ⟨#[]⟩), .lit (.string ⟨#[]⟩), .lit (.string ⟨#[]⟩)]) (k := 5) zr40 (.same _) rfl) rfl ?_; rintro _ _ ⟨u4, rfl, rfl⟩)
    refine aqs rfl (q_as (by constructor)) rfl ?_
    refine aqs rfl (q_as (by constructor)) rfl ?_
    refine alist_nil ?_
    show AWP _ _ _ _
    refine awp_seq ?_
    refine awp_seq ?_
    refine awp_region ?_
    first | refine aqs rfl (q_ldpN ag38 rfl (by repeat (first | exact .here | assumption | (apply HAt.left; assumption) | apply HAt.there | apply HAt.right)) (by first | rfl | assumption | (simp [*]; done) | fail) (by first | rfl | assumption | (simp [*]; done) | fail) (by constructor)) rfl ?_ | refine aqs rfl (q_ld1N ag38 rfl (by constructor)) rfl ?_
    first | refine aqs rfl (e_callN cb51 (right51_c l hl _) rfl rfl) rfl ?_ | refine aqs rfl (e_callN cb51 (ACall.arg (right51_c l hl _) (by repeat (first | exact ArgL.nil | (apply ArgL.cons; (· first | exact .same | exact .cro | exact .nil))))) rfl rfl) rfl ?_
    refine aqs rfl (q_not rfl) rfl ?_
    refine alist_nil ?_
    show AWP _ _ _ _
    refine awp_cond rfl (fun hc0 => ?_) (fun hc0 => ?_)
    · have hr : rightB l = false := by simpa using hc0
      rw [getS_bad hr]
      refine awp_seq ?_
      refine awp_region ?_
      refine aqs rfl (q_bd st40 zr40 (by first | ((repeat constructor); done) | exact .same _) (by repeat (first | exact BD.nil | (apply BD.cons; (· rfl); (· constructor); (· rfl); (· rfl); (· exact Nat.le_of_ble_eq_true (by rfl)); (· exact (by first | ((repeat constructor); done) | exact .same _)))))) rfl ?_
      first | (refine aen rfl (e_stW sz40 rfl (by repeat (first | exact .here | assumption | (apply HAt.left; assumption) | apply HAt.there | apply HAt.right)) (by constructor) (by first | rfl | assumption | (simp [*]; done) | fail) rfl (by repeat (first | exact .here | apply HSet.there))) ?_; rintro _ _ ⟨rfl, rfl⟩) | (refine aen rfl (e_stP sz40 rfl (by repeat (first | exact .here | assumption | (apply HAt.left; assumption) | apply HAt.there | apply HAt.right)) (by first | rfl | assumption | (simp [*]; done) | fail) (by constructor) (by first | rfl | assumption | (simp [*]; done) | fail) rfl (by first | decide | omega) (by first | ((repeat constructor); done) | exact .same _) (by first | exact .one | exact .set) (by repeat (first | exact .here | apply HSet.there))) ?_; rintro _ _ ⟨rfl, rfl⟩)
      refine aqs rfl (q_as (by constructor)) rfl ?_
      refine aqs rfl (q_as (by constructor)) rfl ?_
      refine alist_nil ?_
      show AWP _ _ _ _
      refine awp_nilro 5 rfl ?_
      show AWP _ _ _ _
      refine awp_ret ?_
      repeat first | with_reducible refine then_ret ?_ | with_reducible refine blk_ret ?_
      apply retq (.inr rfl) (.cons (rok_A ag40 sz40 rfl (by repeat (first | exact .here | assumption | (apply HAt.left; assumption) | apply HAt.there | apply HAt.right)) (by rfl)) (.cons (rok_t rfl) (.cons (rok_t rfl) .nil)))
      rotate_left
      · exact ⟨rfl, rfl⟩
      repeat (first | exact List.Sublist.refl _ | exact List.nil_sublist _ | exact List.sublist_append_left _ _ | apply List.Sublist.cons)
    · have hr : ¬ rightB l = false := by simpa using hc0
      have e : getS l k = (s, s :: keep (fun t => decide (t = s)) l, 0) := by rw [getS_some hr hs hk hn, keep_uniq hr hs, hk]
      rw [e]
      refine awp_skip ?_
      show AWP _ _ _ _
      refine awp_seq ?_
      refine awp_region ?_
      first | refine aqs rfl (q_ldpN ag38 rfl (by repeat (first | exact .here | assumption | (apply HAt.left; assumption) | apply HAt.there | apply HAt.right)) (by first | rfl | assumption | (simp [*]; done) | fail) (by first | rfl | assumption | (simp [*]; done) | fail) (by constructor)) rfl ?_ | refine aqs rfl (q_ld1N ag38 rfl (by constructor)) rfl ?_
      refine aqs rfl (q_fn (by first | ((repeat constructor); done) | exact .same _) (by first | ((repeat constructor); done) | exact .same _)) rfl ?_
      first | refine aqs rfl (e_callN cb123 (ixro123_c l hl (fun s => decide (s.key = k)) cb124 [.ptr u3 0 0] _ (fun s hs => clo124_c s k u3 _ (by repeat (first | exact .here | assumption | (apply HAt.left; assumption) | apply HAt.there | apply HAt.right)))) rfl rfl) rfl ?_ | refine aqs rfl (e_callN cb123 (ACall.arg (ixro123_c l hl (fun s => decide (s.key = k)) cb124 [.ptr u3 0 0] _ (fun s hs => clo124_c s k u3 _ (by repeat (first | exact .here | assumption | (apply HAt.left; assumption) | apply HAt.there | apply HAt.right)))) (by repeat (first | exact ArgL.nil | (apply ArgL.cons; (· first | exact .same | exact .cro | exact .nil))))) rfl rfl) rfl ?_
      rw [hi]
      (refine aes rfl (e_al (xs := [.lit (.int .i64 0)]) (k := 1) zr3 (.same _) rfl) rfl ?_; rintro _ _ ⟨u7, rfl, rfl⟩)
      first | (refine aen rfl (e_stW sz3 rfl (by repeat (first | exact .here | assumption | (apply HAt.left; assumption) | apply HAt.there | apply HAt.right)) (by constructor) (by first | rfl | assumption | (simp [*]; done) | fail) rfl (by repeat (first | exact .here | apply HSet.there))) ?_; rintro _ _ ⟨rfl, rfl⟩) | (refine aen rfl (e_stP sz3 rfl (by repeat (first | exact .here | assumption | (apply HAt.left; assumption) | apply HAt.there | apply HAt.right)) (by first | rfl | assumption | (simp [*]; done) | fail) (by constructor) (by first | rfl | assumption | (simp [*]; done) | fail) rfl (by first | decide | omega) (by first | ((repeat constructor); done) | exact .same _) (by first | exact .one | exact .set) (by repeat (first | exact .here | apply HSet.there))) ?_; rintro _ _ ⟨rfl, rfl⟩)
      refine alist_nil ?_
      show AWP _ _ _ _
      refine awp_seq ?_
      refine awp_seq ?_
      refine awp_region ?_
      first | refine aqs rfl (q_ldpN ag3 rfl (by repeat (first | exact .here | assumption | (apply HAt.left; assumption) | apply HAt.there | apply HAt.right)) (by first | rfl | assumption | (simp [*]; done) | fail) (by first | rfl | assumption | (simp [*]; done) | fail) (by constructor)) rfl ?_ | refine aqs rfl (q_ld1N ag3 rfl (by constructor)) rfl ?_
      refine aqs rfl (q_lss rfl rfl) rfl ?_
      refine alist_nil ?_
      show AWP _ _ _ _
      refine awp_cond rfl (fun hc1 => ?_) (fun hc1 => ?_)
      · exfalso; first | (simp at hc1; done) | (simp at hc1; omega) | contradiction
      · skip
        refine awp_skip ?_
        show AWP _ _ _ _
        refine awp_seq ?_
        refine awp_draw 11 [(0, false), (1, false), (2, false), (3, false), (4, false), (5, false), (6, false), (7, false), (8, false), (9, false), (10, false)] _ ([]) mixed (by kernel_rfl) (perm0 _) ?_
        first | refine glq rfl (.inl ⟨rfl, q_ldpN ag38 rfl (by repeat (first | exact .here | assumption | (apply HAt.left; assumption) | apply HAt.there | apply HAt.right)) (by first | rfl | assumption | (simp [*]; done) | fail) (by first | rfl | assumption | (simp [*]; done) | fail) (by constructor)⟩) rfl ?_ | refine glq rfl (.inl ⟨rfl, q_ld1N ag38 rfl (by constructor)⟩) rfl ?_
        first | refine glq rfl (.inl ⟨rfl, q_ldpN ag3 rfl (by repeat (first | exact .here | assumption | (apply HAt.left; assumption) | apply HAt.there | apply HAt.right)) (by first | rfl | assumption | (simp [*]; done) | fail) (by first | rfl | assumption | (simp [*]; done) | fail) (by constructor)⟩) rfl ?_ | refine glq rfl (.inl ⟨rfl, q_ld1N ag3 rfl (by constructor)⟩) rfl ?_
        first | refine glq rfl (.inl ⟨rfl, q_iaN Try.underlying38 sz40 (.inl rfl) rfl (by omega) (by first | rfl | assumption | (simp [*]; done) | fail) (by first | rfl | assumption | (simp [*]; done) | fail) (by decide) (by first | ((repeat constructor); done) | exact .same _)⟩) rfl ?_ | refine glq rfl (.inl ⟨rfl, q_iaS Try.underlying38 sz40 rfl (by repeat (first | exact .here | assumption | (apply HAt.left; assumption) | apply HAt.there | apply HAt.right)) rfl (by omega) (by omega) (by first | exact Nat.zero_add _ | rfl)⟩) rfl ?_ | refine glq rfl (.inl ⟨rfl, q_iaN Try.underlying38 sz40 (.inr rfl) rfl (by omega) (by first | rfl | assumption | (simp [*]; done) | fail) (by first | rfl | assumption | (simp [*]; done) | fail) (by decide) (by first | ((repeat constructor); done) | exact .same _)⟩) rfl ?_
        first | refine glq rfl (.inl ⟨rfl, q_ldpW ag40 sz40 rfl (by repeat (first | exact .here | assumption | (apply HAt.left; assumption) | apply HAt.there | apply HAt.right)) (by first | rfl | assumption | (simp [*]; done) | fail) (by first | rfl | assumption | (simp [*]; done) | fail) (by decide)⟩) rfl ?_ | refine glq rfl (.inl ⟨rfl, q_ldW ag40 sz40 rfl (by first | rfl | assumption | (simp [*]; done) | fail)⟩) rfl ?_ | refine glq rfl (.inl ⟨rfl, q_ldpP ag40 sz40 rfl (by repeat (first | exact .here | assumption | (apply HAt.left; assumption) | apply HAt.there | apply HAt.right)) (by first | rfl | assumption | (simp [*]; done) | fail) (by first | decide | (simp; done) | omega | fail) (by decide) (by first | ((repeat constructor); done) | exact .same _)⟩) rfl ?_ | refine glq rfl (.inl ⟨rfl, q_ldP ag40 sz40 rfl (by first | decide | (simp; done) | omega | fail) (by first | ((repeat constructor); done) | exact .same _)⟩) rfl ?_
        first | refine glq rfl (.inl ⟨rfl, q_ldpN ag38 rfl (by repeat (first | exact .here | assumption | (apply HAt.left; assumption) | apply HAt.there | apply HAt.right)) (by first | rfl | assumption | (simp [*]; done) | fail) (by first | rfl | assumption | (simp [*]; done) | fail) (by constructor)⟩) rfl ?_ | refine glq rfl (.inl ⟨rfl, q_ld1N ag38 rfl (by constructor)⟩) rfl ?_
        first | refine glq rfl (.inl ⟨rfl, q_ldpN ag38 rfl (by repeat (first | exact .here | assumption | (apply HAt.left; assumption) | apply HAt.there | apply HAt.right)) (by first | rfl | assumption | (simp [*]; done) | fail) (by first | rfl | assumption | (simp [*]; done) | fail) (by constructor)⟩) rfl ?_ | refine glq rfl (.inl ⟨rfl, q_ld1N ag38 rfl (by constructor)⟩) rfl ?_
        first | refine glq rfl (.inl ⟨rfl, q_ldpN ag3 rfl (by repeat (first | exact .here | assumption | (apply HAt.left; assumption) | apply HAt.there | apply HAt.right)) (by first | rfl | assumption | (simp [*]; done) | fail) (by first | rfl | assumption | (simp [*]; done) | fail) (by constructor)⟩) rfl ?_ | refine glq rfl (.inl ⟨rfl, q_ld1N ag3 rfl (by constructor)⟩) rfl ?_
        first | refine glq rfl (.inl ⟨rfl, q_iaN Try.underlying38 sz40 (.inl rfl) rfl (by omega) (by first | rfl | assumption | (simp [*]; done) | fail) (by first | rfl | assumption | (simp [*]; done) | fail) (by decide) (by first | ((repeat constructor); done) | exact .same _)⟩) rfl ?_ | refine glq rfl (.inl ⟨rfl, q_iaS Try.underlying38 sz40 rfl (by repeat (first | exact .here | assumption | (apply HAt.left; assumption) | apply HAt.there | apply HAt.right)) rfl (by omega) (by omega) (by first | exact Nat.zero_add _ | rfl)⟩) rfl ?_ | refine glq rfl (.inl ⟨rfl, q_iaN Try.underlying38 sz40 (.inr rfl) rfl (by omega) (by first | rfl | assumption | (simp [*]; done) | fail) (by first | rfl | assumption | (simp [*]; done) | fail) (by decide) (by first | ((repeat constructor); done) | exact .same _)⟩) rfl ?_
        first | refine glq rfl (.inl ⟨rfl, q_ldpW ag40 sz40 rfl (by repeat (first | exact .here | assumption | (apply HAt.left; assumption) | apply HAt.there | apply HAt.right)) (by first | rfl | assumption | (simp [*]; done) | fail) (by first | rfl | assumption | (simp [*]; done) | fail) (by decide)⟩) rfl ?_ | refine glq rfl (.inl ⟨rfl, q_ldW ag40 sz40 rfl (by first | rfl | assumption | (simp [*]; done) | fail)⟩) rfl ?_ | refine glq rfl (.inl ⟨rfl, q_ldpP ag40 sz40 rfl (by repeat (first | exact .here | assumption | (apply HAt.left; assumption) | apply HAt.there | apply HAt.right)) (by first | rfl | assumption | (simp [*]; done) | fail) (by first | decide | (simp; done) | omega | fail) (by decide) (by first | ((repeat constructor); done) | exact .same _)⟩) rfl ?_ | refine glq rfl (.inl ⟨rfl, q_ldP ag40 sz40 rfl (by first | decide | (simp; done) | omega | fail) (by first | ((repeat constructor); done) | exact .same _)⟩) rfl ?_
        refine glq rfl (.inl ⟨rfl, q_fn (by first | ((repeat constructor); done) | exact .same _) (by first | ((repeat constructor); done) | exact .same _)⟩) rfl ?_
        first | refine glq rfl (.inl ⟨rfl, e_callN cb125 (front125_c l hl s (fun t => decide (t = s)) cb126 [.ptr u2 0 0, .ptr u7 0 0] _ (fun t ht => clo126_c t s l i hs u2 u7 _ (by repeat (first | exact .here | assumption | (apply HAt.left; assumption) | apply HAt.there | apply HAt.right)) (by repeat (first | exact .here | assumption | (apply HAt.left; assumption) | apply HAt.there | apply HAt.right)))) rfl rfl⟩) rfl ?_ | refine glq rfl (.inl ⟨rfl, e_callN cb125 (ACall.arg (front125_c l hl s (fun t => decide (t = s)) cb126 [.ptr u2 0 0, .ptr u7 0 0] _ (fun t ht => clo126_c t s l i hs u2 u7 _ (by repeat (first | exact .here | assumption | (apply HAt.left; assumption) | apply HAt.there | apply HAt.right)) (by repeat (first | exact .here | assumption | (apply HAt.left; assumption) | apply HAt.there | apply HAt.right)))) (by repeat (first | exact ArgL.nil | (apply ArgL.cons; (· first | exact .same | exact .cro | exact .nil))))) rfl rfl⟩) rfl ?_
        (first | refine gld0 ?_ | refine gldA ?_)
        first | (refine aen rfl (e_stW sz40 rfl (by repeat (first | exact .here | assumption | (apply HAt.left; assumption) | apply HAt.there | apply HAt.right)) (by constructor) (by first | rfl | assumption | (simp [*]; done) | fail) rfl (by repeat (first | exact .here | apply HSet.there))) ?_; rintro _ _ ⟨rfl, rfl⟩) | (refine aen rfl (e_stP sz40 rfl (by repeat (first | exact .here | assumption | (apply HAt.left; assumption) | apply HAt.there | apply HAt.right)) (by first | rfl | assumption | (simp [*]; done) | fail) (by constructor) (by first | rfl | assumption | (simp [*]; done) | fail) rfl (by first | decide | omega) (by first | ((repeat constructor); done) | exact .same _) (by first | exact .one | exact .set) (by repeat (first | exact .here | apply HSet.there))) ?_; rintro _ _ ⟨rfl, rfl⟩)
        refine aqs rfl (q_as (by constructor)) rfl ?_
        refine aqs rfl (q_as (by constructor)) rfl ?_
        refine alist_nil ?_
        show AWP _ _ _ _
        refine awp_ret ?_
        repeat first | with_reducible refine then_ret ?_ | with_reducible refine blk_ret ?_
        apply retq (.inr rfl) (.cons (rok_A ag40 sz40 rfl (by repeat (first | exact .here | assumption | (apply HAt.left; assumption) | apply HAt.there | apply HAt.right)) (by rfl)) (.cons (rok_t rfl) (.cons (rok_t rfl) .nil)))
        rotate_left
        · exact ⟨rfl, rfl⟩
        repeat (first | exact List.Sublist.refl _ | exact List.nil_sublist _ | exact List.sublist_append_left _ _ | apply List.Sublist.cons)

set_option maxHeartbeats 2000000 in
theorem get55_c (l : List Slot) (hl : l.length ≤ 1000000) (k : Key) (H : Heap) : QCall Try.prog 55 [.ro (l.map Slot.cells), .agg k.cells] H (getA (getS l k)) := by
  have hwl := without_len l k
  refine acall_intro (n := 41) (rvs := [.cell 4 40, .tmp 5, .tmp 6]) Try.func55 rfl rfl rfl (Nat.le_of_ble_eq_true rfl) ?_
  refine awp_seq ?_
  refine awp_region ?_
  (refine aes rfl (e_bx (by constructor) rfl rfl) rfl ?_; rintro _ _ ⟨u3, rfl, rfl⟩)
  (refine aes rfl (e_al (xs := [.lit (.int .u64 0), .lit (.int .i64 0), .lit (.string ⟨#[]⟩), .lit (.string ⟨#[]⟩), .lit (.string ⟨#[]⟩)]) (k := 5) zr40 (.same _) rfl) rfl ?_; rintro _ _ ⟨u4, rfl, rfl⟩)
  refine aqs rfl (q_as (by constructor)) rfl ?_
  refine aqs rfl (q_as (by constructor)) rfl ?_
  refine alist_nil ?_
  show AWP _ _ _ _
  refine awp_seq ?_
  refine awp_region ?_
  refine aqs rfl (q_mv (by constructor)) rfl ?_
  first | refine aqs rfl (e_callN cb52 (right52_c l hl _) rfl rfl) rfl ?_ | refine aqs rfl (e_callN cb52 (ACall.arg (right52_c l hl _) (by repeat (first | exact ArgL.nil | (apply ArgL.cons; (· first | exact .same | exact .cro | exact .nil))))) rfl rfl) rfl ?_
  refine aqs rfl (q_as (by constructor)) rfl ?_
  refine alist_nil ?_
  show AWP _ _ _ _
  refine awp_seq ?_
  refine awp_seq ?_
  refine awp_region ?_
  refine aqs rfl (q_mv (by constructor)) rfl ?_
  refine aqs rfl (q_not rfl) rfl ?_
  refine alist_nil ?_
  show AWP _ _ _ _
  refine awp_cond rfl (fun hc0 => ?_) (fun hc0 => ?_)
  · have hr : rightB l = false := by simpa using hc0
    rw [getS_bad hr]
    refine awp_seq ?_
    refine awp_region ?_
    refine aqs rfl (q_bd st40 zr40 (by first | ((repeat constructor); done) | exact .same _) (by repeat (first | exact BD.nil | (apply BD.cons; (· rfl); (· constructor); (· rfl); (· rfl); (· exact Nat.le_of_ble_eq_true (by rfl)); (· exact (by first | ((repeat constructor); done) | exact .same _)))))) rfl ?_
    first | (refine aen rfl (e_stW sz40 rfl (by repeat (first | exact .here | assumption | (apply HAt.left; assumption) | apply HAt.there | apply HAt.right)) (by constructor) (by first | rfl | assumption | (simp [*]; done) | fail) rfl (by repeat (first | exact .here | apply HSet.there))) ?_; rintro _ _ ⟨rfl, rfl⟩) | (refine aen rfl (e_stP sz40 rfl (by repeat (first | exact .here | assumption | (apply HAt.left; assumption) | apply HAt.there | apply HAt.right)) (by first | rfl | assumption | (simp [*]; done) | fail) (by constructor) (by first | rfl | assumption | (simp [*]; done) | fail) rfl (by first | decide | omega) (by first | ((repeat constructor); done) | exact .same _) (by first | exact .one | exact .set) (by repeat (first | exact .here | apply HSet.there))) ?_; rintro _ _ ⟨rfl, rfl⟩)
    refine aqs rfl (q_as (by constructor)) rfl ?_
    refine aqs rfl (q_as (by constructor)) rfl ?_
    refine alist_nil ?_
    show AWP _ _ _ _
    refine awp_nilro 5 rfl ?_
    show AWP _ _ _ _
    refine awp_ret ?_
    repeat first | with_reducible refine then_ret ?_ | with_reducible refine blk_ret ?_
    apply retq (.inr rfl) (.cons (rok_A ag40 sz40 rfl (by repeat (first | exact .here | assumption | (apply HAt.left; assumption) | apply HAt.there | apply HAt.right)) (by rfl)) (.cons (rok_t rfl) (.cons (rok_t rfl) .nil)))
    rotate_left
    · exact ⟨rfl, rfl⟩
    repeat (first | exact List.Sublist.refl _ | exact List.nil_sublist _ | exact List.sublist_append_left _ _ | apply List.Sublist.cons)
  · have hr : ¬ rightB l = false := by simpa using hc0
    refine awp_skip ?_
    show AWP _ _ _ _
    refine awp_seq ?_
    refine awp_seq ?_
    refine awp_region ?_
    refine aqs rfl (q_as (by constructor)) rfl ?_
    refine alist_nil ?_
    show AWP _ _ _ _
    refine awp_block ?_
    refine awp_loop_inv (fun i : Nat => ⟨[(8, .lit (.int .i64 i)), (0, .ro (l.map Slot.cells)), (3, .ptr u3 0 0), (4, .ptr u4 0 0), (5, .lit (.slice none 0 0)), (6, .lit (.int .i64 0))], 41, (u4, .arr 40 5 [zeroSlot.cells]) :: (u3, .arr 29 2 [k.cells]) :: H⟩) (fun i => i ≤ l.length ∧ ∀ j t, j < i → l[j]? = some t → ¬ t.key = k) (fun i => l.length - i) 0 ?_ ?_ ?_
    · exact ⟨Nat.zero_le _, fun j t h => absurd h (Nat.not_lt_zero _)⟩
    · exact .mk' (by repeat (first | exact trivial | refine ⟨rfl, ?_⟩)) (by repeat (first | exact .refl _ | apply List.Sublist.cons_cons | apply List.Sublist.cons))
    · intro i hi
      obtain ⟨hi, hall⟩ := hi
      refine awp_seq ?_
      refine awp_seq ?_
      refine awp_region ?_
      refine aqs rfl (q_mv (by constructor)) rfl ?_
      refine aqs rfl (q_mv (by constructor)) rfl ?_
      first | refine aqs rfl (q_len Try.underlying38 .ro) rfl ?_ | refine aqs rfl (q_lenO Try.underlying38 rfl (by repeat (first | exact .here | assumption | (apply HAt.left; assumption) | apply HAt.there | apply HAt.right)) (by first | omega | (simp; done) | (simp; omega) | fail) (by first | exact Nat.sub_zero _ | rfl)) rfl ?_ | refine aqs rfl (q_len Try.underlying38 .nil) rfl ?_ | refine aqs rfl (q_len Try.underlying38 .cro) rfl ?_
      refine aqs rfl (q_lss rfl rfl) rfl ?_
      refine alist_nil ?_
      show AWP _ _ _ _
      refine awp_cond rfl (fun hc1 => ?_) (fun hc1 => ?_)
      · simp only [decide_eq_true_eq, List.length_map] at hc1
        obtain ⟨s, hs, hsm⟩ := get_lt (l := l) (i := i) (by omega)
        have hs2 := get_map (f := Slot.cells) hs
        refine awp_skip ?_
        show AWP _ _ _ _
        refine awp_seq ?_
        refine awp_block ?_
        refine awp_seq ?_
        refine awp_draw 7 [(0, false), (1, false), (2, false), (3, false), (4, false), (5, false), (6, false)] _ ([]) mixed (by kernel_rfl) (perm0 _) ?_
        refine glq rfl (.inl ⟨rfl, q_mv (by constructor)⟩) rfl ?_
        refine glq rfl (.inl ⟨rfl, q_mv (by constructor)⟩) rfl ?_
        first | refine glq rfl (.inl ⟨rfl, q_iaN Try.underlying38 sz40 (.inl rfl) rfl (by omega) (by first | rfl | assumption | (simp [*]; done) | fail) (by first | rfl | assumption | (simp [*]; done) | fail) (by decide) (by first | ((repeat constructor); done) | exact .same _)⟩) rfl ?_ | refine glq rfl (.inl ⟨rfl, q_iaS Try.underlying38 sz40 rfl (by repeat (first | exact .here | assumption | (apply HAt.left; assumption) | apply HAt.there | apply HAt.right)) rfl (by omega) (by omega) (by first | exact Nat.zero_add _ | rfl)⟩) rfl ?_ | refine glq rfl (.inl ⟨rfl, q_iaN Try.underlying38 sz40 (.inr rfl) rfl (by omega) (by first | rfl | assumption | (simp [*]; done) | fail) (by first | rfl | assumption | (simp [*]; done) | fail) (by decide) (by first | ((repeat constructor); done) | exact .same _)⟩) rfl ?_
        first | refine glq rfl (.inl ⟨rfl, q_fapP fl40_0 (by decide) rfl rfl⟩) rfl ?_ | refine glq rfl (.inl ⟨rfl, q_faP fl40_0 (by decide) rfl (by first | ((repeat constructor); done) | exact .same _)⟩) rfl ?_
        first | refine glq rfl (.inl ⟨rfl, q_ldpW ag29 sz29 rfl (by repeat (first | exact .here | assumption | (apply HAt.left; assumption) | apply HAt.there | apply HAt.right)) (by first | rfl | assumption | (simp [*]; done) | fail) (by first | rfl | assumption | (simp [*]; done) | fail) (by decide)⟩) rfl ?_ | refine glq rfl (.inl ⟨rfl, q_ldW ag29 sz29 rfl (by first | rfl | assumption | (simp [*]; done) | fail)⟩) rfl ?_ | refine glq rfl (.inl ⟨rfl, q_ldpP ag29 sz29 rfl (by repeat (first | exact .here | assumption | (apply HAt.left; assumption) | apply HAt.there | apply HAt.right)) (by first | rfl | assumption | (simp [*]; done) | fail) (by first | decide | (simp; done) | omega | fail) (by decide) (by first | ((repeat constructor); done) | exact .same _)⟩) rfl ?_ | refine glq rfl (.inl ⟨rfl, q_ldP ag29 sz29 rfl (by first | decide | (simp; done) | omega | fail) (by first | ((repeat constructor); done) | exact .same _)⟩) rfl ?_
        first | refine glq rfl (.inl ⟨rfl, q_ldpW ag29 sz29 rfl (by repeat (first | exact .here | assumption | (apply HAt.left; assumption) | apply HAt.there | apply HAt.right)) (by first | rfl | assumption | (simp [*]; done) | fail) (by first | rfl | assumption | (simp [*]; done) | fail) (by decide)⟩) rfl ?_ | refine glq rfl (.inl ⟨rfl, q_ldW ag29 sz29 rfl (by first | rfl | assumption | (simp [*]; done) | fail)⟩) rfl ?_ | refine glq rfl (.inl ⟨rfl, q_ldpP ag29 sz29 rfl (by repeat (first | exact .here | assumption | (apply HAt.left; assumption) | apply HAt.there | apply HAt.right)) (by first | rfl | assumption | (simp [*]; done) | fail) (by first | decide | (simp; done) | omega | fail) (by decide) (by first | ((repeat constructor); done) | exact .same _)⟩) rfl ?_ | refine glq rfl (.inl ⟨rfl, q_ldP ag29 sz29 rfl (by first | decide | (simp; done) | omega | fail) (by first | ((repeat constructor); done) | exact .same _)⟩) rfl ?_
        refine glq rfl (.inl ⟨rfl, q_eqlA gd29 rfl rfl (by repeat constructor) (by repeat constructor) (fun w => eq29 w)⟩) rfl ?_
        (first | refine gld0 ?_ | refine gldA ?_)
        refine alist_nil ?_
        show AWP _ _ _ _
        refine awp_cond rfl (fun hc2 => ?_) (fun hc2 => ?_)
        · have hk : s.key = k := by
            have := hc2
            rw [keq] at this
            simpa using this
          rw [getS_some hr hs hk hall]
          refine awp_seq ?_
          refine awp_draw 13 [(0, false), (1, false), (2, false), (3, false), (4, false), (5, false), (6, false), (7, false), (8, false), (9, false), (10, false), (11, false), (12, false)] _ ([]) mixed (by kernel_rfl) (perm0 _) ?_
          refine glq rfl (.inl ⟨rfl, q_mv (by constructor)⟩) rfl ?_
          refine glq rfl (.inl ⟨rfl, q_mv (by constructor)⟩) rfl ?_
          first | refine glq rfl (.inl ⟨rfl, q_iaN Try.underlying38 sz40 (.inl rfl) rfl (by omega) (by first | rfl | assumption | (simp [*]; done) | fail) (by first | rfl | assumption | (simp [*]; done) | fail) (by decide) (by first | ((repeat constructor); done) | exact .same _)⟩) rfl ?_ | refine glq rfl (.inl ⟨rfl, q_iaS Try.underlying38 sz40 rfl (by repeat (first | exact .here | assumption | (apply HAt.left; assumption) | apply HAt.there | apply HAt.right)) rfl (by omega) (by omega) (by first | exact Nat.zero_add _ | rfl)⟩) rfl ?_ | refine glq rfl (.inl ⟨rfl, q_iaN Try.underlying38 sz40 (.inr rfl) rfl (by omega) (by first | rfl | assumption | (simp [*]; done) | fail) (by first | rfl | assumption | (simp [*]; done) | fail) (by decide) (by first | ((repeat constructor); done) | exact .same _)⟩) rfl ?_
          first | refine glq rfl (.inl ⟨rfl, q_ldpW ag40 sz40 rfl (by repeat (first | exact .here | assumption | (apply HAt.left; assumption) | apply HAt.there | apply HAt.right)) (by first | rfl | assumption | (simp [*]; done) | fail) (by first | rfl | assumption | (simp [*]; done) | fail) (by decide)⟩) rfl ?_ | refine glq rfl (.inl ⟨rfl, q_ldW ag40 sz40 rfl (by first | rfl | assumption | (simp [*]; done) | fail)⟩) rfl ?_ | refine glq rfl (.inl ⟨rfl, q_ldpP ag40 sz40 rfl (by repeat (first | exact .here | assumption | (apply HAt.left; assumption) | apply HAt.there | apply HAt.right)) (by first | rfl | assumption | (simp [*]; done) | fail) (by first | decide | (simp; done) | omega | fail) (by decide) (by first | ((repeat constructor); done) | exact .same _)⟩) rfl ?_ | refine glq rfl (.inl ⟨rfl, q_ldP ag40 sz40 rfl (by first | decide | (simp; done) | omega | fail) (by first | ((repeat constructor); done) | exact .same _)⟩) rfl ?_
          refine glq rfl (.inl ⟨rfl, q_mv (by constructor)⟩) rfl ?_
          refine glq rfl (.inl ⟨rfl, q_mv (by constructor)⟩) rfl ?_
          first | refine glq rfl (.inl ⟨rfl, q_iaN Try.underlying38 sz40 (.inl rfl) rfl (by omega) (by first | rfl | assumption | (simp [*]; done) | fail) (by first | rfl | assumption | (simp [*]; done) | fail) (by decide) (by first | ((repeat constructor); done) | exact .same _)⟩) rfl ?_ | refine glq rfl (.inl ⟨rfl, q_iaS Try.underlying38 sz40 rfl (by repeat (first | exact .here | assumption | (apply HAt.left; assumption) | apply HAt.there | apply HAt.right)) rfl (by omega) (by omega) (by first | exact Nat.zero_add _ | rfl)⟩) rfl ?_ | refine glq rfl (.inl ⟨rfl, q_iaN Try.underlying38 sz40 (.inr rfl) rfl (by omega) (by first | rfl | assumption | (simp [*]; done) | fail) (by first | rfl | assumption | (simp [*]; done) | fail) (by decide) (by first | ((repeat constructor); done) | exact .same _)⟩) rfl ?_
          first | refine glq rfl (.inl ⟨rfl, q_ldpW ag40 sz40 rfl (by repeat (first | exact .here | assumption | (apply HAt.left; assumption) | apply HAt.there | apply HAt.right)) (by first | rfl | assumption | (simp [*]; done) | fail) (by first | rfl | assumption | (simp [*]; done) | fail) (by decide)⟩) rfl ?_ | refine glq rfl (.inl ⟨rfl, q_ldW ag40 sz40 rfl (by first | rfl | assumption | (simp [*]; done) | fail)⟩) rfl ?_ | refine glq rfl (.inl ⟨rfl, q_ldpP ag40 sz40 rfl (by repeat (first | exact .here | assumption | (apply HAt.left; assumption) | apply HAt.there | apply HAt.right)) (by first | rfl | assumption | (simp [*]; done) | fail) (by first | decide | (simp; done) | omega | fail) (by decide) (by first | ((repeat constructor); done) | exact .same _)⟩) rfl ?_ | refine glq rfl (.inl ⟨rfl, q_ldP ag40 sz40 rfl (by first | decide | (simp; done) | omega | fail) (by first | ((repeat constructor); done) | exact .same _)⟩) rfl ?_
          refine glq rfl (.inl ⟨rfl, q_bs Try.underlying38 sz40 zr40 rfl (by first | ((repeat constructor); done) | exact .same _) rfl (by decide) (by repeat (first | exact BS.nil | (apply BS.cons; (· constructor); (· rfl); (· rfl); (· rfl); (· exact (by first | ((repeat constructor); done) | exact .same _)))))⟩) rfl ?_
          refine glq rfl (.inl ⟨rfl, q_mv (by constructor)⟩) rfl ?_
          first | refine glq rfl (.inl ⟨rfl, q_ldpW ag29 sz29 rfl (by repeat (first | exact .here | assumption | (apply HAt.left; assumption) | apply HAt.there | apply HAt.right)) (by first | rfl | assumption | (simp [*]; done) | fail) (by first | rfl | assumption | (simp [*]; done) | fail) (by decide)⟩) rfl ?_ | refine glq rfl (.inl ⟨rfl, q_ldW ag29 sz29 rfl (by first | rfl | assumption | (simp [*]; done) | fail)⟩) rfl ?_ | refine glq rfl (.inl ⟨rfl, q_ldpP ag29 sz29 rfl (by repeat (first | exact .here | assumption | (apply HAt.left; assumption) | apply HAt.there | apply HAt.right)) (by first | rfl | assumption | (simp [*]; done) | fail) (by first | decide | (simp; done) | omega | fail) (by decide) (by first | ((repeat constructor); done) | exact .same _)⟩) rfl ?_ | refine glq rfl (.inl ⟨rfl, q_ldP ag29 sz29 rfl (by first | decide | (simp; done) | omega | fail) (by first | ((repeat constructor); done) | exact .same _)⟩) rfl ?_
          first | refine glq rfl (.inl ⟨rfl, e_callN cb127 (without127_c l hl k _) rfl rfl⟩) rfl ?_ | refine glq rfl (.inl ⟨rfl, e_callN cb127 (ACall.arg (without127_c l hl k _) (by repeat (first | exact ArgL.nil | (apply ArgL.cons; (· first | exact .same | exact .cro | exact .nil))))) rfl rfl⟩) rfl ?_
          first | refine glq rfl (.inl ⟨rfl, q_apC Try.underlying38 sz40 by40 zr40 (.inl rfl) (by first | exact .ro | exact .cro | exact .nil | exact SV.slA (by repeat (first | exact .here | assumption | (apply HAt.left; assumption) | apply HAt.there | apply HAt.right)) (by first | rfl | (simp; done) | (simp; omega) | (simp [*]; done) | fail)) (by first | assumption | (intro c hc; simp at hc; subst hc; rfl) | (simp; done) | fail) (by first | assumption | (intro c hc; simp at hc; subst hc; rfl) | (simp; done) | fail) (by first | omega | decide | (simp; omega) | assumption | fail) (by decide) (by decide) rfl (by first | rfl | (simp; done) | fail)⟩) rfl ?_ | refine glq rfl (.inl ⟨rfl, q_apC Try.underlying38 sz40 by40 zr40 (.inr ⟨rfl, rfl⟩) (by first | exact .ro | exact .cro | exact .nil | exact SV.slA (by repeat (first | exact .here | assumption | (apply HAt.left; assumption) | apply HAt.there | apply HAt.right)) (by first | rfl | (simp; done) | (simp; omega) | (simp [*]; done) | fail)) (by first | assumption | (intro c hc; simp at hc; subst hc; rfl) | (simp; done) | fail) (by first | assumption | (intro c hc; simp at hc; subst hc; rfl) | (simp; done) | fail) (by first | omega | decide | (simp; omega) | assumption | fail) (by decide) (by decide) rfl (by first | rfl | (simp; done) | fail)⟩) rfl ?_
          (first | refine gld0 ?_ | refine gldA ?_)
          first | (refine aen rfl (e_stW sz40 rfl (by repeat (first | exact .here | assumption | (apply HAt.left; assumption) | apply HAt.there | apply HAt.right)) (by constructor) (by first | rfl | assumption | (simp [*]; done) | fail) rfl (by repeat (first | exact .here | apply HSet.there))) ?_; rintro _ _ ⟨rfl, rfl⟩) | (refine aen rfl (e_stP sz40 rfl (by repeat (first | exact .here | assumption | (apply HAt.left; assumption) | apply HAt.there | apply HAt.right)) (by first | rfl | assumption | (simp [*]; done) | fail) (by constructor) (by first | rfl | assumption | (simp [*]; done) | fail) rfl (by first | decide | omega) (by first | ((repeat constructor); done) | exact .same _) (by first | exact .one | exact .set) (by repeat (first | exact .here | apply HSet.there))) ?_; rintro _ _ ⟨rfl, rfl⟩)
          refine aqs rfl (q_as (by constructor)) rfl ?_
          refine aqs rfl (q_as (by constructor)) rfl ?_
          refine alist_nil ?_
          show AWP _ _ _ _
          refine awp_ret ?_
          repeat first | with_reducible refine then_ret ?_ | with_reducible refine blk_ret ?_
          apply retq (.inr rfl) (.cons (rok_A ag40 sz40 rfl (by repeat (first | exact .here | assumption | (apply HAt.left; assumption) | apply HAt.there | apply HAt.right)) (by rfl)) (.cons (rok_t rfl) (.cons (rok_t rfl) .nil)))
          rotate_left
          · exact ⟨rfl, rfl⟩
          repeat (first | exact List.Sublist.refl _ | exact List.nil_sublist _ | exact List.sublist_append_left _ _ | apply List.Sublist.cons)
        · have hk : ¬ s.key = k := by
            have := hc2
            rw [keq] at this
            simpa using this
          refine awp_skip ?_
          show AWP _ _ _ _
          refine awp_region ?_
          refine aqs rfl (q_mv (by constructor)) rfl ?_
          first | refine aqs rfl (q_add64 rfl rfl (by omega) (by omega)) rfl ?_ | refine aqs rfl (q_add rfl rfl) rfl ?_
          refine aqs rfl (q_as (by constructor)) rfl ?_
          refine alist_nil ?_
          show ∃ y, _ ∧ _ ∧ _
          refine ⟨i + 1, ⟨by omega, fun m t' hm ht' => ?_⟩, by omega, .mk' ⟨by rfl, rfl, rfl, rfl, rfl, rfl, trivial⟩ (by repeat (first | exact List.Sublist.refl _ | exact List.nil_sublist _ | exact List.sublist_append_left _ _ | (apply List.Sublist.cons_cons) | (apply List.Sublist.cons)))⟩
          by_cases hmj : m = i
          · subst hmj
            rw [hs] at ht'
            injection ht' with ht'
            subst ht'
            exact hk
          · exact hall m t' (by omega) ht'
      · simp only [decide_eq_false_iff_not, List.length_map] at hc1
        have hn : ∀ s ∈ l, ¬ s.key = k := fun s hs => by
          obtain ⟨j, hj⟩ := List.mem_iff_getElem?.1 hs
          exact hall j s (by have := (List.getElem?_eq_some_iff.1 hj).1; omega) hj
        rw [getS_none hr hn]
        refine awp_exit ?_
        show AWP _ _ _ _
        refine awp_seq ?_
        refine awp_region ?_
        refine aqs rfl (q_bd st40 zr40 (by first | ((repeat constructor); done) | exact .same _) (by repeat (first | exact BD.nil | (apply BD.cons; (· rfl); (· constructor); (· rfl); (· rfl); (· exact Nat.le_of_ble_eq_true (by rfl)); (· exact (by first | ((repeat constructor); done) | exact .same _)))))) rfl ?_
        first | (refine aen rfl (e_stW sz40 rfl (by repeat (first | exact .here | assumption | (apply HAt.left; assumption) | apply HAt.there | apply HAt.right)) (by constructor) (by first | rfl | assumption | (simp [*]; done) | fail) rfl (by repeat (first | exact .here | apply HSet.there))) ?_; rintro _ _ ⟨rfl, rfl⟩) | (refine aen rfl (e_stP sz40 rfl (by repeat (first | exact .here | assumption | (apply HAt.left; assumption) | apply HAt.there | apply HAt.right)) (by first | rfl | assumption | (simp [*]; done) | fail) (by constructor) (by first | rfl | assumption | (simp [*]; done) | fail) rfl (by first | decide | omega) (by first | ((repeat constructor); done) | exact .same _) (by first | exact .one | exact .set) (by repeat (first | exact .here | apply HSet.there))) ?_; rintro _ _ ⟨rfl, rfl⟩)
        refine aqs rfl (q_as (by constructor)) rfl ?_
        refine aqs rfl (q_as (by constructor)) rfl ?_
        refine alist_nil ?_
        show AWP _ _ _ _
        refine awp_nilro 5 rfl ?_
        show AWP _ _ _ _
        refine awp_ret ?_
        repeat first | with_reducible refine then_ret ?_ | with_reducible refine blk_ret ?_
        apply retq (.inr rfl) (.cons (rok_A ag40 sz40 rfl (by repeat (first | exact .here | assumption | (apply HAt.left; assumption) | apply HAt.there | apply HAt.right)) (by rfl)) (.cons (rok_t rfl) (.cons (rok_t rfl) .nil)))
        rotate_left
        · exact ⟨rfl, rfl⟩
        repeat (first | exact List.Sublist.refl _ | exact List.nil_sublist _ | exact List.sublist_append_left _ _ | apply List.Sublist.cons)

/-! ### Put -/
def clampN (n : Int) (m : Nat) : Nat := (min (max n 0) (m : Int)).toNat
theorem clampN_le (n : Int) (m : Nat) : clampN n m ≤ m := by unfold clampN; omega
def putS (l : List Slot) (n : Int) (s : Slot) : List Slot × List Slot × Int :=
  if rightB l = false then ([], [], 1) else
    ((s :: without l s.key).take (clampN n (s :: without l s.key).length), (s :: without l s.key).drop (clampN n (s :: without l s.key).length), 0)
def putA (g : List Slot × List Slot × Int) : AV := .tup [.ro (g.1.map Slot.cells), .ro (g.2.1.map Slot.cells), .lit (.int .i64 g.2.2)]
theorem putS_bad {l : List Slot} {n : Int} {s : Slot} (h : rightB l = false) : putS l n s = ([], [], 1) := by rw [putS, if_pos h]
theorem putS_ok {l : List Slot} {n : Int} {s : Slot} (h : ¬ rightB l = false) {r : List Slot} (hr : r = s :: without l s.key) : putS l n s = (r.take (clampN n r.length), r.drop (clampN n r.length), 0) := by rw [putS, if_neg h, hr]
set_option maxHeartbeats 2000000 in
theorem put58_c (l : List Slot) (hl : l.length ≤ 100000) (n : Int) (s : Slot) (H : Heap) : QCall Try.prog 58 [.ro (l.map Slot.cells), .lit (.int .i64 n), .agg s.cells] H (putA (putS l n s)) := by
  have hwl := without_len l s.key
  obtain ⟨r, hr⟩ : ∃ r, r = s :: without l s.key := ⟨_, rfl⟩
  have hrl : r.length ≤ 100001 := by rw [hr]; simp; omega
  have hlen := lenSlot r
  have hcl := clampN_le n r.length
  refine acall_intro (n := 31) (rvs := [.tmp 6, .tmp 7, .tmp 8]) Try.func58 rfl rfl rfl (Nat.le_of_ble_eq_true rfl) ?_
  refine awp_seq ?_
  refine awp_region ?_
  (refine aes rfl (e_bx (by constructor) rfl rfl) rfl ?_; rintro _ _ ⟨u5, rfl, rfl⟩)
  refine aqs rfl (q_as (by constructor)) rfl ?_
  refine aqs rfl (q_as (by constructor)) rfl ?_
  refine aqs rfl (q_as (by constructor)) rfl ?_
  refine alist_nil ?_
  show AWP _ _ _ _
  refine awp_seq ?_
  refine awp_seq ?_
  refine awp_region ?_
  refine aqs rfl (q_mv (by constructor)) rfl ?_
  first | refine aqs rfl (e_callN cb51 (right51_c l (by omega) _) rfl rfl) rfl ?_ | refine aqs rfl (e_callN cb51 (ACall.arg (right51_c l (by omega) _) (by repeat (first | exact ArgL.nil | (apply ArgL.cons; (· first | exact .same | exact .cro | exact .nil))))) rfl rfl) rfl ?_
  refine aqs rfl (q_not rfl) rfl ?_
  refine alist_nil ?_
  show AWP _ _ _ _
  refine awp_cond rfl (fun hc0 => ?_) (fun hc0 => ?_)
  · have hb : rightB l = false := by simpa using hc0
    rw [putS_bad hb]
    refine awp_seq ?_
    refine awp_region ?_
    refine aqs rfl (q_as (by constructor)) rfl ?_
    refine aqs rfl (q_as (by constructor)) rfl ?_
    refine aqs rfl (q_as (by constructor)) rfl ?_
    refine alist_nil ?_
    show AWP _ _ _ _
    refine awp_nilro 6 rfl ?_
    refine awp_nilro 7 rfl ?_
    show AWP _ _ _ _
    refine awp_ret ?_
    repeat first | with_reducible refine then_ret ?_ | with_reducible refine blk_ret ?_
    apply retq (.inr rfl) (.cons (rok_t rfl) (.cons (rok_t rfl) (.cons (rok_t rfl) .nil)))
    rotate_left
    · exact ⟨rfl, rfl⟩
    repeat (first | exact List.Sublist.refl _ | exact List.nil_sublist _ | exact List.sublist_append_left _ _ | apply List.Sublist.cons)
  · have hb : ¬ rightB l = false := by simpa using hc0
    rw [putS_ok hb hr]
    refine awp_skip ?_
    show AWP _ _ _ _
    refine awp_seq ?_
    refine awp_region ?_
    refine aqs rfl (q_mv (by constructor)) rfl ?_
    first | refine aqs rfl (q_ldpW ag40 sz40 rfl (by repeat (first | exact .here | assumption | (apply HAt.left; assumption) | apply HAt.there | apply HAt.right)) (by first | rfl | assumption | (simp [*]; done) | fail) (by first | rfl | assumption | (simp [*]; done) | fail) (by decide)) rfl ?_ | refine aqs rfl (q_ldW ag40 sz40 rfl (by first | rfl | assumption | (simp [*]; done) | fail)) rfl ?_ | refine aqs rfl (q_ldpP ag40 sz40 rfl (by repeat (first | exact .here | assumption | (apply HAt.left; assumption) | apply HAt.there | apply HAt.right)) (by first | rfl | assumption | (simp [*]; done) | fail) (by first | decide | (simp; done) | omega | fail) (by decide) (by first | ((repeat constructor); done) | exact .same _)) rfl ?_ | refine aqs rfl (q_ldP ag40 sz40 rfl (by first | decide | (simp; done) | omega | fail) (by first | ((repeat constructor); done) | exact .same _)) rfl ?_
    refine aqs rfl (q_fn (by first | ((repeat constructor); done) | exact .same _) (by first | ((repeat constructor); done) | exact .same _)) rfl ?_
    first | refine aqs rfl (castQ (r2 := .ro (r.map Slot.cells)) (e_callN cb125 (front125_c l (by omega) s (fun x => decide (x.key = s.key)) cb128 [.ptr u5 0 0] _ (fun t ht => clo128_c t s u5 _ (by repeat (first | exact .here | assumption | (apply HAt.left; assumption) | apply HAt.there | apply HAt.right)))) rfl rfl) (by rw [hr]; rfl)) rfl ?_ | refine aqs rfl (castQ (r2 := .ro (r.map Slot.cells)) (e_callN cb125 (ACall.arg (front125_c l (by omega) s (fun x => decide (x.key = s.key)) cb128 [.ptr u5 0 0] _ (fun t ht => clo128_c t s u5 _ (by repeat (first | exact .here | assumption | (apply HAt.left; assumption) | apply HAt.there | apply HAt.right)))) (by repeat (first | exact ArgL.nil | (apply ArgL.cons; (· first | exact .same | exact .cro | exact .nil))))) rfl rfl) (by rw [hr]; rfl)) rfl ?_
    refine aqs rfl (q_as (by constructor)) rfl ?_
    refine alist_nil ?_
    show AWP _ _ _ _
    refine awp_seq ?_
    refine awp_region ?_
    refine aqs rfl (q_mv (by constructor)) rfl ?_
    refine aqs rfl (q_max rfl rfl) rfl ?_
    refine aqs rfl (q_mv (by constructor)) rfl ?_
    first | refine aqs rfl (q_len Try.underlying38 .ro) rfl ?_ | refine aqs rfl (q_lenO Try.underlying38 rfl (by repeat (first | exact .here | assumption | (apply HAt.left; assumption) | apply HAt.there | apply HAt.right)) (by first | omega | (simp; done) | (simp; omega) | fail) (by first | exact Nat.sub_zero _ | rfl)) rfl ?_ | refine aqs rfl (q_len Try.underlying38 .nil) rfl ?_ | refine aqs rfl (q_len Try.underlying38 .cro) rfl ?_
    refine aqs rfl (castQ (r2 := .lit (.int .i64 (clampN n r.length : Nat))) (q_min rfl rfl) (by simp only [clampN, List.length_map]; congr 2; omega)) rfl ?_
    refine aqs rfl (q_as (by constructor)) rfl ?_
    refine alist_nil ?_
    show AWP _ _ _ _
    refine awp_seq ?_
    refine awp_draw 11 [(0, false), (1, false), (2, false), (4, false), (5, false), (6, false), (3, true), (7, true), (8, false), (9, false), (10, false)] _ ([]) mixed (by kernel_rfl) (perm0 _) ?_
    refine glq rfl (.inl ⟨rfl, q_mv (by constructor)⟩) rfl ?_
    refine glq rfl (.inl ⟨rfl, q_mv (by constructor)⟩) rfl ?_
    first | refine glq rfl (.inl ⟨rfl, castQ (r2 := .ro ((r.take (clampN n r.length)).map Slot.cells)) (q_slR Try.underlying38 sz40 (.inl rfl) rfl (by first | (refine ⟨_, _, rfl, ?_⟩; with_reducible rfl) | exact bnd_int rfl (by omega)) (by first | omega | (simp; done) | (simp; omega) | fail) (by first | omega | (simp; done) | (simp; omega) | fail) (by first | rfl | assumption | (simp [*]; done) | fail)) (by simp)⟩) rfl ?_ | refine glq rfl (.inl ⟨rfl, castQ (r2 := .ro ((r.take (clampN n r.length)).map Slot.cells)) (q_slO Try.underlying38 sz40 rfl (by repeat (first | exact .here | assumption | (apply HAt.left; assumption) | apply HAt.there | apply HAt.right)) rfl (by first | (refine ⟨_, _, rfl, ?_⟩; with_reducible rfl) | exact bnd_int rfl (by omega)) (by first | omega | (simp; done) | (simp; omega) | fail) (by first | omega | (simp; done) | (simp; omega) | fail) (by first | exact Nat.zero_add _ | rfl) (by first | exact Nat.zero_add _ | rfl)) (by simp)⟩) rfl ?_
    refine glq rfl (.inl ⟨rfl, q_mv (by constructor)⟩) rfl ?_
    refine glq rfl (.inl ⟨rfl, q_mv (by constructor)⟩) rfl ?_
    first | refine glq rfl (.inl ⟨rfl, castQ (r2 := .ro ((r.drop (clampN n r.length)).map Slot.cells)) (q_slR Try.underlying38 sz40 (.inl rfl) (by first | (refine ⟨_, _, rfl, ?_⟩; with_reducible rfl) | exact bnd_int rfl (by omega)) rfl (by first | omega | (simp; done) | (simp; omega) | fail) (by first | omega | (simp; done) | (simp; omega) | fail) (by first | rfl | assumption | (simp [*]; done) | fail)) (by simp; rw [← List.map_drop, List.take_of_length_le (by simp)])⟩) rfl ?_ | refine glq rfl (.inl ⟨rfl, castQ (r2 := .ro ((r.drop (clampN n r.length)).map Slot.cells)) (q_slO Try.underlying38 sz40 rfl (by repeat (first | exact .here | assumption | (apply HAt.left; assumption) | apply HAt.there | apply HAt.right)) (by first | (refine ⟨_, _, rfl, ?_⟩; with_reducible rfl) | exact bnd_int rfl (by omega)) rfl (by first | omega | (simp; done) | (simp; omega) | fail) (by first | omega | (simp; done) | (simp; omega) | fail) (by first | exact Nat.zero_add _ | rfl) (by first | exact Nat.zero_add _ | rfl)) (by simp; rw [← List.map_drop, List.take_of_length_le (by simp)])⟩) rfl ?_
    first | (refine gla rfl rfl (EOp.frame (e_callN cb129 (clone129_c (r.take (clampN n r.length)) (by simp; omega) _) rfl rfl)) rfl ?_; rintro _ _ ⟨ua, rfl, rfl⟩) | (refine gla rfl rfl (EOp.frame (e_callN cb129 (ACall.arg (clone129_c (r.take (clampN n r.length)) (by simp; omega) _) (by repeat (first | exact ArgL.nil | (apply ArgL.cons; (· first | exact .same | exact .cro | exact .nil))))) rfl rfl)) rfl ?_; rintro _ _ ⟨ua, rfl, rfl⟩)
    first | (refine gla rfl rfl (EOp.frame (e_callN cb129 (clone129_c (r.drop (clampN n r.length)) (by simp; omega) _) rfl rfl)) rfl ?_; rintro _ _ ⟨ub, rfl, rfl⟩) | (refine gla rfl rfl (EOp.frame (e_callN cb129 (ACall.arg (clone129_c (r.drop (clampN n r.length)) (by simp; omega) _) (by repeat (first | exact ArgL.nil | (apply ArgL.cons; (· first | exact .same | exact .cro | exact .nil))))) rfl rfl)) rfl ?_; rintro _ _ ⟨ub, rfl, rfl⟩)
    refine glq rfl (.inl ⟨rfl, q_as (by constructor)⟩) rfl ?_
    refine glq rfl (.inl ⟨rfl, q_as (by constructor)⟩) rfl ?_
    refine glq rfl (.inl ⟨rfl, q_as (by constructor)⟩) rfl ?_
    refine gldA ?_
    refine alist_nil ?_
    show AWP _ _ _ _
    refine awp_perm List.perm_append_comm ?_
    refine awp_pub (u := ua) (by repeat (first | exact .here | assumption | (apply HAt.left; assumption) | apply HAt.there | apply HAt.right)) (by repeat (first | exact PubT.nil | (apply PubT.cons; (· first | exact .one (pub_all (by first | rfl | (simp; done) | (simp; omega) | (simp [*]; done) | fail)) | exact .one .same)) | exact PubT.same)) (by repeat (first | exact PubH.drop .same | (apply PubH.cons; (· exact .same)))) ?_
    refine awp_pub (u := ub) (by repeat (first | exact .here | assumption | (apply HAt.left; assumption) | apply HAt.there | apply HAt.right)) (by repeat (first | exact PubT.nil | (apply PubT.cons; (· first | exact .one (pub_all (by first | rfl | (simp; done) | (simp; omega) | (simp [*]; done) | fail)) | exact .one .same)) | exact PubT.same)) (by repeat (first | exact PubH.drop .same | (apply PubH.cons; (· exact .same)))) ?_
    show AWP _ _ _ _
    refine awp_ret ?_
    repeat first | with_reducible refine then_ret ?_ | with_reducible refine blk_ret ?_
    apply retq (.inr rfl) (.cons (rok_t rfl) (.cons (rok_t rfl) (.cons (rok_t rfl) .nil)))
    rotate_left
    · exact ⟨rfl, rfl⟩
    repeat (first | exact List.Sublist.refl _ | exact List.nil_sublist _ | exact List.sublist_append_left _ _ | apply List.Sublist.cons)
end Go.Proofs.YtdlinfekifnmkaaAm
