/- The walk of HistTurned. Conditions: none. -/
import Derived.Test.YtdlinfekifnmkaaAmHistKeysWalk
set_option linter.unusedVariables false
set_option linter.unusedSimpArgs false
set_option maxRecDepth 20000
namespace Go.Proofs.YtdlinfekifnmkaaAm
open Go.Proofs
def turnF (m : Int) (j : Nat) (x : Call) : Call := ⟨x.put, j, x.key, x.val, x.has, x.frm * m, if 0 ≤ x.to then x.to * m else x.to⟩
theorem turn_to {m : Int} {x : Call} (hm : 1 ≤ m ∧ m ≤ 5) : 0 ≤ x.to ↔ 0 ≤ (if 0 ≤ x.to then x.to * m else x.to) := by
  have : m = 1 ∨ m = 2 ∨ m = 3 ∨ m = 4 ∨ m = 5 := by omega
  rcases this with rfl | rfl | rfl | rfl | rfl <;> (split <;> omega)
theorem turn_before {m : Int} {i j : Nat} {x y : Call} (hm : 1 ≤ m ∧ m ≤ 5) : before x y = true ↔ before (turnF m i x) (turnF m j y) = true := by
  have : m = 1 ∨ m = 2 ∨ m = 3 ∨ m = 4 ∨ m = 5 := by omega
  have e1 : before x y = true ↔ (0 ≤ x.to ∧ x.to < y.frm) := by simp [before]
  have e2 : before (turnF m i x) (turnF m j y) = true ↔ (0 ≤ (if 0 ≤ x.to then x.to * m else x.to) ∧ (if 0 ≤ x.to then x.to * m else x.to) < y.frm * m) := by
    show (decide (0 ≤ (if 0 ≤ x.to then x.to * m else x.to)) && decide ((if 0 ≤ x.to then x.to * m else x.to) < y.frm * m)) = true ↔ _
    rw [Bool.and_eq_true, decide_eq_true_eq, decide_eq_true_eq]
  rw [e1, e2]
  by_cases h : 0 ≤ x.to
  · rw [if_pos h]
    rcases this with rfl | rfl | rfl | rfl | rfl <;> omega
  · rw [if_neg h]
    omega
theorem linear_turn {c e : List Call} {r m : Int} (hm : 1 ≤ m ∧ m ≤ 5) (π σ : Nat → Nat) (hσ : ∀ i, i < c.length → σ i < e.length ∧ π (σ i) = i) (hπ : ∀ i, i < e.length → π i < c.length ∧ σ (π i) = i) (he : ∀ i, i < e.length → nth e i = turnF m i (nth c (π i))) : linear e r = linear c r := by
  refine bool_iff ⟨fun h => ?_, fun h => ?_⟩
  · refine linear_map π σ (Int.le_refl r) hσ hπ (fun i hi => by rw [he i hi]; rfl) (fun i hi => by rw [he i hi]; exact turn_to hm) (fun k i hk hi hb => ?_) h
    rw [he k hk, he i hi]
    exact (turn_before hm).1 hb
  · have he2 : ∀ i, i < c.length → nth e (σ i) = turnF m (σ i) (nth c i) := fun i hi => by rw [he _ (hσ i hi).1, (hσ i hi).2]
    refine linear_map σ π (Int.le_refl r) hπ hσ (fun i hi => by rw [he2 i hi]; rfl) (fun i hi => by rw [he2 i hi]; exact (turn_to hm).symm) (fun k i hk hi hb => ?_) h
    rw [he2 k hk, he2 i hi] at hb
    exact (turn_before hm).2 hb
theorem rot_nth (c : List Call) (k i : Nat) (hk : k ≤ c.length) (hi : i < c.length) : nth (c.drop k ++ c.take k) i = nth c (if i < c.length - k then i + k else i - (c.length - k)) := by
  by_cases h : i < c.length - k
  · rw [if_pos h, nth_app (by rw [List.length_drop]; exact h)]
    simp only [nth, List.getD_eq_getElem?_getD, List.getElem?_drop]
    rw [Nat.add_comm]
  · rw [if_neg h]
    obtain ⟨j, hj⟩ : ∃ j, i = (c.drop k).length + j := ⟨i - (c.length - k), by rw [List.length_drop]; omega⟩
    rw [List.length_drop] at hj
    rw [show i = (c.drop k).length + j by rw [List.length_drop]; exact hj, nth_app2]
    rw [show (c.drop k).length + j - (c.length - k) = j by rw [List.length_drop]; omega]
    simp only [nth, List.getD_eq_getElem?_getD]
    rw [List.getElem?_take_of_lt (by omega)]
set_option maxHeartbeats 8000000 in
theorem walkHistTurned (raw : List Quad) (room turn stretch : Int) (wraw : (∀ y ∈ raw, y.Wf) ∧ raw.length ≤ 9223372036854775807) (wroom : -9223372036854775808 ≤ room ∧ room ≤ 9223372036854775807) (wturn : -9223372036854775808 ≤ turn ∧ turn ≤ 9223372036854775807) (wstretch : -9223372036854775808 ≤ stretch ∧ stretch ≤ 9223372036854775807) :
    QCall Try.prog 24 [.ro (raw.map Quad.cells), .lit (.int .i64 room), .lit (.int .i64 turn), .lit (.int .i64 stretch)] [] (.lit (.bool true)) := by
  obtain ⟨c, hc⟩ : ∃ c, c = listOf raw 6 := ⟨_, rfl⟩
  have hcf : ∀ x ∈ c, Fine x := hc ▸ listOf_fine wraw.1 6
  have hcl : c.length ≤ 6 := hc ▸ listOf_len raw 6
  obtain ⟨r, hr⟩ : ∃ r, r = pick room 4 := ⟨_, rfl⟩
  have hk0 := pick_nonneg turn (c.length + 1) (by omega)
  have hk1 := pick_lt turn (c.length + 1) (by omega)
  obtain ⟨k, hk, hkl⟩ : ∃ k : Nat, (k : Int) = pick turn (c.length + 1) ∧ k ≤ c.length := ⟨(pick turn (c.length + 1)).toNat, by omega, by omega⟩
  have hs0 := pick_nonneg stretch 5 (by omega)
  have hs1 := pick_lt stretch 5 (by omega)
  obtain ⟨s, hs⟩ : ∃ s, s = pick stretch 5 := ⟨_, rfl⟩
  rw [← hs] at hs0 hs1
  obtain ⟨m, hm⟩ : ∃ m, m = 1 + s := ⟨_, rfl⟩
  have hm5 : 1 ≤ m ∧ m ≤ 5 := by omega
  have hcml : (c.map Call.cells).length = c.length := List.length_map ..
  obtain ⟨e, he⟩ : ∃ e, e = c.drop k ++ c.take k := ⟨_, rfl⟩
  have hel : e.length = c.length := by rw [he, List.length_append, List.length_drop, List.length_take]; omega
  have hef : ∀ x ∈ e, Fine x := by
    intro x hx
    rw [he] at hx
    rcases List.mem_append.1 hx with h | h
    · exact hcf x (List.mem_of_mem_drop h)
    · exact hcf x (List.mem_of_mem_take h)
  obtain ⟨d, hd⟩ : ∃ d, d = updC (turnF m) e e.length := ⟨_, rfl⟩
  have hdl : d.length = c.length := by rw [hd, upd_len, hel]
  have hdm : ∀ x ∈ d, mayC x = true := by
    intro x hx
    obtain ⟨j, hj, e1⟩ := upd_mem (hd ▸ hx)
    have h1 := hef _ (nth_mem hj)
    have h2 := h1.frm
    have h3 := h1.to
    have := bad_may x
    have hb : bad86 x = false := by
      rw [e1]
      generalize nth e j = y at h2 h3
      show ((decide (y.frm * m < 0) || decide ((if 0 ≤ y.to then y.to * m else y.to) < -1)) || (decide (0 ≤ (if 0 ≤ y.to then y.to * m else y.to)) && decide ((if 0 ≤ y.to then y.to * m else y.to) ≤ y.frm * m))) = false
      simp only [Bool.or_eq_false_iff, Bool.and_eq_false_iff, decide_eq_false_iff_not]
      have : m = 1 ∨ m = 2 ∨ m = 3 ∨ m = 4 ∨ m = 5 := by omega
      rcases this with h | h | h | h | h <;> rw [h] <;> (split <;> omega)
    rw [hb] at this
    simpa using this.symm
  have e1 : linearS c r = (linear c r, 0) := linS_all (fun x hx => (hcf x hx).may) (by omega)
  have e2 : linearS d r = (linear c r, 0) := by
    rw [linS_all hdm (by omega)]
    rw [linear_turn (c := c) (e := d) hm5 (fun i => if i < c.length - k then i + k else i - (c.length - k)) (fun i => if i < k then c.length - k + i else i - k) (fun i hi => by (try simp only); split <;> split <;> omega) (fun i hi => by (try simp only); split <;> split <;> omega)
      (fun i hi => by rw [hd, upd_end _ _ _ (by omega), he, rot_nth c k i hkl (by omega)])]
  have hlen := lenCall (c.drop k)
  have hone := oneCall (c.drop k)
  have hlen2 := lenCall (c.take k)
  have hone2 := oneCall (c.take k)
  have hes1 := app_many (c.drop k) (c.take k)
  rw [← he] at hes1
  have hml : ((c.drop k).map Call.cells).length - 0 + ((c.take k).map Call.cells).length = e.length := by rw [hel]; simp; omega
  refine acall_intro (n := 106) (rvs := [.tmp 8]) Try.func24 rfl rfl rfl (Nat.le_of_ble_eq_true rfl) ?_
  refine awp_seq ?_
  refine awp_region ?_
  refine aqs rfl (q_as (by constructor)) rfl ?_
  refine alist_nil ?_
  show AWP _ _ _ _
  refine awp_seq ?_
  refine awp_region ?_
  first | refine aqs rfl (e_callN cb78 (QCall.any _ awake78_c) rfl rfl) rfl ?_ | refine aqs rfl (e_callN cb78 (ACall.arg (QCall.any _ awake78_c) (by repeat (first | exact ArgL.nil | (apply ArgL.cons; (· first | exact .same | exact .cro | exact .nil))))) rfl rfl) rfl ?_
  refine aqs rfl (q_as (by constructor)) rfl ?_
  refine alist_nil ?_
  show AWP _ _ _ _
  refine awp_seq ?_
  refine awp_region ?_
  refine aqs rfl (q_mv (by constructor)) rfl ?_
  first | refine aqs rfl (e_callN cb83 (hc ▸ list83_c raw wraw.1 6 (by omega) _) rfl rfl) rfl ?_ | refine aqs rfl (e_callN cb83 (ACall.arg (hc ▸ list83_c raw wraw.1 6 (by omega) _) (by repeat (first | exact ArgL.nil | (apply ArgL.cons; (· first | exact .same | exact .cro | exact .nil))))) rfl rfl) rfl ?_
  refine aqs rfl (q_as (by constructor)) rfl ?_
  refine alist_nil ?_
  show AWP _ _ _ _
  refine awp_seq ?_
  refine awp_region ?_
  refine aqs rfl (q_mv (by constructor)) rfl ?_
  first | refine aqs rfl (e_callN cb84 (hr ▸ pick84_c _ _ wroom.1 wroom.2 (by omega) _) rfl rfl) rfl ?_ | refine aqs rfl (e_callN cb84 (ACall.arg (hr ▸ pick84_c _ _ wroom.1 wroom.2 (by omega) _) (by repeat (first | exact ArgL.nil | (apply ArgL.cons; (· first | exact .same | exact .cro | exact .nil))))) rfl rfl) rfl ?_
  refine aqs rfl (q_as (by constructor)) rfl ?_
  refine alist_nil ?_
  show AWP _ _ _ _
  refine awp_seq ?_
  refine awp_region ?_
  refine aqs rfl (q_mv (by constructor)) rfl ?_
  refine aqs rfl (q_mv (by constructor)) rfl ?_
  first | refine aqs rfl (castQ (r2 := .lit (.int .i64 (c.length : Nat))) (q_len Try.underlying90 .ro) (by rw [hcml])) rfl ?_ | refine aqs rfl (castQ (r2 := .lit (.int .i64 (c.length : Nat))) (q_lenO Try.underlying90 rfl (by repeat (first | exact .here | assumption | (apply HAt.left; assumption) | apply HAt.there | apply HAt.right)) (by first | omega | (simp; done) | (simp; omega) | fail) (by first | exact Nat.sub_zero _ | rfl)) (by rw [hcml])) rfl ?_ | refine aqs rfl (castQ (r2 := .lit (.int .i64 (c.length : Nat))) (q_len Try.underlying90 .nil) (by rw [hcml])) rfl ?_ | refine aqs rfl (castQ (r2 := .lit (.int .i64 (c.length : Nat))) (q_len Try.underlying90 .cro) (by rw [hcml])) rfl ?_
  first | refine aqs rfl (q_add64 rfl rfl (by omega) (by omega)) rfl ?_ | refine aqs rfl (q_add rfl rfl) rfl ?_
  first | refine aqs rfl (e_callN cb84 (hk ▸ pick84_c _ _ wturn.1 wturn.2 (by omega) _) rfl rfl) rfl ?_ | refine aqs rfl (e_callN cb84 (ACall.arg (hk ▸ pick84_c _ _ wturn.1 wturn.2 (by omega) _) (by repeat (first | exact ArgL.nil | (apply ArgL.cons; (· first | exact .same | exact .cro | exact .nil))))) rfl rfl) rfl ?_
  refine aqs rfl (q_as (by constructor)) rfl ?_
  refine alist_nil ?_
  show AWP _ _ _ _
  refine awp_seq ?_
  refine awp_draw 8 [(0, false), (1, false), (2, false), (4, false), (5, false), (6, false), (3, true), (7, true)] _ ([]) mixed (by kernel_rfl) (perm0 _) ?_
  refine glq rfl (.inl ⟨rfl, q_mv (by constructor)⟩) rfl ?_
  refine glq rfl (.inl ⟨rfl, q_mv (by constructor)⟩) rfl ?_
  first | refine glq rfl (.inl ⟨rfl, castQ (r2 := .ro ((c.drop k).map Call.cells)) (q_slR Try.underlying90 sz103 (.inl rfl) (by first | (refine ⟨_, _, rfl, ?_⟩; with_reducible rfl) | exact bnd_int rfl (by omega)) rfl (by first | omega | (simp; done) | (simp; omega) | fail) (by first | omega | (simp; done) | (simp; omega) | fail) (by first | rfl | assumption | (simp [*]; done) | fail)) (by rw [List.map_drop, List.take_of_length_le (by simp)])⟩) rfl ?_ | refine glq rfl (.inl ⟨rfl, castQ (r2 := .ro ((c.drop k).map Call.cells)) (q_slO Try.underlying90 sz103 rfl (by repeat (first | exact .here | assumption | (apply HAt.left; assumption) | apply HAt.there | apply HAt.right)) (by first | (refine ⟨_, _, rfl, ?_⟩; with_reducible rfl) | exact bnd_int rfl (by omega)) rfl (by first | omega | (simp; done) | (simp; omega) | fail) (by first | omega | (simp; done) | (simp; omega) | fail) (by first | exact Nat.zero_add _ | rfl) (by first | exact Nat.zero_add _ | rfl)) (by rw [List.map_drop, List.take_of_length_le (by simp)])⟩) rfl ?_
  refine glq rfl (.inl ⟨rfl, q_mv (by constructor)⟩) rfl ?_
  refine glq rfl (.inl ⟨rfl, q_mv (by constructor)⟩) rfl ?_
  first | refine glq rfl (.inl ⟨rfl, castQ (r2 := .ro ((c.take k).map Call.cells)) (q_slR Try.underlying90 sz103 (.inl rfl) rfl (by first | (refine ⟨_, _, rfl, ?_⟩; with_reducible rfl) | exact bnd_int rfl (by omega)) (by first | omega | (simp; done) | (simp; omega) | fail) (by first | omega | (simp; done) | (simp; omega) | fail) (by first | rfl | assumption | (simp [*]; done) | fail)) (by rw [List.map_take]; rfl)⟩) rfl ?_ | refine glq rfl (.inl ⟨rfl, castQ (r2 := .ro ((c.take k).map Call.cells)) (q_slO Try.underlying90 sz103 rfl (by repeat (first | exact .here | assumption | (apply HAt.left; assumption) | apply HAt.there | apply HAt.right)) rfl (by first | (refine ⟨_, _, rfl, ?_⟩; with_reducible rfl) | exact bnd_int rfl (by omega)) (by first | omega | (simp; done) | (simp; omega) | fail) (by first | omega | (simp; done) | (simp; omega) | fail) (by first | exact Nat.zero_add _ | rfl) (by first | exact Nat.zero_add _ | rfl)) (by rw [List.map_take]; rfl)⟩) rfl ?_
  (refine gla rfl rfl (EOp.frame (e_apN Try.underlying90 sz103 by103 zr103 rfl (by first | exact .ro | exact .cro | exact .nil | exact SV.slA (by repeat (first | exact .here | assumption | (apply HAt.left; assumption) | apply HAt.there | apply HAt.right)) (by first | rfl | (simp; done) | (simp; omega) | (simp [*]; done) | fail)) (by first | assumption | (intro c hc; simp at hc; subst hc; rfl) | (simp; done) | fail) (by first | assumption | (intro c hc; simp at hc; subst hc; rfl) | (simp; done) | fail) (by first | (simp; done) | (simp; omega) | omega | fail) (by decide) (by decide) rfl rfl)) rfl ?_; rintro _ _ ⟨u33, rfl, rfl⟩)
  first | (refine gla rfl rfl (EOp.frame (e_apO Try.underlying90 sz103 by103 zr103 rfl (by repeat (first | exact .here | assumption | (apply HAt.left; assumption) | apply HAt.there | apply HAt.right)) (by first | exact Nat.le_refl _ | (simp; done) | fail) (by first | exact .ro | exact .cro | exact .nil | exact SV.slA (by repeat (first | exact .here | assumption | (apply HAt.left; assumption) | apply HAt.there | apply HAt.right)) (by first | rfl | (simp; done) | (simp; omega) | (simp [*]; done) | fail)) (by first | assumption | (intro c hc; simp at hc; subst hc; rfl) | (simp; done) | fail) (by first | assumption | (intro c hc; simp at hc; subst hc; rfl) | (simp; done) | fail) (by first | assumption | (intro c hc; simp at hc; subst hc; rfl) | (simp; done) | fail) (by first | (simp; done) | (simp; omega) | omega | fail) (by decide) (by decide) rfl (by exact hml) hes1 (fun v => (by repeat (first | exact .here | apply HSet.there))))) rfl ?_; rintro _ _ ⟨u37, rfl, rfl⟩) | (refine gla rfl rfl (EOp.frame (e_apN Try.underlying90 sz103 by103 zr103 rfl (by first | exact .ro | exact .cro | exact .nil | exact SV.slA (by repeat (first | exact .here | assumption | (apply HAt.left; assumption) | apply HAt.there | apply HAt.right)) (by first | rfl | (simp; done) | (simp; omega) | (simp [*]; done) | fail)) (by first | assumption | (intro c hc; simp at hc; subst hc; rfl) | (simp; done) | fail) (by first | assumption | (intro c hc; simp at hc; subst hc; rfl) | (simp; done) | fail) (by first | (simp; done) | (simp; omega) | omega | fail) (by decide) (by decide) rfl rfl)) rfl ?_; rintro _ _ ⟨u37, rfl, rfl⟩)
  refine gldA ?_
  refine aqs rfl (q_as (by constructor)) rfl ?_
  show AList _ _ _ _ ⟨_, _, [(u37, _)]⟩
  refine alist_nil ?_
  show AWP _ _ _ _
  refine awp_seq ?_
  refine awp_region ?_
  refine aqs rfl (q_mv (by constructor)) rfl ?_
  first | refine aqs rfl (e_callN cb84 (hs ▸ pick84_c _ _ wstretch.1 wstretch.2 (by omega) _) rfl rfl) rfl ?_ | refine aqs rfl (e_callN cb84 (ACall.arg (hs ▸ pick84_c _ _ wstretch.1 wstretch.2 (by omega) _) (by repeat (first | exact ArgL.nil | (apply ArgL.cons; (· first | exact .same | exact .cro | exact .nil))))) rfl rfl) rfl ?_
  first | refine aqs rfl (castQ (r2 := .lit (.int .i64 m)) (q_add64 rfl rfl (by omega) (by omega)) (by rw [hm])) rfl ?_ | refine aqs rfl (castQ (r2 := .lit (.int .i64 m)) (q_add rfl rfl) (by rw [hm])) rfl ?_
  refine aqs rfl (q_as (by constructor)) rfl ?_
  refine alist_nil ?_
  show AWP _ _ _ _
  refine awp_seq ?_
  refine awp_seq ?_
  refine awp_region ?_
  refine aqs rfl (q_as (by constructor)) rfl ?_
  refine alist_nil ?_
  show AWP _ _ _ _
  refine awp_block ?_
  rw [show e.map Call.cells = (updC (turnF m) e 0).map Call.cells by rw [upd_zero]]
  refine awp_loop_inv (fun i : Nat => ⟨[(15, .lit (.int .i64 i)), (14, .lit (.int .i64 m)), (13, .sl u37 0 e.length), (10, .ro (c.map Call.cells)), (11, .lit (.int .i64 r)), (9, .lit (.bool true))], 106, [(u37, .arr 103 7 ((updC (turnF m) e i).map Call.cells))]⟩) (fun i => i ≤ e.length) (fun i => e.length - i) 0 ?_ ?_ ?_
  · exact Nat.zero_le _
  · exact .mk' (by repeat (first | exact trivial | refine ⟨rfl, ?_⟩)) (by repeat (first | exact .refl _ | apply List.Sublist.cons_cons | apply List.Sublist.cons))
  · intro i hi
    have hul := upd_len (turnF m) e i
    refine awp_seq ?_
    refine awp_seq ?_
    refine awp_region ?_
    refine aqs rfl (q_mv (by constructor)) rfl ?_
    refine aqs rfl (q_mv (by constructor)) rfl ?_
    first | refine aqs rfl (q_len Try.underlying90 .ro) rfl ?_ | refine aqs rfl (q_lenO Try.underlying90 rfl (by repeat (first | exact .here | assumption | (apply HAt.left; assumption) | apply HAt.there | apply HAt.right)) (by first | omega | (simp; done) | (simp; omega) | fail) (by first | exact Nat.sub_zero _ | rfl)) rfl ?_ | refine aqs rfl (q_len Try.underlying90 .nil) rfl ?_ | refine aqs rfl (q_len Try.underlying90 .cro) rfl ?_
    refine aqs rfl (q_lss rfl rfl) rfl ?_
    refine alist_nil ?_
    show AWP _ _ _ _
    refine awp_cond rfl (fun hc0 => ?_) (fun hc0 => ?_)
    · simp only [decide_eq_true_eq] at hc0
      have hil : i < e.length := by omega
      obtain ⟨x, hx⟩ : ∃ x, x = nth e i := ⟨_, rfl⟩
      obtain ⟨tt, htt⟩ : ∃ tt, tt = if 0 ≤ x.to then x.to * m else x.to := ⟨_, rfl⟩
      have hxf := hef _ (nth_mem hil)
      rw [← hx] at hxf
      have hx1 := hxf.frm
      have hx2 := hxf.to
      have hb1 : -100 ≤ x.frm * m ∧ x.frm * m ≤ 100 ∧ -100 ≤ x.to * m ∧ x.to * m ≤ 100 := by
        have : m = 1 ∨ m = 2 ∨ m = 3 ∨ m = 4 ∨ m = 5 := by omega
        rcases this with h | h | h | h | h <;> rw [h] <;> omega
      have hq1 : ((updC (turnF m) e i).map Call.cells)[i]? = some [.lit (.bool x.put), .lit (.int .i64 x.who), .lit (.int .i64 x.key), .lit (.int .i64 x.val), .lit (.bool x.has), .lit (.int .i64 x.frm), .lit (.int .i64 x.to)] := by rw [hx]; exact upd_row (turnF m) e i hil
      have hq2 : (((updC (turnF m) e i).map Call.cells).set i [.lit (.bool x.put), .lit (.int .i64 x.who), .lit (.int .i64 x.key), .lit (.int .i64 x.val), .lit (.bool x.has), .lit (.int .i64 (x.frm * m)), .lit (.int .i64 x.to)])[i]? = some [.lit (.bool x.put), .lit (.int .i64 x.who), .lit (.int .i64 x.key), .lit (.int .i64 x.val), .lit (.bool x.has), .lit (.int .i64 (x.frm * m)), .lit (.int .i64 x.to)] := row_set (by rw [List.length_map, hul]; exact hil)
      have hq3 : (((updC (turnF m) e i).map Call.cells).set i [.lit (.bool x.put), .lit (.int .i64 x.who), .lit (.int .i64 x.key), .lit (.int .i64 x.val), .lit (.bool x.has), .lit (.int .i64 (x.frm * m)), .lit (.int .i64 tt)])[i]? = some [.lit (.bool x.put), .lit (.int .i64 x.who), .lit (.int .i64 x.key), .lit (.int .i64 x.val), .lit (.bool x.has), .lit (.int .i64 (x.frm * m)), .lit (.int .i64 tt)] := row_set (by rw [List.length_map, hul]; exact hil)
      have hst : (updC (turnF m) e (i + 1)).map Call.cells = (((updC (turnF m) e i).map Call.cells).set i [.lit (.bool x.put), .lit (.int .i64 x.who), .lit (.int .i64 x.key), .lit (.int .i64 x.val), .lit (.bool x.has), .lit (.int .i64 (x.frm * m)), .lit (.int .i64 tt)]).set i [.lit (.bool x.put), .lit (.int .i64 (i : Int)), .lit (.int .i64 x.key), .lit (.int .i64 x.val), .lit (.bool x.has), .lit (.int .i64 (x.frm * m)), .lit (.int .i64 tt)] := by
        rw [upd_rows (turnF m) e i hil, List.set_set, htt, hx]; rfl
      refine awp_skip ?_
      show AWP _ _ _ _
      refine awp_seq ?_
      refine awp_block ?_
      refine awp_seq ?_
      refine awp_region ?_
      refine aqs rfl (q_mv (by constructor)) rfl ?_
      refine aqs rfl (q_mv (by constructor)) rfl ?_
      refine aqs rfl (q_mv (by constructor)) rfl ?_
      refine aqs rfl (q_mv (by constructor)) rfl ?_
      first | refine aqs rfl (q_iaN Try.underlying90 sz103 (.inl rfl) rfl (by omega) (by first | rfl | assumption | (simp [*]; done) | fail) (by first | rfl | assumption | (simp [*]; done) | fail) (by decide) (by first | ((repeat constructor); done) | exact .same _)) rfl ?_ | refine aqs rfl (q_iaS Try.underlying90 sz103 rfl (by repeat (first | exact .here | assumption | (apply HAt.left; assumption) | apply HAt.there | apply HAt.right)) rfl (by omega) (by omega) (by first | exact Nat.zero_add _ | rfl)) rfl ?_ | refine aqs rfl (q_iaN Try.underlying90 sz103 (.inr rfl) rfl (by omega) (by first | rfl | assumption | (simp [*]; done) | fail) (by first | rfl | assumption | (simp [*]; done) | fail) (by decide) (by first | ((repeat constructor); done) | exact .same _)) rfl ?_
      first | refine aqs rfl (q_fapP fl103_5 (by decide) rfl rfl) rfl ?_ | refine aqs rfl (q_faP fl103_5 (by decide) rfl (by first | ((repeat constructor); done) | exact .same _)) rfl ?_
      first | refine aqs rfl (q_ldpN ag3 rfl (by repeat (first | exact .here | assumption | (apply HAt.left; assumption) | apply HAt.there | apply HAt.right)) (by first | rfl | assumption | (simp [*]; done) | fail) (by first | rfl | assumption | (simp [*]; done) | fail) (by constructor)) rfl ?_ | refine aqs rfl (q_ld1N ag3 rfl (by constructor)) rfl ?_
      refine aqs rfl (q_mv (by constructor)) rfl ?_
      first | refine aqs rfl (q_mul64 rfl rfl (by omega) (by omega)) rfl ?_ | refine aqs rfl (q_mul rfl rfl) rfl ?_
      first | refine aqs rfl (q_iaN Try.underlying90 sz103 (.inl rfl) rfl (by omega) (by first | rfl | assumption | (simp [*]; done) | fail) (by first | rfl | assumption | (simp [*]; done) | fail) (by decide) (by first | ((repeat constructor); done) | exact .same _)) rfl ?_ | refine aqs rfl (q_iaS Try.underlying90 sz103 rfl (by repeat (first | exact .here | assumption | (apply HAt.left; assumption) | apply HAt.there | apply HAt.right)) rfl (by omega) (by omega) (by first | exact Nat.zero_add _ | rfl)) rfl ?_ | refine aqs rfl (q_iaN Try.underlying90 sz103 (.inr rfl) rfl (by omega) (by first | rfl | assumption | (simp [*]; done) | fail) (by first | rfl | assumption | (simp [*]; done) | fail) (by decide) (by first | ((repeat constructor); done) | exact .same _)) rfl ?_
      first | refine aqs rfl (q_fapP fl103_5 (by decide) rfl rfl) rfl ?_ | refine aqs rfl (q_faP fl103_5 (by decide) rfl (by first | ((repeat constructor); done) | exact .same _)) rfl ?_
      first | (refine aen rfl (e_stW sz3 rfl (by repeat (first | exact .here | assumption | (apply HAt.left; assumption) | apply HAt.there | apply HAt.right)) (by constructor) (by first | rfl | assumption | (simp [*]; done) | fail) rfl (by repeat (first | exact .here | apply HSet.there))) ?_; rintro _ _ ⟨rfl, rfl⟩) | (refine aen rfl (e_stP sz3 rfl (by repeat (first | exact .here | assumption | (apply HAt.left; assumption) | apply HAt.there | apply HAt.right)) (by first | rfl | assumption | (simp [*]; done) | fail) (by constructor) (by first | rfl | assumption | (simp [*]; done) | fail) rfl (by first | decide | omega) (by first | ((repeat constructor); done) | exact .same _) (by first | exact .one | exact .set) (by repeat (first | exact .here | apply HSet.there))) ?_; rintro _ _ ⟨rfl, rfl⟩)
      refine alist_nil ?_
      show AWP _ _ _ _
      refine awp_join (fun _ : Unit => ⟨[(15, .lit (.int .i64 i)), (14, .lit (.int .i64 m)), (13, .sl u37 0 e.length), (10, .ro (c.map Call.cells)), (11, .lit (.int .i64 r)), (9, .lit (.bool true))], 106, [(u37, .arr 103 7 (((updC (turnF m) e i).map Call.cells).set i [.lit (.bool x.put), .lit (.int .i64 x.who), .lit (.int .i64 x.key), .lit (.int .i64 x.val), .lit (.bool x.has), .lit (.int .i64 (x.frm * m)), .lit (.int .i64 tt)]))]⟩) (fun _ => True) ?_ ?_
      · skip
        refine awp_seq ?_
        refine awp_region ?_
        refine aqs rfl (q_mv (by constructor)) rfl ?_
        refine aqs rfl (q_mv (by constructor)) rfl ?_
        first | refine aqs rfl (q_iaN Try.underlying90 sz103 (.inl rfl) rfl (by omega) (by first | rfl | assumption | (simp [*]; done) | fail) (by first | rfl | assumption | (simp [*]; done) | fail) (by decide) (by first | ((repeat constructor); done) | exact .same _)) rfl ?_ | refine aqs rfl (q_iaS Try.underlying90 sz103 rfl (by repeat (first | exact .here | assumption | (apply HAt.left; assumption) | apply HAt.there | apply HAt.right)) rfl (by omega) (by omega) (by first | exact Nat.zero_add _ | rfl)) rfl ?_ | refine aqs rfl (q_iaN Try.underlying90 sz103 (.inr rfl) rfl (by omega) (by first | rfl | assumption | (simp [*]; done) | fail) (by first | rfl | assumption | (simp [*]; done) | fail) (by decide) (by first | ((repeat constructor); done) | exact .same _)) rfl ?_
        first | refine aqs rfl (q_fapP fl103_6 (by decide) rfl rfl) rfl ?_ | refine aqs rfl (q_faP fl103_6 (by decide) rfl (by first | ((repeat constructor); done) | exact .same _)) rfl ?_
        first | refine aqs rfl (q_ldpN ag3 rfl (by repeat (first | exact .here | assumption | (apply HAt.left; assumption) | apply HAt.there | apply HAt.right)) (by first | rfl | assumption | (simp [*]; done) | fail) (by first | rfl | assumption | (simp [*]; done) | fail) (by constructor)) rfl ?_ | refine aqs rfl (q_ld1N ag3 rfl (by constructor)) rfl ?_
        refine aqs rfl (q_geq rfl rfl) rfl ?_
        refine alist_nil ?_
        show AWP _ _ _ _
        refine awp_cond rfl (fun hc1 => ?_) (fun hc1 => ?_)
        · have h1 : tt = x.to * m := by rw [htt, if_pos (by simpa using hc1)]
          have hjj : (((updC (turnF m) e i).map Call.cells).set i [.lit (.bool x.put), .lit (.int .i64 x.who), .lit (.int .i64 x.key), .lit (.int .i64 x.val), .lit (.bool x.has), .lit (.int .i64 (x.frm * m)), .lit (.int .i64 x.to)]).set i [.lit (.bool x.put), .lit (.int .i64 x.who), .lit (.int .i64 x.key), .lit (.int .i64 x.val), .lit (.bool x.has), .lit (.int .i64 (x.frm * m)), .lit (.int .i64 (x.to * m))] = ((updC (turnF m) e i).map Call.cells).set i [.lit (.bool x.put), .lit (.int .i64 x.who), .lit (.int .i64 x.key), .lit (.int .i64 x.val), .lit (.bool x.has), .lit (.int .i64 (x.frm * m)), .lit (.int .i64 tt)] := by rw [List.set_set, h1]
          refine awp_region ?_
          refine aqs rfl (q_mv (by constructor)) rfl ?_
          refine aqs rfl (q_mv (by constructor)) rfl ?_
          refine aqs rfl (q_mv (by constructor)) rfl ?_
          refine aqs rfl (q_mv (by constructor)) rfl ?_
          first | refine aqs rfl (q_iaN Try.underlying90 sz103 (.inl rfl) rfl (by omega) (by first | rfl | assumption | (simp [*]; done) | fail) (by first | rfl | assumption | (simp [*]; done) | fail) (by decide) (by first | ((repeat constructor); done) | exact .same _)) rfl ?_ | refine aqs rfl (q_iaS Try.underlying90 sz103 rfl (by repeat (first | exact .here | assumption | (apply HAt.left; assumption) | apply HAt.there | apply HAt.right)) rfl (by omega) (by omega) (by first | exact Nat.zero_add _ | rfl)) rfl ?_ | refine aqs rfl (q_iaN Try.underlying90 sz103 (.inr rfl) rfl (by omega) (by first | rfl | assumption | (simp [*]; done) | fail) (by first | rfl | assumption | (simp [*]; done) | fail) (by decide) (by first | ((repeat constructor); done) | exact .same _)) rfl ?_
          first | refine aqs rfl (q_fapP fl103_6 (by decide) rfl rfl) rfl ?_ | refine aqs rfl (q_faP fl103_6 (by decide) rfl (by first | ((repeat constructor); done) | exact .same _)) rfl ?_
          first | refine aqs rfl (q_ldpN ag3 rfl (by repeat (first | exact .here | assumption | (apply HAt.left; assumption) | apply HAt.there | apply HAt.right)) (by first | rfl | assumption | (simp [*]; done) | fail) (by first | rfl | assumption | (simp [*]; done) | fail) (by constructor)) rfl ?_ | refine aqs rfl (q_ld1N ag3 rfl (by constructor)) rfl ?_
          refine aqs rfl (q_mv (by constructor)) rfl ?_
          first | refine aqs rfl (q_mul64 rfl rfl (by omega) (by omega)) rfl ?_ | refine aqs rfl (q_mul rfl rfl) rfl ?_
          first | refine aqs rfl (q_iaN Try.underlying90 sz103 (.inl rfl) rfl (by omega) (by first | rfl | assumption | (simp [*]; done) | fail) (by first | rfl | assumption | (simp [*]; done) | fail) (by decide) (by first | ((repeat constructor); done) | exact .same _)) rfl ?_ | refine aqs rfl (q_iaS Try.underlying90 sz103 rfl (by repeat (first | exact .here | assumption | (apply HAt.left; assumption) | apply HAt.there | apply HAt.right)) rfl (by omega) (by omega) (by first | exact Nat.zero_add _ | rfl)) rfl ?_ | refine aqs rfl (q_iaN Try.underlying90 sz103 (.inr rfl) rfl (by omega) (by first | rfl | assumption | (simp [*]; done) | fail) (by first | rfl | assumption | (simp [*]; done) | fail) (by decide) (by first | ((repeat constructor); done) | exact .same _)) rfl ?_
          first | refine aqs rfl (q_fapP fl103_6 (by decide) rfl rfl) rfl ?_ | refine aqs rfl (q_faP fl103_6 (by decide) rfl (by first | ((repeat constructor); done) | exact .same _)) rfl ?_
          first | (refine aen rfl (e_stW sz3 rfl (by repeat (first | exact .here | assumption | (apply HAt.left; assumption) | apply HAt.there | apply HAt.right)) (by constructor) (by first | rfl | assumption | (simp [*]; done) | fail) rfl (by repeat (first | exact .here | apply HSet.there))) ?_; rintro _ _ ⟨rfl, rfl⟩) | (refine aen rfl (e_stP sz3 rfl (by repeat (first | exact .here | assumption | (apply HAt.left; assumption) | apply HAt.there | apply HAt.right)) (by first | rfl | assumption | (simp [*]; done) | fail) (by constructor) (by first | rfl | assumption | (simp [*]; done) | fail) rfl (by first | decide | omega) (by first | ((repeat constructor); done) | exact .same _) (by first | exact .one | exact .set) (by repeat (first | exact .here | apply HSet.there))) ?_; rintro _ _ ⟨rfl, rfl⟩)
          refine alist_nil ?_
          show ∃ y, _ ∧ _
          exact ⟨(), trivial, by simp only [← hjj]; exact .mk' ⟨by rfl, rfl, rfl, rfl, rfl, rfl, trivial⟩ (by repeat (first | exact List.Sublist.refl _ | exact List.nil_sublist _ | exact List.sublist_append_left _ _ | (apply List.Sublist.cons_cons) | (apply List.Sublist.cons)))⟩
        · have h1 : tt = x.to := by rw [htt, if_neg (by simpa using hc1)]
          have hjj : ((updC (turnF m) e i).map Call.cells).set i [.lit (.bool x.put), .lit (.int .i64 x.who), .lit (.int .i64 x.key), .lit (.int .i64 x.val), .lit (.bool x.has), .lit (.int .i64 (x.frm * m)), .lit (.int .i64 x.to)] = ((updC (turnF m) e i).map Call.cells).set i [.lit (.bool x.put), .lit (.int .i64 x.who), .lit (.int .i64 x.key), .lit (.int .i64 x.val), .lit (.bool x.has), .lit (.int .i64 (x.frm * m)), .lit (.int .i64 tt)] := by rw [h1]
          refine awp_skip ?_
          show ∃ y, _ ∧ _
          exact ⟨(), trivial, by simp only [← hjj]; exact .mk' ⟨by rfl, rfl, rfl, rfl, rfl, rfl, trivial⟩ (by repeat (first | exact List.Sublist.refl _ | exact List.nil_sublist _ | exact List.sublist_append_left _ _ | (apply List.Sublist.cons_cons) | (apply List.Sublist.cons)))⟩
      intro _ _
      show AWP _ _ _ ⟨_, _, _⟩
      refine awp_region ?_
      refine aqs rfl (q_mv (by constructor)) rfl ?_
      refine aqs rfl (q_mv (by constructor)) rfl ?_
      refine aqs rfl (q_mv (by constructor)) rfl ?_
      first | refine aqs rfl (q_iaN Try.underlying90 sz103 (.inl rfl) rfl (by omega) (by first | rfl | assumption | (simp [*]; done) | fail) (by first | rfl | assumption | (simp [*]; done) | fail) (by decide) (by first | ((repeat constructor); done) | exact .same _)) rfl ?_ | refine aqs rfl (q_iaS Try.underlying90 sz103 rfl (by repeat (first | exact .here | assumption | (apply HAt.left; assumption) | apply HAt.there | apply HAt.right)) rfl (by omega) (by omega) (by first | exact Nat.zero_add _ | rfl)) rfl ?_ | refine aqs rfl (q_iaN Try.underlying90 sz103 (.inr rfl) rfl (by omega) (by first | rfl | assumption | (simp [*]; done) | fail) (by first | rfl | assumption | (simp [*]; done) | fail) (by decide) (by first | ((repeat constructor); done) | exact .same _)) rfl ?_
      first | refine aqs rfl (q_fapP fl103_1 (by decide) rfl rfl) rfl ?_ | refine aqs rfl (q_faP fl103_1 (by decide) rfl (by first | ((repeat constructor); done) | exact .same _)) rfl ?_
      first | (refine aen rfl (e_stW sz3 rfl (by repeat (first | exact .here | assumption | (apply HAt.left; assumption) | apply HAt.there | apply HAt.right)) (by constructor) (by first | rfl | assumption | (simp [*]; done) | fail) rfl (by repeat (first | exact .here | apply HSet.there))) ?_; rintro _ _ ⟨rfl, rfl⟩) | (refine aen rfl (e_stP sz3 rfl (by repeat (first | exact .here | assumption | (apply HAt.left; assumption) | apply HAt.there | apply HAt.right)) (by first | rfl | assumption | (simp [*]; done) | fail) (by constructor) (by first | rfl | assumption | (simp [*]; done) | fail) rfl (by first | decide | omega) (by first | ((repeat constructor); done) | exact .same _) (by first | exact .one | exact .set) (by repeat (first | exact .here | apply HSet.there))) ?_; rintro _ _ ⟨rfl, rfl⟩)
      refine alist_nil ?_
      show AWP _ _ _ _
      refine awp_region ?_
      refine aqs rfl (q_mv (by constructor)) rfl ?_
      first | refine aqs rfl (q_add64 rfl rfl (by omega) (by omega)) rfl ?_ | refine aqs rfl (q_add rfl rfl) rfl ?_
      refine aqs rfl (q_as (by constructor)) rfl ?_
      refine alist_nil ?_
      show ∃ y, _ ∧ _ ∧ _
      exact ⟨i + 1, by omega, by omega, by simp only [hst]; exact .mk' ⟨by rfl, rfl, rfl, rfl, rfl, rfl, trivial⟩ (by repeat (first | exact List.Sublist.refl _ | exact List.nil_sublist _ | exact List.sublist_append_left _ _ | (apply List.Sublist.cons_cons) | (apply List.Sublist.cons)))⟩
    · simp only [decide_eq_false_iff_not] at hc0
      obtain rfl : i = e.length := by omega
      rw [← hd]
      refine awp_exit ?_
      show AWP _ _ _ _
      refine awp_seq ?_
      refine awp_region ?_
      refine aqs rfl (q_mv (by constructor)) rfl ?_
      refine aqs rfl (q_mv (by constructor)) rfl ?_
      first | refine aqs rfl (e_callN cb85 (e1 ▸ linear85_c c r (by omega) _) rfl rfl) rfl ?_ | refine aqs rfl (e_callN cb85 (ACall.arg (e1 ▸ linear85_c c r (by omega) _) (by repeat (first | exact ArgL.nil | (apply ArgL.cons; (· first | exact .same | exact .cro | exact .nil))))) rfl rfl) rfl ?_
      refine aqs rfl (q_mv (by constructor)) rfl ?_
      refine aqs rfl (q_ex rfl rfl (by constructor)) rfl ?_
      refine aqs rfl (q_ex rfl rfl (by constructor)) rfl ?_
      refine aqs rfl (q_as (by constructor)) rfl ?_
      refine aqs rfl (q_as (by constructor)) rfl ?_
      refine alist_nil ?_
      show AWP _ _ _ _
      refine awp_seq ?_
      show AWP _ _ _ _
      refine awp_pub (u := u37) (by repeat (first | exact .here | assumption | (apply HAt.left; assumption) | apply HAt.there | apply HAt.right)) (by repeat (first | exact PubT.nil | (apply PubT.cons; (· first | exact .one (pub_all (by first | rfl | (simp; done) | (simp; omega) | (simp [*]; done) | fail)) | exact .one .same)) | exact PubT.same)) (by repeat (first | exact PubH.drop .same | (apply PubH.cons; (· exact .same)))) ?_
      refine awp_region ?_
      refine aqs rfl (q_mv (by constructor)) rfl ?_
      refine aqs rfl (q_mv (by constructor)) rfl ?_
      first | refine aqs rfl (e_callN cb85 (e2 ▸ linear85_c d r (by omega) _) rfl rfl) rfl ?_ | refine aqs rfl (e_callN cb85 (ACall.arg (e2 ▸ linear85_c d r (by omega) _) (by repeat (first | exact ArgL.nil | (apply ArgL.cons; (· first | exact .same | exact .cro | exact .nil))))) rfl rfl) rfl ?_
      refine aqs rfl (q_mv (by constructor)) rfl ?_
      refine aqs rfl (q_ex rfl rfl (by constructor)) rfl ?_
      refine aqs rfl (q_ex rfl rfl (by constructor)) rfl ?_
      refine aqs rfl (q_as (by constructor)) rfl ?_
      refine aqs rfl (q_as (by constructor)) rfl ?_
      refine alist_nil ?_
      show AWP _ _ _ _
      refine awp_seq ?_
      refine awp_region ?_
      refine aqs rfl (q_mv (by constructor)) rfl ?_
      refine aqs rfl (q_mv (by constructor)) rfl ?_
      first | refine ans rfl rfl ?_ | refine aqs rfl (q_mv (by constructor)) rfl ?_
      refine aqs rfl (castT (q_eql rfl rfl) (by rfl)) rfl ?_
      first | refine aqs rfl (q_pickT rfl (by constructor)) rfl ?_ | refine aqs rfl (q_pickF rfl (by constructor)) rfl ?_
      refine aqs rfl (q_mv (by constructor)) rfl ?_
      first | refine ans rfl rfl ?_ | refine aqs rfl (q_mv (by constructor)) rfl ?_
      refine aqs rfl (castT (q_eql rfl rfl) (by rfl)) rfl ?_
      first | refine aqs rfl (q_pickT rfl (by constructor)) rfl ?_ | refine aqs rfl (q_pickF rfl (by constructor)) rfl ?_
      refine aqs rfl (q_mv (by constructor)) rfl ?_
      first | refine ans rfl rfl ?_ | refine aqs rfl (q_mv (by constructor)) rfl ?_
      first | refine ans rfl rfl ?_ | refine aqs rfl (q_mv (by constructor)) rfl ?_
      refine aqs rfl (castT (q_beql rfl rfl Try.underlying4) (by simp)) rfl ?_
      first | refine aqs rfl (q_pickT rfl (by constructor)) rfl ?_ | refine aqs rfl (q_pickF rfl (by constructor)) rfl ?_
      refine aqs rfl (q_as (by constructor)) rfl ?_
      refine alist_nil ?_
      show AWP _ _ _ _
      refine awp_ret ?_
      repeat first | with_reducible refine then_ret ?_ | with_reducible refine blk_ret ?_
      apply retq (.inr rfl) (.cons (rok_t rfl) .nil)
      rotate_left
      · exact ⟨rfl, rfl⟩
      repeat (first | exact List.Sublist.refl _ | exact List.nil_sublist _ | exact List.sublist_append_left _ _ | apply List.Sublist.cons)
end Go.Proofs.YtdlinfekifnmkaaAm
