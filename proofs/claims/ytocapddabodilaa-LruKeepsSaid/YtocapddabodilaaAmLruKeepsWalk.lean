/- The walk of LruKeeps. Conditions: none. -/
import Derived.Test.YtocapddabodilaaAmLruLaws
set_option linter.unusedVariables false
set_option linter.unusedSimpArgs false
set_option maxRecDepth 20000
namespace Go.Proofs.YtocapddabodilaaAm
open Go.Proofs
/-- How often t lies in r, but for what has the key of s. -/
def cntK (s t : Slot) (r : List Slot) : Nat := (r.filter fun x => decide (x = t) && !decide (t.key = s.key)).length
theorem cntK_next {s t : Slot} {l : List Slot} {j : Nat} {x : Slot} (h : l[j]? = some x) : cntK s t (l.take (j + 1)) = if x = t ∧ ¬ t.key = s.key then cntK s t (l.take j) + 1 else cntK s t (l.take j) := by
  rw [cntK, take_next h, List.filter_append]
  by_cases hx : x = t <;> by_cases hk : t.key = s.key <;> simp [hx, hk, cntK]
theorem cntK_le (s t : Slot) (l : List Slot) : cntK s t l ≤ l.length := List.length_filter_le _ _
theorem cntK_one {l : List Slot} {s t : Slot} (h : rightB l = true) (ht : t ∈ l) : (cntK s t (s :: without l s.key) = 1) ↔ ¬ t.key = s.key := by
  have hn := right_iff.1 h
  by_cases hk : t.key = s.key
  · have : cntK s t (s :: without l s.key) = 0 := by simp [cntK, hk]
    rw [this]; simp [hk]
  · have e : cntK s t (s :: without l s.key) = cntS t (s :: without l s.key) := by simp [cntK, cntS, hk]
    rw [e, cntS_one (keys_nodup (cons_nodup s hn)) (List.mem_cons_of_mem _ (List.mem_filter.2 ⟨ht, by simpa using hk⟩))]
    simp [hk]
set_option maxHeartbeats 8000000 in
theorem walkLruKeeps (b : List Int) (k n : Int) (wb : (∀ y ∈ b, (-9223372036854775808 ≤ y ∧ y ≤ 9223372036854775807)) ∧ b.length ≤ 9223372036854775807) (wk : -9223372036854775808 ≤ k ∧ k ≤ 9223372036854775807) (wn : -9223372036854775808 ≤ n ∧ n ≤ 9223372036854775807) :
    QCall Try.prog 11 [.ro (b.map cI), .lit (.int .i64 k), .lit (.int .i64 n)] [] (.lit (.bool true)) := by
  obtain ⟨l, hle, hll, hr⟩ : ∃ l : List Slot, l = listS b 9 (min b.length 30) ∧ l.length ≤ 30 ∧ rightB l = true := ⟨_, rfl, by have := listS_len b 9 (min b.length 30); omega, listS_right _ _ _⟩
  obtain ⟨s, hse⟩ : ∃ s, s = slotOf k ⟨#[110, 101, 119]⟩ := ⟨_, rfl⟩
  have hpn := pick_nonneg n 11 (by omega)
  have hpl := pick_lt n 11 (by omega)
  obtain ⟨w, hwe, hw⟩ : ∃ w : Int, w = pick n 11 - 1 ∧ (-1 ≤ w ∧ w ≤ 9) := ⟨_, rfl, by omega⟩
  obtain ⟨r, hre⟩ : ∃ r, r = s :: without l s.key := ⟨_, rfl⟩
  have hwl := without_len l s.key
  have hrl : r.length ≤ 31 := by rw [hre]; simp; omega
  obtain ⟨c, hce⟩ : ∃ c, c = clampN w r.length := ⟨_, rfl⟩
  have hcl : c ≤ r.length := by rw [hce]; exact clampN_le _ _
  have hcw : (c : Int) ≤ max w 0 := by rw [hce]; unfold clampN; omega
  have hpe : putS l w s = (r.take c, r.drop c, 0) := by rw [hce]; exact putS_ok (by rw [hr]; simp) hre
  have hlen1 := lenSlot (r.take c)
  have hlen2 := lenSlot (r.drop c)
  have hone1 := oneSlot (r.take c)
  have hone2 := oneSlot (r.drop c)
  have hrr : rightB r = true := by rw [hre]; exact right_iff.2 (cons_nodup s (right_iff.1 hr))
  have hh : c ≠ 0 → (r.take c)[0]? = some s := fun h => by rw [List.getElem?_take_of_lt (by omega), hre]; rfl
  have hall : ((r.take c).map Slot.cells).take ((r.take c).map Slot.cells).length ++ (r.drop c).map Slot.cells = r.map Slot.cells := by
    rw [List.take_of_length_le (Nat.le_refl _), ← List.map_append, List.take_append_drop]
  have hal : ((r.take c).map Slot.cells).length - 0 + ((r.drop c).map Slot.cells).length = r.length := by simp; omega
  by_cases hpos : 0 < w
  · have hc0 : c ≠ 0 := by rw [hce, hre]; unfold clampN; simp only [List.length_cons]; omega
    have hhd := get_map (f := Slot.cells) (hh hc0)
    have hln : (r.take c).length = c := by rw [List.length_take]; omega
    refine acall_intro (n := 121) (rvs := [.tmp 6]) Try.func11 rfl rfl rfl (Nat.le_of_ble_eq_true rfl) ?_
    refine awp_seq ?_
    refine awp_region ?_
    refine aqs rfl (q_as (by constructor)) rfl ?_
    refine alist_nil ?_
    show AWP _ _ _ _
    refine awp_seq ?_
    refine awp_region ?_
    first | refine aqs rfl (e_callN cb47 (awake47_c _) rfl rfl) rfl ?_ | refine aqs rfl (e_callN cb47 (ACall.arg (awake47_c _) (by repeat (first | exact ArgL.nil | (apply ArgL.cons; (· first | exact .same | exact .cro | exact .nil))))) rfl rfl) rfl ?_
    refine aqs rfl (q_as (by constructor)) rfl ?_
    refine alist_nil ?_
    show AWP _ _ _ _
    refine awp_seq ?_
    refine awp_region ?_
    refine aqs rfl (q_mv (by constructor)) rfl ?_
    first | refine aqs rfl (e_callN cb48 (hle ▸ list48_c b wb.1 9 _) rfl rfl) rfl ?_ | refine aqs rfl (e_callN cb48 (ACall.arg (hle ▸ list48_c b wb.1 9 _) (by repeat (first | exact ArgL.nil | (apply ArgL.cons; (· first | exact .same | exact .cro | exact .nil))))) rfl rfl) rfl ?_
    refine aqs rfl (q_as (by constructor)) rfl ?_
    refine alist_nil ?_
    show AWP _ _ _ _
    refine awp_seq ?_
    refine awp_region ?_
    refine aqs rfl (q_mv (by constructor)) rfl ?_
    first | refine aqs rfl (e_callN cb53 (hse ▸ slot53_c k ⟨#[110, 101, 119]⟩ wk.1 wk.2 _) rfl rfl) rfl ?_ | refine aqs rfl (e_callN cb53 (ACall.arg (hse ▸ slot53_c k ⟨#[110, 101, 119]⟩ wk.1 wk.2 _) (by repeat (first | exact ArgL.nil | (apply ArgL.cons; (· first | exact .same | exact .cro | exact .nil))))) rfl rfl) rfl ?_
    (refine aes rfl (e_al (xs := [.lit (.int .u64 0), .lit (.int .i64 0), .lit (.string ⟨#[]⟩), .lit (.string ⟨#[]⟩), .lit (.string ⟨#[]⟩)]) (k := 5) zr40 (.same _) rfl) rfl ?_; rintro _ _ ⟨u9, rfl, rfl⟩)
    first | (refine aen rfl (e_stW sz40 rfl (by repeat (first | exact .here | assumption | (apply HAt.left; assumption) | apply HAt.there | apply HAt.right)) (by constructor) (by first | rfl | assumption | (simp [*]; done) | fail) rfl (by repeat (first | exact .here | apply HSet.there))) ?_; rintro _ _ ⟨rfl, rfl⟩) | (refine aen rfl (e_stP sz40 rfl (by repeat (first | exact .here | assumption | (apply HAt.left; assumption) | apply HAt.there | apply HAt.right)) (by first | rfl | assumption | (simp [*]; done) | fail) (by constructor) (by first | rfl | assumption | (simp [*]; done) | fail) rfl (by first | decide | omega) (by first | ((repeat constructor); done) | exact .same _) (by first | exact .one | exact .set) (by repeat (first | exact .here | apply HSet.there))) ?_; rintro _ _ ⟨rfl, rfl⟩)
    refine alist_nil ?_
    show AWP _ _ _ _
    refine awp_seq ?_
    refine awp_region ?_
    refine aqs rfl (q_mv (by constructor)) rfl ?_
    first | refine aqs rfl (e_callN cb57 (pick57_c _ _ wn.1 wn.2 (by omega) _) rfl rfl) rfl ?_ | refine aqs rfl (e_callN cb57 (ACall.arg (pick57_c _ _ wn.1 wn.2 (by omega) _) (by repeat (first | exact ArgL.nil | (apply ArgL.cons; (· first | exact .same | exact .cro | exact .nil))))) rfl rfl) rfl ?_
    first | refine aqs rfl (castQ (r2 := .lit (.int .i64 w)) (q_sub64 rfl rfl (by omega) (by omega)) (by rw [hwe])) rfl ?_ | refine aqs rfl (castQ (r2 := .lit (.int .i64 w)) (q_sub rfl rfl) (by rw [hwe])) rfl ?_
    refine aqs rfl (q_as (by constructor)) rfl ?_
    refine alist_nil ?_
    show AWP _ _ _ _
    refine awp_seq ?_
    refine awp_region ?_
    refine aqs rfl (q_mv (by constructor)) rfl ?_
    refine aqs rfl (q_mv (by constructor)) rfl ?_
    first | refine aqs rfl (q_ldpW ag40 sz40 rfl (by repeat (first | exact .here | assumption | (apply HAt.left; assumption) | apply HAt.there | apply HAt.right)) (by first | rfl | assumption | (simp [*]; done) | fail) (by first | rfl | assumption | (simp [*]; done) | fail) (by decide)) rfl ?_ | refine aqs rfl (q_ldW ag40 sz40 rfl (by first | rfl | assumption | (simp [*]; done) | fail)) rfl ?_ | refine aqs rfl (q_ldpP ag40 sz40 rfl (by repeat (first | exact .here | assumption | (apply HAt.left; assumption) | apply HAt.there | apply HAt.right)) (by first | rfl | assumption | (simp [*]; done) | fail) (by first | decide | (simp; done) | omega | fail) (by decide) (by first | ((repeat constructor); done) | exact .same _)) rfl ?_ | refine aqs rfl (q_ldP ag40 sz40 rfl (by first | decide | (simp; done) | omega | fail) (by first | ((repeat constructor); done) | exact .same _)) rfl ?_
    first | refine aqs rfl (e_callN cb58 (hpe ▸ put58_c l (by omega) w s _) rfl rfl) rfl ?_ | refine aqs rfl (e_callN cb58 (ACall.arg (hpe ▸ put58_c l (by omega) w s _) (by repeat (first | exact ArgL.nil | (apply ArgL.cons; (· first | exact .same | exact .cro | exact .nil))))) rfl rfl) rfl ?_
    refine aqs rfl (q_mv (by constructor)) rfl ?_
    refine aqs rfl (q_ex rfl rfl (by constructor)) rfl ?_
    refine aqs rfl (q_ex rfl rfl (by constructor)) rfl ?_
    refine aqs rfl (q_ex rfl rfl (by constructor)) rfl ?_
    refine aqs rfl (q_as (by constructor)) rfl ?_
    refine aqs rfl (q_as (by constructor)) rfl ?_
    refine aqs rfl (q_as (by constructor)) rfl ?_
    refine alist_nil ?_
    show AWP _ _ _ _
    refine awp_seq ?_
    refine awp_seq ?_
    refine awp_draw 25 [(0, false), (1, false), (2, false), (3, false), (4, false), (5, false), (6, false), (7, false), (8, false), (9, false), (10, false), (11, false), (12, false), (13, false), (14, false), (15, false), (16, false), (17, false), (18, false), (19, false), (20, false), (21, false), (22, false), (23, false), (24, false)] _ ([]) mixed (by kernel_rfl) (perm0 _) ?_
    refine glq rfl (.inl ⟨rfl, q_mv (by constructor)⟩) rfl ?_
    refine glq rfl (.inl ⟨rfl, castF (q_neq rfl rfl) (by rfl)⟩) rfl ?_
    refine glq rfl (.inl ⟨rfl, q_mv (by constructor)⟩) rfl ?_
    first | refine glq rfl (.inl ⟨rfl, q_mv (by constructor)⟩) rfl ?_ | refine glq rfl (.inr ⟨rfl, rfl⟩) rfl ?_
    first | refine glq rfl (.inl ⟨rfl, q_len Try.underlying38 .ro⟩) rfl ?_ | refine glq rfl (.inl ⟨rfl, q_lenO Try.underlying38 rfl (by repeat (first | exact .here | assumption | (apply HAt.left; assumption) | apply HAt.there | apply HAt.right)) (by first | omega | (simp; done) | (simp; omega) | fail) (by first | exact Nat.sub_zero _ | rfl)⟩) rfl ?_ | refine glq rfl (.inl ⟨rfl, q_len Try.underlying38 .nil⟩) rfl ?_ | refine glq rfl (.inl ⟨rfl, q_len Try.underlying38 .cro⟩) rfl ?_ | refine glq rfl (.inr ⟨rfl, rfl⟩) rfl ?_
    first | refine glq rfl (.inl ⟨rfl, q_mv (by constructor)⟩) rfl ?_ | refine glq rfl (.inr ⟨rfl, rfl⟩) rfl ?_
    first | refine glq rfl (.inl ⟨rfl, q_max rfl rfl⟩) rfl ?_ | refine glq rfl (.inr ⟨rfl, rfl⟩) rfl ?_
    refine glq rfl (.inl ⟨rfl, castF (q_gtr rfl rfl) (by simp; omega)⟩) rfl ?_
    first | refine glq rfl (.inl ⟨rfl, q_pickT rfl (by constructor)⟩) rfl ?_ | refine glq rfl (.inl ⟨rfl, q_pickF rfl (by constructor)⟩) rfl ?_
    refine glq rfl (.inl ⟨rfl, q_mv (by constructor)⟩) rfl ?_
    first | refine glq rfl (.inl ⟨rfl, q_mv (by constructor)⟩) rfl ?_ | refine glq rfl (.inr ⟨rfl, rfl⟩) rfl ?_
    refine glq rfl (.inl ⟨rfl, castT (q_gtr rfl rfl) (by exact decide_eq_true hpos)⟩) rfl ?_
    first | refine glq rfl (.inl ⟨rfl, q_mv (by constructor)⟩) rfl ?_ | refine glq rfl (.inr ⟨rfl, rfl⟩) rfl ?_
    first | refine glq rfl (.inl ⟨rfl, q_mv (by constructor)⟩) rfl ?_ | refine glq rfl (.inr ⟨rfl, rfl⟩) rfl ?_
    first | refine glq rfl (.inl ⟨rfl, q_len Try.underlying38 .ro⟩) rfl ?_ | refine glq rfl (.inl ⟨rfl, q_lenO Try.underlying38 rfl (by repeat (first | exact .here | assumption | (apply HAt.left; assumption) | apply HAt.there | apply HAt.right)) (by first | omega | (simp; done) | (simp; omega) | fail) (by first | exact Nat.sub_zero _ | rfl)⟩) rfl ?_ | refine glq rfl (.inl ⟨rfl, q_len Try.underlying38 .nil⟩) rfl ?_ | refine glq rfl (.inl ⟨rfl, q_len Try.underlying38 .cro⟩) rfl ?_ | refine glq rfl (.inr ⟨rfl, rfl⟩) rfl ?_
    refine glq rfl (.inl ⟨rfl, castF (q_eql rfl rfl) (by exact decide_eq_false (by rw [List.length_map, hln]; omega))⟩) rfl ?_
    first | refine glq rfl (.inl ⟨rfl, q_mv (by constructor)⟩) rfl ?_ | refine glq rfl (.inr ⟨rfl, rfl⟩) rfl ?_
    first | refine glq rfl (.inl ⟨rfl, q_mv (by constructor)⟩) rfl ?_ | refine glq rfl (.inr ⟨rfl, rfl⟩) rfl ?_
    first | refine glq rfl (.inl ⟨rfl, q_iaN Try.underlying38 sz40 (.inl rfl) rfl (by omega) (by first | rfl | assumption | (simp [*]; done) | fail) (by first | rfl | assumption | (simp [*]; done) | fail) (by decide) (by first | ((repeat constructor); done) | exact .same _)⟩) rfl ?_ | refine glq rfl (.inl ⟨rfl, q_iaS Try.underlying38 sz40 rfl (by repeat (first | exact .here | assumption | (apply HAt.left; assumption) | apply HAt.there | apply HAt.right)) rfl (by omega) (by omega) (by first | exact Nat.zero_add _ | rfl)⟩) rfl ?_ | refine glq rfl (.inl ⟨rfl, q_iaN Try.underlying38 sz40 (.inr rfl) rfl (by omega) (by first | rfl | assumption | (simp [*]; done) | fail) (by first | rfl | assumption | (simp [*]; done) | fail) (by decide) (by first | ((repeat constructor); done) | exact .same _)⟩) rfl ?_ | refine glq rfl (.inr ⟨rfl, rfl⟩) rfl ?_
    first | refine glq rfl (.inl ⟨rfl, q_ldpW ag40 sz40 rfl (by repeat (first | exact .here | assumption | (apply HAt.left; assumption) | apply HAt.there | apply HAt.right)) (by first | rfl | assumption | (simp [*]; done) | fail) (by first | rfl | assumption | (simp [*]; done) | fail) (by decide)⟩) rfl ?_ | refine glq rfl (.inl ⟨rfl, q_ldW ag40 sz40 rfl (by first | rfl | assumption | (simp [*]; done) | fail)⟩) rfl ?_ | refine glq rfl (.inl ⟨rfl, q_ldpP ag40 sz40 rfl (by repeat (first | exact .here | assumption | (apply HAt.left; assumption) | apply HAt.there | apply HAt.right)) (by first | rfl | assumption | (simp [*]; done) | fail) (by first | decide | (simp; done) | omega | fail) (by decide) (by first | ((repeat constructor); done) | exact .same _)⟩) rfl ?_ | refine glq rfl (.inl ⟨rfl, q_ldP ag40 sz40 rfl (by first | decide | (simp; done) | omega | fail) (by first | ((repeat constructor); done) | exact .same _)⟩) rfl ?_ | refine glq rfl (.inr ⟨rfl, rfl⟩) rfl ?_
    first | refine glq rfl (.inl ⟨rfl, q_ldpW ag40 sz40 rfl (by repeat (first | exact .here | assumption | (apply HAt.left; assumption) | apply HAt.there | apply HAt.right)) (by first | rfl | assumption | (simp [*]; done) | fail) (by first | rfl | assumption | (simp [*]; done) | fail) (by decide)⟩) rfl ?_ | refine glq rfl (.inl ⟨rfl, q_ldW ag40 sz40 rfl (by first | rfl | assumption | (simp [*]; done) | fail)⟩) rfl ?_ | refine glq rfl (.inl ⟨rfl, q_ldpP ag40 sz40 rfl (by repeat (first | exact .here | assumption | (apply HAt.left; assumption) | apply HAt.there | apply HAt.right)) (by first | rfl | assumption | (simp [*]; done) | fail) (by first | decide | (simp; done) | omega | fail) (by decide) (by first | ((repeat constructor); done) | exact .same _)⟩) rfl ?_ | refine glq rfl (.inl ⟨rfl, q_ldP ag40 sz40 rfl (by first | decide | (simp; done) | omega | fail) (by first | ((repeat constructor); done) | exact .same _)⟩) rfl ?_ | refine glq rfl (.inr ⟨rfl, rfl⟩) rfl ?_
    refine glq rfl (.inl ⟨rfl, castF (q_neqA gd40 rfl rfl (by repeat constructor) (by repeat constructor) (fun w => eq40 w)) (by rw [seq_]; simp)⟩) rfl ?_
    first | refine glq rfl (.inl ⟨rfl, q_pickT rfl (by constructor)⟩) rfl ?_ | refine glq rfl (.inl ⟨rfl, q_pickF rfl (by constructor)⟩) rfl ?_ | refine glq rfl (.inr ⟨rfl, rfl⟩) rfl ?_
    first | refine glq rfl (.inl ⟨rfl, q_pickT rfl (by constructor)⟩) rfl ?_ | refine glq rfl (.inl ⟨rfl, q_pickF rfl (by constructor)⟩) rfl ?_ | refine glq rfl (.inr ⟨rfl, rfl⟩) rfl ?_
    first | refine glq rfl (.inl ⟨rfl, q_pickT rfl (by constructor)⟩) rfl ?_ | refine glq rfl (.inl ⟨rfl, q_pickF rfl (by constructor)⟩) rfl ?_
    (first | refine gld0 ?_ | refine gldA ?_)
    refine alist_nil ?_
    show AWP _ _ _ _
    refine awp_cond rfl (fun hc0 => ?_) (fun hc0 => ?_)
    · exfalso; first | (simp at hc0; done) | (simp at hc0; omega) | contradiction
    · try simp only [decide_eq_true_eq, decide_eq_false_iff_not, Bool.not_eq_true', Bool.not_eq_false', Bool.not_eq_eq_eq_not, Bool.not_true, Bool.not_false, beq_iff_eq, beq_eq_false_iff_ne, Int.not_lt, Int.not_le] at hc0
      refine awp_skip ?_
      show AWP _ _ _ _
      refine awp_seq ?_
      refine awp_region ?_
      refine aqs rfl (q_mv (by constructor)) rfl ?_
      first | (refine aes rfl (e_apO Try.underlying38 sz40 by40 zr40 rfl (by repeat (first | exact .here | assumption | (apply HAt.left; assumption) | apply HAt.there | apply HAt.right)) (by exact Nat.le_refl _) (by first | exact .ro | exact .cro | exact .nil | exact SV.slA (by repeat (first | exact .here | assumption | (apply HAt.left; assumption) | apply HAt.there | apply HAt.right)) (by first | rfl | (simp; done) | (simp; omega) | (simp [*]; done) | fail)) (by first | assumption | (intro c hc; simp at hc; subst hc; rfl) | (simp; done) | fail) (by first | assumption | (intro c hc; simp at hc; subst hc; rfl) | (simp; done) | fail) (by first | assumption | (intro c hc; simp at hc; subst hc; rfl) | (simp; done) | fail) (by first | omega | decide | (simp; omega) | fail) (by decide) (by decide) rfl (by exact hal) hall (fun v => (by repeat (first | exact .here | apply HSet.there)))) rfl ?_; rintro _ _ ⟨u60, rfl, rfl⟩) | (refine aes rfl (e_apN Try.underlying38 sz40 by40 zr40 rfl (by first | exact .ro | exact .cro | exact .nil | exact SV.slA (by repeat (first | exact .here | assumption | (apply HAt.left; assumption) | apply HAt.there | apply HAt.right)) (by first | rfl | (simp; done) | (simp; omega) | (simp [*]; done) | fail)) (by first | assumption | (intro c hc; simp at hc; subst hc; rfl) | (simp; done) | fail) (by first | assumption | (intro c hc; simp at hc; subst hc; rfl) | (simp; done) | fail) (by first | omega | decide | (simp; omega) | fail) (by decide) (by decide) rfl rfl) rfl ?_; rintro _ _ ⟨u60, rfl, rfl⟩)
      refine aqs rfl (q_mv (by constructor)) rfl ?_
      first | (refine aes rfl (e_apO Try.underlying38 sz40 by40 zr40 rfl (by repeat (first | exact .here | assumption | (apply HAt.left; assumption) | apply HAt.there | apply HAt.right)) (by exact Nat.le_refl _) (by first | exact .ro | exact .cro | exact .nil | exact SV.slA (by repeat (first | exact .here | assumption | (apply HAt.left; assumption) | apply HAt.there | apply HAt.right)) (by first | rfl | (simp; done) | (simp; omega) | (simp [*]; done) | fail)) (by first | assumption | (intro c hc; simp at hc; subst hc; rfl) | (simp; done) | fail) (by first | assumption | (intro c hc; simp at hc; subst hc; rfl) | (simp; done) | fail) (by first | assumption | (intro c hc; simp at hc; subst hc; rfl) | (simp; done) | fail) (by first | omega | decide | (simp; omega) | fail) (by decide) (by decide) rfl (by exact hal) hall (fun v => (by repeat (first | exact .here | apply HSet.there)))) rfl ?_; rintro _ _ ⟨u62, rfl, rfl⟩) | (refine aes rfl (e_apN Try.underlying38 sz40 by40 zr40 rfl (by first | exact .ro | exact .cro | exact .nil | exact SV.slA (by repeat (first | exact .here | assumption | (apply HAt.left; assumption) | apply HAt.there | apply HAt.right)) (by first | rfl | (simp; done) | (simp; omega) | (simp [*]; done) | fail)) (by first | assumption | (intro c hc; simp at hc; subst hc; rfl) | (simp; done) | fail) (by first | assumption | (intro c hc; simp at hc; subst hc; rfl) | (simp; done) | fail) (by first | omega | decide | (simp; omega) | fail) (by decide) (by decide) rfl rfl) rfl ?_; rintro _ _ ⟨u62, rfl, rfl⟩)
      refine aqs rfl (q_as (by constructor)) rfl ?_
      refine alist_nil ?_
      show AWP _ _ _ _
      refine awp_pub (u := u62) (by repeat (first | exact .here | assumption | (apply HAt.left; assumption) | apply HAt.there | apply HAt.right)) (by repeat (first | exact PubT.nil | (apply PubT.cons; (· first | exact .one (pub_all (by first | rfl | (simp; done) | (simp; omega) | (simp [*]; done) | fail)) | exact .one .same)) | exact PubT.same)) (by repeat (first | exact PubH.drop .same | (apply PubH.cons; (· exact .same)))) ?_
      show AWP _ _ _ _
      refine awp_seq ?_
      refine awp_seq ?_
      refine awp_region ?_
      refine aqs rfl (q_as (by constructor)) rfl ?_
      refine alist_nil ?_
      show AWP _ _ _ _
      refine awp_block ?_
      refine awp_loop_inv (fun i : Nat => ⟨[(15, .lit (.int .i64 i)), (8, .ro (l.map Slot.cells)), (14, .ro (r.map Slot.cells)), (9, .ptr u9 0 0), (7, .lit (.bool true)), (10, .lit (.int .i64 w)), (11, .ro ((r.take c).map Slot.cells))], 121, [(u9, .arr 40 5 [s.cells])]⟩) (fun i => i ≤ l.length) (fun i => l.length - i) 0 ?_ ?_ ?_
      · omega
      · exact .mk' (by repeat (first | exact trivial | refine ⟨rfl, ?_⟩)) (by repeat (first | exact .refl _ | apply List.Sublist.cons_cons | apply List.Sublist.cons))
      · intro i hi
        refine awp_seq ?_
        refine awp_seq ?_
        refine awp_region ?_
        refine aqs rfl (q_mv (by constructor)) rfl ?_
        refine aqs rfl (q_mv (by constructor)) rfl ?_
        first | refine aqs rfl (q_len Try.underlying38 .ro) rfl ?_ | refine aqs rfl (q_lenO Try.underlying38 rfl (by repeat (first | exact .here | assumption | (apply HAt.left; assumption) | apply HAt.there | apply HAt.right)) (by first | omega | (simp; done) | (simp; omega) | fail) (by first | exact Nat.sub_zero _ | rfl)) rfl ?_ | refine aqs rfl (q_len Try.underlying38 .nil) rfl ?_ | refine aqs rfl (q_len Try.underlying38 .cro) rfl ?_
        refine aqs rfl (q_lss rfl rfl) rfl ?_
        refine alist_nil ?_
        show AWP _ _ _ _
        refine awp_cond rfl (fun hc1 => ?_) (fun hc1 => ?_)
        · simp only [decide_eq_true_eq, List.length_map] at hc1
          obtain ⟨t, ht, htm⟩ := get_lt (l := l) (i := i) (by omega)
          have ht2 := get_map (f := Slot.cells) ht
          refine awp_skip ?_
          show AWP _ _ _ _
          refine awp_seq ?_
          refine awp_block ?_
          refine awp_seq ?_
          refine awp_region ?_
          refine aqs rfl (q_as (by constructor)) rfl ?_
          refine alist_nil ?_
          show AWP _ _ _ _
          refine awp_seq ?_
          refine awp_seq ?_
          refine awp_region ?_
          refine aqs rfl (q_as (by constructor)) rfl ?_
          refine alist_nil ?_
          show AWP _ _ _ _
          refine awp_block ?_
          refine awp_loop_inv (fun j : Nat => ⟨[(17, .lit (.int .i64 j)), (16, .lit (.int .i64 (cntK s t (r.take j)))), (15, .lit (.int .i64 i)), (8, .ro (l.map Slot.cells)), (14, .ro (r.map Slot.cells)), (9, .ptr u9 0 0), (7, .lit (.bool true)), (10, .lit (.int .i64 w)), (11, .ro ((r.take c).map Slot.cells))], 121, [(u9, .arr 40 5 [s.cells])]⟩) (fun j => j ≤ r.length) (fun j => r.length - j) 0 ?_ ?_ ?_
          · omega
          · exact .mk' (by repeat (first | exact trivial | refine ⟨rfl, ?_⟩)) (by repeat (first | exact .refl _ | apply List.Sublist.cons_cons | apply List.Sublist.cons))
          · intro j hj
            have hcn := cntK_le s t (r.take j)
            have htl : (r.take j).length = j := by rw [List.length_take]; omega
            refine awp_seq ?_
            refine awp_seq ?_
            refine awp_region ?_
            refine aqs rfl (q_mv (by constructor)) rfl ?_
            refine aqs rfl (q_mv (by constructor)) rfl ?_
            first | refine aqs rfl (q_len Try.underlying38 .ro) rfl ?_ | refine aqs rfl (q_lenO Try.underlying38 rfl (by repeat (first | exact .here | assumption | (apply HAt.left; assumption) | apply HAt.there | apply HAt.right)) (by first | omega | (simp; done) | (simp; omega) | fail) (by first | exact Nat.sub_zero _ | rfl)) rfl ?_ | refine aqs rfl (q_len Try.underlying38 .nil) rfl ?_ | refine aqs rfl (q_len Try.underlying38 .cro) rfl ?_
            refine aqs rfl (q_lss rfl rfl) rfl ?_
            refine alist_nil ?_
            show AWP _ _ _ _
            refine awp_cond rfl (fun hc2 => ?_) (fun hc2 => ?_)
            · simp only [decide_eq_true_eq, List.length_map] at hc2
              obtain ⟨y, hy, hym⟩ := get_lt (l := r) (i := j) (by omega)
              have hy2 := get_map (f := Slot.cells) hy
              have hnx := cntK_next (s := s) (t := t) hy
              refine awp_skip ?_
              show AWP _ _ _ _
              refine awp_seq ?_
              refine awp_block ?_
              refine awp_mid [(93, .lit (.bool (decide (y = t) && !decide (t.key = s.key)))), (17, .lit (.int .i64 j)), (16, .lit (.int .i64 (cntK s t (r.take j)))), (15, .lit (.int .i64 i)), (8, .ro (l.map Slot.cells)), (14, .ro (r.map Slot.cells)), (9, .ptr u9 0 0), (7, .lit (.bool true)), (10, .lit (.int .i64 w)), (11, .ro ((r.take c).map Slot.cells))] ?_ ?_
              · skip
                refine awp_draw 19 [(0, false), (1, false), (2, false), (3, false), (4, false), (5, false), (6, false), (7, false), (8, false), (9, false), (10, false), (11, false), (12, false), (13, false), (14, false), (15, false), (16, false), (17, false), (18, false)] _ ([]) mixed (by kernel_rfl) (perm0 _) ?_
                all_goals (refine glq rfl (.inl ⟨rfl, q_mv (by constructor)⟩) rfl ?_)
                all_goals (refine glq rfl (.inl ⟨rfl, q_mv (by constructor)⟩) rfl ?_)
                all_goals (first | refine glq rfl (.inl ⟨rfl, q_iaN Try.underlying38 sz40 (.inl rfl) rfl (by omega) (by first | rfl | assumption | (simp [*]; done) | fail) (by first | rfl | assumption | (simp [*]; done) | fail) (by decide) (by first | ((repeat constructor); done) | exact .same _)⟩) rfl ?_ | refine glq rfl (.inl ⟨rfl, q_iaS Try.underlying38 sz40 rfl (by repeat (first | exact .here | assumption | (apply HAt.left; assumption) | apply HAt.there | apply HAt.right)) rfl (by omega) (by omega) (by first | exact Nat.zero_add _ | rfl)⟩) rfl ?_ | refine glq rfl (.inl ⟨rfl, q_iaN Try.underlying38 sz40 (.inr rfl) rfl (by omega) (by first | rfl | assumption | (simp [*]; done) | fail) (by first | rfl | assumption | (simp [*]; done) | fail) (by decide) (by first | ((repeat constructor); done) | exact .same _)⟩) rfl ?_)
                all_goals (first | refine glq rfl (.inl ⟨rfl, q_ldpW ag40 sz40 rfl (by repeat (first | exact .here | assumption | (apply HAt.left; assumption) | apply HAt.there | apply HAt.right)) (by first | rfl | assumption | (simp [*]; done) | fail) (by first | rfl | assumption | (simp [*]; done) | fail) (by decide)⟩) rfl ?_ | refine glq rfl (.inl ⟨rfl, q_ldW ag40 sz40 rfl (by first | rfl | assumption | (simp [*]; done) | fail)⟩) rfl ?_ | refine glq rfl (.inl ⟨rfl, q_ldpP ag40 sz40 rfl (by repeat (first | exact .here | assumption | (apply HAt.left; assumption) | apply HAt.there | apply HAt.right)) (by first | rfl | assumption | (simp [*]; done) | fail) (by first | decide | (simp; done) | omega | fail) (by decide) (by first | ((repeat constructor); done) | exact .same _)⟩) rfl ?_ | refine glq rfl (.inl ⟨rfl, q_ldP ag40 sz40 rfl (by first | decide | (simp; done) | omega | fail) (by first | ((repeat constructor); done) | exact .same _)⟩) rfl ?_)
                all_goals (refine glq rfl (.inl ⟨rfl, q_mv (by constructor)⟩) rfl ?_)
                all_goals (refine glq rfl (.inl ⟨rfl, q_mv (by constructor)⟩) rfl ?_)
                all_goals (first | refine glq rfl (.inl ⟨rfl, q_iaN Try.underlying38 sz40 (.inl rfl) rfl (by omega) (by first | rfl | assumption | (simp [*]; done) | fail) (by first | rfl | assumption | (simp [*]; done) | fail) (by decide) (by first | ((repeat constructor); done) | exact .same _)⟩) rfl ?_ | refine glq rfl (.inl ⟨rfl, q_iaS Try.underlying38 sz40 rfl (by repeat (first | exact .here | assumption | (apply HAt.left; assumption) | apply HAt.there | apply HAt.right)) rfl (by omega) (by omega) (by first | exact Nat.zero_add _ | rfl)⟩) rfl ?_ | refine glq rfl (.inl ⟨rfl, q_iaN Try.underlying38 sz40 (.inr rfl) rfl (by omega) (by first | rfl | assumption | (simp [*]; done) | fail) (by first | rfl | assumption | (simp [*]; done) | fail) (by decide) (by first | ((repeat constructor); done) | exact .same _)⟩) rfl ?_)
                all_goals (first | refine glq rfl (.inl ⟨rfl, q_ldpW ag40 sz40 rfl (by repeat (first | exact .here | assumption | (apply HAt.left; assumption) | apply HAt.there | apply HAt.right)) (by first | rfl | assumption | (simp [*]; done) | fail) (by first | rfl | assumption | (simp [*]; done) | fail) (by decide)⟩) rfl ?_ | refine glq rfl (.inl ⟨rfl, q_ldW ag40 sz40 rfl (by first | rfl | assumption | (simp [*]; done) | fail)⟩) rfl ?_ | refine glq rfl (.inl ⟨rfl, q_ldpP ag40 sz40 rfl (by repeat (first | exact .here | assumption | (apply HAt.left; assumption) | apply HAt.there | apply HAt.right)) (by first | rfl | assumption | (simp [*]; done) | fail) (by first | decide | (simp; done) | omega | fail) (by decide) (by first | ((repeat constructor); done) | exact .same _)⟩) rfl ?_ | refine glq rfl (.inl ⟨rfl, q_ldP ag40 sz40 rfl (by first | decide | (simp; done) | omega | fail) (by first | ((repeat constructor); done) | exact .same _)⟩) rfl ?_)
                all_goals (refine glq rfl (.inl ⟨rfl, castQ (r2 := .lit (.bool (decide (y = t)))) (q_eqlA gd40 rfl rfl (by repeat constructor) (by repeat constructor) (fun w => eq40 w)) (by exact congrArg (fun b => AV.lit (.bool b)) (seq_ y t))⟩) rfl ?_)
                all_goals (refine glq rfl (.inl ⟨rfl, q_mv (by constructor)⟩) rfl ?_)
                all_goals try (refine gcase (fun hb9 => ?_) (fun hb9 => ?_))
                all_goals first | (exfalso; cases hb9; done) | skip
                all_goals (first | refine glq rfl (.inl ⟨rfl, q_mv (by constructor)⟩) rfl ?_ | refine glq rfl (.inr ⟨rfl, rfl⟩) rfl ?_)
                all_goals (first | refine glq rfl (.inl ⟨rfl, q_mv (by constructor)⟩) rfl ?_ | refine glq rfl (.inr ⟨rfl, rfl⟩) rfl ?_)
                all_goals (first | refine glq rfl (.inl ⟨rfl, q_iaN Try.underlying38 sz40 (.inl rfl) rfl (by omega) (by first | rfl | assumption | (simp [*]; done) | fail) (by first | rfl | assumption | (simp [*]; done) | fail) (by decide) (by first | ((repeat constructor); done) | exact .same _)⟩) rfl ?_ | refine glq rfl (.inl ⟨rfl, q_iaS Try.underlying38 sz40 rfl (by repeat (first | exact .here | assumption | (apply HAt.left; assumption) | apply HAt.there | apply HAt.right)) rfl (by omega) (by omega) (by first | exact Nat.zero_add _ | rfl)⟩) rfl ?_ | refine glq rfl (.inl ⟨rfl, q_iaN Try.underlying38 sz40 (.inr rfl) rfl (by omega) (by first | rfl | assumption | (simp [*]; done) | fail) (by first | rfl | assumption | (simp [*]; done) | fail) (by decide) (by first | ((repeat constructor); done) | exact .same _)⟩) rfl ?_ | refine glq rfl (.inr ⟨rfl, rfl⟩) rfl ?_)
                all_goals (first | refine glq rfl (.inl ⟨rfl, q_fapP fl40_0 (by decide) rfl rfl⟩) rfl ?_ | refine glq rfl (.inl ⟨rfl, q_faP fl40_0 (by decide) rfl (by first | ((repeat constructor); done) | exact .same _)⟩) rfl ?_ | refine glq rfl (.inr ⟨rfl, rfl⟩) rfl ?_)
                all_goals (first | refine glq rfl (.inl ⟨rfl, q_ldpW ag29 sz29 rfl (by repeat (first | exact .here | assumption | (apply HAt.left; assumption) | apply HAt.there | apply HAt.right)) (by first | rfl | assumption | (simp [*]; done) | fail) (by first | rfl | assumption | (simp [*]; done) | fail) (by decide)⟩) rfl ?_ | refine glq rfl (.inl ⟨rfl, q_ldW ag29 sz29 rfl (by first | rfl | assumption | (simp [*]; done) | fail)⟩) rfl ?_ | refine glq rfl (.inl ⟨rfl, q_ldpP ag29 sz29 rfl (by repeat (first | exact .here | assumption | (apply HAt.left; assumption) | apply HAt.there | apply HAt.right)) (by first | rfl | assumption | (simp [*]; done) | fail) (by first | decide | (simp; done) | omega | fail) (by decide) (by first | ((repeat constructor); done) | exact .same _)⟩) rfl ?_ | refine glq rfl (.inl ⟨rfl, q_ldP ag29 sz29 rfl (by first | decide | (simp; done) | omega | fail) (by first | ((repeat constructor); done) | exact .same _)⟩) rfl ?_ | refine glq rfl (.inr ⟨rfl, rfl⟩) rfl ?_)
                all_goals (first | refine glq rfl (.inl ⟨rfl, q_fapP fl40_0 (by decide) rfl rfl⟩) rfl ?_ | refine glq rfl (.inl ⟨rfl, q_faP fl40_0 (by decide) rfl (by first | ((repeat constructor); done) | exact .same _)⟩) rfl ?_ | refine glq rfl (.inr ⟨rfl, rfl⟩) rfl ?_)
                all_goals (first | refine glq rfl (.inl ⟨rfl, q_ldpW ag29 sz29 rfl (by repeat (first | exact .here | assumption | (apply HAt.left; assumption) | apply HAt.there | apply HAt.right)) (by first | rfl | assumption | (simp [*]; done) | fail) (by first | rfl | assumption | (simp [*]; done) | fail) (by decide)⟩) rfl ?_ | refine glq rfl (.inl ⟨rfl, q_ldW ag29 sz29 rfl (by first | rfl | assumption | (simp [*]; done) | fail)⟩) rfl ?_ | refine glq rfl (.inl ⟨rfl, q_ldpP ag29 sz29 rfl (by repeat (first | exact .here | assumption | (apply HAt.left; assumption) | apply HAt.there | apply HAt.right)) (by first | rfl | assumption | (simp [*]; done) | fail) (by first | decide | (simp; done) | omega | fail) (by decide) (by first | ((repeat constructor); done) | exact .same _)⟩) rfl ?_ | refine glq rfl (.inl ⟨rfl, q_ldP ag29 sz29 rfl (by first | decide | (simp; done) | omega | fail) (by first | ((repeat constructor); done) | exact .same _)⟩) rfl ?_ | refine glq rfl (.inr ⟨rfl, rfl⟩) rfl ?_)
                all_goals (first | refine glq rfl (.inl ⟨rfl, castQ (r2 := .lit (.bool (!decide (t.key = s.key)))) (q_neqA gd29 rfl rfl (by repeat constructor) (by repeat constructor) (fun w => eq29 w)) (by exact congrArg (fun b => AV.lit (.bool (!b))) (keq t.key s.key))⟩) rfl ?_ | refine glq rfl (.inr ⟨rfl, rfl⟩) rfl ?_)
                all_goals (first | refine glq rfl (.inl ⟨rfl, q_pickT rfl (by constructor)⟩) rfl ?_ | refine glq rfl (.inl ⟨rfl, q_pickF rfl (by constructor)⟩) rfl ?_)
                all_goals (first | refine gld0 ?_ | refine gldA ?_)
                all_goals (refine alist_nil ?_)
                all_goals (exact ⟨rfl, .mk' (by repeat (first | exact trivial | refine ⟨rfl, ?_⟩ | (refine ⟨?_, ?_⟩; (· first | (rw [hb9]; rfl) | fail)))) (.refl _)⟩)
              refine awp_cond rfl (fun hc3 => ?_) (fun hc3 => ?_)
              · simp only [Bool.and_eq_true, decide_eq_true_eq, Bool.not_eq_true', decide_eq_false_iff_not] at hc3
                rw [if_pos hc3] at hnx
                have hnx2 : ((cntK s t (r.take (j + 1)) : Nat) : Int) = cntK s t (r.take j) + 1 := by rw [hnx]; simp
                refine awp_region ?_
                refine aqs rfl (q_mv (by constructor)) rfl ?_
                first | refine aqs rfl (q_add64 rfl rfl (by omega) (by omega)) rfl ?_ | refine aqs rfl (q_add rfl rfl) rfl ?_
                refine aqs rfl (q_as (by constructor)) rfl ?_
                refine alist_nil ?_
                show AWP _ _ _ _
                refine awp_region ?_
                refine aqs rfl (q_mv (by constructor)) rfl ?_
                first | refine aqs rfl (q_add64 rfl rfl (by omega) (by omega)) rfl ?_ | refine aqs rfl (q_add rfl rfl) rfl ?_
                refine aqs rfl (q_as (by constructor)) rfl ?_
                refine alist_nil ?_
                show ∃ y, _ ∧ _ ∧ _
                exact ⟨j + 1, by omega, by omega, .mk' ⟨by rfl, congrArg (fun z => AV.lit (.int .i64 z)) hnx2.symm, rfl, rfl, rfl, rfl, rfl, rfl, rfl, trivial⟩ (.refl _)⟩
              · have hno : ¬ (y = t ∧ ¬ t.key = s.key) := fun h => by simp [h.1, h.2] at hc3
                rw [if_neg hno] at hnx
                have hnx2 : ((cntK s t (r.take (j + 1)) : Nat) : Int) = cntK s t (r.take j) := by rw [hnx]
                refine awp_skip ?_
                show AWP _ _ _ _
                refine awp_region ?_
                refine aqs rfl (q_mv (by constructor)) rfl ?_
                first | refine aqs rfl (q_add64 rfl rfl (by omega) (by omega)) rfl ?_ | refine aqs rfl (q_add rfl rfl) rfl ?_
                refine aqs rfl (q_as (by constructor)) rfl ?_
                refine alist_nil ?_
                show ∃ y, _ ∧ _ ∧ _
                exact ⟨j + 1, by omega, by omega, .mk' ⟨by rfl, congrArg (fun z => AV.lit (.int .i64 z)) hnx2.symm, rfl, rfl, rfl, rfl, rfl, rfl, rfl, trivial⟩ (.refl _)⟩
            · simp only [decide_eq_false_iff_not, List.length_map] at hc2
              have hjn : j = r.length := by omega
              subst hjn
              have hone := cntK_one (s := s) hr htm
              rw [← hre] at hone
              have htk : r.take r.length = r := List.take_length
              rw [htk]
              refine awp_exit ?_
              show AWP _ _ _ _
              refine awp_seq ?_
              refine awp_draw 11 [(0, false), (1, false), (2, false), (3, false), (4, false), (5, false), (6, false), (7, false), (8, false), (9, false), (10, false)] _ ([]) mixed (by kernel_rfl) (perm0 _) ?_
              refine glq rfl (.inl ⟨rfl, q_mv (by constructor)⟩) rfl ?_
              refine glq rfl (.inl ⟨rfl, castQ (r2 := .lit (.bool (!decide (t.key = s.key)))) (q_eql rfl rfl) (by refine congrArg (fun b => AV.lit (.bool b)) ?_; rw [← decide_not]; exact decide_eq_decide.2 (by rw [← hone]; omega))⟩) rfl ?_
              refine glq rfl (.inl ⟨rfl, q_mv (by constructor)⟩) rfl ?_
              refine glq rfl (.inl ⟨rfl, q_mv (by constructor)⟩) rfl ?_
              first | refine glq rfl (.inl ⟨rfl, q_iaN Try.underlying38 sz40 (.inl rfl) rfl (by omega) (by first | rfl | assumption | (simp [*]; done) | fail) (by first | rfl | assumption | (simp [*]; done) | fail) (by decide) (by first | ((repeat constructor); done) | exact .same _)⟩) rfl ?_ | refine glq rfl (.inl ⟨rfl, q_iaS Try.underlying38 sz40 rfl (by repeat (first | exact .here | assumption | (apply HAt.left; assumption) | apply HAt.there | apply HAt.right)) rfl (by omega) (by omega) (by first | exact Nat.zero_add _ | rfl)⟩) rfl ?_ | refine glq rfl (.inl ⟨rfl, q_iaN Try.underlying38 sz40 (.inr rfl) rfl (by omega) (by first | rfl | assumption | (simp [*]; done) | fail) (by first | rfl | assumption | (simp [*]; done) | fail) (by decide) (by first | ((repeat constructor); done) | exact .same _)⟩) rfl ?_
              first | refine glq rfl (.inl ⟨rfl, q_fapP fl40_0 (by decide) rfl rfl⟩) rfl ?_ | refine glq rfl (.inl ⟨rfl, q_faP fl40_0 (by decide) rfl (by first | ((repeat constructor); done) | exact .same _)⟩) rfl ?_
              first | refine glq rfl (.inl ⟨rfl, q_ldpW ag29 sz29 rfl (by repeat (first | exact .here | assumption | (apply HAt.left; assumption) | apply HAt.there | apply HAt.right)) (by first | rfl | assumption | (simp [*]; done) | fail) (by first | rfl | assumption | (simp [*]; done) | fail) (by decide)⟩) rfl ?_ | refine glq rfl (.inl ⟨rfl, q_ldW ag29 sz29 rfl (by first | rfl | assumption | (simp [*]; done) | fail)⟩) rfl ?_ | refine glq rfl (.inl ⟨rfl, q_ldpP ag29 sz29 rfl (by repeat (first | exact .here | assumption | (apply HAt.left; assumption) | apply HAt.there | apply HAt.right)) (by first | rfl | assumption | (simp [*]; done) | fail) (by first | decide | (simp; done) | omega | fail) (by decide) (by first | ((repeat constructor); done) | exact .same _)⟩) rfl ?_ | refine glq rfl (.inl ⟨rfl, q_ldP ag29 sz29 rfl (by first | decide | (simp; done) | omega | fail) (by first | ((repeat constructor); done) | exact .same _)⟩) rfl ?_
              first | refine glq rfl (.inl ⟨rfl, q_fapP fl40_0 (by decide) rfl rfl⟩) rfl ?_ | refine glq rfl (.inl ⟨rfl, q_faP fl40_0 (by decide) rfl (by first | ((repeat constructor); done) | exact .same _)⟩) rfl ?_
              first | refine glq rfl (.inl ⟨rfl, q_ldpW ag29 sz29 rfl (by repeat (first | exact .here | assumption | (apply HAt.left; assumption) | apply HAt.there | apply HAt.right)) (by first | rfl | assumption | (simp [*]; done) | fail) (by first | rfl | assumption | (simp [*]; done) | fail) (by decide)⟩) rfl ?_ | refine glq rfl (.inl ⟨rfl, q_ldW ag29 sz29 rfl (by first | rfl | assumption | (simp [*]; done) | fail)⟩) rfl ?_ | refine glq rfl (.inl ⟨rfl, q_ldpP ag29 sz29 rfl (by repeat (first | exact .here | assumption | (apply HAt.left; assumption) | apply HAt.there | apply HAt.right)) (by first | rfl | assumption | (simp [*]; done) | fail) (by first | decide | (simp; done) | omega | fail) (by decide) (by first | ((repeat constructor); done) | exact .same _)⟩) rfl ?_ | refine glq rfl (.inl ⟨rfl, q_ldP ag29 sz29 rfl (by first | decide | (simp; done) | omega | fail) (by first | ((repeat constructor); done) | exact .same _)⟩) rfl ?_
              refine glq rfl (.inl ⟨rfl, castQ (r2 := .lit (.bool (!decide (t.key = s.key)))) (q_neqA gd29 rfl rfl (by repeat constructor) (by repeat constructor) (fun w => eq29 w)) (by exact congrArg (fun b => AV.lit (.bool (!b))) (keq t.key s.key))⟩) rfl ?_
              refine glq rfl (.inl ⟨rfl, castF (q_bneq rfl rfl Try.underlying4) (by simp)⟩) rfl ?_
              (first | refine gld0 ?_ | refine gldA ?_)
              refine alist_nil ?_
              show AWP _ _ _ _
              refine awp_cond rfl (fun hc4 => ?_) (fun hc4 => ?_)
              · exfalso; first | (simp at hc4; done) | (simp at hc4; omega) | contradiction
              · try simp only [decide_eq_true_eq, decide_eq_false_iff_not, Bool.not_eq_true', Bool.not_eq_false', Bool.not_eq_eq_eq_not, Bool.not_true, Bool.not_false, beq_iff_eq, beq_eq_false_iff_ne, Int.not_lt, Int.not_le] at hc4
                refine awp_skip ?_
                show AWP _ _ _ _
                refine awp_region ?_
                refine aqs rfl (q_mv (by constructor)) rfl ?_
                first | refine aqs rfl (q_add64 rfl rfl (by omega) (by omega)) rfl ?_ | refine aqs rfl (q_add rfl rfl) rfl ?_
                refine aqs rfl (q_as (by constructor)) rfl ?_
                refine alist_nil ?_
                show ∃ y, _ ∧ _ ∧ _
                exact ⟨i + 1, by omega, by omega, .mk' ⟨by rfl, rfl, rfl, rfl, rfl, rfl, rfl, trivial⟩ (by repeat (first | exact List.Sublist.refl _ | exact List.nil_sublist _ | exact List.sublist_append_left _ _ | (apply List.Sublist.cons_cons) | (apply List.Sublist.cons)))⟩
        · skip
          refine awp_exit ?_
          show AWP _ _ _ _
          refine awp_seq ?_
          refine awp_region ?_
          refine aqs rfl (q_mv (by constructor)) rfl ?_
          refine aqs rfl (q_mv (by constructor)) rfl ?_
          first | refine ans rfl rfl ?_ | refine aqs rfl (q_mv (by constructor)) rfl ?_
          first | refine aqs rfl (castQ (r2 := .lit (.bool true)) (e_callN cb51 (right51_c r (by omega) _) rfl rfl) (by rw [hrr])) rfl ?_ | refine aqs rfl (castQ (r2 := .lit (.bool true)) (e_callN cb51 (ACall.arg (right51_c r (by omega) _) (by repeat (first | exact ArgL.nil | (apply ArgL.cons; (· first | exact .same | exact .cro | exact .nil))))) rfl rfl) (by rw [hrr])) rfl ?_
          first | refine aqs rfl (q_pickT rfl (by constructor)) rfl ?_ | refine aqs rfl (q_pickF rfl (by constructor)) rfl ?_
          refine aqs rfl (q_mv (by constructor)) rfl ?_
          first | refine ans rfl rfl ?_ | refine aqs rfl (q_mv (by constructor)) rfl ?_
          refine aqs rfl (castT (q_gtr rfl rfl) (by exact decide_eq_true hpos)) rfl ?_
          first | refine ans rfl rfl ?_ | refine aqs rfl (q_mv (by constructor)) rfl ?_
          first | refine ans rfl rfl ?_ | refine aqs rfl (q_mv (by constructor)) rfl ?_
          first | refine ans rfl rfl ?_ | refine aqs rfl (q_len Try.underlying38 .ro) rfl ?_ | refine aqs rfl (q_lenO Try.underlying38 rfl (by repeat (first | exact .here | assumption | (apply HAt.left; assumption) | apply HAt.there | apply HAt.right)) (by first | omega | (simp; done) | (simp; omega) | fail) (by first | exact Nat.sub_zero _ | rfl)) rfl ?_ | refine aqs rfl (q_len Try.underlying38 .nil) rfl ?_ | refine aqs rfl (q_len Try.underlying38 .cro) rfl ?_
          first | refine ans rfl rfl ?_ | refine aqs rfl (q_eql rfl rfl) rfl ?_
          first | refine ans rfl rfl ?_ | refine aqs rfl (q_pickT rfl (by constructor)) rfl ?_ | refine aqs rfl (q_pickF rfl (by constructor)) rfl ?_
          first | refine aqs rfl (q_pickT rfl (by constructor)) rfl ?_ | refine aqs rfl (q_pickF rfl (by constructor)) rfl ?_
          refine aqs rfl (q_as (by constructor)) rfl ?_
          refine alist_nil ?_
          show AWP _ _ _ _
          refine awp_ret ?_
          repeat first | with_reducible refine then_ret ?_ | with_reducible refine blk_ret ?_
          apply retq (.inr rfl) (.cons (rok_t rfl) .nil)
          rotate_left
          · exact ⟨rfl, rfl⟩
          repeat (first | exact List.Sublist.refl _ | exact List.nil_sublist _ | exact List.sublist_append_left _ _ | apply List.Sublist.cons)
  · skip
    refine acall_intro (n := 121) (rvs := [.tmp 6]) Try.func11 rfl rfl rfl (Nat.le_of_ble_eq_true rfl) ?_
    refine awp_seq ?_
    refine awp_region ?_
    refine aqs rfl (q_as (by constructor)) rfl ?_
    refine alist_nil ?_
    show AWP _ _ _ _
    refine awp_seq ?_
    refine awp_region ?_
    first | refine aqs rfl (e_callN cb47 (awake47_c _) rfl rfl) rfl ?_ | refine aqs rfl (e_callN cb47 (ACall.arg (awake47_c _) (by repeat (first | exact ArgL.nil | (apply ArgL.cons; (· first | exact .same | exact .cro | exact .nil))))) rfl rfl) rfl ?_
    refine aqs rfl (q_as (by constructor)) rfl ?_
    refine alist_nil ?_
    show AWP _ _ _ _
    refine awp_seq ?_
    refine awp_region ?_
    refine aqs rfl (q_mv (by constructor)) rfl ?_
    first | refine aqs rfl (e_callN cb48 (hle ▸ list48_c b wb.1 9 _) rfl rfl) rfl ?_ | refine aqs rfl (e_callN cb48 (ACall.arg (hle ▸ list48_c b wb.1 9 _) (by repeat (first | exact ArgL.nil | (apply ArgL.cons; (· first | exact .same | exact .cro | exact .nil))))) rfl rfl) rfl ?_
    refine aqs rfl (q_as (by constructor)) rfl ?_
    refine alist_nil ?_
    show AWP _ _ _ _
    refine awp_seq ?_
    refine awp_region ?_
    refine aqs rfl (q_mv (by constructor)) rfl ?_
    first | refine aqs rfl (e_callN cb53 (hse ▸ slot53_c k ⟨#[110, 101, 119]⟩ wk.1 wk.2 _) rfl rfl) rfl ?_ | refine aqs rfl (e_callN cb53 (ACall.arg (hse ▸ slot53_c k ⟨#[110, 101, 119]⟩ wk.1 wk.2 _) (by repeat (first | exact ArgL.nil | (apply ArgL.cons; (· first | exact .same | exact .cro | exact .nil))))) rfl rfl) rfl ?_
    (refine aes rfl (e_al (xs := [.lit (.int .u64 0), .lit (.int .i64 0), .lit (.string ⟨#[]⟩), .lit (.string ⟨#[]⟩), .lit (.string ⟨#[]⟩)]) (k := 5) zr40 (.same _) rfl) rfl ?_; rintro _ _ ⟨u9, rfl, rfl⟩)
    first | (refine aen rfl (e_stW sz40 rfl (by repeat (first | exact .here | assumption | (apply HAt.left; assumption) | apply HAt.there | apply HAt.right)) (by constructor) (by first | rfl | assumption | (simp [*]; done) | fail) rfl (by repeat (first | exact .here | apply HSet.there))) ?_; rintro _ _ ⟨rfl, rfl⟩) | (refine aen rfl (e_stP sz40 rfl (by repeat (first | exact .here | assumption | (apply HAt.left; assumption) | apply HAt.there | apply HAt.right)) (by first | rfl | assumption | (simp [*]; done) | fail) (by constructor) (by first | rfl | assumption | (simp [*]; done) | fail) rfl (by first | decide | omega) (by first | ((repeat constructor); done) | exact .same _) (by first | exact .one | exact .set) (by repeat (first | exact .here | apply HSet.there))) ?_; rintro _ _ ⟨rfl, rfl⟩)
    refine alist_nil ?_
    show AWP _ _ _ _
    refine awp_seq ?_
    refine awp_region ?_
    refine aqs rfl (q_mv (by constructor)) rfl ?_
    first | refine aqs rfl (e_callN cb57 (pick57_c _ _ wn.1 wn.2 (by omega) _) rfl rfl) rfl ?_ | refine aqs rfl (e_callN cb57 (ACall.arg (pick57_c _ _ wn.1 wn.2 (by omega) _) (by repeat (first | exact ArgL.nil | (apply ArgL.cons; (· first | exact .same | exact .cro | exact .nil))))) rfl rfl) rfl ?_
    first | refine aqs rfl (castQ (r2 := .lit (.int .i64 w)) (q_sub64 rfl rfl (by omega) (by omega)) (by rw [hwe])) rfl ?_ | refine aqs rfl (castQ (r2 := .lit (.int .i64 w)) (q_sub rfl rfl) (by rw [hwe])) rfl ?_
    refine aqs rfl (q_as (by constructor)) rfl ?_
    refine alist_nil ?_
    show AWP _ _ _ _
    refine awp_seq ?_
    refine awp_region ?_
    refine aqs rfl (q_mv (by constructor)) rfl ?_
    refine aqs rfl (q_mv (by constructor)) rfl ?_
    first | refine aqs rfl (q_ldpW ag40 sz40 rfl (by repeat (first | exact .here | assumption | (apply HAt.left; assumption) | apply HAt.there | apply HAt.right)) (by first | rfl | assumption | (simp [*]; done) | fail) (by first | rfl | assumption | (simp [*]; done) | fail) (by decide)) rfl ?_ | refine aqs rfl (q_ldW ag40 sz40 rfl (by first | rfl | assumption | (simp [*]; done) | fail)) rfl ?_ | refine aqs rfl (q_ldpP ag40 sz40 rfl (by repeat (first | exact .here | assumption | (apply HAt.left; assumption) | apply HAt.there | apply HAt.right)) (by first | rfl | assumption | (simp [*]; done) | fail) (by first | decide | (simp; done) | omega | fail) (by decide) (by first | ((repeat constructor); done) | exact .same _)) rfl ?_ | refine aqs rfl (q_ldP ag40 sz40 rfl (by first | decide | (simp; done) | omega | fail) (by first | ((repeat constructor); done) | exact .same _)) rfl ?_
    first | refine aqs rfl (e_callN cb58 (hpe ▸ put58_c l (by omega) w s _) rfl rfl) rfl ?_ | refine aqs rfl (e_callN cb58 (ACall.arg (hpe ▸ put58_c l (by omega) w s _) (by repeat (first | exact ArgL.nil | (apply ArgL.cons; (· first | exact .same | exact .cro | exact .nil))))) rfl rfl) rfl ?_
    refine aqs rfl (q_mv (by constructor)) rfl ?_
    refine aqs rfl (q_ex rfl rfl (by constructor)) rfl ?_
    refine aqs rfl (q_ex rfl rfl (by constructor)) rfl ?_
    refine aqs rfl (q_ex rfl rfl (by constructor)) rfl ?_
    refine aqs rfl (q_as (by constructor)) rfl ?_
    refine aqs rfl (q_as (by constructor)) rfl ?_
    refine aqs rfl (q_as (by constructor)) rfl ?_
    refine alist_nil ?_
    show AWP _ _ _ _
    refine awp_seq ?_
    refine awp_seq ?_
    refine awp_draw 25 [(0, false), (1, false), (2, false), (3, false), (4, false), (5, false), (6, false), (7, false), (8, false), (9, false), (10, false), (11, false), (12, false), (13, false), (14, false), (15, false), (16, false), (17, false), (18, false), (19, false), (20, false), (21, false), (22, false), (23, false), (24, false)] _ ([]) mixed (by kernel_rfl) (perm0 _) ?_
    refine glq rfl (.inl ⟨rfl, q_mv (by constructor)⟩) rfl ?_
    refine glq rfl (.inl ⟨rfl, castF (q_neq rfl rfl) (by rfl)⟩) rfl ?_
    refine glq rfl (.inl ⟨rfl, q_mv (by constructor)⟩) rfl ?_
    first | refine glq rfl (.inl ⟨rfl, q_mv (by constructor)⟩) rfl ?_ | refine glq rfl (.inr ⟨rfl, rfl⟩) rfl ?_
    first | refine glq rfl (.inl ⟨rfl, q_len Try.underlying38 .ro⟩) rfl ?_ | refine glq rfl (.inl ⟨rfl, q_lenO Try.underlying38 rfl (by repeat (first | exact .here | assumption | (apply HAt.left; assumption) | apply HAt.there | apply HAt.right)) (by first | omega | (simp; done) | (simp; omega) | fail) (by first | exact Nat.sub_zero _ | rfl)⟩) rfl ?_ | refine glq rfl (.inl ⟨rfl, q_len Try.underlying38 .nil⟩) rfl ?_ | refine glq rfl (.inl ⟨rfl, q_len Try.underlying38 .cro⟩) rfl ?_ | refine glq rfl (.inr ⟨rfl, rfl⟩) rfl ?_
    first | refine glq rfl (.inl ⟨rfl, q_mv (by constructor)⟩) rfl ?_ | refine glq rfl (.inr ⟨rfl, rfl⟩) rfl ?_
    first | refine glq rfl (.inl ⟨rfl, q_max rfl rfl⟩) rfl ?_ | refine glq rfl (.inr ⟨rfl, rfl⟩) rfl ?_
    refine glq rfl (.inl ⟨rfl, castF (q_gtr rfl rfl) (by simp; omega)⟩) rfl ?_
    first | refine glq rfl (.inl ⟨rfl, q_pickT rfl (by constructor)⟩) rfl ?_ | refine glq rfl (.inl ⟨rfl, q_pickF rfl (by constructor)⟩) rfl ?_
    refine glq rfl (.inl ⟨rfl, q_mv (by constructor)⟩) rfl ?_
    first | refine glq rfl (.inl ⟨rfl, q_mv (by constructor)⟩) rfl ?_ | refine glq rfl (.inr ⟨rfl, rfl⟩) rfl ?_
    refine glq rfl (.inl ⟨rfl, castF (q_gtr rfl rfl) (by exact decide_eq_false hpos)⟩) rfl ?_
    first | refine glq rfl (.inl ⟨rfl, q_mv (by constructor)⟩) rfl ?_ | refine glq rfl (.inr ⟨rfl, rfl⟩) rfl ?_
    first | refine glq rfl (.inl ⟨rfl, q_mv (by constructor)⟩) rfl ?_ | refine glq rfl (.inr ⟨rfl, rfl⟩) rfl ?_
    first | refine glq rfl (.inl ⟨rfl, q_len Try.underlying38 .ro⟩) rfl ?_ | refine glq rfl (.inl ⟨rfl, q_lenO Try.underlying38 rfl (by repeat (first | exact .here | assumption | (apply HAt.left; assumption) | apply HAt.there | apply HAt.right)) (by first | omega | (simp; done) | (simp; omega) | fail) (by first | exact Nat.sub_zero _ | rfl)⟩) rfl ?_ | refine glq rfl (.inl ⟨rfl, q_len Try.underlying38 .nil⟩) rfl ?_ | refine glq rfl (.inl ⟨rfl, q_len Try.underlying38 .cro⟩) rfl ?_ | refine glq rfl (.inr ⟨rfl, rfl⟩) rfl ?_
    first | refine glq rfl (.inl ⟨rfl, q_eql rfl rfl⟩) rfl ?_ | refine glq rfl (.inr ⟨rfl, rfl⟩) rfl ?_
    first | refine glq rfl (.inl ⟨rfl, q_mv (by constructor)⟩) rfl ?_ | refine glq rfl (.inr ⟨rfl, rfl⟩) rfl ?_
    first | refine glq rfl (.inl ⟨rfl, q_mv (by constructor)⟩) rfl ?_ | refine glq rfl (.inr ⟨rfl, rfl⟩) rfl ?_
    first | refine glq rfl (.inl ⟨rfl, q_iaN Try.underlying38 sz40 (.inl rfl) rfl (by omega) (by first | rfl | assumption | (simp [*]; done) | fail) (by first | rfl | assumption | (simp [*]; done) | fail) (by decide) (by first | ((repeat constructor); done) | exact .same _)⟩) rfl ?_ | refine glq rfl (.inl ⟨rfl, q_iaS Try.underlying38 sz40 rfl (by repeat (first | exact .here | assumption | (apply HAt.left; assumption) | apply HAt.there | apply HAt.right)) rfl (by omega) (by omega) (by first | exact Nat.zero_add _ | rfl)⟩) rfl ?_ | refine glq rfl (.inl ⟨rfl, q_iaN Try.underlying38 sz40 (.inr rfl) rfl (by omega) (by first | rfl | assumption | (simp [*]; done) | fail) (by first | rfl | assumption | (simp [*]; done) | fail) (by decide) (by first | ((repeat constructor); done) | exact .same _)⟩) rfl ?_ | refine glq rfl (.inr ⟨rfl, rfl⟩) rfl ?_
    first | refine glq rfl (.inl ⟨rfl, q_ldpW ag40 sz40 rfl (by repeat (first | exact .here | assumption | (apply HAt.left; assumption) | apply HAt.there | apply HAt.right)) (by first | rfl | assumption | (simp [*]; done) | fail) (by first | rfl | assumption | (simp [*]; done) | fail) (by decide)⟩) rfl ?_ | refine glq rfl (.inl ⟨rfl, q_ldW ag40 sz40 rfl (by first | rfl | assumption | (simp [*]; done) | fail)⟩) rfl ?_ | refine glq rfl (.inl ⟨rfl, q_ldpP ag40 sz40 rfl (by repeat (first | exact .here | assumption | (apply HAt.left; assumption) | apply HAt.there | apply HAt.right)) (by first | rfl | assumption | (simp [*]; done) | fail) (by first | decide | (simp; done) | omega | fail) (by decide) (by first | ((repeat constructor); done) | exact .same _)⟩) rfl ?_ | refine glq rfl (.inl ⟨rfl, q_ldP ag40 sz40 rfl (by first | decide | (simp; done) | omega | fail) (by first | ((repeat constructor); done) | exact .same _)⟩) rfl ?_ | refine glq rfl (.inr ⟨rfl, rfl⟩) rfl ?_
    first | refine glq rfl (.inl ⟨rfl, q_ldpW ag40 sz40 rfl (by repeat (first | exact .here | assumption | (apply HAt.left; assumption) | apply HAt.there | apply HAt.right)) (by first | rfl | assumption | (simp [*]; done) | fail) (by first | rfl | assumption | (simp [*]; done) | fail) (by decide)⟩) rfl ?_ | refine glq rfl (.inl ⟨rfl, q_ldW ag40 sz40 rfl (by first | rfl | assumption | (simp [*]; done) | fail)⟩) rfl ?_ | refine glq rfl (.inl ⟨rfl, q_ldpP ag40 sz40 rfl (by repeat (first | exact .here | assumption | (apply HAt.left; assumption) | apply HAt.there | apply HAt.right)) (by first | rfl | assumption | (simp [*]; done) | fail) (by first | decide | (simp; done) | omega | fail) (by decide) (by first | ((repeat constructor); done) | exact .same _)⟩) rfl ?_ | refine glq rfl (.inl ⟨rfl, q_ldP ag40 sz40 rfl (by first | decide | (simp; done) | omega | fail) (by first | ((repeat constructor); done) | exact .same _)⟩) rfl ?_ | refine glq rfl (.inr ⟨rfl, rfl⟩) rfl ?_
    first | refine glq rfl (.inl ⟨rfl, q_neqA gd40 rfl rfl (by repeat constructor) (by repeat constructor) (fun w => eq40 w)⟩) rfl ?_ | refine glq rfl (.inr ⟨rfl, rfl⟩) rfl ?_
    first | refine glq rfl (.inl ⟨rfl, q_pickT rfl (by constructor)⟩) rfl ?_ | refine glq rfl (.inl ⟨rfl, q_pickF rfl (by constructor)⟩) rfl ?_ | refine glq rfl (.inr ⟨rfl, rfl⟩) rfl ?_
    first | refine glq rfl (.inl ⟨rfl, q_pickT rfl (by constructor)⟩) rfl ?_ | refine glq rfl (.inl ⟨rfl, q_pickF rfl (by constructor)⟩) rfl ?_ | refine glq rfl (.inr ⟨rfl, rfl⟩) rfl ?_
    first | refine glq rfl (.inl ⟨rfl, q_pickT rfl (by constructor)⟩) rfl ?_ | refine glq rfl (.inl ⟨rfl, q_pickF rfl (by constructor)⟩) rfl ?_
    (first | refine gld0 ?_ | refine gldA ?_)
    refine alist_nil ?_
    show AWP _ _ _ _
    refine awp_cond rfl (fun hc0 => ?_) (fun hc0 => ?_)
    · exfalso; first | (simp at hc0; done) | (simp at hc0; omega) | contradiction
    · try simp only [decide_eq_true_eq, decide_eq_false_iff_not, Bool.not_eq_true', Bool.not_eq_false', Bool.not_eq_eq_eq_not, Bool.not_true, Bool.not_false, beq_iff_eq, beq_eq_false_iff_ne, Int.not_lt, Int.not_le] at hc0
      refine awp_skip ?_
      show AWP _ _ _ _
      refine awp_seq ?_
      refine awp_region ?_
      refine aqs rfl (q_mv (by constructor)) rfl ?_
      first | (refine aes rfl (e_apO Try.underlying38 sz40 by40 zr40 rfl (by repeat (first | exact .here | assumption | (apply HAt.left; assumption) | apply HAt.there | apply HAt.right)) (by exact Nat.le_refl _) (by first | exact .ro | exact .cro | exact .nil | exact SV.slA (by repeat (first | exact .here | assumption | (apply HAt.left; assumption) | apply HAt.there | apply HAt.right)) (by first | rfl | (simp; done) | (simp; omega) | (simp [*]; done) | fail)) (by first | assumption | (intro c hc; simp at hc; subst hc; rfl) | (simp; done) | fail) (by first | assumption | (intro c hc; simp at hc; subst hc; rfl) | (simp; done) | fail) (by first | assumption | (intro c hc; simp at hc; subst hc; rfl) | (simp; done) | fail) (by first | omega | decide | (simp; omega) | fail) (by decide) (by decide) rfl (by exact hal) hall (fun v => (by repeat (first | exact .here | apply HSet.there)))) rfl ?_; rintro _ _ ⟨u60, rfl, rfl⟩) | (refine aes rfl (e_apN Try.underlying38 sz40 by40 zr40 rfl (by first | exact .ro | exact .cro | exact .nil | exact SV.slA (by repeat (first | exact .here | assumption | (apply HAt.left; assumption) | apply HAt.there | apply HAt.right)) (by first | rfl | (simp; done) | (simp; omega) | (simp [*]; done) | fail)) (by first | assumption | (intro c hc; simp at hc; subst hc; rfl) | (simp; done) | fail) (by first | assumption | (intro c hc; simp at hc; subst hc; rfl) | (simp; done) | fail) (by first | omega | decide | (simp; omega) | fail) (by decide) (by decide) rfl rfl) rfl ?_; rintro _ _ ⟨u60, rfl, rfl⟩)
      refine aqs rfl (q_mv (by constructor)) rfl ?_
      first | (refine aes rfl (e_apO Try.underlying38 sz40 by40 zr40 rfl (by repeat (first | exact .here | assumption | (apply HAt.left; assumption) | apply HAt.there | apply HAt.right)) (by exact Nat.le_refl _) (by first | exact .ro | exact .cro | exact .nil | exact SV.slA (by repeat (first | exact .here | assumption | (apply HAt.left; assumption) | apply HAt.there | apply HAt.right)) (by first | rfl | (simp; done) | (simp; omega) | (simp [*]; done) | fail)) (by first | assumption | (intro c hc; simp at hc; subst hc; rfl) | (simp; done) | fail) (by first | assumption | (intro c hc; simp at hc; subst hc; rfl) | (simp; done) | fail) (by first | assumption | (intro c hc; simp at hc; subst hc; rfl) | (simp; done) | fail) (by first | omega | decide | (simp; omega) | fail) (by decide) (by decide) rfl (by exact hal) hall (fun v => (by repeat (first | exact .here | apply HSet.there)))) rfl ?_; rintro _ _ ⟨u62, rfl, rfl⟩) | (refine aes rfl (e_apN Try.underlying38 sz40 by40 zr40 rfl (by first | exact .ro | exact .cro | exact .nil | exact SV.slA (by repeat (first | exact .here | assumption | (apply HAt.left; assumption) | apply HAt.there | apply HAt.right)) (by first | rfl | (simp; done) | (simp; omega) | (simp [*]; done) | fail)) (by first | assumption | (intro c hc; simp at hc; subst hc; rfl) | (simp; done) | fail) (by first | assumption | (intro c hc; simp at hc; subst hc; rfl) | (simp; done) | fail) (by first | omega | decide | (simp; omega) | fail) (by decide) (by decide) rfl rfl) rfl ?_; rintro _ _ ⟨u62, rfl, rfl⟩)
      refine aqs rfl (q_as (by constructor)) rfl ?_
      refine alist_nil ?_
      show AWP _ _ _ _
      refine awp_pub (u := u62) (by repeat (first | exact .here | assumption | (apply HAt.left; assumption) | apply HAt.there | apply HAt.right)) (by repeat (first | exact PubT.nil | (apply PubT.cons; (· first | exact .one (pub_all (by first | rfl | (simp; done) | (simp; omega) | (simp [*]; done) | fail)) | exact .one .same)) | exact PubT.same)) (by repeat (first | exact PubH.drop .same | (apply PubH.cons; (· exact .same)))) ?_
      show AWP _ _ _ _
      refine awp_seq ?_
      refine awp_seq ?_
      refine awp_region ?_
      refine aqs rfl (q_as (by constructor)) rfl ?_
      refine alist_nil ?_
      show AWP _ _ _ _
      refine awp_block ?_
      refine awp_loop_inv (fun i : Nat => ⟨[(15, .lit (.int .i64 i)), (8, .ro (l.map Slot.cells)), (14, .ro (r.map Slot.cells)), (9, .ptr u9 0 0), (7, .lit (.bool true)), (10, .lit (.int .i64 w)), (11, .ro ((r.take c).map Slot.cells))], 121, [(u9, .arr 40 5 [s.cells])]⟩) (fun i => i ≤ l.length) (fun i => l.length - i) 0 ?_ ?_ ?_
      · omega
      · exact .mk' (by repeat (first | exact trivial | refine ⟨rfl, ?_⟩)) (by repeat (first | exact .refl _ | apply List.Sublist.cons_cons | apply List.Sublist.cons))
      · intro i hi
        refine awp_seq ?_
        refine awp_seq ?_
        refine awp_region ?_
        refine aqs rfl (q_mv (by constructor)) rfl ?_
        refine aqs rfl (q_mv (by constructor)) rfl ?_
        first | refine aqs rfl (q_len Try.underlying38 .ro) rfl ?_ | refine aqs rfl (q_lenO Try.underlying38 rfl (by repeat (first | exact .here | assumption | (apply HAt.left; assumption) | apply HAt.there | apply HAt.right)) (by first | omega | (simp; done) | (simp; omega) | fail) (by first | exact Nat.sub_zero _ | rfl)) rfl ?_ | refine aqs rfl (q_len Try.underlying38 .nil) rfl ?_ | refine aqs rfl (q_len Try.underlying38 .cro) rfl ?_
        refine aqs rfl (q_lss rfl rfl) rfl ?_
        refine alist_nil ?_
        show AWP _ _ _ _
        refine awp_cond rfl (fun hc1 => ?_) (fun hc1 => ?_)
        · simp only [decide_eq_true_eq, List.length_map] at hc1
          obtain ⟨t, ht, htm⟩ := get_lt (l := l) (i := i) (by omega)
          have ht2 := get_map (f := Slot.cells) ht
          refine awp_skip ?_
          show AWP _ _ _ _
          refine awp_seq ?_
          refine awp_block ?_
          refine awp_seq ?_
          refine awp_region ?_
          refine aqs rfl (q_as (by constructor)) rfl ?_
          refine alist_nil ?_
          show AWP _ _ _ _
          refine awp_seq ?_
          refine awp_seq ?_
          refine awp_region ?_
          refine aqs rfl (q_as (by constructor)) rfl ?_
          refine alist_nil ?_
          show AWP _ _ _ _
          refine awp_block ?_
          refine awp_loop_inv (fun j : Nat => ⟨[(17, .lit (.int .i64 j)), (16, .lit (.int .i64 (cntK s t (r.take j)))), (15, .lit (.int .i64 i)), (8, .ro (l.map Slot.cells)), (14, .ro (r.map Slot.cells)), (9, .ptr u9 0 0), (7, .lit (.bool true)), (10, .lit (.int .i64 w)), (11, .ro ((r.take c).map Slot.cells))], 121, [(u9, .arr 40 5 [s.cells])]⟩) (fun j => j ≤ r.length) (fun j => r.length - j) 0 ?_ ?_ ?_
          · omega
          · exact .mk' (by repeat (first | exact trivial | refine ⟨rfl, ?_⟩)) (by repeat (first | exact .refl _ | apply List.Sublist.cons_cons | apply List.Sublist.cons))
          · intro j hj
            have hcn := cntK_le s t (r.take j)
            have htl : (r.take j).length = j := by rw [List.length_take]; omega
            refine awp_seq ?_
            refine awp_seq ?_
            refine awp_region ?_
            refine aqs rfl (q_mv (by constructor)) rfl ?_
            refine aqs rfl (q_mv (by constructor)) rfl ?_
            first | refine aqs rfl (q_len Try.underlying38 .ro) rfl ?_ | refine aqs rfl (q_lenO Try.underlying38 rfl (by repeat (first | exact .here | assumption | (apply HAt.left; assumption) | apply HAt.there | apply HAt.right)) (by first | omega | (simp; done) | (simp; omega) | fail) (by first | exact Nat.sub_zero _ | rfl)) rfl ?_ | refine aqs rfl (q_len Try.underlying38 .nil) rfl ?_ | refine aqs rfl (q_len Try.underlying38 .cro) rfl ?_
            refine aqs rfl (q_lss rfl rfl) rfl ?_
            refine alist_nil ?_
            show AWP _ _ _ _
            refine awp_cond rfl (fun hc2 => ?_) (fun hc2 => ?_)
            · simp only [decide_eq_true_eq, List.length_map] at hc2
              obtain ⟨y, hy, hym⟩ := get_lt (l := r) (i := j) (by omega)
              have hy2 := get_map (f := Slot.cells) hy
              have hnx := cntK_next (s := s) (t := t) hy
              refine awp_skip ?_
              show AWP _ _ _ _
              refine awp_seq ?_
              refine awp_block ?_
              refine awp_mid [(93, .lit (.bool (decide (y = t) && !decide (t.key = s.key)))), (17, .lit (.int .i64 j)), (16, .lit (.int .i64 (cntK s t (r.take j)))), (15, .lit (.int .i64 i)), (8, .ro (l.map Slot.cells)), (14, .ro (r.map Slot.cells)), (9, .ptr u9 0 0), (7, .lit (.bool true)), (10, .lit (.int .i64 w)), (11, .ro ((r.take c).map Slot.cells))] ?_ ?_
              · skip
                refine awp_draw 19 [(0, false), (1, false), (2, false), (3, false), (4, false), (5, false), (6, false), (7, false), (8, false), (9, false), (10, false), (11, false), (12, false), (13, false), (14, false), (15, false), (16, false), (17, false), (18, false)] _ ([]) mixed (by kernel_rfl) (perm0 _) ?_
                all_goals (refine glq rfl (.inl ⟨rfl, q_mv (by constructor)⟩) rfl ?_)
                all_goals (refine glq rfl (.inl ⟨rfl, q_mv (by constructor)⟩) rfl ?_)
                all_goals (first | refine glq rfl (.inl ⟨rfl, q_iaN Try.underlying38 sz40 (.inl rfl) rfl (by omega) (by first | rfl | assumption | (simp [*]; done) | fail) (by first | rfl | assumption | (simp [*]; done) | fail) (by decide) (by first | ((repeat constructor); done) | exact .same _)⟩) rfl ?_ | refine glq rfl (.inl ⟨rfl, q_iaS Try.underlying38 sz40 rfl (by repeat (first | exact .here | assumption | (apply HAt.left; assumption) | apply HAt.there | apply HAt.right)) rfl (by omega) (by omega) (by first | exact Nat.zero_add _ | rfl)⟩) rfl ?_ | refine glq rfl (.inl ⟨rfl, q_iaN Try.underlying38 sz40 (.inr rfl) rfl (by omega) (by first | rfl | assumption | (simp [*]; done) | fail) (by first | rfl | assumption | (simp [*]; done) | fail) (by decide) (by first | ((repeat constructor); done) | exact .same _)⟩) rfl ?_)
                all_goals (first | refine glq rfl (.inl ⟨rfl, q_ldpW ag40 sz40 rfl (by repeat (first | exact .here | assumption | (apply HAt.left; assumption) | apply HAt.there | apply HAt.right)) (by first | rfl | assumption | (simp [*]; done) | fail) (by first | rfl | assumption | (simp [*]; done) | fail) (by decide)⟩) rfl ?_ | refine glq rfl (.inl ⟨rfl, q_ldW ag40 sz40 rfl (by first | rfl | assumption | (simp [*]; done) | fail)⟩) rfl ?_ | refine glq rfl (.inl ⟨rfl, q_ldpP ag40 sz40 rfl (by repeat (first | exact .here | assumption | (apply HAt.left; assumption) | apply HAt.there | apply HAt.right)) (by first | rfl | assumption | (simp [*]; done) | fail) (by first | decide | (simp; done) | omega | fail) (by decide) (by first | ((repeat constructor); done) | exact .same _)⟩) rfl ?_ | refine glq rfl (.inl ⟨rfl, q_ldP ag40 sz40 rfl (by first | decide | (simp; done) | omega | fail) (by first | ((repeat constructor); done) | exact .same _)⟩) rfl ?_)
                all_goals (refine glq rfl (.inl ⟨rfl, q_mv (by constructor)⟩) rfl ?_)
                all_goals (refine glq rfl (.inl ⟨rfl, q_mv (by constructor)⟩) rfl ?_)
                all_goals (first | refine glq rfl (.inl ⟨rfl, q_iaN Try.underlying38 sz40 (.inl rfl) rfl (by omega) (by first | rfl | assumption | (simp [*]; done) | fail) (by first | rfl | assumption | (simp [*]; done) | fail) (by decide) (by first | ((repeat constructor); done) | exact .same _)⟩) rfl ?_ | refine glq rfl (.inl ⟨rfl, q_iaS Try.underlying38 sz40 rfl (by repeat (first | exact .here | assumption | (apply HAt.left; assumption) | apply HAt.there | apply HAt.right)) rfl (by omega) (by omega) (by first | exact Nat.zero_add _ | rfl)⟩) rfl ?_ | refine glq rfl (.inl ⟨rfl, q_iaN Try.underlying38 sz40 (.inr rfl) rfl (by omega) (by first | rfl | assumption | (simp [*]; done) | fail) (by first | rfl | assumption | (simp [*]; done) | fail) (by decide) (by first | ((repeat constructor); done) | exact .same _)⟩) rfl ?_)
                all_goals (first | refine glq rfl (.inl ⟨rfl, q_ldpW ag40 sz40 rfl (by repeat (first | exact .here | assumption | (apply HAt.left; assumption) | apply HAt.there | apply HAt.right)) (by first | rfl | assumption | (simp [*]; done) | fail) (by first | rfl | assumption | (simp [*]; done) | fail) (by decide)⟩) rfl ?_ | refine glq rfl (.inl ⟨rfl, q_ldW ag40 sz40 rfl (by first | rfl | assumption | (simp [*]; done) | fail)⟩) rfl ?_ | refine glq rfl (.inl ⟨rfl, q_ldpP ag40 sz40 rfl (by repeat (first | exact .here | assumption | (apply HAt.left; assumption) | apply HAt.there | apply HAt.right)) (by first | rfl | assumption | (simp [*]; done) | fail) (by first | decide | (simp; done) | omega | fail) (by decide) (by first | ((repeat constructor); done) | exact .same _)⟩) rfl ?_ | refine glq rfl (.inl ⟨rfl, q_ldP ag40 sz40 rfl (by first | decide | (simp; done) | omega | fail) (by first | ((repeat constructor); done) | exact .same _)⟩) rfl ?_)
                all_goals (refine glq rfl (.inl ⟨rfl, castQ (r2 := .lit (.bool (decide (y = t)))) (q_eqlA gd40 rfl rfl (by repeat constructor) (by repeat constructor) (fun w => eq40 w)) (by exact congrArg (fun b => AV.lit (.bool b)) (seq_ y t))⟩) rfl ?_)
                all_goals (refine glq rfl (.inl ⟨rfl, q_mv (by constructor)⟩) rfl ?_)
                all_goals try (refine gcase (fun hb9 => ?_) (fun hb9 => ?_))
                all_goals first | (exfalso; cases hb9; done) | skip
                all_goals (first | refine glq rfl (.inl ⟨rfl, q_mv (by constructor)⟩) rfl ?_ | refine glq rfl (.inr ⟨rfl, rfl⟩) rfl ?_)
                all_goals (first | refine glq rfl (.inl ⟨rfl, q_mv (by constructor)⟩) rfl ?_ | refine glq rfl (.inr ⟨rfl, rfl⟩) rfl ?_)
                all_goals (first | refine glq rfl (.inl ⟨rfl, q_iaN Try.underlying38 sz40 (.inl rfl) rfl (by omega) (by first | rfl | assumption | (simp [*]; done) | fail) (by first | rfl | assumption | (simp [*]; done) | fail) (by decide) (by first | ((repeat constructor); done) | exact .same _)⟩) rfl ?_ | refine glq rfl (.inl ⟨rfl, q_iaS Try.underlying38 sz40 rfl (by repeat (first | exact .here | assumption | (apply HAt.left; assumption) | apply HAt.there | apply HAt.right)) rfl (by omega) (by omega) (by first | exact Nat.zero_add _ | rfl)⟩) rfl ?_ | refine glq rfl (.inl ⟨rfl, q_iaN Try.underlying38 sz40 (.inr rfl) rfl (by omega) (by first | rfl | assumption | (simp [*]; done) | fail) (by first | rfl | assumption | (simp [*]; done) | fail) (by decide) (by first | ((repeat constructor); done) | exact .same _)⟩) rfl ?_ | refine glq rfl (.inr ⟨rfl, rfl⟩) rfl ?_)
                all_goals (first | refine glq rfl (.inl ⟨rfl, q_fapP fl40_0 (by decide) rfl rfl⟩) rfl ?_ | refine glq rfl (.inl ⟨rfl, q_faP fl40_0 (by decide) rfl (by first | ((repeat constructor); done) | exact .same _)⟩) rfl ?_ | refine glq rfl (.inr ⟨rfl, rfl⟩) rfl ?_)
                all_goals (first | refine glq rfl (.inl ⟨rfl, q_ldpW ag29 sz29 rfl (by repeat (first | exact .here | assumption | (apply HAt.left; assumption) | apply HAt.there | apply HAt.right)) (by first | rfl | assumption | (simp [*]; done) | fail) (by first | rfl | assumption | (simp [*]; done) | fail) (by decide)⟩) rfl ?_ | refine glq rfl (.inl ⟨rfl, q_ldW ag29 sz29 rfl (by first | rfl | assumption | (simp [*]; done) | fail)⟩) rfl ?_ | refine glq rfl (.inl ⟨rfl, q_ldpP ag29 sz29 rfl (by repeat (first | exact .here | assumption | (apply HAt.left; assumption) | apply HAt.there | apply HAt.right)) (by first | rfl | assumption | (simp [*]; done) | fail) (by first | decide | (simp; done) | omega | fail) (by decide) (by first | ((repeat constructor); done) | exact .same _)⟩) rfl ?_ | refine glq rfl (.inl ⟨rfl, q_ldP ag29 sz29 rfl (by first | decide | (simp; done) | omega | fail) (by first | ((repeat constructor); done) | exact .same _)⟩) rfl ?_ | refine glq rfl (.inr ⟨rfl, rfl⟩) rfl ?_)
                all_goals (first | refine glq rfl (.inl ⟨rfl, q_fapP fl40_0 (by decide) rfl rfl⟩) rfl ?_ | refine glq rfl (.inl ⟨rfl, q_faP fl40_0 (by decide) rfl (by first | ((repeat constructor); done) | exact .same _)⟩) rfl ?_ | refine glq rfl (.inr ⟨rfl, rfl⟩) rfl ?_)
                all_goals (first | refine glq rfl (.inl ⟨rfl, q_ldpW ag29 sz29 rfl (by repeat (first | exact .here | assumption | (apply HAt.left; assumption) | apply HAt.there | apply HAt.right)) (by first | rfl | assumption | (simp [*]; done) | fail) (by first | rfl | assumption | (simp [*]; done) | fail) (by decide)⟩) rfl ?_ | refine glq rfl (.inl ⟨rfl, q_ldW ag29 sz29 rfl (by first | rfl | assumption | (simp [*]; done) | fail)⟩) rfl ?_ | refine glq rfl (.inl ⟨rfl, q_ldpP ag29 sz29 rfl (by repeat (first | exact .here | assumption | (apply HAt.left; assumption) | apply HAt.there | apply HAt.right)) (by first | rfl | assumption | (simp [*]; done) | fail) (by first | decide | (simp; done) | omega | fail) (by decide) (by first | ((repeat constructor); done) | exact .same _)⟩) rfl ?_ | refine glq rfl (.inl ⟨rfl, q_ldP ag29 sz29 rfl (by first | decide | (simp; done) | omega | fail) (by first | ((repeat constructor); done) | exact .same _)⟩) rfl ?_ | refine glq rfl (.inr ⟨rfl, rfl⟩) rfl ?_)
                all_goals (first | refine glq rfl (.inl ⟨rfl, castQ (r2 := .lit (.bool (!decide (t.key = s.key)))) (q_neqA gd29 rfl rfl (by repeat constructor) (by repeat constructor) (fun w => eq29 w)) (by exact congrArg (fun b => AV.lit (.bool (!b))) (keq t.key s.key))⟩) rfl ?_ | refine glq rfl (.inr ⟨rfl, rfl⟩) rfl ?_)
                all_goals (first | refine glq rfl (.inl ⟨rfl, q_pickT rfl (by constructor)⟩) rfl ?_ | refine glq rfl (.inl ⟨rfl, q_pickF rfl (by constructor)⟩) rfl ?_)
                all_goals (first | refine gld0 ?_ | refine gldA ?_)
                all_goals (refine alist_nil ?_)
                all_goals (exact ⟨rfl, .mk' (by repeat (first | exact trivial | refine ⟨rfl, ?_⟩ | (refine ⟨?_, ?_⟩; (· first | (rw [hb9]; rfl) | fail)))) (.refl _)⟩)
              refine awp_cond rfl (fun hc3 => ?_) (fun hc3 => ?_)
              · simp only [Bool.and_eq_true, decide_eq_true_eq, Bool.not_eq_true', decide_eq_false_iff_not] at hc3
                rw [if_pos hc3] at hnx
                have hnx2 : ((cntK s t (r.take (j + 1)) : Nat) : Int) = cntK s t (r.take j) + 1 := by rw [hnx]; simp
                refine awp_region ?_
                refine aqs rfl (q_mv (by constructor)) rfl ?_
                first | refine aqs rfl (q_add64 rfl rfl (by omega) (by omega)) rfl ?_ | refine aqs rfl (q_add rfl rfl) rfl ?_
                refine aqs rfl (q_as (by constructor)) rfl ?_
                refine alist_nil ?_
                show AWP _ _ _ _
                refine awp_region ?_
                refine aqs rfl (q_mv (by constructor)) rfl ?_
                first | refine aqs rfl (q_add64 rfl rfl (by omega) (by omega)) rfl ?_ | refine aqs rfl (q_add rfl rfl) rfl ?_
                refine aqs rfl (q_as (by constructor)) rfl ?_
                refine alist_nil ?_
                show ∃ y, _ ∧ _ ∧ _
                exact ⟨j + 1, by omega, by omega, .mk' ⟨by rfl, congrArg (fun z => AV.lit (.int .i64 z)) hnx2.symm, rfl, rfl, rfl, rfl, rfl, rfl, rfl, trivial⟩ (.refl _)⟩
              · have hno : ¬ (y = t ∧ ¬ t.key = s.key) := fun h => by simp [h.1, h.2] at hc3
                rw [if_neg hno] at hnx
                have hnx2 : ((cntK s t (r.take (j + 1)) : Nat) : Int) = cntK s t (r.take j) := by rw [hnx]
                refine awp_skip ?_
                show AWP _ _ _ _
                refine awp_region ?_
                refine aqs rfl (q_mv (by constructor)) rfl ?_
                first | refine aqs rfl (q_add64 rfl rfl (by omega) (by omega)) rfl ?_ | refine aqs rfl (q_add rfl rfl) rfl ?_
                refine aqs rfl (q_as (by constructor)) rfl ?_
                refine alist_nil ?_
                show ∃ y, _ ∧ _ ∧ _
                exact ⟨j + 1, by omega, by omega, .mk' ⟨by rfl, congrArg (fun z => AV.lit (.int .i64 z)) hnx2.symm, rfl, rfl, rfl, rfl, rfl, rfl, rfl, trivial⟩ (.refl _)⟩
            · simp only [decide_eq_false_iff_not, List.length_map] at hc2
              have hjn : j = r.length := by omega
              subst hjn
              have hone := cntK_one (s := s) hr htm
              rw [← hre] at hone
              have htk : r.take r.length = r := List.take_length
              rw [htk]
              refine awp_exit ?_
              show AWP _ _ _ _
              refine awp_seq ?_
              refine awp_draw 11 [(0, false), (1, false), (2, false), (3, false), (4, false), (5, false), (6, false), (7, false), (8, false), (9, false), (10, false)] _ ([]) mixed (by kernel_rfl) (perm0 _) ?_
              refine glq rfl (.inl ⟨rfl, q_mv (by constructor)⟩) rfl ?_
              refine glq rfl (.inl ⟨rfl, castQ (r2 := .lit (.bool (!decide (t.key = s.key)))) (q_eql rfl rfl) (by refine congrArg (fun b => AV.lit (.bool b)) ?_; rw [← decide_not]; exact decide_eq_decide.2 (by rw [← hone]; omega))⟩) rfl ?_
              refine glq rfl (.inl ⟨rfl, q_mv (by constructor)⟩) rfl ?_
              refine glq rfl (.inl ⟨rfl, q_mv (by constructor)⟩) rfl ?_
              first | refine glq rfl (.inl ⟨rfl, q_iaN Try.underlying38 sz40 (.inl rfl) rfl (by omega) (by first | rfl | assumption | (simp [*]; done) | fail) (by first | rfl | assumption | (simp [*]; done) | fail) (by decide) (by first | ((repeat constructor); done) | exact .same _)⟩) rfl ?_ | refine glq rfl (.inl ⟨rfl, q_iaS Try.underlying38 sz40 rfl (by repeat (first | exact .here | assumption | (apply HAt.left; assumption) | apply HAt.there | apply HAt.right)) rfl (by omega) (by omega) (by first | exact Nat.zero_add _ | rfl)⟩) rfl ?_ | refine glq rfl (.inl ⟨rfl, q_iaN Try.underlying38 sz40 (.inr rfl) rfl (by omega) (by first | rfl | assumption | (simp [*]; done) | fail) (by first | rfl | assumption | (simp [*]; done) | fail) (by decide) (by first | ((repeat constructor); done) | exact .same _)⟩) rfl ?_
              first | refine glq rfl (.inl ⟨rfl, q_fapP fl40_0 (by decide) rfl rfl⟩) rfl ?_ | refine glq rfl (.inl ⟨rfl, q_faP fl40_0 (by decide) rfl (by first | ((repeat constructor); done) | exact .same _)⟩) rfl ?_
              first | refine glq rfl (.inl ⟨rfl, q_ldpW ag29 sz29 rfl (by repeat (first | exact .here | assumption | (apply HAt.left; assumption) | apply HAt.there | apply HAt.right)) (by first | rfl | assumption | (simp [*]; done) | fail) (by first | rfl | assumption | (simp [*]; done) | fail) (by decide)⟩) rfl ?_ | refine glq rfl (.inl ⟨rfl, q_ldW ag29 sz29 rfl (by first | rfl | assumption | (simp [*]; done) | fail)⟩) rfl ?_ | refine glq rfl (.inl ⟨rfl, q_ldpP ag29 sz29 rfl (by repeat (first | exact .here | assumption | (apply HAt.left; assumption) | apply HAt.there | apply HAt.right)) (by first | rfl | assumption | (simp [*]; done) | fail) (by first | decide | (simp; done) | omega | fail) (by decide) (by first | ((repeat constructor); done) | exact .same _)⟩) rfl ?_ | refine glq rfl (.inl ⟨rfl, q_ldP ag29 sz29 rfl (by first | decide | (simp; done) | omega | fail) (by first | ((repeat constructor); done) | exact .same _)⟩) rfl ?_
              first | refine glq rfl (.inl ⟨rfl, q_fapP fl40_0 (by decide) rfl rfl⟩) rfl ?_ | refine glq rfl (.inl ⟨rfl, q_faP fl40_0 (by decide) rfl (by first | ((repeat constructor); done) | exact .same _)⟩) rfl ?_
              first | refine glq rfl (.inl ⟨rfl, q_ldpW ag29 sz29 rfl (by repeat (first | exact .here | assumption | (apply HAt.left; assumption) | apply HAt.there | apply HAt.right)) (by first | rfl | assumption | (simp [*]; done) | fail) (by first | rfl | assumption | (simp [*]; done) | fail) (by decide)⟩) rfl ?_ | refine glq rfl (.inl ⟨rfl, q_ldW ag29 sz29 rfl (by first | rfl | assumption | (simp [*]; done) | fail)⟩) rfl ?_ | refine glq rfl (.inl ⟨rfl, q_ldpP ag29 sz29 rfl (by repeat (first | exact .here | assumption | (apply HAt.left; assumption) | apply HAt.there | apply HAt.right)) (by first | rfl | assumption | (simp [*]; done) | fail) (by first | decide | (simp; done) | omega | fail) (by decide) (by first | ((repeat constructor); done) | exact .same _)⟩) rfl ?_ | refine glq rfl (.inl ⟨rfl, q_ldP ag29 sz29 rfl (by first | decide | (simp; done) | omega | fail) (by first | ((repeat constructor); done) | exact .same _)⟩) rfl ?_
              refine glq rfl (.inl ⟨rfl, castQ (r2 := .lit (.bool (!decide (t.key = s.key)))) (q_neqA gd29 rfl rfl (by repeat constructor) (by repeat constructor) (fun w => eq29 w)) (by exact congrArg (fun b => AV.lit (.bool (!b))) (keq t.key s.key))⟩) rfl ?_
              refine glq rfl (.inl ⟨rfl, castF (q_bneq rfl rfl Try.underlying4) (by simp)⟩) rfl ?_
              (first | refine gld0 ?_ | refine gldA ?_)
              refine alist_nil ?_
              show AWP _ _ _ _
              refine awp_cond rfl (fun hc4 => ?_) (fun hc4 => ?_)
              · exfalso; first | (simp at hc4; done) | (simp at hc4; omega) | contradiction
              · try simp only [decide_eq_true_eq, decide_eq_false_iff_not, Bool.not_eq_true', Bool.not_eq_false', Bool.not_eq_eq_eq_not, Bool.not_true, Bool.not_false, beq_iff_eq, beq_eq_false_iff_ne, Int.not_lt, Int.not_le] at hc4
                refine awp_skip ?_
                show AWP _ _ _ _
                refine awp_region ?_
                refine aqs rfl (q_mv (by constructor)) rfl ?_
                first | refine aqs rfl (q_add64 rfl rfl (by omega) (by omega)) rfl ?_ | refine aqs rfl (q_add rfl rfl) rfl ?_
                refine aqs rfl (q_as (by constructor)) rfl ?_
                refine alist_nil ?_
                show ∃ y, _ ∧ _ ∧ _
                exact ⟨i + 1, by omega, by omega, .mk' ⟨by rfl, rfl, rfl, rfl, rfl, rfl, rfl, trivial⟩ (by repeat (first | exact List.Sublist.refl _ | exact List.nil_sublist _ | exact List.sublist_append_left _ _ | (apply List.Sublist.cons_cons) | (apply List.Sublist.cons)))⟩
        · skip
          refine awp_exit ?_
          show AWP _ _ _ _
          refine awp_seq ?_
          refine awp_region ?_
          refine aqs rfl (q_mv (by constructor)) rfl ?_
          refine aqs rfl (q_mv (by constructor)) rfl ?_
          first | refine ans rfl rfl ?_ | refine aqs rfl (q_mv (by constructor)) rfl ?_
          first | refine aqs rfl (castQ (r2 := .lit (.bool true)) (e_callN cb51 (right51_c r (by omega) _) rfl rfl) (by rw [hrr])) rfl ?_ | refine aqs rfl (castQ (r2 := .lit (.bool true)) (e_callN cb51 (ACall.arg (right51_c r (by omega) _) (by repeat (first | exact ArgL.nil | (apply ArgL.cons; (· first | exact .same | exact .cro | exact .nil))))) rfl rfl) (by rw [hrr])) rfl ?_
          first | refine aqs rfl (q_pickT rfl (by constructor)) rfl ?_ | refine aqs rfl (q_pickF rfl (by constructor)) rfl ?_
          refine aqs rfl (q_mv (by constructor)) rfl ?_
          first | refine ans rfl rfl ?_ | refine aqs rfl (q_mv (by constructor)) rfl ?_
          refine aqs rfl (castF (q_gtr rfl rfl) (by exact decide_eq_false hpos)) rfl ?_
          first | refine ans rfl rfl ?_ | refine aqs rfl (q_mv (by constructor)) rfl ?_
          first | refine ans rfl rfl ?_ | refine aqs rfl (q_mv (by constructor)) rfl ?_
          first | refine ans rfl rfl ?_ | refine aqs rfl (q_len Try.underlying38 .ro) rfl ?_ | refine aqs rfl (q_lenO Try.underlying38 rfl (by repeat (first | exact .here | assumption | (apply HAt.left; assumption) | apply HAt.there | apply HAt.right)) (by first | omega | (simp; done) | (simp; omega) | fail) (by first | exact Nat.sub_zero _ | rfl)) rfl ?_ | refine aqs rfl (q_len Try.underlying38 .nil) rfl ?_ | refine aqs rfl (q_len Try.underlying38 .cro) rfl ?_
          refine aqs rfl (castT (q_eql rfl rfl) (by exact decide_eq_true (by rw [List.length_map, List.length_take]; omega))) rfl ?_
          first | refine ans rfl rfl ?_ | refine aqs rfl (q_pickT rfl (by constructor)) rfl ?_ | refine aqs rfl (q_pickF rfl (by constructor)) rfl ?_
          first | refine aqs rfl (q_pickT rfl (by constructor)) rfl ?_ | refine aqs rfl (q_pickF rfl (by constructor)) rfl ?_
          refine aqs rfl (q_as (by constructor)) rfl ?_
          refine alist_nil ?_
          show AWP _ _ _ _
          refine awp_ret ?_
          repeat first | with_reducible refine then_ret ?_ | with_reducible refine blk_ret ?_
          apply retq (.inr rfl) (.cons (rok_t rfl) .nil)
          rotate_left
          · exact ⟨rfl, rfl⟩
          repeat (first | exact List.Sublist.refl _ | exact List.nil_sublist _ | exact List.sublist_append_left _ _ | apply List.Sublist.cons)
end Go.Proofs.YtocapddabodilaaAm
