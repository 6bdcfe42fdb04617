/- The walk of LruStack. Conditions: none. -/
import Derived.Test.YtdlinfekifnmkaaAmLruOrderWalk
set_option linter.unusedVariables false
set_option linter.unusedSimpArgs false
set_option maxRecDepth 20000
namespace Go.Proofs.YtdlinfekifnmkaaAm
open Go.Proofs
theorem stack_put {l : List Slot} {D : List Key} {n : Int} (x : Slot) (hr : rightB l = true) (hn : 0 ≤ n) (hD : D.Nodup) (hk : keysOf l = D.take n.toNat) : ∃ A o, putS l n x = (A, o, 0) ∧ keysOf A = (front x.key D).take n.toNat ∧ rightB A = true ∧ A.length ≤ n.toNat := by
  have h1 := keys_put x hr hn
  rw [hk, take_front hD] at h1
  have h2 : (keysOf (putS l n x).1).length ≤ n.toNat := by rw [h1, List.length_take]; omega
  exact ⟨(putS l n x).1, (putS l n x).2.1, by rw [← putS_err n x hr], h1, putS_right n x hr, by simpa [keysOf] using h2⟩
theorem hit_iff {l : List Slot} {k : Key} (hr : rightB l = true) : (getS l k).2.2 = 0 ↔ k ∈ keysOf l := by
  unfold getS
  rw [if_neg (by rw [hr]; simp)]
  cases hf : l.find? (fun s => decide (s.key = k)) with
  | none =>
    have h1 : ∀ s ∈ l, ¬ s.key = k := by simpa using hf
    constructor
    · intro h; cases h
    · intro h
      obtain ⟨s, hs, he⟩ := List.mem_map.1 h
      exact absurd he (h1 s hs)
  | some s => exact ⟨fun _ => List.mem_map.2 ⟨s, List.mem_of_find?_eq_some hf, by simpa using List.find?_some hf⟩, fun _ => rfl⟩
theorem stack_get {l : List Slot} {D : List Key} {n : Int} {k : Key} {s : Slot} {A : List Slot} {e : Int} (hr : rightB l = true) (hD : D.Nodup) (hk : keysOf l = D.take n.toNat) (hg : getS l k = (s, A, e)) :
    (e = 0 → keysOf A = (front k D).take n.toNat) ∧ rightB A = true ∧ A.length ≤ n.toNat + 1 := by
  have h1 := get_right (k := k) hr
  rw [hg] at h1
  have h0 := getS_len l k
  rw [hg] at h0
  have h3 : (keysOf l).length ≤ n.toNat := by rw [hk, List.length_take]; omega
  have h4 : (keysOf l).length = l.length := by simp [keysOf]
  refine ⟨fun he => ?_, h1, ?_⟩
  · obtain ⟨k1, k2, _⟩ := keys_get (k := k) hr (by rw [hg]; exact he)
    rw [hg] at k1 k2
    simp only at k1 k2
    rw [← take_front hD, ← hk, ← k1, List.take_of_length_le]
    have : (keysOf A).length = A.length := by simp [keysOf]
    omega
  · simp only at h0; omega
theorem pool_ex (a b c : ByteArray) (i : Nat) : ∃ v, [[AV.lit (.string a)], [.lit (.string b)], [.lit (.string c)]][((i : Int) % 3).toNat]? = some [.lit (.string v)] := by
  have h : i % 3 = 0 ∨ i % 3 = 1 ∨ i % 3 = 2 := by omega
  rcases h with h | h | h
  · rw [show ((i : Int) % 3).toNat = 0 by omega]; exact ⟨_, rfl⟩
  · rw [show ((i : Int) % 3).toNat = 1 by omega]; exact ⟨_, rfl⟩
  · rw [show ((i : Int) % 3).toNat = 2 by omega]; exact ⟨_, rfl⟩
set_option maxHeartbeats 16000000 in
theorem walkLruStack (b : List Int) (bs : List Bool) (r k : Int) (wb : (∀ y ∈ b, (-9223372036854775808 ≤ y ∧ y ≤ 9223372036854775807)) ∧ b.length ≤ 9223372036854775807) (wbs : (∀ y ∈ bs, True) ∧ bs.length ≤ 9223372036854775807) (wr : -9223372036854775808 ≤ r ∧ r ≤ 9223372036854775807) (wk : -9223372036854775808 ≤ k ∧ k ≤ 9223372036854775807) :
    QCall Try.prog 13 [.ro (b.map cI), .ro (bs.map cB), .lit (.int .i64 r), .lit (.int .i64 k)] [] (.lit (.bool true)) := by
  have hpn := pick_nonneg r 6 (by omega)
  have hpl := pick_lt r 6 (by omega)
  have hqn := pick_nonneg k 6 (by omega)
  have hql := pick_lt k 6 (by omega)
  obtain ⟨n, hne, hn⟩ : ∃ n : Int, n = pick r 6 ∧ (0 ≤ n ∧ n ≤ 5) := ⟨_, rfl, by omega⟩
  obtain ⟨m, hme, hm⟩ : ∃ m : Int, m = n + pick k 6 ∧ (n ≤ m ∧ m ≤ 10) := ⟨_, rfl, by omega⟩
  refine acall_intro (n := 183) (rvs := [.tmp 8]) Try.func13 rfl rfl rfl (Nat.le_of_ble_eq_true rfl) ?_
  refine awp_seq ?_
  refine awp_region ?_
  refine aqs rfl (q_as (by constructor)) rfl ?_
  refine alist_nil ?_
  show AWP _ _ _ _
  refine awp_seq ?_
  refine awp_region ?_
  first | refine aqs rfl (e_callN cb47 (awake47_c _) rfl rfl) rfl ?_ | refine aqs rfl (e_callN cb47 (ACall.arg (awake47_c _) (by repeat (first | exact ArgL.nil | (apply ArgL.cons; (· first | exact .same | exact .cro | exact .nil))))) rfl rfl) rfl ?_
  refine aqs rfl (q_as (by constructor)) rfl ?_
  refine alist_nil ?_
  show AWP _ _ _ _
  refine awp_seq ?_
  refine awp_region ?_
  refine aqs rfl (q_mv (by constructor)) rfl ?_
  first | refine aqs rfl (e_callN cb57 (hne ▸ pick57_c _ _ wr.1 wr.2 (by omega) _) rfl rfl) rfl ?_ | refine aqs rfl (e_callN cb57 (ACall.arg (hne ▸ pick57_c _ _ wr.1 wr.2 (by omega) _) (by repeat (first | exact ArgL.nil | (apply ArgL.cons; (· first | exact .same | exact .cro | exact .nil))))) rfl rfl) rfl ?_
  refine aqs rfl (q_as (by constructor)) rfl ?_
  refine alist_nil ?_
  show AWP _ _ _ _
  refine awp_seq ?_
  refine awp_region ?_
  refine aqs rfl (q_mv (by constructor)) rfl ?_
  refine aqs rfl (q_mv (by constructor)) rfl ?_
  first | refine aqs rfl (e_callN cb57 (pick57_c _ _ wk.1 wk.2 (by omega) _) rfl rfl) rfl ?_ | refine aqs rfl (e_callN cb57 (ACall.arg (pick57_c _ _ wk.1 wk.2 (by omega) _) (by repeat (first | exact ArgL.nil | (apply ArgL.cons; (· first | exact .same | exact .cro | exact .nil))))) rfl rfl) rfl ?_
  first | refine aqs rfl (castQ (r2 := .lit (.int .i64 m)) (q_add64 rfl rfl (by omega) (by omega)) (by rw [hme])) rfl ?_ | refine aqs rfl (castQ (r2 := .lit (.int .i64 m)) (q_add rfl rfl) (by rw [hme])) rfl ?_
  refine aqs rfl (q_as (by constructor)) rfl ?_
  refine alist_nil ?_
  show AWP _ _ _ _
  refine awp_seq ?_
  refine awp_region ?_
  refine aqs rfl (q_as (by constructor)) rfl ?_
  refine alist_nil ?_
  show AWP _ _ _ _
  refine awp_seq ?_
  refine awp_region ?_
  refine aqs rfl (q_as (by constructor)) rfl ?_
  refine alist_nil ?_
  show AWP _ _ _ _
  refine awp_seq ?_
  refine awp_seq ?_
  refine awp_region ?_
  refine aqs rfl (q_as (by constructor)) rfl ?_
  refine alist_nil ?_
  show AWP _ _ _ _
  refine awp_nilro 12 rfl ?_
  refine awp_nilro 13 rfl ?_
  show AWP _ _ _ _
  refine awp_block ?_
  refine awp_loop_inv (fun x : Nat × List Slot × List Slot × List Key => ⟨[(14, .lit (.int .i64 x.1)), (0, .ro (b.map cI)), (1, .ro (bs.map cB)), (10, .lit (.int .i64 n)), (11, .lit (.int .i64 m)), (12, .ro (x.2.1.map Slot.cells)), (13, .ro (x.2.2.1.map Slot.cells)), (9, .lit (.bool true))], 183, []⟩) (fun x => x.1 ≤ b.length ∧ x.1 ≤ 30 ∧ rightB x.2.1 = true ∧ rightB x.2.2.1 = true ∧ keysOf x.2.1 = x.2.2.2.take n.toNat ∧ keysOf x.2.2.1 = x.2.2.2.take m.toNat ∧ x.2.2.2.Nodup) (fun x => 30 - x.1) (0, [], [], []) ?_ ?_ ?_
  · exact ⟨Nat.zero_le _, Nat.zero_le _, rfl, rfl, by simp [keysOf], by simp [keysOf], List.nodup_nil⟩
  · exact .mk' (by repeat (first | exact trivial | refine ⟨rfl, ?_⟩)) (by repeat (first | exact .refl _ | apply List.Sublist.cons_cons | apply List.Sublist.cons))
  · rintro ⟨i, la, lb, D⟩ ⟨hi, hi30, hra, hrb, hka, hkb, hD⟩
    simp only at hi hi30 hra hrb hka hkb hD ⊢
    have hla : la.length ≤ 10 := by
      have h1 : (keysOf la).length ≤ 10 := by rw [hka, List.length_take]; omega
      simpa [keysOf] using h1
    have hlb : lb.length ≤ 10 := by
      have h1 : (keysOf lb).length ≤ 10 := by rw [hkb, List.length_take]; omega
      simpa [keysOf] using h1
    refine awp_seq ?_
    refine awp_mid [(45, .lit (.bool (decide ((i : Int) < (b.map cI).length) && decide ((i : Int) < 30)))), (14, .lit (.int .i64 i)), (0, .ro (b.map cI)), (1, .ro (bs.map cB)), (10, .lit (.int .i64 n)), (11, .lit (.int .i64 m)), (12, .ro (la.map Slot.cells)), (13, .ro (lb.map Slot.cells)), (9, .lit (.bool true))] ?_ ?_
    · skip
      refine awp_region ?_
      all_goals (refine aqs rfl (q_mv (by constructor)) rfl ?_)
      all_goals (refine aqs rfl (q_mv (by constructor)) rfl ?_)
      all_goals (first | refine aqs rfl (q_len Try.underlying25 .ro) rfl ?_ | refine aqs rfl (q_lenO Try.underlying25 rfl (by repeat (first | exact .here | assumption | (apply HAt.left; assumption) | apply HAt.there | apply HAt.right)) (by first | omega | (simp; done) | (simp; omega) | fail) (by first | exact Nat.sub_zero _ | rfl)) rfl ?_ | refine aqs rfl (q_len Try.underlying25 .nil) rfl ?_ | refine aqs rfl (q_len Try.underlying25 .cro) rfl ?_)
      all_goals (refine aqs rfl (q_lss rfl rfl) rfl ?_)
      all_goals (refine aqs rfl (q_mv (by constructor)) rfl ?_)
      all_goals try (refine acase (fun hb4 => ?_) (fun hb4 => ?_))
      all_goals first | (exfalso; cases hb4; done) | skip
      all_goals (first | refine ans rfl rfl ?_ | refine aqs rfl (q_mv (by constructor)) rfl ?_)
      all_goals (first | refine ans rfl rfl ?_ | refine aqs rfl (q_lss rfl rfl) rfl ?_)
      all_goals (first | refine aqs rfl (q_pickT rfl (by constructor)) rfl ?_ | refine aqs rfl (q_pickF rfl (by constructor)) rfl ?_)
      all_goals (refine alist_nil ?_)
      all_goals (exact ⟨rfl, .mk' (by repeat (first | exact trivial | refine ⟨rfl, ?_⟩ | (refine ⟨?_, ?_⟩; (· first | (rw [hb4]; rfl) | fail)))) (.refl _)⟩)
    refine awp_cond rfl (fun hc0 => ?_) (fun hc0 => ?_)
    · simp only [Bool.and_eq_true, decide_eq_true_eq, List.length_map] at hc0
      have hil : i < b.length := by omega
      have hk := wb.1 (b.getD i 0) (by rw [List.getD_eq_getElem?_getD, List.getElem?_eq_getElem hil]; exact List.getElem_mem hil)
      have hk2 := cI_at hil
      obtain ⟨v, hv⟩ := pool_ex ⟨#[97]⟩ ⟨#[98]⟩ ⟨#[99]⟩ i
      obtain ⟨x, hx⟩ : ∃ x, x = slotOf (b.getD i 0) v := ⟨_, rfl⟩
      obtain ⟨y, hy⟩ : ∃ y : Slot, y = ⟨x.key, ⟨#[]⟩, ⟨#[]⟩, ⟨#[103, 111, 116]⟩⟩ := ⟨_, rfl⟩
      have hyk : y.key = x.key := by rw [hy]
      have hyc : y.cells = [.lit (.int .u64 x.key.sum), .lit (.int .i64 x.key.len), .lit (.string ⟨#[]⟩), .lit (.string ⟨#[]⟩), .lit (.string ⟨#[103, 111, 116]⟩)] := by rw [hy]
      refine awp_skip ?_
      show AWP _ _ _ _
      refine awp_seq ?_
      refine awp_block ?_
      refine awp_seq ?_
      refine awp_draw 11 [(0, false), (1, false), (2, false), (3, false), (4, false), (5, false), (6, false), (7, false), (8, false), (9, false), (10, true)] _ ([]) mixed (by kernel_rfl) (perm0 _) ?_
      refine glq rfl (.inl ⟨rfl, q_mv (by constructor)⟩) rfl ?_
      refine glq rfl (.inl ⟨rfl, q_mv (by constructor)⟩) rfl ?_
      first | refine glq rfl (.inl ⟨rfl, q_iaN Try.underlying25 sz3 (.inl rfl) rfl (by omega) (by first | rfl | assumption | (simp [*]; done) | fail) (by first | rfl | assumption | (simp [*]; done) | fail) (by decide) (by first | ((repeat constructor); done) | exact .same _)⟩) rfl ?_ | refine glq rfl (.inl ⟨rfl, q_iaS Try.underlying25 sz3 rfl (by repeat (first | exact .here | assumption | (apply HAt.left; assumption) | apply HAt.there | apply HAt.right)) rfl (by omega) (by omega) (by first | exact Nat.zero_add _ | rfl)⟩) rfl ?_ | refine glq rfl (.inl ⟨rfl, q_iaN Try.underlying25 sz3 (.inr rfl) rfl (by omega) (by first | rfl | assumption | (simp [*]; done) | fail) (by first | rfl | assumption | (simp [*]; done) | fail) (by decide) (by first | ((repeat constructor); done) | exact .same _)⟩) rfl ?_
      first | refine glq rfl (.inl ⟨rfl, q_ldpN ag3 rfl (by repeat (first | exact .here | assumption | (apply HAt.left; assumption) | apply HAt.there | apply HAt.right)) (by first | rfl | assumption | (simp [*]; done) | fail) (by first | rfl | assumption | (simp [*]; done) | fail) (by constructor)⟩) rfl ?_ | refine glq rfl (.inl ⟨rfl, q_ld1N ag3 rfl (by constructor)⟩) rfl ?_
      refine glq rfl (.inl ⟨rfl, q_bs Try.underlying57 sz9 zr9 rfl (by first | ((repeat constructor); done) | exact .same _) rfl (by decide) (by repeat (first | exact BS.nil | (apply BS.cons; (· constructor); (· rfl); (· rfl); (· rfl); (· exact (by first | ((repeat constructor); done) | exact .same _)))))⟩) rfl ?_
      refine glq rfl (.inl ⟨rfl, q_mv (by constructor)⟩) rfl ?_
      first | refine glq rfl (.inl ⟨rfl, q_rem64 rfl rfl (by omega) (by omega)⟩) rfl ?_ | refine glq rfl (.inl ⟨rfl, q_rem rfl rfl (by first | decide | omega)⟩) rfl ?_
      first | refine glq rfl (.inl ⟨rfl, q_iaN Try.underlying57 sz9 (.inl rfl) rfl (by omega) (by first | rfl | assumption | (simp [*]; done) | fail) (by first | rfl | assumption | (simp [*]; done) | fail) (by decide) (by first | ((repeat constructor); done) | exact .same _)⟩) rfl ?_ | refine glq rfl (.inl ⟨rfl, q_iaS Try.underlying57 sz9 rfl (by repeat (first | exact .here | assumption | (apply HAt.left; assumption) | apply HAt.there | apply HAt.right)) rfl (by omega) (by omega) (by first | exact Nat.zero_add _ | rfl)⟩) rfl ?_ | refine glq rfl (.inl ⟨rfl, q_iaN Try.underlying57 sz9 (.inr rfl) rfl (by omega) (by first | rfl | assumption | (simp [*]; done) | fail) (by first | rfl | assumption | (simp [*]; done) | fail) (by decide) (by first | ((repeat constructor); done) | exact .same _)⟩) rfl ?_
      first | refine glq rfl (.inl ⟨rfl, q_ldpN ag9 rfl (by repeat (first | exact .here | assumption | (apply HAt.left; assumption) | apply HAt.there | apply HAt.right)) (by first | rfl | assumption | (simp [*]; done) | fail) (by first | rfl | assumption | (simp [*]; done) | fail) (by constructor)⟩) rfl ?_ | refine glq rfl (.inl ⟨rfl, q_ld1N ag9 rfl (by constructor)⟩) rfl ?_
      first | refine glq rfl (.inl ⟨rfl, e_callN cb53 (hx ▸ slot53_c _ v hk.1 hk.2 _) rfl rfl⟩) rfl ?_ | refine glq rfl (.inl ⟨rfl, e_callN cb53 (ACall.arg (hx ▸ slot53_c _ v hk.1 hk.2 _) (by repeat (first | exact ArgL.nil | (apply ArgL.cons; (· first | exact .same | exact .cro | exact .nil))))) rfl rfl⟩) rfl ?_
      (refine gla rfl rfl (EOp.frame (e_al (xs := [.lit (.int .u64 0), .lit (.int .i64 0), .lit (.string ⟨#[]⟩), .lit (.string ⟨#[]⟩), .lit (.string ⟨#[]⟩)]) (k := 5) zr40 (.same _) rfl)) rfl ?_; rintro _ _ ⟨u15, rfl, rfl⟩)
      refine gldA ?_
      first | (refine aen rfl (e_stW sz40 rfl (by repeat (first | exact .here | assumption | (apply HAt.left; assumption) | apply HAt.there | apply HAt.right)) (by constructor) (by first | rfl | assumption | (simp [*]; done) | fail) rfl (by repeat (first | exact .here | apply HSet.there))) ?_; rintro _ _ ⟨rfl, rfl⟩) | (refine aen rfl (e_stP sz40 rfl (by repeat (first | exact .here | assumption | (apply HAt.left; assumption) | apply HAt.there | apply HAt.right)) (by first | rfl | assumption | (simp [*]; done) | fail) (by constructor) (by first | rfl | assumption | (simp [*]; done) | fail) rfl (by first | decide | omega) (by first | ((repeat constructor); done) | exact .same _) (by first | exact .one | exact .set) (by repeat (first | exact .here | apply HSet.there))) ?_; rintro _ _ ⟨rfl, rfl⟩)
      refine alist_nil ?_
      show AWP _ _ _ _
      refine awp_seq ?_
      refine awp_mid [(67, .lit (.bool (decide ((i : Int) < (bs.map cB).length) && bs.getD i false))), (14, .lit (.int .i64 i)), (0, .ro (b.map cI)), (1, .ro (bs.map cB)), (10, .lit (.int .i64 n)), (11, .lit (.int .i64 m)), (12, .ro (la.map Slot.cells)), (13, .ro (lb.map Slot.cells)), (9, .lit (.bool true)), (15, .ptr u15 0 0)] ?_ ?_
      · skip
        refine awp_region ?_
        all_goals (refine aqs rfl (q_mv (by constructor)) rfl ?_)
        all_goals (refine aqs rfl (q_mv (by constructor)) rfl ?_)
        all_goals (first | refine aqs rfl (q_len Try.underlying54 .ro) rfl ?_ | refine aqs rfl (q_lenO Try.underlying54 rfl (by repeat (first | exact .here | assumption | (apply HAt.left; assumption) | apply HAt.there | apply HAt.right)) (by first | omega | (simp; done) | (simp; omega) | fail) (by first | exact Nat.sub_zero _ | rfl)) rfl ?_ | refine aqs rfl (q_len Try.underlying54 .nil) rfl ?_ | refine aqs rfl (q_len Try.underlying54 .cro) rfl ?_)
        all_goals (refine aqs rfl (q_lss rfl rfl) rfl ?_)
        all_goals (refine aqs rfl (q_mv (by constructor)) rfl ?_)
        all_goals try (refine acase (fun hb4 => ?_) (fun hb4 => ?_))
        all_goals first | (exfalso; cases hb4; done) | skip
        all_goals try (have hbs2 := cB_at (bs := bs) (i := i) (by simpa using hb4))
        all_goals (first | refine ans rfl rfl ?_ | refine aqs rfl (q_mv (by constructor)) rfl ?_)
        all_goals (first | refine ans rfl rfl ?_ | refine aqs rfl (q_mv (by constructor)) rfl ?_)
        all_goals (first | refine ans rfl rfl ?_ | refine aqs rfl (q_iaN Try.underlying54 sz4 (.inl rfl) rfl (by omega) (by first | rfl | assumption | (simp [*]; done) | fail) (by first | rfl | assumption | (simp [*]; done) | fail) (by decide) (by first | ((repeat constructor); done) | exact .same _)) rfl ?_ | refine aqs rfl (q_iaS Try.underlying54 sz4 rfl (by repeat (first | exact .here | assumption | (apply HAt.left; assumption) | apply HAt.there | apply HAt.right)) rfl (by omega) (by omega) (by first | exact Nat.zero_add _ | rfl)) rfl ?_ | refine aqs rfl (q_iaN Try.underlying54 sz4 (.inr rfl) rfl (by omega) (by first | rfl | assumption | (simp [*]; done) | fail) (by first | rfl | assumption | (simp [*]; done) | fail) (by decide) (by first | ((repeat constructor); done) | exact .same _)) rfl ?_)
        all_goals (first | refine ans rfl rfl ?_ | refine aqs rfl (q_ldpN ag4 rfl (by repeat (first | exact .here | assumption | (apply HAt.left; assumption) | apply HAt.there | apply HAt.right)) (by first | rfl | assumption | (simp [*]; done) | fail) (by first | rfl | assumption | (simp [*]; done) | fail) (by constructor)) rfl ?_ | refine aqs rfl (q_ld1N ag4 rfl (by constructor)) rfl ?_)
        all_goals (first | refine aqs rfl (q_pickT rfl (by constructor)) rfl ?_ | refine aqs rfl (q_pickF rfl (by constructor)) rfl ?_)
        all_goals (refine alist_nil ?_)
        all_goals (exact ⟨rfl, .mk' (by repeat (first | exact trivial | refine ⟨rfl, ?_⟩ | (refine ⟨?_, ?_⟩; (· first | (rw [hb4]; rfl) | fail)))) (.refl _)⟩)
      refine awp_cond rfl (fun hc1 => ?_) (fun hc1 => ?_)
      · obtain ⟨A, o1, hpa, hkA, hrA, hlA⟩ := stack_put x hra hn.1 hD hka
        obtain ⟨B, o2, hpb, hkB, hrB, hlB⟩ := stack_put x hrb (show 0 ≤ m by omega) hD hkb
        refine awp_seq ?_
        refine awp_region ?_
        refine aqs rfl (q_mv (by constructor)) rfl ?_
        refine aqs rfl (q_mv (by constructor)) rfl ?_
        first | refine aqs rfl (q_ldpW ag40 sz40 rfl (by repeat (first | exact .here | assumption | (apply HAt.left; assumption) | apply HAt.there | apply HAt.right)) (by first | rfl | assumption | (simp [*]; done) | fail) (by first | rfl | assumption | (simp [*]; done) | fail) (by decide)) rfl ?_ | refine aqs rfl (q_ldW ag40 sz40 rfl (by first | rfl | assumption | (simp [*]; done) | fail)) rfl ?_ | refine aqs rfl (q_ldpP ag40 sz40 rfl (by repeat (first | exact .here | assumption | (apply HAt.left; assumption) | apply HAt.there | apply HAt.right)) (by first | rfl | assumption | (simp [*]; done) | fail) (by first | decide | (simp; done) | omega | fail) (by decide) (by first | ((repeat constructor); done) | exact .same _)) rfl ?_ | refine aqs rfl (q_ldP ag40 sz40 rfl (by first | decide | (simp; done) | omega | fail) (by first | ((repeat constructor); done) | exact .same _)) rfl ?_
        first | refine aqs rfl (e_callN cb58 (hpa ▸ put58_c la (by omega) n x _) rfl rfl) rfl ?_ | refine aqs rfl (e_callN cb58 (ACall.arg (hpa ▸ put58_c la (by omega) n x _) (by repeat (first | exact ArgL.nil | (apply ArgL.cons; (· first | exact .same | exact .cro | exact .nil))))) rfl rfl) rfl ?_
        refine aqs rfl (q_mv (by constructor)) rfl ?_
        refine aqs rfl (q_ex rfl rfl (by constructor)) rfl ?_
        refine aqs rfl (q_ex rfl rfl (by constructor)) rfl ?_
        refine aqs rfl (q_ex rfl rfl (by constructor)) rfl ?_
        refine aqs rfl (q_as (by constructor)) rfl ?_
        refine aqs rfl (q_as (by constructor)) rfl ?_
        refine aqs rfl (q_as (by constructor)) rfl ?_
        refine alist_nil ?_
        show AWP _ _ _ _
        refine awp_seq ?_
        refine awp_region ?_
        refine aqs rfl (q_mv (by constructor)) rfl ?_
        refine aqs rfl (q_mv (by constructor)) rfl ?_
        first | refine aqs rfl (q_ldpW ag40 sz40 rfl (by repeat (first | exact .here | assumption | (apply HAt.left; assumption) | apply HAt.there | apply HAt.right)) (by first | rfl | assumption | (simp [*]; done) | fail) (by first | rfl | assumption | (simp [*]; done) | fail) (by decide)) rfl ?_ | refine aqs rfl (q_ldW ag40 sz40 rfl (by first | rfl | assumption | (simp [*]; done) | fail)) rfl ?_ | refine aqs rfl (q_ldpP ag40 sz40 rfl (by repeat (first | exact .here | assumption | (apply HAt.left; assumption) | apply HAt.there | apply HAt.right)) (by first | rfl | assumption | (simp [*]; done) | fail) (by first | decide | (simp; done) | omega | fail) (by decide) (by first | ((repeat constructor); done) | exact .same _)) rfl ?_ | refine aqs rfl (q_ldP ag40 sz40 rfl (by first | decide | (simp; done) | omega | fail) (by first | ((repeat constructor); done) | exact .same _)) rfl ?_
        first | refine aqs rfl (e_callN cb58 (hpb ▸ put58_c lb (by omega) m x _) rfl rfl) rfl ?_ | refine aqs rfl (e_callN cb58 (ACall.arg (hpb ▸ put58_c lb (by omega) m x _) (by repeat (first | exact ArgL.nil | (apply ArgL.cons; (· first | exact .same | exact .cro | exact .nil))))) rfl rfl) rfl ?_
        refine aqs rfl (q_mv (by constructor)) rfl ?_
        refine aqs rfl (q_ex rfl rfl (by constructor)) rfl ?_
        refine aqs rfl (q_ex rfl rfl (by constructor)) rfl ?_
        refine aqs rfl (q_ex rfl rfl (by constructor)) rfl ?_
        refine aqs rfl (q_as (by constructor)) rfl ?_
        refine aqs rfl (q_as (by constructor)) rfl ?_
        refine aqs rfl (q_as (by constructor)) rfl ?_
        refine alist_nil ?_
        show AWP _ _ _ _
        refine awp_seq ?_
        refine awp_seq ?_
        refine awp_region ?_
        refine aqs rfl (q_mv (by constructor)) rfl ?_
        refine aqs rfl (castF (q_neq rfl rfl) (by rfl)) rfl ?_
        refine aqs rfl (q_mv (by constructor)) rfl ?_
        first | refine ans rfl rfl ?_ | refine aqs rfl (q_mv (by constructor)) rfl ?_
        refine aqs rfl (castF (q_neq rfl rfl) (by rfl)) rfl ?_
        first | refine aqs rfl (q_pickT rfl (by constructor)) rfl ?_ | refine aqs rfl (q_pickF rfl (by constructor)) rfl ?_
        refine alist_nil ?_
        show AWP _ _ _ _
        refine awp_cond rfl (fun hc2 => ?_) (fun hc2 => ?_)
        · exfalso; first | (simp at hc2; done) | (simp at hc2; omega) | contradiction
        · try simp only [decide_eq_true_eq, decide_eq_false_iff_not, Bool.not_eq_true', Bool.not_eq_false', Bool.not_eq_eq_eq_not, Bool.not_true, Bool.not_false, beq_iff_eq, beq_eq_false_iff_ne, Int.not_lt, Int.not_le] at hc2
          refine awp_skip ?_
          show AWP _ _ _ _
          refine awp_seq ?_
          refine awp_region ?_
          refine aqs rfl (q_mv (by constructor)) rfl ?_
          refine aqs rfl (q_as (by constructor)) rfl ?_
          refine alist_nil ?_
          show AWP _ _ _ _
          refine awp_region ?_
          refine aqs rfl (q_mv (by constructor)) rfl ?_
          refine aqs rfl (q_as (by constructor)) rfl ?_
          refine alist_nil ?_
          show AWP _ _ _ _
          refine awp_seq ?_
          refine awp_region ?_
          refine aqs rfl (q_mv (by constructor)) rfl ?_
          first | refine aqs rfl (e_callN cb49 (hkA ▸ keys49_c A (by omega) _) rfl rfl) rfl ?_ | refine aqs rfl (e_callN cb49 (ACall.arg (hkA ▸ keys49_c A (by omega) _) (by repeat (first | exact ArgL.nil | (apply ArgL.cons; (· first | exact .same | exact .cro | exact .nil))))) rfl rfl) rfl ?_
          refine aqs rfl (q_as (by constructor)) rfl ?_
          refine alist_nil ?_
          show AWP _ _ _ _
          refine awp_seq ?_
          refine awp_region ?_
          refine aqs rfl (q_mv (by constructor)) rfl ?_
          first | refine aqs rfl (e_callN cb49 (hkB ▸ keys49_c B (by omega) _) rfl rfl) rfl ?_ | refine aqs rfl (e_callN cb49 (ACall.arg (hkB ▸ keys49_c B (by omega) _) (by repeat (first | exact ArgL.nil | (apply ArgL.cons; (· first | exact .same | exact .cro | exact .nil))))) rfl rfl) rfl ?_
          refine aqs rfl (q_as (by constructor)) rfl ?_
          refine alist_nil ?_
          show AWP _ _ _ _
          refine awp_seq ?_
          refine awp_seq ?_
          refine awp_region ?_
          refine aqs rfl (q_mv (by constructor)) rfl ?_
          first | refine aqs rfl (q_len Try.underlying43 .ro) rfl ?_ | refine aqs rfl (q_lenO Try.underlying43 rfl (by repeat (first | exact .here | assumption | (apply HAt.left; assumption) | apply HAt.there | apply HAt.right)) (by first | omega | (simp; done) | (simp; omega) | fail) (by first | exact Nat.sub_zero _ | rfl)) rfl ?_ | refine aqs rfl (q_len Try.underlying43 .nil) rfl ?_ | refine aqs rfl (q_len Try.underlying43 .cro) rfl ?_
          refine aqs rfl (q_mv (by constructor)) rfl ?_
          first | refine aqs rfl (q_len Try.underlying43 .ro) rfl ?_ | refine aqs rfl (q_lenO Try.underlying43 rfl (by repeat (first | exact .here | assumption | (apply HAt.left; assumption) | apply HAt.there | apply HAt.right)) (by first | omega | (simp; done) | (simp; omega) | fail) (by first | exact Nat.sub_zero _ | rfl)) rfl ?_ | refine aqs rfl (q_len Try.underlying43 .nil) rfl ?_ | refine aqs rfl (q_len Try.underlying43 .cro) rfl ?_
          refine aqs rfl (castF (q_gtr rfl rfl) (by exact decide_eq_false (by simp only [List.length_map, List.length_take]; omega))) rfl ?_
          refine aqs rfl (q_mv (by constructor)) rfl ?_
          first | refine ans rfl rfl ?_ | refine aqs rfl (q_mv (by constructor)) rfl ?_
          first | refine ans rfl rfl ?_ | refine aqs rfl (q_len Try.underlying43 .ro) rfl ?_ | refine aqs rfl (q_lenO Try.underlying43 rfl (by repeat (first | exact .here | assumption | (apply HAt.left; assumption) | apply HAt.there | apply HAt.right)) (by first | omega | (simp; done) | (simp; omega) | fail) (by first | exact Nat.sub_zero _ | rfl)) rfl ?_ | refine aqs rfl (q_len Try.underlying43 .nil) rfl ?_ | refine aqs rfl (q_len Try.underlying43 .cro) rfl ?_
          first | refine ans rfl rfl ?_ | refine aqs rfl (q_mv (by constructor)) rfl ?_
          refine aqs rfl (castF (q_gtr rfl rfl) (by exact decide_eq_false (by simp only [List.length_map, List.length_take]; omega))) rfl ?_
          first | refine aqs rfl (q_pickT rfl (by constructor)) rfl ?_ | refine aqs rfl (q_pickF rfl (by constructor)) rfl ?_
          refine aqs rfl (q_mv (by constructor)) rfl ?_
          first | refine ans rfl rfl ?_ | refine aqs rfl (q_mv (by constructor)) rfl ?_
          first | refine ans rfl rfl ?_ | refine aqs rfl (q_len Try.underlying43 .ro) rfl ?_ | refine aqs rfl (q_lenO Try.underlying43 rfl (by repeat (first | exact .here | assumption | (apply HAt.left; assumption) | apply HAt.there | apply HAt.right)) (by first | omega | (simp; done) | (simp; omega) | fail) (by first | exact Nat.sub_zero _ | rfl)) rfl ?_ | refine aqs rfl (q_len Try.underlying43 .nil) rfl ?_ | refine aqs rfl (q_len Try.underlying43 .cro) rfl ?_
          first | refine ans rfl rfl ?_ | refine aqs rfl (q_mv (by constructor)) rfl ?_
          refine aqs rfl (castF (q_gtr rfl rfl) (by exact decide_eq_false (by simp only [List.length_map, List.length_take]; omega))) rfl ?_
          first | refine aqs rfl (q_pickT rfl (by constructor)) rfl ?_ | refine aqs rfl (q_pickF rfl (by constructor)) rfl ?_
          refine alist_nil ?_
          show AWP _ _ _ _
          refine awp_cond rfl (fun hc7 => ?_) (fun hc7 => ?_)
          · exfalso; first | (simp at hc7; done) | (simp at hc7; omega) | contradiction
          · try simp only [decide_eq_true_eq, decide_eq_false_iff_not, Bool.not_eq_true', Bool.not_eq_false', Bool.not_eq_eq_eq_not, Bool.not_true, Bool.not_false, beq_iff_eq, beq_eq_false_iff_ne, Int.not_lt, Int.not_le] at hc7
            refine awp_skip ?_
            show AWP _ _ _ _
            refine awp_seq ?_
            refine awp_region ?_
            refine aqs rfl (q_as (by constructor)) rfl ?_
            refine alist_nil ?_
            show AWP _ _ _ _
            refine awp_block ?_
            refine awp_loop_inv (fun j : Nat => ⟨[(30, .lit (.int .i64 j)), (28, .ro (((front x.key D).take n.toNat).map Key.cells)), (29, .ro (((front x.key D).take m.toNat).map Key.cells)), (14, .lit (.int .i64 i)), (0, .ro (b.map cI)), (1, .ro (bs.map cB)), (10, .lit (.int .i64 n)), (11, .lit (.int .i64 m)), (12, .ro (A.map Slot.cells)), (13, .ro (B.map Slot.cells)), (9, .lit (.bool true))], 183, []⟩) (fun j => j ≤ ((front x.key D).take n.toNat).length) (fun j => ((front x.key D).take n.toNat).length - j) 0 ?_ ?_ ?_
            · exact Nat.zero_le _
            · exact .mk' (by repeat (first | exact trivial | refine ⟨rfl, ?_⟩)) (by repeat (first | exact .refl _ | apply List.Sublist.cons_cons | apply List.Sublist.cons))
            · intro j hj
              have hjn : ((front x.key D).take n.toNat).length ≤ n.toNat := by rw [List.length_take]; omega
              refine awp_seq ?_
              refine awp_seq ?_
              refine awp_region ?_
              refine aqs rfl (q_mv (by constructor)) rfl ?_
              refine aqs rfl (q_mv (by constructor)) rfl ?_
              first | refine aqs rfl (q_len Try.underlying43 .ro) rfl ?_ | refine aqs rfl (q_lenO Try.underlying43 rfl (by repeat (first | exact .here | assumption | (apply HAt.left; assumption) | apply HAt.there | apply HAt.right)) (by first | omega | (simp; done) | (simp; omega) | fail) (by first | exact Nat.sub_zero _ | rfl)) rfl ?_ | refine aqs rfl (q_len Try.underlying43 .nil) rfl ?_ | refine aqs rfl (q_len Try.underlying43 .cro) rfl ?_
              refine aqs rfl (q_lss rfl rfl) rfl ?_
              refine alist_nil ?_
              show AWP _ _ _ _
              refine awp_cond rfl (fun hc8 => ?_) (fun hc8 => ?_)
              · simp only [decide_eq_true_eq, List.length_map] at hc8
                obtain ⟨z, hz, hzm⟩ := get_lt (l := (front x.key D).take n.toNat) (i := j) (by omega)
                have hz2 := get_map (f := Key.cells) hz
                have hz3 : ((front x.key D).take m.toNat)[j]? = some z := by
                  rw [List.getElem?_take_of_lt (by omega)] at hz ⊢; exact hz
                have hz4 := get_map (f := Key.cells) hz3
                refine awp_skip ?_
                show AWP _ _ _ _
                refine awp_seq ?_
                refine awp_block ?_
                refine awp_seq ?_
                refine awp_draw 9 [(0, false), (1, false), (2, false), (3, false), (4, false), (5, false), (6, false), (7, false), (8, false)] _ ([]) mixed (by kernel_rfl) (perm0 _) ?_
                refine glq rfl (.inl ⟨rfl, q_mv (by constructor)⟩) rfl ?_
                refine glq rfl (.inl ⟨rfl, q_mv (by constructor)⟩) rfl ?_
                first | refine glq rfl (.inl ⟨rfl, q_iaN Try.underlying43 sz29 (.inl rfl) rfl (by omega) (by first | rfl | assumption | (simp [*]; done) | fail) (by first | rfl | assumption | (simp [*]; done) | fail) (by decide) (by first | ((repeat constructor); done) | exact .same _)⟩) rfl ?_ | refine glq rfl (.inl ⟨rfl, q_iaS Try.underlying43 sz29 rfl (by repeat (first | exact .here | assumption | (apply HAt.left; assumption) | apply HAt.there | apply HAt.right)) rfl (by omega) (by omega) (by first | exact Nat.zero_add _ | rfl)⟩) rfl ?_ | refine glq rfl (.inl ⟨rfl, q_iaN Try.underlying43 sz29 (.inr rfl) rfl (by omega) (by first | rfl | assumption | (simp [*]; done) | fail) (by first | rfl | assumption | (simp [*]; done) | fail) (by decide) (by first | ((repeat constructor); done) | exact .same _)⟩) rfl ?_
                first | refine glq rfl (.inl ⟨rfl, q_ldpW ag29 sz29 rfl (by repeat (first | exact .here | assumption | (apply HAt.left; assumption) | apply HAt.there | apply HAt.right)) (by first | rfl | assumption | (simp [*]; done) | fail) (by first | rfl | assumption | (simp [*]; done) | fail) (by decide)⟩) rfl ?_ | refine glq rfl (.inl ⟨rfl, q_ldW ag29 sz29 rfl (by first | rfl | assumption | (simp [*]; done) | fail)⟩) rfl ?_ | refine glq rfl (.inl ⟨rfl, q_ldpP ag29 sz29 rfl (by repeat (first | exact .here | assumption | (apply HAt.left; assumption) | apply HAt.there | apply HAt.right)) (by first | rfl | assumption | (simp [*]; done) | fail) (by first | decide | (simp; done) | omega | fail) (by decide) (by first | ((repeat constructor); done) | exact .same _)⟩) rfl ?_ | refine glq rfl (.inl ⟨rfl, q_ldP ag29 sz29 rfl (by first | decide | (simp; done) | omega | fail) (by first | ((repeat constructor); done) | exact .same _)⟩) rfl ?_
                refine glq rfl (.inl ⟨rfl, q_mv (by constructor)⟩) rfl ?_
                refine glq rfl (.inl ⟨rfl, q_mv (by constructor)⟩) rfl ?_
                first | refine glq rfl (.inl ⟨rfl, q_iaN Try.underlying43 sz29 (.inl rfl) rfl (by omega) (by first | rfl | assumption | (simp [*]; done) | fail) (by first | rfl | assumption | (simp [*]; done) | fail) (by decide) (by first | ((repeat constructor); done) | exact .same _)⟩) rfl ?_ | refine glq rfl (.inl ⟨rfl, q_iaS Try.underlying43 sz29 rfl (by repeat (first | exact .here | assumption | (apply HAt.left; assumption) | apply HAt.there | apply HAt.right)) rfl (by omega) (by omega) (by first | exact Nat.zero_add _ | rfl)⟩) rfl ?_ | refine glq rfl (.inl ⟨rfl, q_iaN Try.underlying43 sz29 (.inr rfl) rfl (by omega) (by first | rfl | assumption | (simp [*]; done) | fail) (by first | rfl | assumption | (simp [*]; done) | fail) (by decide) (by first | ((repeat constructor); done) | exact .same _)⟩) rfl ?_
                first | refine glq rfl (.inl ⟨rfl, q_ldpW ag29 sz29 rfl (by repeat (first | exact .here | assumption | (apply HAt.left; assumption) | apply HAt.there | apply HAt.right)) (by first | rfl | assumption | (simp [*]; done) | fail) (by first | rfl | assumption | (simp [*]; done) | fail) (by decide)⟩) rfl ?_ | refine glq rfl (.inl ⟨rfl, q_ldW ag29 sz29 rfl (by first | rfl | assumption | (simp [*]; done) | fail)⟩) rfl ?_ | refine glq rfl (.inl ⟨rfl, q_ldpP ag29 sz29 rfl (by repeat (first | exact .here | assumption | (apply HAt.left; assumption) | apply HAt.there | apply HAt.right)) (by first | rfl | assumption | (simp [*]; done) | fail) (by first | decide | (simp; done) | omega | fail) (by decide) (by first | ((repeat constructor); done) | exact .same _)⟩) rfl ?_ | refine glq rfl (.inl ⟨rfl, q_ldP ag29 sz29 rfl (by first | decide | (simp; done) | omega | fail) (by first | ((repeat constructor); done) | exact .same _)⟩) rfl ?_
                refine glq rfl (.inl ⟨rfl, castF (q_neqA gd29 rfl rfl (by repeat constructor) (by repeat constructor) (fun w => eq29 w)) (by rw [keq]; simp)⟩) rfl ?_
                (first | refine gld0 ?_ | refine gldA ?_)
                refine alist_nil ?_
                show AWP _ _ _ _
                refine awp_cond rfl (fun hc9 => ?_) (fun hc9 => ?_)
                · exfalso; first | (simp at hc9; done) | (simp at hc9; omega) | contradiction
                · try simp only [decide_eq_true_eq, decide_eq_false_iff_not, Bool.not_eq_true', Bool.not_eq_false', Bool.not_eq_eq_eq_not, Bool.not_true, Bool.not_false, beq_iff_eq, beq_eq_false_iff_ne, Int.not_lt, Int.not_le] at hc9
                  refine awp_skip ?_
                  show AWP _ _ _ _
                  refine awp_region ?_
                  refine aqs rfl (q_mv (by constructor)) rfl ?_
                  first | refine aqs rfl (q_add64 rfl rfl (by omega) (by omega)) rfl ?_ | refine aqs rfl (q_add rfl rfl) rfl ?_
                  refine aqs rfl (q_as (by constructor)) rfl ?_
                  refine alist_nil ?_
                  show ∃ y, _ ∧ _ ∧ _
                  exact ⟨j + 1, by omega, by omega, .mk' ⟨by rfl, rfl, rfl, rfl, rfl, rfl, rfl, rfl, rfl, rfl, rfl, trivial⟩ (by repeat (first | exact List.Sublist.refl _ | exact List.nil_sublist _ | exact List.sublist_append_left _ _ | (apply List.Sublist.cons_cons) | (apply List.Sublist.cons)))⟩
              · skip
                refine awp_exit ?_
                show AWP _ _ _ _
                refine awp_region ?_
                refine aqs rfl (q_mv (by constructor)) rfl ?_
                first | refine aqs rfl (q_add64 rfl rfl (by omega) (by omega)) rfl ?_ | refine aqs rfl (q_add rfl rfl) rfl ?_
                refine aqs rfl (q_as (by constructor)) rfl ?_
                refine alist_nil ?_
                show ∃ y, _ ∧ _ ∧ _
                exact ⟨(i + 1, A, B, front x.key D), ⟨by show i + 1 ≤ b.length; omega, by show i + 1 ≤ 30; omega, hrA, hrB, hkA, hkB, front_nodup hD⟩, by show 30 - (i + 1) < 30 - i; omega, .mk' ⟨by rfl, rfl, rfl, rfl, rfl, rfl, rfl, rfl, trivial⟩ (by repeat (first | exact List.Sublist.refl _ | exact List.nil_sublist _ | exact List.sublist_append_left _ _ | (apply List.Sublist.cons_cons) | (apply List.Sublist.cons)))⟩
      · obtain ⟨s1, A, e1, hga⟩ : ∃ s A e, getS la x.key = (s, A, e) := ⟨_, _, _, rfl⟩
        obtain ⟨s2, B, e2, hgb⟩ : ∃ s A e, getS lb x.key = (s, A, e) := ⟨_, _, _, rfl⟩
        obtain ⟨hkA, hrA, hlA⟩ := stack_get hra hD hka hga
        obtain ⟨hkB, hrB, hlB⟩ := stack_get hrb hD hkb hgb
        have hab : e1 = 0 → e2 = 0 := fun he => by
          have h1 := (hit_iff (k := x.key) hra).1 (by rw [hga]; exact he)
          have h2 : x.key ∈ keysOf lb := by
            rw [hkb]
            rw [hka] at h1
            exact (List.take_prefix_take_left (show n.toNat ≤ m.toNat by omega)).subset h1
          have h3 := (hit_iff (k := x.key) hrb).2 h2
          rw [hgb] at h3
          exact h3
        refine awp_seq ?_
        refine awp_region ?_
        refine aqs rfl (q_mv (by constructor)) rfl ?_
        first | refine aqs rfl (q_fapP fl40_0 (by decide) rfl rfl) rfl ?_ | refine aqs rfl (q_faP fl40_0 (by decide) rfl (by first | ((repeat constructor); done) | exact .same _)) rfl ?_
        first | refine aqs rfl (q_ldpW ag29 sz29 rfl (by repeat (first | exact .here | assumption | (apply HAt.left; assumption) | apply HAt.there | apply HAt.right)) (by first | rfl | assumption | (simp [*]; done) | fail) (by first | rfl | assumption | (simp [*]; done) | fail) (by decide)) rfl ?_ | refine aqs rfl (q_ldW ag29 sz29 rfl (by first | rfl | assumption | (simp [*]; done) | fail)) rfl ?_ | refine aqs rfl (q_ldpP ag29 sz29 rfl (by repeat (first | exact .here | assumption | (apply HAt.left; assumption) | apply HAt.there | apply HAt.right)) (by first | rfl | assumption | (simp [*]; done) | fail) (by first | decide | (simp; done) | omega | fail) (by decide) (by first | ((repeat constructor); done) | exact .same _)) rfl ?_ | refine aqs rfl (q_ldP ag29 sz29 rfl (by first | decide | (simp; done) | omega | fail) (by first | ((repeat constructor); done) | exact .same _)) rfl ?_
        first | refine aqs rfl (e_callN cb54 (hga ▸ get54_c la (by omega) x.key _) rfl rfl) rfl ?_ | refine aqs rfl (e_callN cb54 (ACall.arg (hga ▸ get54_c la (by omega) x.key _) (by repeat (first | exact ArgL.nil | (apply ArgL.cons; (· first | exact .same | exact .cro | exact .nil))))) rfl rfl) rfl ?_
        refine aqs rfl (q_mv (by constructor)) rfl ?_
        refine aqs rfl (q_ex rfl rfl (by constructor)) rfl ?_
        refine aqs rfl (q_ex rfl rfl (by constructor)) rfl ?_
        refine aqs rfl (q_ex rfl rfl (by constructor)) rfl ?_
        (refine aes rfl (e_al (xs := [.lit (.int .u64 0), .lit (.int .i64 0), .lit (.string ⟨#[]⟩), .lit (.string ⟨#[]⟩), .lit (.string ⟨#[]⟩)]) (k := 5) zr40 (.same _) rfl) rfl ?_; rintro _ _ ⟨u22, rfl, rfl⟩)
        first | (refine aen rfl (e_stW sz40 rfl (by repeat (first | exact .here | assumption | (apply HAt.left; assumption) | apply HAt.there | apply HAt.right)) (by constructor) (by first | rfl | assumption | (simp [*]; done) | fail) rfl (by repeat (first | exact .here | apply HSet.there))) ?_; rintro _ _ ⟨rfl, rfl⟩) | (refine aen rfl (e_stP sz40 rfl (by repeat (first | exact .here | assumption | (apply HAt.left; assumption) | apply HAt.there | apply HAt.right)) (by first | rfl | assumption | (simp [*]; done) | fail) (by constructor) (by first | rfl | assumption | (simp [*]; done) | fail) rfl (by first | decide | omega) (by first | ((repeat constructor); done) | exact .same _) (by first | exact .one | exact .set) (by repeat (first | exact .here | apply HSet.there))) ?_; rintro _ _ ⟨rfl, rfl⟩)
        refine aqs rfl (q_as (by constructor)) rfl ?_
        refine aqs rfl (q_as (by constructor)) rfl ?_
        refine alist_nil ?_
        show AWP _ _ _ _
        refine awp_seq ?_
        refine awp_region ?_
        refine aqs rfl (q_mv (by constructor)) rfl ?_
        first | refine aqs rfl (q_fapP fl40_0 (by decide) rfl rfl) rfl ?_ | refine aqs rfl (q_faP fl40_0 (by decide) rfl (by first | ((repeat constructor); done) | exact .same _)) rfl ?_
        first | refine aqs rfl (q_ldpW ag29 sz29 rfl (by repeat (first | exact .here | assumption | (apply HAt.left; assumption) | apply HAt.there | apply HAt.right)) (by first | rfl | assumption | (simp [*]; done) | fail) (by first | rfl | assumption | (simp [*]; done) | fail) (by decide)) rfl ?_ | refine aqs rfl (q_ldW ag29 sz29 rfl (by first | rfl | assumption | (simp [*]; done) | fail)) rfl ?_ | refine aqs rfl (q_ldpP ag29 sz29 rfl (by repeat (first | exact .here | assumption | (apply HAt.left; assumption) | apply HAt.there | apply HAt.right)) (by first | rfl | assumption | (simp [*]; done) | fail) (by first | decide | (simp; done) | omega | fail) (by decide) (by first | ((repeat constructor); done) | exact .same _)) rfl ?_ | refine aqs rfl (q_ldP ag29 sz29 rfl (by first | decide | (simp; done) | omega | fail) (by first | ((repeat constructor); done) | exact .same _)) rfl ?_
        first | refine aqs rfl (e_callN cb54 (hgb ▸ get54_c lb (by omega) x.key _) rfl rfl) rfl ?_ | refine aqs rfl (e_callN cb54 (ACall.arg (hgb ▸ get54_c lb (by omega) x.key _) (by repeat (first | exact ArgL.nil | (apply ArgL.cons; (· first | exact .same | exact .cro | exact .nil))))) rfl rfl) rfl ?_
        refine aqs rfl (q_mv (by constructor)) rfl ?_
        refine aqs rfl (q_ex rfl rfl (by constructor)) rfl ?_
        refine aqs rfl (q_ex rfl rfl (by constructor)) rfl ?_
        refine aqs rfl (q_ex rfl rfl (by constructor)) rfl ?_
        (refine aes rfl (e_al (xs := [.lit (.int .u64 0), .lit (.int .i64 0), .lit (.string ⟨#[]⟩), .lit (.string ⟨#[]⟩), .lit (.string ⟨#[]⟩)]) (k := 5) zr40 (.same _) rfl) rfl ?_; rintro _ _ ⟨u25, rfl, rfl⟩)
        first | (refine aen rfl (e_stW sz40 rfl (by repeat (first | exact .here | assumption | (apply HAt.left; assumption) | apply HAt.there | apply HAt.right)) (by constructor) (by first | rfl | assumption | (simp [*]; done) | fail) rfl (by repeat (first | exact .here | apply HSet.there))) ?_; rintro _ _ ⟨rfl, rfl⟩) | (refine aen rfl (e_stP sz40 rfl (by repeat (first | exact .here | assumption | (apply HAt.left; assumption) | apply HAt.there | apply HAt.right)) (by first | rfl | assumption | (simp [*]; done) | fail) (by constructor) (by first | rfl | assumption | (simp [*]; done) | fail) rfl (by first | decide | omega) (by first | ((repeat constructor); done) | exact .same _) (by first | exact .one | exact .set) (by repeat (first | exact .here | apply HSet.there))) ?_; rintro _ _ ⟨rfl, rfl⟩)
        refine aqs rfl (q_as (by constructor)) rfl ?_
        refine aqs rfl (q_as (by constructor)) rfl ?_
        refine alist_nil ?_
        show AWP _ _ _ _
        refine awp_seq ?_
        refine awp_mid [(113, .lit (.bool (decide (e1 = 0) && !decide (e2 = 0)))), (14, .lit (.int .i64 i)), (0, .ro (b.map cI)), (1, .ro (bs.map cB)), (10, .lit (.int .i64 n)), (11, .lit (.int .i64 m)), (12, .ro (la.map Slot.cells)), (13, .ro (lb.map Slot.cells)), (9, .lit (.bool true)), (15, .ptr u15 0 0), (23, .ro (A.map Slot.cells)), (24, .lit (.int .i64 e1)), (26, .ro (B.map Slot.cells)), (27, .lit (.int .i64 e2))] ?_ ?_
        · skip
          refine awp_region ?_
          all_goals (refine aqs rfl (q_mv (by constructor)) rfl ?_)
          all_goals (refine aqs rfl (q_eql rfl rfl) rfl ?_)
          all_goals (refine aqs rfl (q_mv (by constructor)) rfl ?_)
          all_goals try (refine acase (fun hb2 => ?_) (fun hb2 => ?_))
          all_goals first | (exfalso; cases hb2; done) | skip
          all_goals (first | refine ans rfl rfl ?_ | refine aqs rfl (q_mv (by constructor)) rfl ?_)
          all_goals (first | refine ans rfl rfl ?_ | refine aqs rfl (q_neq rfl rfl) rfl ?_)
          all_goals (first | refine aqs rfl (q_pickT rfl (by constructor)) rfl ?_ | refine aqs rfl (q_pickF rfl (by constructor)) rfl ?_)
          all_goals (refine alist_nil ?_)
          all_goals (exact ⟨rfl, .mk' (by repeat (first | exact trivial | refine ⟨rfl, ?_⟩ | (refine ⟨?_, ?_⟩; (· first | (rw [hb2]; rfl) | fail)))) (.refl _)⟩)
        refine awp_cond rfl (fun hc3 => ?_) (fun hc3 => ?_)
        · exfalso
          simp only [Bool.and_eq_true, decide_eq_true_eq, Bool.not_eq_true', decide_eq_false_iff_not] at hc3
          exact hc3.2 (hab hc3.1)
        · try simp only [decide_eq_true_eq, decide_eq_false_iff_not, Bool.not_eq_true', Bool.not_eq_false', Bool.not_eq_eq_eq_not, Bool.not_true, Bool.not_false, beq_iff_eq, beq_eq_false_iff_ne, Int.not_lt, Int.not_le] at hc3
          refine awp_skip ?_
          show AWP _ _ _ _
          refine awp_seq ?_
          refine awp_seq ?_
          refine awp_region ?_
          refine aqs rfl (q_mv (by constructor)) rfl ?_
          refine aqs rfl (q_neq rfl rfl) rfl ?_
          refine alist_nil ?_
          show AWP _ _ _ _
          refine awp_cond rfl (fun hc4 => ?_) (fun hc4 => ?_)
          · obtain ⟨A, o1, hpa, hkA, hrA, hlA⟩ := stack_put y hra hn.1 hD hka
            rw [hyk] at hkA
            refine awp_seq ?_
            refine awp_region ?_
            refine aqs rfl (q_mv (by constructor)) rfl ?_
            refine aqs rfl (q_mv (by constructor)) rfl ?_
            first | refine aqs rfl (q_fapP fl40_0 (by decide) rfl rfl) rfl ?_ | refine aqs rfl (q_faP fl40_0 (by decide) rfl (by first | ((repeat constructor); done) | exact .same _)) rfl ?_
            first | refine aqs rfl (q_ldpW ag29 sz29 rfl (by repeat (first | exact .here | assumption | (apply HAt.left; assumption) | apply HAt.there | apply HAt.right)) (by first | rfl | assumption | (simp [*]; done) | fail) (by first | rfl | assumption | (simp [*]; done) | fail) (by decide)) rfl ?_ | refine aqs rfl (q_ldW ag29 sz29 rfl (by first | rfl | assumption | (simp [*]; done) | fail)) rfl ?_ | refine aqs rfl (q_ldpP ag29 sz29 rfl (by repeat (first | exact .here | assumption | (apply HAt.left; assumption) | apply HAt.there | apply HAt.right)) (by first | rfl | assumption | (simp [*]; done) | fail) (by first | decide | (simp; done) | omega | fail) (by decide) (by first | ((repeat constructor); done) | exact .same _)) rfl ?_ | refine aqs rfl (q_ldP ag29 sz29 rfl (by first | decide | (simp; done) | omega | fail) (by first | ((repeat constructor); done) | exact .same _)) rfl ?_
            refine aqs rfl (q_bd st40 zr40 (by first | ((repeat constructor); done) | exact .same _) (by repeat (first | exact BD.nil | (apply BD.cons; (· rfl); (· constructor); (· rfl); (· rfl); (· exact Nat.le_of_ble_eq_true (by rfl)); (· exact (by first | ((repeat constructor); done) | exact .same _)))))) rfl ?_
            first | refine aqs rfl (e_callN cb58 (hyc ▸ hpa ▸ put58_c la (by omega) n y _) rfl rfl) rfl ?_ | refine aqs rfl (e_callN cb58 (ACall.arg (hyc ▸ hpa ▸ put58_c la (by omega) n y _) (by repeat (first | exact ArgL.nil | (apply ArgL.cons; (· first | exact .same | exact .cro | exact .nil))))) rfl rfl) rfl ?_
            refine aqs rfl (q_mv (by constructor)) rfl ?_
            refine aqs rfl (q_ex rfl rfl (by constructor)) rfl ?_
            refine aqs rfl (q_ex rfl rfl (by constructor)) rfl ?_
            refine aqs rfl (q_ex rfl rfl (by constructor)) rfl ?_
            refine aqs rfl (q_as (by constructor)) rfl ?_
            refine aqs rfl (q_as (by constructor)) rfl ?_
            refine alist_nil ?_
            show AWP _ _ _ _
            refine awp_seq ?_
            refine awp_region ?_
            refine aqs rfl (q_mv (by constructor)) rfl ?_
            refine aqs rfl (q_neq rfl rfl) rfl ?_
            refine alist_nil ?_
            show AWP _ _ _ _
            refine awp_cond rfl (fun hc5 => ?_) (fun hc5 => ?_)
            · obtain ⟨B, o2, hpb, hkB, hrB, hlB⟩ := stack_put y hrb (show 0 ≤ m by omega) hD hkb
              rw [hyk] at hkB
              refine awp_region ?_
              refine aqs rfl (q_mv (by constructor)) rfl ?_
              refine aqs rfl (q_mv (by constructor)) rfl ?_
              first | refine aqs rfl (q_fapP fl40_0 (by decide) rfl rfl) rfl ?_ | refine aqs rfl (q_faP fl40_0 (by decide) rfl (by first | ((repeat constructor); done) | exact .same _)) rfl ?_
              first | refine aqs rfl (q_ldpW ag29 sz29 rfl (by repeat (first | exact .here | assumption | (apply HAt.left; assumption) | apply HAt.there | apply HAt.right)) (by first | rfl | assumption | (simp [*]; done) | fail) (by first | rfl | assumption | (simp [*]; done) | fail) (by decide)) rfl ?_ | refine aqs rfl (q_ldW ag29 sz29 rfl (by first | rfl | assumption | (simp [*]; done) | fail)) rfl ?_ | refine aqs rfl (q_ldpP ag29 sz29 rfl (by repeat (first | exact .here | assumption | (apply HAt.left; assumption) | apply HAt.there | apply HAt.right)) (by first | rfl | assumption | (simp [*]; done) | fail) (by first | decide | (simp; done) | omega | fail) (by decide) (by first | ((repeat constructor); done) | exact .same _)) rfl ?_ | refine aqs rfl (q_ldP ag29 sz29 rfl (by first | decide | (simp; done) | omega | fail) (by first | ((repeat constructor); done) | exact .same _)) rfl ?_
              refine aqs rfl (q_bd st40 zr40 (by first | ((repeat constructor); done) | exact .same _) (by repeat (first | exact BD.nil | (apply BD.cons; (· rfl); (· constructor); (· rfl); (· rfl); (· exact Nat.le_of_ble_eq_true (by rfl)); (· exact (by first | ((repeat constructor); done) | exact .same _)))))) rfl ?_
              first | refine aqs rfl (e_callN cb58 (hyc ▸ hpb ▸ put58_c lb (by omega) m y _) rfl rfl) rfl ?_ | refine aqs rfl (e_callN cb58 (ACall.arg (hyc ▸ hpb ▸ put58_c lb (by omega) m y _) (by repeat (first | exact ArgL.nil | (apply ArgL.cons; (· first | exact .same | exact .cro | exact .nil))))) rfl rfl) rfl ?_
              refine aqs rfl (q_mv (by constructor)) rfl ?_
              refine aqs rfl (q_ex rfl rfl (by constructor)) rfl ?_
              refine aqs rfl (q_ex rfl rfl (by constructor)) rfl ?_
              refine aqs rfl (q_ex rfl rfl (by constructor)) rfl ?_
              refine aqs rfl (q_as (by constructor)) rfl ?_
              refine aqs rfl (q_as (by constructor)) rfl ?_
              refine alist_nil ?_
              show AWP _ _ _ _
              refine awp_seq ?_
              refine awp_seq ?_
              refine awp_region ?_
              refine aqs rfl (q_mv (by constructor)) rfl ?_
              refine aqs rfl (castF (q_neq rfl rfl) (by first | rfl | (rw [hA0]; rfl))) rfl ?_
              refine aqs rfl (q_mv (by constructor)) rfl ?_
              first | refine ans rfl rfl ?_ | refine aqs rfl (q_mv (by constructor)) rfl ?_
              refine aqs rfl (castF (q_neq rfl rfl) (by first | rfl | (rw [hB0]; rfl))) rfl ?_
              first | refine aqs rfl (q_pickT rfl (by constructor)) rfl ?_ | refine aqs rfl (q_pickF rfl (by constructor)) rfl ?_
              refine alist_nil ?_
              show AWP _ _ _ _
              refine awp_cond rfl (fun hc6 => ?_) (fun hc6 => ?_)
              · exfalso; first | (simp at hc6; done) | (simp at hc6; omega) | contradiction
              · try simp only [decide_eq_true_eq, decide_eq_false_iff_not, Bool.not_eq_true', Bool.not_eq_false', Bool.not_eq_eq_eq_not, Bool.not_true, Bool.not_false, beq_iff_eq, beq_eq_false_iff_ne, Int.not_lt, Int.not_le] at hc6
                refine awp_skip ?_
                show AWP _ _ _ _
                refine awp_seq ?_
                refine awp_region ?_
                refine aqs rfl (q_mv (by constructor)) rfl ?_
                refine aqs rfl (q_as (by constructor)) rfl ?_
                refine alist_nil ?_
                show AWP _ _ _ _
                refine awp_region ?_
                refine aqs rfl (q_mv (by constructor)) rfl ?_
                refine aqs rfl (q_as (by constructor)) rfl ?_
                refine alist_nil ?_
                show AWP _ _ _ _
                refine awp_seq ?_
                refine awp_region ?_
                refine aqs rfl (q_mv (by constructor)) rfl ?_
                first | refine aqs rfl (e_callN cb49 (hkA ▸ keys49_c A (by omega) _) rfl rfl) rfl ?_ | refine aqs rfl (e_callN cb49 (ACall.arg (hkA ▸ keys49_c A (by omega) _) (by repeat (first | exact ArgL.nil | (apply ArgL.cons; (· first | exact .same | exact .cro | exact .nil))))) rfl rfl) rfl ?_
                refine aqs rfl (q_as (by constructor)) rfl ?_
                refine alist_nil ?_
                show AWP _ _ _ _
                refine awp_seq ?_
                refine awp_region ?_
                refine aqs rfl (q_mv (by constructor)) rfl ?_
                first | refine aqs rfl (e_callN cb49 (hkB ▸ keys49_c B (by omega) _) rfl rfl) rfl ?_ | refine aqs rfl (e_callN cb49 (ACall.arg (hkB ▸ keys49_c B (by omega) _) (by repeat (first | exact ArgL.nil | (apply ArgL.cons; (· first | exact .same | exact .cro | exact .nil))))) rfl rfl) rfl ?_
                refine aqs rfl (q_as (by constructor)) rfl ?_
                refine alist_nil ?_
                show AWP _ _ _ _
                refine awp_seq ?_
                refine awp_seq ?_
                refine awp_region ?_
                refine aqs rfl (q_mv (by constructor)) rfl ?_
                first | refine aqs rfl (q_len Try.underlying43 .ro) rfl ?_ | refine aqs rfl (q_lenO Try.underlying43 rfl (by repeat (first | exact .here | assumption | (apply HAt.left; assumption) | apply HAt.there | apply HAt.right)) (by first | omega | (simp; done) | (simp; omega) | fail) (by first | exact Nat.sub_zero _ | rfl)) rfl ?_ | refine aqs rfl (q_len Try.underlying43 .nil) rfl ?_ | refine aqs rfl (q_len Try.underlying43 .cro) rfl ?_
                refine aqs rfl (q_mv (by constructor)) rfl ?_
                first | refine aqs rfl (q_len Try.underlying43 .ro) rfl ?_ | refine aqs rfl (q_lenO Try.underlying43 rfl (by repeat (first | exact .here | assumption | (apply HAt.left; assumption) | apply HAt.there | apply HAt.right)) (by first | omega | (simp; done) | (simp; omega) | fail) (by first | exact Nat.sub_zero _ | rfl)) rfl ?_ | refine aqs rfl (q_len Try.underlying43 .nil) rfl ?_ | refine aqs rfl (q_len Try.underlying43 .cro) rfl ?_
                refine aqs rfl (castF (q_gtr rfl rfl) (by exact decide_eq_false (by simp only [List.length_map, List.length_take]; omega))) rfl ?_
                refine aqs rfl (q_mv (by constructor)) rfl ?_
                first | refine ans rfl rfl ?_ | refine aqs rfl (q_mv (by constructor)) rfl ?_
                first | refine ans rfl rfl ?_ | refine aqs rfl (q_len Try.underlying43 .ro) rfl ?_ | refine aqs rfl (q_lenO Try.underlying43 rfl (by repeat (first | exact .here | assumption | (apply HAt.left; assumption) | apply HAt.there | apply HAt.right)) (by first | omega | (simp; done) | (simp; omega) | fail) (by first | exact Nat.sub_zero _ | rfl)) rfl ?_ | refine aqs rfl (q_len Try.underlying43 .nil) rfl ?_ | refine aqs rfl (q_len Try.underlying43 .cro) rfl ?_
                first | refine ans rfl rfl ?_ | refine aqs rfl (q_mv (by constructor)) rfl ?_
                refine aqs rfl (castF (q_gtr rfl rfl) (by exact decide_eq_false (by simp only [List.length_map, List.length_take]; omega))) rfl ?_
                first | refine aqs rfl (q_pickT rfl (by constructor)) rfl ?_ | refine aqs rfl (q_pickF rfl (by constructor)) rfl ?_
                refine aqs rfl (q_mv (by constructor)) rfl ?_
                first | refine ans rfl rfl ?_ | refine aqs rfl (q_mv (by constructor)) rfl ?_
                first | refine ans rfl rfl ?_ | refine aqs rfl (q_len Try.underlying43 .ro) rfl ?_ | refine aqs rfl (q_lenO Try.underlying43 rfl (by repeat (first | exact .here | assumption | (apply HAt.left; assumption) | apply HAt.there | apply HAt.right)) (by first | omega | (simp; done) | (simp; omega) | fail) (by first | exact Nat.sub_zero _ | rfl)) rfl ?_ | refine aqs rfl (q_len Try.underlying43 .nil) rfl ?_ | refine aqs rfl (q_len Try.underlying43 .cro) rfl ?_
                first | refine ans rfl rfl ?_ | refine aqs rfl (q_mv (by constructor)) rfl ?_
                refine aqs rfl (castF (q_gtr rfl rfl) (by exact decide_eq_false (by simp only [List.length_map, List.length_take]; omega))) rfl ?_
                first | refine aqs rfl (q_pickT rfl (by constructor)) rfl ?_ | refine aqs rfl (q_pickF rfl (by constructor)) rfl ?_
                refine alist_nil ?_
                show AWP _ _ _ _
                refine awp_cond rfl (fun hc7 => ?_) (fun hc7 => ?_)
                · exfalso; first | (simp at hc7; done) | (simp at hc7; omega) | contradiction
                · try simp only [decide_eq_true_eq, decide_eq_false_iff_not, Bool.not_eq_true', Bool.not_eq_false', Bool.not_eq_eq_eq_not, Bool.not_true, Bool.not_false, beq_iff_eq, beq_eq_false_iff_ne, Int.not_lt, Int.not_le] at hc7
                  refine awp_skip ?_
                  show AWP _ _ _ _
                  refine awp_seq ?_
                  refine awp_region ?_
                  refine aqs rfl (q_as (by constructor)) rfl ?_
                  refine alist_nil ?_
                  show AWP _ _ _ _
                  refine awp_block ?_
                  refine awp_loop_inv (fun j : Nat => ⟨[(30, .lit (.int .i64 j)), (28, .ro (((front x.key D).take n.toNat).map Key.cells)), (29, .ro (((front x.key D).take m.toNat).map Key.cells)), (14, .lit (.int .i64 i)), (0, .ro (b.map cI)), (1, .ro (bs.map cB)), (10, .lit (.int .i64 n)), (11, .lit (.int .i64 m)), (12, .ro (A.map Slot.cells)), (13, .ro (B.map Slot.cells)), (9, .lit (.bool true))], 183, []⟩) (fun j => j ≤ ((front x.key D).take n.toNat).length) (fun j => ((front x.key D).take n.toNat).length - j) 0 ?_ ?_ ?_
                  · exact Nat.zero_le _
                  · exact .mk' (by repeat (first | exact trivial | refine ⟨rfl, ?_⟩)) (by repeat (first | exact .refl _ | apply List.Sublist.cons_cons | apply List.Sublist.cons))
                  · intro j hj
                    have hjn : ((front x.key D).take n.toNat).length ≤ n.toNat := by rw [List.length_take]; omega
                    refine awp_seq ?_
                    refine awp_seq ?_
                    refine awp_region ?_
                    refine aqs rfl (q_mv (by constructor)) rfl ?_
                    refine aqs rfl (q_mv (by constructor)) rfl ?_
                    first | refine aqs rfl (q_len Try.underlying43 .ro) rfl ?_ | refine aqs rfl (q_lenO Try.underlying43 rfl (by repeat (first | exact .here | assumption | (apply HAt.left; assumption) | apply HAt.there | apply HAt.right)) (by first | omega | (simp; done) | (simp; omega) | fail) (by first | exact Nat.sub_zero _ | rfl)) rfl ?_ | refine aqs rfl (q_len Try.underlying43 .nil) rfl ?_ | refine aqs rfl (q_len Try.underlying43 .cro) rfl ?_
                    refine aqs rfl (q_lss rfl rfl) rfl ?_
                    refine alist_nil ?_
                    show AWP _ _ _ _
                    refine awp_cond rfl (fun hc8 => ?_) (fun hc8 => ?_)
                    · simp only [decide_eq_true_eq, List.length_map] at hc8
                      obtain ⟨z, hz, hzm⟩ := get_lt (l := (front x.key D).take n.toNat) (i := j) (by omega)
                      have hz2 := get_map (f := Key.cells) hz
                      have hz3 : ((front x.key D).take m.toNat)[j]? = some z := by
                        rw [List.getElem?_take_of_lt (by omega)] at hz ⊢; exact hz
                      have hz4 := get_map (f := Key.cells) hz3
                      refine awp_skip ?_
                      show AWP _ _ _ _
                      refine awp_seq ?_
                      refine awp_block ?_
                      refine awp_seq ?_
                      refine awp_draw 9 [(0, false), (1, false), (2, false), (3, false), (4, false), (5, false), (6, false), (7, false), (8, false)] _ ([]) mixed (by kernel_rfl) (perm0 _) ?_
                      refine glq rfl (.inl ⟨rfl, q_mv (by constructor)⟩) rfl ?_
                      refine glq rfl (.inl ⟨rfl, q_mv (by constructor)⟩) rfl ?_
                      first | refine glq rfl (.inl ⟨rfl, q_iaN Try.underlying43 sz29 (.inl rfl) rfl (by omega) (by first | rfl | assumption | (simp [*]; done) | fail) (by first | rfl | assumption | (simp [*]; done) | fail) (by decide) (by first | ((repeat constructor); done) | exact .same _)⟩) rfl ?_ | refine glq rfl (.inl ⟨rfl, q_iaS Try.underlying43 sz29 rfl (by repeat (first | exact .here | assumption | (apply HAt.left; assumption) | apply HAt.there | apply HAt.right)) rfl (by omega) (by omega) (by first | exact Nat.zero_add _ | rfl)⟩) rfl ?_ | refine glq rfl (.inl ⟨rfl, q_iaN Try.underlying43 sz29 (.inr rfl) rfl (by omega) (by first | rfl | assumption | (simp [*]; done) | fail) (by first | rfl | assumption | (simp [*]; done) | fail) (by decide) (by first | ((repeat constructor); done) | exact .same _)⟩) rfl ?_
                      first | refine glq rfl (.inl ⟨rfl, q_ldpW ag29 sz29 rfl (by repeat (first | exact .here | assumption | (apply HAt.left; assumption) | apply HAt.there | apply HAt.right)) (by first | rfl | assumption | (simp [*]; done) | fail) (by first | rfl | assumption | (simp [*]; done) | fail) (by decide)⟩) rfl ?_ | refine glq rfl (.inl ⟨rfl, q_ldW ag29 sz29 rfl (by first | rfl | assumption | (simp [*]; done) | fail)⟩) rfl ?_ | refine glq rfl (.inl ⟨rfl, q_ldpP ag29 sz29 rfl (by repeat (first | exact .here | assumption | (apply HAt.left; assumption) | apply HAt.there | apply HAt.right)) (by first | rfl | assumption | (simp [*]; done) | fail) (by first | decide | (simp; done) | omega | fail) (by decide) (by first | ((repeat constructor); done) | exact .same _)⟩) rfl ?_ | refine glq rfl (.inl ⟨rfl, q_ldP ag29 sz29 rfl (by first | decide | (simp; done) | omega | fail) (by first | ((repeat constructor); done) | exact .same _)⟩) rfl ?_
                      refine glq rfl (.inl ⟨rfl, q_mv (by constructor)⟩) rfl ?_
                      refine glq rfl (.inl ⟨rfl, q_mv (by constructor)⟩) rfl ?_
                      first | refine glq rfl (.inl ⟨rfl, q_iaN Try.underlying43 sz29 (.inl rfl) rfl (by omega) (by first | rfl | assumption | (simp [*]; done) | fail) (by first | rfl | assumption | (simp [*]; done) | fail) (by decide) (by first | ((repeat constructor); done) | exact .same _)⟩) rfl ?_ | refine glq rfl (.inl ⟨rfl, q_iaS Try.underlying43 sz29 rfl (by repeat (first | exact .here | assumption | (apply HAt.left; assumption) | apply HAt.there | apply HAt.right)) rfl (by omega) (by omega) (by first | exact Nat.zero_add _ | rfl)⟩) rfl ?_ | refine glq rfl (.inl ⟨rfl, q_iaN Try.underlying43 sz29 (.inr rfl) rfl (by omega) (by first | rfl | assumption | (simp [*]; done) | fail) (by first | rfl | assumption | (simp [*]; done) | fail) (by decide) (by first | ((repeat constructor); done) | exact .same _)⟩) rfl ?_
                      first | refine glq rfl (.inl ⟨rfl, q_ldpW ag29 sz29 rfl (by repeat (first | exact .here | assumption | (apply HAt.left; assumption) | apply HAt.there | apply HAt.right)) (by first | rfl | assumption | (simp [*]; done) | fail) (by first | rfl | assumption | (simp [*]; done) | fail) (by decide)⟩) rfl ?_ | refine glq rfl (.inl ⟨rfl, q_ldW ag29 sz29 rfl (by first | rfl | assumption | (simp [*]; done) | fail)⟩) rfl ?_ | refine glq rfl (.inl ⟨rfl, q_ldpP ag29 sz29 rfl (by repeat (first | exact .here | assumption | (apply HAt.left; assumption) | apply HAt.there | apply HAt.right)) (by first | rfl | assumption | (simp [*]; done) | fail) (by first | decide | (simp; done) | omega | fail) (by decide) (by first | ((repeat constructor); done) | exact .same _)⟩) rfl ?_ | refine glq rfl (.inl ⟨rfl, q_ldP ag29 sz29 rfl (by first | decide | (simp; done) | omega | fail) (by first | ((repeat constructor); done) | exact .same _)⟩) rfl ?_
                      refine glq rfl (.inl ⟨rfl, castF (q_neqA gd29 rfl rfl (by repeat constructor) (by repeat constructor) (fun w => eq29 w)) (by rw [keq]; simp)⟩) rfl ?_
                      (first | refine gld0 ?_ | refine gldA ?_)
                      refine alist_nil ?_
                      show AWP _ _ _ _
                      refine awp_cond rfl (fun hc9 => ?_) (fun hc9 => ?_)
                      · exfalso; first | (simp at hc9; done) | (simp at hc9; omega) | contradiction
                      · try simp only [decide_eq_true_eq, decide_eq_false_iff_not, Bool.not_eq_true', Bool.not_eq_false', Bool.not_eq_eq_eq_not, Bool.not_true, Bool.not_false, beq_iff_eq, beq_eq_false_iff_ne, Int.not_lt, Int.not_le] at hc9
                        refine awp_skip ?_
                        show AWP _ _ _ _
                        refine awp_region ?_
                        refine aqs rfl (q_mv (by constructor)) rfl ?_
                        first | refine aqs rfl (q_add64 rfl rfl (by omega) (by omega)) rfl ?_ | refine aqs rfl (q_add rfl rfl) rfl ?_
                        refine aqs rfl (q_as (by constructor)) rfl ?_
                        refine alist_nil ?_
                        show ∃ y, _ ∧ _ ∧ _
                        exact ⟨j + 1, by omega, by omega, .mk' ⟨by rfl, rfl, rfl, rfl, rfl, rfl, rfl, rfl, rfl, rfl, rfl, trivial⟩ (by repeat (first | exact List.Sublist.refl _ | exact List.nil_sublist _ | exact List.sublist_append_left _ _ | (apply List.Sublist.cons_cons) | (apply List.Sublist.cons)))⟩
                    · skip
                      refine awp_exit ?_
                      show AWP _ _ _ _
                      refine awp_region ?_
                      refine aqs rfl (q_mv (by constructor)) rfl ?_
                      first | refine aqs rfl (q_add64 rfl rfl (by omega) (by omega)) rfl ?_ | refine aqs rfl (q_add rfl rfl) rfl ?_
                      refine aqs rfl (q_as (by constructor)) rfl ?_
                      refine alist_nil ?_
                      show ∃ y, _ ∧ _ ∧ _
                      exact ⟨(i + 1, A, B, front x.key D), ⟨by show i + 1 ≤ b.length; omega, by show i + 1 ≤ 30; omega, hrA, hrB, hkA, hkB, front_nodup hD⟩, by show 30 - (i + 1) < 30 - i; omega, .mk' ⟨by rfl, rfl, rfl, rfl, rfl, rfl, rfl, rfl, trivial⟩ (by repeat (first | exact List.Sublist.refl _ | exact List.nil_sublist _ | exact List.sublist_append_left _ _ | (apply List.Sublist.cons_cons) | (apply List.Sublist.cons)))⟩
            · have hB0 : e2 = 0 := by simpa using hc5
              have hkB := hkB hB0
              refine awp_skip ?_
              show AWP _ _ _ _
              refine awp_seq ?_
              refine awp_seq ?_
              refine awp_region ?_
              refine aqs rfl (q_mv (by constructor)) rfl ?_
              refine aqs rfl (castF (q_neq rfl rfl) (by first | rfl | (rw [hA0]; rfl))) rfl ?_
              refine aqs rfl (q_mv (by constructor)) rfl ?_
              first | refine ans rfl rfl ?_ | refine aqs rfl (q_mv (by constructor)) rfl ?_
              refine aqs rfl (castF (q_neq rfl rfl) (by first | rfl | (rw [hB0]; rfl))) rfl ?_
              first | refine aqs rfl (q_pickT rfl (by constructor)) rfl ?_ | refine aqs rfl (q_pickF rfl (by constructor)) rfl ?_
              refine alist_nil ?_
              show AWP _ _ _ _
              refine awp_cond rfl (fun hc6 => ?_) (fun hc6 => ?_)
              · exfalso; first | (simp at hc6; done) | (simp at hc6; omega) | contradiction
              · try simp only [decide_eq_true_eq, decide_eq_false_iff_not, Bool.not_eq_true', Bool.not_eq_false', Bool.not_eq_eq_eq_not, Bool.not_true, Bool.not_false, beq_iff_eq, beq_eq_false_iff_ne, Int.not_lt, Int.not_le] at hc6
                refine awp_skip ?_
                show AWP _ _ _ _
                refine awp_seq ?_
                refine awp_region ?_
                refine aqs rfl (q_mv (by constructor)) rfl ?_
                refine aqs rfl (q_as (by constructor)) rfl ?_
                refine alist_nil ?_
                show AWP _ _ _ _
                refine awp_region ?_
                refine aqs rfl (q_mv (by constructor)) rfl ?_
                refine aqs rfl (q_as (by constructor)) rfl ?_
                refine alist_nil ?_
                show AWP _ _ _ _
                refine awp_seq ?_
                refine awp_region ?_
                refine aqs rfl (q_mv (by constructor)) rfl ?_
                first | refine aqs rfl (e_callN cb49 (hkA ▸ keys49_c A (by omega) _) rfl rfl) rfl ?_ | refine aqs rfl (e_callN cb49 (ACall.arg (hkA ▸ keys49_c A (by omega) _) (by repeat (first | exact ArgL.nil | (apply ArgL.cons; (· first | exact .same | exact .cro | exact .nil))))) rfl rfl) rfl ?_
                refine aqs rfl (q_as (by constructor)) rfl ?_
                refine alist_nil ?_
                show AWP _ _ _ _
                refine awp_seq ?_
                refine awp_region ?_
                refine aqs rfl (q_mv (by constructor)) rfl ?_
                first | refine aqs rfl (e_callN cb49 (hkB ▸ keys49_c B (by omega) _) rfl rfl) rfl ?_ | refine aqs rfl (e_callN cb49 (ACall.arg (hkB ▸ keys49_c B (by omega) _) (by repeat (first | exact ArgL.nil | (apply ArgL.cons; (· first | exact .same | exact .cro | exact .nil))))) rfl rfl) rfl ?_
                refine aqs rfl (q_as (by constructor)) rfl ?_
                refine alist_nil ?_
                show AWP _ _ _ _
                refine awp_seq ?_
                refine awp_seq ?_
                refine awp_region ?_
                refine aqs rfl (q_mv (by constructor)) rfl ?_
                first | refine aqs rfl (q_len Try.underlying43 .ro) rfl ?_ | refine aqs rfl (q_lenO Try.underlying43 rfl (by repeat (first | exact .here | assumption | (apply HAt.left; assumption) | apply HAt.there | apply HAt.right)) (by first | omega | (simp; done) | (simp; omega) | fail) (by first | exact Nat.sub_zero _ | rfl)) rfl ?_ | refine aqs rfl (q_len Try.underlying43 .nil) rfl ?_ | refine aqs rfl (q_len Try.underlying43 .cro) rfl ?_
                refine aqs rfl (q_mv (by constructor)) rfl ?_
                first | refine aqs rfl (q_len Try.underlying43 .ro) rfl ?_ | refine aqs rfl (q_lenO Try.underlying43 rfl (by repeat (first | exact .here | assumption | (apply HAt.left; assumption) | apply HAt.there | apply HAt.right)) (by first | omega | (simp; done) | (simp; omega) | fail) (by first | exact Nat.sub_zero _ | rfl)) rfl ?_ | refine aqs rfl (q_len Try.underlying43 .nil) rfl ?_ | refine aqs rfl (q_len Try.underlying43 .cro) rfl ?_
                refine aqs rfl (castF (q_gtr rfl rfl) (by exact decide_eq_false (by simp only [List.length_map, List.length_take]; omega))) rfl ?_
                refine aqs rfl (q_mv (by constructor)) rfl ?_
                first | refine ans rfl rfl ?_ | refine aqs rfl (q_mv (by constructor)) rfl ?_
                first | refine ans rfl rfl ?_ | refine aqs rfl (q_len Try.underlying43 .ro) rfl ?_ | refine aqs rfl (q_lenO Try.underlying43 rfl (by repeat (first | exact .here | assumption | (apply HAt.left; assumption) | apply HAt.there | apply HAt.right)) (by first | omega | (simp; done) | (simp; omega) | fail) (by first | exact Nat.sub_zero _ | rfl)) rfl ?_ | refine aqs rfl (q_len Try.underlying43 .nil) rfl ?_ | refine aqs rfl (q_len Try.underlying43 .cro) rfl ?_
                first | refine ans rfl rfl ?_ | refine aqs rfl (q_mv (by constructor)) rfl ?_
                refine aqs rfl (castF (q_gtr rfl rfl) (by exact decide_eq_false (by simp only [List.length_map, List.length_take]; omega))) rfl ?_
                first | refine aqs rfl (q_pickT rfl (by constructor)) rfl ?_ | refine aqs rfl (q_pickF rfl (by constructor)) rfl ?_
                refine aqs rfl (q_mv (by constructor)) rfl ?_
                first | refine ans rfl rfl ?_ | refine aqs rfl (q_mv (by constructor)) rfl ?_
                first | refine ans rfl rfl ?_ | refine aqs rfl (q_len Try.underlying43 .ro) rfl ?_ | refine aqs rfl (q_lenO Try.underlying43 rfl (by repeat (first | exact .here | assumption | (apply HAt.left; assumption) | apply HAt.there | apply HAt.right)) (by first | omega | (simp; done) | (simp; omega) | fail) (by first | exact Nat.sub_zero _ | rfl)) rfl ?_ | refine aqs rfl (q_len Try.underlying43 .nil) rfl ?_ | refine aqs rfl (q_len Try.underlying43 .cro) rfl ?_
                first | refine ans rfl rfl ?_ | refine aqs rfl (q_mv (by constructor)) rfl ?_
                refine aqs rfl (castF (q_gtr rfl rfl) (by exact decide_eq_false (by simp only [List.length_map, List.length_take]; omega))) rfl ?_
                first | refine aqs rfl (q_pickT rfl (by constructor)) rfl ?_ | refine aqs rfl (q_pickF rfl (by constructor)) rfl ?_
                refine alist_nil ?_
                show AWP _ _ _ _
                refine awp_cond rfl (fun hc7 => ?_) (fun hc7 => ?_)
                · exfalso; first | (simp at hc7; done) | (simp at hc7; omega) | contradiction
                · try simp only [decide_eq_true_eq, decide_eq_false_iff_not, Bool.not_eq_true', Bool.not_eq_false', Bool.not_eq_eq_eq_not, Bool.not_true, Bool.not_false, beq_iff_eq, beq_eq_false_iff_ne, Int.not_lt, Int.not_le] at hc7
                  refine awp_skip ?_
                  show AWP _ _ _ _
                  refine awp_seq ?_
                  refine awp_region ?_
                  refine aqs rfl (q_as (by constructor)) rfl ?_
                  refine alist_nil ?_
                  show AWP _ _ _ _
                  refine awp_block ?_
                  refine awp_loop_inv (fun j : Nat => ⟨[(30, .lit (.int .i64 j)), (28, .ro (((front x.key D).take n.toNat).map Key.cells)), (29, .ro (((front x.key D).take m.toNat).map Key.cells)), (14, .lit (.int .i64 i)), (0, .ro (b.map cI)), (1, .ro (bs.map cB)), (10, .lit (.int .i64 n)), (11, .lit (.int .i64 m)), (12, .ro (A.map Slot.cells)), (13, .ro (B.map Slot.cells)), (9, .lit (.bool true))], 183, []⟩) (fun j => j ≤ ((front x.key D).take n.toNat).length) (fun j => ((front x.key D).take n.toNat).length - j) 0 ?_ ?_ ?_
                  · exact Nat.zero_le _
                  · exact .mk' (by repeat (first | exact trivial | refine ⟨rfl, ?_⟩)) (by repeat (first | exact .refl _ | apply List.Sublist.cons_cons | apply List.Sublist.cons))
                  · intro j hj
                    have hjn : ((front x.key D).take n.toNat).length ≤ n.toNat := by rw [List.length_take]; omega
                    refine awp_seq ?_
                    refine awp_seq ?_
                    refine awp_region ?_
                    refine aqs rfl (q_mv (by constructor)) rfl ?_
                    refine aqs rfl (q_mv (by constructor)) rfl ?_
                    first | refine aqs rfl (q_len Try.underlying43 .ro) rfl ?_ | refine aqs rfl (q_lenO Try.underlying43 rfl (by repeat (first | exact .here | assumption | (apply HAt.left; assumption) | apply HAt.there | apply HAt.right)) (by first | omega | (simp; done) | (simp; omega) | fail) (by first | exact Nat.sub_zero _ | rfl)) rfl ?_ | refine aqs rfl (q_len Try.underlying43 .nil) rfl ?_ | refine aqs rfl (q_len Try.underlying43 .cro) rfl ?_
                    refine aqs rfl (q_lss rfl rfl) rfl ?_
                    refine alist_nil ?_
                    show AWP _ _ _ _
                    refine awp_cond rfl (fun hc8 => ?_) (fun hc8 => ?_)
                    · simp only [decide_eq_true_eq, List.length_map] at hc8
                      obtain ⟨z, hz, hzm⟩ := get_lt (l := (front x.key D).take n.toNat) (i := j) (by omega)
                      have hz2 := get_map (f := Key.cells) hz
                      have hz3 : ((front x.key D).take m.toNat)[j]? = some z := by
                        rw [List.getElem?_take_of_lt (by omega)] at hz ⊢; exact hz
                      have hz4 := get_map (f := Key.cells) hz3
                      refine awp_skip ?_
                      show AWP _ _ _ _
                      refine awp_seq ?_
                      refine awp_block ?_
                      refine awp_seq ?_
                      refine awp_draw 9 [(0, false), (1, false), (2, false), (3, false), (4, false), (5, false), (6, false), (7, false), (8, false)] _ ([]) mixed (by kernel_rfl) (perm0 _) ?_
                      refine glq rfl (.inl ⟨rfl, q_mv (by constructor)⟩) rfl ?_
                      refine glq rfl (.inl ⟨rfl, q_mv (by constructor)⟩) rfl ?_
                      first | refine glq rfl (.inl ⟨rfl, q_iaN Try.underlying43 sz29 (.inl rfl) rfl (by omega) (by first | rfl | assumption | (simp [*]; done) | fail) (by first | rfl | assumption | (simp [*]; done) | fail) (by decide) (by first | ((repeat constructor); done) | exact .same _)⟩) rfl ?_ | refine glq rfl (.inl ⟨rfl, q_iaS Try.underlying43 sz29 rfl (by repeat (first | exact .here | assumption | (apply HAt.left; assumption) | apply HAt.there | apply HAt.right)) rfl (by omega) (by omega) (by first | exact Nat.zero_add _ | rfl)⟩) rfl ?_ | refine glq rfl (.inl ⟨rfl, q_iaN Try.underlying43 sz29 (.inr rfl) rfl (by omega) (by first | rfl | assumption | (simp [*]; done) | fail) (by first | rfl | assumption | (simp [*]; done) | fail) (by decide) (by first | ((repeat constructor); done) | exact .same _)⟩) rfl ?_
                      first | refine glq rfl (.inl ⟨rfl, q_ldpW ag29 sz29 rfl (by repeat (first | exact .here | assumption | (apply HAt.left; assumption) | apply HAt.there | apply HAt.right)) (by first | rfl | assumption | (simp [*]; done) | fail) (by first | rfl | assumption | (simp [*]; done) | fail) (by decide)⟩) rfl ?_ | refine glq rfl (.inl ⟨rfl, q_ldW ag29 sz29 rfl (by first | rfl | assumption | (simp [*]; done) | fail)⟩) rfl ?_ | refine glq rfl (.inl ⟨rfl, q_ldpP ag29 sz29 rfl (by repeat (first | exact .here | assumption | (apply HAt.left; assumption) | apply HAt.there | apply HAt.right)) (by first | rfl | assumption | (simp [*]; done) | fail) (by first | decide | (simp; done) | omega | fail) (by decide) (by first | ((repeat constructor); done) | exact .same _)⟩) rfl ?_ | refine glq rfl (.inl ⟨rfl, q_ldP ag29 sz29 rfl (by first | decide | (simp; done) | omega | fail) (by first | ((repeat constructor); done) | exact .same _)⟩) rfl ?_
                      refine glq rfl (.inl ⟨rfl, q_mv (by constructor)⟩) rfl ?_
                      refine glq rfl (.inl ⟨rfl, q_mv (by constructor)⟩) rfl ?_
                      first | refine glq rfl (.inl ⟨rfl, q_iaN Try.underlying43 sz29 (.inl rfl) rfl (by omega) (by first | rfl | assumption | (simp [*]; done) | fail) (by first | rfl | assumption | (simp [*]; done) | fail) (by decide) (by first | ((repeat constructor); done) | exact .same _)⟩) rfl ?_ | refine glq rfl (.inl ⟨rfl, q_iaS Try.underlying43 sz29 rfl (by repeat (first | exact .here | assumption | (apply HAt.left; assumption) | apply HAt.there | apply HAt.right)) rfl (by omega) (by omega) (by first | exact Nat.zero_add _ | rfl)⟩) rfl ?_ | refine glq rfl (.inl ⟨rfl, q_iaN Try.underlying43 sz29 (.inr rfl) rfl (by omega) (by first | rfl | assumption | (simp [*]; done) | fail) (by first | rfl | assumption | (simp [*]; done) | fail) (by decide) (by first | ((repeat constructor); done) | exact .same _)⟩) rfl ?_
                      first | refine glq rfl (.inl ⟨rfl, q_ldpW ag29 sz29 rfl (by repeat (first | exact .here | assumption | (apply HAt.left; assumption) | apply HAt.there | apply HAt.right)) (by first | rfl | assumption | (simp [*]; done) | fail) (by first | rfl | assumption | (simp [*]; done) | fail) (by decide)⟩) rfl ?_ | refine glq rfl (.inl ⟨rfl, q_ldW ag29 sz29 rfl (by first | rfl | assumption | (simp [*]; done) | fail)⟩) rfl ?_ | refine glq rfl (.inl ⟨rfl, q_ldpP ag29 sz29 rfl (by repeat (first | exact .here | assumption | (apply HAt.left; assumption) | apply HAt.there | apply HAt.right)) (by first | rfl | assumption | (simp [*]; done) | fail) (by first | decide | (simp; done) | omega | fail) (by decide) (by first | ((repeat constructor); done) | exact .same _)⟩) rfl ?_ | refine glq rfl (.inl ⟨rfl, q_ldP ag29 sz29 rfl (by first | decide | (simp; done) | omega | fail) (by first | ((repeat constructor); done) | exact .same _)⟩) rfl ?_
                      refine glq rfl (.inl ⟨rfl, castF (q_neqA gd29 rfl rfl (by repeat constructor) (by repeat constructor) (fun w => eq29 w)) (by rw [keq]; simp)⟩) rfl ?_
                      (first | refine gld0 ?_ | refine gldA ?_)
                      refine alist_nil ?_
                      show AWP _ _ _ _
                      refine awp_cond rfl (fun hc9 => ?_) (fun hc9 => ?_)
                      · exfalso; first | (simp at hc9; done) | (simp at hc9; omega) | contradiction
                      · try simp only [decide_eq_true_eq, decide_eq_false_iff_not, Bool.not_eq_true', Bool.not_eq_false', Bool.not_eq_eq_eq_not, Bool.not_true, Bool.not_false, beq_iff_eq, beq_eq_false_iff_ne, Int.not_lt, Int.not_le] at hc9
                        refine awp_skip ?_
                        show AWP _ _ _ _
                        refine awp_region ?_
                        refine aqs rfl (q_mv (by constructor)) rfl ?_
                        first | refine aqs rfl (q_add64 rfl rfl (by omega) (by omega)) rfl ?_ | refine aqs rfl (q_add rfl rfl) rfl ?_
                        refine aqs rfl (q_as (by constructor)) rfl ?_
                        refine alist_nil ?_
                        show ∃ y, _ ∧ _ ∧ _
                        exact ⟨j + 1, by omega, by omega, .mk' ⟨by rfl, rfl, rfl, rfl, rfl, rfl, rfl, rfl, rfl, rfl, rfl, trivial⟩ (by repeat (first | exact List.Sublist.refl _ | exact List.nil_sublist _ | exact List.sublist_append_left _ _ | (apply List.Sublist.cons_cons) | (apply List.Sublist.cons)))⟩
                    · skip
                      refine awp_exit ?_
                      show AWP _ _ _ _
                      refine awp_region ?_
                      refine aqs rfl (q_mv (by constructor)) rfl ?_
                      first | refine aqs rfl (q_add64 rfl rfl (by omega) (by omega)) rfl ?_ | refine aqs rfl (q_add rfl rfl) rfl ?_
                      refine aqs rfl (q_as (by constructor)) rfl ?_
                      refine alist_nil ?_
                      show ∃ y, _ ∧ _ ∧ _
                      exact ⟨(i + 1, A, B, front x.key D), ⟨by show i + 1 ≤ b.length; omega, by show i + 1 ≤ 30; omega, hrA, hrB, hkA, hkB, front_nodup hD⟩, by show 30 - (i + 1) < 30 - i; omega, .mk' ⟨by rfl, rfl, rfl, rfl, rfl, rfl, rfl, rfl, trivial⟩ (by repeat (first | exact List.Sublist.refl _ | exact List.nil_sublist _ | exact List.sublist_append_left _ _ | (apply List.Sublist.cons_cons) | (apply List.Sublist.cons)))⟩
          · have hA0 : e1 = 0 := by simpa using hc4
            have hB0 := hab hA0
            have hkA := hkA hA0
            have hkB := hkB hB0
            refine awp_skip ?_
            show AWP _ _ _ _
            refine awp_seq ?_
            refine awp_seq ?_
            refine awp_region ?_
            refine aqs rfl (q_mv (by constructor)) rfl ?_
            refine aqs rfl (castF (q_neq rfl rfl) (by first | rfl | (rw [hA0]; rfl))) rfl ?_
            refine aqs rfl (q_mv (by constructor)) rfl ?_
            first | refine ans rfl rfl ?_ | refine aqs rfl (q_mv (by constructor)) rfl ?_
            refine aqs rfl (castF (q_neq rfl rfl) (by first | rfl | (rw [hB0]; rfl))) rfl ?_
            first | refine aqs rfl (q_pickT rfl (by constructor)) rfl ?_ | refine aqs rfl (q_pickF rfl (by constructor)) rfl ?_
            refine alist_nil ?_
            show AWP _ _ _ _
            refine awp_cond rfl (fun hc6 => ?_) (fun hc6 => ?_)
            · exfalso; first | (simp at hc6; done) | (simp at hc6; omega) | contradiction
            · try simp only [decide_eq_true_eq, decide_eq_false_iff_not, Bool.not_eq_true', Bool.not_eq_false', Bool.not_eq_eq_eq_not, Bool.not_true, Bool.not_false, beq_iff_eq, beq_eq_false_iff_ne, Int.not_lt, Int.not_le] at hc6
              refine awp_skip ?_
              show AWP _ _ _ _
              refine awp_seq ?_
              refine awp_region ?_
              refine aqs rfl (q_mv (by constructor)) rfl ?_
              refine aqs rfl (q_as (by constructor)) rfl ?_
              refine alist_nil ?_
              show AWP _ _ _ _
              refine awp_region ?_
              refine aqs rfl (q_mv (by constructor)) rfl ?_
              refine aqs rfl (q_as (by constructor)) rfl ?_
              refine alist_nil ?_
              show AWP _ _ _ _
              refine awp_seq ?_
              refine awp_region ?_
              refine aqs rfl (q_mv (by constructor)) rfl ?_
              first | refine aqs rfl (e_callN cb49 (hkA ▸ keys49_c A (by omega) _) rfl rfl) rfl ?_ | refine aqs rfl (e_callN cb49 (ACall.arg (hkA ▸ keys49_c A (by omega) _) (by repeat (first | exact ArgL.nil | (apply ArgL.cons; (· first | exact .same | exact .cro | exact .nil))))) rfl rfl) rfl ?_
              refine aqs rfl (q_as (by constructor)) rfl ?_
              refine alist_nil ?_
              show AWP _ _ _ _
              refine awp_seq ?_
              refine awp_region ?_
              refine aqs rfl (q_mv (by constructor)) rfl ?_
              first | refine aqs rfl (e_callN cb49 (hkB ▸ keys49_c B (by omega) _) rfl rfl) rfl ?_ | refine aqs rfl (e_callN cb49 (ACall.arg (hkB ▸ keys49_c B (by omega) _) (by repeat (first | exact ArgL.nil | (apply ArgL.cons; (· first | exact .same | exact .cro | exact .nil))))) rfl rfl) rfl ?_
              refine aqs rfl (q_as (by constructor)) rfl ?_
              refine alist_nil ?_
              show AWP _ _ _ _
              refine awp_seq ?_
              refine awp_seq ?_
              refine awp_region ?_
              refine aqs rfl (q_mv (by constructor)) rfl ?_
              first | refine aqs rfl (q_len Try.underlying43 .ro) rfl ?_ | refine aqs rfl (q_lenO Try.underlying43 rfl (by repeat (first | exact .here | assumption | (apply HAt.left; assumption) | apply HAt.there | apply HAt.right)) (by first | omega | (simp; done) | (simp; omega) | fail) (by first | exact Nat.sub_zero _ | rfl)) rfl ?_ | refine aqs rfl (q_len Try.underlying43 .nil) rfl ?_ | refine aqs rfl (q_len Try.underlying43 .cro) rfl ?_
              refine aqs rfl (q_mv (by constructor)) rfl ?_
              first | refine aqs rfl (q_len Try.underlying43 .ro) rfl ?_ | refine aqs rfl (q_lenO Try.underlying43 rfl (by repeat (first | exact .here | assumption | (apply HAt.left; assumption) | apply HAt.there | apply HAt.right)) (by first | omega | (simp; done) | (simp; omega) | fail) (by first | exact Nat.sub_zero _ | rfl)) rfl ?_ | refine aqs rfl (q_len Try.underlying43 .nil) rfl ?_ | refine aqs rfl (q_len Try.underlying43 .cro) rfl ?_
              refine aqs rfl (castF (q_gtr rfl rfl) (by exact decide_eq_false (by simp only [List.length_map, List.length_take]; omega))) rfl ?_
              refine aqs rfl (q_mv (by constructor)) rfl ?_
              first | refine ans rfl rfl ?_ | refine aqs rfl (q_mv (by constructor)) rfl ?_
              first | refine ans rfl rfl ?_ | refine aqs rfl (q_len Try.underlying43 .ro) rfl ?_ | refine aqs rfl (q_lenO Try.underlying43 rfl (by repeat (first | exact .here | assumption | (apply HAt.left; assumption) | apply HAt.there | apply HAt.right)) (by first | omega | (simp; done) | (simp; omega) | fail) (by first | exact Nat.sub_zero _ | rfl)) rfl ?_ | refine aqs rfl (q_len Try.underlying43 .nil) rfl ?_ | refine aqs rfl (q_len Try.underlying43 .cro) rfl ?_
              first | refine ans rfl rfl ?_ | refine aqs rfl (q_mv (by constructor)) rfl ?_
              refine aqs rfl (castF (q_gtr rfl rfl) (by exact decide_eq_false (by simp only [List.length_map, List.length_take]; omega))) rfl ?_
              first | refine aqs rfl (q_pickT rfl (by constructor)) rfl ?_ | refine aqs rfl (q_pickF rfl (by constructor)) rfl ?_
              refine aqs rfl (q_mv (by constructor)) rfl ?_
              first | refine ans rfl rfl ?_ | refine aqs rfl (q_mv (by constructor)) rfl ?_
              first | refine ans rfl rfl ?_ | refine aqs rfl (q_len Try.underlying43 .ro) rfl ?_ | refine aqs rfl (q_lenO Try.underlying43 rfl (by repeat (first | exact .here | assumption | (apply HAt.left; assumption) | apply HAt.there | apply HAt.right)) (by first | omega | (simp; done) | (simp; omega) | fail) (by first | exact Nat.sub_zero _ | rfl)) rfl ?_ | refine aqs rfl (q_len Try.underlying43 .nil) rfl ?_ | refine aqs rfl (q_len Try.underlying43 .cro) rfl ?_
              first | refine ans rfl rfl ?_ | refine aqs rfl (q_mv (by constructor)) rfl ?_
              refine aqs rfl (castF (q_gtr rfl rfl) (by exact decide_eq_false (by simp only [List.length_map, List.length_take]; omega))) rfl ?_
              first | refine aqs rfl (q_pickT rfl (by constructor)) rfl ?_ | refine aqs rfl (q_pickF rfl (by constructor)) rfl ?_
              refine alist_nil ?_
              show AWP _ _ _ _
              refine awp_cond rfl (fun hc7 => ?_) (fun hc7 => ?_)
              · exfalso; first | (simp at hc7; done) | (simp at hc7; omega) | contradiction
              · try simp only [decide_eq_true_eq, decide_eq_false_iff_not, Bool.not_eq_true', Bool.not_eq_false', Bool.not_eq_eq_eq_not, Bool.not_true, Bool.not_false, beq_iff_eq, beq_eq_false_iff_ne, Int.not_lt, Int.not_le] at hc7
                refine awp_skip ?_
                show AWP _ _ _ _
                refine awp_seq ?_
                refine awp_region ?_
                refine aqs rfl (q_as (by constructor)) rfl ?_
                refine alist_nil ?_
                show AWP _ _ _ _
                refine awp_block ?_
                refine awp_loop_inv (fun j : Nat => ⟨[(30, .lit (.int .i64 j)), (28, .ro (((front x.key D).take n.toNat).map Key.cells)), (29, .ro (((front x.key D).take m.toNat).map Key.cells)), (14, .lit (.int .i64 i)), (0, .ro (b.map cI)), (1, .ro (bs.map cB)), (10, .lit (.int .i64 n)), (11, .lit (.int .i64 m)), (12, .ro (A.map Slot.cells)), (13, .ro (B.map Slot.cells)), (9, .lit (.bool true))], 183, []⟩) (fun j => j ≤ ((front x.key D).take n.toNat).length) (fun j => ((front x.key D).take n.toNat).length - j) 0 ?_ ?_ ?_
                · exact Nat.zero_le _
                · exact .mk' (by repeat (first | exact trivial | refine ⟨rfl, ?_⟩)) (by repeat (first | exact .refl _ | apply List.Sublist.cons_cons | apply List.Sublist.cons))
                · intro j hj
                  have hjn : ((front x.key D).take n.toNat).length ≤ n.toNat := by rw [List.length_take]; omega
                  refine awp_seq ?_
                  refine awp_seq ?_
                  refine awp_region ?_
                  refine aqs rfl (q_mv (by constructor)) rfl ?_
                  refine aqs rfl (q_mv (by constructor)) rfl ?_
                  first | refine aqs rfl (q_len Try.underlying43 .ro) rfl ?_ | refine aqs rfl (q_lenO Try.underlying43 rfl (by repeat (first | exact .here | assumption | (apply HAt.left; assumption) | apply HAt.there | apply HAt.right)) (by first | omega | (simp; done) | (simp; omega) | fail) (by first | exact Nat.sub_zero _ | rfl)) rfl ?_ | refine aqs rfl (q_len Try.underlying43 .nil) rfl ?_ | refine aqs rfl (q_len Try.underlying43 .cro) rfl ?_
                  refine aqs rfl (q_lss rfl rfl) rfl ?_
                  refine alist_nil ?_
                  show AWP _ _ _ _
                  refine awp_cond rfl (fun hc8 => ?_) (fun hc8 => ?_)
                  · simp only [decide_eq_true_eq, List.length_map] at hc8
                    obtain ⟨z, hz, hzm⟩ := get_lt (l := (front x.key D).take n.toNat) (i := j) (by omega)
                    have hz2 := get_map (f := Key.cells) hz
                    have hz3 : ((front x.key D).take m.toNat)[j]? = some z := by
                      rw [List.getElem?_take_of_lt (by omega)] at hz ⊢; exact hz
                    have hz4 := get_map (f := Key.cells) hz3
                    refine awp_skip ?_
                    show AWP _ _ _ _
                    refine awp_seq ?_
                    refine awp_block ?_
                    refine awp_seq ?_
                    refine awp_draw 9 [(0, false), (1, false), (2, false), (3, false), (4, false), (5, false), (6, false), (7, false), (8, false)] _ ([]) mixed (by kernel_rfl) (perm0 _) ?_
                    refine glq rfl (.inl ⟨rfl, q_mv (by constructor)⟩) rfl ?_
                    refine glq rfl (.inl ⟨rfl, q_mv (by constructor)⟩) rfl ?_
                    first | refine glq rfl (.inl ⟨rfl, q_iaN Try.underlying43 sz29 (.inl rfl) rfl (by omega) (by first | rfl | assumption | (simp [*]; done) | fail) (by first | rfl | assumption | (simp [*]; done) | fail) (by decide) (by first | ((repeat constructor); done) | exact .same _)⟩) rfl ?_ | refine glq rfl (.inl ⟨rfl, q_iaS Try.underlying43 sz29 rfl (by repeat (first | exact .here | assumption | (apply HAt.left; assumption) | apply HAt.there | apply HAt.right)) rfl (by omega) (by omega) (by first | exact Nat.zero_add _ | rfl)⟩) rfl ?_ | refine glq rfl (.inl ⟨rfl, q_iaN Try.underlying43 sz29 (.inr rfl) rfl (by omega) (by first | rfl | assumption | (simp [*]; done) | fail) (by first | rfl | assumption | (simp [*]; done) | fail) (by decide) (by first | ((repeat constructor); done) | exact .same _)⟩) rfl ?_
                    first | refine glq rfl (.inl ⟨rfl, q_ldpW ag29 sz29 rfl (by repeat (first | exact .here | assumption | (apply HAt.left; assumption) | apply HAt.there | apply HAt.right)) (by first | rfl | assumption | (simp [*]; done) | fail) (by first | rfl | assumption | (simp [*]; done) | fail) (by decide)⟩) rfl ?_ | refine glq rfl (.inl ⟨rfl, q_ldW ag29 sz29 rfl (by first | rfl | assumption | (simp [*]; done) | fail)⟩) rfl ?_ | refine glq rfl (.inl ⟨rfl, q_ldpP ag29 sz29 rfl (by repeat (first | exact .here | assumption | (apply HAt.left; assumption) | apply HAt.there | apply HAt.right)) (by first | rfl | assumption | (simp [*]; done) | fail) (by first | decide | (simp; done) | omega | fail) (by decide) (by first | ((repeat constructor); done) | exact .same _)⟩) rfl ?_ | refine glq rfl (.inl ⟨rfl, q_ldP ag29 sz29 rfl (by first | decide | (simp; done) | omega | fail) (by first | ((repeat constructor); done) | exact .same _)⟩) rfl ?_
                    refine glq rfl (.inl ⟨rfl, q_mv (by constructor)⟩) rfl ?_
                    refine glq rfl (.inl ⟨rfl, q_mv (by constructor)⟩) rfl ?_
                    first | refine glq rfl (.inl ⟨rfl, q_iaN Try.underlying43 sz29 (.inl rfl) rfl (by omega) (by first | rfl | assumption | (simp [*]; done) | fail) (by first | rfl | assumption | (simp [*]; done) | fail) (by decide) (by first | ((repeat constructor); done) | exact .same _)⟩) rfl ?_ | refine glq rfl (.inl ⟨rfl, q_iaS Try.underlying43 sz29 rfl (by repeat (first | exact .here | assumption | (apply HAt.left; assumption) | apply HAt.there | apply HAt.right)) rfl (by omega) (by omega) (by first | exact Nat.zero_add _ | rfl)⟩) rfl ?_ | refine glq rfl (.inl ⟨rfl, q_iaN Try.underlying43 sz29 (.inr rfl) rfl (by omega) (by first | rfl | assumption | (simp [*]; done) | fail) (by first | rfl | assumption | (simp [*]; done) | fail) (by decide) (by first | ((repeat constructor); done) | exact .same _)⟩) rfl ?_
                    first | refine glq rfl (.inl ⟨rfl, q_ldpW ag29 sz29 rfl (by repeat (first | exact .here | assumption | (apply HAt.left; assumption) | apply HAt.there | apply HAt.right)) (by first | rfl | assumption | (simp [*]; done) | fail) (by first | rfl | assumption | (simp [*]; done) | fail) (by decide)⟩) rfl ?_ | refine glq rfl (.inl ⟨rfl, q_ldW ag29 sz29 rfl (by first | rfl | assumption | (simp [*]; done) | fail)⟩) rfl ?_ | refine glq rfl (.inl ⟨rfl, q_ldpP ag29 sz29 rfl (by repeat (first | exact .here | assumption | (apply HAt.left; assumption) | apply HAt.there | apply HAt.right)) (by first | rfl | assumption | (simp [*]; done) | fail) (by first | decide | (simp; done) | omega | fail) (by decide) (by first | ((repeat constructor); done) | exact .same _)⟩) rfl ?_ | refine glq rfl (.inl ⟨rfl, q_ldP ag29 sz29 rfl (by first | decide | (simp; done) | omega | fail) (by first | ((repeat constructor); done) | exact .same _)⟩) rfl ?_
                    refine glq rfl (.inl ⟨rfl, castF (q_neqA gd29 rfl rfl (by repeat constructor) (by repeat constructor) (fun w => eq29 w)) (by rw [keq]; simp)⟩) rfl ?_
                    (first | refine gld0 ?_ | refine gldA ?_)
                    refine alist_nil ?_
                    show AWP _ _ _ _
                    refine awp_cond rfl (fun hc9 => ?_) (fun hc9 => ?_)
                    · exfalso; first | (simp at hc9; done) | (simp at hc9; omega) | contradiction
                    · try simp only [decide_eq_true_eq, decide_eq_false_iff_not, Bool.not_eq_true', Bool.not_eq_false', Bool.not_eq_eq_eq_not, Bool.not_true, Bool.not_false, beq_iff_eq, beq_eq_false_iff_ne, Int.not_lt, Int.not_le] at hc9
                      refine awp_skip ?_
                      show AWP _ _ _ _
                      refine awp_region ?_
                      refine aqs rfl (q_mv (by constructor)) rfl ?_
                      first | refine aqs rfl (q_add64 rfl rfl (by omega) (by omega)) rfl ?_ | refine aqs rfl (q_add rfl rfl) rfl ?_
                      refine aqs rfl (q_as (by constructor)) rfl ?_
                      refine alist_nil ?_
                      show ∃ y, _ ∧ _ ∧ _
                      exact ⟨j + 1, by omega, by omega, .mk' ⟨by rfl, rfl, rfl, rfl, rfl, rfl, rfl, rfl, rfl, rfl, rfl, trivial⟩ (by repeat (first | exact List.Sublist.refl _ | exact List.nil_sublist _ | exact List.sublist_append_left _ _ | (apply List.Sublist.cons_cons) | (apply List.Sublist.cons)))⟩
                  · skip
                    refine awp_exit ?_
                    show AWP _ _ _ _
                    refine awp_region ?_
                    refine aqs rfl (q_mv (by constructor)) rfl ?_
                    first | refine aqs rfl (q_add64 rfl rfl (by omega) (by omega)) rfl ?_ | refine aqs rfl (q_add rfl rfl) rfl ?_
                    refine aqs rfl (q_as (by constructor)) rfl ?_
                    refine alist_nil ?_
                    show ∃ y, _ ∧ _ ∧ _
                    exact ⟨(i + 1, A, B, front x.key D), ⟨by show i + 1 ≤ b.length; omega, by show i + 1 ≤ 30; omega, hrA, hrB, hkA, hkB, front_nodup hD⟩, by show 30 - (i + 1) < 30 - i; omega, .mk' ⟨by rfl, rfl, rfl, rfl, rfl, rfl, rfl, rfl, trivial⟩ (by repeat (first | exact List.Sublist.refl _ | exact List.nil_sublist _ | exact List.sublist_append_left _ _ | (apply List.Sublist.cons_cons) | (apply List.Sublist.cons)))⟩
    · skip
      refine awp_exit ?_
      show AWP _ _ _ _
      refine awp_seq ?_
      refine awp_region ?_
      refine aqs rfl (q_mv (by constructor)) rfl ?_
      refine aqs rfl (q_as (by constructor)) rfl ?_
      refine alist_nil ?_
      show AWP _ _ _ _
      refine awp_ret ?_
      repeat first | with_reducible refine then_ret ?_ | with_reducible refine blk_ret ?_
      apply retq (.inr rfl) (.cons (rok_t rfl) .nil)
      rotate_left
      · exact ⟨rfl, rfl⟩
      repeat (first | exact List.Sublist.refl _ | exact List.nil_sublist _ | exact List.sublist_append_left _ _ | apply List.Sublist.cons)
end Go.Proofs.YtdlinfekifnmkaaAm
