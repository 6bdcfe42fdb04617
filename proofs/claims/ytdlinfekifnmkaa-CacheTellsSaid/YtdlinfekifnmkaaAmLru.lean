/- Contracts of the layer 'lru'. Conditions: the lengths. -/
import Derived.Test.YtdlinfekifnmkaaAmBase
import Derived.Test.YtdlinfekifnmkaaAmSumsLaws
set_option linter.unusedVariables false
set_option linter.unusedSimpArgs false
set_option maxRecDepth 20000
namespace Go.Proofs.YtdlinfekifnmkaaAm
open Go.Proofs

theorem lenKey (l : List Key) : ∀ c ∈ l.map Key.cells, c.length = 2 := by
  intro c hc
  obtain ⟨s, _, rfl⟩ := List.mem_map.1 hc
  rfl
theorem oneKey (l : List Key) : ∀ c ∈ l.map Key.cells, c.all cell1 = true := by
  intro c hc
  obtain ⟨s, _, rfl⟩ := List.mem_map.1 hc
  rfl
def keysOf (l : List Slot) : List Key := l.map (·.key)
set_option maxHeartbeats 1000000 in
theorem keys49_c (l : List Slot) (hl : l.length ≤ 1000000) (H : Heap) : QCall Try.prog 49 [.ro (l.map Slot.cells)] H (.ro ((keysOf l).map Key.cells)) := by
  refine acall_intro (n := 18) (rvs := [.tmp 2]) Try.func49 rfl rfl rfl (Nat.le_of_ble_eq_true rfl) ?_
  refine awp_seq ?_
  refine awp_region ?_
  refine aqs rfl (q_as (by constructor)) rfl ?_
  refine alist_nil ?_
  show AWP _ _ _ _
  refine awp_adopt 2 29 2 rfl fun u0 => ?_
  show AWP _ _ _ _
  refine awp_seq ?_
  refine awp_seq ?_
  refine awp_region ?_
  refine aqs rfl (q_mv (by constructor)) rfl ?_
  first | refine aqs rfl (q_len Try.underlying38 .ro) rfl ?_ | refine aqs rfl (q_lenO Try.underlying38 rfl (by repeat (first | exact .here | assumption | (apply HAt.left; assumption) | apply HAt.there | apply HAt.right)) (by first | omega | (simp; done) | (simp; omega) | fail) (by first | exact Nat.sub_zero _ | rfl)) rfl ?_ | refine aqs rfl (q_len Try.underlying38 .nil) rfl ?_ | refine aqs rfl (q_len Try.underlying38 .cro) rfl ?_
  refine aqs rfl (q_mv (by constructor)) rfl ?_
  refine alist_nil ?_
  show AWP _ _ _ _
  refine awp_block ?_
  rw [List.length_map]
  refine awp_loop_inv (fun x : Nat × Nat => ⟨[(7, .lit (.int .i64 x.1)), (6, .lit (.int .i64 l.length)), (5, .ro (l.map Slot.cells)), (2, .sl x.2 0 x.1)], 18, (x.2, .arr 29 2 ((keysOf (l.take x.1)).map Key.cells)) :: H⟩) (fun x => x.1 ≤ l.length) (fun x => l.length - x.1) (0, u0) ?_ ?_ ?_
  · exact Nat.zero_le _
  · exact .mk' (by repeat (first | exact trivial | refine ⟨rfl, ?_⟩)) (by repeat (first | exact .refl _ | apply List.Sublist.cons_cons | apply List.Sublist.cons))
  · rintro ⟨i, u⟩ hi
    simp only at hi ⊢
    have hlen := lenKey (keysOf (l.take i))
    have hone := oneKey (keysOf (l.take i))
    have hlt : (keysOf (l.take i)).length = i := by simp [keysOf]; omega
    refine awp_seq ?_
    refine awp_region ?_
    refine aqs rfl (q_lss rfl rfl) rfl ?_
    refine alist_nil ?_
    show AWP _ _ _ _
    refine awp_seq ?_
    refine awp_cond rfl (fun hc0 => ?_) (fun hc0 => ?_)
    · simp only [decide_eq_true_eq] at hc0
      obtain ⟨s, hs, hsm⟩ := get_lt (l := l) (i := i) (by omega)
      have hs2 := get_map (f := Slot.cells) hs
      have hes : ((keysOf (l.take i)).map Key.cells).take i ++ [s.key.cells] = (keysOf (l.take (i + 1))).map Key.cells := by
        rw [List.take_of_length_le (by simp [keysOf]; omega), take_next hs]; simp [keysOf]
      refine awp_skip ?_
      show AWP _ _ _ _
      refine awp_seq ?_
      refine awp_block ?_
      refine awp_seq ?_
      refine awp_region ?_
      first | refine aqs rfl (q_iaN Try.underlying38 sz40 (.inl rfl) rfl (by omega) (by first | rfl | assumption | (simp [*]; done) | fail) (by first | rfl | assumption | (simp [*]; done) | fail) (by decide) (by first | ((repeat constructor); done) | exact .same _)) rfl ?_ | refine aqs rfl (q_iaS Try.underlying38 sz40 rfl (by repeat (first | exact .here | assumption | (apply HAt.left; assumption) | apply HAt.there | apply HAt.right)) rfl (by omega) (by omega) (by first | exact Nat.zero_add _ | rfl)) rfl ?_ | refine aqs rfl (q_iaN Try.underlying38 sz40 (.inr rfl) rfl (by omega) (by first | rfl | assumption | (simp [*]; done) | fail) (by first | rfl | assumption | (simp [*]; done) | fail) (by decide) (by first | ((repeat constructor); done) | exact .same _)) rfl ?_
      first | refine aqs rfl (q_ldpW ag40 sz40 rfl (by repeat (first | exact .here | assumption | (apply HAt.left; assumption) | apply HAt.there | apply HAt.right)) (by first | rfl | assumption | (simp [*]; done) | fail) (by first | rfl | assumption | (simp [*]; done) | fail) (by decide)) rfl ?_ | refine aqs rfl (q_ldW ag40 sz40 rfl (by first | rfl | assumption | (simp [*]; done) | fail)) rfl ?_ | refine aqs rfl (q_ldpP ag40 sz40 rfl (by repeat (first | exact .here | assumption | (apply HAt.left; assumption) | apply HAt.there | apply HAt.right)) (by first | rfl | assumption | (simp [*]; done) | fail) (by first | decide | (simp; done) | omega | fail) (by decide) (by first | ((repeat constructor); done) | exact .same _)) rfl ?_ | refine aqs rfl (q_ldP ag40 sz40 rfl (by first | decide | (simp; done) | omega | fail) (by first | ((repeat constructor); done) | exact .same _)) rfl ?_
      (refine aes rfl (e_al (xs := [.lit (.int .u64 0), .lit (.int .i64 0), .lit (.string ⟨#[]⟩), .lit (.string ⟨#[]⟩), .lit (.string ⟨#[]⟩)]) (k := 5) zr40 (.same _) rfl) rfl ?_; rintro _ _ ⟨u4, rfl, rfl⟩)
      first | (refine aen rfl (e_stW sz40 rfl (by repeat (first | exact .here | assumption | (apply HAt.left; assumption) | apply HAt.there | apply HAt.right)) (by constructor) (by first | rfl | assumption | (simp [*]; done) | fail) rfl (by repeat (first | exact .here | apply HSet.there))) ?_; rintro _ _ ⟨rfl, rfl⟩) | (refine aen rfl (e_stP sz40 rfl (by repeat (first | exact .here | assumption | (apply HAt.left; assumption) | apply HAt.there | apply HAt.right)) (by first | rfl | assumption | (simp [*]; done) | fail) (by constructor) (by first | rfl | assumption | (simp [*]; done) | fail) rfl (by first | decide | omega) (by first | ((repeat constructor); done) | exact .same _) (by first | exact .one | exact .set) (by repeat (first | exact .here | apply HSet.there))) ?_; rintro _ _ ⟨rfl, rfl⟩)
      refine alist_nil ?_
      show AWP _ _ _ _
      refine awp_region ?_
      refine aqs rfl (q_mv (by constructor)) rfl ?_
      first | refine aqs rfl (q_fapP fl40_0 (by decide) rfl rfl) rfl ?_ | refine aqs rfl (q_faP fl40_0 (by decide) rfl (by first | ((repeat constructor); done) | exact .same _)) rfl ?_
      first | refine aqs rfl (q_ldpW ag29 sz29 rfl (by repeat (first | exact .here | assumption | (apply HAt.left; assumption) | apply HAt.there | apply HAt.right)) (by first | rfl | assumption | (simp [*]; done) | fail) (by first | rfl | assumption | (simp [*]; done) | fail) (by decide)) rfl ?_ | refine aqs rfl (q_ldW ag29 sz29 rfl (by first | rfl | assumption | (simp [*]; done) | fail)) rfl ?_ | refine aqs rfl (q_ldpP ag29 sz29 rfl (by repeat (first | exact .here | assumption | (apply HAt.left; assumption) | apply HAt.there | apply HAt.right)) (by first | rfl | assumption | (simp [*]; done) | fail) (by first | decide | (simp; done) | omega | fail) (by decide) (by first | ((repeat constructor); done) | exact .same _)) rfl ?_ | refine aqs rfl (q_ldP ag29 sz29 rfl (by first | decide | (simp; done) | omega | fail) (by first | ((repeat constructor); done) | exact .same _)) rfl ?_
      first | refine aqs rfl (q_bs Try.underlying43 sz29 zr29 rfl (by first | ((repeat constructor); done) | exact .same _) rfl (by decide) (by repeat (first | exact BS.nil | (apply BS.cons; (· constructor); (· rfl); (· rfl); (· rfl); (· exact (by first | ((repeat constructor); done) | exact .same _)))))) rfl ?_ | (refine aes rfl (e_bs Try.underlying43 sz29 zr29 rfl (by first | ((repeat constructor); done) | exact .same _) rfl (by decide) (by repeat (first | exact BS.nil | (apply BS.cons; (· constructor); (· rfl); (· rfl); (· rfl); (· exact (by first | ((repeat constructor); done) | exact .same _)))))) rfl ?_; rintro _ _ ⟨u14, rfl, rfl⟩)
      first | refine aqs rfl (q_apC Try.underlying43 sz29 by29 zr29 (.inl rfl) (by first | exact .ro | exact .cro | exact .nil | exact SV.slA (by repeat (first | exact .here | assumption | (apply HAt.left; assumption) | apply HAt.there | apply HAt.right)) (by first | rfl | (simp; done) | (simp; omega) | (simp [*]; done) | fail)) (by first | assumption | (intro c hc; simp at hc; subst hc; rfl) | (simp; done) | fail) (by first | assumption | (intro c hc; simp at hc; subst hc; rfl) | (simp; done) | fail) (by first | omega | decide | (simp; omega) | assumption | fail) (by decide) (by decide) rfl (by first | rfl | (simp; done) | fail)) rfl ?_ | refine aqs rfl (q_apC Try.underlying43 sz29 by29 zr29 (.inr ⟨rfl, rfl⟩) (by first | exact .ro | exact .cro | exact .nil | exact SV.slA (by repeat (first | exact .here | assumption | (apply HAt.left; assumption) | apply HAt.there | apply HAt.right)) (by first | rfl | (simp; done) | (simp; omega) | (simp [*]; done) | fail)) (by first | assumption | (intro c hc; simp at hc; subst hc; rfl) | (simp; done) | fail) (by first | assumption | (intro c hc; simp at hc; subst hc; rfl) | (simp; done) | fail) (by first | omega | decide | (simp; omega) | assumption | fail) (by decide) (by decide) rfl (by first | rfl | (simp; done) | fail)) rfl ?_ | (refine aes rfl (e_apO Try.underlying43 sz29 by29 zr29 rfl (by repeat (first | exact .here | assumption | (apply HAt.left; assumption) | apply HAt.there | apply HAt.right)) (by rw [List.length_map, hlt]; exact Nat.le_refl _) (by first | exact .ro | exact .cro | exact .nil | exact SV.slA (by repeat (first | exact .here | assumption | (apply HAt.left; assumption) | apply HAt.there | apply HAt.right)) (by first | rfl | (simp; done) | (simp; omega) | (simp [*]; done) | fail)) (by first | assumption | (intro c hc; simp at hc; subst hc; rfl) | (simp; done) | fail) (by first | assumption | (intro c hc; simp at hc; subst hc; rfl) | (simp; done) | fail) (by first | assumption | (intro c hc; simp at hc; subst hc; rfl) | (simp; done) | fail) (by first | (simp; done) | (simp; omega) | omega | fail) (by decide) (by decide) rfl (by rfl) hes (fun v => (by repeat (first | exact .here | apply HSet.there)))) rfl ?_; rintro _ _ ⟨u15, rfl, rfl⟩) | (refine aes rfl (e_apN Try.underlying43 sz29 by29 zr29 rfl (by first | exact .ro | exact .cro | exact .nil | exact SV.slA (by repeat (first | exact .here | assumption | (apply HAt.left; assumption) | apply HAt.there | apply HAt.right)) (by first | rfl | (simp; done) | (simp; omega) | (simp [*]; done) | fail)) (by first | assumption | (intro c hc; simp at hc; subst hc; rfl) | (simp; done) | fail) (by first | assumption | (intro c hc; simp at hc; subst hc; rfl) | (simp; done) | fail) (by first | (simp; done) | (simp; omega) | omega | fail) (by decide) (by decide) rfl rfl) rfl ?_; rintro _ _ ⟨u15, rfl, rfl⟩)
      refine aqs rfl (q_as (by constructor)) rfl ?_
      refine alist_nil ?_
      show AWP _ _ _ _
      refine awp_region ?_
      first | refine aqs rfl (q_add64 rfl rfl (by omega) (by omega)) rfl ?_ | refine aqs rfl (q_add rfl rfl) rfl ?_
      refine aqs rfl (q_mv (by constructor)) rfl ?_
      refine alist_nil ?_
      show ∃ y, _ ∧ _ ∧ _
      exact ⟨(i + 1, _), by show i + 1 ≤ l.length; omega, by show l.length - (i + 1) < l.length - i; omega, .mk' ⟨by rfl, rfl, rfl, rfl, trivial⟩ (by repeat (first | exact List.Sublist.refl _ | exact List.nil_sublist _ | exact List.sublist_append_left _ _ | (apply List.Sublist.cons_cons) | (apply List.Sublist.cons)))⟩
    · simp only [decide_eq_false_iff_not] at hc0
      have hil : i = l.length := by omega
      subst hil
      rw [List.take_length] at hlt ⊢
      refine awp_exit ?_
      show AWP _ _ _ _
      refine awp_seq ?_
      refine awp_region ?_
      refine aqs rfl (q_mv (by constructor)) rfl ?_
      refine aqs rfl (q_as (by constructor)) rfl ?_
      refine alist_nil ?_
      show AWP _ _ _ _
      refine awp_pub (u := u) (by repeat (first | exact .here | assumption | (apply HAt.left; assumption) | apply HAt.there | apply HAt.right)) (by repeat (first | exact PubT.nil | (apply PubT.cons; (· first | exact .one (pub_all (by first | rfl | (simp; done) | (simp; omega) | (simp [*]; done) | fail)) | exact .one .same)) | exact PubT.same)) (by repeat (first | exact PubH.drop .same | (apply PubH.cons; (· exact .same)))) ?_
      show AWP _ _ _ _
      refine awp_ret ?_
      repeat first | with_reducible refine then_ret ?_ | with_reducible refine blk_ret ?_
      apply retq (.inr rfl) (.cons (rok_t rfl) .nil)
      rotate_left
      · exact ⟨rfl, rfl⟩
      repeat (first | exact List.Sublist.refl _ | exact List.nil_sublist _ | exact List.sublist_append_left _ _ | apply List.Sublist.cons)

set_option maxHeartbeats 1000000 in
theorem keys50_c (l : List Slot) (hl : l.length ≤ 1000000) (H : Heap) : QCall Try.prog 50 [.ro (l.map Slot.cells)] H (.ro ((keysOf l).map Key.cells)) := by
  refine acall_intro (n := 20) (rvs := [.tmp 2]) Try.func50 rfl rfl rfl (Nat.le_of_ble_eq_true rfl) ?_
  refine awp_seq ?_
  refine awp_region ?_
  refine aqs rfl (q_as (by constructor)) rfl ?_
  refine alist_nil ?_
  show AWP _ _ _ _
  refine awp_seq ?_
  refine awp_region ?_
  refine aqs rfl (q_as (by constructor)) rfl ?_
  refine alist_nil ?_
  show AWP _ _ _ _
  refine awp_adopt 3 29 2 rfl fun u0 => ?_
  show AWP _ _ _ _
  refine awp_seq ?_
  refine awp_seq ?_
  refine awp_region ?_
  refine aqs rfl (q_as (by constructor)) rfl ?_
  refine alist_nil ?_
  show AWP _ _ _ _
  refine awp_block ?_
  refine awp_loop_inv (fun x : Nat × Nat => ⟨[(4, .lit (.int .i64 x.1)), (0, .ro (l.map Slot.cells)), (3, .sl x.2 0 x.1)], 20, (x.2, .arr 29 2 ((keysOf (l.take x.1)).map Key.cells)) :: H⟩) (fun x => x.1 ≤ l.length) (fun x => l.length - x.1) (0, u0) ?_ ?_ ?_
  · exact Nat.zero_le _
  · exact .mk' (by repeat (first | exact trivial | refine ⟨rfl, ?_⟩)) (by repeat (first | exact .refl _ | apply List.Sublist.cons_cons | apply List.Sublist.cons))
  · rintro ⟨i, u⟩ hi
    simp only at hi ⊢
    have hlen := lenKey (keysOf (l.take i))
    have hone := oneKey (keysOf (l.take i))
    have hlt : (keysOf (l.take i)).length = i := by simp [keysOf]; omega
    refine awp_seq ?_
    refine awp_seq ?_
    refine awp_region ?_
    refine aqs rfl (q_mv (by constructor)) rfl ?_
    refine aqs rfl (q_mv (by constructor)) rfl ?_
    first | refine aqs rfl (q_len Try.underlying38 .ro) rfl ?_ | refine aqs rfl (q_lenO Try.underlying38 rfl (by repeat (first | exact .here | assumption | (apply HAt.left; assumption) | apply HAt.there | apply HAt.right)) (by first | omega | (simp; done) | (simp; omega) | fail) (by first | exact Nat.sub_zero _ | rfl)) rfl ?_ | refine aqs rfl (q_len Try.underlying38 .nil) rfl ?_ | refine aqs rfl (q_len Try.underlying38 .cro) rfl ?_
    refine aqs rfl (q_lss rfl rfl) rfl ?_
    refine alist_nil ?_
    show AWP _ _ _ _
    refine awp_cond rfl (fun hc0 => ?_) (fun hc0 => ?_)
    · simp only [decide_eq_true_eq, List.length_map] at hc0
      obtain ⟨s, hs, hsm⟩ := get_lt (l := l) (i := i) (by omega)
      have hs2 := get_map (f := Slot.cells) hs
      have hes : ((keysOf (l.take i)).map Key.cells).take i ++ [s.key.cells] = (keysOf (l.take (i + 1))).map Key.cells := by
        rw [List.take_of_length_le (by simp [keysOf]; omega), take_next hs]; simp [keysOf]
      refine awp_skip ?_
      show AWP _ _ _ _
      refine awp_seq ?_
      refine awp_block ?_
      refine awp_region ?_
      refine aqs rfl (q_mv (by constructor)) rfl ?_
      refine aqs rfl (q_mv (by constructor)) rfl ?_
      refine aqs rfl (q_mv (by constructor)) rfl ?_
      first | refine aqs rfl (q_iaN Try.underlying38 sz40 (.inl rfl) rfl (by omega) (by first | rfl | assumption | (simp [*]; done) | fail) (by first | rfl | assumption | (simp [*]; done) | fail) (by decide) (by first | ((repeat constructor); done) | exact .same _)) rfl ?_ | refine aqs rfl (q_iaS Try.underlying38 sz40 rfl (by repeat (first | exact .here | assumption | (apply HAt.left; assumption) | apply HAt.there | apply HAt.right)) rfl (by omega) (by omega) (by first | exact Nat.zero_add _ | rfl)) rfl ?_ | refine aqs rfl (q_iaN Try.underlying38 sz40 (.inr rfl) rfl (by omega) (by first | rfl | assumption | (simp [*]; done) | fail) (by first | rfl | assumption | (simp [*]; done) | fail) (by decide) (by first | ((repeat constructor); done) | exact .same _)) rfl ?_
      first | refine aqs rfl (q_fapP fl40_0 (by decide) rfl rfl) rfl ?_ | refine aqs rfl (q_faP fl40_0 (by decide) rfl (by first | ((repeat constructor); done) | exact .same _)) rfl ?_
      first | refine aqs rfl (q_ldpW ag29 sz29 rfl (by repeat (first | exact .here | assumption | (apply HAt.left; assumption) | apply HAt.there | apply HAt.right)) (by first | rfl | assumption | (simp [*]; done) | fail) (by first | rfl | assumption | (simp [*]; done) | fail) (by decide)) rfl ?_ | refine aqs rfl (q_ldW ag29 sz29 rfl (by first | rfl | assumption | (simp [*]; done) | fail)) rfl ?_ | refine aqs rfl (q_ldpP ag29 sz29 rfl (by repeat (first | exact .here | assumption | (apply HAt.left; assumption) | apply HAt.there | apply HAt.right)) (by first | rfl | assumption | (simp [*]; done) | fail) (by first | decide | (simp; done) | omega | fail) (by decide) (by first | ((repeat constructor); done) | exact .same _)) rfl ?_ | refine aqs rfl (q_ldP ag29 sz29 rfl (by first | decide | (simp; done) | omega | fail) (by first | ((repeat constructor); done) | exact .same _)) rfl ?_
      first | refine aqs rfl (q_bs Try.underlying43 sz29 zr29 rfl (by first | ((repeat constructor); done) | exact .same _) rfl (by decide) (by repeat (first | exact BS.nil | (apply BS.cons; (· constructor); (· rfl); (· rfl); (· rfl); (· exact (by first | ((repeat constructor); done) | exact .same _)))))) rfl ?_ | (refine aes rfl (e_bs Try.underlying43 sz29 zr29 rfl (by first | ((repeat constructor); done) | exact .same _) rfl (by decide) (by repeat (first | exact BS.nil | (apply BS.cons; (· constructor); (· rfl); (· rfl); (· rfl); (· exact (by first | ((repeat constructor); done) | exact .same _)))))) rfl ?_; rintro _ _ ⟨u17, rfl, rfl⟩)
      first | refine aqs rfl (q_apC Try.underlying43 sz29 by29 zr29 (.inl rfl) (by first | exact .ro | exact .cro | exact .nil | exact SV.slA (by repeat (first | exact .here | assumption | (apply HAt.left; assumption) | apply HAt.there | apply HAt.right)) (by first | rfl | (simp; done) | (simp; omega) | (simp [*]; done) | fail)) (by first | assumption | (intro c hc; simp at hc; subst hc; rfl) | (simp; done) | fail) (by first | assumption | (intro c hc; simp at hc; subst hc; rfl) | (simp; done) | fail) (by first | omega | decide | (simp; omega) | assumption | fail) (by decide) (by decide) rfl (by first | rfl | (simp; done) | fail)) rfl ?_ | refine aqs rfl (q_apC Try.underlying43 sz29 by29 zr29 (.inr ⟨rfl, rfl⟩) (by first | exact .ro | exact .cro | exact .nil | exact SV.slA (by repeat (first | exact .here | assumption | (apply HAt.left; assumption) | apply HAt.there | apply HAt.right)) (by first | rfl | (simp; done) | (simp; omega) | (simp [*]; done) | fail)) (by first | assumption | (intro c hc; simp at hc; subst hc; rfl) | (simp; done) | fail) (by first | assumption | (intro c hc; simp at hc; subst hc; rfl) | (simp; done) | fail) (by first | omega | decide | (simp; omega) | assumption | fail) (by decide) (by decide) rfl (by first | rfl | (simp; done) | fail)) rfl ?_ | (refine aes rfl (e_apO Try.underlying43 sz29 by29 zr29 rfl (by repeat (first | exact .here | assumption | (apply HAt.left; assumption) | apply HAt.there | apply HAt.right)) (by rw [List.length_map, hlt]; exact Nat.le_refl _) (by first | exact .ro | exact .cro | exact .nil | exact SV.slA (by repeat (first | exact .here | assumption | (apply HAt.left; assumption) | apply HAt.there | apply HAt.right)) (by first | rfl | (simp; done) | (simp; omega) | (simp [*]; done) | fail)) (by first | assumption | (intro c hc; simp at hc; subst hc; rfl) | (simp; done) | fail) (by first | assumption | (intro c hc; simp at hc; subst hc; rfl) | (simp; done) | fail) (by first | assumption | (intro c hc; simp at hc; subst hc; rfl) | (simp; done) | fail) (by first | (simp; done) | (simp; omega) | omega | fail) (by decide) (by decide) rfl (by rfl) hes (fun v => (by repeat (first | exact .here | apply HSet.there)))) rfl ?_; rintro _ _ ⟨u18, rfl, rfl⟩) | (refine aes rfl (e_apN Try.underlying43 sz29 by29 zr29 rfl (by first | exact .ro | exact .cro | exact .nil | exact SV.slA (by repeat (first | exact .here | assumption | (apply HAt.left; assumption) | apply HAt.there | apply HAt.right)) (by first | rfl | (simp; done) | (simp; omega) | (simp [*]; done) | fail)) (by first | assumption | (intro c hc; simp at hc; subst hc; rfl) | (simp; done) | fail) (by first | assumption | (intro c hc; simp at hc; subst hc; rfl) | (simp; done) | fail) (by first | (simp; done) | (simp; omega) | omega | fail) (by decide) (by decide) rfl rfl) rfl ?_; rintro _ _ ⟨u18, rfl, rfl⟩)
      refine aqs rfl (q_as (by constructor)) rfl ?_
      refine alist_nil ?_
      show AWP _ _ _ _
      refine awp_region ?_
      refine aqs rfl (q_mv (by constructor)) rfl ?_
      first | refine aqs rfl (q_add64 rfl rfl (by omega) (by omega)) rfl ?_ | refine aqs rfl (q_add rfl rfl) rfl ?_
      refine aqs rfl (q_as (by constructor)) rfl ?_
      refine alist_nil ?_
      show ∃ y, _ ∧ _ ∧ _
      exact ⟨(i + 1, _), by show i + 1 ≤ l.length; omega, by show l.length - (i + 1) < l.length - i; omega, .mk' ⟨by rfl, rfl, rfl, trivial⟩ (by repeat (first | exact List.Sublist.refl _ | exact List.nil_sublist _ | exact List.sublist_append_left _ _ | (apply List.Sublist.cons_cons) | (apply List.Sublist.cons)))⟩
    · simp only [decide_eq_false_iff_not, List.length_map] at hc0
      have hil : i = l.length := by omega
      subst hil
      rw [List.take_length] at hlt ⊢
      refine awp_exit ?_
      show AWP _ _ _ _
      refine awp_seq ?_
      refine awp_region ?_
      refine aqs rfl (q_mv (by constructor)) rfl ?_
      refine aqs rfl (q_as (by constructor)) rfl ?_
      refine alist_nil ?_
      show AWP _ _ _ _
      refine awp_pub (u := u) (by repeat (first | exact .here | assumption | (apply HAt.left; assumption) | apply HAt.there | apply HAt.right)) (by repeat (first | exact PubT.nil | (apply PubT.cons; (· first | exact .one (pub_all (by first | rfl | (simp; done) | (simp; omega) | (simp [*]; done) | fail)) | exact .one .same)) | exact PubT.same)) (by repeat (first | exact PubH.drop .same | (apply PubH.cons; (· exact .same)))) ?_
      show AWP _ _ _ _
      refine awp_ret ?_
      repeat first | with_reducible refine then_ret ?_ | with_reducible refine blk_ret ?_
      apply retq (.inr rfl) (.cons (rok_t rfl) .nil)
      rotate_left
      · exact ⟨rfl, rfl⟩
      repeat (first | exact List.Sublist.refl _ | exact List.nil_sublist _ | exact List.sublist_append_left _ _ | apply List.Sublist.cons)

def rightB (l : List Slot) : Bool := decide (keysOf l).Nodup
def seen (l : List Slot) : List (Value × AV) := l.map fun s => (keyV s.key, .lit (.bool true))
theorem seen_D (l : List Slot) : ∀ p ∈ seen l, D29 p.1 := by
  intro p hp
  obtain ⟨s, _, rfl⟩ := List.mem_map.1 hp
  exact ⟨s.key, rfl⟩
theorem seen_lk {l : List Slot} {k : Key} {r : AV} (h : lkR (seen l) (keyV k) (ofV (.bool false)) r) : ∃ b, r = .lit (.bool b) ∧ (b = true ↔ k ∈ keysOf l) := by
  rcases h with ⟨j, hj⟩ | ⟨h, rfl⟩
  · have hm := List.mem_of_getElem? hj
    obtain ⟨s, hs, he⟩ := List.mem_map.1 hm
    simp only [Prod.mk.injEq] at he
    obtain ⟨h1, rfl⟩ := he
    exact ⟨true, rfl, by simp; exact List.mem_map.2 ⟨s, hs, keyV_inj.1 h1⟩⟩
  · refine ⟨false, rfl, ?_⟩
    simp only [Bool.false_eq_true, false_iff]
    intro hk
    obtain ⟨s, hs, rfl⟩ := List.mem_map.1 hk
    exact h (keyV s.key, .lit (.bool true)) (List.mem_map.2 ⟨s, hs, rfl⟩) rfl
theorem seen_up {l : List Slot} {s : Slot} {kvs' : List (Value × AV)} (hn : s.key ∉ keysOf l) (h : upR (seen l) (keyV s.key) (.lit (.bool true)) kvs') : kvs' = seen (l ++ [s]) := by
  rcases h with ⟨j, y, hj, _⟩ | ⟨_, rfl⟩
  · have hm := List.mem_of_getElem? hj
    obtain ⟨s', hs, he⟩ := List.mem_map.1 hm
    simp only [Prod.mk.injEq] at he
    exact absurd (List.mem_map.2 ⟨s', hs, keyV_inj.1 he.1⟩) hn
  · simp [seen]
theorem right_dup {l : List Slot} {i : Nat} {s : Slot} (hs : l[i]? = some s) (hm : s.key ∈ keysOf (l.take i)) : rightB l = false := by
  rw [rightB, decide_eq_false_iff_not]
  intro hn
  have e : l = l.take i ++ s :: l.drop (i + 1) := by rw [← drop_at hs, List.take_append_drop]
  rw [e, keysOf, List.map_append, List.map_cons, List.nodup_append] at hn
  exact hn.2.2 s.key hm s.key (by simp) rfl
theorem nodup_next {l : List Slot} {i : Nat} {s : Slot} (hs : l[i]? = some s) (hn : (keysOf (l.take i)).Nodup) (hm : s.key ∉ keysOf (l.take i)) : (keysOf (l.take (i + 1))).Nodup := by
  rw [take_next hs, keysOf, List.map_append, List.nodup_append]
  refine ⟨hn, by simp, fun a ha b hb => ?_⟩
  simp at hb
  subst hb
  exact fun e => hm (e ▸ ha)
set_option maxHeartbeats 1000000 in
theorem right51_c (l : List Slot) (hl : l.length ≤ 1000000) (H : Heap) : QCall Try.prog 51 [.ro (l.map Slot.cells)] H (.lit (.bool (rightB l))) := by
  refine acall_intro (n := 21) (rvs := [.tmp 2]) Try.func51 rfl rfl rfl (Nat.le_of_ble_eq_true rfl) ?_
  refine awp_seq ?_
  refine awp_region ?_
  refine aqs rfl (q_as (by constructor)) rfl ?_
  refine alist_nil ?_
  show AWP _ _ _ _
  refine awp_seq ?_
  refine awp_region ?_
  (refine aes rfl (e_mm) rfl ?_; rintro _ _ ⟨u6, rfl, rfl⟩)
  skip
  refine aqs rfl (q_as (by constructor)) rfl ?_
  refine alist_nil ?_
  show AWP _ _ _ _
  refine awp_seq ?_
  refine awp_seq ?_
  refine awp_region ?_
  refine aqs rfl (q_mv (by constructor)) rfl ?_
  first | refine aqs rfl (q_len Try.underlying38 .ro) rfl ?_ | refine aqs rfl (q_lenO Try.underlying38 rfl (by repeat (first | exact .here | assumption | (apply HAt.left; assumption) | apply HAt.there | apply HAt.right)) (by first | omega | (simp; done) | (simp; omega) | fail) (by first | exact Nat.sub_zero _ | rfl)) rfl ?_ | refine aqs rfl (q_len Try.underlying38 .nil) rfl ?_ | refine aqs rfl (q_len Try.underlying38 .cro) rfl ?_
  refine aqs rfl (q_mv (by constructor)) rfl ?_
  refine alist_nil ?_
  show AWP _ _ _ _
  refine awp_block ?_
  rw [List.length_map]
  refine awp_loop_inv (fun i : Nat => ⟨[(9, .lit (.int .i64 i)), (8, .lit (.int .i64 l.length)), (7, .ro (l.map Slot.cells)), (3, .mp u6)], 21, (u6, .map (seen (l.take i))) :: H⟩) (fun i => i ≤ l.length ∧ (keysOf (l.take i)).Nodup) (fun i => l.length - i) 0 ?_ ?_ ?_
  · exact ⟨Nat.zero_le _, by simp [keysOf]⟩
  · exact .mk' (by repeat (first | exact trivial | refine ⟨rfl, ?_⟩)) (by repeat (first | exact .refl _ | apply List.Sublist.cons_cons | apply List.Sublist.cons))
  · intro i hi
    obtain ⟨hi, hnd⟩ := hi
    have hD := seen_D (l.take i)
    refine awp_seq ?_
    refine awp_region ?_
    refine aqs rfl (q_lss rfl rfl) rfl ?_
    refine alist_nil ?_
    show AWP _ _ _ _
    refine awp_seq ?_
    refine awp_cond rfl (fun hc0 => ?_) (fun hc0 => ?_)
    · simp only [decide_eq_true_eq] at hc0
      obtain ⟨s, hs, hsm⟩ := get_lt (l := l) (i := i) (by omega)
      have hs2 := get_map (f := Slot.cells) hs
      refine awp_skip ?_
      show AWP _ _ _ _
      refine awp_seq ?_
      refine awp_block ?_
      refine awp_seq ?_
      refine awp_region ?_
      first | refine aqs rfl (q_iaN Try.underlying38 sz40 (.inl rfl) rfl (by omega) (by first | rfl | assumption | (simp [*]; done) | fail) (by first | rfl | assumption | (simp [*]; done) | fail) (by decide) (by first | ((repeat constructor); done) | exact .same _)) rfl ?_ | refine aqs rfl (q_iaS Try.underlying38 sz40 rfl (by repeat (first | exact .here | assumption | (apply HAt.left; assumption) | apply HAt.there | apply HAt.right)) rfl (by omega) (by omega) (by first | exact Nat.zero_add _ | rfl)) rfl ?_ | refine aqs rfl (q_iaN Try.underlying38 sz40 (.inr rfl) rfl (by omega) (by first | rfl | assumption | (simp [*]; done) | fail) (by first | rfl | assumption | (simp [*]; done) | fail) (by decide) (by first | ((repeat constructor); done) | exact .same _)) rfl ?_
      first | refine aqs rfl (q_ldpW ag40 sz40 rfl (by repeat (first | exact .here | assumption | (apply HAt.left; assumption) | apply HAt.there | apply HAt.right)) (by first | rfl | assumption | (simp [*]; done) | fail) (by first | rfl | assumption | (simp [*]; done) | fail) (by decide)) rfl ?_ | refine aqs rfl (q_ldW ag40 sz40 rfl (by first | rfl | assumption | (simp [*]; done) | fail)) rfl ?_ | refine aqs rfl (q_ldpP ag40 sz40 rfl (by repeat (first | exact .here | assumption | (apply HAt.left; assumption) | apply HAt.there | apply HAt.right)) (by first | rfl | assumption | (simp [*]; done) | fail) (by first | decide | (simp; done) | omega | fail) (by decide) (by first | ((repeat constructor); done) | exact .same _)) rfl ?_ | refine aqs rfl (q_ldP ag40 sz40 rfl (by first | decide | (simp; done) | omega | fail) (by first | ((repeat constructor); done) | exact .same _)) rfl ?_
      (refine aes rfl (e_al (xs := [.lit (.int .u64 0), .lit (.int .i64 0), .lit (.string ⟨#[]⟩), .lit (.string ⟨#[]⟩), .lit (.string ⟨#[]⟩)]) (k := 5) zr40 (.same _) rfl) rfl ?_; rintro _ _ ⟨u5, rfl, rfl⟩)
      first | (refine aen rfl (e_stW sz40 rfl (by repeat (first | exact .here | assumption | (apply HAt.left; assumption) | apply HAt.there | apply HAt.right)) (by constructor) (by first | rfl | assumption | (simp [*]; done) | fail) rfl (by repeat (first | exact .here | apply HSet.there))) ?_; rintro _ _ ⟨rfl, rfl⟩) | (refine aen rfl (e_stP sz40 rfl (by repeat (first | exact .here | assumption | (apply HAt.left; assumption) | apply HAt.there | apply HAt.right)) (by first | rfl | assumption | (simp [*]; done) | fail) (by constructor) (by first | rfl | assumption | (simp [*]; done) | fail) rfl (by first | decide | omega) (by first | ((repeat constructor); done) | exact .same _) (by first | exact .one | exact .set) (by repeat (first | exact .here | apply HSet.there))) ?_; rintro _ _ ⟨rfl, rfl⟩)
      refine alist_nil ?_
      show AWP _ _ _ _
      refine awp_seq ?_
      refine awp_seq ?_
      refine awp_region ?_
      refine aqs rfl (q_mv (by constructor)) rfl ?_
      first | refine aqs rfl (q_fapP fl40_0 (by decide) rfl rfl) rfl ?_ | refine aqs rfl (q_faP fl40_0 (by decide) rfl (by first | ((repeat constructor); done) | exact .same _)) rfl ?_
      first | refine aqs rfl (q_ldpW ag29 sz29 rfl (by repeat (first | exact .here | assumption | (apply HAt.left; assumption) | apply HAt.there | apply HAt.right)) (by first | rfl | assumption | (simp [*]; done) | fail) (by first | rfl | assumption | (simp [*]; done) | fail) (by decide)) rfl ?_ | refine aqs rfl (q_ldW ag29 sz29 rfl (by first | rfl | assumption | (simp [*]; done) | fail)) rfl ?_ | refine aqs rfl (q_ldpP ag29 sz29 rfl (by repeat (first | exact .here | assumption | (apply HAt.left; assumption) | apply HAt.there | apply HAt.right)) (by first | rfl | assumption | (simp [*]; done) | fail) (by first | decide | (simp; done) | omega | fail) (by decide) (by first | ((repeat constructor); done) | exact .same _)) rfl ?_ | refine aqs rfl (q_ldP ag29 sz29 rfl (by first | decide | (simp; done) | omega | fail) (by first | ((repeat constructor); done) | exact .same _)) rfl ?_
      (refine aes rfl (e_lk Try.underlying163 KL29 zv4 rfl (by repeat (first | exact .here | assumption | (apply HAt.left; assumption) | apply HAt.there | apply HAt.right)) (by first | exact kv29 | exact .lit) ⟨_, rfl⟩ (by first | assumption | (intro p hp; cases hp; done))) rfl ?_; rintro rlk _ ⟨hlk, rfl⟩)
      obtain ⟨b, rfl, hb⟩ := seen_lk (k := s.key) hlk
      refine alist_nil ?_
      show AWP _ _ _ _
      refine awp_cond rfl (fun hc1 => ?_) (fun hc1 => ?_)
      · have e := right_dup hs (hb.1 hc1)
        rw [e]
        refine awp_seq ?_
        refine awp_region ?_
        refine aqs rfl (q_as (by constructor)) rfl ?_
        refine alist_nil ?_
        show AWP _ _ _ _
        refine awp_ret ?_
        repeat first | with_reducible refine then_ret ?_ | with_reducible refine blk_ret ?_
        apply retq (.inr rfl) (.cons (rok_t rfl) .nil)
        rotate_left
        · exact ⟨rfl, rfl⟩
        repeat (first | exact List.Sublist.refl _ | exact List.nil_sublist _ | exact List.sublist_append_left _ _ | apply List.Sublist.cons)
      · have hnm : s.key ∉ keysOf (l.take i) := fun h => by rw [hb.2 h] at hc1; cases hc1
        refine awp_skip ?_
        show AWP _ _ _ _
        refine awp_region ?_
        refine aqs rfl (q_mv (by constructor)) rfl ?_
        first | refine aqs rfl (q_fapP fl40_0 (by decide) rfl rfl) rfl ?_ | refine aqs rfl (q_faP fl40_0 (by decide) rfl (by first | ((repeat constructor); done) | exact .same _)) rfl ?_
        first | refine aqs rfl (q_ldpW ag29 sz29 rfl (by repeat (first | exact .here | assumption | (apply HAt.left; assumption) | apply HAt.there | apply HAt.right)) (by first | rfl | assumption | (simp [*]; done) | fail) (by first | rfl | assumption | (simp [*]; done) | fail) (by decide)) rfl ?_ | refine aqs rfl (q_ldW ag29 sz29 rfl (by first | rfl | assumption | (simp [*]; done) | fail)) rfl ?_ | refine aqs rfl (q_ldpP ag29 sz29 rfl (by repeat (first | exact .here | assumption | (apply HAt.left; assumption) | apply HAt.there | apply HAt.right)) (by first | rfl | assumption | (simp [*]; done) | fail) (by first | decide | (simp; done) | omega | fail) (by decide) (by first | ((repeat constructor); done) | exact .same _)) rfl ?_ | refine aqs rfl (q_ldP ag29 sz29 rfl (by first | decide | (simp; done) | omega | fail) (by first | ((repeat constructor); done) | exact .same _)) rfl ?_
        (refine aen rfl (e_mu Try.underlying163 KL29 rfl (by repeat (first | exact .here | assumption | (apply HAt.left; assumption) | apply HAt.there | apply HAt.right)) (by first | exact kv29 | exact .lit) ⟨_, rfl⟩ (by first | assumption | (intro p hp; cases hp; done)) (by constructor) (fun kvs' => (by repeat (first | exact .here | apply HSet.there)))) ?_; rintro _ _ ⟨kvs', hup, rfl⟩)
        obtain rfl := seen_up (s := s) hnm hup
        rw [← take_next hs]
        refine alist_nil ?_
        show AWP _ _ _ _
        refine awp_region ?_
        first | refine aqs rfl (q_add64 rfl rfl (by omega) (by omega)) rfl ?_ | refine aqs rfl (q_add rfl rfl) rfl ?_
        refine aqs rfl (q_mv (by constructor)) rfl ?_
        refine alist_nil ?_
        show ∃ y, _ ∧ _ ∧ _
        exact ⟨i + 1, ⟨by omega, nodup_next hs hnd hnm⟩, by omega, .mk' ⟨by rfl, rfl, rfl, rfl, trivial⟩ (by repeat (first | exact List.Sublist.refl _ | exact List.nil_sublist _ | exact List.sublist_append_left _ _ | (apply List.Sublist.cons_cons) | (apply List.Sublist.cons)))⟩
    · simp only [decide_eq_false_iff_not] at hc0
      have hil : i = l.length := by omega
      subst hil
      rw [List.take_length] at hnd
      have e : rightB l = true := decide_eq_true hnd
      rw [e]
      refine awp_exit ?_
      show AWP _ _ _ _
      refine awp_seq ?_
      refine awp_region ?_
      refine aqs rfl (q_as (by constructor)) rfl ?_
      refine alist_nil ?_
      show AWP _ _ _ _
      refine awp_ret ?_
      repeat first | with_reducible refine then_ret ?_ | with_reducible refine blk_ret ?_
      apply retq (.inr rfl) (.cons (rok_t rfl) .nil)
      rotate_left
      · exact ⟨rfl, rfl⟩
      repeat (first | exact List.Sublist.refl _ | exact List.nil_sublist _ | exact List.sublist_append_left _ _ | apply List.Sublist.cons)
theorem keq (a b : Key) : ((a.sum == b.sum) && (a.len == b.len)) = decide (a = b) := by
  rcases a with ⟨a1, a2⟩
  rcases b with ⟨b1, b2⟩
  rw [Bool.eq_iff_iff]
  simp
theorem seq_ (a b : Slot) : (((a.key.sum == b.key.sum) && (a.key.len == b.key.len)) && ((a.left.toList == b.left.toList) && ((a.right.toList == b.right.toList) && (a.val.toList == b.val.toList)))) = decide (a = b) := by
  rcases a with ⟨a1, a2, a3, a4⟩
  rcases b with ⟨b1, b2, b3, b4⟩
  rw [keq, str_eq, str_eq, str_eq, Bool.eq_iff_iff]
  simp
theorem key_at {l : List Slot} {i : Nat} {s : Slot} (h : l[i]? = some s) : (keysOf l)[i]? = some s.key := by simp [keysOf, h]
set_option maxHeartbeats 1000000 in
theorem right52_c (l : List Slot) (hl : l.length ≤ 1000000) (H : Heap) : QCall Try.prog 52 [.ro (l.map Slot.cells)] H (.lit (.bool (rightB l))) := by
  refine acall_intro (n := 27) (rvs := [.tmp 2]) Try.func52 rfl rfl rfl (Nat.le_of_ble_eq_true rfl) ?_
  refine awp_seq ?_
  refine awp_region ?_
  refine aqs rfl (q_as (by constructor)) rfl ?_
  refine alist_nil ?_
  show AWP _ _ _ _
  refine awp_seq ?_
  refine awp_seq ?_
  refine awp_region ?_
  refine aqs rfl (q_as (by constructor)) rfl ?_
  refine alist_nil ?_
  show AWP _ _ _ _
  refine awp_block ?_
  refine awp_loop_inv (fun i : Nat => ⟨[(3, .lit (.int .i64 i)), (0, .ro (l.map Slot.cells))], 27, H⟩) (fun i => i ≤ l.length ∧ (keysOf (l.take i)).Nodup) (fun i => l.length - i) 0 ?_ ?_ ?_
  · exact ⟨Nat.zero_le _, by simp [keysOf]⟩
  · exact .mk' (by repeat (first | exact trivial | refine ⟨rfl, ?_⟩)) (by repeat (first | exact .refl _ | apply List.Sublist.cons_cons | apply List.Sublist.cons))
  · intro i hi
    obtain ⟨hi, hnd⟩ := hi
    refine awp_seq ?_
    refine awp_seq ?_
    refine awp_region ?_
    refine aqs rfl (q_mv (by constructor)) rfl ?_
    refine aqs rfl (q_mv (by constructor)) rfl ?_
    first | refine aqs rfl (q_len Try.underlying38 .ro) rfl ?_ | refine aqs rfl (q_lenO Try.underlying38 rfl (by repeat (first | exact .here | assumption | (apply HAt.left; assumption) | apply HAt.there | apply HAt.right)) (by first | omega | (simp; done) | (simp; omega) | fail) (by first | exact Nat.sub_zero _ | rfl)) rfl ?_ | refine aqs rfl (q_len Try.underlying38 .nil) rfl ?_ | refine aqs rfl (q_len Try.underlying38 .cro) rfl ?_
    refine aqs rfl (q_lss rfl rfl) rfl ?_
    refine alist_nil ?_
    show AWP _ _ _ _
    refine awp_cond rfl (fun hc0 => ?_) (fun hc0 => ?_)
    · simp only [decide_eq_true_eq, List.length_map] at hc0
      obtain ⟨s, hs, hsm⟩ := get_lt (l := l) (i := i) (by omega)
      have hs2 := get_map (f := Slot.cells) hs
      refine awp_skip ?_
      show AWP _ _ _ _
      refine awp_seq ?_
      refine awp_block ?_
      refine awp_seq ?_
      refine awp_region ?_
      refine aqs rfl (q_as (by constructor)) rfl ?_
      refine alist_nil ?_
      show AWP _ _ _ _
      refine awp_block ?_
      refine awp_loop_inv (fun j : Nat => ⟨[(4, .lit (.int .i64 j)), (3, .lit (.int .i64 i)), (0, .ro (l.map Slot.cells))], 27, H⟩) (fun j => j ≤ i ∧ ∀ (m : Nat) (t : Slot), m < j → l[m]? = some t → ¬ s.key = t.key) (fun j => i - j) 0 ?_ ?_ ?_
      · exact ⟨Nat.zero_le _, fun m t h => absurd h (Nat.not_lt_zero _)⟩
      · exact .mk' (by repeat (first | exact trivial | refine ⟨rfl, ?_⟩)) (by repeat (first | exact .refl _ | apply List.Sublist.cons_cons | apply List.Sublist.cons))
      · intro j hj
        obtain ⟨hj, hall⟩ := hj
        refine awp_seq ?_
        refine awp_seq ?_
        refine awp_region ?_
        refine aqs rfl (q_mv (by constructor)) rfl ?_
        refine aqs rfl (q_mv (by constructor)) rfl ?_
        refine aqs rfl (q_lss rfl rfl) rfl ?_
        refine alist_nil ?_
        show AWP _ _ _ _
        refine awp_cond rfl (fun hc1 => ?_) (fun hc1 => ?_)
        · simp only [decide_eq_true_eq] at hc1
          obtain ⟨t, ht, htm⟩ := get_lt (l := l) (i := j) (by omega)
          have ht2 := get_map (f := Slot.cells) ht
          refine awp_skip ?_
          show AWP _ _ _ _
          refine awp_seq ?_
          refine awp_block ?_
          refine awp_seq ?_
          refine awp_draw 11 [(0, false), (1, false), (2, false), (3, false), (4, false), (5, false), (6, false), (7, false), (8, false), (9, false), (10, false)] _ ([]) mixed (by kernel_rfl) (perm0 _) ?_
          refine glq rfl (.inl ⟨rfl, q_mv (by constructor)⟩) rfl ?_
          refine glq rfl (.inl ⟨rfl, q_mv (by constructor)⟩) rfl ?_
          first | refine glq rfl (.inl ⟨rfl, q_iaN Try.underlying38 sz40 (.inl rfl) rfl (by omega) (by first | rfl | assumption | (simp [*]; done) | fail) (by first | rfl | assumption | (simp [*]; done) | fail) (by decide) (by first | ((repeat constructor); done) | exact .same _)⟩) rfl ?_ | refine glq rfl (.inl ⟨rfl, q_iaS Try.underlying38 sz40 rfl (by repeat (first | exact .here | assumption | (apply HAt.left; assumption) | apply HAt.there | apply HAt.right)) rfl (by omega) (by omega) (by first | exact Nat.zero_add _ | rfl)⟩) rfl ?_ | refine glq rfl (.inl ⟨rfl, q_iaN Try.underlying38 sz40 (.inr rfl) rfl (by omega) (by first | rfl | assumption | (simp [*]; done) | fail) (by first | rfl | assumption | (simp [*]; done) | fail) (by decide) (by first | ((repeat constructor); done) | exact .same _)⟩) rfl ?_
          first | refine glq rfl (.inl ⟨rfl, q_fapP fl40_0 (by decide) rfl rfl⟩) rfl ?_ | refine glq rfl (.inl ⟨rfl, q_faP fl40_0 (by decide) rfl (by first | ((repeat constructor); done) | exact .same _)⟩) rfl ?_
          first | refine glq rfl (.inl ⟨rfl, q_ldpW ag29 sz29 rfl (by repeat (first | exact .here | assumption | (apply HAt.left; assumption) | apply HAt.there | apply HAt.right)) (by first | rfl | assumption | (simp [*]; done) | fail) (by first | rfl | assumption | (simp [*]; done) | fail) (by decide)⟩) rfl ?_ | refine glq rfl (.inl ⟨rfl, q_ldW ag29 sz29 rfl (by first | rfl | assumption | (simp [*]; done) | fail)⟩) rfl ?_ | refine glq rfl (.inl ⟨rfl, q_ldpP ag29 sz29 rfl (by repeat (first | exact .here | assumption | (apply HAt.left; assumption) | apply HAt.there | apply HAt.right)) (by first | rfl | assumption | (simp [*]; done) | fail) (by first | decide | (simp; done) | omega | fail) (by decide) (by first | ((repeat constructor); done) | exact .same _)⟩) rfl ?_ | refine glq rfl (.inl ⟨rfl, q_ldP ag29 sz29 rfl (by first | decide | (simp; done) | omega | fail) (by first | ((repeat constructor); done) | exact .same _)⟩) rfl ?_
          refine glq rfl (.inl ⟨rfl, q_mv (by constructor)⟩) rfl ?_
          refine glq rfl (.inl ⟨rfl, q_mv (by constructor)⟩) rfl ?_
          first | refine glq rfl (.inl ⟨rfl, q_iaN Try.underlying38 sz40 (.inl rfl) rfl (by omega) (by first | rfl | assumption | (simp [*]; done) | fail) (by first | rfl | assumption | (simp [*]; done) | fail) (by decide) (by first | ((repeat constructor); done) | exact .same _)⟩) rfl ?_ | refine glq rfl (.inl ⟨rfl, q_iaS Try.underlying38 sz40 rfl (by repeat (first | exact .here | assumption | (apply HAt.left; assumption) | apply HAt.there | apply HAt.right)) rfl (by omega) (by omega) (by first | exact Nat.zero_add _ | rfl)⟩) rfl ?_ | refine glq rfl (.inl ⟨rfl, q_iaN Try.underlying38 sz40 (.inr rfl) rfl (by omega) (by first | rfl | assumption | (simp [*]; done) | fail) (by first | rfl | assumption | (simp [*]; done) | fail) (by decide) (by first | ((repeat constructor); done) | exact .same _)⟩) rfl ?_
          first | refine glq rfl (.inl ⟨rfl, q_fapP fl40_0 (by decide) rfl rfl⟩) rfl ?_ | refine glq rfl (.inl ⟨rfl, q_faP fl40_0 (by decide) rfl (by first | ((repeat constructor); done) | exact .same _)⟩) rfl ?_
          first | refine glq rfl (.inl ⟨rfl, q_ldpW ag29 sz29 rfl (by repeat (first | exact .here | assumption | (apply HAt.left; assumption) | apply HAt.there | apply HAt.right)) (by first | rfl | assumption | (simp [*]; done) | fail) (by first | rfl | assumption | (simp [*]; done) | fail) (by decide)⟩) rfl ?_ | refine glq rfl (.inl ⟨rfl, q_ldW ag29 sz29 rfl (by first | rfl | assumption | (simp [*]; done) | fail)⟩) rfl ?_ | refine glq rfl (.inl ⟨rfl, q_ldpP ag29 sz29 rfl (by repeat (first | exact .here | assumption | (apply HAt.left; assumption) | apply HAt.there | apply HAt.right)) (by first | rfl | assumption | (simp [*]; done) | fail) (by first | decide | (simp; done) | omega | fail) (by decide) (by first | ((repeat constructor); done) | exact .same _)⟩) rfl ?_ | refine glq rfl (.inl ⟨rfl, q_ldP ag29 sz29 rfl (by first | decide | (simp; done) | omega | fail) (by first | ((repeat constructor); done) | exact .same _)⟩) rfl ?_
          refine glq rfl (.inl ⟨rfl, q_eqlA gd29 rfl rfl (by repeat constructor) (by repeat constructor) (fun w => eq29 w)⟩) rfl ?_
          (first | refine gld0 ?_ | refine gldA ?_)
          refine alist_nil ?_
          show AWP _ _ _ _
          refine awp_cond rfl (fun hc2 => ?_) (fun hc2 => ?_)
          · have hk := hc2
            rw [keq] at hk
            simp only [decide_eq_true_eq] at hk
            have e := right_dup hs (List.mem_of_getElem? (show (keysOf (l.take i))[j]? = some s.key by rw [hk]; exact key_at (by rw [List.getElem?_take_of_lt (by omega)]; exact ht)))
            rw [e]
            refine awp_seq ?_
            refine awp_region ?_
            refine aqs rfl (q_as (by constructor)) rfl ?_
            refine alist_nil ?_
            show AWP _ _ _ _
            refine awp_ret ?_
            repeat first | with_reducible refine then_ret ?_ | with_reducible refine blk_ret ?_
            apply retq (.inr rfl) (.cons (rok_t rfl) .nil)
            rotate_left
            · exact ⟨rfl, rfl⟩
            repeat (first | exact List.Sublist.refl _ | exact List.nil_sublist _ | exact List.sublist_append_left _ _ | apply List.Sublist.cons)
          · have hk := hc2
            rw [keq] at hk
            simp only [decide_eq_false_iff_not] at hk
            refine awp_skip ?_
            show AWP _ _ _ _
            refine awp_region ?_
            refine aqs rfl (q_mv (by constructor)) rfl ?_
            first | refine aqs rfl (q_add64 rfl rfl (by omega) (by omega)) rfl ?_ | refine aqs rfl (q_add rfl rfl) rfl ?_
            refine aqs rfl (q_as (by constructor)) rfl ?_
            refine alist_nil ?_
            show ∃ y, _ ∧ _ ∧ _
            refine ⟨j + 1, ⟨by omega, fun m t' hm ht' => ?_⟩, by omega, .mk' ⟨by rfl, rfl, rfl, trivial⟩ (.refl _)⟩
            by_cases hmj : m = j
            · subst hmj
              rw [ht] at ht'
              injection ht' with ht'
              subst ht'
              exact hk
            · exact hall m t' (by omega) ht'
        · simp only [decide_eq_false_iff_not] at hc1
          have hji : j = i := by omega
          subst hji
          have hnm : s.key ∉ keysOf (l.take j) := fun h => by
            obtain ⟨m, hm⟩ := List.mem_iff_getElem?.1 h
            have hm1 := (List.getElem?_eq_some_iff.1 hm).1
            simp only [keysOf, List.length_map, List.length_take] at hm1
            obtain ⟨t, ht, _⟩ := get_lt (l := l) (i := m) (by omega)
            have := key_at (show (l.take j)[m]? = some t by rw [List.getElem?_take_of_lt (by omega)]; exact ht)
            rw [hm] at this
            injection this with this
            exact hall m t (by omega) ht this
          refine awp_exit ?_
          show AWP _ _ _ _
          refine awp_region ?_
          refine aqs rfl (q_mv (by constructor)) rfl ?_
          first | refine aqs rfl (q_add64 rfl rfl (by omega) (by omega)) rfl ?_ | refine aqs rfl (q_add rfl rfl) rfl ?_
          refine aqs rfl (q_as (by constructor)) rfl ?_
          refine alist_nil ?_
          show ∃ y, _ ∧ _ ∧ _
          exact ⟨j + 1, ⟨by omega, nodup_next hs hnd hnm⟩, by omega, .mk' ⟨by rfl, rfl, trivial⟩ (.refl _)⟩
    · simp only [decide_eq_false_iff_not, List.length_map] at hc0
      have hil : i = l.length := by omega
      subst hil
      rw [List.take_length] at hnd
      have e : rightB l = true := decide_eq_true hnd
      rw [e]
      refine awp_exit ?_
      show AWP _ _ _ _
      refine awp_seq ?_
      refine awp_region ?_
      refine aqs rfl (q_as (by constructor)) rfl ?_
      refine alist_nil ?_
      show AWP _ _ _ _
      refine awp_ret ?_
      repeat first | with_reducible refine then_ret ?_ | with_reducible refine blk_ret ?_
      apply retq (.inr rfl) (.cons (rok_t rfl) .nil)
      rotate_left
      · exact ⟨rfl, rfl⟩
      repeat (first | exact List.Sublist.refl _ | exact List.nil_sublist _ | exact List.sublist_append_left _ _ | apply List.Sublist.cons)

/-! ### Closures -/
set_option maxHeartbeats 1000000 in
theorem clo124_c (s : Slot) (k : Key) (u : Nat) (H : Heap) (hq : HAt H u (.arr 29 2 [k.cells])) : QCall Try.prog 124 [.agg s.cells, .ptr u 0 0] H (.lit (.bool (decide (s.key = k)))) := by
  refine acall_intro (n := 8) (rvs := [.tmp 3]) Try.func124 rfl rfl rfl (Nat.le_of_ble_eq_true rfl) ?_
  refine awp_seq ?_
  refine awp_region ?_
  (refine aes rfl (e_bx (by constructor) rfl rfl) rfl ?_; rintro _ _ ⟨u2, rfl, rfl⟩)
  refine aqs rfl (q_as (by constructor)) rfl ?_
  refine alist_nil ?_
  show AWP _ _ _ _
  refine awp_seq ?_
  refine awp_region ?_
  first | refine aqs rfl (q_fapP fl40_0 (by decide) rfl rfl) rfl ?_ | refine aqs rfl (q_faP fl40_0 (by decide) rfl (by first | ((repeat constructor); done) | exact .same _)) rfl ?_
  first | refine aqs rfl (q_ldpW ag29 sz29 rfl (by repeat (first | exact .here | assumption | (apply HAt.left; assumption) | apply HAt.there | apply HAt.right)) (by first | rfl | assumption | (simp [*]; done) | fail) (by first | rfl | assumption | (simp [*]; done) | fail) (by decide)) rfl ?_ | refine aqs rfl (q_ldW ag29 sz29 rfl (by first | rfl | assumption | (simp [*]; done) | fail)) rfl ?_ | refine aqs rfl (q_ldpP ag29 sz29 rfl (by repeat (first | exact .here | assumption | (apply HAt.left; assumption) | apply HAt.there | apply HAt.right)) (by first | rfl | assumption | (simp [*]; done) | fail) (by first | decide | (simp; done) | omega | fail) (by decide) (by first | ((repeat constructor); done) | exact .same _)) rfl ?_ | refine aqs rfl (q_ldP ag29 sz29 rfl (by first | decide | (simp; done) | omega | fail) (by first | ((repeat constructor); done) | exact .same _)) rfl ?_
  first | refine aqs rfl (q_ldpW ag29 sz29 rfl (by repeat (first | exact .here | assumption | (apply HAt.left; assumption) | apply HAt.there | apply HAt.right)) (by first | rfl | assumption | (simp [*]; done) | fail) (by first | rfl | assumption | (simp [*]; done) | fail) (by decide)) rfl ?_ | refine aqs rfl (q_ldW ag29 sz29 rfl (by first | rfl | assumption | (simp [*]; done) | fail)) rfl ?_ | refine aqs rfl (q_ldpP ag29 sz29 rfl (by repeat (first | exact .here | assumption | (apply HAt.left; assumption) | apply HAt.there | apply HAt.right)) (by first | rfl | assumption | (simp [*]; done) | fail) (by first | decide | (simp; done) | omega | fail) (by decide) (by first | ((repeat constructor); done) | exact .same _)) rfl ?_ | refine aqs rfl (q_ldP ag29 sz29 rfl (by first | decide | (simp; done) | omega | fail) (by first | ((repeat constructor); done) | exact .same _)) rfl ?_
  refine aqs rfl (castQ (r2 := .lit (.bool (decide (s.key = k)))) (q_eqlA gd29 rfl rfl (by repeat constructor) (by repeat constructor) (fun w => eq29 w)) (by exact congrArg (fun b => AV.lit (.bool b)) (keq s.key k))) rfl ?_
  refine aqs rfl (q_as (by constructor)) rfl ?_
  refine alist_nil ?_
  show AWP _ _ _ _
  refine awp_ret ?_
  repeat first | with_reducible refine then_ret ?_ | with_reducible refine blk_ret ?_
  apply retq (.inr rfl) (.cons (rok_t rfl) .nil)
  rotate_left
  · exact ⟨rfl, rfl⟩
  repeat (first | exact List.Sublist.refl _ | exact List.nil_sublist _ | exact List.sublist_append_left _ _ | apply List.Sublist.cons)
set_option maxHeartbeats 1000000 in
theorem clo126_c (s s0 : Slot) (l : List Slot) (i : Nat) (hi : l[i]? = some s0) (u v : Nat) (H : Heap) (hq : HAt H u (.arr 38 1 [[.ro (l.map Slot.cells)]])) (hv : HAt H v (.arr 3 1 [[.lit (.int .i64 i)]])) :
    QCall Try.prog 126 [.agg s.cells, .ptr u 0 0, .ptr v 0 0] H (.lit (.bool (decide (s = s0)))) := by
  have hs2 := get_map (f := Slot.cells) hi
  refine acall_intro (n := 11) (rvs := [.tmp 4]) Try.func126 rfl rfl rfl (Nat.le_of_ble_eq_true rfl) ?_
  refine awp_seq ?_
  refine awp_region ?_
  (refine aes rfl (e_bx (by constructor) rfl rfl) rfl ?_; rintro _ _ ⟨u3, rfl, rfl⟩)
  refine aqs rfl (q_as (by constructor)) rfl ?_
  refine alist_nil ?_
  show AWP _ _ _ _
  refine awp_seq ?_
  refine awp_draw 7 [(0, false), (1, false), (2, false), (3, false), (4, false), (5, false), (6, false)] _ ([]) mixed (by kernel_rfl) (perm0 _) ?_
  first | refine glq rfl (.inl ⟨rfl, q_ldpW ag40 sz40 rfl (by repeat (first | exact .here | assumption | (apply HAt.left; assumption) | apply HAt.there | apply HAt.right)) (by first | rfl | assumption | (simp [*]; done) | fail) (by first | rfl | assumption | (simp [*]; done) | fail) (by decide)⟩) rfl ?_ | refine glq rfl (.inl ⟨rfl, q_ldW ag40 sz40 rfl (by first | rfl | assumption | (simp [*]; done) | fail)⟩) rfl ?_ | refine glq rfl (.inl ⟨rfl, q_ldpP ag40 sz40 rfl (by repeat (first | exact .here | assumption | (apply HAt.left; assumption) | apply HAt.there | apply HAt.right)) (by first | rfl | assumption | (simp [*]; done) | fail) (by first | decide | (simp; done) | omega | fail) (by decide) (by first | ((repeat constructor); done) | exact .same _)⟩) rfl ?_ | refine glq rfl (.inl ⟨rfl, q_ldP ag40 sz40 rfl (by first | decide | (simp; done) | omega | fail) (by first | ((repeat constructor); done) | exact .same _)⟩) rfl ?_
  first | refine glq rfl (.inl ⟨rfl, q_ldpN ag38 rfl (by repeat (first | exact .here | assumption | (apply HAt.left; assumption) | apply HAt.there | apply HAt.right)) (by first | rfl | assumption | (simp [*]; done) | fail) (by first | rfl | assumption | (simp [*]; done) | fail) (by constructor)⟩) rfl ?_ | refine glq rfl (.inl ⟨rfl, q_ld1N ag38 rfl (by constructor)⟩) rfl ?_
  first | refine glq rfl (.inl ⟨rfl, q_ldpN ag3 rfl (by repeat (first | exact .here | assumption | (apply HAt.left; assumption) | apply HAt.there | apply HAt.right)) (by first | rfl | assumption | (simp [*]; done) | fail) (by first | rfl | assumption | (simp [*]; done) | fail) (by constructor)⟩) rfl ?_ | refine glq rfl (.inl ⟨rfl, q_ld1N ag3 rfl (by constructor)⟩) rfl ?_
  first | refine glq rfl (.inl ⟨rfl, q_iaN Try.underlying38 sz40 (.inl rfl) rfl (by omega) (by first | rfl | assumption | (simp [*]; done) | fail) (by first | rfl | assumption | (simp [*]; done) | fail) (by decide) (by first | ((repeat constructor); done) | exact .same _)⟩) rfl ?_ | refine glq rfl (.inl ⟨rfl, q_iaS Try.underlying38 sz40 rfl (by repeat (first | exact .here | assumption | (apply HAt.left; assumption) | apply HAt.there | apply HAt.right)) rfl (by omega) (by omega) (by first | exact Nat.zero_add _ | rfl)⟩) rfl ?_ | refine glq rfl (.inl ⟨rfl, q_iaN Try.underlying38 sz40 (.inr rfl) rfl (by omega) (by first | rfl | assumption | (simp [*]; done) | fail) (by first | rfl | assumption | (simp [*]; done) | fail) (by decide) (by first | ((repeat constructor); done) | exact .same _)⟩) rfl ?_
  first | refine glq rfl (.inl ⟨rfl, q_ldpW ag40 sz40 rfl (by repeat (first | exact .here | assumption | (apply HAt.left; assumption) | apply HAt.there | apply HAt.right)) (by first | rfl | assumption | (simp [*]; done) | fail) (by first | rfl | assumption | (simp [*]; done) | fail) (by decide)⟩) rfl ?_ | refine glq rfl (.inl ⟨rfl, q_ldW ag40 sz40 rfl (by first | rfl | assumption | (simp [*]; done) | fail)⟩) rfl ?_ | refine glq rfl (.inl ⟨rfl, q_ldpP ag40 sz40 rfl (by repeat (first | exact .here | assumption | (apply HAt.left; assumption) | apply HAt.there | apply HAt.right)) (by first | rfl | assumption | (simp [*]; done) | fail) (by first | decide | (simp; done) | omega | fail) (by decide) (by first | ((repeat constructor); done) | exact .same _)⟩) rfl ?_ | refine glq rfl (.inl ⟨rfl, q_ldP ag40 sz40 rfl (by first | decide | (simp; done) | omega | fail) (by first | ((repeat constructor); done) | exact .same _)⟩) rfl ?_
  refine glq rfl (.inl ⟨rfl, castQ (r2 := .lit (.bool (decide (s = s0)))) (q_eqlA gd40 rfl rfl (by repeat constructor) (by repeat constructor) (fun w => eq40 w)) (by exact congrArg (fun b => AV.lit (.bool b)) (seq_ s s0))⟩) rfl ?_
  refine glq rfl (.inl ⟨rfl, q_as (by constructor)⟩) rfl ?_
  (first | refine gld0 ?_ | refine gldA ?_)
  refine alist_nil ?_
  show AWP _ _ _ _
  refine awp_ret ?_
  repeat first | with_reducible refine then_ret ?_ | with_reducible refine blk_ret ?_
  apply retq (.inr rfl) (.cons (rok_t rfl) .nil)
  rotate_left
  · exact ⟨rfl, rfl⟩
  repeat (first | exact List.Sublist.refl _ | exact List.nil_sublist _ | exact List.sublist_append_left _ _ | apply List.Sublist.cons)
set_option maxHeartbeats 1000000 in
theorem clo128_c (s t : Slot) (u : Nat) (H : Heap) (hq : HAt H u (.arr 40 5 [t.cells])) : QCall Try.prog 128 [.agg s.cells, .ptr u 0 0] H (.lit (.bool (decide (s.key = t.key)))) := by
  refine acall_intro (n := 9) (rvs := [.tmp 3]) Try.func128 rfl rfl rfl (Nat.le_of_ble_eq_true rfl) ?_
  refine awp_seq ?_
  refine awp_region ?_
  (refine aes rfl (e_bx (by constructor) rfl rfl) rfl ?_; rintro _ _ ⟨u2, rfl, rfl⟩)
  refine aqs rfl (q_as (by constructor)) rfl ?_
  refine alist_nil ?_
  show AWP _ _ _ _
  refine awp_seq ?_
  refine awp_region ?_
  first | refine aqs rfl (q_fapP fl40_0 (by decide) rfl rfl) rfl ?_ | refine aqs rfl (q_faP fl40_0 (by decide) rfl (by first | ((repeat constructor); done) | exact .same _)) rfl ?_
  first | refine aqs rfl (q_ldpW ag29 sz29 rfl (by repeat (first | exact .here | assumption | (apply HAt.left; assumption) | apply HAt.there | apply HAt.right)) (by first | rfl | assumption | (simp [*]; done) | fail) (by first | rfl | assumption | (simp [*]; done) | fail) (by decide)) rfl ?_ | refine aqs rfl (q_ldW ag29 sz29 rfl (by first | rfl | assumption | (simp [*]; done) | fail)) rfl ?_ | refine aqs rfl (q_ldpP ag29 sz29 rfl (by repeat (first | exact .here | assumption | (apply HAt.left; assumption) | apply HAt.there | apply HAt.right)) (by first | rfl | assumption | (simp [*]; done) | fail) (by first | decide | (simp; done) | omega | fail) (by decide) (by first | ((repeat constructor); done) | exact .same _)) rfl ?_ | refine aqs rfl (q_ldP ag29 sz29 rfl (by first | decide | (simp; done) | omega | fail) (by first | ((repeat constructor); done) | exact .same _)) rfl ?_
  first | refine aqs rfl (q_fapP fl40_0 (by decide) rfl rfl) rfl ?_ | refine aqs rfl (q_faP fl40_0 (by decide) rfl (by first | ((repeat constructor); done) | exact .same _)) rfl ?_
  first | refine aqs rfl (q_ldpW ag29 sz29 rfl (by repeat (first | exact .here | assumption | (apply HAt.left; assumption) | apply HAt.there | apply HAt.right)) (by first | rfl | assumption | (simp [*]; done) | fail) (by first | rfl | assumption | (simp [*]; done) | fail) (by decide)) rfl ?_ | refine aqs rfl (q_ldW ag29 sz29 rfl (by first | rfl | assumption | (simp [*]; done) | fail)) rfl ?_ | refine aqs rfl (q_ldpP ag29 sz29 rfl (by repeat (first | exact .here | assumption | (apply HAt.left; assumption) | apply HAt.there | apply HAt.right)) (by first | rfl | assumption | (simp [*]; done) | fail) (by first | decide | (simp; done) | omega | fail) (by decide) (by first | ((repeat constructor); done) | exact .same _)) rfl ?_ | refine aqs rfl (q_ldP ag29 sz29 rfl (by first | decide | (simp; done) | omega | fail) (by first | ((repeat constructor); done) | exact .same _)) rfl ?_
  refine aqs rfl (castQ (r2 := .lit (.bool (decide (s.key = t.key)))) (q_eqlA gd29 rfl rfl (by repeat constructor) (by repeat constructor) (fun w => eq29 w)) (by exact congrArg (fun b => AV.lit (.bool b)) (keq s.key t.key))) rfl ?_
  refine aqs rfl (q_as (by constructor)) rfl ?_
  refine alist_nil ?_
  show AWP _ _ _ _
  refine awp_ret ?_
  repeat first | with_reducible refine then_ret ?_ | with_reducible refine blk_ret ?_
  apply retq (.inr rfl) (.cons (rok_t rfl) .nil)
  rotate_left
  · exact ⟨rfl, rfl⟩
  repeat (first | exact List.Sublist.refl _ | exact List.nil_sublist _ | exact List.sublist_append_left _ _ | apply List.Sublist.cons)
theorem del_beside (l : List Slot) (hl : l.length ≤ 1000000) (p : Slot → Bool) {k : FuncId} (hk : Callable Try.prog k) (caps : List AV) (u : Nat) (Hc : Heap) (hp : ∀ s ∈ l, QCall Try.prog k (.agg s.cells :: caps) Hc (.lit (.bool (p s)))) :
    ACall Try.prog 169 [.sl u 0 l.length, .clo (.func k) [] caps] (Hc ++ [(u, .arr 40 5 (l.map Slot.cells))]) (fun r H' => ∃ Hv', H' = Hc ++ Hv' ∧ (r = .sl u 0 (keep p l).length ∧ Hv' = [(u, .arr 40 5 ((keep p l).map Slot.cells))])) :=
  (ACall.perm (List.perm_append_singleton _ _) (del169_c l hl p hk caps u Hc hp)).out (by
    rintro r H1 ⟨rfl, rfl⟩
    exact ⟨_, (List.perm_append_singleton _ _).symm, _, rfl, rfl, rfl⟩)
theorem lenSlots (l : List Slot) (x : Slot) : ∀ c ∈ [x.cells], c.length = 5 := by intro c hc; simp at hc; subst hc; rfl
set_option maxHeartbeats 2000000 in
theorem front125_c (l : List Slot) (hl : l.length ≤ 1000000) (x : Slot) (p : Slot → Bool) {k : FuncId} (hk : Callable Try.prog k) (caps : List AV) (H : Heap) (hp : ∀ s ∈ l, QCall Try.prog k (.agg s.cells :: caps) H (.lit (.bool (p s)))) :
    QCall Try.prog 125 [.ro (l.map Slot.cells), .agg x.cells, .clo (.func k) [] caps] H (.ro ((x :: keep p l).map Slot.cells)) := by
  have hlen := lenSlot (keep p l)
  have hkl : (keep p l).length ≤ l.length := List.length_filter_le _ _
  have hap : [x.cells] ++ (keep p l).map Slot.cells = (x :: keep p l).map Slot.cells := rfl
  refine acall_intro (n := 14) (rvs := [.tmp 6]) Try.func125 rfl rfl rfl (Nat.le_of_ble_eq_true rfl) ?_
  refine awp_seq ?_
  refine awp_region ?_
  (refine aes rfl (e_bx (by constructor) rfl rfl) rfl ?_; rintro _ _ ⟨u4, rfl, rfl⟩)
  refine aqs rfl (q_as (by constructor)) rfl ?_
  refine alist_nil ?_
  show AWP _ _ _ _
  refine awp_seq ?_
  refine awp_draw 6 [(0, false), (1, false), (2, false), (4, false), (3, true), (5, true)] _ ([]) mixed (by kernel_rfl) (perm0 _) ?_
  first | refine glq rfl (.inl ⟨rfl, q_ldpW ag40 sz40 rfl (by repeat (first | exact .here | assumption | (apply HAt.left; assumption) | apply HAt.there | apply HAt.right)) (by first | rfl | assumption | (simp [*]; done) | fail) (by first | rfl | assumption | (simp [*]; done) | fail) (by decide)⟩) rfl ?_ | refine glq rfl (.inl ⟨rfl, q_ldW ag40 sz40 rfl (by first | rfl | assumption | (simp [*]; done) | fail)⟩) rfl ?_ | refine glq rfl (.inl ⟨rfl, q_ldpP ag40 sz40 rfl (by repeat (first | exact .here | assumption | (apply HAt.left; assumption) | apply HAt.there | apply HAt.right)) (by first | rfl | assumption | (simp [*]; done) | fail) (by first | decide | (simp; done) | omega | fail) (by decide) (by first | ((repeat constructor); done) | exact .same _)⟩) rfl ?_ | refine glq rfl (.inl ⟨rfl, q_ldP ag40 sz40 rfl (by first | decide | (simp; done) | omega | fail) (by first | ((repeat constructor); done) | exact .same _)⟩) rfl ?_
  refine glq rfl (.inl ⟨rfl, q_bs Try.underlying38 sz40 zr40 rfl (by first | ((repeat constructor); done) | exact .same _) rfl (by decide) (by repeat (first | exact BS.nil | (apply BS.cons; (· constructor); (· rfl); (· rfl); (· rfl); (· exact (by first | ((repeat constructor); done) | exact .same _)))))⟩) rfl ?_
  refine glq rfl (.inl ⟨rfl, q_mv (by constructor)⟩) rfl ?_
  refine glq rfl (.inl ⟨rfl, q_mv (by constructor)⟩) rfl ?_
  first | (refine gla rfl rfl (EOp.frame (e_callN cb129 (clone129_c l hl []) rfl rfl)) rfl ?_; rintro _ _ ⟨u, rfl, rfl⟩) | (refine gla rfl rfl (EOp.frame (e_callN cb129 (ACall.arg (clone129_c l hl []) (by repeat (first | exact ArgL.nil | (apply ArgL.cons; (· first | exact .same | exact .cro | exact .nil))))) rfl rfl)) rfl ?_; rintro _ _ ⟨u, rfl, rfl⟩)
  (refine gla rfl rfl (e_callN cb169 (del_beside l hl p hk caps u _ (fun s hs => QCall.front [_] (hp s hs))) rfl rfl) rfl ?_; rintro _ _ ⟨rfl, rfl⟩)
  refine gldA ?_
  first | refine aqs rfl (q_apC Try.underlying38 sz40 by40 zr40 (.inl rfl) (by first | exact .ro | exact .cro | exact .nil | exact SV.slA (by repeat (first | exact .here | assumption | (apply HAt.left; assumption) | apply HAt.there | apply HAt.right)) (by first | rfl | (simp; done) | (simp; omega) | (simp [*]; done) | fail)) (by first | assumption | (intro c hc; simp at hc; subst hc; rfl) | (simp; done) | fail) (by first | assumption | (intro c hc; simp at hc; subst hc; rfl) | (simp; done) | fail) (by first | omega | decide | (simp; omega) | assumption | fail) (by decide) (by decide) rfl (by first | rfl | (simp; done) | fail)) rfl ?_ | refine aqs rfl (q_apC Try.underlying38 sz40 by40 zr40 (.inr ⟨rfl, rfl⟩) (by first | exact .ro | exact .cro | exact .nil | exact SV.slA (by repeat (first | exact .here | assumption | (apply HAt.left; assumption) | apply HAt.there | apply HAt.right)) (by first | rfl | (simp; done) | (simp; omega) | (simp [*]; done) | fail)) (by first | assumption | (intro c hc; simp at hc; subst hc; rfl) | (simp; done) | fail) (by first | assumption | (intro c hc; simp at hc; subst hc; rfl) | (simp; done) | fail) (by first | omega | decide | (simp; omega) | assumption | fail) (by decide) (by decide) rfl (by first | rfl | (simp; done) | fail)) rfl ?_ | (refine aes rfl (e_apO Try.underlying38 sz40 by40 zr40 rfl (by repeat (first | exact .here | assumption | (apply HAt.left; assumption) | apply HAt.there | apply HAt.right)) (by first | omega | (simp; done) | (simp; omega) | fail) (by first | exact .ro | exact .cro | exact .nil | exact SV.slA (by repeat (first | exact .here | assumption | (apply HAt.left; assumption) | apply HAt.there | apply HAt.right)) (by first | rfl | (simp; done) | (simp; omega) | (simp [*]; done) | fail)) (by first | assumption | (intro c hc; simp at hc; subst hc; rfl) | (simp; done) | fail) (by first | assumption | (intro c hc; simp at hc; subst hc; rfl) | (simp; done) | fail) (by first | assumption | (intro c hc; simp at hc; subst hc; rfl) | (simp; done) | fail) (by first | omega | decide | (simp; omega) | fail) (by decide) (by decide) rfl (by first | rfl | (simp; done) | (simp; omega) | fail) (by first | rfl | (simp; done) | fail) (fun v => (by repeat (first | exact .here | apply HSet.there)))) rfl ?_; rintro _ _ ⟨u13, rfl, rfl⟩) | (refine aes rfl (e_apN Try.underlying38 sz40 by40 zr40 rfl (by first | exact .ro | exact .cro | exact .nil | exact SV.slA (by repeat (first | exact .here | assumption | (apply HAt.left; assumption) | apply HAt.there | apply HAt.right)) (by first | rfl | (simp; done) | (simp; omega) | (simp [*]; done) | fail)) (by first | assumption | (intro c hc; simp at hc; subst hc; rfl) | (simp; done) | fail) (by first | assumption | (intro c hc; simp at hc; subst hc; rfl) | (simp; done) | fail) (by first | omega | decide | (simp; omega) | fail) (by decide) (by decide) rfl rfl) rfl ?_; rintro _ _ ⟨u13, rfl, rfl⟩)
  refine aqs rfl (q_as (by constructor)) rfl ?_
  refine alist_nil ?_
  show AWP _ _ _ _
  refine awp_ret ?_
  repeat first | with_reducible refine then_ret ?_ | with_reducible refine blk_ret ?_
  apply retq (.inr rfl) (.cons (rok_t rfl) .nil)
  rotate_left
  · exact ⟨rfl, rfl⟩
  repeat (first | exact List.Sublist.refl _ | exact List.nil_sublist _ | exact List.sublist_append_left _ _ | apply List.Sublist.cons)
end Go.Proofs.YtdlinfekifnmkaaAm
