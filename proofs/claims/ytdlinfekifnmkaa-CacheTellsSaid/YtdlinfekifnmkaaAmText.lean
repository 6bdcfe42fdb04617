/- Short texts, and the two functions of layer 14 that make them. Conditions: none. -/
import Derived.Test.YtdlinfekifnmkaaAmNil
import Derived.Test.YtdlinfekifnmkaaAmSums
set_option linter.unusedVariables false
set_option linter.unusedSimpArgs false
set_option maxRecDepth 20000
namespace Go.Proofs.YtdlinfekifnmkaaAm
open Go.Proofs
def text6 (i : Int) : ByteArray := if i = 0 then ⟨#[]⟩ else if i = 1 then ⟨#[97]⟩ else if i = 2 then ⟨#[98]⟩ else if i = 3 then ⟨#[97, 98]⟩ else if i = 4 then ⟨#[98, 97]⟩ else ⟨#[99, 10]⟩
theorem six {i : Int} (h0 : 0 ≤ i) (h1 : i < 6) : i = 0 ∨ i = 1 ∨ i = 2 ∨ i = 3 ∨ i = 4 ∨ i = 5 := by omega
theorem text6_inj {a b : Int} (ha : 0 ≤ a ∧ a < 6) (hb : 0 ≤ b ∧ b < 6) (h : text6 a = text6 b) : a = b := by
  rcases six ha.1 ha.2 with rfl | rfl | rfl | rfl | rfl | rfl <;> rcases six hb.1 hb.2 with rfl | rfl | rfl | rfl | rfl | rfl <;> first | rfl | (exfalso; revert h; decide)
def textS (k : Int) : ByteArray := text6 (pick k 6)
theorem text6_size (i : Int) : (text6 i).size ≤ 2 := by
  unfold text6
  split
  · decide
  · split
    · decide
    · split
      · decide
      · split
        · decide
        · split <;> decide
theorem textS_size (k : Int) : (textS k).size ≤ 2 := text6_size _
theorem alist_niltmp {P : Program} {ops : Array Oper} {l : List Oper} {Q : Exit → St → Prop} {t : List (Nat × AV)} {n : Nat} {H : Heap} (k : Nat) {cs cs2 : List AV} (hk : look t k = .agg cs) (hn : NilL cs cs2) (h : AList P ops Q l ⟨(k, .agg cs2) :: t, n, H⟩) : AList P ops Q l ⟨t, n, H⟩ := by
  intro C a hr
  refine h C a ⟨hr.ok, hr.h, hr.n, fun i => ?_, hr.d⟩
  rw [look_cons]
  cases hik : k == i with
  | false => exact hr.t i
  | true =>
    have hki : k = i := by simpa using hik
    subst hki
    have := hr.t k
    rw [hk] at this
    exact nilV_rv (.agg hn) this
theorem q_iaI {P : Program} {d : Option Tmp} {ty : TypeId} {pos : String} {af : Array Edge} {g : Option (Nat × Bool)} {ev : Operand → AV} {H : Heap} {tt e : TypeId} {x i : Operand} {len : Nat} {k : IntKind} {m : Int} {sz : Nat} {cs r : List AV} (ht : P.underlying tt = some (.array len e)) (hsz : szOf P e = some sz) (hx : ev x = .ip cs) (hi : ev i = .lit (.int k m)) (h0 : 0 ≤ m) (h1 : m < len)
    (hr : NL (cs.drop (m.toNat * sz)) r) : QOp P ⟨d, .indexAddr tt x i, ty, pos, af, g⟩ ev H (.ip r) :=
  hr.eq ▸ qop_same (s := fun ρ => Instr.indexAt tt (ρ x) (ρ i)) (fun ρ => rfl) fun C a ok hh hev => by
    have h2 := hev x (by simp [Op.operands])
    have h3 := hev i (by simp [Op.operands])
    rw [hi] at h3
    rw [hx] at h2
    generalize a.eval x = v at h2
    cases h2 with
    | ip vs hcell hrv =>
      rename_i a0
      rw [rv_lit h3]
      refine ⟨.pointer (some (a0.add (m.toNat * sz))), ?_, .ip (fun j => vs (m.toNat * sz + j)) (fun j y hy => ?_) (fun j y hy => ?_)⟩
      · unfold Instr.indexAt asIntOf
        simp [run_under ht, run_szOf hsz, Instr.sureAddr, h0, h1]
      · rw [List.getElem?_drop] at hy
        obtain ⟨a1, ha1, hu, hc⟩ := hcell (m.toNat * sz + j) y hy
        injection ha1 with ha1
        subst ha1
        exact ⟨_, rfl, by rw [add_block]; exact hu, by rw [add_add]; exact hc⟩
      · rw [List.getElem?_drop] at hy
        exact hrv _ y hy
set_option maxHeartbeats 400000 in
theorem pick106_c (c n : Int) (h1 : -9223372036854775808 ≤ c) (h2 : c ≤ 9223372036854775807) (h3 : 1 ≤ n) (H : Heap) : QCall Try.prog 106 [.lit (.int .i64 c), .lit (.int .i64 n)] H (.lit (.int .i64 (pick c n))) := by
  refine acall_intro (n := 13) (rvs := [.tmp 4]) Try.func106 rfl rfl rfl (Nat.le_of_ble_eq_true rfl) ?_
  refine awp_seq ?_
  refine awp_region ?_
  refine aqs rfl (q_as (by constructor)) rfl ?_
  refine alist_nil ?_
  show AWP _ _ _ _
  refine awp_seq ?_
  refine awp_seq ?_
  refine awp_region ?_
  refine aqs rfl (q_mv (by constructor)) rfl ?_
  refine aqs rfl (q_lss rfl rfl) rfl ?_
  refine alist_nil ?_
  show AWP _ _ _ _
  refine awp_cond rfl (fun hc0 => ?_) (fun hc0 => ?_)
  ·simp only [decide_eq_true_eq] at hc0
   have e : pick c n = -(c + 1) % n := by simp [pick, hc0]
   rw [e]
   refine awp_region ?_
   refine aqs rfl (q_mv (by constructor)) rfl ?_
   first | refine aqs rfl (q_add64 rfl rfl (by omega) (by omega)) rfl ?_ | refine aqs rfl (q_add rfl rfl) rfl ?_
   first | refine aqs rfl (q_neg64 rfl (by omega) (by omega)) rfl ?_ | refine aqs rfl (q_neg rfl) rfl ?_
   refine aqs rfl (q_as (by constructor)) rfl ?_
   refine alist_nil ?_
   show AWP _ _ _ _
   refine awp_seq ?_
   refine awp_region ?_
   refine aqs rfl (q_mv (by constructor)) rfl ?_
   refine aqs rfl (q_mv (by constructor)) rfl ?_
   first | refine aqs rfl (q_rem64 rfl rfl (by omega) (by omega)) rfl ?_ | refine aqs rfl (q_rem rfl rfl (by first | decide | omega)) rfl ?_
   refine aqs rfl (q_as (by constructor)) rfl ?_
   refine alist_nil ?_
   show AWP _ _ _ _
   refine awp_ret ?_
   repeat first | with_reducible refine then_ret ?_ | with_reducible refine blk_ret ?_ | with_reducible refine nogo_ret ?_
   apply retq (.inr rfl) (.cons (rok_t rfl) .nil)
   rotate_left
   ·exact ⟨rfl, rfl⟩
   repeat (first | exact List.Sublist.refl _ | exact List.nil_sublist _ | exact List.sublist_append_left _ _ | apply List.Sublist.cons)
  ·simp only [decide_eq_false_iff_not] at hc0
   have e : pick c n = c % n := by simp [pick, hc0]
   rw [e]
   refine awp_skip ?_
   show AWP _ _ _ _
   refine awp_seq ?_
   refine awp_region ?_
   refine aqs rfl (q_mv (by constructor)) rfl ?_
   refine aqs rfl (q_mv (by constructor)) rfl ?_
   first | refine aqs rfl (q_rem64 rfl rfl (by omega) (by omega)) rfl ?_ | refine aqs rfl (q_rem rfl rfl (by first | decide | omega)) rfl ?_
   refine aqs rfl (q_as (by constructor)) rfl ?_
   refine alist_nil ?_
   show AWP _ _ _ _
   refine awp_ret ?_
   repeat first | with_reducible refine then_ret ?_ | with_reducible refine blk_ret ?_ | with_reducible refine nogo_ret ?_
   apply retq (.inr rfl) (.cons (rok_t rfl) .nil)
   rotate_left
   ·exact ⟨rfl, rfl⟩
   repeat (first | exact List.Sublist.refl _ | exact List.nil_sublist _ | exact List.sublist_append_left _ _ | apply List.Sublist.cons)
theorem pool6 {i : Int} (h0 : 0 ≤ i) (h1 : i < 6) : [[AV.lit (.string ⟨#[]⟩)], [.lit (.string ⟨#[97]⟩)], [.lit (.string ⟨#[98]⟩)], [.lit (.string ⟨#[97, 98]⟩)], [.lit (.string ⟨#[98, 97]⟩)], [.lit (.string ⟨#[99, 10]⟩)]][i.toNat]? = some [.lit (.string (text6 i))] := by
  rcases six h0 h1 with rfl | rfl | rfl | rfl | rfl | rfl <;> rfl
set_option maxHeartbeats 1000000 in
theorem text96_c (k : Int) (hk : -9223372036854775808 ≤ k ∧ k ≤ 9223372036854775807) (H : Heap) : QCall Try.prog 96 [.lit (.int .i64 k)] H (.lit (.string (textS k))) := by
  have p0 := pick_nonneg k 6 (by omega)
  have p1 := pick_lt k 6 (by omega)
  have hp := pool6 p0 p1
  refine acall_intro (n := 8) (rvs := [.tmp 2]) Try.func96 rfl rfl rfl (Nat.le_of_ble_eq_true rfl) ?_
  refine awp_seq ?_
  refine awp_region ?_
  refine aqs rfl (q_as (by constructor)) rfl ?_
  refine alist_nil ?_
  show AWP _ _ _ _
  refine awp_seq ?_
  refine awp_region ?_
  first | refine aqs rfl (q_bs Try.underlying57 sz9 zr9 rfl (by first | ((repeat constructor); done) | exact .same _) rfl (by decide) (by repeat (first | exact BS.nil | (apply BS.cons; (· constructor); (· rfl); (· rfl); (· rfl); (· exact (by first | ((repeat constructor); done) | exact .same _)))))) rfl ?_ | (refine aes rfl (e_bs Try.underlying57 sz9 zr9 rfl (by first | ((repeat constructor); done) | exact .same _) rfl (by decide) (by repeat (first | exact BS.nil | (apply BS.cons; (· constructor); (· rfl); (· rfl); (· rfl); (· exact (by first | ((repeat constructor); done) | exact .same _)))))) rfl ?_; rintro _ _ ⟨u3, rfl, rfl⟩)
  refine aqs rfl (q_mv (by constructor)) rfl ?_
  first | refine aqs rfl (e_callN cb106 (pick106_c _ _ hk.1 hk.2 (by omega) _) rfl rfl) rfl ?_ | refine aqs rfl (e_callN cb106 (ACall.arg (pick106_c _ _ hk.1 hk.2 (by omega) _) (by repeat (first | exact ArgL.nil | (apply ArgL.cons; (· first | exact .same | exact .cro | exact .nil))))) rfl rfl) rfl ?_
  first | refine aqs rfl (q_iaN Try.underlying57 sz9 (.inl rfl) rfl (by omega) (by first | rfl | assumption | (simp [*]; done) | fail) (by first | rfl | assumption | (simp [*]; done) | fail) (by decide) (by first | ((repeat constructor); done) | exact .same _)) rfl ?_ | refine aqs rfl (q_iaS Try.underlying57 sz9 rfl (by repeat (first | exact .here | assumption | (apply HAt.left; assumption) | apply HAt.there | apply HAt.right)) rfl (by omega) (by omega) (by first | exact Nat.zero_add _ | rfl)) rfl ?_ | refine aqs rfl (q_iaN Try.underlying57 sz9 (.inr rfl) rfl (by omega) (by first | rfl | assumption | (simp [*]; done) | fail) (by first | rfl | assumption | (simp [*]; done) | fail) (by decide) (by first | ((repeat constructor); done) | exact .same _)) rfl ?_
  first | refine aqs rfl (q_ldpN ag9 rfl (by repeat (first | exact .here | assumption | (apply HAt.left; assumption) | apply HAt.there | apply HAt.right)) (by first | rfl | assumption | (simp [*]; done) | fail) (by first | rfl | assumption | (simp [*]; done) | fail) (by constructor)) rfl ?_ | refine aqs rfl (q_ld1N ag9 rfl (by constructor)) rfl ?_
  refine aqs rfl (q_as (by constructor)) rfl ?_
  refine alist_nil ?_
  show AWP _ _ _ _
  refine awp_ret ?_
  repeat first | with_reducible refine then_ret ?_ | with_reducible refine blk_ret ?_ | with_reducible refine nogo_ret ?_
  apply retq (.inr rfl) (.cons (rok_t rfl) .nil)
  rotate_left
  ·exact ⟨rfl, rfl⟩
  repeat (first | exact List.Sublist.refl _ | exact List.nil_sublist _ | exact List.sublist_append_left _ _ | apply List.Sublist.cons)
theorem set_split {α : Type} {A B : List α} {x y : α} : (A ++ x :: B).set A.length y = A ++ y :: B := by simp
theorem pubE_set {u : Nat} {es : List (List AV)} {a b : List AV} (h : PubL u es a b) : ∀ (rows : List (List AV)) (j : Nat), PubE u es (rows.set j a) (rows.set j b)
  | [], _ => .nil
  | r :: rows, 0 => .cons h .same
  | r :: rows, j + 1 => .cons .same (pubE_set h rows j)
end Go.Proofs.YtdlinfekifnmkaaAm
