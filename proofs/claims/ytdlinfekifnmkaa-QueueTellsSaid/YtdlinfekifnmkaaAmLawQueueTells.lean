/- The statement Rows.QueueTellsSaid, from the walk of its function. Conditions: none. -/
import Derived.Test.YtdlinfekifnmkaaRows
import Derived.Test.YtdlinfekifnmkaaAmData
import Derived.WalkKit
import Derived.JoinedOf
import Derived.Test.YtdlinfekifnmkaaAmInit
import Derived.Test.YtdlinfekifnmkaaAmQueueTellsWalk
namespace Go.Proofs.Ytdlinfekifnmkaa
open Go.ChangeShapes Go.WideShapes Go.ChangeAt Go.RowKit
open Go.ChangeMaps (open_string shut_string)
open Go.Proofs.YtdlinfekifnmkaaAm
set_option linter.unusedVariables false
set_option linter.unusedSimpArgs false
theorem joinedQueueTells : joinedFacts Try.prog 14 Try.f14 Rows.queueTellsSpec Rows.queueTellsRow = true := by
  unfold joinedFacts
  repeat' (with_reducible apply and_of)
  all_goals first | with_reducible exact laidTry | with_reducible exact rowedTry | with_reducible exact heardTry | with_reducible exact mayEnter_ok | (rw [lifts_ok]; rfl) | (rw [make_ok]; rfl) | (rw [keysTry]; rfl) | kernel_rfl
set_option maxRecDepth 100000 in
set_option maxHeartbeats 2000000 in
theorem liftedQueueTells (os : Os) (started : os.Started) (H : Type) (enc : TypeId × Value → H) :
    ReturnsInHanded {} Try.checked os 14 .any (Rows.queueTellsSpec.pre6 enc Try.prog Try.f14 Rows.queueTellsRow.domain false) (Rows.queueTellsSpec.post enc Try.prog Try.f14 false true false false) := by
  refine returnsInHanded_of_change (C := Try.checked) ownTry started (by kernel_rfl) Try.func14
    (ChangeSpec.witness6 (enc := enc) (C := Try.checked) false ⟨#[], #[.agg #[.int .i64 0, .bool false, .slice none 0 0], .int .i64 0, .bool false, .slice none 0 0, .slice none 0 0, .slice none 0 0, .int .i64 0], []⟩ 8 (by kernel_rfl) (by kernel_rfl) (by kernel_rfl) (by kernel_rfl)) ?_
  intro W base args ds gs before hval0 hW hcnd _
  have hval : ∀ (j : Nat) t v, Try.f14.params[j]? = some t → args[j]? = some v → Value.okWide Try.prog W .any base t v := hval0
  have hW' := hW
  obtain ⟨p, q, hA0, hV, rfl, hfz, hnd⟩ := hW
  have hA : DataW.TrodAll enc Try.prog W 0 (fun _ => true) true Try.f14.params.toList args.toList ds p := hA0
  rw [Try.params14] at hA hval
  obtain ⟨v0, vs0, d0, ds0, p0, q0, hargs, rfl, rfl, h0, r0⟩ := trodAll_cons hA
  obtain ⟨v1, vs1, d1, ds1, p1, q1, rfl, rfl, rfl, h1, r1⟩ := trodAll_cons r0
  obtain ⟨v2, vs2, d2, ds2, p2, q2, rfl, rfl, rfl, h2, r2⟩ := trodAll_cons r1
  obtain ⟨v3, vs3, d3, ds3, p3, q3, rfl, rfl, rfl, h3, r3⟩ := trodAll_cons r2
  obtain ⟨v4, vs4, d4, ds4, p4, q4, rfl, rfl, rfl, h4, r4⟩ := trodAll_cons r3
  obtain ⟨v5, vs5, d5, ds5, p5, q5, rfl, rfl, rfl, h5, r5⟩ := trodAll_cons r4
  obtain ⟨v6, vs6, d6, ds6, p6, q6, rfl, rfl, rfl, h6, r6⟩ := trodAll_cons r5
  obtain ⟨rfl, rfl, rfl⟩ := trodAll_nil r6
  obtain rfl : args = #[v0, v1, v2, v3, v4, v5, v6] := by cases args; simp_all
  obtain ⟨rfl, rfl⟩ := trodVars_none hV
  have k0 := h0
  have lt0 : ∀ x ∈ p0, x.block < W.heap.size := by obtain ⟨m, hm⟩ := k0; exact DataW.trod_lt m _ _ _ hm
  obtain ⟨x0, rv0, e0, rfl, w0⟩ := op63 (opens_of h0)
  obtain ⟨c0, rfl⟩ : ∃ c, v0 = .agg c := by have := hval 0 63 v0 rfl rfl; unfold Value.okWide at this; rw [Try.underlying63] at this; exact ⟨this.choose, this.choose_spec.1⟩
  have a0 := arg_agg rv0
  have k1 := h1
  have lt1 : ∀ x ∈ p1, x.block < W.heap.size := by obtain ⟨m, hm⟩ := k1; exact DataW.trod_lt m _ _ _ hm
  obtain ⟨x1, rv1, e1, rfl, w1⟩ := op3 (opens_of h1)
  have ce1 : v1.cells = #[v1] := by obtain ⟨x, rfl, _⟩ := open_int Try.underlying3 (hval 1 3 v1 rfl rfl) h1; rfl
  have a1 := arg_cell ce1 rv1 rfl
  have k2 := h2
  have lt2 : ∀ x ∈ p2, x.block < W.heap.size := by obtain ⟨m, hm⟩ := k2; exact DataW.trod_lt m _ _ _ hm
  obtain ⟨x2, rv2, e2, rfl, w2⟩ := op4 (opens_of h2)
  have ce2 : v2.cells = #[v2] := by obtain ⟨x, rfl, _⟩ := open_bool Try.underlying4 (hval 2 4 v2 rfl rfl) h2; rfl
  have a2 := arg_cell ce2 rv2 rfl
  have k3 := h3
  have lt3 : ∀ x ∈ p3, x.block < W.heap.size := by obtain ⟨m, hm⟩ := k3; exact DataW.trod_lt m _ _ _ hm
  obtain ⟨x3, rv3, e3, rfl, w3⟩ := op64 (opens_of h3)
  have ce3 : v3.cells = #[v3] := by obtain ⟨a, b, c, rfl⟩ := okWide_slice Try.underlying64 (hval 3 64 v3 rfl rfl); rfl
  have a3 := arg_cell ce3 rv3 rfl
  have k4 := h4
  have lt4 : ∀ x ∈ p4, x.block < W.heap.size := by obtain ⟨m, hm⟩ := k4; exact DataW.trod_lt m _ _ _ hm
  obtain ⟨x4, rv4, e4, rfl, w4⟩ := op61 (opens_of h4)
  have ce4 : v4.cells = #[v4] := by obtain ⟨a, b, c, rfl⟩ := okWide_slice Try.underlying61 (hval 4 61 v4 rfl rfl); rfl
  have a4 := arg_cell ce4 rv4 rfl
  have k5 := h5
  have lt5 : ∀ x ∈ p5, x.block < W.heap.size := by obtain ⟨m, hm⟩ := k5; exact DataW.trod_lt m _ _ _ hm
  obtain ⟨x5, rv5, e5, rfl, w5⟩ := op64 (opens_of h5)
  have ce5 : v5.cells = #[v5] := by obtain ⟨a, b, c, rfl⟩ := okWide_slice Try.underlying64 (hval 5 64 v5 rfl rfl); rfl
  have a5 := arg_cell ce5 rv5 rfl
  have k6 := h6
  have lt6 : ∀ x ∈ p6, x.block < W.heap.size := by obtain ⟨m, hm⟩ := k6; exact DataW.trod_lt m _ _ _ hm
  obtain ⟨x6, rv6, e6, rfl, w6⟩ := op3 (opens_of h6)
  have ce6 : v6.cells = #[v6] := by obtain ⟨x, rfl, _⟩ := open_int Try.underlying3 (hval 6 3 v6 rfl rfl) h6; rfl
  have a6 := arg_cell ce6 rv6 rfl
  have hs : RVL (cx0 W) [(.agg e0.cells), (.lit (.int .i64 e1)), (.lit (.bool e2)), (.ro (e3.map Tri.cells)), (.ro (e4.map Task.cells)), (.ro (e5.map Tri.cells)), (.lit (.int .i64 e6))] (#[(.agg c0), v1, v2, v3, v4, v5, v6] : Array Value).toList := .cons a0 (.cons a1 (.cons a2 (.cons a3 (.cons a4 (.cons a5 (.cons a6 .nil))))))
  refine (calls_of_acall (walkQueueTells e0 e1 e2 e3 e4 e5 e6 w0 w1 w2 w3 w4 w5 w6) hs).mono fun e W' ⟨he, bel⟩ => ?_
  subst he
  exact ⟨_, rfl, _, _, _, [], _, [], hW', trodAll_mk1 (shut_bool Try.underlying4 _), (trodAll_cons_mk (Below.trod laidTry (by kernel_rfl) (of_decide_eq_true (by kernel_rfl)) k0 bel lt0) (trodAll_cons_mk (Below.trod laidTry (by kernel_rfl) (of_decide_eq_true (by kernel_rfl)) k1 bel lt1) (trodAll_cons_mk (Below.trod laidTry (by kernel_rfl) (of_decide_eq_true (by kernel_rfl)) k2 bel lt2) (trodAll_cons_mk (Below.trod laidTry (by kernel_rfl) (of_decide_eq_true (by kernel_rfl)) k3 bel lt3) (trodAll_cons_mk (Below.trod laidTry (by kernel_rfl) (of_decide_eq_true (by kernel_rfl)) k4 bel lt4) (trodAll_cons_mk (Below.trod laidTry (by kernel_rfl) (of_decide_eq_true (by kernel_rfl)) k5 bel lt5) (trodAll_cons_mk (Below.trod laidTry (by kernel_rfl) (of_decide_eq_true (by kernel_rfl)) k6 bel lt6) trodAll_mk0))))))), rfl, bel.frame _, fun h => by cases h⟩
theorem overQueueTells : Rows.queueTellsRow.holds Try.pinned (OpenSpec.ofChange Rows.queueTellsSpec) :=
  OpenClaim.holds_of_wide 14 Try.f14 rfl rfl rfl rfl rfl rfl rfl ⟨rfl, rfl, rfl, rfl, rfl⟩ rfl rfl rfl rfl rfl (by kernel_rfl) Try.func14 joinedQueueTells
    (of_decide_eq_true (by kernel_rfl)) (by unfold Func.isWrapper; first | (rw [if_pos (by decide +kernel)]; kernel_rfl) | (rw [if_neg (by decide +kernel)]; exact ⟨rfl, rfl⟩))
    (fun os started H enc _ => liftedQueueTells os started H enc)
theorem queueTells_proved : Rows.QueueTellsSaid := overQueueTells
end Go.Proofs.Ytdlinfekifnmkaa
