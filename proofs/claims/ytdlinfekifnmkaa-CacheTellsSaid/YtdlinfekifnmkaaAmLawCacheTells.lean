/- The statement Rows.CacheTellsSaid, from the walk of its function. Conditions: none. -/
import Derived.Test.YtdlinfekifnmkaaRows
import Derived.Test.YtdlinfekifnmkaaAmData
import Derived.WalkKit
import Derived.JoinedOf
import Derived.Test.YtdlinfekifnmkaaAmInit
import Derived.Test.YtdlinfekifnmkaaAmCacheTellsWalk
namespace Go.Proofs.Ytdlinfekifnmkaa
open Go.ChangeShapes Go.WideShapes Go.ChangeAt Go.RowKit
open Go.ChangeMaps (open_string shut_string)
open Go.Proofs.YtdlinfekifnmkaaAm
set_option linter.unusedVariables false
set_option linter.unusedSimpArgs false
theorem joinedCacheTells : joinedFacts Try.prog 30 Try.f30 Rows.cacheTellsSpec Rows.cacheTellsRow = true := by
  unfold joinedFacts
  repeat' (with_reducible apply and_of)
  all_goals first | with_reducible exact laidTry | with_reducible exact rowedTry | with_reducible exact heardTry | with_reducible exact mayEnter_ok | (rw [lifts_ok]; rfl) | (rw [make_ok]; rfl) | (rw [keysTry]; rfl) | kernel_rfl
set_option maxRecDepth 100000 in
set_option maxHeartbeats 2000000 in
theorem liftedCacheTells (os : Os) (started : os.Started) (H : Type) (enc : TypeId × Value → H) :
    ReturnsInHanded {} Try.checked os 30 .any (Rows.cacheTellsSpec.pre6 enc Try.prog Try.f30 Rows.cacheTellsRow.domain false) (Rows.cacheTellsSpec.post enc Try.prog Try.f30 false true false false) := by
  refine returnsInHanded_of_change (C := Try.checked) ownTry started (by kernel_rfl) Try.func30
    (ChangeSpec.witness6 (enc := enc) (C := Try.checked) false ⟨#[], #[.int .i64 0, .int .i64 0, .int .i64 0, .agg #[.int .i64 0, .int .i64 0, .int .i64 0], .slice none 0 0, .int .i64 0, .int .i64 0, .string ⟨#[]⟩, .string ⟨#[]⟩, .string ⟨#[]⟩, .agg #[.int .i64 0, .int .i64 0, .int .i64 0]], []⟩ 8 (by kernel_rfl) (by kernel_rfl) (by kernel_rfl) (by kernel_rfl)) ?_
  intro W base args ds gs before hval0 hW hcnd _
  have hval : ∀ (j : Nat) t v, Try.f30.params[j]? = some t → args[j]? = some v → Value.okWide Try.prog W .any base t v := hval0
  have hW' := hW
  obtain ⟨p, q, hA0, hV, rfl, hfz, hnd⟩ := hW
  have hA : DataW.TrodAll enc Try.prog W 0 (fun _ => true) true Try.f30.params.toList args.toList ds p := hA0
  rw [Try.params30] at hA hval
  obtain ⟨v0, vs0, d0, ds0, p0, q0, hargs, rfl, rfl, h0, r0⟩ := trodAll_cons hA
  obtain ⟨v1, vs1, d1, ds1, p1, q1, rfl, rfl, rfl, h1, r1⟩ := trodAll_cons r0
  obtain ⟨v2, vs2, d2, ds2, p2, q2, rfl, rfl, rfl, h2, r2⟩ := trodAll_cons r1
  obtain ⟨v3, vs3, d3, ds3, p3, q3, rfl, rfl, rfl, h3, r3⟩ := trodAll_cons r2
  obtain ⟨v4, vs4, d4, ds4, p4, q4, rfl, rfl, rfl, h4, r4⟩ := trodAll_cons r3
  obtain ⟨v5, vs5, d5, ds5, p5, q5, rfl, rfl, rfl, h5, r5⟩ := trodAll_cons r4
  obtain ⟨v6, vs6, d6, ds6, p6, q6, rfl, rfl, rfl, h6, r6⟩ := trodAll_cons r5
  obtain ⟨v7, vs7, d7, ds7, p7, q7, rfl, rfl, rfl, h7, r7⟩ := trodAll_cons r6
  obtain ⟨v8, vs8, d8, ds8, p8, q8, rfl, rfl, rfl, h8, r8⟩ := trodAll_cons r7
  obtain ⟨v9, vs9, d9, ds9, p9, q9, rfl, rfl, rfl, h9, r9⟩ := trodAll_cons r8
  obtain ⟨v10, vs10, d10, ds10, p10, q10, rfl, rfl, rfl, h10, r10⟩ := trodAll_cons r9
  obtain ⟨rfl, rfl, rfl⟩ := trodAll_nil r10
  obtain rfl : args = #[v0, v1, v2, v3, v4, v5, v6, v7, v8, v9, v10] := by cases args; simp_all
  obtain ⟨rfl, rfl⟩ := trodVars_none hV
  have k0 := h0
  have lt0 : ∀ x ∈ p0, x.block < W.heap.size := by obtain ⟨m, hm⟩ := k0; exact DataW.trod_lt m _ _ _ hm
  obtain ⟨x0, rv0, e0, rfl, w0⟩ := op3 (opens_of h0)
  have ce0 : v0.cells = #[v0] := by obtain ⟨x, rfl, _⟩ := open_int Try.underlying3 (hval 0 3 v0 rfl rfl) h0; rfl
  have a0 := arg_cell ce0 rv0 rfl
  have k1 := h1
  have lt1 : ∀ x ∈ p1, x.block < W.heap.size := by obtain ⟨m, hm⟩ := k1; exact DataW.trod_lt m _ _ _ hm
  obtain ⟨x1, rv1, e1, rfl, w1⟩ := op3 (opens_of h1)
  have ce1 : v1.cells = #[v1] := by obtain ⟨x, rfl, _⟩ := open_int Try.underlying3 (hval 1 3 v1 rfl rfl) h1; rfl
  have a1 := arg_cell ce1 rv1 rfl
  have k2 := h2
  have lt2 : ∀ x ∈ p2, x.block < W.heap.size := by obtain ⟨m, hm⟩ := k2; exact DataW.trod_lt m _ _ _ hm
  obtain ⟨x2, rv2, e2, rfl, w2⟩ := op3 (opens_of h2)
  have ce2 : v2.cells = #[v2] := by obtain ⟨x, rfl, _⟩ := open_int Try.underlying3 (hval 2 3 v2 rfl rfl) h2; rfl
  have a2 := arg_cell ce2 rv2 rfl
  have k3 := h3
  have lt3 : ∀ x ∈ p3, x.block < W.heap.size := by obtain ⟨m, hm⟩ := k3; exact DataW.trod_lt m _ _ _ hm
  obtain ⟨x3, rv3, e3, rfl, w3⟩ := op83 (opens_of h3)
  obtain ⟨c3, rfl⟩ : ∃ c, v3 = .agg c := by have := hval 3 83 v3 rfl rfl; unfold Value.okWide at this; rw [Try.underlying83] at this; exact ⟨this.choose, this.choose_spec.1⟩
  have a3 := arg_agg rv3
  have k4 := h4
  have lt4 : ∀ x ∈ p4, x.block < W.heap.size := by obtain ⟨m, hm⟩ := k4; exact DataW.trod_lt m _ _ _ hm
  obtain ⟨x4, rv4, e4, rfl, w4⟩ := op64 (opens_of h4)
  have ce4 : v4.cells = #[v4] := by obtain ⟨a, b, c, rfl⟩ := okWide_slice Try.underlying64 (hval 4 64 v4 rfl rfl); rfl
  have a4 := arg_cell ce4 rv4 rfl
  have k5 := h5
  have lt5 : ∀ x ∈ p5, x.block < W.heap.size := by obtain ⟨m, hm⟩ := k5; exact DataW.trod_lt m _ _ _ hm
  obtain ⟨x5, rv5, e5, rfl, w5⟩ := op3 (opens_of h5)
  have ce5 : v5.cells = #[v5] := by obtain ⟨x, rfl, _⟩ := open_int Try.underlying3 (hval 5 3 v5 rfl rfl) h5; rfl
  have a5 := arg_cell ce5 rv5 rfl
  have k6 := h6
  have lt6 : ∀ x ∈ p6, x.block < W.heap.size := by obtain ⟨m, hm⟩ := k6; exact DataW.trod_lt m _ _ _ hm
  obtain ⟨x6, rv6, e6, rfl, w6⟩ := op3 (opens_of h6)
  have ce6 : v6.cells = #[v6] := by obtain ⟨x, rfl, _⟩ := open_int Try.underlying3 (hval 6 3 v6 rfl rfl) h6; rfl
  have a6 := arg_cell ce6 rv6 rfl
  have k7 := h7
  have lt7 : ∀ x ∈ p7, x.block < W.heap.size := by obtain ⟨m, hm⟩ := k7; exact DataW.trod_lt m _ _ _ hm
  obtain ⟨x7, rv7, e7, rfl, w7⟩ := op9 (opens_of h7)
  have ce7 : v7.cells = #[v7] := by obtain ⟨x, rfl, _⟩ := open_string Try.underlying9 (hval 7 9 v7 rfl rfl) h7; rfl
  have a7 := arg_cell ce7 rv7 rfl
  have k8 := h8
  have lt8 : ∀ x ∈ p8, x.block < W.heap.size := by obtain ⟨m, hm⟩ := k8; exact DataW.trod_lt m _ _ _ hm
  obtain ⟨x8, rv8, e8, rfl, w8⟩ := op9 (opens_of h8)
  have ce8 : v8.cells = #[v8] := by obtain ⟨x, rfl, _⟩ := open_string Try.underlying9 (hval 8 9 v8 rfl rfl) h8; rfl
  have a8 := arg_cell ce8 rv8 rfl
  have k9 := h9
  have lt9 : ∀ x ∈ p9, x.block < W.heap.size := by obtain ⟨m, hm⟩ := k9; exact DataW.trod_lt m _ _ _ hm
  obtain ⟨x9, rv9, e9, rfl, w9⟩ := op9 (opens_of h9)
  have ce9 : v9.cells = #[v9] := by obtain ⟨x, rfl, _⟩ := open_string Try.underlying9 (hval 9 9 v9 rfl rfl) h9; rfl
  have a9 := arg_cell ce9 rv9 rfl
  have k10 := h10
  have lt10 : ∀ x ∈ p10, x.block < W.heap.size := by obtain ⟨m, hm⟩ := k10; exact DataW.trod_lt m _ _ _ hm
  obtain ⟨x10, rv10, e10, rfl, w10⟩ := op83 (opens_of h10)
  obtain ⟨c10, rfl⟩ : ∃ c, v10 = .agg c := by have := hval 10 83 v10 rfl rfl; unfold Value.okWide at this; rw [Try.underlying83] at this; exact ⟨this.choose, this.choose_spec.1⟩
  have a10 := arg_agg rv10
  have hs : RVL (cx0 W) [(.lit (.int .i64 e0)), (.lit (.int .i64 e1)), (.lit (.int .i64 e2)), (.agg e3.cells), (.ro (e4.map Tri.cells)), (.lit (.int .i64 e5)), (.lit (.int .i64 e6)), (.lit (.string e7)), (.lit (.string e8)), (.lit (.string e9)), (.agg e10.cells)] (#[v0, v1, v2, (.agg c3), v4, v5, v6, v7, v8, v9, (.agg c10)] : Array Value).toList := .cons a0 (.cons a1 (.cons a2 (.cons a3 (.cons a4 (.cons a5 (.cons a6 (.cons a7 (.cons a8 (.cons a9 (.cons a10 .nil))))))))))
  refine (calls_of_acall (walkCacheTells e0 e1 e2 e3 e4 e5 e6 e7 e8 e9 e10 w0 w1 w2 w3 w4 w5 w6 w7 w8 w9 w10) hs).mono fun e W' ⟨he, bel⟩ => ?_
  subst he
  exact ⟨_, rfl, _, _, _, [], _, [], hW', trodAll_mk1 (shut_bool Try.underlying4 _), (trodAll_cons_mk (Below.trod laidTry (by kernel_rfl) (of_decide_eq_true (by kernel_rfl)) k0 bel lt0) (trodAll_cons_mk (Below.trod laidTry (by kernel_rfl) (of_decide_eq_true (by kernel_rfl)) k1 bel lt1) (trodAll_cons_mk (Below.trod laidTry (by kernel_rfl) (of_decide_eq_true (by kernel_rfl)) k2 bel lt2) (trodAll_cons_mk (Below.trod laidTry (by kernel_rfl) (of_decide_eq_true (by kernel_rfl)) k3 bel lt3) (trodAll_cons_mk (Below.trod laidTry (by kernel_rfl) (of_decide_eq_true (by kernel_rfl)) k4 bel lt4) (trodAll_cons_mk (Below.trod laidTry (by kernel_rfl) (of_decide_eq_true (by kernel_rfl)) k5 bel lt5) (trodAll_cons_mk (Below.trod laidTry (by kernel_rfl) (of_decide_eq_true (by kernel_rfl)) k6 bel lt6) (trodAll_cons_mk (Below.trod laidTry (by kernel_rfl) (of_decide_eq_true (by kernel_rfl)) k7 bel lt7) (trodAll_cons_mk (Below.trod laidTry (by kernel_rfl) (of_decide_eq_true (by kernel_rfl)) k8 bel lt8) (trodAll_cons_mk (Below.trod laidTry (by kernel_rfl) (of_decide_eq_true (by kernel_rfl)) k9 bel lt9) (trodAll_cons_mk (Below.trod laidTry (by kernel_rfl) (of_decide_eq_true (by kernel_rfl)) k10 bel lt10) trodAll_mk0))))))))))), rfl, bel.frame _, fun h => by cases h⟩
theorem overCacheTells : Rows.cacheTellsRow.holds Try.pinned (OpenSpec.ofChange Rows.cacheTellsSpec) :=
  OpenClaim.holds_of_wide 30 Try.f30 rfl rfl rfl rfl rfl rfl rfl ⟨rfl, rfl, rfl, rfl, rfl⟩ rfl rfl rfl rfl rfl (by kernel_rfl) Try.func30 joinedCacheTells
    (of_decide_eq_true (by kernel_rfl)) (by unfold Func.isWrapper; first | (rw [if_pos (by decide +kernel)]; kernel_rfl) | (rw [if_neg (by decide +kernel)]; exact ⟨rfl, rfl⟩))
    (fun os started H enc _ => liftedCacheTells os started H enc)
theorem cacheTells_proved : Rows.CacheTellsSaid := overCacheTells
end Go.Proofs.Ytdlinfekifnmkaa
