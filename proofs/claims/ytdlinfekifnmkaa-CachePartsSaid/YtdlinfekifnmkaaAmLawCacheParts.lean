/- The statement Rows.CachePartsSaid, from the walk of its function. Conditions: none. -/
import Derived.Test.YtdlinfekifnmkaaRows
import Derived.Test.YtdlinfekifnmkaaAmData
import Derived.WalkKit
import Derived.JoinedOf
import Derived.Test.YtdlinfekifnmkaaAmInit
import Derived.Test.YtdlinfekifnmkaaAmCachePartsWalk
namespace Go.Proofs.Ytdlinfekifnmkaa
open Go.ChangeShapes Go.WideShapes Go.ChangeAt Go.RowKit
open Go.ChangeMaps (open_string shut_string)
open Go.Proofs.YtdlinfekifnmkaaAm
set_option linter.unusedVariables false
set_option linter.unusedSimpArgs false
theorem joinedCacheParts : joinedFacts Try.prog 34 Try.f34 Rows.cachePartsSpec Rows.cachePartsRow = true := by
  unfold joinedFacts
  repeat' (with_reducible apply and_of)
  all_goals first | with_reducible exact laidTry | with_reducible exact rowedTry | with_reducible exact heardTry | with_reducible exact mayEnter_ok | (rw [lifts_ok]; rfl) | (rw [make_ok]; rfl) | (rw [keysTry]; rfl) | kernel_rfl
set_option maxRecDepth 100000 in
set_option maxHeartbeats 2000000 in
theorem liftedCacheParts (os : Os) (started : os.Started) (H : Type) (enc : TypeId × Value → H) :
    ReturnsInHanded {} Try.checked os 34 .any (Rows.cachePartsSpec.pre6 enc Try.prog Try.f34 Rows.cachePartsRow.domain false) (Rows.cachePartsSpec.post enc Try.prog Try.f34 false true false false) := by
  refine returnsInHanded_of_change (C := Try.checked) ownTry started (by kernel_rfl) Try.func34
    (ChangeSpec.witness6 (enc := enc) (C := Try.checked) false ⟨#[], #[.slice none 0 0, .int .i64 0, .int .i64 0], []⟩ 8 (by kernel_rfl) (by kernel_rfl) (by kernel_rfl) (by kernel_rfl)) ?_
  intro W base args ds gs before hval0 hW hcnd _
  have hval : ∀ (j : Nat) t v, Try.f34.params[j]? = some t → args[j]? = some v → Value.okWide Try.prog W .any base t v := hval0
  have hW' := hW
  obtain ⟨p, q, hA0, hV, rfl, hfz, hnd⟩ := hW
  have hA : DataW.TrodAll enc Try.prog W 0 (fun _ => true) true Try.f34.params.toList args.toList ds p := hA0
  rw [Try.params34] at hA hval
  obtain ⟨v0, vs0, d0, ds0, p0, q0, hargs, rfl, rfl, h0, r0⟩ := trodAll_cons hA
  obtain ⟨v1, vs1, d1, ds1, p1, q1, rfl, rfl, rfl, h1, r1⟩ := trodAll_cons r0
  obtain ⟨v2, vs2, d2, ds2, p2, q2, rfl, rfl, rfl, h2, r2⟩ := trodAll_cons r1
  obtain ⟨rfl, rfl, rfl⟩ := trodAll_nil r2
  obtain rfl : args = #[v0, v1, v2] := by cases args; simp_all
  obtain ⟨rfl, rfl⟩ := trodVars_none hV
  have k0 := h0
  have lt0 : ∀ x ∈ p0, x.block < W.heap.size := by obtain ⟨m, hm⟩ := k0; exact DataW.trod_lt m _ _ _ hm
  obtain ⟨x0, rv0, e0, rfl, w0⟩ := op64 (opens_of h0)
  have ce0 : v0.cells = #[v0] := by obtain ⟨a, b, c, rfl⟩ := okWide_slice Try.underlying64 (hval 0 64 v0 rfl rfl); rfl
  have a0 := arg_cell ce0 rv0 rfl
  have k1 := h1
  have lt1 : ∀ x ∈ p1, x.block < W.heap.size := by obtain ⟨m, hm⟩ := k1; exact DataW.trod_lt m _ _ _ hm
  obtain ⟨x1, rv1, e1, rfl, w1⟩ := op3 (opens_of h1)
  have ce1 : v1.cells = #[v1] := by obtain ⟨x, rfl, _⟩ := open_int Try.underlying3 (hval 1 3 v1 rfl rfl) h1; rfl
  have a1 := arg_cell ce1 rv1 rfl
  have k2 := h2
  have lt2 : ∀ x ∈ p2, x.block < W.heap.size := by obtain ⟨m, hm⟩ := k2; exact DataW.trod_lt m _ _ _ hm
  obtain ⟨x2, rv2, e2, rfl, w2⟩ := op3 (opens_of h2)
  have ce2 : v2.cells = #[v2] := by obtain ⟨x, rfl, _⟩ := open_int Try.underlying3 (hval 2 3 v2 rfl rfl) h2; rfl
  have a2 := arg_cell ce2 rv2 rfl
  have hs : RVL (cx0 W) [(.ro (e0.map Tri.cells)), (.lit (.int .i64 e1)), (.lit (.int .i64 e2))] (#[v0, v1, v2] : Array Value).toList := .cons a0 (.cons a1 (.cons a2 .nil))
  refine (calls_of_acall (walkCacheParts e0 e1 e2 w0 w1 w2) hs).mono fun e W' ⟨he, bel⟩ => ?_
  subst he
  exact ⟨_, rfl, _, _, _, [], _, [], hW', trodAll_mk1 (shut_bool Try.underlying4 _), (trodAll_cons_mk (Below.trod laidTry (by kernel_rfl) (of_decide_eq_true (by kernel_rfl)) k0 bel lt0) (trodAll_cons_mk (Below.trod laidTry (by kernel_rfl) (of_decide_eq_true (by kernel_rfl)) k1 bel lt1) (trodAll_cons_mk (Below.trod laidTry (by kernel_rfl) (of_decide_eq_true (by kernel_rfl)) k2 bel lt2) trodAll_mk0))), rfl, bel.frame _, fun h => by cases h⟩
theorem overCacheParts : Rows.cachePartsRow.holds Try.pinned (OpenSpec.ofChange Rows.cachePartsSpec) :=
  OpenClaim.holds_of_wide 34 Try.f34 rfl rfl rfl rfl rfl rfl rfl ⟨rfl, rfl, rfl, rfl, rfl⟩ rfl rfl rfl rfl rfl (by kernel_rfl) Try.func34 joinedCacheParts
    (of_decide_eq_true (by kernel_rfl)) (by unfold Func.isWrapper; first | (rw [if_pos (by decide +kernel)]; kernel_rfl) | (rw [if_neg (by decide +kernel)]; exact ⟨rfl, rfl⟩))
    (fun os started H enc _ => liftedCacheParts os started H enc)
theorem cacheParts_proved : Rows.CachePartsSaid := overCacheParts
end Go.Proofs.Ytdlinfekifnmkaa
