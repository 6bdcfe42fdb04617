/- The statement Rows.FlightApartSaid, from the walk of its function. Conditions: none. -/
import Derived.Test.YtdlinfekifnmkaaRows
import Derived.Test.YtdlinfekifnmkaaAmData
import Derived.WalkKit
import Derived.JoinedOf
import Derived.Test.YtdlinfekifnmkaaAmInit
import Derived.Test.YtdlinfekifnmkaaAmFlightApartWalk
namespace Go.Proofs.Ytdlinfekifnmkaa
open Go.ChangeShapes Go.WideShapes Go.ChangeAt Go.RowKit
open Go.ChangeMaps (open_string shut_string)
open Go.Proofs.YtdlinfekifnmkaaAm
set_option linter.unusedVariables false
set_option linter.unusedSimpArgs false
theorem joinedFlightApart : joinedFacts Try.prog 27 Try.f27 Rows.flightApartSpec Rows.flightApartRow = true := by
  unfold joinedFacts
  repeat' (with_reducible apply and_of)
  all_goals first | with_reducible exact laidTry | with_reducible exact rowedTry | with_reducible exact heardTry | with_reducible exact mayEnter_ok | (rw [lifts_ok]; rfl) | (rw [make_ok]; rfl) | (rw [keysTry]; rfl) | kernel_rfl
set_option maxRecDepth 100000 in
set_option maxHeartbeats 2000000 in
theorem liftedFlightApart (os : Os) (started : os.Started) (H : Type) (enc : TypeId × Value → H) :
    ReturnsInHanded {} Try.checked os 27 .any (Rows.flightApartSpec.pre6 enc Try.prog Try.f27 Rows.flightApartRow.domain false) (Rows.flightApartSpec.post enc Try.prog Try.f27 false true false false) := by
  refine returnsInHanded_of_change (C := Try.checked) ownTry started (by kernel_rfl) Try.func27
    (ChangeSpec.witness6 (enc := enc) (C := Try.checked) false ⟨#[], #[.slice none 0 0, .agg #[.int .i64 0, .int .i64 0]], []⟩ 8 (by kernel_rfl) (by kernel_rfl) (by kernel_rfl) (by kernel_rfl)) ?_
  intro W base args ds gs before hval0 hW hcnd _
  have hval : ∀ (j : Nat) t v, Try.f27.params[j]? = some t → args[j]? = some v → Value.okWide Try.prog W .any base t v := hval0
  have hW' := hW
  obtain ⟨p, q, hA0, hV, rfl, hfz, hnd⟩ := hW
  have hA : DataW.TrodAll enc Try.prog W 0 (fun _ => true) true Try.f27.params.toList args.toList ds p := hA0
  rw [Try.params27] at hA hval
  obtain ⟨v0, vs0, d0, ds0, p0, q0, hargs, rfl, rfl, h0, r0⟩ := trodAll_cons hA
  obtain ⟨v1, vs1, d1, ds1, p1, q1, rfl, rfl, rfl, h1, r1⟩ := trodAll_cons r0
  obtain ⟨rfl, rfl, rfl⟩ := trodAll_nil r1
  obtain rfl : args = #[v0, v1] := by cases args; simp_all
  obtain ⟨rfl, rfl⟩ := trodVars_none hV
  have k0 := h0
  have lt0 : ∀ x ∈ p0, x.block < W.heap.size := by obtain ⟨m, hm⟩ := k0; exact DataW.trod_lt m _ _ _ hm
  obtain ⟨x0, rv0, e0, rfl, w0⟩ := op64 (opens_of h0)
  have ce0 : v0.cells = #[v0] := by obtain ⟨a, b, c, rfl⟩ := okWide_slice Try.underlying64 (hval 0 64 v0 rfl rfl); rfl
  have a0 := arg_cell ce0 rv0 rfl
  have k1 := h1
  have lt1 : ∀ x ∈ p1, x.block < W.heap.size := by obtain ⟨m, hm⟩ := k1; exact DataW.trod_lt m _ _ _ hm
  obtain ⟨x1, rv1, e1, rfl, w1⟩ := op113 (opens_of h1)
  obtain ⟨c1, rfl⟩ : ∃ c, v1 = .agg c := by have := hval 1 113 v1 rfl rfl; unfold Value.okWide at this; rw [Try.underlying113] at this; exact ⟨this.choose, this.choose_spec.1⟩
  have a1 := arg_agg rv1
  have hs : RVL (cx0 W) [(.ro (e0.map Tri.cells)), (.agg e1.cells)] (#[v0, (.agg c1)] : Array Value).toList := .cons a0 (.cons a1 .nil)
  refine (calls_of_acall (walkFlightApart e0 e1 w0 w1) hs).mono fun e W' ⟨he, bel⟩ => ?_
  subst he
  exact ⟨_, rfl, _, _, _, [], _, [], hW', trodAll_mk1 (shut_bool Try.underlying4 _), (trodAll_cons_mk (Below.trod laidTry (by kernel_rfl) (of_decide_eq_true (by kernel_rfl)) k0 bel lt0) (trodAll_cons_mk (Below.trod laidTry (by kernel_rfl) (of_decide_eq_true (by kernel_rfl)) k1 bel lt1) trodAll_mk0)), rfl, bel.frame _, fun h => by cases h⟩
theorem overFlightApart : Rows.flightApartRow.holds Try.pinned (OpenSpec.ofChange Rows.flightApartSpec) :=
  OpenClaim.holds_of_wide 27 Try.f27 rfl rfl rfl rfl rfl rfl rfl ⟨rfl, rfl, rfl, rfl, rfl⟩ rfl rfl rfl rfl rfl (by kernel_rfl) Try.func27 joinedFlightApart
    (of_decide_eq_true (by kernel_rfl)) (by unfold Func.isWrapper; first | (rw [if_pos (by decide +kernel)]; kernel_rfl) | (rw [if_neg (by decide +kernel)]; exact ⟨rfl, rfl⟩))
    (fun os started H enc _ => liftedFlightApart os started H enc)
theorem flightApart_proved : Rows.FlightApartSaid := overFlightApart
end Go.Proofs.Ytdlinfekifnmkaa
