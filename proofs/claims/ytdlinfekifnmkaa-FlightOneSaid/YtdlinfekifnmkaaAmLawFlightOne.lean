/- The statement Rows.FlightOneSaid, from the walk of its function. Conditions: none. -/
import Derived.Test.YtdlinfekifnmkaaRows
import Derived.Test.YtdlinfekifnmkaaAmData
import Derived.WalkKit
import Derived.JoinedOf
import Derived.Test.YtdlinfekifnmkaaAmInit
import Derived.Test.YtdlinfekifnmkaaAmFlightOneWalk
namespace Go.Proofs.Ytdlinfekifnmkaa
open Go.ChangeShapes Go.WideShapes Go.ChangeAt Go.RowKit
open Go.ChangeMaps (open_string shut_string)
open Go.Proofs.YtdlinfekifnmkaaAm
set_option linter.unusedVariables false
set_option linter.unusedSimpArgs false
theorem joinedFlightOne : joinedFacts Try.prog 26 Try.f26 Rows.flightOneSpec Rows.flightOneRow = true := by
  unfold joinedFacts
  repeat' (with_reducible apply and_of)
  all_goals first | with_reducible exact laidTry | with_reducible exact rowedTry | with_reducible exact heardTry | with_reducible exact mayEnter_ok | (rw [lifts_ok]; rfl) | (rw [make_ok]; rfl) | (rw [keysTry]; rfl) | kernel_rfl
set_option maxRecDepth 100000 in
set_option maxHeartbeats 2000000 in
theorem liftedFlightOne (os : Os) (started : os.Started) (H : Type) (enc : TypeId × Value → H) :
    ReturnsInHanded {} Try.checked os 26 .any (Rows.flightOneSpec.pre6 enc Try.prog Try.f26 Rows.flightOneRow.domain false) (Rows.flightOneSpec.post enc Try.prog Try.f26 false true false false) := by
  refine returnsInHanded_of_change (C := Try.checked) ownTry started (by kernel_rfl) Try.func26
    (ChangeSpec.witness6 (enc := enc) (C := Try.checked) false ⟨#[], #[.slice none 0 0], []⟩ 8 (by kernel_rfl) (by kernel_rfl) (by kernel_rfl) (by kernel_rfl)) ?_
  intro W base args ds gs before hval0 hW hcnd _
  have hval : ∀ (j : Nat) t v, Try.f26.params[j]? = some t → args[j]? = some v → Value.okWide Try.prog W .any base t v := hval0
  have hW' := hW
  obtain ⟨p, q, hA0, hV, rfl, hfz, hnd⟩ := hW
  have hA : DataW.TrodAll enc Try.prog W 0 (fun _ => true) true Try.f26.params.toList args.toList ds p := hA0
  rw [Try.params26] at hA hval
  obtain ⟨v0, vs0, d0, ds0, p0, q0, hargs, rfl, rfl, h0, r0⟩ := trodAll_cons hA
  obtain ⟨rfl, rfl, rfl⟩ := trodAll_nil r0
  obtain rfl : args = #[v0] := by cases args; simp_all
  obtain ⟨rfl, rfl⟩ := trodVars_none hV
  have k0 := h0
  have lt0 : ∀ x ∈ p0, x.block < W.heap.size := by obtain ⟨m, hm⟩ := k0; exact DataW.trod_lt m _ _ _ hm
  obtain ⟨x0, rv0, e0, rfl, w0⟩ := op64 (opens_of h0)
  have ce0 : v0.cells = #[v0] := by obtain ⟨a, b, c, rfl⟩ := okWide_slice Try.underlying64 (hval 0 64 v0 rfl rfl); rfl
  have a0 := arg_cell ce0 rv0 rfl
  have hs : RVL (cx0 W) [(.ro (e0.map Tri.cells))] (#[v0] : Array Value).toList := .cons a0 .nil
  refine (calls_of_acall (walkFlightOne e0 w0) hs).mono fun e W' ⟨he, bel⟩ => ?_
  subst he
  exact ⟨_, rfl, _, _, _, [], _, [], hW', trodAll_mk1 (shut_bool Try.underlying4 _), (trodAll_cons_mk (Below.trod laidTry (by kernel_rfl) (of_decide_eq_true (by kernel_rfl)) k0 bel lt0) trodAll_mk0), rfl, bel.frame _, fun h => by cases h⟩
theorem overFlightOne : Rows.flightOneRow.holds Try.pinned (OpenSpec.ofChange Rows.flightOneSpec) :=
  OpenClaim.holds_of_wide 26 Try.f26 rfl rfl rfl rfl rfl rfl rfl ⟨rfl, rfl, rfl, rfl, rfl⟩ rfl rfl rfl rfl rfl (by kernel_rfl) Try.func26 joinedFlightOne
    (of_decide_eq_true (by kernel_rfl)) (by unfold Func.isWrapper; first | (rw [if_pos (by decide +kernel)]; kernel_rfl) | (rw [if_neg (by decide +kernel)]; exact ⟨rfl, rfl⟩))
    (fun os started H enc _ => liftedFlightOne os started H enc)
theorem flightOne_proved : Rows.FlightOneSaid := overFlightOne
end Go.Proofs.Ytdlinfekifnmkaa
