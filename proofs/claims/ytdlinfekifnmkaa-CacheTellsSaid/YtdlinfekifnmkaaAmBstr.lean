/- Bytes into a string. Conditions: none. -/
import Derived.Test.YtdlinfekifnmkaaAmRet
import Derived.Laws.BytesString
import Derived.Laws.BytesArg
import Derived.Lib.ConvBytes
set_option linter.unusedVariables false
set_option linter.unusedSimpArgs false
namespace Go.Proofs.YtdlinfekifnmkaaAm
open Go.Proofs
section
variable {P : Program} {d : Option Tmp} {ty : TypeId} {pos : String} {af : Array Edge} {g : Option (Nat × Bool)} {ev : Operand → AV} {H : Heap}
theorem q_bstr {src e dst : TypeId} {x : Operand} {bs : List Int} (hs : P.underlying src = some (.slice e)) (he : P.underlying e = some (.int .u8)) (hd : P.underlying dst = some .string)
    (hx : SV H (ev x) (bs.map fun b => [.lit (.int .u8 b)])) : QOp P ⟨d, .convert src dst x, ty, pos, af, g⟩ ev H (.lit (.string (strOfNums bs))) :=
  qop_same (s := fun ρ => convert src dst (ρ x)) (fun ρ => rfl) fun C a ok hh hev => by
    have h1 := hev x (by simp [Op.operands])
    obtain ⟨A, c, news, hv, hlen, hA, hcell⟩ := src_cells (sz := 1) hh hx h1 (by simp) (by decide)
    simp only [List.length_map, Nat.mul_one] at hlen hv
    have hnews : news = bs.map (Value.int .u8) := by
      apply List.ext_getElem?
      intro i
      by_cases hi : i < bs.length
      · obtain ⟨u, hu, hr⟩ := hcell i [.lit (.int .u8 bs[i])] (by simp [hi]) 0 _ rfl
        simp only [Nat.mul_one, Nat.add_zero] at hu
        rw [hu, rv_lit hr]
        simp [hi]
      · rw [List.getElem?_eq_none (by omega), List.getElem?_eq_none (by simp; omega)]
    refine ⟨.string (strOfNums bs), ?_, .lit⟩
    show (convert src dst (a.eval x)).run P C.w = _
    rw [hv]
    rcases hA with hnil | ⟨ad, rfl, hc⟩
    · have hb : bs = [] := by simpa using hnil
      subst hb
      rw [run_convert_bytes_string C.w src dst e A _ c hs he hd]
      cases A with
      | none => simp [Conv.bytesToString]; rfl
      | some ad =>
        show (Conv.bytesToString (.slice (some ad) 0 c)).run P C.w = _
        rw [run_bytesToString C.w ad 0 c [] (by simpa using run_loadCells_list (P := P) C.w ad [] (fun j v hj => by simp at hj))]
        rfl
    · rw [run_convert_bytes_string C.w src dst e _ _ c hs he hd]
      have hl : (loadCells ad bs.length).run P C.w = .ok (bs.map (Value.int .u8)).toArray C.w := by
        have := run_loadCells_list (P := P) C.w ad (bs.map (Value.int .u8)) (fun j v hj => by
          rw [← hnews] at hj
          exact hc j v hj)
        simpa using this
      rw [run_bytesToString C.w ad _ c bs hl, foldl_push_bytes]
      simp [strOfNums, ByteArray.empty, ByteArray.emptyWithCapacity]
      rfl
end
end Go.Proofs.YtdlinfekifnmkaaAm
