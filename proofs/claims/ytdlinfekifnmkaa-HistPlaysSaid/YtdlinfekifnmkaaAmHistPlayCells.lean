/- The contract of Play, first part: the cells of the four players. Conditions: none. -/
import Derived.Test.YtdlinfekifnmkaaAmHistPlayed
import Derived.Test.YtdlinfekifnmkaaAmHistC
set_option linter.unusedVariables false
set_option linter.unusedSimpArgs false
set_option maxRecDepth 20000
namespace Go.Proofs.YtdlinfekifnmkaaAm
open Go.Proofs
def atCells (l : List (Int × Int)) : List AV := l.flatMap fun p => [cI1 p.1, cI1 p.2]
def toldCells (l : List Event) : List AV := l.flatMap Event.cells
theorem four {α : Type} {l : List α} (h : l.length = 4) : ∃ a b c d, l = [a, b, c, d] := by
  match l, h with
  | [a, b, c, d], _ => exact ⟨a, b, c, d, rfl⟩
theorem at_len {l : List (Int × Int)} (h : l.length = 4) : (atCells l).length = 8 := by
  obtain ⟨a, b, c, d, rfl⟩ := four h
  rfl
theorem told_len {l : List Event} (h : l.length = 4) : (toldCells l).length = 20 := by
  obtain ⟨a, b, c, d, rfl⟩ := four h
  rfl
theorem at_fst {l : List (Int × Int)} (h : l.length = 4) {w : Nat} (hw : w < 4) : (atCells l)[2 * w]? = some (cI1 (l.getD w (0, 0)).1) := by
  obtain ⟨a, b, c, d, rfl⟩ := four h
  have : w = 0 ∨ w = 1 ∨ w = 2 ∨ w = 3 := by omega
  rcases this with rfl | rfl | rfl | rfl <;> rfl
theorem at_snd {l : List (Int × Int)} (h : l.length = 4) {w : Nat} (hw : w < 4) : (atCells l)[2 * w + 1]? = some (cI1 (l.getD w (0, 0)).2) := by
  obtain ⟨a, b, c, d, rfl⟩ := four h
  have : w = 0 ∨ w = 1 ∨ w = 2 ∨ w = 3 := by omega
  rcases this with rfl | rfl | rfl | rfl <;> rfl
theorem at_put2 {l : List (Int × Int)} (h : l.length = 4) {w : Nat} (hw : w < 4) (x y : Int) : (atCells l).take (2 * w) ++ [cI1 x, cI1 y] ++ (atCells l).drop (2 * w + [cI1 x, cI1 y].length) = atCells (l.set w (x, y)) := by
  obtain ⟨a, b, c, d, rfl⟩ := four h
  have : w = 0 ∨ w = 1 ∨ w = 2 ∨ w = 3 := by omega
  rcases this with rfl | rfl | rfl | rfl <;> rfl
theorem at_put1 {l : List (Int × Int)} (h : l.length = 4) {w : Nat} (hw : w < 4) (y : Int) : (atCells l).take (2 * w + 1) ++ [cI1 y] ++ (atCells l).drop (2 * w + 1 + [cI1 y].length) = atCells (l.set w ((l.getD w (0, 0)).1, y)) := by
  obtain ⟨a, b, c, d, rfl⟩ := four h
  have : w = 0 ∨ w = 1 ∨ w = 2 ∨ w = 3 := by omega
  rcases this with rfl | rfl | rfl | rfl <;> rfl
theorem told_get {l : List Event} (h : l.length = 4) {w : Nat} (hw : w < 4) : ((toldCells l).drop (5 * w)).take 5 = (l.getD w zeroEv).cells := by
  obtain ⟨a, b, c, d, rfl⟩ := four h
  have : w = 0 ∨ w = 1 ∨ w = 2 ∨ w = 3 := by omega
  rcases this with rfl | rfl | rfl | rfl <;> rfl
theorem told_put {l : List Event} (h : l.length = 4) {w : Nat} (hw : w < 4) (e : Event) : (toldCells l).take (5 * w) ++ e.cells ++ (toldCells l).drop (5 * w + e.cells.length) = toldCells (l.set w e) := by
  obtain ⟨a, b, c, d, rfl⟩ := four h
  have : w = 0 ∨ w = 1 ∨ w = 2 ∨ w = 3 := by omega
  rcases this with rfl | rfl | rfl | rfl <;> rfl
def playS (calls : List Tri) (room : Int) (order : List Int) : PS := (order.take 60).foldl (fun s c => playStep calls room s (pick c 4).toNat) play0
end Go.Proofs.YtdlinfekifnmkaaAm
