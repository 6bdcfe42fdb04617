/- Closed facts on the whole program that every row asks. Conditions: none. -/
import Derived.Test.YtdlinfekifnmkaaRows
import Derived.JoinedOf
import Derived.KernelRfl
namespace Go.Proofs.Ytdlinfekifnmkaa
open Go
def codesA : List Nat := [104, 97, 114, 110, 101, 115, 115]
def codesB : List Nat := [97, 99, 51, 56, 99, 97, 52, 48, 98, 100, 54, 54, 53, 98, 50, 51, 48, 57, 52, 48, 54, 101, 50, 55, 102, 57, 51, 97, 100, 100, 52, 97, 99, 53, 57, 55, 99, 55, 50, 55, 101, 51, 49, 99, 101, 50, 54, 97, 57, 49, 102, 98, 57, 53, 97, 52, 56, 50, 50, 102, 51, 53, 102, 53]
def codesC : List Nat := [99, 117, 116]
def codesR : List Nat := [97, 116, 32, 99, 111, 108, 108, 97, 116, 111, 114, 47, 99, 111, 108, 108, 97, 116, 111, 114, 108, 97, 119, 48, 57, 46, 83, 117, 109, 115, 84, 101, 108, 108, 115, 32, 99, 111, 108, 108, 97, 116, 111, 114, 47, 99, 111, 108, 108, 97, 116, 111, 114, 108, 97, 119, 48, 57, 46, 83, 117, 109, 115, 87, 105, 100, 116, 104, 32, 99, 111, 108, 108, 97, 116, 111, 114, 47, 99, 111, 108, 108, 97, 116, 111, 114, 108, 97, 119, 48, 57, 46, 83, 117, 109, 115, 80, 97, 114, 116, 115, 32, 99, 111, 108, 108, 97, 116, 111, 114, 47, 99, 111, 108, 108, 97, 116, 111, 114, 108, 97, 119, 48, 57, 46, 83, 117, 109, 115, 79, 110, 101, 32, 99, 111, 108, 108, 97, 116, 111, 114, 47, 99, 111, 108, 108, 97, 116, 111, 114, 108, 97, 119, 48, 57, 46, 83, 117, 109, 115, 66, 111, 116, 104, 32, 99, 111, 108, 108, 97, 116, 111, 114, 47, 99, 111, 108, 108, 97, 116, 111, 114, 108, 97, 119, 49, 51, 46, 76, 114, 117, 84, 101, 108, 108, 115, 32, 99, 111, 108, 108, 97, 116, 111, 114, 47, 99, 111, 108, 108, 97, 116, 111, 114, 108, 97, 119, 49, 51, 46, 76, 114, 117, 76, 97, 115, 116, 32, 99, 111, 108, 108, 97, 116, 111, 114, 47, 99, 111, 108, 108, 97, 116, 111, 114, 108, 97, 119, 49, 51, 46, 76, 114, 117, 79, 114, 100, 101, 114, 32, 99, 111, 108, 108, 97, 116, 111, 114, 47, 99, 111, 108, 108, 97, 116, 111, 114, 108, 97, 119, 49, 51, 46, 76, 114, 117, 75, 101, 101, 112, 115, 32, 99, 111, 108, 108, 97, 116, 111, 114, 47, 99, 111, 108, 108, 97, 116, 111, 114, 108, 97, 119, 49, 51, 46, 76, 114, 117, 65, 103, 97, 105, 110, 32, 99, 111, 108, 108, 97, 116, 111, 114, 47, 99, 111, 108, 108, 97, 116, 111, 114, 108, 97, 119, 49, 51, 46, 76, 114, 117, 83, 116, 97, 99, 107, 32, 99, 111, 108, 108, 97, 116, 111, 114, 47, 99, 111, 108, 108, 97, 116, 111, 114, 108, 97, 119, 49, 54, 46, 81, 117, 101, 117, 101, 84, 101, 108, 108, 115, 32, 99, 111, 108, 108, 97, 116, 111, 114, 47, 99, 111, 108, 108, 97, 116, 111, 114, 108, 97, 119, 49, 54, 46, 81, 117, 101, 117, 101, 79, 114, 100, 101, 114, 32, 99, 111, 108, 108, 97, 116, 111, 114, 47, 99, 111, 108, 108, 97, 116, 111, 114, 108, 97, 119, 49, 54, 46, 81, 117, 101, 117, 101, 80, 97, 114, 116, 115, 32, 99, 111, 108, 108, 97, 116, 111, 114, 47, 99, 111, 108, 108, 97, 116, 111, 114, 108, 97, 119, 49, 54, 46, 81, 117, 101, 117, 101, 65, 108, 108, 32, 99, 111, 108, 108, 97, 116, 111, 114, 47, 99, 111, 108, 108, 97, 116, 111, 114, 108, 97, 119, 50, 49, 46, 72, 105, 115, 116, 84, 101, 108, 108, 115, 32, 99, 111, 108, 108, 97, 116, 111, 114, 47, 99, 111, 108, 108, 97, 116, 111, 114, 108, 97, 119, 50, 49, 46, 72, 105, 115, 116, 78, 101, 118, 101, 114, 32, 99, 111, 108, 108, 97, 116, 111, 114, 47, 99, 111, 108, 108, 97, 116, 111, 114, 108, 97, 119, 50, 49, 46, 72, 105, 115, 116, 87, 105, 100, 101, 114, 32, 99, 111, 108, 108, 97, 116, 111, 114, 47, 99, 111, 108, 108, 97, 116, 111, 114, 108, 97, 119, 50, 49, 46, 72, 105, 115, 116, 76, 101, 103, 97, 108, 32, 99, 111, 108, 108, 97, 116, 111, 114, 47, 99, 111, 108, 108, 97, 116, 111, 114, 108, 97, 119, 50, 49, 46, 72, 105, 115, 116, 67, 97, 108, 108, 115, 32, 99, 111, 108, 108, 97, 116, 111, 114, 47, 99, 111, 108, 108, 97, 116, 111, 114, 108, 97, 119, 50, 49, 46, 72, 105, 115, 116, 75, 101, 121, 115, 32, 99, 111, 108, 108, 97, 116, 111, 114, 47, 99, 111, 108, 108, 97, 116, 111, 114, 108, 97, 119, 50, 49, 46, 72, 105, 115, 116, 84, 117, 114, 110, 101, 100, 32, 99, 111, 108, 108, 97, 116, 111, 114, 47, 99, 111, 108, 108, 97, 116, 111, 114, 108, 97, 119, 49, 53, 46, 70, 108, 105, 103, 104, 116, 84, 101, 108, 108, 115, 32, 99, 111, 108, 108, 97, 116, 111, 114, 47, 99, 111, 108, 108, 97, 116, 111, 114, 108, 97, 119, 49, 53, 46, 70, 108, 105, 103, 104, 116, 79, 110, 101, 32, 99, 111, 108, 108, 97, 116, 111, 114, 47, 99, 111, 108, 108, 97, 116, 111, 114, 108, 97, 119, 49, 53, 46, 70, 108, 105, 103, 104, 116, 65, 112, 97, 114, 116, 32, 99, 111, 108, 108, 97, 116, 111, 114, 47, 99, 111, 108, 108, 97, 116, 111, 114, 108, 97, 119, 49, 53, 46, 70, 108, 105, 103, 104, 116, 77, 97, 110, 121, 32, 99, 111, 108, 108, 97, 116, 111, 114, 47, 99, 111, 108, 108, 97, 116, 111, 114, 108, 97, 119, 49, 53, 46, 70, 108, 105, 103, 104, 116, 69, 109, 112, 116, 121, 32, 99, 111, 108, 108, 97, 116, 111, 114, 47, 99, 111, 108, 108, 97, 116, 111, 114, 108, 97, 119, 49, 52, 46, 67, 97, 99, 104, 101, 84, 101, 108, 108, 115, 32, 99, 111, 108, 108, 97, 116, 111, 114, 47, 99, 111, 108, 108, 97, 116, 111, 114, 108, 97, 119, 49, 52, 46, 67, 97, 99, 104, 101, 76, 97, 115, 116, 32, 99, 111, 108, 108, 97, 116, 111, 114, 47, 99, 111, 108, 108, 97, 116, 111, 114, 108, 97, 119, 49, 52, 46, 67, 97, 99, 104, 101, 67, 111, 117, 110, 116, 115, 32, 99, 111, 108, 108, 97, 116, 111, 114, 47, 99, 111, 108, 108, 97, 116, 111, 114, 108, 97, 119, 49, 52, 46, 67, 97, 99, 104, 101, 65, 103, 97, 105, 110, 32, 99, 111, 108, 108, 97, 116, 111, 114, 47, 99, 111, 108, 108, 97, 116, 111, 114, 108, 97, 119, 49, 52, 46, 67, 97, 99, 104, 101, 80, 97, 114, 116, 115, 32, 99, 111, 108, 108, 97, 116, 111, 114, 47, 99, 111, 108, 108, 97, 116, 111, 114, 108, 97, 119, 49, 52, 46, 67, 97, 99, 104, 101, 83, 116, 105, 108, 108, 32, 99, 111, 108, 108, 97, 116, 111, 114, 47, 99, 111, 108, 108, 97, 116, 111, 114, 108, 97, 119, 50, 49, 46, 72, 105, 115, 116, 80, 108, 97, 121, 115]
def chars (l : List Nat) : List Char := l.map Char.ofNat
def blank1 : Char := Char.ofNat 32
theorem init_eq : Try.prog.initOrder = String.ofList (chars codesA ++ blank1 :: (chars codesB ++ blank1 :: (chars codesC ++ blank1 :: chars codesR))) := by kernel_rfl
theorem init_list : Try.prog.initOrder.toList = chars codesA ++ blank1 :: (chars codesB ++ blank1 :: (chars codesC ++ blank1 :: chars codesR)) := by rw [init_eq, String.toList_ofList]
theorem words_cons : ∀ (a b : List Char), a.all (fun c => c != blank1) = true → wordsSigns (a ++ blank1 :: b) = a :: wordsSigns b
  | [], b, _ => by simp [wordsSigns, blank1]
  | c :: a, b, h => by
    simp only [List.all_cons, Bool.and_eq_true, bne_iff_ne, ne_eq] at h
    have ih := words_cons a b h.2
    rw [List.cons_append, wordsSigns]
    · rw [ih]
    · exact fun e => h.1 e
theorem init_words : ∃ W, behindMainWord (wordsSigns Try.prog.initOrder.toList) = "cut".toList :: W := by
  rw [init_list, words_cons _ _ (by kernel_rfl), words_cons _ _ (by kernel_rfl), words_cons _ _ (by kernel_rfl)]
  generalize wordsSigns (chars codesR) = W
  refine ⟨W, ?_⟩
  have h1 : ((chars codesA == "harness".toList || chars codesA == "ownmain".toList) && isSumSigns (chars codesB)) = true := by kernel_rfl
  have h2 : chars codesC = "cut".toList := by kernel_rfl
  rw [behindMainWord, if_pos h1, h2]
theorem mayEnter_of {P : Program} {W : List (List Char)} (h : behindMainWord (wordsSigns P.initOrder.toList) = "cut".toList :: W) (e4 : P.laysLater = false) (e5 : P.bearsReflect = false) (e6 : P.doorFits [] = true) : P.mayEnter = true := by
  unfold Program.mayEnter
  rw [h]
  have e3 : stripLifts liftWords ("cut".toList :: W) = ([], "cut".toList :: W) := by kernel_rfl
  simp only [e3, e4, e5, e6]
  simp
theorem mayEnter_ok : Try.prog.mayEnter = true := by
  obtain ⟨W, h⟩ := init_words
  exact mayEnter_of h (by kernel_rfl) (by kernel_rfl) (by kernel_rfl)
theorem lifts_ok : Try.prog.liftsFinal = false := by
  obtain ⟨W, h⟩ := init_words
  unfold Program.liftsFinal Program.headLifts
  rw [h]
  kernel_rfl
theorem make_of {P : Program} {W : List (List Char)} (h : behindMainWord (wordsSigns P.initOrder.toList) = "cut".toList :: W) : P.make = some Make.cut := by
  unfold Program.make Program.headLifts
  rw [h]
  have e1 : ("cut".toList == "gc".toList || "cut".toList == "spec".toList) = false := by kernel_rfl
  simp only [e1]
  simp
theorem make_ok : Try.prog.make = some Make.cut := by
  obtain ⟨W, h⟩ := init_words
  exact make_of h
theorem ownTry : ownKnob Try.prog.godebug = none := by kernel_rfl
theorem laidTry : laidOutB Try.prog = true := by kernel_rfl
theorem rowedTry : mapsRowed Try.prog = true := by kernel_rfl
theorem keysTry : Try.prog.plainKeys = false := by kernel_rfl
theorem heardTry : Try.prog.stopsHeard = true := by kernel_rfl
theorem and_of {a b : Bool} (ha : a = true) (hb : b = true) : (a && b) = true := by rw [ha, hb]; rfl
theorem beq_of {α : Type} [BEq α] [LawfulBEq α] {a b : α} (h : b = a) : (a == b) = true := by rw [h]; simp
end Go.Proofs.Ytdlinfekifnmkaa
