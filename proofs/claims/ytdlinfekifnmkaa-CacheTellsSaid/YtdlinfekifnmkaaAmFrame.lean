/- From a given row to a walk: the arguments opened as abstract values; the arguments read again. Conditions: none. -/
import Derived.Test.YtdlinfekifnmkaaAmMaps
import Derived.ProofKit
import Derived.Deep.Slices
import Derived.Carry
import Derived.Below
import Derived.ChangeOld
import Derived.OpenShut
import Derived.ShutString
set_option linter.unusedVariables false
set_option linter.unusedSimpArgs false
namespace Go.Proofs.YtdlinfekifnmkaaAm
open Go.Proofs Go.RowKit

theorem cell_lt {W : World} {a : Addr} {v : Value} (h : W.cell? a = some v) : a.block < W.heap.size := by
  unfold World.cell? at h
  by_cases hb : a.block < W.heap.size
  · exact hb
  · rw [Array.getElem?_eq_none (by omega)] at h; simp at h

def cx0 (W : World) : Cx := ⟨fun _ => ⟨none, 0, 0⟩, fun _ => none, 0, W⟩
theorem cx0_ok (W : World) : (cx0 W).Ok := ⟨fun k u h => by simp [cx0] at h⟩
theorem cx0_hrel (W : World) : HRel (cx0 W) [] := ⟨by simp, by simp⟩

/-- What abstract cells a row of values bears. -/
def RVL (C : Cx) (xs : List AV) (cs : List Value) : Prop := cs.length = xs.length ∧ ∀ j x, xs[j]? = some x → RV C x (cs.getD j undef)

theorem RVL.nil {C : Cx} : RVL C [] [] := ⟨rfl, by simp⟩
theorem RVL.cons {C : Cx} {x : AV} {xs : List AV} {c : Value} {cs : List Value} (h : RV C x c) (hs : RVL C xs cs) : RVL C (x :: xs) (c :: cs) := by
  refine ⟨by simp [hs.1], fun j y hy => ?_⟩
  cases j with
  | zero => simp at hy; subst hy; simpa using h
  | succ j => simp at hy; simpa using hs.2 j y hy
theorem RVL.append {C : Cx} {xs ys : List AV} {cs ds : List Value} (h : RVL C xs cs) (hs : RVL C ys ds) : RVL C (xs ++ ys) (cs ++ ds) := by
  refine ⟨by simp [h.1, hs.1], fun j y hy => ?_⟩
  by_cases hj : j < xs.length
  · rw [List.getElem?_append_left hj] at hy
    have := h.2 j y hy
    rw [List.getD_eq_getElem?_getD] at this ⊢
    rwa [List.getElem?_append_left (by rw [h.1]; exact hj)]
  · rw [List.getElem?_append_right (by omega)] at hy
    have := hs.2 _ y hy
    rw [List.getD_eq_getElem?_getD] at this ⊢
    rwa [List.getElem?_append_right (by rw [h.1]; omega), h.1]

/-- A row of cells that is read as a datum of a type. -/
def Opens (P : Program) (W : World) (t : TypeId) (cs : List Value) : Prop :=
  ∃ (H : Type) (enc : TypeId × Value → H) (fuel : Nat) (x : DataW H × List MemPlace), DataW.trod enc P W 0 (fun _ => true) true fuel t cs = some x

variable {P : Program} {W : World} {t : TypeId} {cs : List Value}

theorem opens_of {H : Type} {enc : TypeId × Value → H} {v : Value} {d : DataW H} {ps : List MemPlace} (h : DataW.Trod enc P W 0 (fun _ => true) true t v d ps) : Opens P W t v.cells.toList :=
  let ⟨f, hf⟩ := h; ⟨H, enc, f, _, hf⟩

theorem op_int {k : IntKind} (ht : P.underlying t = some (.int k)) (h : Opens P W t cs) : ∃ xs, RVL (cx0 W) xs cs ∧ ∃ n, xs = [.lit (.int k n)] ∧ (Lit.int k n).wf = true := by
  obtain ⟨H, enc, f, x, h⟩ := h
  obtain ⟨n, rfl, _, hw⟩ := DataW.trod_int ht h
  exact ⟨_, .cons .lit .nil, n, rfl, hw⟩
theorem op_bool (ht : P.underlying t = some .bool) (h : Opens P W t cs) : ∃ xs, RVL (cx0 W) xs cs ∧ ∃ b, xs = [.lit (.bool b)] := by
  obtain ⟨H, enc, f, x, h⟩ := h
  obtain ⟨n, rfl, _⟩ := DataW.trod_bool ht h
  exact ⟨_, .cons .lit .nil, n, rfl⟩
theorem op_string (ht : P.underlying t = some .string) (h : Opens P W t cs) : ∃ xs, RVL (cx0 W) xs cs ∧ ∃ s, xs = [.lit (.string s)] ∧ s.size ≤ maxLen := by
  obtain ⟨H, enc, f, x, h⟩ := h
  obtain ⟨n, rfl, _, hw⟩ := DataW.trod_string ht h
  exact ⟨_, .cons .lit .nil, n, rfl, hw⟩

theorem op_slice {e : TypeId} {n : Nat} {F : List AV → Prop} (ht : P.underlying t = some (.slice e)) (ce : P.cellsOf e = n) (hn : 0 < n)
    (hF : ∀ cs, Opens P W e cs → ∃ xs, RVL (cx0 W) xs cs ∧ F xs) (h : Opens P W t cs) : ∃ xs, RVL (cx0 W) xs cs ∧ ∃ es, xs = [.ro es] ∧ (∀ x ∈ es, F x) ∧ es.length ≤ maxLen := by
  obtain ⟨H, enc, f, x, h⟩ := h
  rcases Go.Deep.open_slice ht h with ⟨rfl, _⟩ | ⟨a, len, cap, m, q, D, Pl, rfl, hb, hl, hm, he, _, hel⟩
  · exact ⟨_, .cons (.ro (es := []) (size := 0) (fun _ _ => undef) rfl (Nat.le_refl _) (Nat.zero_le _) (by simp) (by simp) (by simp)) .nil, [], rfl, by simp, by simp⟩
  · simp only [if_true] at he
    subst he
    have hi : ∀ i, i < len → ∃ p : List AV × List Value, W.cells? 0 (a.add (i * n)) n = some p.2 ∧ RVL (cx0 W) p.1 p.2 ∧ F p.1 := fun i hi => by
      obtain ⟨cs', h1, h2⟩ := hel i (by omega)
      obtain ⟨xs, h3, h4⟩ := hF cs' ⟨H, enc, q, _, h2⟩
      rw [ce] at h1
      exact ⟨(xs, cs'), h1, h3, h4⟩
    obtain ⟨f, hf⟩ := Go.Deep.choose_lt hi
    have hcell : ∀ i, i < len → ∀ j x, (f i).1[j]? = some x → CellAt (cx0 W) (some a) (i * n + j) ((f i).2.getD j undef) ∧ RV (cx0 W) x ((f i).2.getD j undef) := fun i hi j x hx => by
      obtain ⟨h1, h2, _⟩ := hf i hi
      obtain ⟨_, h4, h5⟩ := World.cells?_some h1
      have hj : j < n := by
        have := (List.getElem?_eq_some_iff.1 hx).1
        have := h2.1
        omega
      have hc := h5 j hj
      rw [add_add] at hc
      have hv : (f i).2[j]? = some ((f i).2.getD j undef) := by
        rw [List.getD_eq_getElem?_getD, List.getElem?_eq_getElem (by omega)]; simp
      rw [hv] at hc
      refine ⟨⟨a, rfl, ⟨?_, rfl⟩, hc⟩, h2.2 j x hx⟩
      have hb := cell_lt hc
      rwa [add_block] at hb
    refine ⟨_, .cons (.ro (es := (List.range len).map fun i => (f i).1) (size := n) (fun i j => (f i).2.getD j undef) (by simp) hl hm ?_ ?_ ?_) .nil, _, rfl, ?_, ?_⟩
    · intro e he
      simp only [List.mem_map, List.mem_range] at he
      obtain ⟨i, hi, rfl⟩ := he
      obtain ⟨h1, h2, _⟩ := hf i hi
      rw [← h2.1, (World.cells?_some h1).2.1]
    · intro i e he j x hx
      simp only [List.getElem?_map, Option.map_eq_some_iff] at he
      obtain ⟨i', hi', rfl⟩ := he
      have hlt := (List.getElem?_eq_some_iff.1 hi').1
      simp at hlt
      have : i' = i := by simpa [hlt] using hi'.symm
      subst this
      exact (hcell _ hlt j x hx).1
    · intro i e he j x hx
      simp only [List.getElem?_map, Option.map_eq_some_iff] at he
      obtain ⟨i', hi', rfl⟩ := he
      have hlt := (List.getElem?_eq_some_iff.1 hi').1
      simp at hlt
      have : i' = i := by simpa [hlt] using hi'.symm
      subst this
      exact (hcell _ hlt j x hx).2
    · intro x hx
      simp only [List.mem_map, List.mem_range] at hx
      obtain ⟨i, hi, rfl⟩ := hx
      exact (hf i hi).2.2
    · simp; omega

/-- A struct's fields, each opened. -/
theorem op_struct {fs : Array Field} {n : Nat} (ht : P.underlying t = some (.struct fs)) (ce : P.cellsOf t = n) (h : Opens P W t cs) :
    cs.length = n ∧ ∀ (i : Nat) (f : Field), fs[i]? = some f → Opens P W f.type ((cs.drop f.offset).take (P.cellsOf f.type)) := by
  obtain ⟨H, enc, f, x, h⟩ := h
  obtain ⟨xs, m, _, _, hl, hlen, hf⟩ := DataW.trod_struct ht h
  refine ⟨hl.trans ce, fun i f hi => ?_⟩
  have h1 := hf i f hi
  have hlt : i < xs.length := by
    rw [hlen]
    exact (Array.getElem?_eq_some_iff.1 hi).1
  rw [List.getElem?_eq_getElem hlt] at h1
  exact ⟨H, enc, m, _, h1⟩
theorem op_array {n k : Nat} {e : TypeId} (ht : P.underlying t = some (.array k e)) (ce : P.cellsOf t = n) (h : Opens P W t cs) :
    cs.length = n ∧ ∀ (i : Nat), i < k → Opens P W e ((cs.drop (i * P.cellsOf e)).take (P.cellsOf e)) := by
  obtain ⟨H, enc, f, x, h⟩ := h
  obtain ⟨xs, m, _, _, hl, hlen, hf⟩ := DataW.trod_array ht h
  refine ⟨hl.trans ce, fun i hi => ?_⟩
  have h1 := hf i hi
  rw [List.getElem?_eq_getElem (by omega)] at h1
  exact ⟨H, enc, m, _, h1⟩

/-- A value that came in, as an abstract value. -/
theorem arg_cell {v : Value} {xs : List AV} {x : AV} (hv : v.cells = #[v]) (h : RVL (cx0 W) xs v.cells.toList) (hx : xs = [x]) : RV (cx0 W) x v := by
  subst hx
  rw [hv] at h
  simpa using h.2 0 x rfl
theorem arg_agg {vs : Array Value} {xs : List AV} (h : RVL (cx0 W) xs (Value.agg vs).cells.toList) : RV (cx0 W) (.agg xs) (.agg vs) := by
  refine .agg (by simpa [Value.cells] using h.1) (fun j x hx => ?_)
  have := h.2 j x hx
  simpa [Value.cells, List.getD_eq_getElem?_getD, Array.getD_eq_getD_getElem?, Array.getElem?_toList] using this

/-- The frame of a call that writes nothing that was there. -/
theorem below_of_le {C C' : Cx} (h : Le (Heap.M []) C C') : Below C.w.heap.size C.w C'.w :=
  ⟨h.os, h.tape, h.output, h.size, fun k hk => (h.block k hk (fun u hu => by simp [Heap.M] at hu)).1⟩

theorem calls_of_acall {f : FuncId} {args : List AV} {vals : Array Value} {v : Value} (h : QCall P f args [] (.lit v))
    (hs : RVL (cx0 W) args vals.toList) : Calls P f vals W fun e w' => e = .returned v ∧ Below W.heap.size W w' := by
  refine (h (cx0 W) vals (cx0_ok W) (cx0_hrel W) (by simpa using hs.1) (fun j x hx => ?_)).mono ?_
  · have := hs.2 j x hx
    simpa [List.getD_eq_getElem?_getD, Array.getD_eq_getD_getElem?, Array.getElem?_toList] using this
  · rintro e w' ⟨C', v', r', H', rfl, rfl, _, _, hle, _, hr, rfl, _⟩
    refine ⟨?_, below_of_le hle⟩
    cases hr
    rfl
end Go.Proofs.YtdlinfekifnmkaaAm
