/- The abstract machine of these proofs, part 5: operations that make or write objects; calls. Conditions: none. -/
import Derived.Test.YtdlinfekifnmkaaAmOps
import Derived.Laws.CopyRow
set_option linter.unusedVariables false
set_option linter.unusedSimpArgs false
namespace Go.Proofs.YtdlinfekifnmkaaAm

/-- Is it the value of one cell? -/
def cell1 : AV → Bool
  | .lit v => v.oneCell'
  | .any | .agg _ | .tup _ => false
  | _ => true
def cellsOf : AV → List AV
  | .agg cs => cs
  | x => [x]

theorem rv_cell1 {C : Cx} {x : AV} {v : Value} (h : RV C x v) (hx : cell1 x = true) : v.oneCell' = true := by
  induction h with
  | any => cases hx
  | lit => exact hx
  | cro A hv h ih => exact ih rfl
  | agg => cases hx
  | tup => cases hx
  | _ => rfl

theorem oneCell_cells {v : Value} (h : v.oneCell' = true) : v.cells = #[v] := by cases v <;> first | rfl | cases h

theorem rv_cells {C : Cx} {x : AV} {v : Value} (h : RV C x v) (hx : (cellsOf x).all cell1 = true) : v.cells.size = (cellsOf x).length ∧ (∀ u ∈ v.cells.toList, u.oneCell' = true) ∧
    ∀ (j : Nat) (y : AV), (cellsOf x)[j]? = some y → ∃ u, v.cells[j]? = some u ∧ RV C y u := by
  have plain : cell1 x = true → cellsOf x = [x] → v.cells.size = (cellsOf x).length ∧ (∀ u ∈ v.cells.toList, u.oneCell' = true) ∧
      ∀ (j : Nat) (y : AV), (cellsOf x)[j]? = some y → ∃ u, v.cells[j]? = some u ∧ RV C y u := fun h1 h2 => by
    have h3 := rv_cell1 h h1
    have h4 := oneCell_cells h3
    rw [h2, h4]
    refine ⟨rfl, fun u hu => by simp at hu; subst hu; exact h3, fun j y hj => ?_⟩
    match j, hj with
    | 0, hj => simp at hj; subst hj; exact ⟨v, rfl, h⟩
  cases h with
  | agg hs hrv =>
    rename_i cs vs
    have key : ∀ j y, cs[j]? = some y → ∃ u, vs[j]? = some u ∧ RV C y u := fun j y hj => by
      have hlt : j < vs.size := by rw [hs]; exact (List.getElem?_eq_some_iff.1 hj).1
      exact ⟨vs[j], Array.getElem?_eq_getElem hlt, by simpa [hlt] using hrv j y hj⟩
    refine ⟨hs, fun u hu => ?_, key⟩
    obtain ⟨j, hj⟩ := List.mem_iff_getElem?.1 hu
    have hlt : j < cs.length := by
      have : j < vs.size := by simpa [Value.cells] using (List.getElem?_eq_some_iff.1 hj).1
      omega
    obtain ⟨u', h1, h2⟩ := key j cs[j] (List.getElem?_eq_getElem hlt)
    have : u' = u := by
      have hj' : vs[j]? = some u := by simpa [Value.cells] using hj
      rw [hj'] at h1
      injection h1 with h1
      exact h1.symm
    subst this
    exact rv_cell1 h2 (List.all_eq_true.1 hx _ (List.getElem_mem hlt))
  | any => simp [cellsOf, cell1] at hx
  | tup => simp [cellsOf, cell1] at hx
  | lit => exact plain (by simpa [cellsOf] using hx) rfl
  | ro => exact plain rfl rfl
  | cro => exact plain rfl rfl
  | ip => exact plain rfl rfl
  | ptr => exact plain rfl rfl
  | sl => exact plain rfl rfl
  | mp => exact plain rfl rfl
  | clo => exact plain rfl rfl

/-- A new block, owned by a new object. -/
def Cx.add (C : Cx) (o : Obj) (an : Anc) : Cx where
  ph := fun u => if u = C.gen then an else C.ph u
  own := fun k => if k = C.w.heap.size then some C.gen else C.own k
  gen := C.gen + 1
  w := C.w.alloc o

/-- A new block that nobody will write. -/
def Cx.grow (C : Cx) (o : Obj) : Cx := { C with w := C.w.alloc o }

section
variable {P : Program} {C : Cx} {H : Heap}

theorem own_new (ok : C.Ok) : C.own C.w.heap.size = none := by
  cases h : C.own C.w.heap.size with
  | none => rfl
  | some u => have := (ok.own _ u h).1; omega

theorem grow_ok (ok : C.Ok) (o : Obj) : (C.grow o).Ok := ⟨fun k u h => ⟨by have := (ok.own k u h).1; simp [Cx.grow]; omega, (ok.own k u h).2⟩⟩
theorem grow_le (M : Nat → Prop) (o : Obj) : Le M C (C.grow o) :=
  ⟨rfl, rfl, rfl, by simp [Cx.grow], Nat.le_refl _, fun _ _ => rfl, fun k hk _ => ⟨heap_alloc_old _ _ _ hk, rfl⟩⟩
theorem grow_U (ok : C.Ok) (o : Obj) : (C.grow o).U C.w.heap.size := ⟨by simp [Cx.grow], own_new ok⟩

theorem add_ok (ok : C.Ok) (o : Obj) (an : Anc) : (C.add o an).Ok := ⟨fun k u h => by
  simp only [Cx.add] at h ⊢
  split at h
  · rename_i hk
    injection h with h
    subst h
    simp; omega
  · have := ok.own k u h
    simp; omega⟩
theorem add_le (M : Nat → Prop) (o : Obj) (an : Anc) : Le M C (C.add o an) :=
  ⟨rfl, rfl, rfl, by simp [Cx.add], by simp [Cx.add], fun u hu => by simp only [Cx.add]; rw [if_neg (by omega)],
    fun k hk _ => ⟨heap_alloc_old _ _ _ hk, by simp only [Cx.add]; rw [if_neg (by omega)]⟩⟩
theorem add_rel (ok : C.Ok) (hh : HRel C H) {o : Obj} {an : Anc} {ob : Ob} (hob : ObRel (C.add o an) C.gen ob) : HRel (C.add o an) ((C.gen, ob) :: H) := by
  have h1 := hh.le ok (add_le (fun _ => False) o an) (fun _ _ h => h)
  refine ⟨?_, fun u o' ho => ?_⟩
  · rw [List.map_cons, List.nodup_cons]
    exact ⟨fun hm => absurd (hh.lt hm) (by omega), h1.nodup⟩
  · rcases List.mem_cons.1 ho with h | h
    · simp only [Prod.mk.injEq] at h
      obtain ⟨rfl, rfl⟩ := h
      exact hob
    · exact h1.ob u o' h
theorem add_new (ob : Ob) : New C H ((C.gen, ob) :: H) := fun u hu => by
  rcases List.mem_cons.1 hu with h | h
  · exact .inr (Nat.le_of_eq h.symm)
  · exact .inl h

variable {d : Option Tmp} {ty : TypeId} {pos : String} {af : Array Edge} {g : Option (Nat × Bool)} {ev : Operand → AV}

theorem eop_of {o : Oper} {R : AV → Heap → Prop} (h : ∀ (C : Cx) (a : Act), C.Ok → HRel C H → (∀ x ∈ o.op.operands, RV C (ev x) (a.eval x)) →
    ∃ (C' : Cx) (v : Value) (r : AV) (H' : Heap), (execOp a.eval o).run P C.w = .ok (.value v) C'.w ∧ R r H' ∧ C'.Ok ∧ Le H.M C C' ∧ New C H H' ∧ HRel C' H' ∧ RV C' r v) : EOp P o ev H R := by
  intro C a ok hh he next Q hn
  obtain ⟨C', v, r, H', hr, hR, ok', hl, hnew, hh', hv⟩ := h C a ok hh he
  unfold Oper.wp
  rw [hr]
  exact hn C' v r H' hR ok' hl hnew hh' hv
/-- Of an operation that hands nothing back. -/
theorem eop_skip {o : Oper} {R : AV → Heap → Prop} (h : ∀ (C : Cx) (a : Act), C.Ok → HRel C H → (∀ x ∈ o.op.operands, RV C (ev x) (a.eval x)) →
    ∃ (C' : Cx) (H' : Heap), (execOp a.eval o).run P C.w = .ok .skip C'.w ∧ R (.lit undef) H' ∧ C'.Ok ∧ Le H.M C C' ∧ New C H H' ∧ HRel C' H') : EOp P o ev H R := by
  intro C a ok hh he next Q hn
  obtain ⟨C', H', hr, hR, ok', hl, hnew, hh'⟩ := h C a ok hh he
  unfold Oper.wp
  rw [hr]
  exact hn C' undef (.lit undef) H' hR ok' hl hnew hh' .lit

/-- A row of one element, made anew. -/
theorem obrel_one (ok : C.Ok) {cells : Array Value} {t : TypeId} {xs : List AV} (hs : cells.size = xs.length) (hx : ∀ (j : Nat) (y : AV), xs[j]? = some y → ∃ u, cells[j]? = some u ∧ RV C y u) :
    ObRel (C.add (.cells cells t) ⟨some ⟨C.w.heap.size, 0, none⟩, 1, xs.length⟩) C.gen (.arr t xs.length [xs]) := by
  refine ⟨by simp [Cx.add], by simp [Cx.add], by simp [Cx.add], by simp [Cx.add, maxLen], by simp, .inr ⟨C.w.heap.size, 0, cells, by simp [Cx.add], heap_alloc_new _ _, by simp [Cx.add], by simp [Cx.add, hs], ?_⟩⟩
  intro i e he j y hy
  match i, he with
  | 0, he =>
    simp at he
    subst he
    obtain ⟨u, h1, h2⟩ := hx j y hy
    exact ⟨u, by simpa using h1, h2.le (add_le (fun _ => False) _ _)⟩

theorem ptr_new {cells : Array Value} {t : TypeId} {n : Nat} : RV (C.add (.cells cells t) ⟨some ⟨C.w.heap.size, 0, none⟩, 1, n⟩) (.ptr C.gen 0 0) (.pointer (some ⟨C.w.heap.size, 0, none⟩)) := by
  have := RV.ptr (C := C.add (.cells cells t) ⟨some ⟨C.w.heap.size, 0, none⟩, 1, n⟩) (u := C.gen) (i := 0) (off := 0) (a := ⟨C.w.heap.size, 0, none⟩) (by simp [Cx.add]) (by simp [Cx.add])
  simpa [add_zero] using this

theorem e_alloc {t : TypeId} {zs : List Value} (hz : zeroOf P t = some zs) : EOp P ⟨d, .alloc t, ty, pos, af, g⟩ ev H (fun r H' => ∃ u, r = .ptr u 0 0 ∧ H' = (u, .arr t zs.length [zs.map .lit]) :: H) :=
  eop_of fun C a ok hh he => by
    obtain ⟨z, hz1, hz2⟩ := run_zeroOf hz C.w
    have hsz : z.cells.size = (zs.map AV.lit).length := by rw [← hz2]; simp
    refine ⟨C.add (.cells z.cells t) ⟨some ⟨C.w.heap.size, 0, none⟩, 1, (zs.map AV.lit).length⟩, _, .ptr C.gen 0 0, _, ?_, ⟨C.gen, rfl, rfl⟩, add_ok ok _ _, add_le _ _ _, add_new _, ?_, ptr_new⟩
    · show (execOp a.eval ⟨d, .alloc t, ty, pos, af, g⟩).run P C.w = .ok (.value (.pointer (some ⟨C.w.heap.size, 0, none⟩))) (C.w.alloc (.cells z.cells t))
      simp [execOp, Instr.alloc, hz1, newVar, newRow]
    · have := obrel_one (t := t) ok hsz (fun j y hy => by
        simp only [List.getElem?_map, Option.map_eq_some_iff] at hy
        obtain ⟨v, hv, rfl⟩ := hy
        exact ⟨v, by rw [← hz2] at hv; simpa using hv, .lit⟩)
      have h2 := add_rel ok hh this
      simpa using h2

theorem e_box {t : TypeId} {x : Operand} {xs : List AV} (hx : cellsOf (ev x) = xs) (hok : xs.all cell1 = true) :
    EOp P ⟨d, .box t x, ty, pos, af, g⟩ ev H (fun r H' => ∃ u, r = .ptr u 0 0 ∧ H' = (u, .arr t xs.length [xs]) :: H) :=
  eop_of fun C a ok hh he => by
    have h1 := he x (by simp [Op.operands])
    obtain ⟨hsz, _, hrv⟩ := rv_cells h1 (by rw [hx]; exact hok)
    rw [hx] at hsz hrv
    refine ⟨C.add (.cells (a.eval x).cells t) ⟨some ⟨C.w.heap.size, 0, none⟩, 1, xs.length⟩, _, .ptr C.gen 0 0, _, ?_, ⟨C.gen, rfl, rfl⟩, add_ok ok _ _, add_le _ _ _, add_new _, add_rel ok hh (obrel_one ok hsz hrv), ptr_new⟩
    show (execOp a.eval ⟨d, .box t x, ty, pos, af, g⟩).run P C.w = .ok (.value (.pointer (some ⟨C.w.heap.size, 0, none⟩))) (C.w.alloc (.cells (a.eval x).cells t))
    simp [execOp, Instr.box, newVar, newRow]

/-! ### Writing in place -/
theorem HRel.set {C' : Cx} (ok : C.Ok) (hh : HRel C H) {q u : Nat} {o o' : Ob} (hq : H[q]? = some (u, o)) (hl : Le (fun v => v = u) C C') (ho : ObRel C' u o') : HRel C' (H.set q (u, o')) := by
  have hlt : q < H.length := (List.getElem?_eq_some_iff.1 hq).1
  have hqe : H[q] = (u, o) := (List.getElem?_eq_some_iff.1 hq).2
  have hkeys : (H.set q (u, o')).map (·.1) = H.map (·.1) := by
    rw [List.map_set]
    apply List.ext_getElem?
    intro i
    by_cases hi : q = i
    · subst hi; simp [hlt, hqe]
    · simp [hi]
  refine ⟨by rw [hkeys]; exact hh.nodup, fun v p hp => ?_⟩
  obtain ⟨i, hi⟩ := List.mem_iff_getElem?.1 hp
  by_cases hqi : q = i
  · subst hqi
    simp [hlt] at hi
    obtain ⟨rfl, rfl⟩ := hi
    exact ho
  · rw [List.getElem?_set_ne hqi] at hi
    refine (hh.ob v p (List.mem_of_getElem? hi)).le ok hl (fun hvu => hqi ?_)
    subst hvu
    have hil : i < H.length := (List.getElem?_eq_some_iff.1 hi).1
    have h1 : (H.map (·.1))[q]'(by simpa using hlt) = (H.map (·.1))[i]'(by simpa using hil) := by
      have := (List.getElem?_eq_some_iff.1 hi).2
      simp [hqe, this]
    exact (List.getElem_inj (h₀ := by simpa using hlt) (h₁ := by simpa using hil) hh.nodup).1 h1

theorem set_new (q u : Nat) (o o' : Ob) (hq : H[q]? = some (u, o)) : New C H (H.set q (u, o')) := fun v hv => by
  obtain ⟨p, hp, rfl⟩ := List.mem_map.1 hv
  rcases List.mem_or_eq_of_mem_set hp with h | h
  · exact .inl (List.mem_map.2 ⟨p, h, rfl⟩)
  · subst h; exact .inl (List.mem_map.2 ⟨(u, o), List.mem_of_getElem? hq, rfl⟩)

/-- The row g of an object u is written. -/
def Cx.wr (C : Cx) (k : Nat) (cs : Array Value) : Cx := { C with w := C.w.setRow k cs }
theorem wr_ok (ok : C.Ok) (k : Nat) (cs : Array Value) : (C.wr k cs).Ok := ⟨fun j u h => ⟨by have := (ok.own j u h).1; simpa [Cx.wr] using this, (ok.own j u h).2⟩⟩
theorem wr_le {k u : Nat} (hk : C.own k = some u) (cs : Array Value) : Le (fun v => v = u) C (C.wr k cs) :=
  ⟨rfl, rfl, rfl, by simp [Cx.wr], Nat.le_refl _, fun _ _ => rfl, fun j hj hn => ⟨setRow_other _ _ _ _ (fun e => hn u rfl (by rw [e]; exact hk)), rfl⟩⟩

/-- Cells of one element are written. -/
theorem bears_set {C C' : Cx} {M : Nat → Prop} (hl : Le M C C') {cur : Array Value} {o size i off : Nat} {es : List (List AV)} {c xs : List AV} {vs : List Value} (hb : Bears C cur o size es) (hsz : ∀ x ∈ es, x.length = size)
    (hi : es[i]? = some c) (hlen : vs.length = xs.length) (hle : off + xs.length ≤ size) (hcap : o + (i * size + off) + vs.length ≤ cur.size) (hv : ∀ (j : Nat) (y : AV), xs[j]? = some y → ∃ u, vs[j]? = some u ∧ RV C' y u) :
    Bears C' (cur.toList.take (o + (i * size + off)) ++ vs ++ cur.toList.drop (o + (i * size + off) + vs.length)).toArray o size (es.set i (c.take off ++ xs ++ c.drop (off + xs.length))) := by
  have hcl : c.length = size := hsz c (List.mem_of_getElem? hi)
  have hil : i < es.length := (List.getElem?_eq_some_iff.1 hi).1
  have hcur : ∀ k, k < o + (i * size + off) ∨ o + (i * size + off) + vs.length ≤ k →
      (cur.toList.take (o + (i * size + off)) ++ vs ++ cur.toList.drop (o + (i * size + off) + vs.length))[k]? = cur[k]? := fun k hk => by
    have hl1 : (cur.toList.take (o + (i * size + off))).length = o + (i * size + off) := by simp; omega
    rcases hk with hk | hk
    · rw [List.append_assoc, List.getElem?_append_left (by omega), List.getElem?_take_of_lt hk]
      simp
    · rw [List.getElem?_append_right (by simp [List.length_append, hl1]; omega), List.getElem?_drop]
      simp only [List.length_append, hl1]
      rw [show o + (i * size + off) + vs.length + (k - (o + (i * size + off) + vs.length)) = k by omega]
      simp
  have hnew : ∀ k, k < vs.length → (cur.toList.take (o + (i * size + off)) ++ vs ++ cur.toList.drop (o + (i * size + off) + vs.length))[o + (i * size + off) + k]? = vs[k]? := fun k hk => by
    have hl1 : (cur.toList.take (o + (i * size + off))).length = o + (i * size + off) := by simp; omega
    rw [List.append_assoc, List.getElem?_append_right (by omega), hl1, List.getElem?_append_left (by omega)]
    congr 1
    omega
  intro i' e' he' j y hy
  simp only [List.getElem?_toArray]
  by_cases hii : i = i'
  · subst hii
    rw [List.getElem?_set_self hil] at he'
    injection he' with he'
    subst he'
    by_cases h1 : j < off
    · rw [List.append_assoc, List.getElem?_append_left (by simp; omega), List.getElem?_take_of_lt h1] at hy
      obtain ⟨v, h2, h3⟩ := hb i c hi j y hy
      exact ⟨v, by rw [hcur _ (.inl (by omega))]; exact h2, h3.le hl⟩
    · by_cases h2 : j < off + xs.length
      · rw [List.append_assoc, List.getElem?_append_right (by simp; omega), List.getElem?_append_left (by simp; omega)] at hy
        have h3 : (c.take off).length = off := by simp; omega
        rw [h3] at hy
        obtain ⟨u, h4, h5⟩ := hv (j - off) y hy
        refine ⟨u, ?_, h5⟩
        rw [show o + i * size + j = o + (i * size + off) + (j - off) by omega, hnew _ (by omega)]
        exact h4
      · have h3 : (c.take off ++ xs).length = off + xs.length := by simp; omega
        rw [List.getElem?_append_right (by omega), h3, List.getElem?_drop, show off + xs.length + (j - (off + xs.length)) = j by omega] at hy
        obtain ⟨v, h4, h5⟩ := hb i c hi j y hy
        exact ⟨v, by rw [hcur _ (.inr (by omega))]; exact h4, h5.le hl⟩
  · rw [List.getElem?_set_ne hii] at he'
    obtain ⟨v, h4, h5⟩ := hb i' e' he' j y hy
    have hj : j < size := by
      have := (List.getElem?_eq_some_iff.1 hy).1
      rw [hsz e' (List.mem_of_getElem? he')] at this
      exact this
    refine ⟨v, ?_, h5.le hl⟩
    rw [hcur _ ?_]
    · exact h4
    · rcases Nat.lt_or_ge i' i with h6 | h6
      · have : (i' + 1) * size ≤ i * size := Nat.mul_le_mul_right _ h6
        rw [Nat.add_mul] at this
        omega
      · have : (i + 1) * size ≤ i' * size := Nat.mul_le_mul_right _ (by omega)
        rw [Nat.add_mul] at this
        omega

theorem e_store {t e : TypeId} {p x : Operand} {u i off q size sz : Nat} {es : List (List AV)} {c xs : List AV} (hsz : szOf P t = some sz) (hp : ev p = .ptr u i off) (hq : H[q]? = some (u, .arr e size es)) (hi : es[i]? = some c)
    (hx : cellsOf (ev x) = xs) (hok : xs.all cell1 = true) (hxl : xs.length = sz) (hle : off + sz ≤ size) :
    EOp P ⟨d, .store t p x, ty, pos, af, g⟩ ev H (fun r H' => r = .lit undef ∧ H' = H.set q (u, .arr e size (es.set i (c.take off ++ xs ++ c.drop (off + xs.length))))) :=
  eop_skip fun C a ok hh he => by
    have h1 := he p (by simp [Op.operands])
    rw [hp] at h1
    obtain ⟨a0, ha, hv⟩ := rv_ptr h1
    have h2 := he x (by simp [Op.operands])
    obtain ⟨hvs, hone, hrv⟩ := rv_cells h2 (by rw [hx]; exact hok)
    rw [hx] at hvs hrv
    have hob := hh.at hq
    obtain ⟨g1, g2, g3, g4, g5, g6⟩ := hob
    have hil : i < es.length := (List.getElem?_eq_some_iff.1 hi).1
    rcases g6 with h0 | ⟨gb, o, cur, hA, hg, ho, hs, hb⟩
    · omega
    rw [ha] at hA
    injection hA with hA
    subst hA
    have hcap : (i + 1) * size ≤ (C.ph u).cap * size := Nat.mul_le_mul_right _ (by omega)
    rw [Nat.add_mul] at hcap
    have hvl : (a.eval x).cells.toList.length = xs.length := by simpa using hvs
    have hstore := run_storeCells_at P gb (o + (i * size + off)) e (a.eval x).cells.toList 0 cur C.w hg (by rw [hvl]; omega) hone
    simp only [Nat.add_zero] at hstore
    refine ⟨C.wr gb (cur.toList.take (o + (i * size + off)) ++ (a.eval x).cells.toList ++ cur.toList.drop (o + (i * size + off) + (a.eval x).cells.toList.length)).toArray, _, ?_, ⟨rfl, rfl⟩, wr_ok ok _ _,
      (wr_le ho _).mono (fun v hv => by subst hv; exact List.mem_map.2 ⟨_, List.mem_of_getElem? hq, rfl⟩), set_new q u _ _ hq, HRel.set ok hh hq (wr_le ho _) ?_⟩
    · show (execOp a.eval ⟨d, .store t p x, ty, pos, af, g⟩).run P C.w = .ok .skip (C.w.setRow gb _)
      have hsz2 : (a.eval x).cells.size = sz := by omega
      simp only [execOp, Instr.storeAt, Sem.run_bind, hv, Instr.sureAddr, Sem.run_pure, Result.andThen_ok, storeVar, run_szOf hsz, hsz2, g2]
      rw [add_plain]
      simp [hstore]
    · refine ⟨g1, g2, by rw [List.length_set]; exact g3, g4, fun y hy => ?_, .inr ⟨gb, o, _, ha, setRow_heap _ _ _ _ _ _ hg, ho, ?_, ?_⟩⟩
      · rcases List.mem_or_eq_of_mem_set hy with h | h
        · exact g5 y h
        · have hcl := g5 c (List.mem_of_getElem? hi)
          subst h; simp; omega
      · have hs' : o + (C.ph u).cap * size ≤ cur.size := hs
        simp only [List.size_toArray, List.length_append, List.length_take, List.length_drop, Array.length_toList]
        show o + (C.ph u).cap * size ≤ _
        have : (a.eval x).cells.size = xs.length := hvs
        omega
      · refine bears_set (wr_le ho _) hb g5 hi hvl (by omega) (by rw [hvl]; omega) (fun j y hy => ?_)
        obtain ⟨w, h3, h4⟩ := hrv j y hy
        exact ⟨w, by simpa using h3, h4.le (wr_le ho _)⟩

/-! ### Calls -/
/-- A call, given the objects; it may write these. -/
def ACall (P : Program) (f : FuncId) (args : List AV) (H : Heap) (R : AV → Heap → Prop) : Prop :=
  ∀ (C : Cx) (vals : Array Value), C.Ok → HRel C H → vals.size = args.length → (∀ j x, args[j]? = some x → RV C x (vals.getD j undef)) →
    Calls P f vals C.w (fun e w' => ∃ (C' : Cx) (v : Value) (r : AV) (H' : Heap), e = .returned v ∧ C'.w = w' ∧ C'.Ok ∧ HRel C' H' ∧ Le H.M C C' ∧ New C H H' ∧ RV C' r v ∧ R r H')
/-- A call that leaves the objects as they are. -/
abbrev QCall (P : Program) (f : FuncId) (args : List AV) (H : Heap) (r : AV) : Prop := ACall P f args H (fun r' H' => r' = r ∧ H' = H)

def Callable (P : Program) (f : FuncId) : Prop := ∃ fn, P.funcs[f]? = some fn ∧ (fn.name == "runtime.NumGoroutine") = false ∧ fn.body.isNone = false

theorem run_callFunc {f : FuncId} (h : Callable P f) (args : Array Value) (w : World) : (callFunc f args).run P w = .ok (.enter f args) w := by
  obtain ⟨fn, h1, h2, h3⟩ := h
  unfold callFunc
  simp only [Sem.run_bind, run_program, Result.andThen_ok, h1, h2, h3, Bool.false_eq_true, if_false, Sem.run_pure]

theorem getD_append_map {C : Cx} {a : Act} {xs : Array Operand} (hx : ∀ x ∈ xs, RV C (ev x) (a.eval x)) {fs cs : Array Value} {first caps : List AV} (hf : fs.size = first.length) (hc : cs.size = caps.length)
    (hrf : ∀ j x, first[j]? = some x → RV C x (fs.getD j undef)) (hrc : ∀ j x, caps[j]? = some x → RV C x (cs.getD j undef)) :
    (fs ++ xs.map a.eval ++ cs).size = (first ++ xs.toList.map ev ++ caps).length ∧ ∀ j x, (first ++ xs.toList.map ev ++ caps)[j]? = some x → RV C x ((fs ++ xs.map a.eval ++ cs).getD j undef) := by
  refine ⟨by simp [hf, hc], fun j x hj => ?_⟩
  have hm := getD_map_eval (ev := ev) (a := a) hx
  rcases Nat.lt_or_ge j first.length with h1 | h1
  · rw [List.append_assoc, List.getElem?_append_left h1] at hj
    have := hrf j x hj
    have h2 : j < fs.size := by omega
    rw [Array.getD_eq_getD_getElem?] at this ⊢
    rw [Array.append_assoc, Array.getElem?_append_left h2]
    exact this
  · rw [List.append_assoc, List.getElem?_append_right h1] at hj
    rcases Nat.lt_or_ge (j - first.length) xs.size with h2 | h2
    · rw [List.getElem?_append_left (by simpa using h2)] at hj
      have := hm (j - first.length) x hj
      rw [Array.getD_eq_getD_getElem?] at this ⊢
      rw [Array.append_assoc, Array.getElem?_append_right (by omega), Array.getElem?_append_left (by simp; omega), hf]
      exact this
    · rw [List.getElem?_append_right (by simpa using h2)] at hj
      have := hrc _ x hj
      simp only [List.length_map, Array.length_toList] at this
      rw [Array.getD_eq_getD_getElem?] at this ⊢
      rw [Array.append_assoc, Array.getElem?_append_right (by omega), Array.getElem?_append_right (by simp; omega), hf]
      simpa using this

/-- A call of a function or of a closure. -/
theorem e_call {f : FuncId} {fo : Operand} {xs : Array Operand} {ts : Array TypeId} {first caps args : List AV} {R : AV → Heap → Prop} (hc : Callable P f)
    (hfo : ev fo = .clo (.func f) first caps ∨ (fo = .func f ∧ first = [] ∧ caps = []))
    (hargs : first ++ xs.toList.map ev ++ caps = args) (h : ACall P f args H R) : EOp P ⟨d, .call { callee := .value fo, args := xs, argTypes := ts }, ty, pos, af, g⟩ ev H R := by
  intro C a ok hh he next Q hn
  have hfn : ∃ fs cs : Array Value, a.eval fo = .func (.func f) fs cs ∧ fs.size = first.length ∧ cs.size = caps.length ∧
      (∀ j x, first[j]? = some x → RV C x (fs.getD j undef)) ∧ (∀ j x, caps[j]? = some x → RV C x (cs.getD j undef)) := by
    rcases hfo with hfo | ⟨rfl, rfl, rfl⟩
    · have h1 := he fo (by simp [Op.operands, Call.operands])
      rw [hfo] at h1
      generalize a.eval fo = v at h1
      cases h1 with
      | clo hf hcc hrf hrc => exact ⟨_, _, rfl, hf, hcc, hrf, hrc⟩
    · exact ⟨#[], #[], rfl, rfl, rfl, by simp, by simp⟩
  obtain ⟨fs, cs, hv, hf, hcs, hrf, hrc⟩ := hfn
  have hx : ∀ x ∈ xs, RV C (ev x) (a.eval x) := fun x hx => he x (by simp [Op.operands, Call.operands, hx])
  obtain ⟨hsz, hrv⟩ := getD_append_map hx hf hcs hrf hrc
  have hrun : (execOp a.eval ⟨d, .call { callee := .value fo, args := xs, argTypes := ts }, ty, pos, af, g⟩).run P C.w = .ok (.enter f (fs ++ xs.map a.eval ++ cs)) C.w := by
    simp only [execOp, resolve, hv, Deferred.ofValue, Sem.run_bind, Sem.run_pure, Result.andThen_ok, invoke]
    exact run_callFunc hc _ _
  unfold Oper.wp
  rw [hrun]
  refine (h C (fs ++ xs.map a.eval ++ cs) ok hh (by rw [hsz, hargs]) (fun j x hj => hrv j x (by rw [hargs]; exact hj))).mono ?_
  rintro e w' ⟨C', v, r, H', rfl, rfl, ok', hh', hl, hnew, hrv', hR⟩
  exact hn C' v r H' hR ok' hl hnew hh' hrv'

theorem ACall.mono {f : FuncId} {args : List AV} {R R' : AV → Heap → Prop} (h : ACall P f args H R) (hR : ∀ r H', R r H' → R' r H') : ACall P f args H R' :=
  fun C vals ok hh hs hv => (h C vals ok hh hs hv).mono fun e w' ⟨C', v, r, H', h1, h2, h3, h4, h5, h6, h7, h8⟩ => ⟨C', v, r, H', h1, h2, h3, h4, h5, h6, h7, hR r H' h8⟩
theorem ACall.frame {f : FuncId} {args : List AV} {R : AV → Heap → Prop} (Hc : Heap) (h : ACall P f args H R) : ACall P f args (Hc ++ H) (fun r H' => ∃ Hv', H' = Hc ++ Hv' ∧ R r Hv') :=
  fun C vals ok hh hs hv => (h C vals ok hh.right hs hv).mono fun e w' ⟨C', v, r, Hv', h1, h2, h3, h4, h5, h6, h7, h8⟩ =>
    ⟨C', v, r, Hc ++ Hv', h1, h2, h3, hh.frame ok h5 h6 h4, h5.mono fun u hu => Heap.M_append.2 (.inr hu), fun u hu => by
      rcases Heap.M_append.1 hu with h9 | h9
      · exact .inl (Heap.M_append.2 (.inl h9))
      · rcases h6 u h9 with h10 | h10
        · exact .inl (Heap.M_append.2 (.inr h10))
        · exact .inr h10, h7, Hv', rfl, h8⟩
theorem ACall.perm {f : FuncId} {args : List AV} {R : AV → Heap → Prop} {H2 : Heap} (hp : H.Perm H2) (h : ACall P f args H2 R) : ACall P f args H R :=
  fun C vals ok hh hs hv => (h C vals ok (hh.perm hp) hs hv).mono fun e w' ⟨C', v, r, Hv', h1, h2, h3, h4, h5, h6, h7, h8⟩ =>
    ⟨C', v, r, Hv', h1, h2, h3, h4, h5.mono fun u hu => (Heap.M_perm hp).2 hu, fun u hu => (h6 u hu).imp (Heap.M_perm hp).2 id, h7, h8⟩
/-- What needs no object leaves all of them as they are. -/
theorem QCall.any {f : FuncId} {args : List AV} {r : AV} (H : Heap) (h : QCall P f args [] r) : QCall P f args H r :=
  (ACall.frame H h |>.perm (H := H) (by simp)).mono (by rintro r' H' ⟨Hv', rfl, rfl, rfl⟩; simp)

def slots : Nat → List AV → List (Nat × AV)
  | _, [] => []
  | i, x :: r => (i, x) :: slots (i + 1) r

theorem look_slots : ∀ (l : List AV) (i j : Nat), look (slots i l) j = if i ≤ j then (l[j - i]?).getD .any else .any
  | [], i, j => by simp [slots, look]
  | x :: l, i, j => by
    rw [slots, look_cons, look_slots l (i + 1) j]
    by_cases h : i = j
    · subst h; simp
    · have h1 : (i == j) = false := by simpa using h
      rw [h1]
      by_cases h2 : i ≤ j
      · rw [if_pos h2, if_pos (by omega)]
        obtain ⟨k, hk⟩ : ∃ k, j - i = k + 1 := ⟨j - i - 1, by omega⟩
        rw [hk, show j - (i + 1) = k by omega]
        simp
      · rw [if_neg h2, if_neg (by omega)]
        rfl

/-- What the result variables hold. -/
inductive ResOk (P : Program) (s : St) : ResultVar → AV → Prop where
  | tmp {t : Tmp} : ResOk P s (.tmp t) (look s.t t)
  | cell1 {a t u i off q size : Nat} {e : TypeId} {es : List (List AV)} {c : List AV} {x : AV} (ht : isAg P t = some false) (hp : look s.t a = .ptr u i off) (hq : s.H[q]? = some (u, .arr e size es)) (hi : es[i]? = some c)
      (hx : c[off]? = some x) : ResOk P s (.cell a t) x
  | cellA {a t u q size sz : Nat} {e : TypeId} {es : List (List AV)} {c : List AV} (ht : isAg P t = some true) (hsz : szOf P t = some sz) (hp : look s.t a = .ptr u 0 0) (hq : s.H[q]? = some (u, .arr e size es))
      (hi : es[0]? = some c) (hl : c.length = sz) : ResOk P s (.cell a t) (.agg c)
inductive ResAll (P : Program) (s : St) : List ResultVar → List AV → Prop where
  | nil : ResAll P s [] []
  | cons {v : ResultVar} {x : AV} {vs : List ResultVar} {xs : List AV} (h : ResOk P s v x) (r : ResAll P s vs xs) : ResAll P s (v :: vs) (x :: xs)
def retv : List AV → AV
  | [x] => x
  | xs => .tup xs

def readRes (a : Array Value) (v : ResultVar) : Sem Value :=
  match v with
  | .tmp t => pure (a.getD t undef)
  | .cell p t => do loadVar t (← asAddr (a.getD p undef))

theorem ResOk.run {s : St} {a : Act} (hr : Rel C s a) {v : ResultVar} {x : AV} (h : ResOk P s v x) : ∃ u, (readRes a.tmps v).run P C.w = .ok u C.w ∧ RV C x u := by
  cases h with
  | tmp => exact ⟨_, rfl, hr.t _⟩
  | cell1 ht hp hq hi hx =>
    rename_i p t u i off q size e es c
    have h1 := hr.t p
    rw [hp] at h1
    obtain ⟨a0, ha, hv⟩ := rv_ptr h1
    obtain ⟨a1, v, ha1, hsz, hc, hrv⟩ := ob_cell (hr.h.at hq) hi hx
    rw [ha] at ha1
    injection ha1 with ha1
    subst ha1
    refine ⟨v, ?_, hrv⟩
    simp only [readRes, hv, asAddr, Sem.run_bind, Sem.run_pure, Result.andThen_ok, hsz]
    exact run_loadVar_scalar ht hc
  | cellA ht hsz hp hq hi hl =>
    rename_i p t u q size sz e es c
    have h1 := hr.t p
    rw [hp] at h1
    obtain ⟨a0, ha, hv⟩ := rv_ptr h1
    have hall : ∀ j, j < sz → ∃ v, C.w.cell? (a0.add j) = some v ∧ RV C (c.getD j .any) v := fun j hj => by
      obtain ⟨a1, v, ha1, _, hc, hrv⟩ := ob_cell (hr.h.at hq) hi (List.getElem?_eq_getElem (show j < c.length by omega))
      rw [ha] at ha1
      injection ha1 with ha1
      subst ha1
      refine ⟨v, by simpa using hc, ?_⟩
      simp [List.getD_eq_getElem?_getD, List.getElem?_eq_getElem (show j < c.length by omega)]
      exact hrv
    obtain ⟨f, hf⟩ : ∃ f : Nat → Value, ∀ j, j < sz → C.w.cell? (a0.add j) = some (f j) ∧ RV C (c.getD j .any) (f j) := by
      refine ⟨fun j => if h : j < sz then Classical.choose (hall j h) else undef, fun j hj => ?_⟩
      simp only [dif_pos hj]
      exact Classical.choose_spec (hall j hj)
    refine ⟨.agg ((List.range sz).map f).toArray, ?_, .agg (by simp; omega) fun j x hx => ?_⟩
    · simp only [readRes, hv, asAddr, Sem.run_bind, Sem.run_pure, Result.andThen_ok]
      rw [show 0 * (C.ph u).size + 0 = 0 by omega, add_zero]
      exact run_loadVar_agg ht hsz (fun j hj => (hf j hj).1)
    · have hj : j < sz := by rw [← hl]; exact (List.getElem?_eq_some_iff.1 hx).1
      have := (hf j hj).2
      rw [List.getD_eq_getElem?_getD, hx] at this
      simpa [hj] using this

theorem run_mapM_list {α β : Type} (f : α → Sem β) {w : World} : ∀ (l : List α) (us : List β), l.length = us.length → (∀ (i : Nat) (x : α) (u : β), l[i]? = some x → us[i]? = some u → (f x).run P w = .ok u w) → (l.mapM f).run P w = .ok us w
  | [], [], _, _ => by simp
  | [], _ :: _, h, _ => by cases h
  | _ :: _, [], h, _ => by cases h
  | x :: l, u :: us, h, hf => by
    have h1 := hf 0 x u rfl rfl
    have h2 := run_mapM_list f l us (by simpa using h) (fun i x u hx hu => hf (i + 1) x u (by simpa using hx) (by simpa using hu))
    simp [List.mapM_cons, h1, h2]

theorem ResAll.run {s : St} {a : Act} (hr : Rel C s a) {vs : List ResultVar} {xs : List AV} (h : ResAll P s vs xs) : ∃ us : List Value, us.length = vs.length ∧ xs.length = vs.length ∧
    (∀ (i : Nat) (x : ResultVar) (u : Value), vs[i]? = some x → us[i]? = some u → (readRes a.tmps x).run P C.w = .ok u C.w) ∧ ∀ (i : Nat) (x : AV) (u : Value), xs[i]? = some x → us[i]? = some u → RV C x u := by
  induction h with
  | nil => exact ⟨[], rfl, rfl, by simp, by simp⟩
  | cons h r ih =>
    obtain ⟨us, h1, h2, h3, h4⟩ := ih
    obtain ⟨u, h5, h6⟩ := h.run hr
    refine ⟨u :: us, by simp [h1], by simp [h2], fun i x u' hx hu => ?_, fun i x u' hx hu => ?_⟩
    · cases i with
      | zero => simp at hx hu; subst hx; subst hu; exact h5
      | succ i => exact h3 i x u' (by simpa using hx) (by simpa using hu)
    · cases i with
      | zero => simp at hx hu; subst hx; subst hu; exact h6
      | succ i => exact h4 i x u' (by simpa using hx) (by simpa using hu)

theorem results_of {fn : Func} {s : St} {a : Act} (hr : Rel C s a) {rs : List AV} (h : ResAll P s fn.results.toList rs) : ∃ v, (results fn a.tmps).run P C.w = .ok v C.w ∧ RV C (retv rs) v := by
  obtain ⟨us, h1, h2, h3, h4⟩ := h.run hr
  have hm : (fn.results.mapM (fun v => readRes a.tmps v)).run P C.w = .ok us.toArray C.w := by
    rw [Array.mapM_eq_mapM_toList]
    have := run_mapM_list (P := P) (fun v => readRes a.tmps v) (w := C.w) fn.results.toList us h1.symm h3
    simp [this]
  have hres : (results fn a.tmps).run P C.w = .ok (if h : us.toArray.size = 1 then us.toArray[0] else .tuple us.toArray) C.w := by
    have : results fn a.tmps = (do
        let vs ← fn.results.mapM (fun v => readRes a.tmps v)
        pure (if h : vs.size = 1 then vs[0] else .tuple vs)) := by
      unfold results
      congr 1
    rw [this]
    simp only [Sem.run_bind, hm, Result.andThen_ok, Sem.run_pure]
  refine ⟨_, hres, ?_⟩
  by_cases hl : us.length = 1
  · obtain ⟨u, rfl⟩ : ∃ u, us = [u] := List.length_eq_one_iff.1 hl
    obtain ⟨x, rfl⟩ : ∃ x, rs = [x] := List.length_eq_one_iff.1 (by rw [h2, ← h1]; rfl)
    exact h4 0 x u rfl rfl
  · have hrs : rs.length ≠ 1 := by omega
    have : retv rs = .tup rs := by
      unfold retv
      split
      · simp at hrs
      · rfl
    rw [this, dif_neg (by simpa using hl)]
    refine .tup (by simp; omega) fun j x hx => ?_
    have hj : j < us.length := by rw [h1, ← h2]; exact (List.getElem?_eq_some_iff.1 hx).1
    have := h4 j x us[j] hx (List.getElem?_eq_getElem hj)
    simpa [hj] using this

/-- What must hold where a body ends. -/
def RetQ (P : Program) (rvs : List ResultVar) (R : AV → Heap → Prop) : Exit → St → Prop := fun e s => (e = .normal ∨ e = .ret) ∧ ∃ rs H', ResAll P s rvs rs ∧ H'.Sublist s.H ∧ R (retv rs) H'

theorem acall_intro {f : FuncId} {fn : Func} {c : Code} {rvs : List ResultVar} {args : List AV} {R : AV → Heap → Prop} (hf : P.funcs[f]? = some fn) (hb : fn.body = some c) (hrv : fn.results.toList = rvs) {n : Nat} (hn : fn.ntmps = n) (hle : args.length ≤ n)
    (h : AWP P c (RetQ P rvs R) ⟨slots 0 args, n, H⟩) : ACall P f args H R := by
  intro C vals ok hh hs hv
  refine calls_of_wp hf hb (Code.wp_mono ?_ (h C { tmps := vals ++ Array.replicate (fn.ntmps - vals.size) undef, defers := [] } ⟨ok, hh, by simp; omega, fun i => ?_, rfl⟩))
  · rintro e a w ⟨C', s', rfl, hr, hl, hnew, he, rs, H', hres, hsub, hR⟩
    obtain ⟨v, hrun, hrvv⟩ := results_of (fn := fn) hr (by rw [hrv]; exact hres)
    have post : ∃ (C'' : Cx) (v' : Value) (r : AV) (H'' : Heap), Ending.returned v = .returned v' ∧ C''.w = C'.w ∧ C''.Ok ∧ HRel C'' H'' ∧ Le H.M C C'' ∧ New C H H'' ∧ RV C'' r v' ∧ R r H'' :=
      ⟨C', v, _, H', rfl, rfl, hr.ok, (hr.sub (s2 := ⟨s'.t, s'.n, H'⟩) ⟨rfl, fun i => .inr rfl, hsub⟩).h, hl, fun u hu => hnew u ((hsub.map (·.1)).subset hu), hrvv, hR⟩
    rcases he with rfl | rfl
    · exact ⟨hr.d, v, hrun, post⟩
    · exact ⟨hr.d, v, hrun, post⟩
  · rw [look_slots]
    simp only [Nat.zero_le, if_true, Nat.sub_zero]
    cases hx : args[i]? with
    | none => exact .any
    | some x =>
      have hi : i < vals.size := by rw [hs]; exact (List.getElem?_eq_some_iff.1 hx).1
      have := hv i x hx
      rw [Array.getD_eq_getD_getElem?] at this ⊢
      rw [Array.getElem?_append_left hi]
      exact this
end

end Go.Proofs.YtdlinfekifnmkaaAm
