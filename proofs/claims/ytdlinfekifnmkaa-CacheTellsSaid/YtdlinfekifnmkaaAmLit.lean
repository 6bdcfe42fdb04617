/- The abstract machine of these proofs, part 8: composite literals, make, append, closures. Conditions: none. -/
import Derived.Test.YtdlinfekifnmkaaAmMore
import Derived.Laws.Append
import Derived.Laws.OwnMore
import Derived.Laws.MakeOwn
set_option linter.unusedVariables false
set_option linter.unusedSimpArgs false
namespace Go.Proofs.YtdlinfekifnmkaaAm

def cap24 : Nat := 16777216
theorem cap24_eq : cap24 = 16777216 := rfl

theorem foldl_get (off : Nat) : ∀ (l : List Value) (s : Nat) (cs : Array Value) (k : Nat),
    ((l.zipIdx s).foldl (fun (cs : Array Value) (p : Value × Nat) => cs.setIfInBounds (off + p.2) p.1) cs)[k]? = if off + s ≤ k ∧ k < off + s + l.length ∧ k < cs.size then l[k - (off + s)]? else cs[k]?
  | [], s, cs, k => by
    simp only [List.zipIdx_nil, List.foldl_nil, List.length_nil]
    rw [if_neg (by omega)]
  | v :: l, s, cs, k => by
    simp only [List.zipIdx_cons, List.foldl_cons]
    rw [foldl_get off l (s + 1)]
    simp only [Array.size_setIfInBounds, List.length_cons]
    by_cases h1 : off + (s + 1) ≤ k ∧ k < off + (s + 1) + l.length ∧ k < cs.size
    · rw [if_pos h1, if_pos (by omega)]
      obtain ⟨m, hm⟩ : ∃ m, k - (off + s) = m + 1 := ⟨k - (off + s) - 1, by omega⟩
      rw [hm, show k - (off + (s + 1)) = m by omega]
      simp
    · rw [if_neg h1]
      by_cases h2 : k = off + s
      · subst h2
        by_cases h3 : off + s < cs.size
        · rw [if_pos (by omega)]
          simp [h3]
        · rw [if_neg (by omega)]
          simp [Array.getElem?_setIfInBounds, h3]
      · rw [if_neg (by omega), Array.getElem?_setIfInBounds_ne (by omega)]

theorem foldl_splice {vs cells : Array Value} {off : Nat} (h : off + vs.size ≤ cells.size) :
    vs.zipIdx.foldl (fun (cs : Array Value) (p : Value × Nat) => cs.setIfInBounds (off + p.2) p.1) cells = (cells.toList.take off ++ vs.toList ++ cells.toList.drop (off + vs.size)).toArray := by
  apply Array.ext_getElem?
  intro k
  rw [← Array.foldl_toList, Array.toList_zipIdx, foldl_get]
  simp only [Nat.add_zero, Array.length_toList, List.getElem?_toArray]
  have hl : (cells.toList.take off).length = off := by simp; omega
  by_cases h1 : off ≤ k ∧ k < off + vs.size ∧ k < cells.size
  · rw [if_pos h1, List.append_assoc, List.getElem?_append_right (by omega), hl, List.getElem?_append_left (by simp; omega)]
  · rw [if_neg h1]
    by_cases h2 : k < off
    · rw [List.append_assoc, List.getElem?_append_left (by omega), List.getElem?_take_of_lt h2]
      simp
    · rw [List.getElem?_append_right (by simp; omega), List.getElem?_drop]
      simp only [List.length_append, hl, Array.length_toList]
      rw [show off + vs.size + (k - (off + vs.size)) = if k < off + vs.size then off + vs.size else k by split <;> omega]
      by_cases h3 : k < off + vs.size
      · have : ¬ k < cells.size := by omega
        omega
      · rw [if_neg h3]; simp

/-- Parts are filled in. -/
inductive BD (ev : Operand → AV) (pl : List (Nat × Nat)) : List AV → List (Nat × Operand) → List AV → Prop where
  | nil {cs : List AV} : BD ev pl cs [] cs
  | cons {cs xs cs2 out : List AV} {i off sz : Nat} {x : Operand} {r : List (Nat × Operand)} (hp : pl[i]? = some (off, sz)) (hx : NC (ev x) xs) (hok : xs.all cell1 = true) (hl : xs.length = sz) (hle : off + sz ≤ cs.length)
      (hc : NL (cs.take off ++ xs ++ cs.drop (off + xs.length)) cs2) (hr : BD ev pl cs2 r out) : BD ev pl cs ((i, x) :: r) out

section
variable {P : Program} {ops : Array Oper} {Q : Exit → St → Prop} {l : List Oper} {t : List (Nat × AV)} {n : Nat} {H : Heap} {i : Nat} {op : Op} {ty : TypeId} {pos : String} {af : Array Edge} {g : Option (Nat × Bool)}
variable {d : Option Tmp} {ev : Operand → AV}

theorem fill_bd {C : Cx} {a : Act} {place : Nat → Option (Nat × Nat)} {pl : List (Nat × Nat)} (hpl : ∀ i p, pl[i]? = some p → place i = some p) {cs out : List AV} {ps : List (Nat × Operand)} (h : BD ev pl cs ps out) :
    ∀ (cur : Array Value), (∀ x, x ∈ ps.map (·.2) → RV C (ev x) (a.eval x)) → cur.size = cs.length → Bears C cur 0 cs.length [cs] →
      ∃ cur', Instr.fill place cur (ps.map fun p => (p.1, a.eval p.2)) = some cur' ∧ cur'.size = out.length ∧ Bears C cur' 0 out.length [out] := by
  induction h with
  | nil => exact fun cur _ hs hb => ⟨cur, rfl, hs, hb⟩
  | cons hp hx hok hl hle hc hr ih =>
    rename_i cs xs cs2 out i off sz x r
    intro cur hev hs hb
    obtain ⟨hvs, hone, hrv⟩ := rv_cells (hev x (by simp)) (by rw [hx.eq]; exact hok)
    rw [hx.eq] at hvs hrv
    have hsz : (a.eval x).cells.size = sz := by omega
    have hb2 := bears_set (C := C) (C' := C) (Le.refl (fun _ => False) C) (o := 0) (i := 0) (off := off) (vs := (a.eval x).cells.toList) hb (by simp) (c := cs) rfl (xs := xs) (by simpa using hvs) (by omega) (by simp; omega)
      (fun j y hj => by obtain ⟨u, h1, h2⟩ := hrv j y hj; exact ⟨u, by simpa using h1, h2⟩)
    have hcl : cs2.length = cs.length := by rw [← hc.eq]; simp; omega
    simp only [Nat.zero_mul, Nat.zero_add, List.set_cons_zero, Array.length_toList] at hb2
    rw [hc.eq] at hb2
    obtain ⟨cur', h3, h4, h5⟩ := ih ((cur.toList.take off ++ (a.eval x).cells.toList ++ cur.toList.drop (off + (a.eval x).cells.size)).toArray) (fun y hy => hev y (by simp [hy]))
      (by simp; omega) (by rw [hcl]; exact hb2)
    refine ⟨cur', ?_, h4, h5⟩
    rw [List.map_cons, Instr.fill, hpl i _ hp]
    simp only
    rw [if_neg (by simp; omega), foldl_splice (by omega)]
    exact h3

theorem mem_ops {ps : Array (Nat × Operand)} {x : Operand} (h : x ∈ ps.toList.map (·.2)) : x ∈ (ps.toList.map (·.2)).toArray := by simpa using h

theorem run_places {fs : Array Field} {pl : List (Nat × Nat)} (h : (fs.toList.mapM fun f => (szOf P f.type).map fun s => (f.offset, s)) = some pl) (w : World) :
    (fs.mapM fun f => do pure (f.offset, ← sizeOf f.type) : Sem (Array (Nat × Nat))).run P w = .ok pl.toArray w := by
  rw [Array.mapM_eq_mapM_toList]
  have key : ∀ (l : List Field) (pl : List (Nat × Nat)), (l.mapM fun f => (szOf P f.type).map fun s => (f.offset, s)) = some pl →
      (l.mapM fun f => (do pure (f.offset, ← sizeOf f.type) : Sem (Nat × Nat))).run P w = .ok pl w := by
    intro l
    induction l with
    | nil => intro pl h; simp at h; subst h; simp
    | cons f l ih =>
      intro pl h
      rw [List.mapM_cons] at h
      simp only [Option.bind_eq_bind, Option.bind_eq_some_iff, Option.map_eq_some_iff, Option.pure_def, Option.some.injEq] at h
      obtain ⟨p, ⟨s, hs, rfl⟩, pl2, h2, rfl⟩ := h
      rw [List.mapM_cons]
      simp only [Sem.run_bind, run_szOf hs, Result.andThen_ok, ih pl2 h2, Sem.run_pure]
  rw [Sem.run_map, key _ _ h]
  rfl

theorem q_bd {tt : TypeId} {ps : Array (Nat × Operand)} {pl : List (Nat × Nat)} {zs : List Value} {cs0 cs : List AV} (hpl : plOf P tt = some pl) (hz : zeroOf P tt = some zs) (h0 : NL (zs.map .lit) cs0) (h : BD ev pl cs0 ps.toList cs) :
    QOp P ⟨d, .build tt ps, ty, pos, af, g⟩ ev H (.agg cs) :=
  qop_same (s := fun ρ => Instr.build tt (ps.map fun (i, x) => (i, ρ x))) (fun ρ => rfl) fun C a ok hh he => by
    obtain ⟨z, hz1, hz2⟩ := run_zeroOf hz C.w
    have hev : ∀ x, x ∈ ps.toList.map (·.2) → RV C (ev x) (a.eval x) := fun x hx => he x (mem_ops hx)
    have hcs0 := h0.eq
    have hsz : z.cells.size = cs0.length := by rw [← hcs0, ← hz2]; simp
    have hb0 : Bears C z.cells 0 cs0.length [cs0] := fun i e hi j x hj => by
      match i, hi with
      | 0, hi =>
        simp at hi
        subst hi
        rw [← hcs0, List.getElem?_map, Option.map_eq_some_iff] at hj
        obtain ⟨v, hv, rfl⟩ := hj
        exact ⟨v, by rw [← hz2] at hv; simpa using hv, .lit⟩
    unfold plOf at hpl
    cases hu : P.underlying tt with
    | none => simp [hu] at hpl
    | some dd =>
      cases dd <;> simp [hu] at hpl
      case struct fs =>
        obtain ⟨cur', h3, h4, h5⟩ := fill_bd (place := (pl.toArray[·]?)) (fun i p hp => by simpa using hp) h z.cells hev hsz hb0
        refine ⟨.agg cur', ?_, .agg h4 fun j x hj => ?_⟩
        · have hfill : Instr.fill (pl.toArray[·]?) z.cells (ps.map fun (i, x) => (i, a.eval x)).toList = some cur' := by
            rw [Array.toList_map]; exact h3
          unfold Instr.build
          simp only [Sem.run_bind, hz1, Result.andThen_ok, run_under hu, run_places hpl, hfill, Sem.run_pure]
        · obtain ⟨v, h6, h7⟩ := h5 0 cs rfl j x hj
          have h6 : cur'[j]? = some v := by simpa using h6
          rw [Array.getD_eq_getD_getElem?, h6]
          exact h7
      case array nn e =>
        obtain ⟨s, hs, rfl⟩ := hpl
        obtain ⟨cur', h3, h4, h5⟩ := fill_bd (place := fun i => some (i * s, s)) (fun i p hp => by
          simp only [List.getElem?_map, Option.map_eq_some_iff] at hp
          obtain ⟨k, hk, rfl⟩ := hp
          have := (List.getElem?_eq_some_iff.1 hk).2
          simp at this
          rw [this]) h z.cells hev hsz hb0
        refine ⟨.agg cur', ?_, .agg h4 fun j x hj => ?_⟩
        · have hfill : Instr.fill (fun i => some (i * s, s)) z.cells (ps.map fun (i, x) => (i, a.eval x)).toList = some cur' := by
            rw [Array.toList_map]; exact h3
          unfold Instr.build
          simp only [Sem.run_bind, hz1, Result.andThen_ok, run_under hu, run_szOf hs, hfill, Sem.run_pure]
        · obtain ⟨v, h6, h7⟩ := h5 0 cs rfl j x hj
          have h6 : cur'[j]? = some v := by simpa using h6
          rw [Array.getD_eq_getD_getElem?, h6]
          exact h7

/-- A slice literal's elements are filled in. -/
inductive BS (ev : Operand → AV) (sz : Nat) : List (List AV) → List (Nat × Operand) → List (List AV) → Prop where
  | nil {es : List (List AV)} : BS ev sz es [] es
  | cons {es es2 out : List (List AV)} {xs : List AV} {i : Nat} {x : Operand} {r : List (Nat × Operand)} (hx : NC (ev x) xs) (hok : xs.all cell1 = true) (hl : xs.length = sz) (hi : Nat.blt i es.length = true)
      (hc : NL (es.set i xs) es2) (hr : BS ev sz es2 r out) : BS ev sz es ((i, x) :: r) out

theorem fill_bs {C : Cx} {a : Act} {sz : Nat} {es out : List (List AV)} {ps : List (Nat × Operand)} (h : BS ev sz es ps out) :
    ∀ (cur : Array Value), (∀ x, x ∈ ps.map (·.2) → RV C (ev x) (a.eval x)) → cur.size = es.length * sz → (∀ e ∈ es, e.length = sz) → Bears C cur 0 sz es →
      ∃ cur', Instr.fill (fun i => some (i * sz, sz)) cur (ps.map fun p => (p.1, a.eval p.2)) = some cur' ∧ cur'.size = out.length * sz ∧ out.length = es.length ∧ (∀ e ∈ out, e.length = sz) ∧ Bears C cur' 0 sz out := by
  induction h with
  | nil => exact fun cur _ hs hsz hb => ⟨cur, rfl, hs, rfl, hsz, hb⟩
  | cons hx hok hl hi hc hr ih =>
    rename_i es es2 out xs i x r
    intro cur hev hs hsz hb
    obtain ⟨hvs, hone, hrv⟩ := rv_cells (hev x (by simp)) (by rw [hx.eq]; exact hok)
    rw [hx.eq] at hvs hrv
    have hil : i < es.length := Nat.le_of_ble_eq_true hi
    have hvsz : (a.eval x).cells.size = sz := by omega
    have hcap : (i + 1) * sz ≤ es.length * sz := Nat.mul_le_mul_right _ hil
    rw [Nat.add_mul] at hcap
    obtain ⟨c, hc1⟩ : ∃ c, es[i]? = some c := ⟨es[i], List.getElem?_eq_getElem hil⟩
    have hcl := hsz c (List.mem_of_getElem? hc1)
    have hb2 := bears_set (C := C) (C' := C) (Le.refl (fun _ => False) C) (o := 0) (i := i) (off := 0) (vs := (a.eval x).cells.toList) hb hsz hc1 (xs := xs) (by simpa using hvs) (by omega) (by simp; omega)
      (fun j y hj => by obtain ⟨u, h1, h2⟩ := hrv j y hj; exact ⟨u, by simpa using h1, h2⟩)
    have hxs : c.take 0 ++ xs ++ c.drop (0 + xs.length) = xs := by simp; omega
    rw [hxs, hc.eq] at hb2
    simp only [Nat.zero_add, Nat.add_zero, Array.length_toList] at hb2
    have hlen2 : es2.length = es.length := by rw [← hc.eq]; simp
    obtain ⟨cur', h3, h4, h5, h6, h7⟩ := ih ((cur.toList.take (i * sz) ++ (a.eval x).cells.toList ++ cur.toList.drop (i * sz + (a.eval x).cells.size)).toArray) (fun y hy => hev y (by simp [hy]))
      (by rw [hlen2]; simp; omega) (fun e he => by
        rw [← hc.eq] at he
        rcases List.mem_or_eq_of_mem_set he with h | h
        · exact hsz e h
        · rw [h]; omega) hb2
    refine ⟨cur', ?_, h4, by omega, h6, h7⟩
    rw [List.map_cons, Instr.fill]
    simp only
    rw [if_neg (by simp; omega), foldl_splice (by omega)]
    exact h3

theorem exec_bs {ρ : Operand → Value} {tt : TypeId} {len : Nat} {ps : Array (Nat × Operand)} : execOp ρ ⟨d, .buildSlice tt len ps, ty, pos, af, g⟩ = (do pure (Next.value (← Instr.buildSlice tt len (ps.map fun (i, x) => (i, ρ x))))) := rfl

theorem run_buildSlice {C : Cx} {a : Act} {tt e : TypeId} {len sz : Nat} {ps : Array (Nat × Operand)} {zs : List Value} {cs0 : List AV} {es : List (List AV)} (ht : P.underlying tt = some (.slice e)) (hsz : szOf P e = some sz) (hz : zeroOf P e = some zs) (hzl : zs.length = sz)
    (h0 : NL (zs.map .lit) cs0) (hlen : Nat.ble (len * sz) cap24 = true) (hsz0 : 0 < sz) (h : BS ev sz (List.replicate len cs0) ps.toList es) (hev : ∀ x, x ∈ ps.toList.map (·.2) → RV C (ev x) (a.eval x)) :
    ∃ cur, (Instr.buildSlice tt len (ps.map fun (i, x) => (i, a.eval x))).run P C.w = .ok (.slice (some ⟨C.w.heap.size, 0, none⟩) len len) (C.w.alloc (.cells cur e)) ∧ cur.size = len * sz ∧ es.length = len ∧ (∀ x ∈ es, x.length = sz) ∧ Bears C cur 0 sz es := by
  obtain ⟨z, hz1, hz2⟩ := run_zeroOf hz C.w
  have hcs0 := h0.eq
  have hcl : cs0.length = sz := by rw [← hcs0]; simpa using hzl
  have hzs : z.cells.size = sz := by rw [← Array.length_toList, hz2]; exact hzl
  have hle : len * sz ≤ 16777216 := by
      have h9 := Nat.le_of_ble_eq_true hlen
      rw [cap24_eq] at h9
      exact h9
  let cur0 : Array Value := (Array.range (len * sz)).map fun k => (if len * sz = 0 then #[] else z.cells)[k % (if len * sz = 0 then #[] else z.cells).size]!
  have hs0 : cur0.size = (List.replicate len cs0).length * sz := by simp [cur0]
  have hb0 : Bears C cur0 0 sz (List.replicate len cs0) := fun i x hi j y hj => by
    have hil : i < len := by
      have := (List.getElem?_eq_some_iff.1 hi).1
      simpa using this
    have hx : x = cs0 := by
      have := (List.getElem?_eq_some_iff.1 hi).2
      simpa using this.symm
    subst hx
    have hjl : j < sz := by rw [← hcl]; exact (List.getElem?_eq_some_iff.1 hj).1
    have hcap : (i + 1) * sz ≤ len * sz := Nat.mul_le_mul_right _ hil
    rw [Nat.add_mul] at hcap
    have hne : ¬ len * sz = 0 := by omega
    rw [← hcs0, List.getElem?_map, Option.map_eq_some_iff] at hj
    obtain ⟨v, hv, rfl⟩ := hj
    refine ⟨v, ?_, .lit⟩
    have hlt : 0 + i * sz + j < len * sz := by omega
    have hmod : (0 + i * sz + j) % sz = j := by rw [Nat.zero_add, Nat.mul_comm, Nat.mul_add_mod, Nat.mod_eq_of_lt hjl]
    have hv' : z.cells[j]? = some v := by rw [← hz2] at hv; simpa using hv
    simp only [cur0, if_neg hne, Array.getElem?_map, hzs]
    rw [Array.getElem?_range, if_pos hlt]
    simp only [Option.map_some, hmod]
    rw [getElem!_pos z.cells j (by omega)]
    have := (Array.getElem?_eq_some_iff.1 hv').2
    rw [this]
  obtain ⟨cur', h3, h4, h5, h6, h7⟩ := fill_bs h cur0 hev hs0 (fun x hx => by rw [List.eq_of_mem_replicate hx]; exact hcl) hb0
  have hl : es.length = len := by rw [h5]; simp
  refine ⟨cur', ?_, by rw [h4, hl], hl, h6, h7⟩
  have hfill : Instr.fill (fun i => some (i * sz, sz)) cur0 (ps.map fun (i, x) => (i, a.eval x)).toList = some cur' := by
    rw [Array.toList_map]; exact h3
  unfold Instr.buildSlice
  have hnot : ¬ len * sz > 16777216 := by omega
  simp only [Sem.run_bind, run_under ht, Result.andThen_ok, run_szOf hsz, Nat.reducePow, if_neg hnot, Sem.run_pure]
  by_cases hz0 : len * sz = 0
  · simp only [if_pos hz0, Sem.run_bind, Sem.run_pure, Result.andThen_ok]
    have : cur0 = (Array.range (len * sz)).map (fun k => (#[] : Array Value)[k % (#[] : Array Value).size]!) := by simp [cur0, hz0]
    rw [← this, hfill]
    simp [newRow]
  · simp only [if_neg hz0, Sem.run_bind, hz1, Sem.run_pure, Result.andThen_ok]
    have : cur0 = (Array.range (len * sz)).map (fun k => z.cells[k % z.cells.size]!) := by simp [cur0, hz0]
    rw [← this, hfill]
    simp [newRow]

/-- A slice literal that is only read. -/
theorem q_bs {tt e : TypeId} {len sz : Nat} {ps : Array (Nat × Operand)} {zs : List Value} {cs0 : List AV} {es : List (List AV)} (ht : P.underlying tt = some (.slice e)) (hsz : szOf P e = some sz) (hz : zeroOf P e = some zs) (hzl : zs.length = sz)
    (h0 : NL (zs.map .lit) cs0) (hlen : Nat.ble (len * sz) cap24 = true) (hsz0 : 0 < sz) (h : BS ev sz (List.replicate len cs0) ps.toList es) : QOp P ⟨d, .buildSlice tt len ps, ty, pos, af, g⟩ ev H (.cro es) :=
  qop_of fun C a ok hh he => by
    have hle : len * sz ≤ 16777216 := by
      have h9 := Nat.le_of_ble_eq_true hlen
      rw [cap24_eq] at h9
      exact h9
    obtain ⟨cur, h1, h2, h3, h4, h5⟩ := run_buildSlice (C := C) (a := a) ht hsz hz hzl h0 hlen hsz0 h (fun x hx => he x (mem_ops hx))
    have hlen' : len ≤ maxLen := by
      have : len * 1 ≤ len * sz := Nat.mul_le_mul_left _ hsz0
      simp only [maxLen]; omega
    have hex : ∀ i j, ∃ v, ∀ x y, es[i]? = some x → x[j]? = some y → cur[i * sz + j]? = some v ∧ RV (C.grow (.cells cur e)) y v := fun i j => by
      by_cases hx : ∃ x y, es[i]? = some x ∧ x[j]? = some y
      · obtain ⟨x, y, hx, hy⟩ := hx
        obtain ⟨v, h6, h7⟩ := h5 i x hx j y hy
        refine ⟨v, fun x' y' hx' hy' => ?_⟩
        rw [hx] at hx'
        injection hx' with hx'
        subst hx'
        rw [hy] at hy'
        injection hy' with hy'
        subst hy'
        exact ⟨by simpa using h6, h7.le (grow_le (fun _ => False) _)⟩
      · exact ⟨undef, fun x y h6 h7 => absurd ⟨x, y, h6, h7⟩ hx⟩
    have hro : RV (C.grow (.cells cur e)) (.ro es) (.slice (some ⟨C.w.heap.size, 0, none⟩) len len) := by
      refine .ro (size := sz) (fun i j => Classical.choose (hex i j)) h3.symm (Nat.le_refl _) hlen' h4 (fun i x hx j y hy => ?_) (fun i x hx j y hy => ?_)
      · have h6 := (Classical.choose_spec (hex i j) x y hx hy).1
        refine ⟨_, rfl, grow_U ok _, ?_⟩
        rw [add_plain, Nat.zero_add]
        exact (cell_of_row (C.w.alloc (.cells cur e)) C.w.heap.size _ cur e (0, 0) (heap_alloc_new _ _)).trans h6
      · exact (Classical.choose_spec (hex i j) x y hx hy).2
    have hrun : (execOp a.eval ⟨d, .buildSlice tt len ps, ty, pos, af, g⟩).run P C.w = .ok (.value (.slice (some ⟨C.w.heap.size, 0, none⟩) len len)) (C.w.alloc (.cells cur e)) :=
      exec_v exec_bs h1
    exact ⟨C.grow (.cells cur e), _, hrun, grow_ok ok _, grow_le _ _, .cro _ rfl hro⟩

/-- A new row of the call's own. -/
theorem obrel_row {C : Cx} {cur : Array Value} {e : TypeId} {sz cap : Nat} {es : List (List AV)} (hcap : es.length ≤ cap) (hm : cap ≤ maxLen) (h4 : ∀ x ∈ es, x.length = sz) (hs : cap * sz ≤ cur.size) (h5 : Bears C cur 0 sz es) :
    ObRel (C.add (.cells cur e) ⟨some ⟨C.w.heap.size, 0, none⟩, cap, sz⟩) C.gen (.arr e sz es) := by
  refine ⟨by simp [Cx.add], by simp [Cx.add], by simpa [Cx.add] using hcap, by simpa [Cx.add] using hm, h4, .inr ⟨C.w.heap.size, 0, cur, by simp [Cx.add], heap_alloc_new _ _, by simp [Cx.add], by simpa [Cx.add] using hs, ?_⟩⟩
  intro i x hx j y hy
  obtain ⟨v, h6, h7⟩ := h5 i x hx j y hy
  exact ⟨v, h6, h7.le (add_le (fun _ => False) _ _)⟩
theorem sl_new {C : Cx} {cur : Array Value} {e : TypeId} {sz cap m : Nat} (hm : m ≤ cap) : RV (C.add (.cells cur e) ⟨some ⟨C.w.heap.size, 0, none⟩, cap, sz⟩) (.sl C.gen 0 m) (.slice (some ⟨C.w.heap.size, 0, none⟩) m cap) := by
  refine .sl (by simp [Cx.add]) (Nat.zero_le _) (by simpa [Cx.add] using hm) (fun _ => ?_) (by simp) (by simp [Cx.add])
  simp [Cx.add, add_zero]

/-- A slice literal of the call's own. -/
theorem e_bs {tt e : TypeId} {len sz : Nat} {ps : Array (Nat × Operand)} {zs : List Value} {cs0 : List AV} {es : List (List AV)} (ht : P.underlying tt = some (.slice e)) (hsz : szOf P e = some sz) (hz : zeroOf P e = some zs) (hzl : zs.length = sz)
    (h0 : NL (zs.map .lit) cs0) (hlen : Nat.ble (len * sz) cap24 = true) (hsz0 : 0 < sz) (h : BS ev sz (List.replicate len cs0) ps.toList es) : EOp P ⟨d, .buildSlice tt len ps, ty, pos, af, g⟩ ev H (fun r H' => ∃ u, r = .sl u 0 len ∧ H' = (u, .arr e sz es) :: H) :=
  eop_of fun C a ok hh he => by
    have hle : len * sz ≤ 16777216 := by
      have h9 := Nat.le_of_ble_eq_true hlen
      rw [cap24_eq] at h9
      exact h9
    obtain ⟨cur, h1, h2, h3, h4, h5⟩ := run_buildSlice (C := C) (a := a) ht hsz hz hzl h0 hlen hsz0 h (fun x hx => he x (mem_ops hx))
    have hlen' : len ≤ maxLen := by
      have : len * 1 ≤ len * sz := Nat.mul_le_mul_left _ hsz0
      simp only [maxLen]; omega
    have hrun : (execOp a.eval ⟨d, .buildSlice tt len ps, ty, pos, af, g⟩).run P C.w = .ok (.value (.slice (some ⟨C.w.heap.size, 0, none⟩) len len)) (C.w.alloc (.cells cur e)) :=
      exec_v exec_bs h1
    have hob := add_rel ok hh (obrel_row (e := e) (cap := len) (Nat.le_of_eq h3) hlen' h4 (Nat.le_of_eq h2.symm) h5)
    exact ⟨_, _, .sl C.gen 0 len, _, hrun, ⟨C.gen, rfl, rfl⟩, add_ok ok _ _, add_le _ _ _, add_new _, hob, sl_new (Nat.le_refl _)⟩

/-- make([]T, n). -/
theorem e_ms {tt e : TypeId} {x y : Operand} {sz by_ : Nat} {zs : List Value} {cs0 : List AV} {kl kc : IntKind} {m k : Int} (ht : P.underlying tt = some (.slice e)) (hsz : szOf P e = some sz) (hz : zeroOf P e = some zs) (hby : byOf P e = some by_)
    (hx : ev x = .lit (.int kl m)) (hy : ev y = .lit (.int kc k)) (hmk : m = k) (h0 : NL (zs.map .lit) cs0) (hzl : zs.length = sz) (hm0 : 0 ≤ m) (hb : (by_ : Int) * m ≤ 281474976710656) (hm1 : m ≤ 9223372036854775807) :
    EOp P ⟨d, .makeSlice tt x y, ty, pos, af, g⟩ ev H (fun r H' => ∃ u, r = .sl u 0 m.toNat ∧ H' = (u, .arr e sz (List.replicate m.toNat cs0)) :: H) :=
  eop_of fun C a ok hh he => by
    subst hmk
    have h2 := he x (by simp [Op.operands])
    have h3 := he y (by simp [Op.operands])
    rw [hx] at h2
    rw [hy] at h3
    obtain ⟨q, rfl⟩ := Int.eq_ofNat_of_zero_le hm0
    unfold byOf at hby
    unfold szOf at hsz
    unfold zeroOf at hz
    cases hi : P.info? e with
    | none => simp [hi] at hsz
    | some i =>
      simp only [hi, Option.map_some, Option.some.injEq, Option.bind_some, Option.map_eq_some_iff] at hby hsz hz
      obtain ⟨z, hz1, hz2⟩ := hz
      have hq63 : q ≤ maxLen := by
        have h9 : (q : Int) ≤ 9223372036854775807 := hm1
        simp only [maxLen]
        omega
      have hzs : z.cells.size = sz := by rw [← Array.length_toList, hz2]; exact hzl
      have hcs0 := h0.eq
      have hcl : cs0.length = sz := by rw [← hcs0]; simpa using hzl
      have hmake := run_make (P := P) C.w tt e i z ht hi hz1 kl kc (q : Int) (q : Int) (by omega) (Int.le_refl _) (by rw [hby]; exact hb) hm1
      simp only [Int.toNat_natCast] at hmake ⊢
      have hrun : (execOp a.eval ⟨d, .makeSlice tt x y, ty, pos, af, g⟩).run P C.w = .ok (.value (.slice (some ⟨C.w.heap.size, 0, none⟩) q q)) (C.w.alloc (.cells (madeCells z.cells (q * i.size)) e)) :=
        exec_v (s := Instr.makeSlice tt (a.eval x) (a.eval y)) rfl (by rw [rv_lit h2, rv_lit h3]; exact hmake)
      suffices hbears : Bears C (madeCells z.cells (q * i.size)) 0 sz (List.replicate q cs0) by
        have hob := add_rel ok hh (obrel_row (e := e) (cap := q) (es := List.replicate q cs0) (by simp) hq63 (fun x hx => by rw [List.eq_of_mem_replicate hx]; exact hcl) (by rw [size_madeCells, hsz]; exact Nat.le_refl _) hbears)
        exact ⟨_, _, .sl C.gen 0 q, _, hrun, ⟨C.gen, rfl, rfl⟩, add_ok ok _ _, add_le _ _ _, add_new _, hob, sl_new (Nat.le_refl _)⟩
      intro i2 x2 hx2 j y2 hy2
      have hil : i2 < q := by
        have := (List.getElem?_eq_some_iff.1 hx2).1
        simpa using this
      have hxe : x2 = cs0 := by
        have := (List.getElem?_eq_some_iff.1 hx2).2
        simpa using this.symm
      subst hxe
      have hjl : j < sz := by rw [← hcl]; exact (List.getElem?_eq_some_iff.1 hy2).1
      have hcap : (i2 + 1) * sz ≤ q * sz := Nat.mul_le_mul_right _ hil
      rw [Nat.add_mul] at hcap
      rw [← hcs0, List.getElem?_map, Option.map_eq_some_iff] at hy2
      obtain ⟨v, hv, rfl⟩ := hy2
      refine ⟨v, ?_, .lit⟩
      have hlt : 0 + i2 * sz + j < q * sz := by omega
      have hmod : (0 + i2 * sz + j) % sz = j := by rw [Nat.zero_add, Nat.mul_comm, Nat.mul_add_mod, Nat.mod_eq_of_lt hjl]
      have hv' : z.cells[j]? = some v := by rw [← hz2] at hv; simpa using hv
      rw [hsz]
      unfold madeCells
      rw [Array.getElem?_map, Array.getElem?_range, if_pos hlt]
      simp only [Option.map_some, hzs, hmod]
      rw [getElem!_pos z.cells j (by omega)]
      have := (Array.getElem?_eq_some_iff.1 hv').2
      rw [this]

/-- A closure, its captured values in sight. -/
theorem q_fn {fn : Fn} {first caps : Array Operand} {fs cs : List AV} (hf : NL (first.toList.map ev) fs) (hc : NL (caps.toList.map ev) cs) : QOp P ⟨d, .makeFunc fn first caps, ty, pos, af, g⟩ ev H (.clo fn fs cs) := by
  have := q_func (P := P) (d := d) (ty := ty) (pos := pos) (af := af) (g := g) (ev := ev) (H := H) (fn := fn) (first := first) (caps := caps)
  rwa [hf.eq, hc.eq] at this
end

end Go.Proofs.YtdlinfekifnmkaaAm
