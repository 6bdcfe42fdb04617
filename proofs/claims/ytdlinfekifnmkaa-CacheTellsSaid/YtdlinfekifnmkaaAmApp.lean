/- The abstract machine of these proofs, part 9: append. Conditions: none. -/
import Derived.Test.YtdlinfekifnmkaaAmLit
set_option linter.unusedVariables false
set_option linter.unusedSimpArgs false
namespace Go.Proofs.YtdlinfekifnmkaaAm

section
variable {P : Program} {C : Cx} {H : Heap}

/-- Cells that lie one behind the other, as a list of values. -/
theorem cells_list {es : List (List AV)} {sz : Nat} (hes : ∀ e ∈ es, e.length = sz) (hz : 0 < sz) {F : Nat → Value → Prop}
    (h : ∀ i e, es[i]? = some e → ∀ j x, e[j]? = some x → ∃ u, F (i * sz + j) u ∧ RV C x u) :
    ∃ news : List Value, news.length = es.length * sz ∧ (∀ k u, news[k]? = some u → F k u) ∧ ∀ (i : Nat) (e : List AV), es[i]? = some e → ∀ (j : Nat) (x : AV), e[j]? = some x → ∃ u, news[i * sz + j]? = some u ∧ RV C x u := by
  have key : ∀ k, k < es.length * sz → ∃ u, F k u ∧ ∀ (i : Nat) (e : List AV), es[i]? = some e → ∀ (j : Nat) (x : AV), e[j]? = some x → i * sz + j = k → RV C x u := fun k hk => by
    have hi : k / sz < es.length := Nat.div_lt_of_lt_mul (by rw [Nat.mul_comm]; exact hk)
    have hj : k % sz < sz := Nat.mod_lt _ hz
    have hei := List.getElem?_eq_getElem hi
    have hlen := hes _ (List.getElem_mem hi)
    obtain ⟨u, h1, h2⟩ := h (k / sz) _ hei (k % sz) _ (List.getElem?_eq_getElem (show k % sz < (es[k / sz]).length by rw [hlen]; exact hj))
    have hk2 : k / sz * sz + k % sz = k := by rw [Nat.mul_comm]; exact Nat.div_add_mod k sz
    rw [hk2] at h1
    refine ⟨u, h1, fun i e he j x hx hij => ?_⟩
    have hjl : j < sz := by
      have := (List.getElem?_eq_some_iff.1 hx).1
      rwa [hes e (List.mem_of_getElem? he)] at this
    have h3 : i = k / sz := by
      rw [← hij, Nat.mul_comm, Nat.mul_add_div hz, Nat.div_eq_of_lt hjl, Nat.add_zero]
    have h4 : j = k % sz := by
      rw [← hij, Nat.mul_comm, Nat.mul_add_mod, Nat.mod_eq_of_lt hjl]
    subst h3
    rw [hei] at he
    injection he with he
    subst he
    have hx2 : (es[k / sz])[j]? = some ((es[k / sz])[k % sz]'(by rw [hlen]; exact hj)) := by rw [h4]; exact List.getElem?_eq_getElem _
    rw [hx2] at hx
    injection hx with hx
    rw [← hx]
    exact h2
  obtain ⟨f, hf⟩ : ∃ f : Nat → Value, ∀ k, k < es.length * sz → F k (f k) ∧ ∀ (i : Nat) (e : List AV), es[i]? = some e → ∀ (j : Nat) (x : AV), e[j]? = some x → i * sz + j = k → RV C x (f k) := by
    refine ⟨fun k => if h : k < es.length * sz then Classical.choose (key k h) else undef, fun k hk => ?_⟩
    simp only [dif_pos hk]
    exact Classical.choose_spec (key k hk)
  refine ⟨(List.range (es.length * sz)).map f, by simp, fun k u hk => ?_, fun i e he j x hx => ?_⟩
  · rw [List.getElem?_map, Option.map_eq_some_iff] at hk
    obtain ⟨k', hk', rfl⟩ := hk
    have hlt : k < es.length * sz := by
      have := (List.getElem?_eq_some_iff.1 hk').1
      simpa using this
    have : k' = k := by
      have := (List.getElem?_eq_some_iff.1 hk').2
      simpa using this.symm
    subst this
    exact (hf k' hlt).1
  · have hil : i < es.length := (List.getElem?_eq_some_iff.1 he).1
    have hjl : j < sz := by
      have := (List.getElem?_eq_some_iff.1 hx).1
      rwa [hes e (List.mem_of_getElem? he)] at this
    have hcap : (i + 1) * sz ≤ es.length * sz := Nat.mul_le_mul_right _ hil
    rw [Nat.add_mul] at hcap
    have hlt : i * sz + j < es.length * sz := by omega
    exact ⟨f (i * sz + j), by rw [List.getElem?_map, List.getElem?_range hlt]; rfl, (hf _ hlt).2 i e he j x hx rfl⟩

/-- What is appended: its cells. -/
theorem src_cells (hh : HRel C H) {x : AV} {es : List (List AV)} {v : Value} {sz : Nat} (h : SV H x es) (hv : RV C x v) (hes : ∀ e ∈ es, e.length = sz) (hz : 0 < sz) :
    ∃ (A : Option Addr) (c : Nat) (news : List Value), v = .slice A es.length c ∧ news.length = es.length * sz ∧ (es = [] ∨ ∃ a, A = some a ∧ ∀ k u, news[k]? = some u → C.w.cell? (a.add k) = some u) ∧
      ∀ (i : Nat) (e : List AV), es[i]? = some e → ∀ (j : Nat) (x : AV), e[j]? = some x → ∃ u, news[i * sz + j]? = some u ∧ RV C x u := by
  have ro : ∀ v, RV C (.ro es) v → ∃ (A : Option Addr) (c : Nat) (news : List Value), v = .slice A es.length c ∧ news.length = es.length * sz ∧ (es = [] ∨ ∃ a, A = some a ∧ ∀ k u, news[k]? = some u → C.w.cell? (a.add k) = some u) ∧
      ∀ (i : Nat) (e : List AV), es[i]? = some e → ∀ (j : Nat) (x : AV), e[j]? = some x → ∃ u, news[i * sz + j]? = some u ∧ RV C x u := fun v hv => by
    obtain ⟨A, n, c, size, vs, rfl, rfl, hc, hm, hsizes, hcell, hrv⟩ := cells_of_ro hv
    rcases es with _ | ⟨e0, es⟩
    · exact ⟨A, c, [], rfl, by simp, .inl rfl, by simp⟩
    · have hsize : size = sz := by rw [← hsizes e0 (by simp), hes e0 (by simp)]
      subst hsize
      obtain ⟨x0, hx0⟩ : ∃ x0, e0[0]? = some x0 := ⟨e0[0]'(by rw [hes e0 (by simp)]; exact hz), List.getElem?_eq_getElem _⟩
      obtain ⟨a, rfl, _, _⟩ := hcell 0 e0 rfl 0 x0 hx0
      obtain ⟨news, h1, h2, h3⟩ := cells_list (C := C) (F := fun k u => C.w.cell? (a.add k) = some u) hes hz (fun i e he j x hx => by
        obtain ⟨a1, ha1, _, hc1⟩ := hcell i e he j x hx
        injection ha1 with ha1
        subst ha1
        exact ⟨_, hc1, hrv i e he j x hx⟩)
      exact ⟨some a, c, news, rfl, h1, .inr ⟨a, rfl, h2⟩, h3⟩
  cases h with
  | ro => exact ro v hv
  | cro => cases hv with | cro A hv h => exact ro _ h
  | nil => rw [rv_lit hv]; exact ⟨none, 0, [], rfl, by simp, .inl rfl, by simp⟩
  | sl hq hle =>
    rename_i u l h q e size es0
    cases hv with
    | sl hu hlh hhc hA hn hc =>
      rename_i A n c
      obtain ⟨h1, h2, h3, h4, h5, h6⟩ := hh.at hq
      have hlen : ((es0.drop l).take (h - l)).length = n := by rw [List.length_take, List.length_drop, Nat.min_eq_left (by omega), hn]
      rcases Nat.eq_zero_or_pos n with h0 | h0
      · have : (es0.drop l).take (h - l) = [] := List.eq_nil_of_length_eq_zero (by omega)
        rw [this]
        subst h0
        exact ⟨A, c, [], rfl, by simp, .inl rfl, by simp⟩
      · have hmem : ∀ x ∈ (es0.drop l).take (h - l), x ∈ es0 := fun x hx => List.mem_of_mem_drop (List.mem_of_mem_take hx)
        have hsize : size = sz := by
          obtain ⟨x, hx⟩ : ∃ x, x ∈ (es0.drop l).take (h - l) := List.exists_mem_of_length_pos (by omega)
          rw [← h5 x (hmem x hx), hes x hx]
        subst hsize
        rcases h6 with h6 | ⟨gb, off, arr, hA0, hg, ho, hs, hb⟩
        · omega
        have hA := hA (by omega)
        rw [hA0, h2] at hA
        simp only [Option.map_some] at hA
        have hn' : ((es0.drop l).take (h - l)).length = n := hlen
        obtain ⟨news, k1, k2, k3⟩ := cells_list (C := C) (es := (es0.drop l).take (h - l)) (F := fun k u => C.w.cell? (((⟨gb, off, none⟩ : Addr).add (l * size)).add k) = some u) hes hz (fun i x hx j y hy => by
          have hlt : i < h - l := by
            have := (List.getElem?_eq_some_iff.1 hx).1
            omega
          rw [List.getElem?_take_of_lt hlt, List.getElem?_drop] at hx
          obtain ⟨v, k1, k2⟩ := hb (l + i) x hx j y hy
          refine ⟨v, ?_, k2⟩
          rw [add_add, add_plain, cell_of_row C.w gb _ arr e (0, 0) hg, ← Nat.add_assoc, ← Nat.add_assoc, ← k1, Nat.add_mul]
          congr 1
          omega)
        rw [hn']
        exact ⟨A, c, news, rfl, by rw [k1, hn'], .inr ⟨_, hA, k2⟩, k3⟩

structure EInfo (P : Program) (e : TypeId) (sz by_ : Nat) : Prop where
  ex : ∃ (i : TypeInfo) (z : Value), P.info? e = some i ∧ i.zero = some z ∧ i.size = sz ∧ i.bytes = by_ ∧ z.cells.size = sz
theorem einfo {e : TypeId} {sz by_ : Nat} {zs : List Value} (hsz : szOf P e = some sz) (hz : zeroOf P e = some zs) (hzl : zs.length = sz) (hby : byOf P e = some by_) : EInfo P e sz by_ := by
  unfold byOf at hby
  unfold szOf at hsz
  unfold zeroOf at hz
  cases hi : P.info? e with
  | none => simp [hi] at hsz
  | some i =>
    simp only [hi, Option.map_some, Option.some.injEq, Option.bind_some, Option.map_eq_some_iff] at hby hsz hz
    obtain ⟨z, hz1, hz2⟩ := hz
    exact ⟨⟨i, z, hi, hz1, hsz, hby, by rw [← Array.length_toList, hz2]; exact hzl⟩⟩

theorem run_append_zero {tt ty e : TypeId} {i : TypeInfo} (ht : P.underlying tt = some (.slice e)) (hi : P.info? e = some i) (A B : Option Addr) (n c c2 : Nat) (hnc : n ≤ c) (w : World) :
    (Builtin.append_ #[tt, tt] ty #[.slice A n c, .slice B 0 c2]).run P w = .ok (.slice A n c) w := by
  cases A <;> cases B <;> simp [Builtin.append_, run_underlying ht, sizeOf, typeInfo, hi, Builtin.lenOf, Builtin.firstCells, hnc, loadCells, loadCellsFrom, storeCells]

/-- A world in which a draw has been made, as far as one sees. -/
def Cx.drew (C : Cx) : Cx := { C with w := C.w.drew }
theorem drew_ok (ok : C.Ok) : C.drew.Ok := ⟨fun k u h => ok.own k u h⟩
theorem drew_le (M : Nat → Prop) : Le M C C.drew := ⟨rfl, rfl, rfl, Nat.le_refl _, Nat.le_refl _, fun _ _ => rfl, fun _ _ _ => ⟨rfl, rfl⟩⟩

/-- What an append leaves: a new row. -/
theorem bears_grown {olds news : List Value} {rest : Array Value} {es es2 : List (List AV)} {sz : Nat} (ho : olds.length = es.length * sz) (hn : news.length = es2.length * sz) (hes2 : ∀ e ∈ es2, e.length = sz) (hes : ∀ e ∈ es, e.length = sz)
    (h1 : ∀ (i : Nat) (e : List AV), es[i]? = some e → ∀ (j : Nat) (x : AV), e[j]? = some x → ∃ u, olds[i * sz + j]? = some u ∧ RV C x u)
    (h2 : ∀ (i : Nat) (e : List AV), es2[i]? = some e → ∀ (j : Nat) (x : AV), e[j]? = some x → ∃ u, news[i * sz + j]? = some u ∧ RV C x u) : Bears C (olds.toArray ++ news.toArray ++ rest) 0 sz (es ++ es2) := by
  intro i e he j x hx
  have hjl : j < sz := by
    have := (List.getElem?_eq_some_iff.1 hx).1
    have hm := List.mem_of_getElem? he
    rcases List.mem_append.1 hm with h | h
    · rwa [hes e h] at this
    · rwa [hes2 e h] at this
  rcases Nat.lt_or_ge i es.length with hi | hi
  · rw [List.getElem?_append_left hi] at he
    obtain ⟨u, k1, k2⟩ := h1 i e he j x hx
    have hcap : (i + 1) * sz ≤ es.length * sz := Nat.mul_le_mul_right _ hi
    rw [Nat.add_mul] at hcap
    refine ⟨u, ?_, k2⟩
    rw [Array.append_assoc, Array.getElem?_append_left (by simp; omega)]
    simpa using k1
  · rw [List.getElem?_append_right hi] at he
    obtain ⟨u, k1, k2⟩ := h2 (i - es.length) e he j x hx
    have hil : i - es.length < es2.length := (List.getElem?_eq_some_iff.1 he).1
    have hcap : (i - es.length + 1) * sz ≤ es2.length * sz := Nat.mul_le_mul_right _ hil
    rw [Nat.add_mul] at hcap
    have hmul : i * sz = es.length * sz + (i - es.length) * sz := by rw [← Nat.add_mul]; congr 1; omega
    refine ⟨u, ?_, k2⟩
    rw [Array.append_assoc, Array.getElem?_append_right (by simp; omega), Array.getElem?_append_left (by simp; omega)]
    simp only [List.size_toArray, List.getElem?_toArray]
    rw [show 0 + i * sz + j - olds.length = (i - es.length) * sz + j by omega]
    exact k1

/-- An object is given another number. -/
theorem HRel.repl {C' : Cx} (ok : C.Ok) (hh : HRel C H) {q u v : Nat} {o o' : Ob} (hq : H[q]? = some (u, o)) (hl : Le (fun x => x = u) C C') (hv : C.gen ≤ v) (ho : ObRel C' v o') : HRel C' (H.set q (v, o')) := by
  have hlt : q < H.length := (List.getElem?_eq_some_iff.1 hq).1
  have hqe : H[q] = (u, o) := (List.getElem?_eq_some_iff.1 hq).2
  have hset : H.set q (v, o') = H.take q ++ (v, o') :: H.drop (q + 1) := by rw [List.set_eq_take_append_cons_drop, if_pos hlt]
  have hH : H = H.take q ++ (u, o) :: H.drop (q + 1) := by
    rw [← hqe, ← List.drop_eq_getElem_cons hlt, List.take_append_drop]
  have hnd := hh.nodup
  rw [hH, List.map_append, List.map_cons] at hnd
  have hother : ∀ p, p ∈ H.take q ++ H.drop (q + 1) → p ∈ H ∧ p.1 ≠ u := fun p hp => by
    have hpH : p ∈ H := by
      rcases List.mem_append.1 hp with h | h
      · exact List.mem_of_mem_take h
      · exact List.mem_of_mem_drop h
    refine ⟨hpH, fun he => ?_⟩
    have h2 := List.nodup_append.1 hnd
    rcases List.mem_append.1 hp with h | h
    · exact h2.2.2 p.1 (List.mem_map.2 ⟨p, h, rfl⟩) u (by simp) he
    · exact (List.nodup_cons.1 h2.2.1).1 (by rw [← he]; exact List.mem_map.2 ⟨p, h, rfl⟩)
  rw [hset]
  refine ⟨?_, fun k p hp => ?_⟩
  · rw [List.map_append, List.map_cons]
    have h2 := List.nodup_append.1 hnd
    have hfresh : ∀ k, k ∈ (H.take q).map (·.1) ∨ k ∈ (H.drop (q + 1)).map (·.1) → k ≠ v := fun k hk he => by
      have : H.M k := by
        rcases hk with h | h
        · obtain ⟨p, hp, rfl⟩ := List.mem_map.1 h; exact List.mem_map.2 ⟨p, List.mem_of_mem_take hp, rfl⟩
        · obtain ⟨p, hp, rfl⟩ := List.mem_map.1 h; exact List.mem_map.2 ⟨p, List.mem_of_mem_drop hp, rfl⟩
      have := hh.lt this
      omega
    refine List.nodup_append.2 ⟨h2.1, List.nodup_cons.2 ⟨fun h => hfresh v (.inr h) rfl, (List.nodup_cons.1 h2.2.1).2⟩, fun a ha b hb => ?_⟩
    rcases List.mem_cons.1 hb with h | h
    · subst h; exact hfresh a (.inl ha)
    · exact h2.2.2 a ha b (List.mem_cons_of_mem _ h)
  · rcases List.mem_append.1 hp with h | h
    · obtain ⟨h1, h2⟩ := hother (k, p) (List.mem_append_left _ h)
      exact (hh.ob k p h1).le ok hl h2
    · rcases List.mem_cons.1 h with h | h
      · simp only [Prod.mk.injEq] at h
        obtain ⟨rfl, rfl⟩ := h
        exact ho
      · obtain ⟨h1, h2⟩ := hother (k, p) (List.mem_append_right _ h)
        exact (hh.ob k p h1).le ok hl h2
theorem repl_new {q v : Nat} {o' : Ob} (hv : C.gen ≤ v) : New C H (H.set q (v, o')) := fun k hk => by
  obtain ⟨p, hp, rfl⟩ := List.mem_map.1 hk
  rcases List.mem_or_eq_of_mem_set hp with h | h
  · exact .inl (List.mem_map.2 ⟨p, h, rfl⟩)
  · subst h; exact .inr hv

/-- The object u becomes the object 'gen', read from another place on. -/
def Cx.pass (C : Cx) (u : Nat) (an : Anc) (w : World) : Cx where
  ph := fun k => if k = C.gen then an else C.ph k
  own := fun k => if C.own k = some u then some C.gen else C.own k
  gen := C.gen + 1
  w := w

variable {d : Option Tmp} {ty : TypeId} {pos : String} {af : Array Edge} {g : Option (Nat × Bool)} {ev : Operand → AV}

theorem pass_ok (ok : C.Ok) (u : Nat) (an : Anc) {w : World} (hs : C.w.heap.size ≤ w.heap.size) : (C.pass u an w).Ok := ⟨fun k v h => by
  simp only [Cx.pass] at h ⊢
  split at h
  · rename_i hk
    injection h with h
    subst h
    have := (ok.own k u hk).1
    omega
  · have := ok.own k v h
    omega⟩
theorem pass_le (u : Nat) (an : Anc) {w : World} (h1 : w.os = C.w.os) (h2 : w.tape = C.w.tape) (h3 : w.output = C.w.output) (h4 : C.w.heap.size ≤ w.heap.size)
    (h5 : ∀ k, k < C.w.heap.size → C.own k ≠ some u → w.heap[k]? = C.w.heap[k]?) : Le (fun x => x = u) C (C.pass u an w) :=
  ⟨h1, h2, h3, h4, by simp [Cx.pass], fun k hk => by simp only [Cx.pass]; rw [if_neg (by omega)],
    fun k hk hn => by
      have : C.own k ≠ some u := hn u rfl
      exact ⟨h5 k hk this, by simp only [Cx.pass]; rw [if_neg this]⟩⟩

/-- append to a slice of the call's own: it goes over to a new name. -/
theorem e_apO {tt e : TypeId} {s x : Operand} {u l h sz by_ m : Nat} {zs : List Value} {es es2 es3 : List (List AV)} {H2 : Nat → Heap} (ht : P.underlying tt = some (.slice e)) (hsz : szOf P e = some sz) (hby : byOf P e = some by_) (hz : zeroOf P e = some zs)
    (hs : ev s = .sl u l h) (hq : HAt H u (.arr e sz es)) (hle : h ≤ es.length) (hx : SV H (ev x) es2) (hes2 : ∀ c ∈ es2, c.length = sz) (hok : ∀ c ∈ es2, c.all cell1 = true) (hok1 : ∀ c ∈ es, c.all cell1 = true)
    (hbytes : (h - l + es2.length) * by_ ≤ 140737488355328) (hz0 : 0 < sz) (hby0 : 0 < by_) (hzl : zs.length = sz) (hm : h - l + es2.length = m) (hes3 : (es.take h).drop l ++ es2 = es3) (hH : ∀ v, HSet H u (v, .arr e sz es3) (H2 v)) :
    EOp P ⟨d, .call { callee := .builtin .append, args := #[s, x], argTypes := #[tt, tt] }, ty, pos, af, g⟩ ev H (fun r H' => ∃ v, r = .sl v 0 m ∧ H' = H2 v) := by
  refine eop_of fun C a ok hh he => ?_
  subst hm
  subst hes3
  have h1 := he s (by simp [Op.operands, Call.operands])
  have h2 := he x (by simp [Op.operands, Call.operands])
  rw [hs] at h1
  obtain ⟨⟨i, z, hi, hiz, his, hib, hzs⟩⟩ := einfo (P := P) hsz hz hzl hby
  obtain ⟨B, c2, news, hvx, hnl, hnews, hnrv⟩ := src_cells (sz := sz) hh hx h2 hes2 hz0
  obtain ⟨q, hqq, hH2⟩ := (hH C.gen).ob hh hq
  have hone : ∀ y ∈ news, y.oneCell' = true := fun y hy => by
    obtain ⟨k, hk⟩ := List.mem_iff_getElem?.1 hy
    have hkl : k < es2.length * sz := by rw [← hnl]; exact (List.getElem?_eq_some_iff.1 hk).1
    have hi2 : k / sz < es2.length := Nat.div_lt_of_lt_mul (by rw [Nat.mul_comm]; exact hkl)
    have hj2 : k % sz < sz := Nat.mod_lt _ hz0
    have hk2 : k / sz * sz + k % sz = k := by rw [Nat.mul_comm]; exact Nat.div_add_mod k sz
    have hcl := hes2 _ (List.getElem_mem hi2)
    obtain ⟨u', k1, k2⟩ := hnrv (k / sz) _ (List.getElem?_eq_getElem hi2) (k % sz) _ (List.getElem?_eq_getElem (show k % sz < (es2[k / sz]).length by rw [hcl]; exact hj2))
    rw [hk2, hk] at k1
    injection k1 with k1
    subst k1
    exact rv_cell1 k2 (List.all_eq_true.1 (hok _ (List.getElem_mem hi2)) _ (List.getElem_mem _))
  obtain ⟨g1, g2, g3, g4, g5, g6⟩ := hh.at hqq
  generalize hvs : a.eval s = vs at h1
  cases h1 with
  | sl hu hlh hhc hA hn hc =>
    rename_i A n c
    have hnn : n ≤ c := by omega
    have hexec : ∀ (v' : Value) (w' : World), (Builtin.append_ #[tt, tt] ty #[.slice A n c, .slice B es2.length c2]).run P C.w = .ok v' w' →
        (execOp a.eval ⟨d, .call { callee := .builtin .append, args := #[s, x], argTypes := #[tt, tt] }, ty, pos, af, g⟩).run P C.w = .ok (.value v') w' := fun v' w' hr => by
      have e1 : #[s, x].map a.eval = #[.slice A n c, .slice B es2.length c2] := by simp [hvs, hvx]
      simp only [execOp, resolve, Sem.run_bind, Sem.run_pure, Result.andThen_ok, invoke, e1, builtin, hr]
    have hlen0 : ((es.take h).drop l).length = n := by rw [List.length_drop, List.length_take, Nat.min_eq_left hle, hn]
    have hmemO : ∀ y ∈ (es.take h).drop l, y ∈ es := fun y hy => List.mem_of_mem_take (List.mem_of_mem_drop hy)
    have hres3 : ∀ y ∈ (es.take h).drop l ++ es2, y.length = sz := fun y hy => by
      rcases List.mem_append.1 hy with h | h
      · exact g5 y (hmemO y h)
      · exact hes2 y h
    have hget0 : ∀ k y, ((es.take h).drop l)[k]? = some y → es[l + k]? = some y ∧ k < n := fun k y hk => by
      have hlt : k < n := by rw [← hlen0]; exact (List.getElem?_eq_some_iff.1 hk).1
      rw [List.getElem?_drop, List.getElem?_take_of_lt (by omega)] at hk
      exact ⟨hk, hlt⟩
    by_cases hm0 : es2.length = 0
    · have hes0 : es2 = [] := List.eq_nil_of_length_eq_zero hm0
      have hr := run_append_zero (P := P) (ty := ty) ht hi A B n c c2 hnn C.w
      rw [← hm0] at hr
      have hle2 := pass_le (C := C) (w := C.w) u ⟨A, c, sz⟩ rfl rfl rfl (Nat.le_refl _) (fun _ _ _ => rfl)
      refine ⟨C.pass u ⟨A, c, sz⟩ C.w, _, .sl C.gen 0 (h - l + es2.length), _, hexec _ _ hr, ⟨C.gen, rfl, hH2.symm⟩, pass_ok ok _ _ (Nat.le_refl _), hle2.mono (fun v hv => by subst hv; exact List.mem_map.2 ⟨_, List.mem_of_getElem? hqq, rfl⟩),
        repl_new (Nat.le_refl _), HRel.repl ok hh hqq hle2 (Nat.le_refl _) ?_, ?_⟩
      · refine ⟨by simp [Cx.pass], by simp [Cx.pass], by simp [Cx.pass, hlen0, hm0]; omega, by simp [Cx.pass]; omega, hres3, ?_⟩
        by_cases hc0 : c = 0
        · exact .inl (by simp [Cx.pass, hc0])
        · rcases g6 with g6 | ⟨gb, off, arr, hA0, hg, ho, hsz2, hb⟩
          · omega
          have hA' := hA (by omega)
          rw [hA0, g2] at hA'
          simp only [Option.map_some, add_plain] at hA'
          refine .inr ⟨gb, off + l * sz, arr, by simp [Cx.pass, hA'], hg, by simp [Cx.pass, ho], ?_, ?_⟩
          · simp only [Cx.pass, if_true]
            have : (l + c) * sz ≤ (C.ph u).cap * sz := Nat.mul_le_mul_right _ (by omega)
            rw [Nat.add_mul] at this
            omega
          · intro k y hk j x' hj
            rw [hes0, List.append_nil] at hk
            obtain ⟨hk2, _⟩ := hget0 k y hk
            obtain ⟨v, k1, k2⟩ := hb (l + k) y hk2 j x' hj
            refine ⟨v, ?_, k2.le hle2⟩
            rw [← k1, Nat.add_mul]
            congr 1
            omega
      · refine .sl (by simp [Cx.pass]) (Nat.zero_le _) (by simp [Cx.pass, hm0]; omega) (fun _ => ?_) (by omega) (by simp [Cx.pass])
        simp only [Cx.pass, if_true, Nat.zero_mul]
        cases A <;> simp [add_zero]
    · have hmpos : 0 < es2.length := by omega
      have hne2 : ¬ es2 = [] := fun h => hm0 (by rw [h]; rfl)
      obtain ⟨aB, rfl, hnc⟩ := hnews.resolve_left hne2
      have hB47 : (n + es2.length) * by_ ≤ 140737488355328 := by rw [hn]; exact hbytes
      have hlen47 : n + es2.length ≤ 140737488355328 := Nat.le_trans (Nat.le_mul_of_pos_right _ hby0) hB47
      by_cases hroom : n + es2.length ≤ c
      · rcases g6 with g6 | ⟨gb, off, arr, hA0, hg, ho, hsz2, hb⟩
        · omega
        have hA' := hA (by omega)
        rw [hA0, g2] at hA'
        simp only [Option.map_some, add_plain] at hA'
        subst hA'
        have hcapl : (l + c) * sz ≤ (C.ph u).cap * sz := Nat.mul_le_mul_right _ (by omega)
        have hfit : (l + n + es2.length) * sz ≤ (l + c) * sz := Nat.mul_le_mul_right _ (by omega)
        rw [Nat.add_mul] at hcapl
        rw [Nat.add_mul, Nat.add_mul, Nat.add_mul] at hfit
        have hf := run_firstCells_some (P := P) C.w i.size es2.length aB es2.length c2 news (by rw [his]; exact hnl) (fun j v hv => hnc j v hv)
        have hst := run_storeCells_at P gb (off + l * sz + n * sz) e news 0 arr C.w hg (by rw [hnl]; omega) hone
        simp only [Nat.add_zero] at hst
        have hr : (Builtin.append_ #[tt, tt] ty #[.slice (some ⟨gb, off + l * sz, none⟩) n c, .slice (some aB) es2.length c2]).run P C.w =
            .ok (.slice (some ⟨gb, off + l * sz, none⟩) (n + es2.length) c) (C.w.setRow gb (arr.toList.take (off + l * sz + n * sz) ++ news ++ arr.toList.drop (off + l * sz + n * sz + news.length)).toArray) := by
          have hadd : (⟨gb, off + l * sz, none⟩ : Addr).add (n * i.size) = ⟨gb, off + l * sz + n * sz, none⟩ := by rw [add_plain, his]
          simp [Builtin.append_, run_underlying ht, sizeOf, typeInfo, hi, Builtin.lenOf, hroom, hf, hadd, hst]
        have hle2 := pass_le (C := C) (w := C.w.setRow gb (arr.toList.take (off + l * sz + n * sz) ++ news ++ arr.toList.drop (off + l * sz + n * sz + news.length)).toArray) u ⟨some ⟨gb, off + l * sz, none⟩, c, sz⟩ rfl rfl rfl (by simp)
          (fun k _ hk => setRow_other _ _ _ _ (fun e => hk (by rw [e]; exact ho)))
        refine ⟨C.pass u ⟨some ⟨gb, off + l * sz, none⟩, c, sz⟩ (C.w.setRow gb _), _, .sl C.gen 0 (h - l + es2.length), _, hexec _ _ hr, ⟨C.gen, rfl, hH2.symm⟩, pass_ok ok _ _ (by simp), hle2.mono (fun v hv => by subst hv; exact List.mem_map.2 ⟨_, List.mem_of_getElem? hqq, rfl⟩),
          repl_new (Nat.le_refl _), HRel.repl ok hh hqq hle2 (Nat.le_refl _) ?_, ?_⟩
        · refine ⟨by simp [Cx.pass], by simp [Cx.pass], by simp [Cx.pass, hlen0]; omega, by simp [Cx.pass]; omega, hres3, .inr ⟨gb, off + l * sz, _, by simp [Cx.pass], setRow_heap _ _ _ _ _ _ hg, by simp [Cx.pass, ho], ?_, ?_⟩⟩
          · simp only [Cx.pass, if_true, List.size_toArray, List.length_append, List.length_take, List.length_drop, Array.length_toList]
            omega
          · intro k y hk j x' hj
            have hjl : j < sz := by
              have := (List.getElem?_eq_some_iff.1 hj).1
              rwa [hres3 y (List.mem_of_getElem? hk)] at this
            have hl1 : (arr.toList.take (off + l * sz + n * sz)).length = off + l * sz + n * sz := by simp; omega
            simp only [List.getElem?_toArray]
            rcases Nat.lt_or_ge k n with hkn | hkn
            · rw [List.getElem?_append_left (by omega)] at hk
              obtain ⟨hk2, _⟩ := hget0 k y hk
              obtain ⟨v, k1, k2⟩ := hb (l + k) y hk2 j x' hj
              refine ⟨v, ?_, k2.le hle2⟩
              have hkk : (k + 1) * sz ≤ n * sz := Nat.mul_le_mul_right _ hkn
              rw [Nat.add_mul] at hkk
              rw [List.append_assoc, List.getElem?_append_left (by omega), List.getElem?_take_of_lt (by omega), ← k1, Nat.add_mul]
              simp only [Array.getElem?_toList]
              congr 1
              omega
            · rw [List.getElem?_append_right (by omega), hlen0] at hk
              obtain ⟨v, k1, k2⟩ := hnrv (k - n) y hk j x' hj
              refine ⟨v, ?_, k2.le hle2⟩
              have hmul : k * sz = n * sz + (k - n) * sz := by rw [← Nat.add_mul]; congr 1; omega
              have hkl : k - n < es2.length := (List.getElem?_eq_some_iff.1 hk).1
              have hkk : (k - n + 1) * sz ≤ es2.length * sz := Nat.mul_le_mul_right _ hkl
              rw [Nat.add_mul] at hkk
              rw [List.append_assoc, List.getElem?_append_right (by omega), hl1, List.getElem?_append_left (by omega), ← k1]
              congr 1
              omega
        · refine .sl (by simp [Cx.pass]) (Nat.zero_le _) (by simp [Cx.pass]; omega) (fun _ => ?_) (by omega) (by simp [Cx.pass])
          simp [Cx.pass, add_zero]
      · have hfitb : Builtin.nextslicecap (n + es2.length) c * i.bytes ≤ 281474976710656 := growslice_fits (by omega) (by rw [hib]; exact hB47)
        -- the elder cells
        have holdex : ∃ (olds : List Value), olds.length = n * sz ∧ (n = 0 ∨ ∃ b, A = some b ∧ ∀ k v, olds[k]? = some v → C.w.cell? (b.add k) = some v) ∧
            ∀ (k : Nat) (y : List AV), ((es.take h).drop l)[k]? = some y → ∀ (j : Nat) (x' : AV), y[j]? = some x' → ∃ v, olds[k * sz + j]? = some v ∧ RV C x' v := by
          rcases Nat.eq_zero_or_pos n with h0 | h0
          · have : (es.take h).drop l = [] := List.eq_nil_of_length_eq_zero (by omega)
            rw [this]
            exact ⟨[], by simp [h0], .inl h0, by simp⟩
          · rcases g6 with g6 | ⟨gb, off, arr, hA0, hg, ho, hsz2, hb⟩
            · omega
            have hA' := hA (by omega)
            rw [hA0, g2] at hA'
            simp only [Option.map_some] at hA'
            obtain ⟨olds, k1, k2, k3⟩ := cells_list (C := C) (es := (es.take h).drop l) (F := fun k v => C.w.cell? (((⟨gb, off, none⟩ : Addr).add (l * sz)).add k) = some v) (fun y hy => g5 y (hmemO y hy)) hz0 (fun k y hk j x' hj => by
              obtain ⟨hk2, _⟩ := hget0 k y hk
              obtain ⟨v, k1, k2⟩ := hb (l + k) y hk2 j x' hj
              refine ⟨v, ?_, k2⟩
              rw [add_add, add_plain, cell_of_row C.w gb _ arr e (0, 0) hg, ← k1, Nat.add_mul]
              congr 1
              omega)
            exact ⟨olds, by rw [k1, hlen0], .inr ⟨_, hA', k2⟩, k3⟩
        obtain ⟨olds, ho1, ho2, ho3⟩ := holdex
        have hcap1 := grownCap_ge C.w (n + es2.length) c e
        have hcap2 := grownCap_le_maxLen C.w (n + es2.length) c e (by simp only [maxLen]; omega)
        have hr : (Builtin.append_ #[tt, tt] ty #[.slice A n c, .slice (some aB) es2.length c2]).run P C.w = .ok (.slice (some ⟨C.w.heap.size, 0, none⟩) (n + es2.length) (grownCap C.w (n + es2.length) c e))
            (C.w.drew.alloc (.cells (olds.toArray ++ news.toArray ++ Builtin.zeroCells z.cells (grownCap C.w (n + es2.length) c e - (n + es2.length))) e)) := by
          cases A with
          | some b =>
            refine run_append_grow (P := P) C.w tt ty e i z ht hi hiz b n c olds (by rw [his]; exact ho1) (fun j v hv => ?_) aB es2.length c2 news (by rw [his]; exact hnl) (fun j v hv => hnc j v hv) (by omega) (by omega) hfitb
            rcases ho2 with h0 | ⟨b', hb', hcells⟩
            · have : olds = [] := List.eq_nil_of_length_eq_zero (by rw [ho1, h0]; simp)
              rw [this] at hv
              simp at hv
            · injection hb' with hb'
              subst hb'
              exact hcells j v hv
          | none =>
            have hn0 : n = 0 := by
              rcases ho2 with h0 | ⟨b', hb', _⟩
              · exact h0
              · cases hb'
            have hc0 : c = 0 := by
              rcases Nat.eq_zero_or_pos c with h0 | h0
              · exact h0
              · rcases g6 with g6 | ⟨gb, off, arr, hA0, _⟩
                · omega
                · have hA' := hA (by omega)
                  rw [hA0] at hA'
                  cases hA'
            have hol : olds = [] := List.eq_nil_of_length_eq_zero (by rw [ho1, hn0]; simp)
            subst hn0
            subst hc0
            subst hol
            simp only [Nat.zero_add] at hfitb ⊢
            have := run_append_nil (P := P) C.w tt ty e i z ht hi hiz aB es2.length c2 news (by rw [his]; exact hnl) (fun j v hv => hnc j v hv) hmpos (by omega) (by
              rw [nextslicecap_zero hmpos] at hfitb
              exact hfitb)
            simpa using this
        have ok1 := drew_ok ok
        have hh1 : HRel C.drew H := hh.le ok (drew_le (fun _ => False)) (fun _ _ h => h)
        have hle1 := (drew_le (C := C) (fun x => x = u)).trans ok (add_le (C := C.drew) (fun x => x = u) (.cells (olds.toArray ++ news.toArray ++ Builtin.zeroCells z.cells (grownCap C.w (n + es2.length) c e - (n + es2.length))) e) ⟨some ⟨C.w.heap.size, 0, none⟩, grownCap C.w (n + es2.length) c e, sz⟩) (fun _ h => .inl h)
        refine ⟨C.drew.add (.cells (olds.toArray ++ news.toArray ++ Builtin.zeroCells z.cells (grownCap C.w (n + es2.length) c e - (n + es2.length))) e) ⟨some ⟨C.w.heap.size, 0, none⟩, grownCap C.w (n + es2.length) c e, sz⟩, _, .sl C.gen 0 (h - l + es2.length), _,
          hexec _ _ hr, ⟨C.gen, rfl, hH2.symm⟩, add_ok ok1 _ _, hle1.mono (fun v hv => by subst hv; exact List.mem_map.2 ⟨_, List.mem_of_getElem? hqq, rfl⟩), repl_new (Nat.le_refl _), HRel.repl ok hh hqq hle1 (Nat.le_refl _) ?_, ?_⟩
        · refine obrel_row (C := C.drew) (by simp [hlen0]; omega) hcap2 hres3 ?_ (bears_grown (C := C.drew) (by rw [ho1, hlen0]) hnl hes2 (fun y hy => g5 y (hmemO y hy)) (fun k y hk j x' hj => by
            obtain ⟨v, k1, k2⟩ := ho3 k y hk j x' hj
            exact ⟨v, k1, k2.le (drew_le (fun _ => False))⟩) (fun k y hk j x' hj => by
            obtain ⟨v, k1, k2⟩ := hnrv k y hk j x' hj
            exact ⟨v, k1, k2.le (drew_le (fun _ => False))⟩))
          simp only [Array.size_append, List.size_toArray, size_zeroCells, hzs, ho1, hnl, ← Nat.add_mul]
          apply Nat.mul_le_mul_right
          omega
        · have := sl_new (C := C.drew) (cur := olds.toArray ++ news.toArray ++ Builtin.zeroCells z.cells (grownCap C.w (n + es2.length) c e - (n + es2.length))) (e := e) (sz := sz) (cap := grownCap C.w (n + es2.length) c e) (m := n + es2.length) (by omega)
          rw [show h - l + es2.length = n + es2.length by omega]
          exact this

/-- What nil is: an object without elements. -/
theorem adopt {s : St} {a : Act} {k : Nat} (hr : Rel C s a) (hk : look s.t k = .lit (.slice none 0 0)) (e : TypeId) (sz : Nat) :
    Rel { C with ph := fun u => if u = C.gen then ⟨none, 0, sz⟩ else C.ph u, gen := C.gen + 1 } ⟨(k, .sl C.gen 0 0) :: s.t, s.n, (C.gen, .arr e sz []) :: s.H⟩ a ∧
    Le (fun _ => False) C { C with ph := fun u => if u = C.gen then ⟨none, 0, sz⟩ else C.ph u, gen := C.gen + 1 } := by
  have hle : Le (fun _ => False) C { C with ph := fun u => if u = C.gen then ⟨none, 0, sz⟩ else C.ph u, gen := C.gen + 1 } :=
    ⟨rfl, rfl, rfl, Nat.le_refl _, by simp, fun u hu => by simp only; rw [if_neg (by omega)], fun _ _ _ => ⟨rfl, rfl⟩⟩
  refine ⟨⟨⟨fun j u h => ⟨(hr.ok.own j u h).1, by have := (hr.ok.own j u h).2; simp; omega⟩⟩, ⟨?_, fun u o ho => ?_⟩, hr.n, fun i => ?_, hr.d⟩, hle⟩
  · rw [List.map_cons, List.nodup_cons]
    exact ⟨fun hm => absurd (hr.h.lt hm) (by omega), hr.h.nodup⟩
  · rcases List.mem_cons.1 ho with h | h
    · simp only [Prod.mk.injEq] at h
      obtain ⟨rfl, rfl⟩ := h
      exact ⟨by simp, by simp, by simp, by simp [maxLen], by simp, .inl (by simp)⟩
    · exact (hr.h.ob u o h).le hr.ok hle (fun h => h)
  · rw [look_cons]
    by_cases hki : k = i
    · subst hki
      have h1 := hr.t k
      rw [hk] at h1
      rw [rv_lit h1]
      simp only [BEq.rfl, cond_true]
      exact .sl (by simp) (Nat.le_refl _) (by simp) (fun h => by simp at h) rfl (by simp)
    · have : (k == i) = false := by simpa using hki
      rw [this]
      exact (hr.t i).le hle
theorem awp_adopt {Q : Exit → St → Prop} {c : Code} {t : List (Nat × AV)} {n : Nat} (k : Nat) (e : TypeId) (sz : Nat) (hk : look t k = .lit (.slice none 0 0)) (h : ∀ u, AWP P c Q ⟨(k, .sl u 0 0) :: t, n, (u, .arr e sz []) :: H⟩) : AWP P c Q ⟨t, n, H⟩ := by
  intro C a hr
  obtain ⟨hr2, hle⟩ := adopt hr hk e sz
  have h3 := h C.gen _ a hr2
  refine Code.wp_mono ?_ h3
  intro e a w hp
  exact hp.trans hr.ok (hle.mono fun _ h => h.elim) (add_new _)
end

end Go.Proofs.YtdlinfekifnmkaaAm
