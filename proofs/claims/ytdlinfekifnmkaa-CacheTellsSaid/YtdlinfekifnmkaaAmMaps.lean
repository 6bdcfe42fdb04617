/- The abstract machine of these proofs, part 10: append to nil and to literals; equality of structs; maps. Conditions: none. -/
import Derived.Test.YtdlinfekifnmkaaAmApp
set_option linter.unusedVariables false
set_option linter.unusedSimpArgs false
namespace Go.Proofs.YtdlinfekifnmkaaAm

section
variable {P : Program} {C : Cx} {H : Heap} {d : Option Tmp} {ty : TypeId} {pos : String} {af : Array Edge} {g : Option (Nat × Bool)} {ev : Operand → AV}

theorem exec_append {a : Act} {s x : Operand} {tt : TypeId} {u v : Value} (hu : a.eval s = u) (hv : a.eval x = v) {v' : Value} {w w' : World} (hr : (Builtin.append_ #[tt, tt] ty #[u, v]).run P w = .ok v' w') :
    (execOp a.eval ⟨d, .call { callee := .builtin .append, args := #[s, x], argTypes := #[tt, tt] }, ty, pos, af, g⟩).run P w = .ok (.value v') w' := by
  have e1 : #[s, x].map a.eval = #[u, v] := by simp [hu, hv]
  simp only [execOp, resolve, Sem.run_bind, Sem.run_pure, Result.andThen_ok, invoke, e1, builtin, hr]

/-- append to nil: a slice of the call's own. -/
theorem e_apN {tt e : TypeId} {s x : Operand} {sz by_ m : Nat} {zs : List Value} {es2 : List (List AV)} (ht : P.underlying tt = some (.slice e)) (hsz : szOf P e = some sz) (hby : byOf P e = some by_) (hz : zeroOf P e = some zs)
    (hs : ev s = .lit (.slice none 0 0)) (hx : SV H (ev x) es2) (hes2 : ∀ c ∈ es2, c.length = sz) (hok : ∀ c ∈ es2, c.all cell1 = true)
    (hbytes : es2.length * by_ ≤ 140737488355328) (hz0 : 0 < sz) (hby0 : 0 < by_) (hzl : zs.length = sz) (hm : es2.length = m) :
    EOp P ⟨d, .call { callee := .builtin .append, args := #[s, x], argTypes := #[tt, tt] }, ty, pos, af, g⟩ ev H (fun r H' => ∃ v, r = .sl v 0 m ∧ H' = (v, .arr e sz es2) :: H) := by
  refine eop_of fun C a ok hh he => ?_
  subst hm
  have h1 := he s (by simp [Op.operands, Call.operands])
  have h2 := he x (by simp [Op.operands, Call.operands])
  rw [hs] at h1
  have h1 := rv_lit h1
  obtain ⟨⟨i, z, hi, hiz, his, hib, hzs⟩⟩ := einfo (P := P) hsz hz hzl hby
  obtain ⟨B, c2, news, hvx, hnl, hnews, hnrv⟩ := src_cells (sz := sz) hh hx h2 hes2 hz0
  by_cases hm0 : es2.length = 0
  · have hes0 : es2 = [] := List.eq_nil_of_length_eq_zero hm0
    subst hes0
    have hr := run_append_zero (P := P) (ty := ty) ht hi none B 0 0 c2 (Nat.le_refl _) C.w
    have hle : Le (fun _ => False) C { C with ph := fun u => if u = C.gen then ⟨none, 0, sz⟩ else C.ph u, gen := C.gen + 1 } :=
      ⟨rfl, rfl, rfl, Nat.le_refl _, by simp, fun u hu => by simp only; rw [if_neg (by omega)], fun _ _ _ => ⟨rfl, rfl⟩⟩
    refine ⟨{ C with ph := fun u => if u = C.gen then ⟨none, 0, sz⟩ else C.ph u, gen := C.gen + 1 }, _, .sl C.gen 0 0, _, exec_append h1 hvx hr, ⟨C.gen, rfl, rfl⟩, ⟨fun j u h => ⟨(ok.own j u h).1, by have := (ok.own j u h).2; simp; omega⟩⟩, hle.mono fun _ h => h.elim, add_new _, ⟨?_, fun u o ho => ?_⟩, ?_⟩
    · rw [List.map_cons, List.nodup_cons]
      exact ⟨fun hm => absurd (hh.lt hm) (by omega), hh.nodup⟩
    · rcases List.mem_cons.1 ho with h | h
      · simp only [Prod.mk.injEq] at h
        obtain ⟨rfl, rfl⟩ := h
        exact ⟨by simp, by simp, by simp, by simp [maxLen], by simp, .inl (by simp)⟩
      · exact (hh.ob u o h).le ok hle (fun h => h)
    · exact .sl (by simp) (Nat.le_refl _) (by simp) (fun h => by simp at h) rfl (by simp)
  · have hmpos : 0 < es2.length := by omega
    have hne2 : ¬ es2 = [] := fun h => hm0 (by rw [h]; rfl)
    obtain ⟨aB, rfl, hnc⟩ := hnews.resolve_left hne2
    have hlen47 : es2.length ≤ 140737488355328 := Nat.le_trans (Nat.le_mul_of_pos_right _ hby0) hbytes
    have hr := run_append_nil (P := P) C.w tt ty e i z ht hi hiz aB es2.length c2 news (by rw [his]; exact hnl) (fun j v hv => hnc j v hv) hmpos (by omega) (by rw [hib]; omega)
    have hcap1 := grownCap_ge C.w es2.length 0 e
    have hcap2 := grownCap_le_maxLen C.w es2.length 0 e (by simp only [maxLen]; omega)
    have ok1 := drew_ok ok
    have hh1 : HRel C.drew H := hh.le ok (drew_le (fun _ => False)) (fun _ _ h => h)
    have hb := bears_grown (C := C.drew) (olds := []) (news := news) (rest := Builtin.zeroCells z.cells (grownCap C.w es2.length 0 e - es2.length)) (es := []) (es2 := es2) (sz := sz) (by simp) hnl hes2 (by simp) (by simp) (fun k y hk j x' hj => by
      obtain ⟨v, k1, k2⟩ := hnrv k y hk j x' hj
      exact ⟨v, k1, k2.le (drew_le (fun _ => False))⟩)
    simp only [List.nil_append, Array.empty_append] at hb
    have hob := obrel_row (C := C.drew) (e := e) hcap1 hcap2 hes2 (by simp only [Array.size_append, List.size_toArray, size_zeroCells, hzs, hnl, ← Nat.add_mul]; apply Nat.mul_le_mul_right; omega) hb
    have hrel := add_rel ok1 hh1 hob
    have hle1 := (drew_le (C := C) (fun _ => False)).trans ok (add_le (C := C.drew) (fun _ => False) (.cells (news.toArray ++ Builtin.zeroCells z.cells (grownCap C.w es2.length 0 e - es2.length)) e) ⟨some ⟨C.w.heap.size, 0, none⟩, grownCap C.w es2.length 0 e, sz⟩) (fun _ h => h.elim)
    exact ⟨C.drew.add (.cells (news.toArray ++ Builtin.zeroCells z.cells (grownCap C.w es2.length 0 e - es2.length)) e) ⟨some ⟨C.w.heap.size, 0, none⟩, grownCap C.w es2.length 0 e, sz⟩, _, .sl C.gen 0 es2.length, _, exec_append h1 hvx hr, ⟨C.gen, rfl, rfl⟩, add_ok ok1 _ _, hle1.mono fun _ h => h.elim, add_new _, hrel, sl_new hcap1⟩

/-- append to a literal (its capacity is its length), or to nil: what comes out is only read. -/
theorem q_apC {tt e : TypeId} {s x : Operand} {sz by_ : Nat} {zs : List Value} {es es2 es3 : List (List AV)} (ht : P.underlying tt = some (.slice e)) (hsz : szOf P e = some sz) (hby : byOf P e = some by_) (hz : zeroOf P e = some zs)
    (hs : ev s = .cro es ∨ (ev s = .lit (.slice none 0 0) ∧ es = [])) (hx : SV H (ev x) es2) (hes : ∀ c ∈ es, c.length = sz) (hes2 : ∀ c ∈ es2, c.length = sz)
    (hbytes : (es.length + es2.length) * by_ ≤ 140737488355328) (hz0 : 0 < sz) (hby0 : 0 < by_) (hzl : zs.length = sz) (h3 : es ++ es2 = es3) :
    QOp P ⟨d, .call { callee := .builtin .append, args := #[s, x], argTypes := #[tt, tt] }, ty, pos, af, g⟩ ev H (.ro es3) := by
  subst h3
  refine qop_of fun C a ok hh he => ?_
  have h1 := he s (by simp [Op.operands, Call.operands])
  have h2 := he x (by simp [Op.operands, Call.operands])
  obtain ⟨⟨i, z, hi, hiz, his, hib, hzs⟩⟩ := einfo (P := P) hsz hz hzl hby
  obtain ⟨B, c2, news, hvx, hnl, hnews, hnrv⟩ := src_cells (sz := sz) hh hx h2 hes2 hz0
  have hro : RV C (.ro es) (a.eval s) ∧ ∃ A, a.eval s = .slice A es.length es.length ∧ (A = none → es = []) := by
    rcases hs with hs | ⟨hs, rfl⟩
    · rw [hs] at h1
      cases h1 with
      | cro A hv h =>
        refine ⟨h, ?_⟩
        obtain ⟨A', n', c', size, vs, e1, e2, _, _, hsizes, hcell, _⟩ := cells_of_ro h
        rw [hv] at e1
        injection e1 with e3 e4 e5
        subst e4
        rw [hv, e2]
        refine ⟨A, rfl, fun hA => ?_⟩
        rcases es with _ | ⟨e0, es⟩
        · rfl
        · obtain ⟨x0, hx0⟩ : ∃ x0, e0[0]? = some x0 := ⟨e0[0]'(by rw [hes e0 (by simp)]; exact hz0), List.getElem?_eq_getElem _⟩
          obtain ⟨a1, ha1, _⟩ := hcell 0 e0 rfl 0 x0 hx0
          rw [← e3, hA] at ha1
          cases ha1
    · rw [hs] at h1
      have h1 := rv_lit h1
      rw [h1]
      exact ⟨.ro (size := 0) (fun _ _ => undef) rfl (Nat.le_refl _) (Nat.zero_le _) (by simp) (by simp) (by simp), none, rfl, fun _ => rfl⟩
  obtain ⟨hro1, A, hvs, hAn⟩ := hro
  by_cases hm0 : es2.length = 0
  · have hes0 : es2 = [] := List.eq_nil_of_length_eq_zero hm0
    subst hes0
    have hr := run_append_zero (P := P) (ty := ty) ht hi A B es.length es.length c2 (Nat.le_refl _) C.w
    refine ⟨C, _, exec_append hvs hvx hr, ok, Le.refl _ _, ?_⟩
    rw [List.append_nil, ← hvs]
    exact hro1
  · have hmpos : 0 < es2.length := by omega
    have hne2 : ¬ es2 = [] := fun h => hm0 (by rw [h]; rfl)
    obtain ⟨aB, rfl, hnc⟩ := hnews.resolve_left hne2
    have hlen47 : es.length + es2.length ≤ 140737488355328 := Nat.le_trans (Nat.le_mul_of_pos_right _ hby0) hbytes
    obtain ⟨A', n', c', size, vs, e1, e2, _, _, hsizes, hcell, hrv0⟩ := cells_of_ro hro1
    rw [hvs] at e1
    injection e1 with e3 e4 e5
    obtain ⟨olds, ho1, ho2, ho3⟩ : ∃ olds : List Value, olds.length = es.length * sz ∧ (∀ b, A = some b → ∀ k u, olds[k]? = some u → C.w.cell? (b.add k) = some u) ∧ ∀ (i : Nat) (e : List AV), es[i]? = some e → ∀ (j : Nat) (x : AV), e[j]? = some x → ∃ u, olds[i * sz + j]? = some u ∧ RV C x u := by
      cases hA : A with
      | none =>
        have hes0 := hAn hA
        subst hes0
        exact ⟨[], by simp, fun b hb => (by cases hb), by simp⟩
      | some b =>
        obtain ⟨olds, k1, k2, k3⟩ := cells_list (C := C) (F := fun k u => C.w.cell? (b.add k) = some u) hes hz0 (fun i e he j x hx => by
          have hsize : size = sz := by rw [← hsizes e (List.mem_of_getElem? he), hes e (List.mem_of_getElem? he)]
          subst hsize
          obtain ⟨a1, ha1, _, hc1⟩ := hcell i e he j x hx
          rw [← e3, hA] at ha1
          injection ha1 with ha1
          subst ha1
          exact ⟨_, hc1, hrv0 i e he j x hx⟩)
        exact ⟨olds, k1, fun b' hb' => by injection hb' with hb'; subst hb'; exact k2, k3⟩
    have hfitb : Builtin.nextslicecap (es.length + es2.length) es.length * i.bytes ≤ 281474976710656 := growslice_fits (by omega) (by rw [hib]; exact hbytes)
    have hcap1 := grownCap_ge C.w (es.length + es2.length) es.length e
    have hcap2 := grownCap_le_maxLen C.w (es.length + es2.length) es.length e (by simp only [maxLen]; omega)
    have hr : (Builtin.append_ #[tt, tt] ty #[.slice A es.length es.length, .slice (some aB) es2.length c2]).run P C.w = .ok (.slice (some ⟨C.w.heap.size, 0, none⟩) (es.length + es2.length) (grownCap C.w (es.length + es2.length) es.length e))
        (C.w.drew.alloc (.cells (olds.toArray ++ news.toArray ++ Builtin.zeroCells z.cells (grownCap C.w (es.length + es2.length) es.length e - (es.length + es2.length))) e)) := by
      cases hA : A with
      | some b => exact run_append_grow (P := P) C.w tt ty e i z ht hi hiz b es.length es.length olds (by rw [his]; exact ho1) (fun j v hv => ho2 b hA j v hv) aB es2.length c2 news (by rw [his]; exact hnl) (fun j v hv => hnc j v hv) (by omega) (by omega) hfitb
      | none =>
        have hes0 := hAn hA
        subst hes0
        have hol : olds = [] := List.eq_nil_of_length_eq_zero (by rw [ho1]; simp)
        subst hol
        simp only [List.length_nil, Nat.zero_add] at hfitb ⊢
        rw [nextslicecap_zero hmpos] at hfitb
        have := run_append_nil (P := P) C.w tt ty e i z ht hi hiz aB es2.length c2 news (by rw [his]; exact hnl) (fun j v hv => hnc j v hv) hmpos (by omega) hfitb
        simpa using this
    have ok1 := drew_ok ok
    have hb := bears_grown (C := C.drew) (olds := olds) (news := news) (rest := Builtin.zeroCells z.cells (grownCap C.w (es.length + es2.length) es.length e - (es.length + es2.length))) (es := es) (es2 := es2) (sz := sz) ho1 hnl hes2 hes
      (fun k y hk j x' hj => by obtain ⟨v, k1, k2⟩ := ho3 k y hk j x' hj; exact ⟨v, k1, k2.le (drew_le (fun _ => False))⟩)
      (fun k y hk j x' hj => by obtain ⟨v, k1, k2⟩ := hnrv k y hk j x' hj; exact ⟨v, k1, k2.le (drew_le (fun _ => False))⟩)
    have hle1 := (drew_le (C := C) (fun _ => False)).trans ok (grow_le (C := C.drew) (fun _ => False) (.cells (olds.toArray ++ news.toArray ++ Builtin.zeroCells z.cells (grownCap C.w (es.length + es2.length) es.length e - (es.length + es2.length))) e)) (fun _ h => h.elim)
    refine ⟨C.drew.grow (.cells (olds.toArray ++ news.toArray ++ Builtin.zeroCells z.cells (grownCap C.w (es.length + es2.length) es.length e - (es.length + es2.length))) e), _, exec_append hvs hvx hr, grow_ok ok1 _, hle1, ?_⟩
    generalize olds.toArray ++ news.toArray ++ Builtin.zeroCells z.cells (grownCap C.w (es.length + es2.length) es.length e - (es.length + es2.length)) = cur at hb hle1
    have hex : ∀ i j, ∃ v, ∀ x y, (es ++ es2)[i]? = some x → x[j]? = some y → cur[i * sz + j]? = some v ∧ RV (C.drew.grow (.cells cur e)) y v := fun i j => by
      by_cases hx : ∃ x y, (es ++ es2)[i]? = some x ∧ x[j]? = some y
      · obtain ⟨x, y, hx, hy⟩ := hx
        obtain ⟨v, h6, h7⟩ := hb i x hx j y hy
        refine ⟨v, fun x' y' hx' hy' => ?_⟩
        rw [hx] at hx'
        injection hx' with hx'
        subst hx'
        rw [hy] at hy'
        injection hy' with hy'
        subst hy'
        exact ⟨by simpa using h6, h7.le (grow_le (fun _ => False) _)⟩
      · exact ⟨undef, fun x y h6 h7 => absurd ⟨x, y, h6, h7⟩ hx⟩
    refine .ro (size := sz) (fun i j => Classical.choose (hex i j)) (by simp) hcap1 hcap2 (fun c hc => (List.mem_append.1 hc).elim (hes c) (hes2 c)) (fun i x hx j y hy => ?_) (fun i x hx j y hy => ?_)
    · have h6 := (Classical.choose_spec (hex i j) x y hx hy).1
      refine ⟨_, rfl, grow_U ok1 _, ?_⟩
      rw [add_plain, Nat.zero_add]
      exact (cell_of_row (C.w.drew.alloc (.cells cur e)) C.w.heap.size _ cur e (0, 0) (heap_alloc_new _ _)).trans h6
    · exact (Classical.choose_spec (hex i j) x y hx hy).2

/-- 'xs == nil' of what is read: which of the two it is where there are no elements is not known. -/
theorem run_eql_slice_nil' {tt e : TypeId} (ht : P.underlying tt = some (.slice e)) (x y : Operand) (A : Option Addr) (n c : Nat) (w : World) : (do eqGuard .eql tt x y (.slice A n c) (.slice none 0 0); binOp .eql tt (.slice A n c) (.slice none 0 0) : Sem Value).run P w = .ok (.bool A.isNone) w := by
  have h1 : (eqGuard .eql tt x y (.slice A n c) (.slice none 0 0)).run P w = .ok () w := by simp [eqGuard]
  have h2 : binOp .eql tt (.slice A n c) (.slice none 0 0) = (do pure (.bool (← Op.equal tt (.slice A n c) (.slice none 0 0)))) := rfl
  have h3 : (Op.equal tt (.slice A n c) (.slice none 0 0)).run P w = .ok A.isNone w := by
    unfold Op.equal Op.maxDepth
    cases A with
    | none => rw [Op.equalIn]; simp [run_under ht]
    | some a => rw [Op.equalIn]; simp [run_under ht]
  rw [h2]
  simp [h1, h3]
theorem e_eqnil {tt e t2 : TypeId} {x y : Operand} {es : List (List AV)} {sz : Nat} (ht : P.underlying tt = some (.slice e)) (hx : ev x = .ro es) (hy : ev y = .lit (.slice none 0 0)) (hes : ∀ c ∈ es, c.length = sz) (hz : 0 < sz) :
    EOp P ⟨d, .binOp .eql tt x y t2, ty, pos, af, g⟩ ev H (fun r H' => ∃ b, r = .lit (.bool b) ∧ (b = true → es = []) ∧ H' = H) := by
  refine eop_of fun C a ok hh he => ?_
  have h1 := he x (by simp [Op.operands])
  have h2 := he y (by simp [Op.operands])
  rw [hx] at h1
  rw [hy] at h2
  obtain ⟨A, n, c, size, vs, hv, hn, hc, hm, hsizes, hcell, hrv⟩ := cells_of_ro h1
  refine ⟨C, .bool A.isNone, .lit (.bool A.isNone), H, ?_, ⟨A.isNone, rfl, fun hA => ?_, rfl⟩, ok, Le.refl _ _, New.refl _ _, hh, .lit⟩
  · exact exec_v (s := do eqGuard .eql tt x y (a.eval x) (a.eval y); binOp .eql tt (a.eval x) (a.eval y)) rfl (by rw [hv, rv_lit h2]; exact run_eql_slice_nil' ht x y A n c C.w)
  · rcases es with _ | ⟨e0, es⟩
    · rfl
    · obtain ⟨x0, hx0⟩ : ∃ x0, e0[0]? = some x0 := ⟨e0[0]'(by rw [hes e0 (by simp)]; exact hz), List.getElem?_eq_getElem _⟩
      obtain ⟨a1, ha1, _⟩ := hcell 0 e0 rfl 0 x0 hx0
      rw [ha1] at hA
      cases hA

/-! ### Equality of structs, as one Bool -/
inductive NLits : List AV → List Value → Prop where
  | nil : NLits [] []
  | cons {v : Value} {xs : List AV} {vs : List Value} (h : NLits xs vs) : NLits (.lit v :: xs) (v :: vs)
theorem NLits.rv {xs : List AV} {vs : List Value} (h : NLits xs vs) {v : Value} (hv : RV C (.agg xs) v) : v = .agg vs.toArray := by
  cases hv with
  | agg hs hrv =>
    rename_i us
    congr 1
    have key : ∀ (xs : List AV) (vs us : List Value), NLits xs vs → us.length = xs.length → (∀ (j : Nat) (x : AV), xs[j]? = some x → RV C x (us.getD j undef)) → us = vs := by
      intro xs vs us h
      induction h generalizing us with
      | nil => intro hl _; exact List.eq_nil_of_length_eq_zero (by simpa using hl)
      | cons h ih =>
        intro hl hr
        rcases us with _ | ⟨u, us⟩
        · simp at hl
        · have h0 := hr 0 _ rfl
          simp at h0
          rw [rv_lit h0, ih us (by simpa using hl) (fun j x hj => by have := hr (j + 1) x (by simpa using hj); simpa using this)]
    have := key xs vs us.toList h (by simpa using hs) (fun j x hj => by have := hrv j x hj; simpa [List.getD_eq_getElem?_getD, Array.getD_eq_getD_getElem?] using this)
    rw [← this]

theorem q_eqlA {tt t2 : TypeId} {x y : Operand} {cs ds : List AV} {us vs : List Value} {b : Bool} (hg : P.eqGuardType P.depth tt = false) (hx : ev x = .agg cs) (hy : ev y = .agg ds) (h1 : NLits cs us) (h2 : NLits ds vs)
    (he : ∀ w, (Op.equalIn 10000 tt (.agg us.toArray) (.agg vs.toArray)).run P w = .ok b w) : QOp P ⟨d, .binOp .eql tt x y t2, ty, pos, af, g⟩ ev H (.lit (.bool b)) :=
  qop_same (s := fun ρ => do eqGuard .eql tt x y (ρ x) (ρ y); binOp .eql tt (ρ x) (ρ y)) (fun ρ => rfl) fun C a ok hh hev => by
    have k1 := hev x (by simp [Op.operands])
    have k2 := hev y (by simp [Op.operands])
    rw [hx] at k1
    rw [hy] at k2
    rw [h1.rv k1, h2.rv k2]
    refine ⟨.bool b, ?_, .lit⟩
    simp [run_eqGuard_agg _ _ _ _ _ _ _ hg, run_eql_struct, he]
theorem q_neqA {tt t2 : TypeId} {x y : Operand} {cs ds : List AV} {us vs : List Value} {b : Bool} (hg : P.eqGuardType P.depth tt = false) (hx : ev x = .agg cs) (hy : ev y = .agg ds) (h1 : NLits cs us) (h2 : NLits ds vs)
    (he : ∀ w, (Op.equalIn 10000 tt (.agg us.toArray) (.agg vs.toArray)).run P w = .ok b w) : QOp P ⟨d, .binOp .neq tt x y t2, ty, pos, af, g⟩ ev H (.lit (.bool (!b))) :=
  qop_same (s := fun ρ => do eqGuard .neq tt x y (ρ x) (ρ y); binOp .neq tt (ρ x) (ρ y)) (fun ρ => rfl) fun C a ok hh hev => by
    have k1 := hev x (by simp [Op.operands])
    have k2 := hev y (by simp [Op.operands])
    rw [hx] at k1
    rw [hy] at k2
    rw [h1.rv k1, h2.rv k2]
    refine ⟨.bool (!b), ?_, .lit⟩
    simp [run_eqGuard_agg _ _ _ _ _ _ _ hg, run_neq_struct, he]

theorem eqf_last {k : Nat} {xs ys : Array Value} {f : Field} {a b : Value} {r : Bool} {w : World} (hn : (f.name == "_") = false) (ha : (part f.type xs f.offset).run P w = .ok a w) (hb : (part f.type ys f.offset).run P w = .ok b w) (he : (Op.equalIn k f.type a b).run P w = .ok r w) :
    (Op.eqFields k xs ys [f]).run P w = .ok r w := by
  have hn' : f.name ≠ "_" := by simpa using hn
  simp only [Op.eqFields, if_pos hn', Sem.run_bind, ha, hb, he, Result.andThen_ok]
  cases r <;> simp
theorem eqf_cons {k : Nat} {xs ys : Array Value} {f : Field} {fs : List Field} {a b : Value} {r s : Bool} {w : World} (hn : (f.name == "_") = false) (ha : (part f.type xs f.offset).run P w = .ok a w) (hb : (part f.type ys f.offset).run P w = .ok b w)
    (he : (Op.equalIn k f.type a b).run P w = .ok r w) (hr : (Op.eqFields k xs ys fs).run P w = .ok s w) : (Op.eqFields k xs ys (f :: fs)).run P w = .ok (r && s) w := by
  have hn' : f.name ≠ "_" := by simpa using hn
  rw [Op.eqFields]
  simp only [if_pos hn', Sem.run_bind, ha, hb, he, Result.andThen_ok]
  cases r
  · simp
  · simpa using hr
theorem eqA_of {k : Nat} {tt : TypeId} {fs : Array Field} {xs ys : Array Value} {r : Bool} {w : World} (hu : P.underlying tt = some (.struct fs)) (hp : P.stoodInHeld tt = false) (h : (Op.eqFields k xs ys fs.toList).run P w = .ok r w) :
    (Op.equalIn (k + 1) tt (.agg xs) (.agg ys)).run P w = .ok r w := by
  have hf : P.fieldsOf tt = fs := by simp [Program.fieldsOf, hu]
  rw [run_equalIn_struct (P := P) w k tt xs ys (by rw [hf]; exact hu) hp, hf]
  exact h
theorem part_scalar {tt : TypeId} (h : isAg P tt = some false) {cs : Array Value} {off : Nat} {v : Value} (hv : cs[off]? = some v) (w : World) : (part tt cs off).run P w = .ok v w := by
  simp [part, run_isAg h, hv]
theorem part_agg {tt : TypeId} {sz : Nat} (h : isAg P tt = some true) (hs : szOf P tt = some sz) {cs : Array Value} {off : Nat} {vs : Array Value} (hv : cs.extract off (off + sz) = vs) (w : World) : (part tt cs off).run P w = .ok (.agg vs) w := by
  simp [part, run_isAg h, run_szOf hs, hv]
end

end Go.Proofs.YtdlinfekifnmkaaAm
