/- Maps that the call makes. Conditions: none but the keys' law. -/
import Derived.Test.YtdlinfekifnmkaaAmBstr
import Derived.ChangeMaps5
import Derived.DeepKeys4
import Derived.WideKeyMaps
set_option linter.unusedVariables false
set_option linter.unusedSimpArgs false
namespace Go.Proofs.YtdlinfekifnmkaaAm
open Go.Proofs Go.ChangeMaps

/-- What is known of keys: they are looked for by equality. -/
structure KL (P : Program) (k : TypeId) (D : Value → Prop) : Prop where
  check : ∀ (w : World) (em : Bool) {v : Value}, D v → (Instr.checkKey em 10000 k v).run P w = .ok () w
  find : ∀ (w : World) {x : Value}, D x → ∀ es : List MapEntry, (∀ e ∈ es, D e.key) →
    ((Instr.findKey k x es).run P w = .ok none w ∧ ∀ e ∈ es, e.key ≠ x) ∨ ∃ j e, (Instr.findKey k x es).run P w = .ok (some (j, e.val)) w ∧ es[j]? = some e ∧ e.key = x
  stays : ∀ (w : World) {v : Value}, D v → (Instr.keyThatStays v v).run P w = .ok v w

theorem KL.of {P : Program} {k : TypeId} (K : WideMaps.KeyLaw P k) : KL P k (fun v => ∃ l, keyOf P k v = some l) where
  check := fun w em _ h => K.check w em h.choose_spec
  find := fun w _ h es hes => K.find w h.choose_spec es hes
  stays := fun w _ h => K.stays w h.choose_spec

theorem find_ints {P : Program} {k : TypeId} {kd : IntKind} (hk : P.underlying k = some (.int kd)) (w : World) (n : Int) : ∀ (es : List MapEntry) (i : Nat), (∀ e ∈ es, ∃ m, e.key = .int kd m) →
    (Instr.findNow (.int kd) (.int kd n) es i = some none ∧ ∀ e ∈ es, e.key ≠ .int kd n) ∨ ∃ j e, Instr.findNow (.int kd) (.int kd n) es i = some (some (i + j, e.val)) ∧ es[j]? = some e ∧ e.key = .int kd n
  | [], i, _ => .inl ⟨rfl, by simp⟩
  | e :: es, i, h => by
    obtain ⟨m, hm⟩ := h e (by simp)
    by_cases hmn : n = m
    · subst hmn
      refine .inr ⟨0, e, ?_, rfl, hm⟩
      simp [Instr.findNow, Instr.sameNow, hm]
    · have hne : (n == m) = false := by simpa using hmn
      rcases find_ints hk w n es (i + 1) (fun e he => h e (by simp [he])) with ⟨h1, h2⟩ | ⟨j, e', h1, h2, h3⟩
      · refine .inl ⟨by simp [Instr.findNow, Instr.sameNow, hm, hne, h1], fun e' he' => ?_⟩
        rcases List.mem_cons.1 he' with rfl | he'
        · rw [hm]; simpa using fun h => hmn h.symm
        · exact h2 e' he'
      · refine .inr ⟨j + 1, e', ?_, by simpa using h2, h3⟩
        simp [Instr.findNow, Instr.sameNow, hm, hne, h1]
        omega
theorem KL.int {P : Program} {k : TypeId} {kd : IntKind} (hk : P.underlying k = some (.int kd)) : KL P k (fun v => ∃ n, v = .int kd n) where
  check := fun w em v h => by
    obtain ⟨n, rfl⟩ := h
    unfold Instr.checkKey
    simp only [Sem.run_bind, run_under hk, Result.andThen_ok]
    rfl
  find := fun w x h es hes => by
    obtain ⟨n, rfl⟩ := h
    rcases find_ints hk w n es 0 hes with ⟨h1, h2⟩ | ⟨j, e, h1, h2, h3⟩
    · exact .inl ⟨by simp [Instr.findKey, run_under hk, h1], h2⟩
    · exact .inr ⟨j, e, by simp [Instr.findKey, run_under hk, h1], h2, h3⟩
  stays := fun w v h => by
    obtain ⟨n, rfl⟩ := h
    have : Instr.sameBits 10000 (.int kd n) (.int kd n) = true := by
      show Instr.sameBits (9999 + 1) (.int kd n) (.int kd n) = true
      simp [Instr.sameBits]
    simp [Instr.keyThatStays, this]

/-- An abstract value that is a value. -/
inductive KV : AV → Value → Prop where
  | lit {v : Value} : KV (.lit v) v
  | agg {vs : List Value} : KV (.agg (vs.map .lit)) (.agg vs.toArray)
theorem KV.val {C : Cx} {x : AV} {k v : Value} (h : KV x k) (hr : RV C x v) : v = k := by
  cases h with
  | lit => exact rv_lit hr
  | @agg vs =>
    cases hr with
    | @agg _ us hs hrv =>
      congr 1
      apply Array.ext
      · simpa using hs
      · intro i h1 h2
        have hi : i < vs.length := by simpa using h2
        have := hrv i (.lit vs[i]) (by simp [hi])
        have := rv_lit this
        simpa [h1] using this

/-- The zero value of a type, as a value. -/
def zvOf (P : Program) (t : TypeId) : Option Value := (P.info? t).bind (·.zero)
theorem run_zvOf {P : Program} {t : TypeId} {z : Value} (h : zvOf P t = some z) (w : World) : (zeroValue t).run P w = .ok z w := by
  unfold zvOf at h
  cases hi : P.info? t with
  | none => simp [hi] at h
  | some i => simp [hi] at h; simp [zeroValue, typeInfo, hi, h]
theorem hset_eq {C : Cx} {H H2 : Heap} {q u : Nat} {o : Ob} {p : Nat × Ob} (hh : HRel C H) (hq : H[q]? = some (u, o)) (hH : HSet H u p H2) : H2 = H.set q p := by
  obtain ⟨q', o', hq', rfl⟩ := hH.at
  have a1 : (H.map (·.1))[q]? = some u := by simp [hq]
  have a2 : (H.map (·.1))[q']? = some u := by simp [hq']
  have l1 := (List.getElem?_eq_some_iff.1 a1).1
  have l2 := (List.getElem?_eq_some_iff.1 a2).1
  have e1 := (List.getElem?_eq_some_iff.1 a1).2
  have e2 := (List.getElem?_eq_some_iff.1 a2).2
  have : q = q' := (List.getElem_inj hh.nodup).1 (e1.trans e2.symm)
  rw [this]

def lkR (kvs : List (Value × AV)) (key : Value) (z r : AV) : Prop := (∃ j : Nat, kvs[j]? = some (key, r)) ∨ ((∀ p ∈ kvs, p.1 ≠ key) ∧ r = z)
def upR (kvs : List (Value × AV)) (key : Value) (x : AV) (kvs' : List (Value × AV)) : Prop := (∃ (j : Nat) (y : AV), kvs[j]? = some (key, y) ∧ kvs' = kvs.set j (key, x)) ∨ ((∀ p ∈ kvs, p.1 ≠ key) ∧ kvs' = kvs ++ [(key, x)])
def dlR (kvs : List (Value × AV)) (key : Value) (kvs' : List (Value × AV)) : Prop := (∃ (j : Nat) (y : AV), kvs[j]? = some (key, y) ∧ kvs' = kvs.eraseIdx j) ∨ ((∀ p ∈ kvs, p.1 ≠ key) ∧ kvs' = kvs)

/-- A map's block is written. -/
def Cx.wm (C : Cx) (g : Nat) (o : Obj) : Cx := { C with w := setBlock C.w g o }
theorem wm_ok {C : Cx} (ok : C.Ok) (g : Nat) (o : Obj) : (C.wm g o).Ok := ⟨fun j u h => ⟨by have := (ok.own j u h).1; simpa [Cx.wm, setBlock] using this, (ok.own j u h).2⟩⟩
theorem wm_le {C : Cx} {g u : Nat} (hk : C.own g = some u) (o : Obj) : Le (fun v => v = u) C (C.wm g o) :=
  ⟨rfl, rfl, rfl, by simp [Cx.wm, setBlock], Nat.le_refl _, fun _ _ => rfl, fun j hj hn => ⟨by
    have : j ≠ g := fun e => hn u rfl (by rw [e]; exact hk)
    simp [Cx.wm, setBlock, Array.getElem?_setIfInBounds, Ne.symm this], rfl⟩⟩

section
variable {P : Program} {d : Option Tmp} {ty : TypeId} {pos : String} {af : Array Edge} {g : Option (Nat × Bool)} {ev : Operand → AV} {H : Heap}

theorem e_mm {tt : TypeId} : EOp P ⟨d, .makeMap tt none, ty, pos, af, g⟩ ev H (fun r H' => ∃ u, r = .mp u ∧ H' = (u, .map []) :: H) :=
  eop_of fun C a ok hh he => by
    refine ⟨C.add (.map #[] 0) ⟨some ⟨C.w.heap.size, 0, none⟩, 0, 0⟩, .map (some C.w.heap.size), .mp C.gen, _, ?_, ⟨C.gen, rfl, rfl⟩, add_ok ok _ _, add_le _ _ _, add_new _, add_rel ok hh ?_, .mp (by simp [Cx.add]) (by simp [Cx.add])⟩
    · show (execOp a.eval ⟨d, .makeMap tt none, ty, pos, af, g⟩).run P C.w = .ok (.value (.map (some C.w.heap.size))) (C.w.alloc (.map #[] 0))
      simp [execOp, Instr.makeMap]
    · exact ⟨by simp [Cx.add], C.w.heap.size, #[], 0, by simp [Cx.add], (Go.MapKept.heap_alloc _ _).1, by simp [Cx.add], by simp, by simp, by simp⟩

theorem ob_map {C : Cx} {u : Nat} {kvs : List (Value × AV)} {v : Value} (ho : ObRel C u (.map kvs)) (hr : RV C (.mp u) v) :
    ∃ (gb : Nat) (ents : Array MapEntry) (clock : Nat), v = .map (some gb) ∧ (C.ph u).A = some ⟨gb, 0, none⟩ ∧ C.w.heap[gb]? = some (.map ents clock) ∧ C.own gb = some u ∧ ents.size = kvs.length ∧ kvs.length ≤ clock ∧
      ∀ (i : Nat) (k : Value) (x : AV), kvs[i]? = some (k, x) → ∃ en : MapEntry, ents[i]? = some en ∧ en.key = k ∧ RV C x en.val := by
  obtain ⟨h1, gb, ents, clock, hA, hg, hown, hsz, hcl, hen⟩ := ho
  cases hr with
  | mp hu ha =>
    rw [hA] at ha
    injection ha with ha
    injection ha with ha
    subst ha
    exact ⟨_, ents, clock, rfl, hA, hg, hown, hsz, hcl, hen⟩

/-- The entries of a map, by index. -/
theorem ent_kv {C : Cx} {kvs : List (Value × AV)} {ents : Array MapEntry} (hsz : ents.size = kvs.length) (hen : ∀ (i : Nat) (k : Value) (x : AV), kvs[i]? = some (k, x) → ∃ en : MapEntry, ents[i]? = some en ∧ en.key = k ∧ RV C x en.val)
    {i : Nat} {e : MapEntry} (he : ents.toList[i]? = some e) : ∃ x, kvs[i]? = some (e.key, x) ∧ RV C x e.val := by
  have hi : i < kvs.length := by
    have := (List.getElem?_eq_some_iff.1 he).1
    simp at this; omega
  obtain ⟨en, h1, h2, h3⟩ := hen i kvs[i].1 kvs[i].2 (by rw [List.getElem?_eq_getElem hi])
  have : ents.toList[i]? = some en := by simpa using h1
  rw [this] at he
  injection he with he
  subst he
  exact ⟨kvs[i].2, by rw [List.getElem?_eq_getElem hi, h2], h3⟩

theorem e_lk {tt kt et : TypeId} {x ix : Operand} {u : Nat} {D : Value → Prop} {key : Value} {kvs : List (Value × AV)} {z : Value} (ht : P.underlying tt = some (.map kt et)) (K : KL P kt D) (hz0 : zvOf P et = some z)
    (hx : ev x = .mp u) (hq : HAt H u (.map kvs)) (hk : KV (ev ix) key) (hD : D key) (hDs : ∀ p ∈ kvs, D p.1) :
    EOp P ⟨d, .lookup tt x ix false, ty, pos, af, g⟩ ev H (fun r H' => lkR kvs key (ofV z) r ∧ H' = H) :=
  eop_of fun C a ok hh he => by
    have hz := run_zvOf (P := P) hz0
    have h1 := he x (by simp [Op.operands])
    have h2 := he ix (by simp [Op.operands])
    rw [hx] at h1
    obtain ⟨q, hq⟩ := hq.at
    obtain ⟨gb, ents, clock, hv, hA, hg, hown, hsz, hcl, hen⟩ := ob_map (hh.at hq) h1
    have hkey := hk.val h2
    have hkeys : ∀ e ∈ ents.toList, D e.key := fun e he => by
      obtain ⟨i, hi⟩ := List.mem_iff_getElem?.1 he
      obtain ⟨y, hy, _⟩ := ent_kv hsz hen hi
      exact hDs _ (List.mem_of_getElem? hy)
    rcases K.find C.w hD ents.toList hkeys with ⟨f1, f2⟩ | ⟨j, e, f1, f2, f3⟩
    · refine ⟨C, z, ofV z, H, ?_, ⟨.inr ⟨fun p hp => ?_, rfl⟩, rfl⟩, ok, Le.refl _ _, New.refl _ _, hh, .ofV z⟩
      · simp [execOp, Instr.lookup, run_under ht, hv, hkey, Go.MapKept.run_getObj_map hg, K.check C.w _ hD, f1, hz]
      · obtain ⟨i, hi⟩ := List.mem_iff_getElem?.1 hp
        obtain ⟨en, e1, e2, _⟩ := hen i p.1 p.2 hi
        have := f2 en (List.mem_of_getElem? (show ents.toList[i]? = some en by simpa using e1))
        rwa [e2] at this
    · obtain ⟨y, hy, hry⟩ := ent_kv hsz hen f2
      rw [f3] at hy
      refine ⟨C, e.val, y, H, ?_, ⟨.inl ⟨j, hy⟩, rfl⟩, ok, Le.refl _ _, New.refl _ _, hh, hry⟩
      simp [execOp, Instr.lookup, run_under ht, hv, hkey, Go.MapKept.run_getObj_map hg, K.check C.w _ hD, f1]
/-- 'v, ok := m[k]'. -/
theorem e_lk2 {tt kt et : TypeId} {x ix : Operand} {u : Nat} {D : Value → Prop} {key : Value} {kvs : List (Value × AV)} {z : Value} (ht : P.underlying tt = some (.map kt et)) (K : KL P kt D) (hz0 : zvOf P et = some z)
    (hx : ev x = .mp u) (hq : HAt H u (.map kvs)) (hk : KV (ev ix) key) (hD : D key) (hDs : ∀ p ∈ kvs, D p.1) :
    EOp P ⟨d, .lookup tt x ix true, ty, pos, af, g⟩ ev H (fun r H' => ((∃ (j : Nat) (y : AV), kvs[j]? = some (key, y) ∧ r = .tup [y, .lit (.bool true)]) ∨ ((∀ p ∈ kvs, p.1 ≠ key) ∧ r = .tup [ofV z, .lit (.bool false)])) ∧ H' = H) :=
  eop_of fun C a ok hh he => by
    have hz := run_zvOf (P := P) hz0
    have h1 := he x (by simp [Op.operands])
    have h2 := he ix (by simp [Op.operands])
    rw [hx] at h1
    obtain ⟨q, hq⟩ := hq.at
    obtain ⟨gb, ents, clock, hv, hA, hg, hown, hsz, hcl, hen⟩ := ob_map (hh.at hq) h1
    have hkey := hk.val h2
    have hkeys : ∀ e ∈ ents.toList, D e.key := fun e he => by
      obtain ⟨i, hi⟩ := List.mem_iff_getElem?.1 he
      obtain ⟨y, hy, _⟩ := ent_kv hsz hen hi
      exact hDs _ (List.mem_of_getElem? hy)
    have pair : ∀ {y : AV} {v : Value} {b : Bool}, RV C y v → RV C (.tup [y, .lit (.bool b)]) (.tuple #[v, .bool b]) := fun h => .tup (by simp) (fun j x hj => by
      match j, hj with
      | 0, hj => simp at hj; subst hj; simpa using h
      | 1, hj => simp at hj; subst hj; exact .lit)
    rcases K.find C.w hD ents.toList hkeys with ⟨f1, f2⟩ | ⟨j, e, f1, f2, f3⟩
    · refine ⟨C, .tuple #[z, .bool false], _, H, ?_, ⟨.inr ⟨fun p hp => ?_, rfl⟩, rfl⟩, ok, Le.refl _ _, New.refl _ _, hh, pair (.ofV z)⟩
      · simp [execOp, Instr.lookup, run_under ht, hv, hkey, Go.MapKept.run_getObj_map hg, K.check C.w _ hD, f1, hz]
      · obtain ⟨i, hi⟩ := List.mem_iff_getElem?.1 hp
        obtain ⟨en, e1, e2, _⟩ := hen i p.1 p.2 hi
        have := f2 en (List.mem_of_getElem? (show ents.toList[i]? = some en by simpa using e1))
        rwa [e2] at this
    · obtain ⟨y, hy, hry⟩ := ent_kv hsz hen f2
      rw [f3] at hy
      refine ⟨C, .tuple #[e.val, .bool true], _, H, ?_, ⟨.inl ⟨j, y, hy, rfl⟩, rfl⟩, ok, Le.refl _ _, New.refl _ _, hh, pair hry⟩
      simp [execOp, Instr.lookup, run_under ht, hv, hkey, Go.MapKept.run_getObj_map hg, K.check C.w _ hD, f1]

/-- A map is written. -/
theorem map_wr {C : Cx} {q u gb clock : Nat} {kvs kvs' : List (Value × AV)} {ents es' : Array MapEntry} {clock' : Nat} (ok : C.Ok) (hh : HRel C H) (hq : H[q]? = some (u, .map kvs)) (hA : (C.ph u).A = some ⟨gb, 0, none⟩) (hg : C.w.heap[gb]? = some (.map ents clock))
    (hown : C.own gb = some u) (hsz : es'.size = kvs'.length) (hcl : kvs'.length ≤ clock') (hen : ∀ (i : Nat) (k : Value) (x : AV), kvs'[i]? = some (k, x) → ∃ en : MapEntry, es'[i]? = some en ∧ en.key = k ∧ RV C x en.val) :
    (C.wm gb (.map es' clock')).Ok ∧ Le H.M C (C.wm gb (.map es' clock')) ∧ HRel (C.wm gb (.map es' clock')) (H.set q (u, .map kvs')) := by
  have hob := hh.at hq
  obtain ⟨hu, _⟩ := hob
  refine ⟨wm_ok ok _ _, (wm_le hown _).mono (fun v hv => by subst hv; exact List.mem_map.2 ⟨_, List.mem_of_getElem? hq, rfl⟩), HRel.set ok hh hq (wm_le hown _) ?_⟩
  refine ⟨hu, gb, es', clock', hA, heap_setBlock_same hg _, hown, hsz, hcl, fun i k x hx => ?_⟩
  obtain ⟨en, e1, e2, e3⟩ := hen i k x hx
  exact ⟨en, e1, e2, e3.le (wm_le hown _)⟩

theorem e_mu {tt kt et : TypeId} {m ix x : Operand} {u : Nat} {D : Value → Prop} {key : Value} {kvs : List (Value × AV)} {y : AV} (ht : P.underlying tt = some (.map kt et)) (K : KL P kt D)
    (hm : ev m = .mp u) (hq : HAt H u (.map kvs)) (hk : KV (ev ix) key) (hD : D key) (hDs : ∀ p ∈ kvs, D p.1) (hy : NV (ev x) y) {H2 : List (Value × AV) → Heap} (hH : ∀ kvs', HSet H u (u, .map kvs') (H2 kvs')) :
    EOp P ⟨d, .mapUpdate tt m ix x, ty, pos, af, g⟩ ev H (fun r H' => ∃ kvs', upR kvs key y kvs' ∧ H' = H2 kvs') :=
  eop_skip fun C a ok hh he => by
    have h1 := he m (by simp [Op.operands])
    have h2 := he ix (by simp [Op.operands])
    have h3 := he x (by simp [Op.operands])
    rw [hm] at h1
    rw [hy.eq] at h3
    obtain ⟨q, hq⟩ := hq.at
    obtain ⟨gb, ents, clock, hv, hA, hg, hown, hsz, hcl, hen⟩ := ob_map (hh.at hq) h1
    have hkey := hk.val h2
    have hkeys : ∀ e ∈ ents.toList, D e.key := fun e he => by
      obtain ⟨i, hi⟩ := List.mem_iff_getElem?.1 he
      obtain ⟨y, hy, _⟩ := ent_kv hsz hen hi
      exact hDs _ (List.mem_of_getElem? hy)
    rcases K.find C.w hD ents.toList hkeys with ⟨f1, f2⟩ | ⟨j, e, f1, f2, f3⟩
    · obtain ⟨r1, r2, r3⟩ := map_wr (kvs' := kvs ++ [(key, y)]) (es' := ents.push ⟨key, a.eval x, clock⟩) (clock' := clock + 1) ok hh hq hA hg hown (by simp [hsz]) (by simp; omega) (fun i k w hw => by
        by_cases hi : i < kvs.length
        · rw [List.getElem?_append_left hi] at hw
          obtain ⟨en, e1, e2, e3⟩ := hen i k w hw
          exact ⟨en, by rw [Array.getElem?_push_lt (by omega)]; rw [← e1, Array.getElem?_eq_getElem (by omega)], e2, e3⟩
        · have hi2 : i = kvs.length := by
            have := (List.getElem?_eq_some_iff.1 hw).1
            simp at this; omega
          subst hi2
          simp at hw
          obtain ⟨rfl, rfl⟩ := hw
          exact ⟨_, by rw [← hsz, Array.getElem?_push_size], rfl, h3⟩)
      refine ⟨_, _, ?_, ⟨_, .inr ⟨fun p hp => ?_, rfl⟩, hset_eq hh hq (hH _) ▸ rfl⟩, r1, r2, set_new q u _ _ hq, r3⟩
      · simp [execOp, Instr.mapUpdate, run_under ht, hv, hkey, Go.MapKept.run_getObj_map hg, K.check C.w _ hD, f1, Go.MapKept.run_setObj_map _ hg, Cx.wm, setBlock]
      · obtain ⟨i, hi⟩ := List.mem_iff_getElem?.1 hp
        obtain ⟨en, e1, e2, _⟩ := hen i p.1 p.2 hi
        have := f2 en (List.mem_of_getElem? (show ents.toList[i]? = some en by simpa using e1))
        rwa [e2] at this
    · obtain ⟨y0, hy0, _⟩ := ent_kv hsz hen f2
      rw [f3] at hy0
      have hj : ents[j]? = some e := by simpa using f2
      have hjl : j < kvs.length := (List.getElem?_eq_some_iff.1 hy0).1
      obtain ⟨r1, r2, r3⟩ := map_wr (kvs' := kvs.set j (key, y)) (es' := ents.modify j fun e' => { e' with key := key, val := a.eval x }) (clock' := clock) ok hh hq hA hg hown (by simp [hsz]) (by simp; omega) (fun i k w hw => by
        by_cases hi : i = j
        · subst hi
          rw [List.getElem?_set_self hjl] at hw
          simp at hw
          obtain ⟨rfl, rfl⟩ := hw
          exact ⟨_, by rw [Array.getElem?_modify, if_pos rfl, hj]; rfl, rfl, h3⟩
        · rw [List.getElem?_set_ne (Ne.symm hi)] at hw
          obtain ⟨en, e1, e2, e3⟩ := hen i k w hw
          exact ⟨en, by rw [Array.getElem?_modify, if_neg (Ne.symm hi)]; exact e1, e2, e3⟩)
      refine ⟨_, _, ?_, ⟨_, .inl ⟨j, y0, hy0, rfl⟩, hset_eq hh hq (hH _) ▸ rfl⟩, r1, r2, set_new q u _ _ hq, r3⟩
      simp [execOp, Instr.mapUpdate, run_under ht, hv, hkey, Go.MapKept.run_getObj_map hg, K.check C.w _ hD, f1, hj, f3, K.stays C.w hD, Go.MapKept.run_setObj_map _ hg, Cx.wm, setBlock]

theorem e_dl {tt kt et : TypeId} {m ix : Operand} {u : Nat} {D : Value → Prop} {key : Value} {kvs : List (Value × AV)} (ht : P.underlying tt = some (.map kt et)) (K : KL P kt D)
    (hm : ev m = .mp u) (hq : HAt H u (.map kvs)) (hk : KV (ev ix) key) (hD : D key) (hDs : ∀ p ∈ kvs, D p.1) {ts : Array TypeId} (hts : ts[0]? = some tt) {H2 : List (Value × AV) → Heap} (hH : ∀ kvs', HSet H u (u, .map kvs') (H2 kvs')) :
    EOp P ⟨d, .call { callee := .builtin .delete, args := #[m, ix], argTypes := ts }, ty, pos, af, g⟩ ev H (fun r H' => r = .tup [] ∧ ∃ kvs', dlR kvs key kvs' ∧ H' = H2 kvs') :=
  eop_of fun C a ok hh he => by
    have h1 := he m (by simp [Op.operands, Call.operands])
    have h2 := he ix (by simp [Op.operands, Call.operands])
    rw [hm] at h1
    obtain ⟨q, hq⟩ := hq.at
    obtain ⟨gb, ents, clock, hv, hA, hg, hown, hsz, hcl, hen⟩ := ob_map (hh.at hq) h1
    have hkey := hk.val h2
    have hkeys : ∀ e ∈ ents.toList, D e.key := fun e he => by
      obtain ⟨i, hi⟩ := List.mem_iff_getElem?.1 he
      obtain ⟨y, hy, _⟩ := ent_kv hsz hen hi
      exact hDs _ (List.mem_of_getElem? hy)
    rcases K.find C.w hD ents.toList hkeys with ⟨f1, f2⟩ | ⟨j, e, f1, f2, f3⟩
    · obtain ⟨r1, r2, r3⟩ := map_wr (kvs' := kvs) (es' := ents) (clock' := clock) ok hh hq hA hg hown hsz hcl hen
      refine ⟨_, .tuple #[], .tup [], _, ?_, ⟨rfl, _, .inr ⟨fun p hp => ?_, rfl⟩, hset_eq hh hq (hH _) ▸ rfl⟩, r1, r2, set_new q u _ _ hq, r3, .tup rfl (by simp)⟩
      · simp only [execOp, resolve, Sem.run_bind, Sem.run_pure, Result.andThen_ok, invoke]
        simp [builtin, Builtin.delete_, run_under ht, hts, hv, hkey, Go.MapKept.run_getObj_map hg, K.check C.w _ hD, f1, Go.MapKept.run_setObj_map _ hg, Cx.wm, setBlock]
      · obtain ⟨i, hi⟩ := List.mem_iff_getElem?.1 hp
        obtain ⟨en, e1, e2, _⟩ := hen i p.1 p.2 hi
        have := f2 en (List.mem_of_getElem? (show ents.toList[i]? = some en by simpa using e1))
        rwa [e2] at this
    · obtain ⟨y0, hy0, _⟩ := ent_kv hsz hen f2
      rw [f3] at hy0
      have hj : ents[j]? = some e := by simpa using f2
      have hjl : j < kvs.length := (List.getElem?_eq_some_iff.1 hy0).1
      have hl1 : (ents.eraseIdxIfInBounds j).toList = ents.toList.eraseIdx j := by
        simp [Array.eraseIdxIfInBounds, show j < ents.size by omega]
      obtain ⟨r1, r2, r3⟩ := map_wr (kvs' := kvs.eraseIdx j) (es' := ents.eraseIdxIfInBounds j) (clock' := clock) ok hh hq hA hg hown (by
          have := congrArg List.length hl1
          simp only [Array.length_toList] at this
          rw [this, List.length_eraseIdx, List.length_eraseIdx]; simp [hsz]) (by rw [List.length_eraseIdx]; split <;> omega) (fun i k w hw => by
        have hw2 := hw
        rw [List.getElem?_eraseIdx] at hw
        have hz : (ents.eraseIdxIfInBounds j)[i]? = (ents.toList.eraseIdx j)[i]? := by rw [← hl1, Array.getElem?_toList]
        rw [hz, List.getElem?_eraseIdx]
        split at hw
        · rename_i h; rw [if_pos h]; obtain ⟨en, e1, e2, e3⟩ := hen i k w hw; exact ⟨en, by simpa using e1, e2, e3⟩
        · rename_i h; rw [if_neg h]; obtain ⟨en, e1, e2, e3⟩ := hen (i + 1) k w hw; exact ⟨en, by simpa using e1, e2, e3⟩)
      refine ⟨_, .tuple #[], .tup [], _, ?_, ⟨rfl, _, .inl ⟨j, y0, hy0, rfl⟩, hset_eq hh hq (hH _) ▸ rfl⟩, r1, r2, set_new q u _ _ hq, r3, .tup rfl (by simp)⟩
      simp only [execOp, resolve, Sem.run_bind, Sem.run_pure, Result.andThen_ok, invoke]
      simp [builtin, Builtin.delete_, run_under ht, hts, hv, hkey, Go.MapKept.run_getObj_map hg, K.check C.w _ hD, f1, Go.MapKept.run_setObj_map _ hg, Cx.wm, setBlock]
end
end Go.Proofs.YtdlinfekifnmkaaAm
