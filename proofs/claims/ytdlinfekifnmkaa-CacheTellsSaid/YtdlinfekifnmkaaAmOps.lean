/- The abstract machine of these proofs, part 4: what the quiet operations come to. Conditions: none. -/
import Derived.Test.YtdlinfekifnmkaaAmOrd
import Derived.Laws.Cells
import Derived.Laws.StructEq
set_option linter.unusedVariables false
set_option linter.unusedSimpArgs false
namespace Go.Proofs.YtdlinfekifnmkaaAm

/-! ### What is asked of types -/
def szOf (P : Program) (t : TypeId) : Option Nat := (P.info? t).map (·.size)
def isAg (P : Program) (t : TypeId) : Option Bool :=
  match P.underlying t with
  | some (.struct _) | some (.array _ _) => some true
  | some _ => some false
  | none => none
def fldOf (P : Program) (s : TypeId) (f : Nat) : Option (Nat × Nat × Bool) :=
  match P.underlying s with
  | some (.struct fs) => match fs[f]? with
    | some fd => match szOf P fd.type, isAg P fd.type with
      | some sz, some b => some (fd.offset, sz, b)
      | _, _ => none
    | none => none
  | _ => none
def zeroOf (P : Program) (t : TypeId) : Option (List Value) := ((P.info? t).bind (·.zero)).map (·.cells.toList)

section
variable {P : Program}

theorem run_szOf {t : TypeId} {n : Nat} (h : szOf P t = some n) (w : World) : (sizeOf t).run P w = .ok n w := by
  unfold szOf at h
  cases hi : P.info? t with
  | none => simp [hi] at h
  | some i => simp [hi] at h; simp [sizeOf, typeInfo, hi, h]
theorem run_isAg {t : TypeId} {b : Bool} (h : isAg P t = some b) (w : World) : (isAgg t).run P w = .ok b w := by
  unfold isAg at h
  unfold isAgg underlying
  cases hu : P.underlying t with
  | none => simp [hu] at h
  | some d =>
    rw [hu] at h
    cases d <;> simp at h <;> subst h <;> simp [hu]
theorem run_under {t : TypeId} {d : TypeDesc} (h : P.underlying t = some d) (w : World) : (underlying t).run P w = .ok d w := by simp [underlying, h]
theorem run_zeroOf {t : TypeId} {cs : List Value} (h : zeroOf P t = some cs) (w : World) : ∃ z, (zeroValue t).run P w = .ok z w ∧ z.cells.toList = cs := by
  unfold zeroOf at h
  cases hi : P.info? t with
  | none => simp [hi] at h
  | some i =>
    cases hz : i.zero with
    | none => simp [hi, hz] at h
    | some z => simp [hi, hz] at h; exact ⟨z, by simp [zeroValue, typeInfo, hi, hz], h⟩

variable {d : Option Tmp} {ty : TypeId} {pos : String} {af : Array Edge} {g : Option (Nat × Bool)} {ev : Operand → AV} {H : Heap}

theorem exec_v {ρ : Operand → Value} {o : Oper} {s : Sem Value} (he : execOp ρ o = (do pure (Next.value (← s)))) {w w' : World} {v : Value} (hs : s.run P w = .ok v w') :
    (execOp ρ o).run P w = .ok (.value v) w' := by rw [he]; simp [hs]

theorem qop_of {o : Oper} {r : AV} (h : ∀ (C : Cx) (a : Act), C.Ok → HRel C H → (∀ x ∈ o.op.operands, RV C (ev x) (a.eval x)) →
    ∃ (C' : Cx) (v : Value), (execOp a.eval o).run P C.w = .ok (.value v) C'.w ∧ C'.Ok ∧ Le (fun _ => False) C C' ∧ RV C' r v) : QOp P o ev H r := by
  intro C a ok hh he next Q hn
  obtain ⟨C', v, hr, ok', hl, hv⟩ := h C a ok hh he
  unfold Oper.wp
  rw [hr]
  exact hn C' v r H ⟨rfl, rfl⟩ ok' (hl.mono fun _ h => h.elim) (New.refl _ _) (hh.le ok hl (fun _ _ h => h)) hv

/-- An operation that leaves the world as it is. -/
theorem qop_same {o : Oper} {r : AV} {s : (Operand → Value) → Sem Value} (he : ∀ ρ, execOp ρ o = (do pure (Next.value (← s ρ))))
    (h : ∀ (C : Cx) (a : Act), C.Ok → HRel C H → (∀ x ∈ o.op.operands, RV C (ev x) (a.eval x)) → ∃ v, (s a.eval).run P C.w = .ok v C.w ∧ RV C r v) : QOp P o ev H r :=
  qop_of fun C a ok hh hx => let ⟨v, hr, hv⟩ := h C a ok hh hx; ⟨C, v, exec_v (he _) hr, ok, Le.refl _ _, hv⟩

/-- The same for a builtin function. -/
theorem qop_bin {x : Builtin} {xs : Array Operand} {ts : Array TypeId} {r : AV}
    (h : ∀ (C : Cx) (a : Act), C.Ok → HRel C H → (∀ y ∈ xs, RV C (ev y) (a.eval y)) → ∀ consts, ∃ v, (builtin x ts ty consts (xs.map a.eval)).run P C.w = .ok (.value v) C.w ∧ RV C r v) :
    QOp P ⟨d, .call { callee := .builtin x, args := xs, argTypes := ts }, ty, pos, af, g⟩ ev H r :=
  qop_of fun C a ok hh hx => by
    obtain ⟨v, hr, hv⟩ := h C a ok hh (fun y hy => hx y (by simp [Op.operands, Call.operands, hy])) (xs.map fun | .const _ => true | _ => false)
    refine ⟨C, v, ?_, ok, Le.refl _ _, hv⟩
    simp only [execOp, resolve, Sem.run_bind, Sem.run_pure, Result.andThen_ok, invoke]
    exact hr

theorem q_move {x : Operand} : QOp P ⟨d, .move x, ty, pos, af, g⟩ ev H (ev x) :=
  qop_same (s := fun ρ => pure (ρ x)) (fun ρ => rfl) fun C a ok hh hx => ⟨_, rfl, hx x (by simp [Op.operands])⟩
theorem q_assign {x : Operand} : QOp P ⟨d, .assign x, ty, pos, af, g⟩ ev H (ev x) :=
  qop_same (s := fun ρ => pure (ρ x)) (fun ρ => rfl) fun C a ok hh hx => ⟨_, rfl, hx x (by simp [Op.operands])⟩

theorem q_pick {c x y : Operand} {b : Bool} {r : AV} (hc : ev c = .lit (.bool b)) (ht : b = true → ev x = r) (hf : b = false → ev y = r) : QOp P ⟨d, .pick c x y, ty, pos, af, g⟩ ev H r :=
  qop_same (s := fun ρ => do pure (if ← asBool (ρ c) then ρ x else ρ y)) (fun ρ => by
      show (do pure (Next.value (if ← asBool (ρ c) then ρ x else ρ y)) : Sem Next) = _
      cases ρ c <;> rfl) fun C a ok hh hx => by
    have h1 := hx c (by simp [Op.operands])
    rw [hc] at h1
    have h1 := rv_bool h1
    cases b with
    | true => exact ⟨a.eval x, by simp [h1, asBool], by rw [← ht rfl]; exact hx x (by simp [Op.operands])⟩
    | false => exact ⟨a.eval y, by simp [h1, asBool], by rw [← hf rfl]; exact hx y (by simp [Op.operands])⟩

theorem q_extract {t : Operand} {i : Nat} {vs : List AV} {r : AV} (ht : ev t = .tup vs) (hi : vs[i]? = some r) : QOp P ⟨d, .extract t i, ty, pos, af, g⟩ ev H r :=
  qop_same (s := fun ρ => Instr.extract (ρ t) i) (fun ρ => rfl) fun C a ok hh hx => by
    have h1 := hx t (by simp [Op.operands])
    rw [ht] at h1
    generalize a.eval t = v at h1
    cases h1 with
    | tup hs hrv =>
      rename_i us
      have hlt : i < us.size := by rw [hs]; exact (List.getElem?_eq_some_iff.1 hi).1
      refine ⟨us[i], by simp [Instr.extract, hlt], ?_⟩
      have := hrv i r hi
      simpa [hlt] using this

/-- Two literals. -/
theorem q_lit2 {op : BinOp} {t t2 : TypeId} {x y : Operand} {a b v : Value} (hx : ev x = .lit a) (hy : ev y = .lit b)
    (hrun : ∀ w, (do eqGuard op t x y a b; binOp op t a b : Sem Value).run P w = .ok v w) : QOp P ⟨d, .binOp op t x y t2, ty, pos, af, g⟩ ev H (.lit v) :=
  qop_same (s := fun ρ => do eqGuard op t x y (ρ x) (ρ y); binOp op t (ρ x) (ρ y)) (fun ρ => rfl) fun C ac ok hh he => by
    have h1 := he x (by simp [Op.operands])
    have h2 := he y (by simp [Op.operands])
    rw [hx] at h1
    rw [hy] at h2
    rw [rv_lit h1, rv_lit h2]
    exact ⟨v, hrun C.w, .lit⟩

theorem run_eqGuard_plain (op : BinOp) (t : TypeId) (x y : Operand) (k : IntKind) (m : Int) (b : Value) (w : World) : (eqGuard op t x y (.int k m) b).run P w = .ok () w := by
  cases op <;> cases b <;> simp [eqGuard]
theorem run_eqGuard_bool (op : BinOp) (t : TypeId) (x y : Operand) (m : Bool) (b : Value) (w : World) : (eqGuard op t x y (.bool m) b).run P w = .ok () w := by
  cases op <;> cases b <;> simp [eqGuard]
theorem run_eqGuard_str (op : BinOp) (t : TypeId) (x y : Operand) (m : ByteArray) (b : Value) (w : World) : (eqGuard op t x y (.string m) b).run P w = .ok () w := by
  cases op <;> cases b <;> simp [eqGuard]

section ints
variable {t t2 : TypeId} {x y : Operand} {k : IntKind} {m n : Int}
theorem q_add (hx : ev x = .lit (.int k m)) (hy : ev y = .lit (.int k n)) : QOp P ⟨d, .binOp .add t x y t2, ty, pos, af, g⟩ ev H (.lit (.int k (k.wrap (m + n)))) :=
  q_lit2 hx hy fun w => by simp [run_eqGuard_plain, binOp, Op.intArith]
theorem q_sub (hx : ev x = .lit (.int k m)) (hy : ev y = .lit (.int k n)) : QOp P ⟨d, .binOp .sub t x y t2, ty, pos, af, g⟩ ev H (.lit (.int k (k.wrap (m - n)))) :=
  q_lit2 hx hy fun w => by simp [run_eqGuard_plain, binOp, Op.intArith]
theorem q_mul (hx : ev x = .lit (.int k m)) (hy : ev y = .lit (.int k n)) : QOp P ⟨d, .binOp .mul t x y t2, ty, pos, af, g⟩ ev H (.lit (.int k (k.wrap (m * n)))) :=
  q_lit2 hx hy fun w => by simp [run_eqGuard_plain, binOp, Op.intArith]
theorem q_quo (hx : ev x = .lit (.int k m)) (hy : ev y = .lit (.int k n)) (h0 : ¬ n = 0) : QOp P ⟨d, .binOp .quo t x y t2, ty, pos, af, g⟩ ev H (.lit (.int k (k.wrap (m.tdiv n)))) :=
  q_lit2 hx hy fun w => by simp [run_eqGuard_plain, binOp, Op.intDiv, h0]
theorem q_rem (hx : ev x = .lit (.int k m)) (hy : ev y = .lit (.int k n)) (h0 : ¬ n = 0) : QOp P ⟨d, .binOp .rem t x y t2, ty, pos, af, g⟩ ev H (.lit (.int k (m.tmod n))) :=
  q_lit2 hx hy fun w => by simp [run_eqGuard_plain, binOp, Op.intDiv, h0]
theorem q_and (hx : ev x = .lit (.int k m)) (hy : ev y = .lit (.int k n)) : QOp P ⟨d, .binOp .and t x y t2, ty, pos, af, g⟩ ev H (.lit (.int k (k.wrap ((BitVec.ofInt k.bits m &&& BitVec.ofInt k.bits n).toNat)))) :=
  q_lit2 hx hy fun w => by simp [run_eqGuard_plain, binOp, Op.intBits]
theorem q_shl {k' : IntKind} (hx : ev x = .lit (.int k m)) (hy : ev y = .lit (.int k' n)) (h0 : ¬ n < 0) : QOp P ⟨d, .binOp .shl t x y t2, ty, pos, af, g⟩ ev H (.lit (.int k (k.wrap (m * 2 ^ (min n.toNat k.bits))))) :=
  q_lit2 hx hy fun w => by simp [run_eqGuard_plain, binOp, Op.shift, h0]
theorem q_lss (hx : ev x = .lit (.int k m)) (hy : ev y = .lit (.int k n)) : QOp P ⟨d, .binOp .lss t x y t2, ty, pos, af, g⟩ ev H (.lit (.bool (decide (m < n)))) :=
  q_lit2 hx hy fun w => by simp [run_eqGuard_plain, binOp, Op.intCmp]
theorem q_leq (hx : ev x = .lit (.int k m)) (hy : ev y = .lit (.int k n)) : QOp P ⟨d, .binOp .leq t x y t2, ty, pos, af, g⟩ ev H (.lit (.bool (decide (m ≤ n)))) :=
  q_lit2 hx hy fun w => by simp [run_eqGuard_plain, binOp, Op.intCmp]
theorem q_gtr (hx : ev x = .lit (.int k m)) (hy : ev y = .lit (.int k n)) : QOp P ⟨d, .binOp .gtr t x y t2, ty, pos, af, g⟩ ev H (.lit (.bool (decide (n < m)))) :=
  q_lit2 hx hy fun w => by simp [run_eqGuard_plain, binOp, Op.intCmp]
theorem q_geq (hx : ev x = .lit (.int k m)) (hy : ev y = .lit (.int k n)) : QOp P ⟨d, .binOp .geq t x y t2, ty, pos, af, g⟩ ev H (.lit (.bool (decide (n ≤ m)))) :=
  q_lit2 hx hy fun w => by simp [run_eqGuard_plain, binOp, Op.intCmp]
theorem q_eql (hx : ev x = .lit (.int k m)) (hy : ev y = .lit (.int k n)) : QOp P ⟨d, .binOp .eql t x y t2, ty, pos, af, g⟩ ev H (.lit (.bool (decide (m = n)))) :=
  q_lit2 hx hy fun w => by
    have : (m == n) = decide (m = n) := by by_cases h : m = n <;> simp [h]
    simp [run_eqGuard_plain, binOp, Op.intCmp, this]
theorem q_neq (hx : ev x = .lit (.int k m)) (hy : ev y = .lit (.int k n)) : QOp P ⟨d, .binOp .neq t x y t2, ty, pos, af, g⟩ ev H (.lit (.bool (!decide (m = n)))) :=
  q_lit2 hx hy fun w => by
    have : (m != n) = !decide (m = n) := by by_cases h : m = n <;> simp [h]
    simp [run_eqGuard_plain, binOp, Op.intCmp, this]
end ints

section strs
variable {t t2 : TypeId} {x y : Operand} {m n : ByteArray} {b c : Bool}
theorem q_seql (hx : ev x = .lit (.string m)) (hy : ev y = .lit (.string n)) : QOp P ⟨d, .binOp .eql t x y t2, ty, pos, af, g⟩ ev H (.lit (.bool (m.toList == n.toList))) :=
  q_lit2 hx hy fun w => by simp [run_eqGuard_str, binOp, Op.stringOp]
theorem q_sneq (hx : ev x = .lit (.string m)) (hy : ev y = .lit (.string n)) : QOp P ⟨d, .binOp .neq t x y t2, ty, pos, af, g⟩ ev H (.lit (.bool (!(m.toList == n.toList)))) :=
  q_lit2 hx hy fun w => by simp [run_eqGuard_str, binOp, Op.stringOp]
theorem q_sadd (hx : ev x = .lit (.string m)) (hy : ev y = .lit (.string n)) (h : m.size + n.size ≤ 9223372036854775807) : QOp P ⟨d, .binOp .add t x y t2, ty, pos, af, g⟩ ev H (.lit (.string (m ++ n))) :=
  q_lit2 hx hy fun w => by
    have : ¬ (((m.size + n.size : Nat) : Int) > IntKind.i64.max) := by
      have e : IntKind.i64.max = 9223372036854775807 := by decide
      rw [e]; omega
    simp only [binOp, Op.stringOp, if_neg this]
    simp [run_eqGuard_str]
theorem q_beql (hx : ev x = .lit (.bool b)) (hy : ev y = .lit (.bool c)) (ht : P.underlying t = some .bool) : QOp P ⟨d, .binOp .eql t x y t2, ty, pos, af, g⟩ ev H (.lit (.bool (b == c))) :=
  q_lit2 hx hy fun w => by
    have := run_eql_bool (P := P) w t b c ht
    simp [run_eqGuard_bool, this]
theorem q_bneq (hx : ev x = .lit (.bool b)) (hy : ev y = .lit (.bool c)) (ht : P.underlying t = some .bool) : QOp P ⟨d, .binOp .neq t x y t2, ty, pos, af, g⟩ ev H (.lit (.bool (!(b == c)))) :=
  q_lit2 hx hy fun w => by
    have := run_neq_bool (P := P) w t b c ht
    simp [run_eqGuard_bool, this]
theorem q_not (hx : ev x = .lit (.bool b)) : QOp P ⟨d, .unOp .not t x, ty, pos, af, g⟩ ev H (.lit (.bool (!b))) :=
  qop_same (s := fun ρ => Op.unary .not (ρ x)) (fun ρ => rfl) fun C a ok hh he => by
    have h1 := he x (by simp [Op.operands])
    rw [hx] at h1
    rw [rv_lit h1]
    exact ⟨_, rfl, .lit⟩
theorem q_neg {k : IntKind} {i : Int} (hx : ev x = .lit (.int k i)) : QOp P ⟨d, .unOp .neg t x, ty, pos, af, g⟩ ev H (.lit (.int k (k.wrap (0 - i)))) :=
  qop_same (s := fun ρ => Op.unary .neg (ρ x)) (fun ρ => rfl) fun C a ok hh he => by
    have h1 := he x (by simp [Op.operands])
    rw [hx] at h1
    rw [rv_lit h1]
    exact ⟨_, rfl, .lit⟩
end strs

theorem q_conv {src dst : TypeId} {x : Operand} {k k' : IntKind} {m : Int} (hx : ev x = .lit (.int k' m)) {u : TypeDesc} (hs : P.underlying src = some u) (hd : P.underlying dst = some (.int k)) :
    QOp P ⟨d, .convert src dst x, ty, pos, af, g⟩ ev H (.lit (.int k (k.wrap m))) :=
  qop_same (s := fun ρ => convert src dst (ρ x)) (fun ρ => rfl) fun C a ok hh he => by
    have h1 := he x (by simp [Op.operands])
    rw [hx] at h1
    rw [rv_lit h1]
    refine ⟨_, ?_, .lit⟩
    unfold convert
    simp [run_under hs, run_under hd, Conv.intToInt]

section bins
variable {x y : Operand} {ts : Array TypeId} {k : IntKind} {m n : Int}
theorem q_min (hx : ev x = .lit (.int k m)) (hy : ev y = .lit (.int k n)) : QOp P ⟨d, .call { callee := .builtin .min, args := #[x, y], argTypes := ts }, ty, pos, af, g⟩ ev H (.lit (.int k (min m n))) :=
  qop_bin fun C a ok hh he consts => by
    have h1 := he x (by simp)
    have h2 := he y (by simp)
    rw [hx] at h1
    rw [hy] at h2
    have e : #[x, y].map a.eval = #[.int k m, .int k n] := by simp [rv_lit h1, rv_lit h2]
    rw [e]
    refine ⟨.int k (if n < m then n else m), by simp only [builtin, Sem.run_bind, run_min_int2 (P := P) C.w ts ty k k m n, Result.andThen_ok, Sem.run_pure], ?_⟩
    have : (if n < m then n else m) = min m n := by split <;> omega
    rw [this]; exact .lit
theorem q_max (hx : ev x = .lit (.int k m)) (hy : ev y = .lit (.int k n)) : QOp P ⟨d, .call { callee := .builtin .max, args := #[x, y], argTypes := ts }, ty, pos, af, g⟩ ev H (.lit (.int k (max m n))) :=
  qop_bin fun C a ok hh he consts => by
    have h1 := he x (by simp)
    have h2 := he y (by simp)
    rw [hx] at h1
    rw [hy] at h2
    have e : #[x, y].map a.eval = #[.int k m, .int k n] := by simp [rv_lit h1, rv_lit h2]
    rw [e]
    refine ⟨.int k (if n > m then n else m), by simp only [builtin, Sem.run_bind, run_max_int2 (P := P) C.w ts ty k k m n, Result.andThen_ok, Sem.run_pure], ?_⟩
    have : (if n > m then n else m) = max m n := by split <;> omega
    rw [this]; exact .lit
end bins

/-! ### Slices that are read -/
/-- What a slice reads as. -/
inductive SV (H : Heap) : AV → List (List AV) → Prop where
  | ro {es : List (List AV)} : SV H (.ro es) es
  | cro {es : List (List AV)} : SV H (.cro es) es
  | nil : SV H (.lit (.slice none 0 0)) []
  | sl {u l h q : Nat} {e : TypeId} {size : Nat} {es : List (List AV)} (hq : H[q]? = some (u, .arr e size es)) (hh : h ≤ es.length) : SV H (.sl u l h) ((es.drop l).take (h - l))

theorem HRel.at {C : Cx} (h : HRel C H) {q u : Nat} {o : Ob} (hq : H[q]? = some (u, o)) : ObRel C u o := h.ob u o (List.mem_of_getElem? hq)

theorem SV.len {C : Cx} (hh : HRel C H) {x : AV} {es : List (List AV)} (h : SV H x es) {v : Value} (hv : RV C x v) : ∃ A c, v = .slice A es.length c := by
  cases h with
  | ro => cases hv with | ro vs hn hc hm hsz hcell hrv => subst hn; exact ⟨_, _, rfl⟩
  | cro => cases hv with | cro A hv h => cases h with | ro vs hn hc hm hsz hcell hrv => subst hn; exact ⟨_, _, rfl⟩
  | nil => rw [rv_lit hv]; exact ⟨_, _, rfl⟩
  | sl hq hle =>
    cases hv with
    | sl hu hlh hhc hA hn hc =>
      subst hn
      rename_i A c
      refine ⟨A, c, ?_⟩
      rw [List.length_take, List.length_drop, Nat.min_eq_left (by omega)]

theorem q_len {x : Operand} {t e : TypeId} {es : List (List AV)} (ht : P.underlying t = some (.slice e)) (hx : SV H (ev x) es) :
    QOp P ⟨d, .call { callee := .builtin .len, args := #[x], argTypes := #[t] }, ty, pos, af, g⟩ ev H (.lit (.int .i64 es.length)) :=
  qop_bin fun C a ok hh he consts => by
    have h1 := he x (by simp)
    obtain ⟨A, c, hv⟩ := hx.len hh h1
    have e : #[x].map a.eval = #[.slice A es.length c] := by simp [hv]
    rw [e]
    refine ⟨_, ?_, .lit⟩
    simp [builtin, Builtin.len_, run_under ht, goInt]
theorem q_lenS {x : Operand} {t : TypeId} {s : ByteArray} (ht : P.underlying t = some .string) (hx : ev x = .lit (.string s)) :
    QOp P ⟨d, .call { callee := .builtin .len, args := #[x], argTypes := #[t] }, ty, pos, af, g⟩ ev H (.lit (.int .i64 s.size)) :=
  qop_bin fun C a ok hh he consts => by
    have h1 := he x (by simp)
    rw [hx] at h1
    have e : #[x].map a.eval = #[.string s] := by simp [rv_lit h1]
    rw [e]
    refine ⟨_, ?_, .lit⟩
    simp [builtin, Builtin.len_, run_under ht, goInt]

theorem cells_of_ro {C : Cx} {es : List (List AV)} {v : Value} (h : RV C (.ro es) v) : ∃ (A : Option Addr) (n c size : Nat) (vs : Nat → Nat → Value), v = .slice A n c ∧ n = es.length ∧ n ≤ c ∧ c ≤ maxLen ∧ (∀ e ∈ es, e.length = size) ∧
    (∀ i e, es[i]? = some e → ∀ j x, e[j]? = some x → CellAt C A (i * size + j) (vs i j)) ∧ ∀ i e, es[i]? = some e → ∀ j x, e[j]? = some x → RV C x (vs i j) := by
  cases h with
  | ro vs hn hc hm hsz hcell hrv => exact ⟨_, _, _, _, vs, rfl, hn, hc, hm, hsz, hcell, hrv⟩

theorem run_indexAt_slice {t e : TypeId} {sz : Nat} (ht : P.underlying t = some (.slice e)) (hsz : szOf P e = some sz) {a0 : Addr} {n c : Nat} {k : IntKind} {i : Int} (h0 : 0 ≤ i) (h1 : i < n) (w : World) :
    (Instr.indexAt t (.slice (some a0) n c) (.int k i)).run P w = .ok (.pointer (some (a0.add (i.toNat * sz)))) w := by
  unfold Instr.indexAt asIntOf
  simp [run_under ht, run_szOf hsz, h0, h1]

/-- 'xs[i]' of a slice that is read: a place in memory. -/
theorem q_ia {t e : TypeId} {x i : Operand} {es : List (List AV)} {k : IntKind} {n : Int} {q sz : Nat} {c : List AV} (ht : P.underlying t = some (.slice e)) (hsz : szOf P e = some sz)
    (hx : ev x = .ro es ∨ ev x = .cro es) (hi : ev i = .lit (.int k n)) (hq : n = (q : Int)) (he : es[q]? = some c) (hc : c.length = sz) (hz : 0 < sz) : QOp P ⟨d, .indexAddr t x i, ty, pos, af, g⟩ ev H (.ip c) :=
  qop_same (s := fun ρ => Instr.indexAt t (ρ x) (ρ i)) (fun ρ => rfl) fun C a ok hh hev => by
    have h1 := hev x (by simp [Op.operands])
    have h2 := hev i (by simp [Op.operands])
    rw [hi] at h2
    have h1 : RV C (.ro es) (a.eval x) := by
      rcases hx with hx | hx
      · rwa [hx] at h1
      · rw [hx] at h1; cases h1 with | cro A hv h => exact h
    obtain ⟨A, m, cap, size, vs0, hv, hm, _, _, hsizes, hcells, hcrv⟩ := cells_of_ro h1
    rw [hv, rv_lit h2]
    obtain ⟨vs, hc1, hc2⟩ : ∃ vs : Nat → Value, (∀ j x, c[j]? = some x → CellAt C A (q * size + j) (vs j)) ∧ ∀ j x, c[j]? = some x → RV C x (vs j) := ⟨vs0 q, hcells q c he, hcrv q c he⟩
    have hq' : q < es.length := (List.getElem?_eq_some_iff.1 he).1
    have hsize : size = sz := by rw [← hc]; exact (hsizes c (List.mem_of_getElem? he)).symm
    subst hsize
    obtain ⟨x0, hx0⟩ : ∃ x0, c[0]? = some x0 := ⟨c[0]'(by omega), List.getElem?_eq_getElem (by omega)⟩
    obtain ⟨a0, rfl, hu, hcell0⟩ := hc1 0 x0 hx0
    refine ⟨_, run_indexAt_slice ht hsz (by omega) (by omega) C.w, ?_⟩
    subst hq
    refine .ip vs (fun j y hy => ?_) hc2
    obtain ⟨a1, ha1, hu1, hcell1⟩ := hc1 j y hy
    injection ha1 with ha1
    subst ha1
    exact ⟨_, rfl, by rw [add_block]; exact hu1, by rw [Int.toNat_natCast, add_add]; exact hcell1⟩

theorem run_loadVar_scalar {t : TypeId} (ht : isAg P t = some false) {a : Addr} {v : Value} {w : World} (hc : w.cell? a = some v) : (loadVar t a).run P w = .ok v w := by
  simp [loadVar, run_isAg ht, hc]
theorem run_loadVar_agg {t : TypeId} (ht : isAg P t = some true) {sz : Nat} (hsz : szOf P t = some sz) {a : Addr} {f : Nat → Value} {w : World} (hc : ∀ j, j < sz → w.cell? (a.add j) = some (f j)) :
    (loadVar t a).run P w = .ok (.agg ((List.range sz).map f).toArray) w := by
  simp [loadVar, run_isAg ht, run_szOf hsz, run_loadCells w a sz f hc]

theorem add_zero (a : Addr) : a.add 0 = a := by simp [Addr.add]

/-- A load from memory that nobody writes. -/
theorem q_ld1 {t : TypeId} {p : Operand} {c : AV} {r : List AV} (ht : isAg P t = some false) (hp : ev p = .ip (c :: r)) : QOp P ⟨d, .load t p, ty, pos, af, g⟩ ev H c :=
  qop_same (s := fun ρ => Instr.loadAt t (ρ p)) (fun ρ => rfl) fun C a ok hh he => by
    have h1 := he p (by simp [Op.operands])
    rw [hp] at h1
    generalize a.eval p = v at h1
    cases h1 with
    | ip vs hcell hrv =>
      obtain ⟨a1, ha1, hu, hc⟩ := hcell 0 c rfl
      injection ha1 with ha1
      subst ha1
      rw [add_zero] at hc
      exact ⟨vs 0, by simp [Instr.loadAt, Instr.sureAddr, run_loadVar_scalar ht hc], hrv 0 c rfl⟩
theorem q_ldA {t : TypeId} {p : Operand} {cs : List AV} {sz : Nat} (ht : isAg P t = some true) (hsz : szOf P t = some sz) (hp : ev p = .ip cs) (hle : sz ≤ cs.length) : QOp P ⟨d, .load t p, ty, pos, af, g⟩ ev H (.agg (cs.take sz)) :=
  qop_same (s := fun ρ => Instr.loadAt t (ρ p)) (fun ρ => rfl) fun C a ok hh he => by
    have h1 := he p (by simp [Op.operands])
    rw [hp] at h1
    generalize a.eval p = v at h1
    cases h1 with
    | ip vs hcell hrv =>
      rename_i a0
      have hall : ∀ j, j < sz → C.w.cell? (a0.add j) = some (vs j) := fun j hj => by
        obtain ⟨a1, ha1, hu, hc⟩ := hcell j cs[j] (List.getElem?_eq_getElem (by omega))
        injection ha1 with ha1
        subst ha1
        exact hc
      refine ⟨_, by simp only [Instr.loadAt, Instr.sureAddr, Sem.run_bind, Sem.run_pure, Result.andThen_ok]; exact run_loadVar_agg ht hsz hall, .agg (by simp; omega) fun j x hx => ?_⟩
      have hj : j < sz := by
        have := (List.getElem?_eq_some_iff.1 hx).1
        simp at this; omega
      have hx' : cs[j]? = some x := by rwa [List.getElem?_take_of_lt hj] at hx
      simpa [hj] using hrv j x hx'

/-! ### Objects -/
theorem ob_cell {C : Cx} {u : Nat} {e : TypeId} {size : Nat} {es : List (List AV)} (h : ObRel C u (.arr e size es)) {i : Nat} {c : List AV} (hi : es[i]? = some c) {j : Nat} {x : AV} (hj : c[j]? = some x) :
    ∃ a0 v, (C.ph u).A = some a0 ∧ (C.ph u).size = size ∧ C.w.cell? (a0.add (i * size + j)) = some v ∧ RV C x v := by
  obtain ⟨h1, h2, h3, h4, h5, h6⟩ := h
  rcases h6 with h0 | ⟨gb, off, arr, hA, hg, ho, hs, hb⟩
  · have := (List.getElem?_eq_some_iff.1 hi).1
    omega
  · obtain ⟨v, hv, hr⟩ := hb i c hi j x hj
    refine ⟨_, v, hA, h2, ?_, hr⟩
    rw [add_plain, cell_of_row C.w gb _ arr e (0, 0) hg, ← Nat.add_assoc]
    exact hv

theorem rv_ptr {C : Cx} {u i off : Nat} {v : Value} (h : RV C (.ptr u i off) v) : ∃ a0, (C.ph u).A = some a0 ∧ v = .pointer (some (a0.add (i * (C.ph u).size + off))) := by
  cases h with | ptr hu ha => exact ⟨_, ha, rfl⟩

theorem q_ldp1 {t e : TypeId} {p : Operand} {u i off q size : Nat} {es : List (List AV)} {c : List AV} {x : AV} (ht : isAg P t = some false) (hp : ev p = .ptr u i off)
    (hq : H[q]? = some (u, .arr e size es)) (hi : es[i]? = some c) (hj : c[off]? = some x) : QOp P ⟨d, .load t p, ty, pos, af, g⟩ ev H x :=
  qop_same (s := fun ρ => Instr.loadAt t (ρ p)) (fun ρ => rfl) fun C a ok hh he => by
    have h1 := he p (by simp [Op.operands])
    rw [hp] at h1
    obtain ⟨a0, ha, hv⟩ := rv_ptr h1
    obtain ⟨a1, v, ha1, hsz, hc, hr⟩ := ob_cell (hh.at hq) hi hj
    rw [ha] at ha1
    injection ha1 with ha1
    subst ha1
    rw [hv, hsz]
    exact ⟨v, by simp [Instr.loadAt, Instr.sureAddr, run_loadVar_scalar ht hc], hr⟩

theorem q_ldpA {t e : TypeId} {p : Operand} {u i off q size sz : Nat} {es : List (List AV)} {c : List AV} (ht : isAg P t = some true) (hsz : szOf P t = some sz) (hp : ev p = .ptr u i off)
    (hq : H[q]? = some (u, .arr e size es)) (hi : es[i]? = some c) (hle : off + sz ≤ c.length) (hz : 0 < sz) : QOp P ⟨d, .load t p, ty, pos, af, g⟩ ev H (.agg ((c.drop off).take sz)) :=
  qop_same (s := fun ρ => Instr.loadAt t (ρ p)) (fun ρ => rfl) fun C a ok hh he => by
    have h1 := he p (by simp [Op.operands])
    rw [hp] at h1
    obtain ⟨a0, ha, hv⟩ := rv_ptr h1
    have hs : (C.ph u).size = size := (hh.at hq).2.1
    have hall : ∀ j, j < sz → ∃ v, C.w.cell? ((a0.add (i * size + off)).add j) = some v ∧ RV C (c.getD (off + j) .any) v := fun j hj => by
      have hlt : off + j < c.length := by omega
      obtain ⟨a1, v, ha1, _, hc, hr⟩ := ob_cell (hh.at hq) hi (List.getElem?_eq_getElem hlt)
      rw [ha] at ha1
      injection ha1 with ha1
      subst ha1
      refine ⟨v, by rw [add_add, Nat.add_assoc]; exact hc, ?_⟩
      simp [List.getD_eq_getElem?_getD, List.getElem?_eq_getElem hlt]
      exact hr
    obtain ⟨f, hf⟩ : ∃ f : Nat → Value, ∀ j, j < sz → C.w.cell? ((a0.add (i * size + off)).add j) = some (f j) ∧ RV C (c.getD (off + j) .any) (f j) := by
      refine ⟨fun j => if h : j < sz then Classical.choose (hall j h) else undef, fun j hj => ?_⟩
      simp only [dif_pos hj]
      exact Classical.choose_spec (hall j hj)
    rw [hv, hs]
    refine ⟨_, by simp only [Instr.loadAt, Instr.sureAddr, Sem.run_bind, Sem.run_pure, Result.andThen_ok]; exact run_loadVar_agg ht hsz (fun j hj => (hf j hj).1), .agg (by simp; omega) fun j x hx => ?_⟩
    have hj : j < sz := by
      have := (List.getElem?_eq_some_iff.1 hx).1
      simp at this; omega
    rw [List.getElem?_take_of_lt hj, List.getElem?_drop] at hx
    have := (hf j hj).2
    rw [List.getD_eq_getElem?_getD, hx] at this
    simpa [hj] using this

theorem run_fieldAt {s : TypeId} {f k sz : Nat} {b : Bool} (hf : fldOf P s f = some (k, sz, b)) (hz : 0 < sz) (a : Addr) (w : World) : (Instr.fieldAt s (.pointer (some a)) f).run P w = .ok (.pointer (some (a.add k))) w := by
  unfold fldOf at hf
  cases hu : P.underlying s with
  | none => simp [hu] at hf
  | some dd =>
    cases dd <;> simp [hu] at hf
    rename_i fs
    cases hfd : fs[f]? with
    | none => simp [hfd] at hf
    | some fd =>
      cases hs : szOf P fd.type with
      | none => simp [hfd, hs] at hf
      | some s2 =>
        cases hb : isAg P fd.type with
        | none => simp [hfd, hs, hb] at hf
        | some b2 =>
          simp [hfd, hs, hb] at hf
          obtain ⟨rfl, rfl, rfl⟩ := hf
          have : ¬ s2 = 0 := by omega
          simp [Instr.fieldAt, run_under hu, hfd, Instr.sureAddr, fieldPlace, run_szOf hs, this]

theorem q_fa {s : TypeId} {p : Operand} {f k sz : Nat} {b : Bool} {cs : List AV} (hf : fldOf P s f = some (k, sz, b)) (hz : 0 < sz) (hp : ev p = .ip cs) : QOp P ⟨d, .fieldAddr s p f, ty, pos, af, g⟩ ev H (.ip (cs.drop k)) :=
  qop_same (s := fun ρ => Instr.fieldAt s (ρ p) f) (fun ρ => rfl) fun C a ok hh he => by
    have h1 := he p (by simp [Op.operands])
    rw [hp] at h1
    generalize a.eval p = v at h1
    cases h1 with
    | ip vs hcell hrv =>
      refine ⟨_, run_fieldAt hf hz _ C.w, .ip (fun j => vs (k + j)) (fun j x hx => ?_) (fun j x hx => ?_)⟩
      · rw [List.getElem?_drop] at hx
        obtain ⟨a1, ha1, hu, hc⟩ := hcell (k + j) x hx
        injection ha1 with ha1
        subst ha1
        exact ⟨_, rfl, by rw [add_block]; exact hu, by rw [add_add]; exact hc⟩
      · rw [List.getElem?_drop] at hx
        exact hrv (k + j) x hx
theorem q_fap {s : TypeId} {p : Operand} {f k sz u i off : Nat} {b : Bool} (hf : fldOf P s f = some (k, sz, b)) (hz : 0 < sz) (hp : ev p = .ptr u i off) : QOp P ⟨d, .fieldAddr s p f, ty, pos, af, g⟩ ev H (.ptr u i (off + k)) :=
  qop_same (s := fun ρ => Instr.fieldAt s (ρ p) f) (fun ρ => rfl) fun C a ok hh he => by
    have h1 := he p (by simp [Op.operands])
    rw [hp] at h1
    generalize a.eval p = v at h1
    cases h1 with
    | ptr hu ha =>
      refine ⟨_, run_fieldAt hf hz _ C.w, ?_⟩
      rw [add_add, Nat.add_assoc]
      exact .ptr hu ha

theorem q_fld1 {s : TypeId} {x : Operand} {f k sz : Nat} {cs : List AV} {r : AV} (hf : fldOf P s f = some (k, sz, false)) (hx : ev x = .agg cs) (hr : cs[k]? = some r) : QOp P ⟨d, .field s x f, ty, pos, af, g⟩ ev H r :=
  qop_same (s := fun ρ => Instr.field s (ρ x) f) (fun ρ => rfl) fun C a ok hh he => by
    have h1 := he x (by simp [Op.operands])
    rw [hx] at h1
    generalize a.eval x = v at h1
    cases h1 with
    | agg hs hrv =>
      rename_i vs
      unfold fldOf at hf
      cases hu : P.underlying s with
      | none => simp [hu] at hf
      | some dd =>
        cases dd <;> simp [hu] at hf
        rename_i fs
        cases hfd : fs[f]? with
        | none => simp [hfd] at hf
        | some fd =>
          cases hsz : szOf P fd.type with
          | none => simp [hfd, hsz] at hf
          | some s2 =>
            cases hb : isAg P fd.type with
            | none => simp [hfd, hsz, hb] at hf
            | some b2 =>
              simp [hfd, hsz, hb] at hf
              obtain ⟨h1, h2, h3⟩ := hf
              have hk : k < vs.size := by rw [hs]; exact (List.getElem?_eq_some_iff.1 hr).1
              refine ⟨vs[k], ?_, by simpa [hk] using hrv k r hr⟩
              simp [Instr.field, run_under hu, hfd, part, run_isAg hb, h3, asAgg, h1, hk]
theorem q_fldA {s : TypeId} {x : Operand} {f k sz : Nat} {cs : List AV} (hf : fldOf P s f = some (k, sz, true)) (hx : ev x = .agg cs) (hle : k + sz ≤ cs.length) : QOp P ⟨d, .field s x f, ty, pos, af, g⟩ ev H (.agg ((cs.drop k).take sz)) :=
  qop_same (s := fun ρ => Instr.field s (ρ x) f) (fun ρ => rfl) fun C a ok hh he => by
    have h1 := he x (by simp [Op.operands])
    rw [hx] at h1
    generalize a.eval x = v at h1
    cases h1 with
    | agg hs hrv =>
      rename_i vs
      unfold fldOf at hf
      cases hu : P.underlying s with
      | none => simp [hu] at hf
      | some dd =>
        cases dd <;> simp [hu] at hf
        rename_i fs
        cases hfd : fs[f]? with
        | none => simp [hfd] at hf
        | some fd =>
          cases hsz : szOf P fd.type with
          | none => simp [hfd, hsz] at hf
          | some s2 =>
            cases hb : isAg P fd.type with
            | none => simp [hfd, hsz, hb] at hf
            | some b2 =>
              simp [hfd, hsz, hb] at hf
              obtain ⟨h1, h2, h3⟩ := hf
              subst h1
              subst h2
              refine ⟨.agg (vs.extract fd.offset (fd.offset + s2)), ?_, .agg (by simp; omega) fun j y hy => ?_⟩
              · simp [Instr.field, run_under hu, hfd, part, run_isAg hb, h3, asAgg, run_szOf hsz]
              · have hj : j < s2 := by
                  have := (List.getElem?_eq_some_iff.1 hy).1
                  simp at this; omega
                rw [List.getElem?_take_of_lt hj, List.getElem?_drop] at hy
                have := hrv (fd.offset + j) y hy
                have h4 : fd.offset + j < vs.size := by omega
                have h5 : j < min (fd.offset + s2) vs.size - fd.offset := by omega
                simpa [h4, h5] using this

/-- A closure is made. -/
theorem getD_map_eval {C : Cx} {a : Act} {l : Array Operand} (h : ∀ x ∈ l, RV C (ev x) (a.eval x)) (j : Nat) (x : AV) (hx : (l.toList.map ev)[j]? = some x) : RV C x ((l.map a.eval).getD j undef) := by
  simp only [List.getElem?_map, Option.map_eq_some_iff] at hx
  obtain ⟨y, hy, rfl⟩ := hx
  have hj : j < l.size := by
    have := (List.getElem?_eq_some_iff.1 hy).1
    simpa using this
  have hy' : l[j] = y := by
    have := (List.getElem?_eq_some_iff.1 hy).2
    simpa using this
  have : (l.map a.eval).getD j undef = a.eval y := by simp [hj, hy']
  rw [this]
  exact h y (hy' ▸ Array.getElem_mem hj)
theorem q_func {fn : Fn} {first caps : Array Operand} : QOp P ⟨d, .makeFunc fn first caps, ty, pos, af, g⟩ ev H (.clo fn (first.toList.map ev) (caps.toList.map ev)) :=
  qop_same (s := fun ρ => Instr.makeFunc fn (first.map ρ) (caps.map ρ)) (fun ρ => rfl) fun C a ok hh he => ⟨_, rfl, .clo (by simp) (by simp)
    (fun j x hx => getD_map_eval (fun y hy => he y (by simp [Op.operands, hy])) j x hx)
    (fun j x hx => getD_map_eval (fun y hy => he y (by simp [Op.operands, hy])) j x hx)⟩
end

end Go.Proofs.YtdlinfekifnmkaaAm
